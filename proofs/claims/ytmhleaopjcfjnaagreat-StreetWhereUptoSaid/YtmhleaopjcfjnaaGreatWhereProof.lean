/-
  THE STATEMENT StreetWhereUptoSaid IS PROVED: for every input of bulk at most 1048576 the law StreetWhere returns true and leaves its arguments as they were. No other condition.
-/
import Derived.Test.YtmhleaopjcfjnaaGreatQ7
set_option linter.unusedVariables false
set_option linter.unusedSimpArgs false
set_option linter.unusedSectionVars false
namespace Go.Proofs.YtmhleaopjcfjnaaGreat.streetWhere
open Go Go.Abs Go.ChangeShapes Go.WideShapes Go.ChangeAt Go.RowKit
set_option maxRecDepth 100000
theorem contract (H : Type) (enc : TypeId × Value → H) (W : World) (base : Nat) (args : Array Value) (ds gs : List (DataW H)) (before : List MemPlace)
  (hval : ∀ (j : Nat) t v, Tryz.f15.params[j]? = some t → args[j]? = some v → Value.okWide Tryz.prog W .any base t v)
  (hW : DataW.Whole enc Tryz.prog Tryz.f15.params.toList Rows.streetWhereSpec.vars false W args.toList ds gs before) (hk : Rows.uptoSmall H (ds ++ gs) = true) :
  Calls Tryz.prog 15 args W fun e W' => ∃ v, e = .returned v ∧ Rows.streetWhereSpec.post enc Tryz.prog Tryz.f15 false true false false W args v W' := by
 have hW' := hW
 obtain ⟨p, q, hA0, hV, rfl, hfz, hnd⟩ := hW
 have hA : DataW.TrodAll enc Tryz.prog W 0 (fun _ => true) true Tryz.f15.params.toList args.toList ds p := hA0
 rw [Tryz.params15] at hA hval
 obtain ⟨v0, vs0, d0, ds0, p0, q0, hargs, rfl, rfl, h0, r0⟩ := trodAll_cons hA
 obtain ⟨v1, vs1, d1, ds1, p1, q1, rfl, rfl, rfl, h1, r1⟩ := trodAll_cons r0
 obtain ⟨v2, vs2, d2, ds2, p2, q2, rfl, rfl, rfl, h2, r2⟩ := trodAll_cons r1
 obtain ⟨v3, vs3, d3, ds3, p3, q3, rfl, rfl, rfl, h3, r3⟩ := trodAll_cons r2
 obtain ⟨rfl, rfl, rfl⟩ := trodAll_nil r3
 obtain rfl : args = #[v0, v1, v2, v3] := by cases args; simp_all
 obtain ⟨rfl, rfl⟩ := trodVars_none hV
 clear hA0
 simp only [List.append_nil] at hW' hk
 have hk1 : Rows.uptoBulkAll [d0, d1, d2, d3] ≤ 1048576 := of_decide_eq_true hk
 simp only [Rows.uptoBulkAll] at hk1
 obtain ⟨x0, y0, z0⟩ := zRQ (.inr ⟨base, hval 0 62 v0 rfl rfl⟩) h0 (by omega)
 obtain ⟨x1, y1, z1⟩ := zRO (.inr ⟨base, hval 1 57 v1 rfl rfl⟩) h1 (by omega)
 obtain ⟨x2, y2, z2⟩ := zRO (.inr ⟨base, hval 2 57 v2 rfl rfl⟩) h2 (by omega)
 obtain ⟨x3, y3, z3⟩ := zRP (.inr ⟨base, hval 3 29 v3 rfl rfl⟩) h3 (by omega)
 have hlt : ∀ x ∈ p0 ++ p1 ++ p2 ++ p3, x.block < W.heap.size := fun x hx => by simpa using hW'.lt x (by simpa using hx)
 refine (zRb (zRi x0 x1 x2 x3 z0 z1 z2 (by omega)) W #[v0, v1, v2, v3] rfl (fun i h h' => ?_)).mono ?_
 ·match i, h with
  | 0, _ => exact y0
  | 1, _ => exact y1
  | 2, _ => exact y2
  | 3, _ => exact y3
  | i + 4, h => exact absurd h (by show ¬ i + 4 < 4; omega)
 rintro e W' ⟨rfl, hb⟩
 exact ⟨_, rfl, _, _, _, [], _, [], hW', trodAll_mk1 (shut_bool Tryz.underlying4 true), trodAll_mk4 (Below.trod zRd (by kernel_rfl) (of_decide_eq_true (by kernel_rfl)) h0 hb (fun x hx => hlt x (by simp [hx]))) (Below.trod zRd (by kernel_rfl) (of_decide_eq_true (by kernel_rfl)) h1 hb (fun x hx => hlt x (by simp [hx]))) (Below.trod zRd (by kernel_rfl) (of_decide_eq_true (by kernel_rfl)) h2 hb (fun x hx => hlt x (by simp [hx]))) (Below.trod zRd (by kernel_rfl) (of_decide_eq_true (by kernel_rfl)) h3 hb (fun x hx => hlt x (by simp [hx]))), rfl, hb.frame _, fun h => by cases h⟩
theorem noInit : Tryz.checked.prog.inits.idxOf? 15 = none := by kernel_rfl
theorem wit (os : Os) (H : Type) (enc : TypeId × Value → H) : ∃ (w : World) (tape : Tape) (i : Input), w.os = os ∧ (w.forCall tape i).Shaped Tryz.checked.prog ∧ i.vars = [] ∧ Input.okWide Tryz.checked.prog (w.forCall tape i) .any w.heap.size 15 i ∧
  (Rows.OpenSpec.upto Rows.streetWhereSpec).pre6 enc Tryz.checked.prog Tryz.f15 Rows.streetWhereUptoRow.domain false (w.forCall tape i).memory i.args ∧ ({ modest := false } : Assume).holds Tryz.checked.prog (lone (Frame.enter Tryz.checked.prog 15 i.args .normal) [] (w.forCall tape i)) :=
 OpenSpec.witness (enc := enc) (C := Tryz.checked) (s := Rows.OpenSpec.upto Rows.streetWhereSpec) (k := Rows.uptoSmall) rfl false ⟨#[], #[.agg #[.slice none 0 0, .slice none 0 0, .slice none 0 0], .agg #[.int .i64 0, .int .i64 0, .int .i64 0], .agg #[.int .i64 0, .int .i64 0, .int .i64 0], .slice none 0 0], []⟩ 8 (by kernel_rfl) (by kernel_rfl) (by kernel_rfl)
  (x := ([.agg [.agg [.nil], .nil, .nil], .agg [.lit (.int .i64 0), .agg [.lit (.int .i64 0), .lit (.int .i64 0)]], .agg [.lit (.int .i64 0), .agg [.lit (.int .i64 0), .lit (.int .i64 0)]], .nil], [], [])) (by kernel_rfl) rfl (by kernel_rfl)
theorem lifted (os : Os) (started : os.Started) (H : Type) (enc : TypeId × Value → H) (F : Stop.Interp) :
  ReturnsInHanded {} Tryz.checked os 15 .any ((Rows.OpenSpec.upto Rows.streetWhereSpec).pre6 enc Tryz.prog Tryz.f15 Rows.streetWhereUptoRow.domain false) (((Rows.OpenSpec.upto Rows.streetWhereSpec).at F).post enc Tryz.prog Tryz.f15 false true false false) := by
 refine returnsInHanded_of_cond (C := Tryz.checked) (s := Rows.OpenSpec.upto Rows.streetWhereSpec) (k := Rows.uptoSmall) rfl zR5 started noInit Tryz.func15 (wit os H enc) ?_
 intro W base args ds gs before hval hW _ hk _
 exact contract H enc W base args ds gs before hval hW hk
theorem c10 : (Rows.streetWhereUptoRow.inPlace == Tryz.pinned.checked.prog.inPlace 15) = true := by kernel_rfl
theorem c11 : (Rows.streetWhereUptoRow.unfollowed == Tryz.pinned.checked.prog.unfollowed 15) = true := by kernel_rfl
theorem c12 : (Rows.streetWhereUptoRow.recurses == Tryz.pinned.checked.prog.recurses 15) = true := by kernel_rfl
theorem c13 : (Rows.streetWhereUptoRow.named == Tryz.pinned.checked.prog.varsNamed 15) = true := by kernel_rfl
theorem closed : joinedFacts Tryz.pinned.checked.prog 15 Tryz.f15 (Rows.OpenSpec.upto Rows.streetWhereSpec).bare Rows.streetWhereUptoRow = true := by
 unfold joinedFacts
 rw [c10, c11, c12, c13]
 simp only [Bool.and_true, Bool.and_eq_true]
 repeat' apply And.intro
 all_goals kernel_rfl
theorem named : Tryz.pinned.checked.prog.funcNamed Rows.streetWhereUptoRow.func = some 15 := by kernel_rfl
theorem inst : Tryz.f15.isInstance Tryz.pinned.checked.prog Rows.streetWhereUptoRow.origin Rows.streetWhereUptoRow.targs := of_decide_eq_true (by kernel_rfl)
theorem wrap : Tryz.f15.isWrapper Tryz.pinned.checked.prog Rows.streetWhereUptoRow.wrapper Rows.streetWhereUptoRow.mainSum := (by unfold Func.isWrapper; first | (rw [if_pos (by decide +kernel)]; kernel_rfl) | (rw [if_neg (by decide +kernel)]; exact ⟨rfl, rfl⟩))
theorem proved : Rows.StreetWhereUptoSaid :=
 OpenClaim.holds_of_cond 15 Tryz.f15 rfl rfl rfl rfl rfl rfl rfl ⟨rfl, rfl, rfl, rfl, rfl⟩ rfl rfl rfl rfl rfl named Tryz.func15 closed inst wrap (fun os started H enc _ F => lifted os started H enc F)
end Go.Proofs.YtmhleaopjcfjnaaGreat.streetWhere

