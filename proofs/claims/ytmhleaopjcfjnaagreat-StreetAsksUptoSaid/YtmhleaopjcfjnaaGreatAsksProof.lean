/-
  THE STATEMENT StreetAsksUptoSaid IS PROVED: for every input of bulk at most 1048576 the law StreetAsks returns true and leaves its arguments as they were. No other condition.
-/
import Derived.Test.YtmhleaopjcfjnaaGreatQ7
set_option linter.unusedVariables false
set_option linter.unusedSimpArgs false
set_option linter.unusedSectionVars false
namespace Go.Proofs.YtmhleaopjcfjnaaGreat.streetAsks
open Go Go.Abs Go.ChangeShapes Go.WideShapes Go.ChangeAt Go.RowKit
set_option maxRecDepth 100000
theorem contract (H : Type) (enc : TypeId × Value → H) (W : World) (base : Nat) (args : Array Value) (ds gs : List (DataW H)) (before : List MemPlace)
  (hval : ∀ (j : Nat) t v, Tryz.f18.params[j]? = some t → args[j]? = some v → Value.okWide Tryz.prog W .any base t v)
  (hW : DataW.Whole enc Tryz.prog Tryz.f18.params.toList Rows.streetAsksSpec.vars false W args.toList ds gs before) (hk : Rows.uptoSmall H (ds ++ gs) = true) :
  Calls Tryz.prog 18 args W fun e W' => ∃ v, e = .returned v ∧ Rows.streetAsksSpec.post enc Tryz.prog Tryz.f18 false true false false W args v W' := by
 have hW' := hW
 obtain ⟨p, q, hA0, hV, rfl, hfz, hnd⟩ := hW
 have hA : DataW.TrodAll enc Tryz.prog W 0 (fun _ => true) true Tryz.f18.params.toList args.toList ds p := hA0
 rw [Tryz.params18] at hA hval
 obtain ⟨v0, vs0, d0, ds0, p0, q0, hargs, rfl, rfl, h0, r0⟩ := trodAll_cons hA
 obtain ⟨v1, vs1, d1, ds1, p1, q1, rfl, rfl, rfl, h1, r1⟩ := trodAll_cons r0
 obtain ⟨rfl, rfl, rfl⟩ := trodAll_nil r1
 obtain rfl : args = #[v0, v1] := by cases args; simp_all
 obtain ⟨rfl, rfl⟩ := trodVars_none hV
 clear hA0
 simp only [List.append_nil] at hW' hk
 have hk1 : Rows.uptoBulkAll [d0, d1] ≤ 1048576 := of_decide_eq_true hk
 simp only [Rows.uptoBulkAll] at hk1
 obtain ⟨x0, y0, z0⟩ := zRQ (.inr ⟨base, hval 0 62 v0 rfl rfl⟩) h0 (by omega)
 obtain ⟨x1, y1, z1⟩ := zRP (.inr ⟨base, hval 1 29 v1 rfl rfl⟩) h1 (by omega)
 have hlt : ∀ x ∈ p0 ++ p1, x.block < W.heap.size := fun x hx => by simpa using hW'.lt x (by simpa using hx)
 refine (zRb (zRe x0 x1 z0 (by omega)) W #[v0, v1] rfl (fun i h h' => ?_)).mono ?_
 ·match i, h with
  | 0, _ => exact y0
  | 1, _ => exact y1
  | i + 2, h => exact absurd h (by show ¬ i + 2 < 2; omega)
 rintro e W' ⟨rfl, hb⟩
 exact ⟨_, rfl, _, _, _, [], _, [], hW', trodAll_mk1 (shut_bool Tryz.underlying4 true), trodAll_mk2 (Below.trod zRd (by kernel_rfl) (of_decide_eq_true (by kernel_rfl)) h0 hb (fun x hx => hlt x (by simp [hx]))) (Below.trod zRd (by kernel_rfl) (of_decide_eq_true (by kernel_rfl)) h1 hb (fun x hx => hlt x (by simp [hx]))), rfl, hb.frame _, fun h => by cases h⟩
theorem noInit : Tryz.checked.prog.inits.idxOf? 18 = none := by kernel_rfl
theorem wit (os : Os) (H : Type) (enc : TypeId × Value → H) : ∃ (w : World) (tape : Tape) (i : Input), w.os = os ∧ (w.forCall tape i).Shaped Tryz.checked.prog ∧ i.vars = [] ∧ Input.okWide Tryz.checked.prog (w.forCall tape i) .any w.heap.size 18 i ∧
  (Rows.OpenSpec.upto Rows.streetAsksSpec).pre6 enc Tryz.checked.prog Tryz.f18 Rows.streetAsksUptoRow.domain false (w.forCall tape i).memory i.args ∧ ({ modest := false } : Assume).holds Tryz.checked.prog (lone (Frame.enter Tryz.checked.prog 18 i.args .normal) [] (w.forCall tape i)) :=
 OpenSpec.witness (enc := enc) (C := Tryz.checked) (s := Rows.OpenSpec.upto Rows.streetAsksSpec) (k := Rows.uptoSmall) rfl false ⟨#[], #[.agg #[.slice none 0 0, .slice none 0 0, .slice none 0 0], .slice none 0 0], []⟩ 8 (by kernel_rfl) (by kernel_rfl) (by kernel_rfl)
  (x := ([.agg [.agg [.nil], .nil, .nil], .nil], [], [])) (by kernel_rfl) rfl (by kernel_rfl)
theorem lifted (os : Os) (started : os.Started) (H : Type) (enc : TypeId × Value → H) (F : Stop.Interp) :
  ReturnsInHanded {} Tryz.checked os 18 .any ((Rows.OpenSpec.upto Rows.streetAsksSpec).pre6 enc Tryz.prog Tryz.f18 Rows.streetAsksUptoRow.domain false) (((Rows.OpenSpec.upto Rows.streetAsksSpec).at F).post enc Tryz.prog Tryz.f18 false true false false) := by
 refine returnsInHanded_of_cond (C := Tryz.checked) (s := Rows.OpenSpec.upto Rows.streetAsksSpec) (k := Rows.uptoSmall) rfl zR5 started noInit Tryz.func18 (wit os H enc) ?_
 intro W base args ds gs before hval hW _ hk _
 exact contract H enc W base args ds gs before hval hW hk
theorem c10 : (Rows.streetAsksUptoRow.inPlace == Tryz.pinned.checked.prog.inPlace 18) = true := by kernel_rfl
theorem c11 : (Rows.streetAsksUptoRow.unfollowed == Tryz.pinned.checked.prog.unfollowed 18) = true := by kernel_rfl
theorem c12 : (Rows.streetAsksUptoRow.recurses == Tryz.pinned.checked.prog.recurses 18) = true := by kernel_rfl
theorem c13 : (Rows.streetAsksUptoRow.named == Tryz.pinned.checked.prog.varsNamed 18) = true := by kernel_rfl
theorem closed : joinedFacts Tryz.pinned.checked.prog 18 Tryz.f18 (Rows.OpenSpec.upto Rows.streetAsksSpec).bare Rows.streetAsksUptoRow = true := by
 unfold joinedFacts
 rw [c10, c11, c12, c13]
 simp only [Bool.and_true, Bool.and_eq_true]
 repeat' apply And.intro
 all_goals kernel_rfl
theorem named : Tryz.pinned.checked.prog.funcNamed Rows.streetAsksUptoRow.func = some 18 := by kernel_rfl
theorem inst : Tryz.f18.isInstance Tryz.pinned.checked.prog Rows.streetAsksUptoRow.origin Rows.streetAsksUptoRow.targs := of_decide_eq_true (by kernel_rfl)
theorem wrap : Tryz.f18.isWrapper Tryz.pinned.checked.prog Rows.streetAsksUptoRow.wrapper Rows.streetAsksUptoRow.mainSum := (by unfold Func.isWrapper; first | (rw [if_pos (by decide +kernel)]; kernel_rfl) | (rw [if_neg (by decide +kernel)]; exact ⟨rfl, rfl⟩))
theorem proved : Rows.StreetAsksUptoSaid :=
 OpenClaim.holds_of_cond 18 Tryz.f18 rfl rfl rfl rfl rfl rfl rfl ⟨rfl, rfl, rfl, rfl, rfl⟩ rfl rfl rfl rfl rfl named Tryz.func18 closed inst wrap (fun os started H enc _ F => lifted os started H enc F)
end Go.Proofs.YtmhleaopjcfjnaaGreat.streetAsks

