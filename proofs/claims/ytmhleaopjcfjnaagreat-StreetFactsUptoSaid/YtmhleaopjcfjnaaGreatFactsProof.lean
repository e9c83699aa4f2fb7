/-
  THE STATEMENT StreetFactsUptoSaid IS PROVED: for every input of bulk at most 1048576 the law StreetFacts returns true and leaves its arguments as they were. No other condition.
-/
import Derived.Test.YtmhleaopjcfjnaaGreatQ6
set_option linter.unusedVariables false
set_option linter.unusedSimpArgs false
set_option linter.unusedSectionVars false
namespace Go.Proofs.YtmhleaopjcfjnaaGreat.streetFacts
open Go Go.Abs Go.ChangeShapes Go.WideShapes Go.ChangeAt Go.RowKit
set_option maxRecDepth 100000
theorem contract (H : Type) (enc : TypeId × Value → H) (W : World) (base : Nat) (args : Array Value) (ds gs : List (DataW H)) (before : List MemPlace)
  (hval : ∀ (j : Nat) t v, Tryz.f13.params[j]? = some t → args[j]? = some v → Value.okWide Tryz.prog W .any base t v)
  (hW : DataW.Whole enc Tryz.prog Tryz.f13.params.toList Rows.streetFactsSpec.vars false W args.toList ds gs before) (hk : Rows.uptoSmall H (ds ++ gs) = true) :
  Calls Tryz.prog 13 args W fun e W' => ∃ v, e = .returned v ∧ Rows.streetFactsSpec.post enc Tryz.prog Tryz.f13 false true false false W args v W' := by
 have hW' := hW
 obtain ⟨p, q, hA0, hV, rfl, hfz, hnd⟩ := hW
 have hA : DataW.TrodAll enc Tryz.prog W 0 (fun _ => true) true Tryz.f13.params.toList args.toList ds p := hA0
 rw [Tryz.params13] at hA hval
 obtain ⟨v0, vs0, d0, ds0, p0, q0, hargs, rfl, rfl, h0, r0⟩ := trodAll_cons hA
 obtain ⟨rfl, rfl, rfl⟩ := trodAll_nil r0
 obtain rfl : args = #[v0] := by cases args; simp_all
 obtain ⟨rfl, rfl⟩ := trodVars_none hV
 clear hA0
 simp only [List.append_nil] at hW' hk
 have hk1 : Rows.uptoBulkAll [d0] ≤ 1048576 := of_decide_eq_true hk
 simp only [Rows.uptoBulkAll] at hk1
 obtain ⟨x0, y0, z0⟩ := zRb (.inr ⟨base, hval 0 29 v0 rfl rfl⟩) h0 (by omega)
 have hlt : ∀ x ∈ p0, x.block < W.heap.size := fun x hx => by simpa using hW'.lt x (by simpa using hx)
 refine (zRn (zRs x0 (by omega)) W #[v0] rfl (fun i h h' => ?_)).mono ?_
 ·match i, h with
  | 0, _ => exact y0
  | i + 1, h => exact absurd h (by show ¬ i + 1 < 1; omega)
 rintro e W' ⟨rfl, hb⟩
 exact ⟨_, rfl, _, _, _, [], _, [], hW', trodAll_mk1 (shut_bool Tryz.underlying4 true), trodAll_mk1 (Below.trod zRp (by kernel_rfl) (of_decide_eq_true (by kernel_rfl)) h0 hb (fun x hx => hlt x (by simp [hx]))), rfl, hb.frame _, fun h => by cases h⟩
theorem noInit : Tryz.checked.prog.inits.idxOf? 13 = none := by kernel_rfl
theorem wit (os : Os) (H : Type) (enc : TypeId × Value → H) : ∃ (w : World) (tape : Tape) (i : Input), w.os = os ∧ (w.forCall tape i).Shaped Tryz.checked.prog ∧ i.vars = [] ∧ Input.okWide Tryz.checked.prog (w.forCall tape i) .any w.heap.size 13 i ∧
  (Rows.OpenSpec.upto Rows.streetFactsSpec).pre6 enc Tryz.checked.prog Tryz.f13 Rows.streetFactsUptoRow.domain false (w.forCall tape i).memory i.args ∧ ({ modest := false } : Assume).holds Tryz.checked.prog (lone (Frame.enter Tryz.checked.prog 13 i.args .normal) [] (w.forCall tape i)) :=
 OpenSpec.witness (enc := enc) (C := Tryz.checked) (s := Rows.OpenSpec.upto Rows.streetFactsSpec) (k := Rows.uptoSmall) rfl false ⟨#[], #[.slice none 0 0], []⟩ 8 (by kernel_rfl) (by kernel_rfl) (by kernel_rfl)
  (x := ([.nil], [], [])) (by kernel_rfl) rfl (by kernel_rfl)
theorem lifted (os : Os) (started : os.Started) (H : Type) (enc : TypeId × Value → H) (F : Stop.Interp) :
  ReturnsInHanded {} Tryz.checked os 13 .any ((Rows.OpenSpec.upto Rows.streetFactsSpec).pre6 enc Tryz.prog Tryz.f13 Rows.streetFactsUptoRow.domain false) (((Rows.OpenSpec.upto Rows.streetFactsSpec).at F).post enc Tryz.prog Tryz.f13 false true false false) := by
 refine returnsInHanded_of_cond (C := Tryz.checked) (s := Rows.OpenSpec.upto Rows.streetFactsSpec) (k := Rows.uptoSmall) rfl zSI started noInit Tryz.func13 (wit os H enc) ?_
 intro W base args ds gs before hval hW _ hk _
 exact contract H enc W base args ds gs before hval hW hk
theorem c10 : (Rows.streetFactsUptoRow.inPlace == Tryz.pinned.checked.prog.inPlace 13) = true := by kernel_rfl
theorem c11 : (Rows.streetFactsUptoRow.unfollowed == Tryz.pinned.checked.prog.unfollowed 13) = true := by kernel_rfl
theorem c12 : (Rows.streetFactsUptoRow.recurses == Tryz.pinned.checked.prog.recurses 13) = true := by kernel_rfl
theorem c13 : (Rows.streetFactsUptoRow.named == Tryz.pinned.checked.prog.varsNamed 13) = true := by kernel_rfl
theorem closed : joinedFacts Tryz.pinned.checked.prog 13 Tryz.f13 (Rows.OpenSpec.upto Rows.streetFactsSpec).bare Rows.streetFactsUptoRow = true := by
 unfold joinedFacts
 rw [c10, c11, c12, c13]
 simp only [Bool.and_true, Bool.and_eq_true]
 repeat' apply And.intro
 all_goals kernel_rfl
theorem named : Tryz.pinned.checked.prog.funcNamed Rows.streetFactsUptoRow.func = some 13 := by kernel_rfl
theorem inst : Tryz.f13.isInstance Tryz.pinned.checked.prog Rows.streetFactsUptoRow.origin Rows.streetFactsUptoRow.targs := of_decide_eq_true (by kernel_rfl)
theorem wrap : Tryz.f13.isWrapper Tryz.pinned.checked.prog Rows.streetFactsUptoRow.wrapper Rows.streetFactsUptoRow.mainSum := (by unfold Func.isWrapper; first | (rw [if_pos (by decide +kernel)]; kernel_rfl) | (rw [if_neg (by decide +kernel)]; exact ⟨rfl, rfl⟩))
theorem proved : Rows.StreetFactsUptoSaid :=
 OpenClaim.holds_of_cond 13 Tryz.f13 rfl rfl rfl rfl rfl rfl rfl ⟨rfl, rfl, rfl, rfl, rfl⟩ rfl rfl rfl rfl rfl named Tryz.func13 closed inst wrap (fun os started H enc _ F => lifted os started H enc F)
end Go.Proofs.YtmhleaopjcfjnaaGreat.streetFacts

