/-
  THE STATEMENT StreetKnownUptoSaid IS PROVED: for every input of bulk at most 1048576 the law StreetKnown returns true and leaves its arguments as they were. No other condition.
-/
import Derived.Test.YtcbpjojhfgadlaaGreatDoorTie
import Derived.Test.YtcbpjojhfgadlaaGreatDoorQZJZM10
set_option linter.unusedVariables false
set_option linter.unusedSimpArgs false
set_option linter.unusedSectionVars false
namespace Go.Proofs.YtcbpjojhfgadlaaGreatDoor.streetKnown
open Go Go.Abs Go.ChangeShapes Go.WideShapes Go.ChangeAt Go.RowKit
set_option maxRecDepth 100000

theorem contract (H : Type) (enc : TypeId × Value → H) (W : World) (base : Nat) (args : Array Value) (ds gs : List (DataW H)) (before : List MemPlace)
  (hval : ∀ (j : Nat) t v, Tryz.f5.params[j]? = some t → args[j]? = some v → Value.okWide Tryz.prog W .any base t v)
  (hW : DataW.Whole enc Tryz.prog Tryz.f5.params.toList Rows.streetKnownSpec.vars false W args.toList ds gs before) (hk : Rows.uptoSmall H (ds ++ gs) = true) (hL : laidMetH Tryz.prog zAK W) :
  Calls Tryz.prog 5 args W fun e W' => ∃ v, e = .returned v ∧ Rows.streetKnownSpec.post enc Tryz.prog Tryz.f5 false true false false W args v W' := by
 have hW' := hW
 obtain ⟨p, q, hA0, hV, rfl, hfz, hnd⟩ := hW
 have hA : DataW.TrodAll enc Tryz.prog W 0 (fun _ => true) true Tryz.f5.params.toList args.toList ds p := hA0
 rw [Tryz.params5] at hA hval
 obtain ⟨hargs, rfl, rfl⟩ := trodAll_nil hA
 obtain rfl : args = #[] := by cases args; simp_all
 obtain ⟨rfl, rfl⟩ := trodVars_none hV
 clear hA0
 simp only [List.append_nil] at hW' hk
 refine (zK2 (sp_StreetKnown  ) W #[] rfl (fun i h h' => ?_) (hlaid := zLs hL)).mono ?_
 ·exact absurd h (Nat.not_lt_zero i)
 rintro e W' ⟨rfl, hb⟩
 exact ⟨_, rfl, _, _, _, [], _, [], hW', trodAll_mk1 (shut_bool Tryz.underlying4 true), rfl , rfl, hb.frame _, fun h => by cases h⟩

theorem noInit : Tryz.checked.prog.inits.idxOf? 5 = none := by kernel_rfl
theorem wit (os : Os) {H : Type} (enc : TypeId × Value → H) : (Rows.OpenSpec.upto Rows.streetKnownSpec).preRow enc Tryz.prog Tryz.f5 Rows.streetKnownUptoRow.domain false Rows.streetKnownUptoRow.laid ((zGq os).forCall (fun _ _ => 0) ⟨#[], #[], []⟩).memory #[] := by
 have hw : (DataW.whole enc Tryz.prog ((zGq os).forCall (fun _ _ => 0) ⟨#[], #[], []⟩).memory Tryz.f5.params.toList Rows.streetKnownSpec.vars false (#[] : Array Value).toList 8).map (fun x => (x.1, x.2.1)) = some ([], []) := by kernel_rfl
 obtain ⟨⟨x1, x2, x3⟩, hx, hx1⟩ := Option.map_eq_some_iff.1 hw
 simp only [Prod.mk.injEq] at hx1
 obtain ⟨rfl, rfl⟩ := hx1
 exact OpenSpec.preRow_of_cond 8 hx (by kernel_rfl) (fun k hk => by cases hk; kernel_rfl) (by kernel_rfl) (zLu os _)

theorem lifted (os : Os) (started : os.Started) (H : Type) (enc : TypeId × Value → H) (F : Stop.Interp) :
  ReturnsInHanded {} Tryz.checked os 5 .any ((Rows.OpenSpec.upto Rows.streetKnownSpec).preRow enc Tryz.prog Tryz.f5 Rows.streetKnownUptoRow.domain false Rows.streetKnownUptoRow.laid) (((Rows.OpenSpec.upto Rows.streetKnownSpec).at F).post enc Tryz.prog Tryz.f5 false true false false) := by
 refine returnsInHanded_of_row (C := Tryz.checked) (s := Rows.OpenSpec.upto Rows.streetKnownSpec) zOu started noInit Tryz.func5
  (witness_row_atRef (enc := enc) (C := Tryz.checked) false (zGq os) #[] rfl (by kernel_rfl) (by kernel_rfl) (by kernel_rfl) (wit os enc)) ?_
 intro W base args ds gs before hval hW _ hcond _ hL _ _
 exact contract H enc W base args ds gs before hval hW (hcond _ rfl) hL

theorem c10 : (Rows.streetKnownUptoRow.inPlace == Tryz.pinned.checked.prog.inPlace 5) = true := by kernel_rfl
theorem c11 : (Rows.streetKnownUptoRow.unfollowed == Tryz.pinned.checked.prog.unfollowed 5) = true := by kernel_rfl
theorem c12 : (Rows.streetKnownUptoRow.recurses == Tryz.pinned.checked.prog.recurses 5) = true := by kernel_rfl
theorem c13 : (Rows.streetKnownUptoRow.named == Tryz.pinned.checked.prog.varsNamed 5) = true := by kernel_rfl
theorem k0 : Rows.streetKnownUptoRow.wf (OpenSpec.ofChange (Rows.OpenSpec.upto Rows.streetKnownSpec).bare) = true := by kernel_rfl
theorem k1 : Tryz.f5.params.all (Tryz.pinned.checked.prog.readableRec ·) = true := by kernel_rfl
theorem k2 : namedTie Tryz.pinned.checked.prog Rows.streetKnownUptoRow.named (Rows.OpenSpec.upto Rows.streetKnownSpec).bare.vars = true := by kernel_rfl
theorem k3 : (Rows.streetKnownUptoRow.maps == (Tryz.f5.params.toList ++ DataSpec.varTypes Tryz.pinned.checked.prog (Rows.OpenSpec.upto Rows.streetKnownSpec).bare.plain).any (Tryz.pinned.checked.prog.mapsRec ·)) = true := by kernel_rfl
theorem k4 : (Rows.streetKnownUptoRow.ifaces == (Tryz.f5.params.toList ++ DataSpec.varTypes Tryz.pinned.checked.prog (Rows.OpenSpec.upto Rows.streetKnownSpec).bare.plain).any (Tryz.pinned.checked.prog.ifacesRec ·)) = true := by kernel_rfl
theorem k5 : (Rows.streetKnownUptoRow.mapsOut == Tryz.pinned.checked.prog.mapsAmong Tryz.f5.resultTypes.toList) = true := by kernel_rfl
theorem k6 : (Rows.streetKnownUptoRow.loops == (Tryz.f5.params.toList ++ DataSpec.varTypes Tryz.pinned.checked.prog (Rows.OpenSpec.upto Rows.streetKnownSpec).bare.plain).any (Tryz.pinned.checked.prog.loopsFrom ·)) = true := by kernel_rfl
theorem k7 : (Rows.streetKnownUptoRow.wideKeys == (Tryz.f5.params.toList ++ DataSpec.varTypes Tryz.pinned.checked.prog (Rows.OpenSpec.upto Rows.streetKnownSpec).bare.plain ++ Tryz.f5.resultTypes.toList).any (Tryz.pinned.checked.prog.wideKeysFrom ·)) = true := by kernel_rfl
theorem k8 : Tryz.f5.resultTypes.all (fun t => Tryz.pinned.checked.prog.readableRec t && decide (t < Tryz.pinned.checked.prog.types.size)) = true := by kernel_rfl
theorem k9 : (Rows.streetKnownUptoRow.ifacesOut == Tryz.f5.resultTypes.toList.any (Tryz.pinned.checked.prog.ifacesRec ·)) = true := by kernel_rfl
theorem k10 : (Rows.streetKnownUptoRow.loopsOut == Tryz.f5.resultTypes.toList.any (Tryz.pinned.checked.prog.loopsFrom ·)) = true := by kernel_rfl
theorem k11 : (Rows.streetKnownUptoRow.plainKeys == Tryz.pinned.checked.prog.plainKeys) = true := by kernel_rfl
theorem k12 : (Rows.streetKnownUptoRow.lifted == Tryz.pinned.checked.prog.liftsFinal) = true := by kernel_rfl
theorem k13 : (Tryz.pinned.checked.prog.make == some Rows.streetKnownUptoRow.make) = true := by kernel_rfl
theorem k14 : (Rows.streetKnownUptoRow.veiled == (Tryz.f5.params.toList ++ DataSpec.varTypes Tryz.pinned.checked.prog (Rows.OpenSpec.upto Rows.streetKnownSpec).bare.plain ++ Tryz.f5.resultTypes.toList).any (Tryz.pinned.checked.prog.veiledRec ·)) = true := by kernel_rfl
theorem k15 : Rows.streetKnownUptoRow.veiledFits Tryz.pinned.checked.prog Tryz.f5.params.toList (Tryz.f5.params.toList ++ DataSpec.varTypes Tryz.pinned.checked.prog (Rows.OpenSpec.upto Rows.streetKnownSpec).bare.plain ++ Tryz.f5.resultTypes.toList) = true := by kernel_rfl
theorem closed : joinedFacts Tryz.pinned.checked.prog 5 Tryz.f5 (Rows.OpenSpec.upto Rows.streetKnownSpec).bare Rows.streetKnownUptoRow = true := by
 unfold joinedFacts
 rw [c10, c11, c12, c13]
 simp only [Bool.and_true, Bool.and_eq_true]
 repeat' apply And.intro
 all_goals with_reducible first | exact zMj | exact zMl | exact zMm | exact zMi | exact zMh | exact zMg | exact k0 | exact k1 | exact k2 | exact k3 | exact k4 | exact k5 | exact k6 | exact k7 | exact k8 | exact k9 | exact k10 | exact k11 | exact k12 | exact k13 | exact k14 | exact k15 | kernel_rfl
theorem named : Tryz.pinned.checked.prog.funcNamed Rows.streetKnownUptoRow.func = some 5 := by kernel_rfl
theorem inst : Tryz.f5.isInstance Tryz.pinned.checked.prog Rows.streetKnownUptoRow.origin Rows.streetKnownUptoRow.targs := of_decide_eq_true (by kernel_rfl)
theorem wrap : Tryz.f5.isWrapper Tryz.pinned.checked.prog Rows.streetKnownUptoRow.wrapper Rows.streetKnownUptoRow.mainSum := (by unfold Func.isWrapper; first | (rw [if_pos (by decide +kernel)]; kernel_rfl) | (rw [if_neg (by decide +kernel)]; exact ⟨rfl, rfl⟩))

theorem said : Rows.StreetKnownUptoSaid :=
 OpenClaim.holds_of_cond 5 Tryz.f5 rfl rfl rfl rfl rfl rfl rfl ⟨rfl, rfl, rfl, rfl, rfl⟩ rfl rfl rfl rfl rfl named Tryz.func5 closed inst wrap (fun os started H enc _ F => by rw [OpenClaim.pre_eq_preRow]; exact lifted os started H enc F)
theorem wants : (#[] : Array Nat).all (fun t => !Tryz.prog.wantsStandIn t) = true := by kernel_rfl
theorem plain (f : FuncId) (fn : Func) (hf : Tryz.pinned.checked.prog.funcNamed Rows.streetKnownUptoRow.func = some f) (hfn : Tryz.pinned.checked.prog.funcs[f]? = some fn) :
  true = Tryz.pinned.checked.prog.looks [] ∧ ∀ (j : Nat) t, fn.params[j]? = some t → Tryz.pinned.checked.prog.wantsStandIn t = false := by
 obtain rfl : f = 5 := Option.some.inj (named.symm.trans hf) |>.symm
 obtain rfl : fn = Tryz.f5 := (Option.some.inj (Tryz.func5.symm.trans hfn)).symm
 refine ⟨zMk, fun j t ht => ?_⟩
 rw [Tryz.params5] at ht
 have h := Array.all_eq_true_iff_forall_mem.1 wants t (Array.mem_of_getElem? ht)
 have h2 : Tryz.prog.wantsStandIn t = false := by simpa using h
 exact h2
theorem wfT : Rows.streetKnownUptoRow.wfByText (Rows.OpenSpec.upto Rows.streetKnownSpec) = true := by kernel_rfl
theorem goes : false = Rows.streetKnownUptoRow.goesBy Tryz.pinned.checked.prog := by kernel_rfl
theorem mainIs : Tryz.pinned.checked.prog.mainIs = some (Rows.streetKnownUptoCard.stood.harness.1, Rows.streetKnownUptoCard.stood.harness.2.toList) := by kernel_rfl
theorem proved : Rows.StreetKnownUptoCardSaid :=
 Claim7.holds_tied_plain_at .later [] _ _ _ _ said (fun _ h => by cases h) wfT (fun _ h => by cases h) streetKnownUpto_row_tie rfl ⟨rfl, rfl⟩ mainIs rfl plain goes
end Go.Proofs.YtcbpjojhfgadlaaGreatDoor.streetKnown

