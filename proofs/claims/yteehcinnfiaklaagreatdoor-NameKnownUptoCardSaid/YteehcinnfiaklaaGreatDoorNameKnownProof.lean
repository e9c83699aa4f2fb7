/-
  THE STATEMENT NameKnownUptoSaid IS PROVED: for every input of bulk at most 1048576 the law NameKnown returns true and leaves its arguments as they were. No other condition.
-/
import Derived.Test.YteehcinnfiaklaaGreatDoorTie
import Derived.Test.YteehcinnfiaklaaGreatDoorQEZI6
set_option linter.unusedVariables false
set_option linter.unusedSimpArgs false
set_option linter.unusedSectionVars false
namespace Go.Proofs.YteehcinnfiaklaaGreatDoor.nameKnown
open Go Go.Abs Go.ChangeShapes Go.WideShapes Go.ChangeAt Go.RowKit
set_option maxRecDepth 100000

theorem contract (H : Type) (enc : TypeId × Value → H) (W : World) (base : Nat) (args : Array Value) (ds gs : List (DataW H)) (before : List MemPlace)
  (hval : ∀ (j : Nat) t v, Tryz.f20.params[j]? = some t → args[j]? = some v → Value.okWide Tryz.prog W .any base t v)
  (hW : DataW.Whole enc Tryz.prog Tryz.f20.params.toList Rows.nameKnownSpec.vars false W args.toList ds gs before) (hk : Rows.uptoSmall H (ds ++ gs) = true) (hL : laidMetH Tryz.prog A5 W) :
  Calls Tryz.prog 20 args W fun e W' => ∃ v, e = .returned v ∧ Rows.nameKnownSpec.post enc Tryz.prog Tryz.f20 false true false false W args v W' := by
 have hW' := hW
 obtain ⟨p, q, hA0, hV, rfl, hfz, hnd⟩ := hW
 have hA : DataW.TrodAll enc Tryz.prog W 0 (fun _ => true) true Tryz.f20.params.toList args.toList ds p := hA0
 rw [Tryz.params20] at hA hval
 obtain ⟨hargs, rfl, rfl⟩ := trodAll_nil hA
 obtain rfl : args = #[] := by cases args; simp_all
 obtain ⟨rfl, rfl⟩ := trodVars_none hV
 clear hA0
 simp only [List.append_nil] at hW' hk
 refine (zKP (sp_NameKnown  ) W #[] rfl (fun i h h' => ?_) (hlaid := zLJ hL)).mono ?_
 ·exact absurd h (Nat.not_lt_zero i)
 rintro e W' ⟨rfl, hb⟩
 exact ⟨_, rfl, _, _, _, [], _, [], hW', trodAll_mk1 (shut_bool Tryz.underlying4 true), rfl , rfl, hb.frame _, fun h => by cases h⟩

theorem noInit : Tryz.checked.prog.inits.idxOf? 20 = none := by kernel_rfl
theorem wit (os : Os) {H : Type} (enc : TypeId × Value → H) : (Rows.OpenSpec.upto Rows.nameKnownSpec).preRow enc Tryz.prog Tryz.f20 Rows.nameKnownUptoRow.domain false Rows.nameKnownUptoRow.laid ((zGK os).forCall (fun _ _ => 0) ⟨#[], #[], []⟩).memory #[] := by
 have hw : (DataW.whole enc Tryz.prog ((zGK os).forCall (fun _ _ => 0) ⟨#[], #[], []⟩).memory Tryz.f20.params.toList Rows.nameKnownSpec.vars false (#[] : Array Value).toList 8).map (fun x => (x.1, x.2.1)) = some ([], []) := by kernel_rfl
 obtain ⟨⟨x1, x2, x3⟩, hx, hx1⟩ := Option.map_eq_some_iff.1 hw
 simp only [Prod.mk.injEq] at hx1
 obtain ⟨rfl, rfl⟩ := hx1
 exact OpenSpec.preRow_of_cond 8 hx (by kernel_rfl) (fun k hk => by cases hk; kernel_rfl) (by kernel_rfl) (zLL os _)

theorem lifted (os : Os) (started : os.Started) (H : Type) (enc : TypeId × Value → H) (F : Stop.Interp) :
  ReturnsInHanded {} Tryz.checked os 20 .any ((Rows.OpenSpec.upto Rows.nameKnownSpec).preRow enc Tryz.prog Tryz.f20 Rows.nameKnownUptoRow.domain false Rows.nameKnownUptoRow.laid) (((Rows.OpenSpec.upto Rows.nameKnownSpec).at F).post enc Tryz.prog Tryz.f20 false true false false) := by
 refine returnsInHanded_of_row (C := Tryz.checked) (s := Rows.OpenSpec.upto Rows.nameKnownSpec) zOl started noInit Tryz.func20
  (witness_row_atRef (enc := enc) (C := Tryz.checked) false (zGK os) #[] rfl (by kernel_rfl) (by kernel_rfl) (by kernel_rfl) (wit os enc)) ?_
 intro W base args ds gs before hval hW _ hcond _ hL _ _
 exact contract H enc W base args ds gs before hval hW (hcond _ rfl) hL

theorem c10 : (Rows.nameKnownUptoRow.inPlace == Tryz.pinned.checked.prog.inPlace 20) = true := by kernel_rfl
theorem c11 : (Rows.nameKnownUptoRow.unfollowed == Tryz.pinned.checked.prog.unfollowed 20) = true := by kernel_rfl
theorem c12 : (Rows.nameKnownUptoRow.recurses == Tryz.pinned.checked.prog.recurses 20) = true := by kernel_rfl
theorem c13 : (Rows.nameKnownUptoRow.named == Tryz.pinned.checked.prog.varsNamed 20) = true := by kernel_rfl
theorem k0 : Rows.nameKnownUptoRow.wf (OpenSpec.ofChange (Rows.OpenSpec.upto Rows.nameKnownSpec).bare) = true := by kernel_rfl
theorem k1 : Tryz.f20.params.all (Tryz.pinned.checked.prog.readableRec ·) = true := by kernel_rfl
theorem k2 : namedTie Tryz.pinned.checked.prog Rows.nameKnownUptoRow.named (Rows.OpenSpec.upto Rows.nameKnownSpec).bare.vars = true := by kernel_rfl
theorem k3 : (Rows.nameKnownUptoRow.maps == (Tryz.f20.params.toList ++ DataSpec.varTypes Tryz.pinned.checked.prog (Rows.OpenSpec.upto Rows.nameKnownSpec).bare.plain).any (Tryz.pinned.checked.prog.mapsRec ·)) = true := by kernel_rfl
theorem k4 : (Rows.nameKnownUptoRow.ifaces == (Tryz.f20.params.toList ++ DataSpec.varTypes Tryz.pinned.checked.prog (Rows.OpenSpec.upto Rows.nameKnownSpec).bare.plain).any (Tryz.pinned.checked.prog.ifacesRec ·)) = true := by kernel_rfl
theorem k5 : (Rows.nameKnownUptoRow.mapsOut == Tryz.pinned.checked.prog.mapsAmong Tryz.f20.resultTypes.toList) = true := by kernel_rfl
theorem k6 : (Rows.nameKnownUptoRow.loops == (Tryz.f20.params.toList ++ DataSpec.varTypes Tryz.pinned.checked.prog (Rows.OpenSpec.upto Rows.nameKnownSpec).bare.plain).any (Tryz.pinned.checked.prog.loopsFrom ·)) = true := by kernel_rfl
theorem k7 : (Rows.nameKnownUptoRow.wideKeys == (Tryz.f20.params.toList ++ DataSpec.varTypes Tryz.pinned.checked.prog (Rows.OpenSpec.upto Rows.nameKnownSpec).bare.plain ++ Tryz.f20.resultTypes.toList).any (Tryz.pinned.checked.prog.wideKeysFrom ·)) = true := by kernel_rfl
theorem k8 : Tryz.f20.resultTypes.all (fun t => Tryz.pinned.checked.prog.readableRec t && decide (t < Tryz.pinned.checked.prog.types.size)) = true := by kernel_rfl
theorem k9 : (Rows.nameKnownUptoRow.ifacesOut == Tryz.f20.resultTypes.toList.any (Tryz.pinned.checked.prog.ifacesRec ·)) = true := by kernel_rfl
theorem k10 : (Rows.nameKnownUptoRow.loopsOut == Tryz.f20.resultTypes.toList.any (Tryz.pinned.checked.prog.loopsFrom ·)) = true := by kernel_rfl
theorem k11 : (Rows.nameKnownUptoRow.plainKeys == Tryz.pinned.checked.prog.plainKeys) = true := by kernel_rfl
theorem k12 : (Rows.nameKnownUptoRow.lifted == Tryz.pinned.checked.prog.liftsFinal) = true := by kernel_rfl
theorem k13 : (Tryz.pinned.checked.prog.make == some Rows.nameKnownUptoRow.make) = true := by kernel_rfl
theorem k14 : (Rows.nameKnownUptoRow.veiled == (Tryz.f20.params.toList ++ DataSpec.varTypes Tryz.pinned.checked.prog (Rows.OpenSpec.upto Rows.nameKnownSpec).bare.plain ++ Tryz.f20.resultTypes.toList).any (Tryz.pinned.checked.prog.veiledRec ·)) = true := by kernel_rfl
theorem k15 : Rows.nameKnownUptoRow.veiledFits Tryz.pinned.checked.prog Tryz.f20.params.toList (Tryz.f20.params.toList ++ DataSpec.varTypes Tryz.pinned.checked.prog (Rows.OpenSpec.upto Rows.nameKnownSpec).bare.plain ++ Tryz.f20.resultTypes.toList) = true := by kernel_rfl
theorem closed : joinedFacts Tryz.pinned.checked.prog 20 Tryz.f20 (Rows.OpenSpec.upto Rows.nameKnownSpec).bare Rows.nameKnownUptoRow = true := by
 unfold joinedFacts
 rw [c10, c11, c12, c13]
 simp only [Bool.and_true, Bool.and_eq_true]
 repeat' apply And.intro
 all_goals with_reducible first | exact zMA | exact zMC | exact zMD | exact zL9 | exact zL8 | exact zL7 | exact k0 | exact k1 | exact k2 | exact k3 | exact k4 | exact k5 | exact k6 | exact k7 | exact k8 | exact k9 | exact k10 | exact k11 | exact k12 | exact k13 | exact k14 | exact k15 | kernel_rfl
theorem named : Tryz.pinned.checked.prog.funcNamed Rows.nameKnownUptoRow.func = some 20 := by kernel_rfl
theorem inst : Tryz.f20.isInstance Tryz.pinned.checked.prog Rows.nameKnownUptoRow.origin Rows.nameKnownUptoRow.targs := of_decide_eq_true (by kernel_rfl)
theorem wrap : Tryz.f20.isWrapper Tryz.pinned.checked.prog Rows.nameKnownUptoRow.wrapper Rows.nameKnownUptoRow.mainSum := (by unfold Func.isWrapper; first | (rw [if_pos (by decide +kernel)]; kernel_rfl) | (rw [if_neg (by decide +kernel)]; exact ⟨rfl, rfl⟩))

theorem said : Rows.NameKnownUptoSaid :=
 OpenClaim.holds_of_cond 20 Tryz.f20 rfl rfl rfl rfl rfl rfl rfl ⟨rfl, rfl, rfl, rfl, rfl⟩ rfl rfl rfl rfl rfl named Tryz.func20 closed inst wrap (fun os started H enc _ F => by rw [OpenClaim.pre_eq_preRow]; exact lifted os started H enc F)
theorem wants : (#[] : Array Nat).all (fun t => !Tryz.prog.wantsStandIn t) = true := by kernel_rfl
theorem plain (f : FuncId) (fn : Func) (hf : Tryz.pinned.checked.prog.funcNamed Rows.nameKnownUptoRow.func = some f) (hfn : Tryz.pinned.checked.prog.funcs[f]? = some fn) :
  true = Tryz.pinned.checked.prog.looks [] ∧ ∀ (j : Nat) t, fn.params[j]? = some t → Tryz.pinned.checked.prog.wantsStandIn t = false := by
 obtain rfl : f = 20 := Option.some.inj (named.symm.trans hf) |>.symm
 obtain rfl : fn = Tryz.f20 := (Option.some.inj (Tryz.func20.symm.trans hfn)).symm
 refine ⟨zMB, fun j t ht => ?_⟩
 rw [Tryz.params20] at ht
 have h := Array.all_eq_true_iff_forall_mem.1 wants t (Array.mem_of_getElem? ht)
 have h2 : Tryz.prog.wantsStandIn t = false := by simpa using h
 exact h2
theorem wfT : Rows.nameKnownUptoRow.wfByText (Rows.OpenSpec.upto Rows.nameKnownSpec) = true := by kernel_rfl
theorem goes : false = Rows.nameKnownUptoRow.goesBy Tryz.pinned.checked.prog := by kernel_rfl
theorem mainIs : Tryz.pinned.checked.prog.mainIs = some (Rows.nameKnownUptoCard.stood.harness.1, Rows.nameKnownUptoCard.stood.harness.2.toList) := by kernel_rfl
theorem proved : Rows.NameKnownUptoCardSaid :=
 Claim7.holds_tied_plain_at .later [] _ _ _ _ said (fun _ h => by cases h) wfT (fun _ h => by cases h) nameKnownUpto_row_tie rfl ⟨rfl, rfl⟩ mainIs rfl plain goes
end Go.Proofs.YteehcinnfiaklaaGreatDoor.nameKnown

