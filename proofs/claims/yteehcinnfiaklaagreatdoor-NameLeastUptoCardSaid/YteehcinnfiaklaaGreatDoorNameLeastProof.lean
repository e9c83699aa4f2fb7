/-
  THE STATEMENT NameLeastUptoSaid IS PROVED: for every input of bulk at most 1048576 the law NameLeast returns true and leaves its arguments as they were. No other condition.
-/
import Derived.Test.YteehcinnfiaklaaGreatDoorTie
import Derived.Test.YteehcinnfiaklaaGreatDoorQEZG6
set_option linter.unusedVariables false
set_option linter.unusedSimpArgs false
set_option linter.unusedSectionVars false
namespace Go.Proofs.YteehcinnfiaklaaGreatDoor.nameLeast
open Go Go.Abs Go.ChangeShapes Go.WideShapes Go.ChangeAt Go.RowKit
set_option maxRecDepth 100000
theorem contract (H : Type) (enc : TypeId × Value → H) (W : World) (base : Nat) (args : Array Value) (ds gs : List (DataW H)) (before : List MemPlace)
  (hval : ∀ (j : Nat) t v, Tryz.f16.params[j]? = some t → args[j]? = some v → Value.okWide Tryz.prog W .any base t v)
  (hW : DataW.Whole enc Tryz.prog Tryz.f16.params.toList Rows.nameLeastSpec.vars false W args.toList ds gs before) (hk : Rows.uptoSmall H (ds ++ gs) = true) (hL : laidMetH Tryz.prog A5 W) :
  Calls Tryz.prog 16 args W fun e W' => ∃ v, e = .returned v ∧ Rows.nameLeastSpec.post enc Tryz.prog Tryz.f16 false true false false W args v W' := by
 have hW' := hW
 obtain ⟨p, q, hA0, hV, rfl, hfz, hnd⟩ := hW
 have hA : DataW.TrodAll enc Tryz.prog W 0 (fun _ => true) true Tryz.f16.params.toList args.toList ds p := hA0
 rw [Tryz.params16] at hA hval
 obtain ⟨v0, vs0, d0, ds0, p0, q0, hargs, rfl, rfl, h0, r0⟩ := trodAll_cons hA
 obtain ⟨rfl, rfl, rfl⟩ := trodAll_nil r0
 obtain rfl : args = #[v0] := by cases args; simp_all
 obtain ⟨rfl, rfl⟩ := trodVars_none hV
 clear hA0
 simp only [List.append_nil] at hW' hk
 have hk1 : Rows.uptoBulkAll [d0] ≤ 1048576 := of_decide_eq_true hk
 simp only [Rows.uptoBulkAll] at hk1
 obtain ⟨x0, y0, z0⟩ := zJg (.inr ⟨base, hval 0 23 v0 rfl rfl⟩) h0 (by omega)
 have hlt : ∀ x ∈ p0, x.block < W.heap.size := fun x hx => by simpa using hW'.lt x (by simpa using hx)
 refine (zKP (zQB x0 (by omega)) W #[v0] rfl (fun i h h' => ?_) (hlaid := zLJ hL)).mono ?_
 ·match i, h with
  | 0, _ => exact y0
  | i + 1, h => exact absurd h (by show ¬ i + 1 < 1; omega)
 rintro e W' ⟨rfl, hb⟩
 exact ⟨_, rfl, _, _, _, [], _, [], hW', trodAll_mk1 (shut_bool Tryz.underlying4 true), trodAll_mk1 (Below.trod zLK (by kernel_rfl) (of_decide_eq_true (by kernel_rfl)) h0 hb (fun x hx => hlt x (by simp [hx]))), rfl, hb.frame _, fun h => by cases h⟩
theorem noInit : Tryz.checked.prog.inits.idxOf? 16 = none := by kernel_rfl
theorem wit (os : Os) {H : Type} (enc : TypeId × Value → H) : (Rows.OpenSpec.upto Rows.nameLeastSpec).preRow enc Tryz.prog Tryz.f16 Rows.nameLeastUptoRow.domain false Rows.nameLeastUptoRow.laid ((zGK os).forCall (fun _ _ => 0) ⟨#[], #[.slice none 0 0], []⟩).memory #[.slice none 0 0] := by
 have hw : (DataW.whole enc Tryz.prog ((zGK os).forCall (fun _ _ => 0) ⟨#[], #[.slice none 0 0], []⟩).memory Tryz.f16.params.toList Rows.nameLeastSpec.vars false (#[.slice none 0 0] : Array Value).toList 8).map (fun x => (x.1, x.2.1)) = some ([.nil], []) := by kernel_rfl
 obtain ⟨⟨x1, x2, x3⟩, hx, hx1⟩ := Option.map_eq_some_iff.1 hw
 simp only [Prod.mk.injEq] at hx1
 obtain ⟨rfl, rfl⟩ := hx1
 exact OpenSpec.preRow_of_cond 8 hx (by kernel_rfl) (fun k hk => by cases hk; kernel_rfl) (by kernel_rfl) (zLL os _)
theorem lifted (os : Os) (started : os.Started) (H : Type) (enc : TypeId × Value → H) (F : Stop.Interp) :
  ReturnsInHanded {} Tryz.checked os 16 .any ((Rows.OpenSpec.upto Rows.nameLeastSpec).preRow enc Tryz.prog Tryz.f16 Rows.nameLeastUptoRow.domain false Rows.nameLeastUptoRow.laid) (((Rows.OpenSpec.upto Rows.nameLeastSpec).at F).post enc Tryz.prog Tryz.f16 false true false false) := by
 refine returnsInHanded_of_row (C := Tryz.checked) (s := Rows.OpenSpec.upto Rows.nameLeastSpec) zOl started noInit Tryz.func16
  (witness_row_atRef (enc := enc) (C := Tryz.checked) false (zGK os) #[.slice none 0 0] rfl (by kernel_rfl) (by kernel_rfl) (by kernel_rfl) (wit os enc)) ?_
 intro W base args ds gs before hval hW _ hcond _ hL _ _
 exact contract H enc W base args ds gs before hval hW (hcond _ rfl) hL
theorem c10 : (Rows.nameLeastUptoRow.inPlace == Tryz.pinned.checked.prog.inPlace 16) = true := by kernel_rfl
theorem c11 : (Rows.nameLeastUptoRow.unfollowed == Tryz.pinned.checked.prog.unfollowed 16) = true := by kernel_rfl
theorem c12 : (Rows.nameLeastUptoRow.recurses == Tryz.pinned.checked.prog.recurses 16) = true := by kernel_rfl
theorem c13 : (Rows.nameLeastUptoRow.named == Tryz.pinned.checked.prog.varsNamed 16) = true := by kernel_rfl
theorem k0 : Rows.nameLeastUptoRow.wf (OpenSpec.ofChange (Rows.OpenSpec.upto Rows.nameLeastSpec).bare) = true := by kernel_rfl
theorem k1 : Tryz.f16.params.all (Tryz.pinned.checked.prog.readableRec ·) = true := by kernel_rfl
theorem k2 : namedTie Tryz.pinned.checked.prog Rows.nameLeastUptoRow.named (Rows.OpenSpec.upto Rows.nameLeastSpec).bare.vars = true := by kernel_rfl
theorem k3 : (Rows.nameLeastUptoRow.maps == (Tryz.f16.params.toList ++ DataSpec.varTypes Tryz.pinned.checked.prog (Rows.OpenSpec.upto Rows.nameLeastSpec).bare.plain).any (Tryz.pinned.checked.prog.mapsRec ·)) = true := by kernel_rfl
theorem k4 : (Rows.nameLeastUptoRow.ifaces == (Tryz.f16.params.toList ++ DataSpec.varTypes Tryz.pinned.checked.prog (Rows.OpenSpec.upto Rows.nameLeastSpec).bare.plain).any (Tryz.pinned.checked.prog.ifacesRec ·)) = true := by kernel_rfl
theorem k5 : (Rows.nameLeastUptoRow.mapsOut == Tryz.pinned.checked.prog.mapsAmong Tryz.f16.resultTypes.toList) = true := by kernel_rfl
theorem k6 : (Rows.nameLeastUptoRow.loops == (Tryz.f16.params.toList ++ DataSpec.varTypes Tryz.pinned.checked.prog (Rows.OpenSpec.upto Rows.nameLeastSpec).bare.plain).any (Tryz.pinned.checked.prog.loopsFrom ·)) = true := by kernel_rfl
theorem k7 : (Rows.nameLeastUptoRow.wideKeys == (Tryz.f16.params.toList ++ DataSpec.varTypes Tryz.pinned.checked.prog (Rows.OpenSpec.upto Rows.nameLeastSpec).bare.plain ++ Tryz.f16.resultTypes.toList).any (Tryz.pinned.checked.prog.wideKeysFrom ·)) = true := by kernel_rfl
theorem k8 : Tryz.f16.resultTypes.all (fun t => Tryz.pinned.checked.prog.readableRec t && decide (t < Tryz.pinned.checked.prog.types.size)) = true := by kernel_rfl
theorem k9 : (Rows.nameLeastUptoRow.ifacesOut == Tryz.f16.resultTypes.toList.any (Tryz.pinned.checked.prog.ifacesRec ·)) = true := by kernel_rfl
theorem k10 : (Rows.nameLeastUptoRow.loopsOut == Tryz.f16.resultTypes.toList.any (Tryz.pinned.checked.prog.loopsFrom ·)) = true := by kernel_rfl
theorem k11 : (Rows.nameLeastUptoRow.plainKeys == Tryz.pinned.checked.prog.plainKeys) = true := by kernel_rfl
theorem k12 : (Rows.nameLeastUptoRow.lifted == Tryz.pinned.checked.prog.liftsFinal) = true := by kernel_rfl
theorem k13 : (Tryz.pinned.checked.prog.make == some Rows.nameLeastUptoRow.make) = true := by kernel_rfl
theorem k14 : (Rows.nameLeastUptoRow.veiled == (Tryz.f16.params.toList ++ DataSpec.varTypes Tryz.pinned.checked.prog (Rows.OpenSpec.upto Rows.nameLeastSpec).bare.plain ++ Tryz.f16.resultTypes.toList).any (Tryz.pinned.checked.prog.veiledRec ·)) = true := by kernel_rfl
theorem k15 : Rows.nameLeastUptoRow.veiledFits Tryz.pinned.checked.prog Tryz.f16.params.toList (Tryz.f16.params.toList ++ DataSpec.varTypes Tryz.pinned.checked.prog (Rows.OpenSpec.upto Rows.nameLeastSpec).bare.plain ++ Tryz.f16.resultTypes.toList) = true := by kernel_rfl
theorem closed : joinedFacts Tryz.pinned.checked.prog 16 Tryz.f16 (Rows.OpenSpec.upto Rows.nameLeastSpec).bare Rows.nameLeastUptoRow = true := by
 unfold joinedFacts
 rw [c10, c11, c12, c13]
 simp only [Bool.and_true, Bool.and_eq_true]
 repeat' apply And.intro
 all_goals with_reducible first | exact zMA | exact zMC | exact zMD | exact zL9 | exact zL8 | exact zL7 | exact k0 | exact k1 | exact k2 | exact k3 | exact k4 | exact k5 | exact k6 | exact k7 | exact k8 | exact k9 | exact k10 | exact k11 | exact k12 | exact k13 | exact k14 | exact k15 | kernel_rfl
theorem named : Tryz.pinned.checked.prog.funcNamed Rows.nameLeastUptoRow.func = some 16 := by kernel_rfl
theorem inst : Tryz.f16.isInstance Tryz.pinned.checked.prog Rows.nameLeastUptoRow.origin Rows.nameLeastUptoRow.targs := of_decide_eq_true (by kernel_rfl)
theorem wrap : Tryz.f16.isWrapper Tryz.pinned.checked.prog Rows.nameLeastUptoRow.wrapper Rows.nameLeastUptoRow.mainSum := (by unfold Func.isWrapper; first | (rw [if_pos (by decide +kernel)]; kernel_rfl) | (rw [if_neg (by decide +kernel)]; exact ⟨rfl, rfl⟩))
theorem said : Rows.NameLeastUptoSaid :=
 OpenClaim.holds_of_cond 16 Tryz.f16 rfl rfl rfl rfl rfl rfl rfl ⟨rfl, rfl, rfl, rfl, rfl⟩ rfl rfl rfl rfl rfl named Tryz.func16 closed inst wrap (fun os started H enc _ F => by rw [OpenClaim.pre_eq_preRow]; exact lifted os started H enc F)
theorem wants : (#[23] : Array Nat).all (fun t => !Tryz.prog.wantsStandIn t) = true := by kernel_rfl
theorem plain (f : FuncId) (fn : Func) (hf : Tryz.pinned.checked.prog.funcNamed Rows.nameLeastUptoRow.func = some f) (hfn : Tryz.pinned.checked.prog.funcs[f]? = some fn) :
  true = Tryz.pinned.checked.prog.looks [] ∧ ∀ (j : Nat) t, fn.params[j]? = some t → Tryz.pinned.checked.prog.wantsStandIn t = false := by
 obtain rfl : f = 16 := Option.some.inj (named.symm.trans hf) |>.symm
 obtain rfl : fn = Tryz.f16 := (Option.some.inj (Tryz.func16.symm.trans hfn)).symm
 refine ⟨zMB, fun j t ht => ?_⟩
 rw [Tryz.params16] at ht
 have h := Array.all_eq_true_iff_forall_mem.1 wants t (Array.mem_of_getElem? ht)
 have h2 : Tryz.prog.wantsStandIn t = false := by simpa using h
 exact h2
theorem wfT : Rows.nameLeastUptoRow.wfByText (Rows.OpenSpec.upto Rows.nameLeastSpec) = true := by kernel_rfl
theorem goes : false = Rows.nameLeastUptoRow.goesBy Tryz.pinned.checked.prog := by kernel_rfl
theorem mainIs : Tryz.pinned.checked.prog.mainIs = some (Rows.nameLeastUptoCard.stood.harness.1, Rows.nameLeastUptoCard.stood.harness.2.toList) := by kernel_rfl
theorem proved : Rows.NameLeastUptoCardSaid :=
 Claim7.holds_tied_plain_at .later [] _ _ _ _ said (fun _ h => by cases h) wfT (fun _ h => by cases h) nameLeastUpto_row_tie rfl ⟨rfl, rfl⟩ mainIs rfl plain goes
end Go.Proofs.YteehcinnfiaklaaGreatDoor.nameLeast

