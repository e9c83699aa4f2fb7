/-
  THE STATEMENT NameColumnUptoSaid IS PROVED: for every input of bulk at most 1048576 the law NameColumn returns true and leaves its arguments as they were. No other condition.
-/
import Derived.Test.YteehcinnfiaklaaGreatDoorTie
import Derived.Test.YteehcinnfiaklaaGreatDoorQEZH6
set_option linter.unusedVariables false
set_option linter.unusedSimpArgs false
set_option linter.unusedSectionVars false
namespace Go.Proofs.YteehcinnfiaklaaGreatDoor.nameColumn
open Go Go.Abs Go.ChangeShapes Go.WideShapes Go.ChangeAt Go.RowKit
set_option maxRecDepth 100000
theorem contract (H : Type) (enc : TypeId × Value → H) (W : World) (base : Nat) (args : Array Value) (ds gs : List (DataW H)) (before : List MemPlace)
  (hval : ∀ (j : Nat) t v, Tryz.f17.params[j]? = some t → args[j]? = some v → Value.okWide Tryz.prog W .any base t v)
  (hW : DataW.Whole enc Tryz.prog Tryz.f17.params.toList Rows.nameColumnSpec.vars false W args.toList ds gs before) (hk : Rows.uptoSmall H (ds ++ gs) = true) (hL : laidMetH Tryz.prog A5 W) :
  Calls Tryz.prog 17 args W fun e W' => ∃ v, e = .returned v ∧ Rows.nameColumnSpec.post enc Tryz.prog Tryz.f17 false true false false W args v W' := by
 have hW' := hW
 obtain ⟨p, q, hA0, hV, rfl, hfz, hnd⟩ := hW
 have hA : DataW.TrodAll enc Tryz.prog W 0 (fun _ => true) true Tryz.f17.params.toList args.toList ds p := hA0
 rw [Tryz.params17] at hA hval
 obtain ⟨v0, vs0, d0, ds0, p0, q0, hargs, rfl, rfl, h0, r0⟩ := trodAll_cons hA
 obtain ⟨rfl, rfl, rfl⟩ := trodAll_nil r0
 obtain rfl : args = #[v0] := by cases args; simp_all
 obtain ⟨rfl, rfl⟩ := trodVars_none hV
 clear hA0
 simp only [List.append_nil] at hW' hk
 have hk1 : Rows.uptoBulkAll [d0] ≤ 1048576 := of_decide_eq_true hk
 simp only [Rows.uptoBulkAll] at hk1
 obtain ⟨x0, y0, z0⟩ := zJg (.inr ⟨base, hval 0 23 v0 rfl rfl⟩) h0 (by omega)
 have hlt : ∀ x ∈ p0, x.block < W.heap.size := fun x hx => by simpa using hW'.lt x (by simpa using hx)
 refine (zKP (zP9 x0 (by omega)) W #[v0] rfl (fun i h h' => ?_) (hlaid := zLJ hL)).mono ?_
 ·match i, h with
  | 0, _ => exact y0
  | i + 1, h => exact absurd h (by show ¬ i + 1 < 1; omega)
 rintro e W' ⟨rfl, hb⟩
 exact ⟨_, rfl, _, _, _, [], _, [], hW', trodAll_mk1 (shut_bool Tryz.underlying4 true), trodAll_mk1 (Below.trod zLK (by kernel_rfl) (of_decide_eq_true (by kernel_rfl)) h0 hb (fun x hx => hlt x (by simp [hx]))), rfl, hb.frame _, fun h => by cases h⟩
theorem noInit : Tryz.checked.prog.inits.idxOf? 17 = none := by kernel_rfl
theorem wit (os : Os) {H : Type} (enc : TypeId × Value → H) : (Rows.OpenSpec.upto Rows.nameColumnSpec).preRow enc Tryz.prog Tryz.f17 Rows.nameColumnUptoRow.domain false Rows.nameColumnUptoRow.laid ((zGK os).forCall (fun _ _ => 0) ⟨#[], #[.slice none 0 0], []⟩).memory #[.slice none 0 0] := by
 have hw : (DataW.whole enc Tryz.prog ((zGK os).forCall (fun _ _ => 0) ⟨#[], #[.slice none 0 0], []⟩).memory Tryz.f17.params.toList Rows.nameColumnSpec.vars false (#[.slice none 0 0] : Array Value).toList 8).map (fun x => (x.1, x.2.1)) = some ([.nil], []) := by kernel_rfl
 obtain ⟨⟨x1, x2, x3⟩, hx, hx1⟩ := Option.map_eq_some_iff.1 hw
 simp only [Prod.mk.injEq] at hx1
 obtain ⟨rfl, rfl⟩ := hx1
 exact OpenSpec.preRow_of_cond 8 hx (by kernel_rfl) (fun k hk => by cases hk; kernel_rfl) (by kernel_rfl) (zLL os _)
theorem lifted (os : Os) (started : os.Started) (H : Type) (enc : TypeId × Value → H) (F : Stop.Interp) :
  ReturnsInHanded {} Tryz.checked os 17 .any ((Rows.OpenSpec.upto Rows.nameColumnSpec).preRow enc Tryz.prog Tryz.f17 Rows.nameColumnUptoRow.domain false Rows.nameColumnUptoRow.laid) (((Rows.OpenSpec.upto Rows.nameColumnSpec).at F).post enc Tryz.prog Tryz.f17 false true false false) := by
 refine returnsInHanded_of_row (C := Tryz.checked) (s := Rows.OpenSpec.upto Rows.nameColumnSpec) zOl started noInit Tryz.func17
  (witness_row_atRef (enc := enc) (C := Tryz.checked) false (zGK os) #[.slice none 0 0] rfl (by kernel_rfl) (by kernel_rfl) (by kernel_rfl) (wit os enc)) ?_
 intro W base args ds gs before hval hW _ hcond _ hL _ _
 exact contract H enc W base args ds gs before hval hW (hcond _ rfl) hL
theorem c10 : (Rows.nameColumnUptoRow.inPlace == Tryz.pinned.checked.prog.inPlace 17) = true := by kernel_rfl
theorem c11 : (Rows.nameColumnUptoRow.unfollowed == Tryz.pinned.checked.prog.unfollowed 17) = true := by kernel_rfl
theorem c12 : (Rows.nameColumnUptoRow.recurses == Tryz.pinned.checked.prog.recurses 17) = true := by kernel_rfl
theorem c13 : (Rows.nameColumnUptoRow.named == Tryz.pinned.checked.prog.varsNamed 17) = true := by kernel_rfl
theorem k0 : Rows.nameColumnUptoRow.wf (OpenSpec.ofChange (Rows.OpenSpec.upto Rows.nameColumnSpec).bare) = true := by kernel_rfl
theorem k1 : Tryz.f17.params.all (Tryz.pinned.checked.prog.readableRec ·) = true := by kernel_rfl
theorem k2 : namedTie Tryz.pinned.checked.prog Rows.nameColumnUptoRow.named (Rows.OpenSpec.upto Rows.nameColumnSpec).bare.vars = true := by kernel_rfl
theorem k3 : (Rows.nameColumnUptoRow.maps == (Tryz.f17.params.toList ++ DataSpec.varTypes Tryz.pinned.checked.prog (Rows.OpenSpec.upto Rows.nameColumnSpec).bare.plain).any (Tryz.pinned.checked.prog.mapsRec ·)) = true := by kernel_rfl
theorem k4 : (Rows.nameColumnUptoRow.ifaces == (Tryz.f17.params.toList ++ DataSpec.varTypes Tryz.pinned.checked.prog (Rows.OpenSpec.upto Rows.nameColumnSpec).bare.plain).any (Tryz.pinned.checked.prog.ifacesRec ·)) = true := by kernel_rfl
theorem k5 : (Rows.nameColumnUptoRow.mapsOut == Tryz.pinned.checked.prog.mapsAmong Tryz.f17.resultTypes.toList) = true := by kernel_rfl
theorem k6 : (Rows.nameColumnUptoRow.loops == (Tryz.f17.params.toList ++ DataSpec.varTypes Tryz.pinned.checked.prog (Rows.OpenSpec.upto Rows.nameColumnSpec).bare.plain).any (Tryz.pinned.checked.prog.loopsFrom ·)) = true := by kernel_rfl
theorem k7 : (Rows.nameColumnUptoRow.wideKeys == (Tryz.f17.params.toList ++ DataSpec.varTypes Tryz.pinned.checked.prog (Rows.OpenSpec.upto Rows.nameColumnSpec).bare.plain ++ Tryz.f17.resultTypes.toList).any (Tryz.pinned.checked.prog.wideKeysFrom ·)) = true := by kernel_rfl
theorem k8 : Tryz.f17.resultTypes.all (fun t => Tryz.pinned.checked.prog.readableRec t && decide (t < Tryz.pinned.checked.prog.types.size)) = true := by kernel_rfl
theorem k9 : (Rows.nameColumnUptoRow.ifacesOut == Tryz.f17.resultTypes.toList.any (Tryz.pinned.checked.prog.ifacesRec ·)) = true := by kernel_rfl
theorem k10 : (Rows.nameColumnUptoRow.loopsOut == Tryz.f17.resultTypes.toList.any (Tryz.pinned.checked.prog.loopsFrom ·)) = true := by kernel_rfl
theorem k11 : (Rows.nameColumnUptoRow.plainKeys == Tryz.pinned.checked.prog.plainKeys) = true := by kernel_rfl
theorem k12 : (Rows.nameColumnUptoRow.lifted == Tryz.pinned.checked.prog.liftsFinal) = true := by kernel_rfl
theorem k13 : (Tryz.pinned.checked.prog.make == some Rows.nameColumnUptoRow.make) = true := by kernel_rfl
theorem k14 : (Rows.nameColumnUptoRow.veiled == (Tryz.f17.params.toList ++ DataSpec.varTypes Tryz.pinned.checked.prog (Rows.OpenSpec.upto Rows.nameColumnSpec).bare.plain ++ Tryz.f17.resultTypes.toList).any (Tryz.pinned.checked.prog.veiledRec ·)) = true := by kernel_rfl
theorem k15 : Rows.nameColumnUptoRow.veiledFits Tryz.pinned.checked.prog Tryz.f17.params.toList (Tryz.f17.params.toList ++ DataSpec.varTypes Tryz.pinned.checked.prog (Rows.OpenSpec.upto Rows.nameColumnSpec).bare.plain ++ Tryz.f17.resultTypes.toList) = true := by kernel_rfl
theorem closed : joinedFacts Tryz.pinned.checked.prog 17 Tryz.f17 (Rows.OpenSpec.upto Rows.nameColumnSpec).bare Rows.nameColumnUptoRow = true := by
 unfold joinedFacts
 rw [c10, c11, c12, c13]
 simp only [Bool.and_true, Bool.and_eq_true]
 repeat' apply And.intro
 all_goals with_reducible first | exact zMA | exact zMC | exact zMD | exact zL9 | exact zL8 | exact zL7 | exact k0 | exact k1 | exact k2 | exact k3 | exact k4 | exact k5 | exact k6 | exact k7 | exact k8 | exact k9 | exact k10 | exact k11 | exact k12 | exact k13 | exact k14 | exact k15 | kernel_rfl
theorem named : Tryz.pinned.checked.prog.funcNamed Rows.nameColumnUptoRow.func = some 17 := by kernel_rfl
theorem inst : Tryz.f17.isInstance Tryz.pinned.checked.prog Rows.nameColumnUptoRow.origin Rows.nameColumnUptoRow.targs := of_decide_eq_true (by kernel_rfl)
theorem wrap : Tryz.f17.isWrapper Tryz.pinned.checked.prog Rows.nameColumnUptoRow.wrapper Rows.nameColumnUptoRow.mainSum := (by unfold Func.isWrapper; first | (rw [if_pos (by decide +kernel)]; kernel_rfl) | (rw [if_neg (by decide +kernel)]; exact ⟨rfl, rfl⟩))
theorem said : Rows.NameColumnUptoSaid :=
 OpenClaim.holds_of_cond 17 Tryz.f17 rfl rfl rfl rfl rfl rfl rfl ⟨rfl, rfl, rfl, rfl, rfl⟩ rfl rfl rfl rfl rfl named Tryz.func17 closed inst wrap (fun os started H enc _ F => by rw [OpenClaim.pre_eq_preRow]; exact lifted os started H enc F)
theorem wants : (#[23] : Array Nat).all (fun t => !Tryz.prog.wantsStandIn t) = true := by kernel_rfl
theorem plain (f : FuncId) (fn : Func) (hf : Tryz.pinned.checked.prog.funcNamed Rows.nameColumnUptoRow.func = some f) (hfn : Tryz.pinned.checked.prog.funcs[f]? = some fn) :
  true = Tryz.pinned.checked.prog.looks [] ∧ ∀ (j : Nat) t, fn.params[j]? = some t → Tryz.pinned.checked.prog.wantsStandIn t = false := by
 obtain rfl : f = 17 := Option.some.inj (named.symm.trans hf) |>.symm
 obtain rfl : fn = Tryz.f17 := (Option.some.inj (Tryz.func17.symm.trans hfn)).symm
 refine ⟨zMB, fun j t ht => ?_⟩
 rw [Tryz.params17] at ht
 have h := Array.all_eq_true_iff_forall_mem.1 wants t (Array.mem_of_getElem? ht)
 have h2 : Tryz.prog.wantsStandIn t = false := by simpa using h
 exact h2
theorem wfT : Rows.nameColumnUptoRow.wfByText (Rows.OpenSpec.upto Rows.nameColumnSpec) = true := by kernel_rfl
theorem goes : false = Rows.nameColumnUptoRow.goesBy Tryz.pinned.checked.prog := by kernel_rfl
theorem mainIs : Tryz.pinned.checked.prog.mainIs = some (Rows.nameColumnUptoCard.stood.harness.1, Rows.nameColumnUptoCard.stood.harness.2.toList) := by kernel_rfl
theorem proved : Rows.NameColumnUptoCardSaid :=
 Claim7.holds_tied_plain_at .later [] _ _ _ _ said (fun _ h => by cases h) wfT (fun _ h => by cases h) nameColumnUpto_row_tie rfl ⟨rfl, rfl⟩ mainIs rfl plain goes
end Go.Proofs.YteehcinnfiaklaaGreatDoor.nameColumn

