/-
  THE STATEMENT NameShortsUptoSaid IS PROVED: for every input of bulk at most 1048576 the law NameShorts returns true and leaves its arguments as they were. No other condition.
-/
import Derived.Test.YteehcinnfiaklaaGreatDoorTie
import Derived.Test.YteehcinnfiaklaaGreatDoorQEZE6
set_option linter.unusedVariables false
set_option linter.unusedSimpArgs false
set_option linter.unusedSectionVars false
namespace Go.Proofs.YteehcinnfiaklaaGreatDoor.nameShorts
open Go Go.Abs Go.ChangeShapes Go.WideShapes Go.ChangeAt Go.RowKit
set_option maxRecDepth 100000
theorem contract (H : Type) (enc : TypeId × Value → H) (W : World) (base : Nat) (args : Array Value) (ds gs : List (DataW H)) (before : List MemPlace)
  (hval : ∀ (j : Nat) t v, Tryz.f18.params[j]? = some t → args[j]? = some v → Value.okWide Tryz.prog W .any base t v)
  (hW : DataW.Whole enc Tryz.prog Tryz.f18.params.toList Rows.nameShortsSpec.vars false W args.toList ds gs before) (hk : Rows.uptoSmall H (ds ++ gs) = true) (hL : laidMetH Tryz.prog A5 W) :
  Calls Tryz.prog 18 args W fun e W' => ∃ v, e = .returned v ∧ Rows.nameShortsSpec.post enc Tryz.prog Tryz.f18 false true false false W args v W' := by
 have hW' := hW
 obtain ⟨p, q, hA0, hV, rfl, hfz, hnd⟩ := hW
 have hA : DataW.TrodAll enc Tryz.prog W 0 (fun _ => true) true Tryz.f18.params.toList args.toList ds p := hA0
 rw [Tryz.params18] at hA hval
 obtain ⟨v0, vs0, d0, ds0, p0, q0, hargs, rfl, rfl, h0, r0⟩ := trodAll_cons hA
 obtain ⟨v1, vs1, d1, ds1, p1, q1, rfl, rfl, rfl, h1, r1⟩ := trodAll_cons r0
 obtain ⟨v2, vs2, d2, ds2, p2, q2, rfl, rfl, rfl, h2, r2⟩ := trodAll_cons r1
 obtain ⟨v3, vs3, d3, ds3, p3, q3, rfl, rfl, rfl, h3, r3⟩ := trodAll_cons r2
 obtain ⟨rfl, rfl, rfl⟩ := trodAll_nil r3
 obtain rfl : args = #[v0, v1, v2, v3] := by cases args; simp_all
 obtain ⟨rfl, rfl⟩ := trodVars_none hV
 clear hA0
 simp only [List.append_nil] at hW' hk
 have hk1 : Rows.uptoBulkAll [d0, d1, d2, d3] ≤ 1048576 := of_decide_eq_true hk
 simp only [Rows.uptoBulkAll] at hk1
 obtain ⟨x0, y0, z0⟩ := zJh (.inr ⟨base, hval 0 9 v0 rfl rfl⟩) h0 (by omega)
 obtain ⟨x1, y1, z1⟩ := zJh (.inr ⟨base, hval 1 9 v1 rfl rfl⟩) h1 (by omega)
 obtain ⟨x2, y2, z2⟩ := zJi (.inr ⟨base, hval 2 22 v2 rfl rfl⟩) h2 (by omega)
 obtain ⟨x3, y3, z3⟩ := zJg (.inr ⟨base, hval 3 23 v3 rfl rfl⟩) h3 (by omega)
 have hlt : ∀ x ∈ p0 ++ p1 ++ p2 ++ p3, x.block < W.heap.size := fun x hx => by simpa using hW'.lt x (by simpa using hx)
 refine (zKP (zQC x0 x1 x2 x3 z0 z1 z2 (by omega)) W #[v0, v1, v2, v3] rfl (fun i h h' => ?_) (hlaid := zLJ hL)).mono ?_
 ·match i, h with
  | 0, _ => exact y0
  | 1, _ => exact y1
  | 2, _ => exact y2
  | 3, _ => exact y3
  | i + 4, h => exact absurd h (by show ¬ i + 4 < 4; omega)
 rintro e W' ⟨rfl, hb⟩
 exact ⟨_, rfl, _, _, _, [], _, [], hW', trodAll_mk1 (shut_bool Tryz.underlying4 true), trodAll_mk4 (Below.trod zLK (by kernel_rfl) (of_decide_eq_true (by kernel_rfl)) h0 hb (fun x hx => hlt x (by simp [hx]))) (Below.trod zLK (by kernel_rfl) (of_decide_eq_true (by kernel_rfl)) h1 hb (fun x hx => hlt x (by simp [hx]))) (Below.trod zLK (by kernel_rfl) (of_decide_eq_true (by kernel_rfl)) h2 hb (fun x hx => hlt x (by simp [hx]))) (Below.trod zLK (by kernel_rfl) (of_decide_eq_true (by kernel_rfl)) h3 hb (fun x hx => hlt x (by simp [hx]))), rfl, hb.frame _, fun h => by cases h⟩
theorem noInit : Tryz.checked.prog.inits.idxOf? 18 = none := by kernel_rfl
theorem wit (os : Os) {H : Type} (enc : TypeId × Value → H) : (Rows.OpenSpec.upto Rows.nameShortsSpec).preRow enc Tryz.prog Tryz.f18 Rows.nameShortsUptoRow.domain false Rows.nameShortsUptoRow.laid ((zGK os).forCall (fun _ _ => 0) ⟨#[], #[.string ⟨#[]⟩, .string ⟨#[]⟩, .slice none 0 0, .slice none 0 0], []⟩).memory #[.string ⟨#[]⟩, .string ⟨#[]⟩, .slice none 0 0, .slice none 0 0] := by
 have hw : (DataW.whole enc Tryz.prog ((zGK os).forCall (fun _ _ => 0) ⟨#[], #[.string ⟨#[]⟩, .string ⟨#[]⟩, .slice none 0 0, .slice none 0 0], []⟩).memory Tryz.f18.params.toList Rows.nameShortsSpec.vars false (#[.string ⟨#[]⟩, .string ⟨#[]⟩, .slice none 0 0, .slice none 0 0] : Array Value).toList 8).map (fun x => (x.1, x.2.1)) = some ([.lit (.string []), .lit (.string []), .nil, .nil], []) := by kernel_rfl
 obtain ⟨⟨x1, x2, x3⟩, hx, hx1⟩ := Option.map_eq_some_iff.1 hw
 simp only [Prod.mk.injEq] at hx1
 obtain ⟨rfl, rfl⟩ := hx1
 exact OpenSpec.preRow_of_cond 8 hx (by kernel_rfl) (fun k hk => by cases hk; kernel_rfl) (by kernel_rfl) (zLL os _)
theorem lifted (os : Os) (started : os.Started) (H : Type) (enc : TypeId × Value → H) (F : Stop.Interp) :
  ReturnsInHanded {} Tryz.checked os 18 .any ((Rows.OpenSpec.upto Rows.nameShortsSpec).preRow enc Tryz.prog Tryz.f18 Rows.nameShortsUptoRow.domain false Rows.nameShortsUptoRow.laid) (((Rows.OpenSpec.upto Rows.nameShortsSpec).at F).post enc Tryz.prog Tryz.f18 false true false false) := by
 refine returnsInHanded_of_row (C := Tryz.checked) (s := Rows.OpenSpec.upto Rows.nameShortsSpec) zOl started noInit Tryz.func18
  (witness_row_atRef (enc := enc) (C := Tryz.checked) false (zGK os) #[.string ⟨#[]⟩, .string ⟨#[]⟩, .slice none 0 0, .slice none 0 0] rfl (by kernel_rfl) (by kernel_rfl) (by kernel_rfl) (wit os enc)) ?_
 intro W base args ds gs before hval hW _ hcond _ hL _ _
 exact contract H enc W base args ds gs before hval hW (hcond _ rfl) hL
theorem c10 : (Rows.nameShortsUptoRow.inPlace == Tryz.pinned.checked.prog.inPlace 18) = true := by kernel_rfl
theorem c11 : (Rows.nameShortsUptoRow.unfollowed == Tryz.pinned.checked.prog.unfollowed 18) = true := by kernel_rfl
theorem c12 : (Rows.nameShortsUptoRow.recurses == Tryz.pinned.checked.prog.recurses 18) = true := by kernel_rfl
theorem c13 : (Rows.nameShortsUptoRow.named == Tryz.pinned.checked.prog.varsNamed 18) = true := by kernel_rfl
theorem k0 : Rows.nameShortsUptoRow.wf (OpenSpec.ofChange (Rows.OpenSpec.upto Rows.nameShortsSpec).bare) = true := by kernel_rfl
theorem k1 : Tryz.f18.params.all (Tryz.pinned.checked.prog.readableRec ·) = true := by kernel_rfl
theorem k2 : namedTie Tryz.pinned.checked.prog Rows.nameShortsUptoRow.named (Rows.OpenSpec.upto Rows.nameShortsSpec).bare.vars = true := by kernel_rfl
theorem k3 : (Rows.nameShortsUptoRow.maps == (Tryz.f18.params.toList ++ DataSpec.varTypes Tryz.pinned.checked.prog (Rows.OpenSpec.upto Rows.nameShortsSpec).bare.plain).any (Tryz.pinned.checked.prog.mapsRec ·)) = true := by kernel_rfl
theorem k4 : (Rows.nameShortsUptoRow.ifaces == (Tryz.f18.params.toList ++ DataSpec.varTypes Tryz.pinned.checked.prog (Rows.OpenSpec.upto Rows.nameShortsSpec).bare.plain).any (Tryz.pinned.checked.prog.ifacesRec ·)) = true := by kernel_rfl
theorem k5 : (Rows.nameShortsUptoRow.mapsOut == Tryz.pinned.checked.prog.mapsAmong Tryz.f18.resultTypes.toList) = true := by kernel_rfl
theorem k6 : (Rows.nameShortsUptoRow.loops == (Tryz.f18.params.toList ++ DataSpec.varTypes Tryz.pinned.checked.prog (Rows.OpenSpec.upto Rows.nameShortsSpec).bare.plain).any (Tryz.pinned.checked.prog.loopsFrom ·)) = true := by kernel_rfl
theorem k7 : (Rows.nameShortsUptoRow.wideKeys == (Tryz.f18.params.toList ++ DataSpec.varTypes Tryz.pinned.checked.prog (Rows.OpenSpec.upto Rows.nameShortsSpec).bare.plain ++ Tryz.f18.resultTypes.toList).any (Tryz.pinned.checked.prog.wideKeysFrom ·)) = true := by kernel_rfl
theorem k8 : Tryz.f18.resultTypes.all (fun t => Tryz.pinned.checked.prog.readableRec t && decide (t < Tryz.pinned.checked.prog.types.size)) = true := by kernel_rfl
theorem k9 : (Rows.nameShortsUptoRow.ifacesOut == Tryz.f18.resultTypes.toList.any (Tryz.pinned.checked.prog.ifacesRec ·)) = true := by kernel_rfl
theorem k10 : (Rows.nameShortsUptoRow.loopsOut == Tryz.f18.resultTypes.toList.any (Tryz.pinned.checked.prog.loopsFrom ·)) = true := by kernel_rfl
theorem k11 : (Rows.nameShortsUptoRow.plainKeys == Tryz.pinned.checked.prog.plainKeys) = true := by kernel_rfl
theorem k12 : (Rows.nameShortsUptoRow.lifted == Tryz.pinned.checked.prog.liftsFinal) = true := by kernel_rfl
theorem k13 : (Tryz.pinned.checked.prog.make == some Rows.nameShortsUptoRow.make) = true := by kernel_rfl
theorem k14 : (Rows.nameShortsUptoRow.veiled == (Tryz.f18.params.toList ++ DataSpec.varTypes Tryz.pinned.checked.prog (Rows.OpenSpec.upto Rows.nameShortsSpec).bare.plain ++ Tryz.f18.resultTypes.toList).any (Tryz.pinned.checked.prog.veiledRec ·)) = true := by kernel_rfl
theorem k15 : Rows.nameShortsUptoRow.veiledFits Tryz.pinned.checked.prog Tryz.f18.params.toList (Tryz.f18.params.toList ++ DataSpec.varTypes Tryz.pinned.checked.prog (Rows.OpenSpec.upto Rows.nameShortsSpec).bare.plain ++ Tryz.f18.resultTypes.toList) = true := by kernel_rfl
theorem closed : joinedFacts Tryz.pinned.checked.prog 18 Tryz.f18 (Rows.OpenSpec.upto Rows.nameShortsSpec).bare Rows.nameShortsUptoRow = true := by
 unfold joinedFacts
 rw [c10, c11, c12, c13]
 simp only [Bool.and_true, Bool.and_eq_true]
 repeat' apply And.intro
 all_goals with_reducible first | exact zMA | exact zMC | exact zMD | exact zL9 | exact zL8 | exact zL7 | exact k0 | exact k1 | exact k2 | exact k3 | exact k4 | exact k5 | exact k6 | exact k7 | exact k8 | exact k9 | exact k10 | exact k11 | exact k12 | exact k13 | exact k14 | exact k15 | kernel_rfl
theorem named : Tryz.pinned.checked.prog.funcNamed Rows.nameShortsUptoRow.func = some 18 := by kernel_rfl
theorem inst : Tryz.f18.isInstance Tryz.pinned.checked.prog Rows.nameShortsUptoRow.origin Rows.nameShortsUptoRow.targs := of_decide_eq_true (by kernel_rfl)
theorem wrap : Tryz.f18.isWrapper Tryz.pinned.checked.prog Rows.nameShortsUptoRow.wrapper Rows.nameShortsUptoRow.mainSum := (by unfold Func.isWrapper; first | (rw [if_pos (by decide +kernel)]; kernel_rfl) | (rw [if_neg (by decide +kernel)]; exact ⟨rfl, rfl⟩))
theorem said : Rows.NameShortsUptoSaid :=
 OpenClaim.holds_of_cond 18 Tryz.f18 rfl rfl rfl rfl rfl rfl rfl ⟨rfl, rfl, rfl, rfl, rfl⟩ rfl rfl rfl rfl rfl named Tryz.func18 closed inst wrap (fun os started H enc _ F => by rw [OpenClaim.pre_eq_preRow]; exact lifted os started H enc F)
theorem wants : (#[9, 9, 22, 23] : Array Nat).all (fun t => !Tryz.prog.wantsStandIn t) = true := by kernel_rfl
theorem plain (f : FuncId) (fn : Func) (hf : Tryz.pinned.checked.prog.funcNamed Rows.nameShortsUptoRow.func = some f) (hfn : Tryz.pinned.checked.prog.funcs[f]? = some fn) :
  true = Tryz.pinned.checked.prog.looks [] ∧ ∀ (j : Nat) t, fn.params[j]? = some t → Tryz.pinned.checked.prog.wantsStandIn t = false := by
 obtain rfl : f = 18 := Option.some.inj (named.symm.trans hf) |>.symm
 obtain rfl : fn = Tryz.f18 := (Option.some.inj (Tryz.func18.symm.trans hfn)).symm
 refine ⟨zMB, fun j t ht => ?_⟩
 rw [Tryz.params18] at ht
 have h := Array.all_eq_true_iff_forall_mem.1 wants t (Array.mem_of_getElem? ht)
 have h2 : Tryz.prog.wantsStandIn t = false := by simpa using h
 exact h2
theorem wfT : Rows.nameShortsUptoRow.wfByText (Rows.OpenSpec.upto Rows.nameShortsSpec) = true := by kernel_rfl
theorem goes : false = Rows.nameShortsUptoRow.goesBy Tryz.pinned.checked.prog := by kernel_rfl
theorem mainIs : Tryz.pinned.checked.prog.mainIs = some (Rows.nameShortsUptoCard.stood.harness.1, Rows.nameShortsUptoCard.stood.harness.2.toList) := by kernel_rfl
theorem proved : Rows.NameShortsUptoCardSaid :=
 Claim7.holds_tied_plain_at .later [] _ _ _ _ said (fun _ h => by cases h) wfT (fun _ h => by cases h) nameShortsUpto_row_tie rfl ⟨rfl, rfl⟩ mainIs rfl plain goes
end Go.Proofs.YteehcinnfiaklaaGreatDoor.nameShorts

