/-
  THE STATEMENT StreetStringsUptoSaid IS PROVED: for every input of bulk at most 1048576 the law StreetStrings returns true and leaves its arguments as they were. No other condition.
-/
import Derived.Test.YtcbpjojhfgadlaaGreatDoorTie
import Derived.Test.YtcbpjojhfgadlaaGreatDoorQZJZL15
set_option linter.unusedVariables false
set_option linter.unusedSimpArgs false
set_option linter.unusedSectionVars false
namespace Go.Proofs.YtcbpjojhfgadlaaGreatDoor.streetStrings
open Go Go.Abs Go.ChangeShapes Go.WideShapes Go.ChangeAt Go.RowKit
set_option maxRecDepth 100000

theorem trodAll_mk5 {H : Type} {enc : TypeId × Value → H} {P : Program} {w : World} {base : Nat} {spare : Nat → Bool} {held : Bool} {t0 t1 t2 t3 t4 : TypeId} {v0 v1 lv2l lv3l lv4l : Value} {d0 d1 d2 d3 ld4l : DataW H} {p0 p1 p2 lp3l lp4l : List MemPlace} (h0 : DataW.Trod enc P w base spare held t0 v0 d0 p0) (h1 : DataW.Trod enc P w base spare held t1 v1 d1 p1)
  (h2 : DataW.Trod enc P w base spare held t2 lv2l d2 p2) (h3 : DataW.Trod enc P w base spare held t3 lv3l d3 lp3l) (h4 : DataW.Trod enc P w base spare held t4 lv4l ld4l lp4l) : DataW.TrodAll enc P w base spare held [t0, t1, t2, t3, t4] [v0, v1, lv2l, lv3l, lv4l] [d0, d1, d2, d3, ld4l] (p0 ++ (p1 ++ (p2 ++ (lp3l ++ lp4l)))) := ⟨p0, p1 ++ (p2 ++ (lp3l ++ lp4l)), h0, trodAll_mk4 h1 h2 h3 h4, rfl⟩
theorem trodAll_mk6 {H : Type} {enc : TypeId × Value → H} {P : Program} {w : World} {base : Nat} {spare : Nat → Bool} {held : Bool} {t0 t1 t2 t3 t4 t5 : TypeId} {v0 v1 lv2l lv3l lv4l lv5l : Value} {d0 d1 d2 d3 ld4l ld5l : DataW H} {p0 p1 p2 lp3l lp4l lp5l : List MemPlace} (h0 : DataW.Trod enc P w base spare held t0 v0 d0 p0) (h1 : DataW.Trod enc P w base spare held t1 v1 d1 p1)
  (h2 : DataW.Trod enc P w base spare held t2 lv2l d2 p2) (h3 : DataW.Trod enc P w base spare held t3 lv3l d3 lp3l) (h4 : DataW.Trod enc P w base spare held t4 lv4l ld4l lp4l) (h5 : DataW.Trod enc P w base spare held t5 lv5l ld5l lp5l) : DataW.TrodAll enc P w base spare held [t0, t1, t2, t3, t4, t5] [v0, v1, lv2l, lv3l, lv4l, lv5l] [d0, d1, d2, d3, ld4l, ld5l] (p0 ++ (p1 ++ (p2 ++ (lp3l ++ (lp4l ++ lp5l))))) := ⟨p0, p1 ++ (p2 ++ (lp3l ++ (lp4l ++ lp5l))), h0, trodAll_mk5 h1 h2 h3 h4 h5, rfl⟩
theorem contract (H : Type) (enc : TypeId × Value → H) (W : World) (base : Nat) (args : Array Value) (ds gs : List (DataW H)) (before : List MemPlace)
  (hval : ∀ (j : Nat) t v, Tryz.f3.params[j]? = some t → args[j]? = some v → Value.okWide Tryz.prog W .any base t v)
  (hW : DataW.Whole enc Tryz.prog Tryz.f3.params.toList Rows.streetStringsSpec.vars false W args.toList ds gs before) (hk : Rows.uptoSmall H (ds ++ gs) = true) (hL : laidMetH Tryz.prog zAK W) :
  Calls Tryz.prog 3 args W fun e W' => ∃ v, e = .returned v ∧ Rows.streetStringsSpec.post enc Tryz.prog Tryz.f3 false true false false W args v W' := by
 have hW' := hW
 obtain ⟨p, q, hA0, hV, rfl, hfz, hnd⟩ := hW
 have hA : DataW.TrodAll enc Tryz.prog W 0 (fun _ => true) true Tryz.f3.params.toList args.toList ds p := hA0
 rw [Tryz.params3] at hA hval
 obtain ⟨v0, vs0, d0, ds0, p0, q0, hargs, rfl, rfl, h0, r0⟩ := trodAll_cons hA
 obtain ⟨v1, vs1, d1, ds1, p1, q1, rfl, rfl, rfl, h1, r1⟩ := trodAll_cons r0
 obtain ⟨lv2l, vs2, d2, ds2, p2, q2, rfl, rfl, rfl, h2, r2⟩ := trodAll_cons r1
 obtain ⟨lv3l, vs3, d3, ds3, lp3l, q3, rfl, rfl, rfl, h3, r3⟩ := trodAll_cons r2
 obtain ⟨lv4l, vs4, ld4l, ds4, lp4l, q4, rfl, rfl, rfl, h4, lr4l⟩ := trodAll_cons r3
 obtain ⟨lv5l, vs5, ld5l, ds5, lp5l, q5, rfl, rfl, rfl, h5, lr5l⟩ := trodAll_cons lr4l
 obtain ⟨rfl, rfl, rfl⟩ := trodAll_nil lr5l
 obtain rfl : args = #[v0, v1, lv2l, lv3l, lv4l, lv5l] := by cases args; simp_all
 obtain ⟨rfl, rfl⟩ := trodVars_none hV
 clear hA0
 simp only [List.append_nil] at hW' hk
 have hk1 : Rows.uptoBulkAll [d0, d1, d2, d3, ld4l, ld5l] ≤ 1048576 := of_decide_eq_true hk
 simp only [Rows.uptoBulkAll] at hk1
 obtain ⟨x0, y0, z0⟩ := PR_planC (.inr ⟨base, hval 0 24 v0 rfl rfl⟩) h0 (by omega)
 obtain ⟨x1, y1, z1⟩ := zKB (.inr ⟨base, hval 1 9 v1 rfl rfl⟩) h1 (by omega)
 obtain ⟨x2, ly2l, z2⟩ := zKA (.inr ⟨base, hval 2 25 lv2l rfl rfl⟩) h2 (by omega)
 obtain ⟨x3, ly3l, lz3l⟩ := PR_int (.inr ⟨base, hval 3 3 lv3l rfl rfl⟩) h3 (by omega)
 obtain ⟨x4, ly4l, lz4l⟩ := PR_int (.inr ⟨base, hval 4 3 lv4l rfl rfl⟩) h4 (by omega)
 obtain ⟨x5, ly5l, lz5l⟩ := PR_byte (.inr ⟨base, hval 5 5 lv5l rfl rfl⟩) h5 (by omega)
 have hlt : ∀ x ∈ p0 ++ p1 ++ p2 ++ lp3l ++ lp4l ++ lp5l, x.block < W.heap.size := fun x hx => by simpa using hW'.lt x (by simpa using hx)
 refine (zK2 (sp_StreetStrings x0 x1 x2 x3 x4 x5 z0 (by omega) (by omega) lz3l lz4l lz5l) W #[v0, v1, lv2l, lv3l, lv4l, lv5l] rfl (fun i h h' => ?_) (hlaid := zLs hL)).mono ?_
 ·match i, h with
  | 0, _ => exact y0
  | 1, _ => exact y1
  | 2, _ => exact ly2l
  | 3, _ => exact ly3l
  | 4, _ => exact ly4l
  | 5, _ => exact ly5l
  | i + 6, h => exact absurd h (by show ¬ i + 6 < 6; omega)
 rintro e W' ⟨rfl, hb⟩
 exact ⟨_, rfl, _, _, _, [], _, [], hW', trodAll_mk1 (shut_bool Tryz.underlying4 true), trodAll_mk6 (Below.trod zLt (by kernel_rfl) (of_decide_eq_true (by kernel_rfl)) h0 hb (fun x hx => hlt x (by simp [hx]))) (Below.trod zLt (by kernel_rfl) (of_decide_eq_true (by kernel_rfl)) h1 hb (fun x hx => hlt x (by simp [hx]))) (Below.trod zLt (by kernel_rfl) (of_decide_eq_true (by kernel_rfl)) h2 hb (fun x hx => hlt x (by simp [hx]))) (Below.trod zLt (by kernel_rfl) (of_decide_eq_true (by kernel_rfl)) h3 hb (fun x hx => hlt x (by simp [hx]))) (Below.trod zLt (by kernel_rfl) (of_decide_eq_true (by kernel_rfl)) h4 hb (fun x hx => hlt x (by simp [hx]))) (Below.trod zLt (by kernel_rfl) (of_decide_eq_true (by kernel_rfl)) h5 hb (fun x hx => hlt x (by simp [hx]))), rfl, hb.frame _, fun h => by cases h⟩

theorem noInit : Tryz.checked.prog.inits.idxOf? 3 = none := by kernel_rfl
theorem wit (os : Os) {H : Type} (enc : TypeId × Value → H) : (Rows.OpenSpec.upto Rows.streetStringsSpec).preRow enc Tryz.prog Tryz.f3 Rows.streetStringsUptoRow.domain false Rows.streetStringsUptoRow.laid ((zGq os).forCall (fun _ _ => 0) ⟨#[], #[.agg #[.slice none 0 0], .string ⟨#[]⟩, .slice none 0 0, .int .i64 0, .int .i64 0, .int .u8 0], []⟩).memory #[.agg #[.slice none 0 0], .string ⟨#[]⟩, .slice none 0 0, .int .i64 0, .int .i64 0, .int .u8 0] := by
 have hw : (DataW.whole enc Tryz.prog ((zGq os).forCall (fun _ _ => 0) ⟨#[], #[.agg #[.slice none 0 0], .string ⟨#[]⟩, .slice none 0 0, .int .i64 0, .int .i64 0, .int .u8 0], []⟩).memory Tryz.f3.params.toList Rows.streetStringsSpec.vars false (#[.agg #[.slice none 0 0], .string ⟨#[]⟩, .slice none 0 0, .int .i64 0, .int .i64 0, .int .u8 0] : Array Value).toList 8).map (fun x => (x.1, x.2.1)) = some ([.agg [.nil], .lit (.string []), .nil, .lit (.int .i64 0), .lit (.int .i64 0), .lit (.int .u8 0)], []) := by kernel_rfl
 obtain ⟨⟨x1, x2, x3⟩, hx, hx1⟩ := Option.map_eq_some_iff.1 hw
 simp only [Prod.mk.injEq] at hx1
 obtain ⟨rfl, rfl⟩ := hx1
 exact OpenSpec.preRow_of_cond 8 hx (by kernel_rfl) (fun k hk => by cases hk; kernel_rfl) (by kernel_rfl) (zLu os _)

theorem lifted (os : Os) (started : os.Started) (H : Type) (enc : TypeId × Value → H) (F : Stop.Interp) :
  ReturnsInHanded {} Tryz.checked os 3 .any ((Rows.OpenSpec.upto Rows.streetStringsSpec).preRow enc Tryz.prog Tryz.f3 Rows.streetStringsUptoRow.domain false Rows.streetStringsUptoRow.laid) (((Rows.OpenSpec.upto Rows.streetStringsSpec).at F).post enc Tryz.prog Tryz.f3 false true false false) := by
 refine returnsInHanded_of_row (C := Tryz.checked) (s := Rows.OpenSpec.upto Rows.streetStringsSpec) zOu started noInit Tryz.func3
  (witness_row_atRef (enc := enc) (C := Tryz.checked) false (zGq os) #[.agg #[.slice none 0 0], .string ⟨#[]⟩, .slice none 0 0, .int .i64 0, .int .i64 0, .int .u8 0] rfl (by kernel_rfl) (by kernel_rfl) (by kernel_rfl) (wit os enc)) ?_
 intro W base args ds gs before hval hW _ hcond _ hL _ _
 exact contract H enc W base args ds gs before hval hW (hcond _ rfl) hL

theorem c10 : (Rows.streetStringsUptoRow.inPlace == Tryz.pinned.checked.prog.inPlace 3) = true := by kernel_rfl
theorem c11 : (Rows.streetStringsUptoRow.unfollowed == Tryz.pinned.checked.prog.unfollowed 3) = true := by kernel_rfl
theorem c12 : (Rows.streetStringsUptoRow.recurses == Tryz.pinned.checked.prog.recurses 3) = true := by kernel_rfl
theorem c13 : (Rows.streetStringsUptoRow.named == Tryz.pinned.checked.prog.varsNamed 3) = true := by kernel_rfl
theorem k0 : Rows.streetStringsUptoRow.wf (OpenSpec.ofChange (Rows.OpenSpec.upto Rows.streetStringsSpec).bare) = true := by kernel_rfl
theorem k1 : Tryz.f3.params.all (Tryz.pinned.checked.prog.readableRec ·) = true := by kernel_rfl
theorem k2 : namedTie Tryz.pinned.checked.prog Rows.streetStringsUptoRow.named (Rows.OpenSpec.upto Rows.streetStringsSpec).bare.vars = true := by kernel_rfl
theorem k3 : (Rows.streetStringsUptoRow.maps == (Tryz.f3.params.toList ++ DataSpec.varTypes Tryz.pinned.checked.prog (Rows.OpenSpec.upto Rows.streetStringsSpec).bare.plain).any (Tryz.pinned.checked.prog.mapsRec ·)) = true := by kernel_rfl
theorem k4 : (Rows.streetStringsUptoRow.ifaces == (Tryz.f3.params.toList ++ DataSpec.varTypes Tryz.pinned.checked.prog (Rows.OpenSpec.upto Rows.streetStringsSpec).bare.plain).any (Tryz.pinned.checked.prog.ifacesRec ·)) = true := by kernel_rfl
theorem k5 : (Rows.streetStringsUptoRow.mapsOut == Tryz.pinned.checked.prog.mapsAmong Tryz.f3.resultTypes.toList) = true := by kernel_rfl
theorem k6 : (Rows.streetStringsUptoRow.loops == (Tryz.f3.params.toList ++ DataSpec.varTypes Tryz.pinned.checked.prog (Rows.OpenSpec.upto Rows.streetStringsSpec).bare.plain).any (Tryz.pinned.checked.prog.loopsFrom ·)) = true := by kernel_rfl
theorem k7 : (Rows.streetStringsUptoRow.wideKeys == (Tryz.f3.params.toList ++ DataSpec.varTypes Tryz.pinned.checked.prog (Rows.OpenSpec.upto Rows.streetStringsSpec).bare.plain ++ Tryz.f3.resultTypes.toList).any (Tryz.pinned.checked.prog.wideKeysFrom ·)) = true := by kernel_rfl
theorem k8 : Tryz.f3.resultTypes.all (fun t => Tryz.pinned.checked.prog.readableRec t && decide (t < Tryz.pinned.checked.prog.types.size)) = true := by kernel_rfl
theorem k9 : (Rows.streetStringsUptoRow.ifacesOut == Tryz.f3.resultTypes.toList.any (Tryz.pinned.checked.prog.ifacesRec ·)) = true := by kernel_rfl
theorem k10 : (Rows.streetStringsUptoRow.loopsOut == Tryz.f3.resultTypes.toList.any (Tryz.pinned.checked.prog.loopsFrom ·)) = true := by kernel_rfl
theorem k11 : (Rows.streetStringsUptoRow.plainKeys == Tryz.pinned.checked.prog.plainKeys) = true := by kernel_rfl
theorem k12 : (Rows.streetStringsUptoRow.lifted == Tryz.pinned.checked.prog.liftsFinal) = true := by kernel_rfl
theorem k13 : (Tryz.pinned.checked.prog.make == some Rows.streetStringsUptoRow.make) = true := by kernel_rfl
theorem k14 : (Rows.streetStringsUptoRow.veiled == (Tryz.f3.params.toList ++ DataSpec.varTypes Tryz.pinned.checked.prog (Rows.OpenSpec.upto Rows.streetStringsSpec).bare.plain ++ Tryz.f3.resultTypes.toList).any (Tryz.pinned.checked.prog.veiledRec ·)) = true := by kernel_rfl
theorem k15 : Rows.streetStringsUptoRow.veiledFits Tryz.pinned.checked.prog Tryz.f3.params.toList (Tryz.f3.params.toList ++ DataSpec.varTypes Tryz.pinned.checked.prog (Rows.OpenSpec.upto Rows.streetStringsSpec).bare.plain ++ Tryz.f3.resultTypes.toList) = true := by kernel_rfl
theorem closed : joinedFacts Tryz.pinned.checked.prog 3 Tryz.f3 (Rows.OpenSpec.upto Rows.streetStringsSpec).bare Rows.streetStringsUptoRow = true := by
 unfold joinedFacts
 rw [c10, c11, c12, c13]
 simp only [Bool.and_true, Bool.and_eq_true]
 repeat' apply And.intro
 all_goals with_reducible first | exact zMj | exact zMl | exact zMm | exact zMi | exact zMh | exact zMg | exact k0 | exact k1 | exact k2 | exact k3 | exact k4 | exact k5 | exact k6 | exact k7 | exact k8 | exact k9 | exact k10 | exact k11 | exact k12 | exact k13 | exact k14 | exact k15 | kernel_rfl
theorem named : Tryz.pinned.checked.prog.funcNamed Rows.streetStringsUptoRow.func = some 3 := by kernel_rfl
theorem inst : Tryz.f3.isInstance Tryz.pinned.checked.prog Rows.streetStringsUptoRow.origin Rows.streetStringsUptoRow.targs := of_decide_eq_true (by kernel_rfl)
theorem wrap : Tryz.f3.isWrapper Tryz.pinned.checked.prog Rows.streetStringsUptoRow.wrapper Rows.streetStringsUptoRow.mainSum := (by unfold Func.isWrapper; first | (rw [if_pos (by decide +kernel)]; kernel_rfl) | (rw [if_neg (by decide +kernel)]; exact ⟨rfl, rfl⟩))

theorem said : Rows.StreetStringsUptoSaid :=
 OpenClaim.holds_of_cond 3 Tryz.f3 rfl rfl rfl rfl rfl rfl rfl ⟨rfl, rfl, rfl, rfl, rfl⟩ rfl rfl rfl rfl rfl named Tryz.func3 closed inst wrap (fun os started H enc _ F => by rw [OpenClaim.pre_eq_preRow]; exact lifted os started H enc F)
theorem wants : (#[24, 9, 25, 3, 3, 5] : Array Nat).all (fun t => !Tryz.prog.wantsStandIn t) = true := by kernel_rfl
theorem plain (f : FuncId) (fn : Func) (hf : Tryz.pinned.checked.prog.funcNamed Rows.streetStringsUptoRow.func = some f) (hfn : Tryz.pinned.checked.prog.funcs[f]? = some fn) :
  true = Tryz.pinned.checked.prog.looks [] ∧ ∀ (j : Nat) t, fn.params[j]? = some t → Tryz.pinned.checked.prog.wantsStandIn t = false := by
 obtain rfl : f = 3 := Option.some.inj (named.symm.trans hf) |>.symm
 obtain rfl : fn = Tryz.f3 := (Option.some.inj (Tryz.func3.symm.trans hfn)).symm
 refine ⟨zMk, fun j t ht => ?_⟩
 rw [Tryz.params3] at ht
 have h := Array.all_eq_true_iff_forall_mem.1 wants t (Array.mem_of_getElem? ht)
 have h2 : Tryz.prog.wantsStandIn t = false := by simpa using h
 exact h2
theorem wfT : Rows.streetStringsUptoRow.wfByText (Rows.OpenSpec.upto Rows.streetStringsSpec) = true := by kernel_rfl
theorem goes : false = Rows.streetStringsUptoRow.goesBy Tryz.pinned.checked.prog := by kernel_rfl
theorem mainIs : Tryz.pinned.checked.prog.mainIs = some (Rows.streetStringsUptoCard.stood.harness.1, Rows.streetStringsUptoCard.stood.harness.2.toList) := by kernel_rfl
theorem proved : Rows.StreetStringsUptoCardSaid :=
 Claim7.holds_tied_plain_at .later [] _ _ _ _ said (fun _ h => by cases h) wfT (fun _ h => by cases h) streetStringsUpto_row_tie rfl ⟨rfl, rfl⟩ mainIs rfl plain goes
end Go.Proofs.YtcbpjojhfgadlaaGreatDoor.streetStrings

