/-
  WHAT THE PROOF STANDS ON, PART 10: contracts of the program's functions. No condition.
-/
import Derived.Test.YtcbpjojhfgadlaaGreatDoorQZJZM8
import Derived.Test.YtcbpjojhfgadlaaGreatDoorQZJZM9
set_option maxRecDepth 100000
set_option maxHeartbeats 16000000
set_option linter.unusedVariables false
set_option linter.unusedSimpArgs false
set_option linter.unusedSectionVars false
namespace Go.Abs
open Go Go.Proofs Tryz
attribute [local irreducible] q8 Hold y4
set_option maxRecDepth 10000
set_option maxHeartbeats 16000000

attribute [-go_sem] nxF
attribute [local go_sem] nxM_cons nxM_nil mxN_eq
theorem sp_StreetKnown : zNV prog 5 [] [] (bV true) [] := by
 have sw := zJX
 have sT := zDJ
 have c1 := i9 townX (by decide)
 rw [k_check1] at c1
 have c2 := i9 [zNq [2, 1], [], []] (by decide)
 rw [k_check2] at c2
 have c3 := i9 [zNq [41], [], []] (by decide)
 rw [k_check3] at c3
 have c4 := i9 [] (by decide)
 rw [k_check4] at c4
 have r1 := E7 [2, 1] (by decide)
 have r2 := E7 [41] (by decide)
 have p1 := zAx (zNq [2, 1]) [] []
 have p2 := zAx (zNq [41]) [] []
 simp only [sA, sCourt, sShut, sDiv, sFell, sFell6, sJoin0, sMixed, sDivided, zJo, zJi, W2, atX, zeroPlate, zNq, List.map_cons, List.map_nil, decide_true, Option.getD_some, zOK] at c2 c3 r1 r2 p1 p2
 refine z9 func5 rfl (fun E hE => ?_); simp only [go_sem, ntmps5]
 repeat' (first | ((with_reducible refine stop_at [0, 1, 1] ?_)) | (refine Qr rfl ?_; try intro _ hK; try simp only [go_sem, *]) | (refine Qi rfl rfl rfl rfl ?_ ?_ <;> (intro hb; (try intro _ hK); have hc := hb; try simp only [go_sem] at hc; simp only [go_sem, *])) | refine Qh rfl ?_ | refine Qd rfl (by kernel_rfl) ?_ | (refine Qc rfl rfl ?_ ?_ <;> (intro hb; have hc := hb; try simp only [go_sem] at hc)) | refine z6 rfl ?_ | (refine Qb ?_ ?_; focus kernel_rfl) | (refine X3 (sw) ?_ ?_; (focus (simp only [go_sem, *]; done)); simp only [go_sem, *]) | (refine X3 (sT) ?_ ?_; (focus (simp only [go_sem, *]; done)); simp only [go_sem, *]) | (refine X3 (c1) ?_ ?_; (focus (simp only [go_sem, *]; done)); simp only [go_sem, *]) | (refine o3 (r1) ?_ rfl ?_ ?_ ?_ ?_; (iterate 2 (focus (simp only [go_sem, *]; done))); (iterate 2 (focus (first | (simp; done) | (simp [go_sem]; done)))); simp only [go_sem, w6, *]) | (refine o3 (r2) ?_ rfl ?_ ?_ ?_ ?_; (iterate 2 (focus (simp only [go_sem, *]; done))); (iterate 2 (focus (first | (simp; done) | (simp [go_sem]; done)))); simp only [go_sem, w6, *]) | (refine o3 (p1) ?_ rfl ?_ ?_ ?_ ?_; (iterate 2 (focus (simp only [go_sem, *]; done))); (iterate 2 (focus (first | (simp; done) | (simp [go_sem]; done)))); simp only [go_sem, w6, *]) | (refine o3 (p2) ?_ rfl ?_ ?_ ?_ ?_; (iterate 2 (focus (simp only [go_sem, *]; done))); (iterate 2 (focus (first | (simp; done) | (simp [go_sem]; done)))); simp only [go_sem, w6, *]) | (refine X3 (c2) ?_ ?_; (focus (simp only [go_sem, *]; done)); simp only [go_sem, *]) | (refine X3 (c3) ?_ ?_; (focus (simp only [go_sem, *]; done)); simp only [go_sem, *]) | (refine o3 (c4) ?_ rfl ?_ ?_ ?_ ?_; (iterate 2 (focus (simp only [go_sem, *]; done))); (iterate 2 (focus (first | (simp; done) | (simp [go_sem]; done)))); simp only [go_sem, w6, *]) | ((with_reducible apply And.intro); focus omega) | (refine z5 hK ?_; clear hK; simp only [go_sem, *]) | simp only [z3, z4, go_sem, *])
 all_goals try contradiction
 refine ⟨?_⟩
 clear sw c1 c2 c3 c4 r1 r2 p1 p2
 refine H8 (N := 624) (env := [(0, bV false)]) (As := []) [] [] (by (simp only [Weak, go_sem, List.map_append, List.map_set, *] <;> (try simp (disch := omega) only [y8]) <;> (try simp) <;> (try omega))) ?_
 repeat' (first | ((with_reducible refine stop_at [0, 1, 1, 1, 1] ?_)) | (refine Qr rfl ?_; try intro _ hK; try simp only [go_sem, *]) | (refine Qi rfl rfl rfl rfl ?_ ?_ <;> (intro hb; (try intro _ hK); have hc := hb; try simp only [go_sem] at hc; simp only [go_sem, *])) | refine Qh rfl ?_ | refine Qd rfl (by kernel_rfl) ?_ | (refine Qc rfl rfl ?_ ?_ <;> (intro hb; have hc := hb; try simp only [go_sem] at hc)) | refine z6 rfl ?_ | (refine Qb ?_ ?_; focus kernel_rfl) | ((with_reducible apply And.intro); focus omega) | (refine z5 hK ?_; clear hK; simp only [go_sem, *]) | simp only [z3, z4, go_sem, *])
 all_goals try contradiction
 refine ⟨?_⟩
 refine H8 (N := 624) (env := [(2, .ptr 1 0), (1, .own 0 2 0 2), (0, bV false)]) (As := [.row 2 [.agg [iV 2, iV 0], .agg [iV 2, iV 1]], .box [iV 7, iV 0, iV 2, iV 2, iV 0, iV 4, iV 0]]) [some 0, some 1] [] (by (simp only [Weak, go_sem, List.map_append, List.map_set, *] <;> (try simp (disch := omega) only [y8]) <;> (try simp) <;> (try omega))) ?_
 repeat' (first | (refine Qr rfl ?_; try intro _ hK; try simp only [go_sem, *]) | (refine Qi rfl rfl rfl rfl ?_ ?_ <;> (intro hb; (try intro _ hK); have hc := hb; try simp only [go_sem] at hc; simp only [go_sem, *])) | refine Qh rfl ?_ | refine Qd rfl (by kernel_rfl) ?_ | (refine Qc rfl rfl ?_ ?_ <;> (intro hb; have hc := hb; try simp only [go_sem] at hc)) | refine z6 rfl ?_ | (refine Qb ?_ ?_; focus kernel_rfl) | ((with_reducible apply And.intro); focus omega) | (refine z5 hK ?_; clear hK; simp only [go_sem, *]) | simp only [z3, z4, go_sem, *])
 all_goals try contradiction
 have t := sp_rowN [1] (by decide)
 (try simp only [sA, sCourt, sShut, sDiv, sFell, sFell6, sJoin0, sMixed, sDivided, zJo, zJi, W2, atX, zeroPlate, zNq, List.map_cons, List.map_nil, decide_true, Option.getD_some, zOK] at t)
 refine zBR [] [2] t rfl (by simp only [go_sem]) (by simp) ?_ ?_ (by simp [go_sem]) (by simp [go_sem]) ?_
 ·simp only [go_sem, *]
 ·simp only [go_sem, *]
 simp only [go_sem, w6, *]
 clear t
 repeat' (first | (refine Qr rfl ?_; try intro _ hK; try simp only [go_sem, *]) | (refine Qi rfl rfl rfl rfl ?_ ?_ <;> (intro hb; (try intro _ hK); have hc := hb; try simp only [go_sem] at hc; simp only [go_sem, *])) | refine Qh rfl ?_ | refine Qd rfl (by kernel_rfl) ?_ | (refine Qc rfl rfl ?_ ?_ <;> (intro hb; have hc := hb; try simp only [go_sem] at hc)) | refine z6 rfl ?_ | (refine Qb ?_ ?_; focus kernel_rfl) | ((with_reducible apply And.intro); focus omega) | (refine z5 hK ?_; clear hK; simp only [go_sem, *]) | simp only [z3, z4, go_sem, *])
 all_goals try contradiction
 repeat' (first | (refine Qr rfl ?_; try intro _ hK; try simp only [go_sem, *]) | (refine Qi rfl rfl rfl rfl ?_ ?_ <;> (intro hb; (try intro _ hK); have hc := hb; try simp only [go_sem] at hc; simp only [go_sem, *])) | refine Qh rfl ?_ | refine Qd rfl (by kernel_rfl) ?_ | (refine Qc rfl rfl ?_ ?_ <;> (intro hb; have hc := hb; try simp only [go_sem] at hc)) | refine z6 rfl ?_ | (refine Qb ?_ ?_; focus kernel_rfl) | ((with_reducible apply And.intro); focus omega) | (refine z5 hK ?_; clear hK; simp only [go_sem, *]) | simp only [z3, z4, go_sem, *])
 all_goals try contradiction
 have t := sp_rowN [5] (by decide)
 (try simp only [sA, sCourt, sShut, sDiv, sFell, sFell6, sJoin0, sMixed, sDivided, zJo, zJi, W2, atX, zeroPlate, zNq, List.map_cons, List.map_nil, decide_true, Option.getD_some, zOK] at t)
 refine zBR [] [5] t rfl (by simp only [go_sem]) (by simp) ?_ ?_ (by simp [go_sem]) (by simp [go_sem]) ?_
 ·simp only [go_sem, *]
 ·simp only [go_sem, *]
 simp only [go_sem, w6, *]
 clear t
 repeat' (first | (refine Qr rfl ?_; try intro _ hK; try simp only [go_sem, *]) | (refine Qi rfl rfl rfl rfl ?_ ?_ <;> (intro hb; (try intro _ hK); have hc := hb; try simp only [go_sem] at hc; simp only [go_sem, *])) | refine Qh rfl ?_ | refine Qd rfl (by kernel_rfl) ?_ | (refine Qc rfl rfl ?_ ?_ <;> (intro hb; have hc := hb; try simp only [go_sem] at hc)) | refine z6 rfl ?_ | (refine Qb ?_ ?_; focus kernel_rfl) | ((with_reducible apply And.intro); focus omega) | (refine z5 hK ?_; clear hK; simp only [go_sem, *]) | simp only [z3, z4, go_sem, *])
 all_goals try contradiction
 repeat' (first | (refine Qr rfl ?_; try intro _ hK; try simp only [go_sem, *]) | (refine Qi rfl rfl rfl rfl ?_ ?_ <;> (intro hb; (try intro _ hK); have hc := hb; try simp only [go_sem] at hc; simp only [go_sem, *])) | refine Qh rfl ?_ | refine Qd rfl (by kernel_rfl) ?_ | (refine Qc rfl rfl ?_ ?_ <;> (intro hb; have hc := hb; try simp only [go_sem] at hc)) | refine z6 rfl ?_ | (refine Qb ?_ ?_; focus kernel_rfl) | ((with_reducible apply And.intro); focus omega) | (refine z5 hK ?_; clear hK; simp only [go_sem, *]) | simp only [z3, z4, go_sem, *])
 all_goals try contradiction
 have t := zAx [⟨1, 0⟩, ⟨2, 0⟩, ⟨2, 1⟩, ⟨5, 0⟩] [] []
 (try simp only [sA, sCourt, sShut, sDiv, sFell, sFell6, sJoin0, sMixed, sDivided, zJo, zJi, W2, atX, zeroPlate, zNq, List.map_cons, List.map_nil, decide_true, Option.getD_some, zOK] at t)
 (refine o3 (t) (by simp only [go_sem, *]; done) rfl (by simp only [go_sem]; done) (by simp) (by simp) ?_; simp only [go_sem, w6, *])
 clear t
 repeat' (first | (refine Qr rfl ?_; try intro _ hK; try simp only [go_sem, *]) | (refine Qi rfl rfl rfl rfl ?_ ?_ <;> (intro hb; (try intro _ hK); have hc := hb; try simp only [go_sem] at hc; simp only [go_sem, *])) | refine Qh rfl ?_ | refine Qd rfl (by kernel_rfl) ?_ | (refine Qc rfl rfl ?_ ?_ <;> (intro hb; have hc := hb; try simp only [go_sem] at hc)) | refine z6 rfl ?_ | (refine Qb ?_ ?_; focus kernel_rfl) | ((with_reducible apply And.intro); focus omega) | (refine z5 hK ?_; clear hK; simp only [go_sem, *]) | simp only [z3, z4, go_sem, *])
 all_goals try contradiction
 have t := sp_rowN [1] (by decide)
 (try simp only [sA, sCourt, sShut, sDiv, sFell, sFell6, sJoin0, sMixed, sDivided, zJo, zJi, W2, atX, zeroPlate, zNq, List.map_cons, List.map_nil, decide_true, Option.getD_some, zOK] at t)
 refine zBR [] [8] t rfl (by simp only [go_sem]) (by simp) ?_ ?_ (by simp [go_sem]) (by simp [go_sem]) ?_
 ·simp only [go_sem, *]
 ·simp only [go_sem, *]
 simp only [go_sem, w6, *]
 clear t
 repeat' (first | (refine Qr rfl ?_; try intro _ hK; try simp only [go_sem, *]) | (refine Qi rfl rfl rfl rfl ?_ ?_ <;> (intro hb; (try intro _ hK); have hc := hb; try simp only [go_sem] at hc; simp only [go_sem, *])) | refine Qh rfl ?_ | refine Qd rfl (by kernel_rfl) ?_ | (refine Qc rfl rfl ?_ ?_ <;> (intro hb; have hc := hb; try simp only [go_sem] at hc)) | refine z6 rfl ?_ | (refine Qb ?_ ?_; focus kernel_rfl) | ((with_reducible apply And.intro); focus omega) | (refine z5 hK ?_; clear hK; simp only [go_sem, *]) | simp only [z3, z4, go_sem, *])
 all_goals try contradiction
 repeat' (first | (refine Qr rfl ?_; try intro _ hK; try simp only [go_sem, *]) | (refine Qi rfl rfl rfl rfl ?_ ?_ <;> (intro hb; (try intro _ hK); have hc := hb; try simp only [go_sem] at hc; simp only [go_sem, *])) | refine Qh rfl ?_ | refine Qd rfl (by kernel_rfl) ?_ | (refine Qc rfl rfl ?_ ?_ <;> (intro hb; have hc := hb; try simp only [go_sem] at hc)) | refine z6 rfl ?_ | (refine Qb ?_ ?_; focus kernel_rfl) | ((with_reducible apply And.intro); focus omega) | (refine z5 hK ?_; clear hK; simp only [go_sem, *]) | simp only [z3, z4, go_sem, *])
 all_goals try contradiction
 have t := sp_rowN [3, 4, 5] (by decide)
 (try simp only [sA, sCourt, sShut, sDiv, sFell, sFell6, sJoin0, sMixed, sDivided, zJo, zJi, W2, atX, zeroPlate, zNq, List.map_cons, List.map_nil, decide_true, Option.getD_some, zOK] at t)
 refine zBR [] [11] t rfl (by simp only [go_sem]) (by simp) ?_ ?_ (by simp [go_sem]) (by simp [go_sem]) ?_
 ·simp only [go_sem, *]
 ·simp only [go_sem, *]
 simp only [go_sem, w6, *]
 clear t
 repeat' (first | (refine Qr rfl ?_; try intro _ hK; try simp only [go_sem, *]) | (refine Qi rfl rfl rfl rfl ?_ ?_ <;> (intro hb; (try intro _ hK); have hc := hb; try simp only [go_sem] at hc; simp only [go_sem, *])) | refine Qh rfl ?_ | refine Qd rfl (by kernel_rfl) ?_ | (refine Qc rfl rfl ?_ ?_ <;> (intro hb; have hc := hb; try simp only [go_sem] at hc)) | refine z6 rfl ?_ | (refine Qb ?_ ?_; focus kernel_rfl) | ((with_reducible apply And.intro); focus omega) | (refine z5 hK ?_; clear hK; simp only [go_sem, *]) | simp only [z3, z4, go_sem, *])
 all_goals try contradiction
 have t := E7 [1, 2] (by decide)
 (try simp only [sA, sCourt, sShut, sDiv, sFell, sFell6, sJoin0, sMixed, sDivided, zJo, zJi, W2, atX, zeroPlate, zNq, List.map_cons, List.map_nil, decide_true, Option.getD_some, zOK] at t)
 (refine o3 (t) (by simp only [go_sem, *]; done) rfl (by simp only [go_sem]; done) (by simp) (by simp) ?_; simp only [go_sem, w6, *])
 clear t
 repeat' (first | (refine Qr rfl ?_; try intro _ hK; try simp only [go_sem, *]) | (refine Qi rfl rfl rfl rfl ?_ ?_ <;> (intro hb; (try intro _ hK); have hc := hb; try simp only [go_sem] at hc; simp only [go_sem, *])) | refine Qh rfl ?_ | refine Qd rfl (by kernel_rfl) ?_ | (refine Qc rfl rfl ?_ ?_ <;> (intro hb; have hc := hb; try simp only [go_sem] at hc)) | refine z6 rfl ?_ | (refine Qb ?_ ?_; focus kernel_rfl) | ((with_reducible apply And.intro); focus omega) | (refine z5 hK ?_; clear hK; simp only [go_sem, *]) | simp only [z3, z4, go_sem, *])
 all_goals try contradiction
 have t := zAx [⟨1, 0⟩, ⟨2, 0⟩, ⟨2, 1⟩, ⟨3, 0⟩, ⟨4, 0⟩, ⟨5, 0⟩] (zNq [1, 2]) []
 (try simp only [sA, sCourt, sShut, sDiv, sFell, sFell6, sJoin0, sMixed, sDivided, zJo, zJi, W2, atX, zeroPlate, zNq, List.map_cons, List.map_nil, decide_true, Option.getD_some, zOK] at t)
 (refine o3 (t) (by simp only [go_sem, *]; done) rfl (by simp only [go_sem]; done) (by simp) (by simp) ?_; simp only [go_sem, w6, *])
 clear t
 repeat' (first | ((with_reducible refine stop_at [0, 1, 1, 1, 1, 1] ?_)) | (refine Qr rfl ?_; try intro _ hK; try simp only [go_sem, *]) | (refine Qi rfl rfl rfl rfl ?_ ?_ <;> (intro hb; (try intro _ hK); have hc := hb; try simp only [go_sem] at hc; simp only [go_sem, *])) | refine Qh rfl ?_ | refine Qd rfl (by kernel_rfl) ?_ | (refine Qc rfl rfl ?_ ?_ <;> (intro hb; have hc := hb; try simp only [go_sem] at hc)) | refine z6 rfl ?_ | (refine Qb ?_ ?_; focus kernel_rfl) | ((with_reducible apply And.intro); focus omega) | (refine z5 hK ?_; clear hK; simp only [go_sem, *]) | simp only [z3, z4, go_sem, *])
 all_goals try contradiction
 refine ⟨?_⟩
 refine H8 (N := 624) (env := [(4, .ptr 3 0), (3, .ptr 2 0), (2, .ptr 0 0), (1, .own 1 2 0 2), (0, bV false)]) (As := [.box [iV 7, iV 0, iV 2, iV 2, iV 0, iV 4, iV 0], .row 2 (sA.map Plate.enc), .box [.list (sMixed.map q9)], .box [.list (sDivided.map q9)]]) [some 1, some 0, some 15, some 16] [] (by (simp only [sA, sCourt, sShut, sDiv, sFell, sFell6, sJoin0, sMixed, sDivided, zJo, zJi, W2, atX, zeroPlate, zNq, List.map_cons, List.map_nil, decide_true, Option.getD_some, zOK]; (simp only [Weak, go_sem, List.map_append, List.map_set, *] <;> (try simp (disch := omega) only [y8]) <;> (try simp) <;> (try omega)))) ?_
 repeat' (first | (refine Qr rfl ?_; try intro _ hK; try simp only [go_sem, *]) | (refine Qi rfl rfl rfl rfl ?_ ?_ <;> (intro hb; (try intro _ hK); have hc := hb; try simp only [go_sem] at hc; simp only [go_sem, *])) | refine Qh rfl ?_ | refine Qd rfl (by kernel_rfl) ?_ | (refine Qc rfl rfl ?_ ?_ <;> (intro hb; have hc := hb; try simp only [go_sem] at hc)) | refine z6 rfl ?_ | (refine Qb ?_ ?_; focus kernel_rfl) | ((with_reducible apply And.intro); focus omega) | (refine z5 hK ?_; clear hK; simp only [go_sem, *]) | simp only [z3, z4, go_sem, *])
 all_goals try contradiction
 have t := zDJ
 (try simp only [sA, sCourt, sShut, sDiv, sFell, sFell6, sJoin0, sMixed, sDivided, zJo, zJi, W2, atX, zeroPlate, zNq, List.map_cons, List.map_nil, decide_true, Option.getD_some, zOK] at t)
 refine X3 t (by simp only [go_sem, *]) ?_
 simp only [go_sem, *]
 clear t
 repeat' (first | (refine Qr rfl ?_; try intro _ hK; try simp only [go_sem, *]) | (refine Qi rfl rfl rfl rfl ?_ ?_ <;> (intro hb; (try intro _ hK); have hc := hb; try simp only [go_sem] at hc; simp only [go_sem, *])) | refine Qh rfl ?_ | refine Qd rfl (by kernel_rfl) ?_ | (refine Qc rfl rfl ?_ ?_ <;> (intro hb; have hc := hb; try simp only [go_sem] at hc)) | refine z6 rfl ?_ | (refine Qb ?_ ?_; focus kernel_rfl) | ((with_reducible apply And.intro); focus omega) | (refine z5 hK ?_; clear hK; simp only [go_sem, *]) | simp only [z3, z4, go_sem, *])
 all_goals try contradiction
 have t := zDJ
 (try simp only [sA, sCourt, sShut, sDiv, sFell, sFell6, sJoin0, sMixed, sDivided, zJo, zJi, W2, atX, zeroPlate, zNq, List.map_cons, List.map_nil, decide_true, Option.getD_some, zOK] at t)
 refine X3 t (by simp only [go_sem, *]) ?_
 simp only [go_sem, *]
 clear t
 repeat' (first | (refine Qr rfl ?_; try intro _ hK; try simp only [go_sem, *]) | (refine Qi rfl rfl rfl rfl ?_ ?_ <;> (intro hb; (try intro _ hK); have hc := hb; try simp only [go_sem] at hc; simp only [go_sem, *])) | refine Qh rfl ?_ | refine Qd rfl (by kernel_rfl) ?_ | (refine Qc rfl rfl ?_ ?_ <;> (intro hb; have hc := hb; try simp only [go_sem] at hc)) | refine z6 rfl ?_ | (refine Qb ?_ ?_; focus kernel_rfl) | ((with_reducible apply And.intro); focus omega) | (refine z5 hK ?_; clear hK; simp only [go_sem, *]) | simp only [z3, z4, go_sem, *])
 all_goals try contradiction
 have t := zDJ
 (try simp only [sA, sCourt, sShut, sDiv, sFell, sFell6, sJoin0, sMixed, sDivided, zJo, zJi, W2, atX, zeroPlate, zNq, List.map_cons, List.map_nil, decide_true, Option.getD_some, zOK] at t)
 refine X3 t (by simp only [go_sem, *]) ?_
 simp only [go_sem, *]
 clear t
 repeat' (first | (refine Qr rfl ?_; try intro _ hK; try simp only [go_sem, *]) | (refine Qi rfl rfl rfl rfl ?_ ?_ <;> (intro hb; (try intro _ hK); have hc := hb; try simp only [go_sem] at hc; simp only [go_sem, *])) | refine Qh rfl ?_ | refine Qd rfl (by kernel_rfl) ?_ | (refine Qc rfl rfl ?_ ?_ <;> (intro hb; have hc := hb; try simp only [go_sem] at hc)) | refine z6 rfl ?_ | (refine Qb ?_ ?_; focus kernel_rfl) | ((with_reducible apply And.intro); focus omega) | (refine z5 hK ?_; clear hK; simp only [go_sem, *]) | simp only [z3, z4, go_sem, *])
 all_goals try contradiction
 have t := zJP 0
 (try simp only [sA, sCourt, sShut, sDiv, sFell, sFell6, sJoin0, sMixed, sDivided, zJo, zJi, W2, atX, zeroPlate, zNq, List.map_cons, List.map_nil, decide_true, Option.getD_some, zOK] at t)
 refine X3 t (by simp only [go_sem, *]) ?_
 simp only [go_sem, *]
 clear t
 repeat' (first | (refine Qr rfl ?_; try intro _ hK; try simp only [go_sem, *]) | (refine Qi rfl rfl rfl rfl ?_ ?_ <;> (intro hb; (try intro _ hK); have hc := hb; try simp only [go_sem] at hc; simp only [go_sem, *])) | refine Qh rfl ?_ | refine Qd rfl (by kernel_rfl) ?_ | (refine Qc rfl rfl ?_ ?_ <;> (intro hb; have hc := hb; try simp only [go_sem] at hc)) | refine z6 rfl ?_ | (refine Qb ?_ ?_; focus kernel_rfl) | ((with_reducible apply And.intro); focus omega) | (refine z5 hK ?_; clear hK; simp only [go_sem, *]) | simp only [z3, z4, go_sem, *])
 all_goals try contradiction
 have t := zJI 5 0 2
 (try simp only [sA, sCourt, sShut, sDiv, sFell, sFell6, sJoin0, sMixed, sDivided, zJo, zJi, W2, atX, zeroPlate, zNq, List.map_cons, List.map_nil, decide_true, Option.getD_some, zOK] at t)
 refine X3 t (by simp only [go_sem, *]) ?_
 simp only [go_sem, *]
 clear t
 repeat' (first | (refine Qr rfl ?_; try intro _ hK; try simp only [go_sem, *]) | (refine Qi rfl rfl rfl rfl ?_ ?_ <;> (intro hb; (try intro _ hK); have hc := hb; try simp only [go_sem] at hc; simp only [go_sem, *])) | refine Qh rfl ?_ | refine Qd rfl (by kernel_rfl) ?_ | (refine Qc rfl rfl ?_ ?_ <;> (intro hb; have hc := hb; try simp only [go_sem] at hc)) | refine z6 rfl ?_ | (refine Qb ?_ ?_; focus kernel_rfl) | ((with_reducible apply And.intro); focus omega) | (refine z5 hK ?_; clear hK; simp only [go_sem, *]) | simp only [z3, z4, go_sem, *])
 all_goals try contradiction
 have t := E7 [1, 2, 3, 4, 6] (by decide)
 (try simp only [sA, sCourt, sShut, sDiv, sFell, sFell6, sJoin0, sMixed, sDivided, zJo, zJi, W2, atX, zeroPlate, zNq, List.map_cons, List.map_nil, decide_true, Option.getD_some, zOK] at t)
 (refine o3 (t) (by simp only [go_sem, *]; done) rfl (by simp only [go_sem]; done) (by simp) (by simp) ?_; simp only [go_sem, w6, *])
 clear t
 repeat' (first | (refine Qr rfl ?_; try intro _ hK; try simp only [go_sem, *]) | (refine Qi rfl rfl rfl rfl ?_ ?_ <;> (intro hb; (try intro _ hK); have hc := hb; try simp only [go_sem] at hc; simp only [go_sem, *])) | refine Qh rfl ?_ | refine Qd rfl (by kernel_rfl) ?_ | (refine Qc rfl rfl ?_ ?_ <;> (intro hb; have hc := hb; try simp only [go_sem] at hc)) | refine z6 rfl ?_ | (refine Qb ?_ ?_; focus kernel_rfl) | ((with_reducible apply And.intro); focus omega) | (refine z5 hK ?_; clear hK; simp only [go_sem, *]) | simp only [z3, z4, go_sem, *])
 all_goals try contradiction
 have t := E7 [1, 2] (by decide)
 (try simp only [sA, sCourt, sShut, sDiv, sFell, sFell6, sJoin0, sMixed, sDivided, zJo, zJi, W2, atX, zeroPlate, zNq, List.map_cons, List.map_nil, decide_true, Option.getD_some, zOK] at t)
 (refine o3 (t) (by simp only [go_sem, *]; done) rfl (by simp only [go_sem]; done) (by simp) (by simp) ?_; simp only [go_sem, w6, *])
 clear t
 repeat' (first | (refine Qr rfl ?_; try intro _ hK; try simp only [go_sem, *]) | (refine Qi rfl rfl rfl rfl ?_ ?_ <;> (intro hb; (try intro _ hK); have hc := hb; try simp only [go_sem] at hc; simp only [go_sem, *])) | refine Qh rfl ?_ | refine Qd rfl (by kernel_rfl) ?_ | (refine Qc rfl rfl ?_ ?_ <;> (intro hb; have hc := hb; try simp only [go_sem] at hc)) | refine z6 rfl ?_ | (refine Qb ?_ ?_; focus kernel_rfl) | ((with_reducible apply And.intro); focus omega) | (refine z5 hK ?_; clear hK; simp only [go_sem, *]) | simp only [z3, z4, go_sem, *])
 all_goals try contradiction
 have t := zAx (zNq [1, 2, 3, 4, 6]) (zNq [1, 2]) []
 (try simp only [sA, sCourt, sShut, sDiv, sFell, sFell6, sJoin0, sMixed, sDivided, zJo, zJi, W2, atX, zeroPlate, zNq, List.map_cons, List.map_nil, decide_true, Option.getD_some, zOK] at t)
 (refine o3 (t) (by simp only [go_sem, *]; done) rfl (by simp only [go_sem]; done) (by simp) (by simp) ?_; simp only [go_sem, w6, *])
 clear t
 repeat' (first | (refine Qr rfl ?_; try intro _ hK; try simp only [go_sem, *]) | (refine Qi rfl rfl rfl rfl ?_ ?_ <;> (intro hb; (try intro _ hK); have hc := hb; try simp only [go_sem] at hc; simp only [go_sem, *])) | refine Qh rfl ?_ | refine Qd rfl (by kernel_rfl) ?_ | (refine Qc rfl rfl ?_ ?_ <;> (intro hb; have hc := hb; try simp only [go_sem] at hc)) | refine z6 rfl ?_ | (refine Qb ?_ ?_; focus kernel_rfl) | ((with_reducible apply And.intro); focus omega) | (refine z5 hK ?_; clear hK; simp only [go_sem, *]) | simp only [z3, z4, go_sem, *])
 all_goals try contradiction
 have t := E7 [1, 5] (by decide)
 (try simp only [sA, sCourt, sShut, sDiv, sFell, sFell6, sJoin0, sMixed, sDivided, zJo, zJi, W2, atX, zeroPlate, zNq, List.map_cons, List.map_nil, decide_true, Option.getD_some, zOK] at t)
 (refine o3 (t) (by simp only [go_sem, *]; done) rfl (by simp only [go_sem]; done) (by simp) (by simp) ?_; simp only [go_sem, w6, *])
 clear t
 repeat' (first | (refine Qr rfl ?_; try intro _ hK; try simp only [go_sem, *]) | (refine Qi rfl rfl rfl rfl ?_ ?_ <;> (intro hb; (try intro _ hK); have hc := hb; try simp only [go_sem] at hc; simp only [go_sem, *])) | refine Qh rfl ?_ | refine Qd rfl (by kernel_rfl) ?_ | (refine Qc rfl rfl ?_ ?_ <;> (intro hb; have hc := hb; try simp only [go_sem] at hc)) | refine z6 rfl ?_ | (refine Qb ?_ ?_; focus kernel_rfl) | ((with_reducible apply And.intro); focus omega) | (refine z5 hK ?_; clear hK; simp only [go_sem, *]) | simp only [z3, z4, go_sem, *])
 all_goals try contradiction
 have t := E7 [1, 2] (by decide)
 (try simp only [sA, sCourt, sShut, sDiv, sFell, sFell6, sJoin0, sMixed, sDivided, zJo, zJi, W2, atX, zeroPlate, zNq, List.map_cons, List.map_nil, decide_true, Option.getD_some, zOK] at t)
 (refine o3 (t) (by simp only [go_sem, *]; done) rfl (by simp only [go_sem]; done) (by simp) (by simp) ?_; simp only [go_sem, w6, *])
 clear t
 repeat' (first | (refine Qr rfl ?_; try intro _ hK; try simp only [go_sem, *]) | (refine Qi rfl rfl rfl rfl ?_ ?_ <;> (intro hb; (try intro _ hK); have hc := hb; try simp only [go_sem] at hc; simp only [go_sem, *])) | refine Qh rfl ?_ | refine Qd rfl (by kernel_rfl) ?_ | (refine Qc rfl rfl ?_ ?_ <;> (intro hb; have hc := hb; try simp only [go_sem] at hc)) | refine z6 rfl ?_ | (refine Qb ?_ ?_; focus kernel_rfl) | ((with_reducible apply And.intro); focus omega) | (refine z5 hK ?_; clear hK; simp only [go_sem, *]) | simp only [z3, z4, go_sem, *])
 all_goals try contradiction
 have t := E7 [1, 2, 3] (by decide)
 (try simp only [sA, sCourt, sShut, sDiv, sFell, sFell6, sJoin0, sMixed, sDivided, zJo, zJi, W2, atX, zeroPlate, zNq, List.map_cons, List.map_nil, decide_true, Option.getD_some, zOK] at t)
 (refine o3 (t) (by simp only [go_sem, *]; done) rfl (by simp only [go_sem]; done) (by simp) (by simp) ?_; simp only [go_sem, w6, *])
 clear t
 repeat' (first | (refine Qr rfl ?_; try intro _ hK; try simp only [go_sem, *]) | (refine Qi rfl rfl rfl rfl ?_ ?_ <;> (intro hb; (try intro _ hK); have hc := hb; try simp only [go_sem] at hc; simp only [go_sem, *])) | refine Qh rfl ?_ | refine Qd rfl (by kernel_rfl) ?_ | (refine Qc rfl rfl ?_ ?_ <;> (intro hb; have hc := hb; try simp only [go_sem] at hc)) | refine z6 rfl ?_ | (refine Qb ?_ ?_; focus kernel_rfl) | ((with_reducible apply And.intro); focus omega) | (refine z5 hK ?_; clear hK; simp only [go_sem, *]) | simp only [z3, z4, go_sem, *])
 all_goals try contradiction
 have t := zAx (zNq [1, 5]) (zNq [1, 2]) (zNq [1, 2, 3])
 (try simp only [sA, sCourt, sShut, sDiv, sFell, sFell6, sJoin0, sMixed, sDivided, zJo, zJi, W2, atX, zeroPlate, zNq, List.map_cons, List.map_nil, decide_true, Option.getD_some, zOK] at t)
 (refine o3 (t) (by simp only [go_sem, *]; done) rfl (by simp only [go_sem]; done) (by simp) (by simp) ?_; simp only [go_sem, w6, *])
 clear t
 repeat' (first | (refine Qr rfl ?_; try intro _ hK; try simp only [go_sem, *]) | (refine Qi rfl rfl rfl rfl ?_ ?_ <;> (intro hb; (try intro _ hK); have hc := hb; try simp only [go_sem] at hc; simp only [go_sem, *])) | refine Qh rfl ?_ | refine Qd rfl (by kernel_rfl) ?_ | (refine Qc rfl rfl ?_ ?_ <;> (intro hb; have hc := hb; try simp only [go_sem] at hc)) | refine z6 rfl ?_ | (refine Qb ?_ ?_; focus kernel_rfl) | ((with_reducible apply And.intro); focus omega) | (refine z5 hK ?_; clear hK; simp only [go_sem, *]) | simp only [z3, z4, go_sem, *])
 all_goals try contradiction
 have t := E7 [1, 2, 3, 4] (by decide)
 (try simp only [sA, sCourt, sShut, sDiv, sFell, sFell6, sJoin0, sMixed, sDivided, zJo, zJi, W2, atX, zeroPlate, zNq, List.map_cons, List.map_nil, decide_true, Option.getD_some, zOK] at t)
 (refine o3 (t) (by simp only [go_sem, *]; done) rfl (by simp only [go_sem]; done) (by simp) (by simp) ?_; simp only [go_sem, w6, *])
 clear t
 repeat' (first | (refine Qr rfl ?_; try intro _ hK; try simp only [go_sem, *]) | (refine Qi rfl rfl rfl rfl ?_ ?_ <;> (intro hb; (try intro _ hK); have hc := hb; try simp only [go_sem] at hc; simp only [go_sem, *])) | refine Qh rfl ?_ | refine Qd rfl (by kernel_rfl) ?_ | (refine Qc rfl rfl ?_ ?_ <;> (intro hb; have hc := hb; try simp only [go_sem] at hc)) | refine z6 rfl ?_ | (refine Qb ?_ ?_; focus kernel_rfl) | ((with_reducible apply And.intro); focus omega) | (refine z5 hK ?_; clear hK; simp only [go_sem, *]) | simp only [z3, z4, go_sem, *])
 all_goals try contradiction
 have t := zAx (zNq [1, 2, 3, 4]) [] []
 (try simp only [sA, sCourt, sShut, sDiv, sFell, sFell6, sJoin0, sMixed, sDivided, zJo, zJi, W2, atX, zeroPlate, zNq, List.map_cons, List.map_nil, decide_true, Option.getD_some, zOK] at t)
 (refine o3 (t) (by simp only [go_sem, *]; done) rfl (by simp only [go_sem]; done) (by simp) (by simp) ?_; simp only [go_sem, w6, *])
 clear t
 repeat' (first | ((with_reducible refine stop_at [0, 1, 1, 1, 1, 1, 1] ?_)) | (refine Qr rfl ?_; try intro _ hK; try simp only [go_sem, *]) | (refine Qi rfl rfl rfl rfl ?_ ?_ <;> (intro hb; (try intro _ hK); have hc := hb; try simp only [go_sem] at hc; simp only [go_sem, *])) | refine Qh rfl ?_ | refine Qd rfl (by kernel_rfl) ?_ | (refine Qc rfl rfl ?_ ?_ <;> (intro hb; have hc := hb; try simp only [go_sem] at hc)) | refine z6 rfl ?_ | (refine Qb ?_ ?_; focus kernel_rfl) | ((with_reducible apply And.intro); focus omega) | (refine z5 hK ?_; clear hK; simp only [go_sem, *]) | simp only [z3, z4, go_sem, *])
 all_goals try contradiction
 refine ⟨?_⟩
 obtain ⟨Ps, hPs⟩ : ∃ x, x = sPs := ⟨_, rfl⟩
 obtain ⟨Cs, hCs⟩ : ∃ x, x = sCs := ⟨_, rfl⟩
 obtain ⟨Qs, hQs⟩ : ∃ x, x = sQs := ⟨_, rfl⟩
 refine H8 (N := 624) (env := [(7, .list (Qs.map y3)), (6, .list (Cs.map Change.enc)), (5, .list (Ps.map y3)), (2, .ptr 0 0), (1, .own 1 2 0 2), (0, bV false)]) (As := [.box [iV 7, iV 0, iV 2, iV 2, iV 0, iV 4, iV 0], .row 2 (sA.map Plate.enc)]) [some 0, some 1] [12, 5, 4] (by (rw [hPs, hCs, hQs]; simp only [sPs, sCs, sQs, sA, sCourt, sShut, sDiv, sFell, sFell6, sJoin0, sMixed, sDivided, zJo, zJi, W2, atX, zeroPlate, zNq, List.map_cons, List.map_nil, decide_true, Option.getD_some, zOK]; (simp only [Weak, go_sem, List.map_append, List.map_set, *] <;> (try simp (disch := omega) only [y8]) <;> (try simp) <;> (try omega)))) ?_
 have lc6l := fun i (h : i < 4) => y_after h
 have lc7l := fun i (h : i < 4) => y_eqp h
 simp only [← hPs, ← hCs, ← hQs] at lc6l lc7l
 have lP : Ps.length = 4 := by rw [hPs]; rfl
 have lC : Cs.length = 4 := by rw [hCs]; rfl
 have lQ : Qs.length = 4 := by rw [hQs]; rfl
 clear hPs hCs hQs
 repeat' (first | (refine Qr rfl ?_; try intro _ hK; try simp only [go_sem, *]) | (refine Qi rfl rfl rfl rfl ?_ ?_ <;> (intro hb; (try intro _ hK); have hc := hb; try simp only [go_sem] at hc; simp only [go_sem, *])) | refine Qh rfl ?_ | refine Qd rfl (by kernel_rfl) ?_ | (refine Qc rfl rfl ?_ ?_ <;> (intro hb; have hc := hb; try simp only [go_sem] at hc)) | refine z6 rfl ?_ | (refine Qb ?_ ?_; focus kernel_rfl) | ((with_reducible apply And.intro); focus omega) | (refine z5 hK ?_; clear hK; simp only [go_sem, *]) | simp only [z3, z4, go_sem, *])
 all_goals try contradiction
 refine v5 rfl (4) (fun i => NoP i) 624 (fun i => [(8, iV i), (7, .list (Qs.map y3)), (6, .list (Cs.map Change.enc)), (5, .list (Ps.map y3)), (2, .ptr 0 0), (1, .own 1 2 0 2), (0, bV false)]) (fun i => [.box [iV 7, iV 0, iV 2, iV 2, iV 0, iV 4, iV 0], .row 2 (sA.map Plate.enc)]) [some 0, some 1] [] (by trivial) ?_; intro i hi hP
 have hwi : IntKind.i64.wrap ((i : Int) + 1) = ((i + 1 : Nat) : Int) := y8 (by omega)
 rcases Nat.lt_or_ge i 4 with hi | hi
 ·have hii : (i : Int) < 4 := by omega
  have t := lc6l i hi
  have u := lc7l i hi
  clear lc6l lc7l
  generalize hx0 : Ps.getD i default = x0 at *
  generalize hx1 : Cs.getD i default = x1 at *
  generalize hx2 : Qs.getD i default = x2 at *
  repeat' (first | (refine Qr rfl ?_; try intro _ hK; try simp only [go_sem, *]) | (refine Qi rfl rfl rfl rfl ?_ ?_ <;> (intro hb; (try intro _ hK); have hc := hb; try simp only [go_sem] at hc; simp only [go_sem, *])) | refine Qh rfl ?_ | refine Qd rfl (by kernel_rfl) ?_ | (refine Qc rfl rfl ?_ ?_ <;> (intro hb; have hc := hb; try simp only [go_sem] at hc)) | refine z6 rfl ?_ | (refine Qb ?_ ?_; focus kernel_rfl) | (refine X3 (t) ?_ ?_; (focus (simp only [go_sem, *]; done)); simp only [go_sem, *]) | (refine X3 (u) ?_ ?_; (focus (simp only [go_sem, *]; done)); simp only [go_sem, *]) | ((with_reducible apply And.intro); focus omega) | (refine z5 hK ?_; clear hK; simp only [go_sem, *]) | simp only [z3, z4, go_sem, *])
  all_goals first | contradiction | omega | skip
  exact v4 (i' := i + 1) [some 0, some 1] [] (by trivial)
 have hii : ¬ (i : Int) < 4 := by omega
 clear lc6l lc7l hwi hP
 repeat' (first | ((with_reducible refine stop_at [0, 1, 1, 1, 1, 1, 1, 1] ?_)) | (refine Qr rfl ?_; try intro _ hK; try simp only [go_sem, *]) | (refine Qi rfl rfl rfl rfl ?_ ?_ <;> (intro hb; (try intro _ hK); have hc := hb; try simp only [go_sem] at hc; simp only [go_sem, *])) | refine Qh rfl ?_ | refine Qd rfl (by kernel_rfl) ?_ | (refine Qc rfl rfl ?_ ?_ <;> (intro hb; have hc := hb; try simp only [go_sem] at hc)) | refine z6 rfl ?_ | (refine Qb ?_ ?_; focus kernel_rfl) | ((with_reducible apply And.intro); focus omega) | (refine z5 hK ?_; clear hK; simp only [go_sem, *]) | simp only [z3, z4, go_sem, *])
 all_goals try contradiction
 refine ⟨?_⟩
 refine H8 (N := 624) (env := [(2, .ptr 0 0), (1, .own 1 2 0 2), (0, bV false)]) (As := [.box [iV 7, iV 0, iV 2, iV 2, iV 0, iV 4, iV 0], .row 2 (sA.map Plate.enc)]) [some 0, some 1] [] (by (simp only [Weak, go_sem, List.map_append, List.map_set, *] <;> (try simp (disch := omega) only [y8]) <;> (try simp) <;> (try omega))) ?_
 repeat' (first | (refine Qr rfl ?_; try intro _ hK; try simp only [go_sem, *]) | (refine Qi rfl rfl rfl rfl ?_ ?_ <;> (intro hb; (try intro _ hK); have hc := hb; try simp only [go_sem] at hc; simp only [go_sem, *])) | refine Qh rfl ?_ | refine Qd rfl (by kernel_rfl) ?_ | (refine Qc rfl rfl ?_ ?_ <;> (intro hb; have hc := hb; try simp only [go_sem] at hc)) | refine z6 rfl ?_ | (refine Qb ?_ ?_; focus kernel_rfl) | ((with_reducible apply And.intro); focus omega) | (refine z5 hK ?_; clear hK; simp only [go_sem, *]) | simp only [z3, z4, go_sem, *])
 all_goals try contradiction
 have t := zDJ
 (try simp only [sA, sCourt, sShut, sDiv, sFell, sFell6, sJoin0, sMixed, sDivided, zJo, zJi, W2, atX, zeroPlate, zNq, List.map_cons, List.map_nil, decide_true, Option.getD_some, zOK] at t)
 refine X3 t (by simp only [go_sem, *]) ?_
 simp only [go_sem, *]
 clear t
 repeat' (first | (refine Qr rfl ?_; try intro _ hK; try simp only [go_sem, *]) | (refine Qi rfl rfl rfl rfl ?_ ?_ <;> (intro hb; (try intro _ hK); have hc := hb; try simp only [go_sem] at hc; simp only [go_sem, *])) | refine Qh rfl ?_ | refine Qd rfl (by kernel_rfl) ?_ | (refine Qc rfl rfl ?_ ?_ <;> (intro hb; have hc := hb; try simp only [go_sem] at hc)) | refine z6 rfl ?_ | (refine Qb ?_ ?_; focus kernel_rfl) | ((with_reducible apply And.intro); focus omega) | (refine z5 hK ?_; clear hK; simp only [go_sem, *]) | simp only [z3, z4, go_sem, *])
 all_goals try contradiction
 have t := zDG 0 0
 (try simp only [sA, sCourt, sShut, sDiv, sFell, sFell6, sJoin0, sMixed, sDivided, zJo, zJi, W2, atX, zeroPlate, zNq, List.map_cons, List.map_nil, decide_true, Option.getD_some, zOK] at t)
 refine X3 t (by simp only [go_sem, *]) ?_
 simp only [go_sem, *]
 clear t
 repeat' (first | (refine Qr rfl ?_; try intro _ hK; try simp only [go_sem, *]) | (refine Qi rfl rfl rfl rfl ?_ ?_ <;> (intro hb; (try intro _ hK); have hc := hb; try simp only [go_sem] at hc; simp only [go_sem, *])) | refine Qh rfl ?_ | refine Qd rfl (by kernel_rfl) ?_ | (refine Qc rfl rfl ?_ ?_ <;> (intro hb; have hc := hb; try simp only [go_sem] at hc)) | refine z6 rfl ?_ | (refine Qb ?_ ?_; focus kernel_rfl) | ((with_reducible apply And.intro); focus omega) | (refine z5 hK ?_; clear hK; simp only [go_sem, *]) | simp only [z3, z4, go_sem, *])
 all_goals try contradiction
 have t := y_aft k_err1 (by decide)
 (try simp only [sA, sCourt, sShut, sDiv, sFell, sFell6, sJoin0, sMixed, sDivided, zJo, zJi, W2, atX, zeroPlate, zNq, List.map_cons, List.map_nil, decide_true, Option.getD_some, zOK] at t)
 refine X3 t (by simp only [go_sem, *]) ?_
 simp only [go_sem, *]
 clear t
 repeat' (first | (refine Qr rfl ?_; try intro _ hK; try simp only [go_sem, *]) | (refine Qi rfl rfl rfl rfl ?_ ?_ <;> (intro hb; (try intro _ hK); have hc := hb; try simp only [go_sem] at hc; simp only [go_sem, *])) | refine Qh rfl ?_ | refine Qd rfl (by kernel_rfl) ?_ | (refine Qc rfl rfl ?_ ?_ <;> (intro hb; have hc := hb; try simp only [go_sem] at hc)) | refine z6 rfl ?_ | (refine Qb ?_ ?_; focus kernel_rfl) | ((with_reducible apply And.intro); focus omega) | (refine z5 hK ?_; clear hK; simp only [go_sem, *]) | simp only [z3, z4, go_sem, *])
 all_goals try contradiction
 have t := zDJ
 (try simp only [sA, sCourt, sShut, sDiv, sFell, sFell6, sJoin0, sMixed, sDivided, zJo, zJi, W2, atX, zeroPlate, zNq, List.map_cons, List.map_nil, decide_true, Option.getD_some, zOK] at t)
 refine X3 t (by simp only [go_sem, *]) ?_
 simp only [go_sem, *]
 clear t
 repeat' (first | (refine Qr rfl ?_; try intro _ hK; try simp only [go_sem, *]) | (refine Qi rfl rfl rfl rfl ?_ ?_ <;> (intro hb; (try intro _ hK); have hc := hb; try simp only [go_sem] at hc; simp only [go_sem, *])) | refine Qh rfl ?_ | refine Qd rfl (by kernel_rfl) ?_ | (refine Qc rfl rfl ?_ ?_ <;> (intro hb; have hc := hb; try simp only [go_sem] at hc)) | refine z6 rfl ?_ | (refine Qb ?_ ?_; focus kernel_rfl) | ((with_reducible apply And.intro); focus omega) | (refine z5 hK ?_; clear hK; simp only [go_sem, *]) | simp only [z3, z4, go_sem, *])
 all_goals try contradiction
 have t := zJI 6 0 6
 (try simp only [sA, sCourt, sShut, sDiv, sFell, sFell6, sJoin0, sMixed, sDivided, zJo, zJi, W2, atX, zeroPlate, zNq, List.map_cons, List.map_nil, decide_true, Option.getD_some, zOK] at t)
 refine X3 t (by simp only [go_sem, *]) ?_
 simp only [go_sem, *]
 clear t
 repeat' (first | (refine Qr rfl ?_; try intro _ hK; try simp only [go_sem, *]) | (refine Qi rfl rfl rfl rfl ?_ ?_ <;> (intro hb; (try intro _ hK); have hc := hb; try simp only [go_sem] at hc; simp only [go_sem, *])) | refine Qh rfl ?_ | refine Qd rfl (by kernel_rfl) ?_ | (refine Qc rfl rfl ?_ ?_ <;> (intro hb; have hc := hb; try simp only [go_sem] at hc)) | refine z6 rfl ?_ | (refine Qb ?_ ?_; focus kernel_rfl) | ((with_reducible apply And.intro); focus omega) | (refine z5 hK ?_; clear hK; simp only [go_sem, *]) | simp only [z3, z4, go_sem, *])
 all_goals try contradiction
 have t := y_aft k_err2 (by decide)
 (try simp only [sA, sCourt, sShut, sDiv, sFell, sFell6, sJoin0, sMixed, sDivided, zJo, zJi, W2, atX, zeroPlate, zNq, List.map_cons, List.map_nil, decide_true, Option.getD_some, zOK] at t)
 refine X3 t (by simp only [go_sem, *]) ?_
 simp only [go_sem, *]
 clear t
 repeat' (first | (refine Qr rfl ?_; try intro _ hK; try simp only [go_sem, *]) | (refine Qi rfl rfl rfl rfl ?_ ?_ <;> (intro hb; (try intro _ hK); have hc := hb; try simp only [go_sem] at hc; simp only [go_sem, *])) | refine Qh rfl ?_ | refine Qd rfl (by kernel_rfl) ?_ | (refine Qc rfl rfl ?_ ?_ <;> (intro hb; have hc := hb; try simp only [go_sem] at hc)) | refine z6 rfl ?_ | (refine Qb ?_ ?_; focus kernel_rfl) | ((with_reducible apply And.intro); focus omega) | (refine z5 hK ?_; clear hK; simp only [go_sem, *]) | simp only [z3, z4, go_sem, *])
 all_goals try contradiction
 have t := zDJ
 (try simp only [sA, sCourt, sShut, sDiv, sFell, sFell6, sJoin0, sMixed, sDivided, zJo, zJi, W2, atX, zeroPlate, zNq, List.map_cons, List.map_nil, decide_true, Option.getD_some, zOK] at t)
 refine X3 t (by simp only [go_sem, *]) ?_
 simp only [go_sem, *]
 clear t
 repeat' (first | (refine Qr rfl ?_; try intro _ hK; try simp only [go_sem, *]) | (refine Qi rfl rfl rfl rfl ?_ ?_ <;> (intro hb; (try intro _ hK); have hc := hb; try simp only [go_sem] at hc; simp only [go_sem, *])) | refine Qh rfl ?_ | refine Qd rfl (by kernel_rfl) ?_ | (refine Qc rfl rfl ?_ ?_ <;> (intro hb; have hc := hb; try simp only [go_sem] at hc)) | refine z6 rfl ?_ | (refine Qb ?_ ?_; focus kernel_rfl) | ((with_reducible apply And.intro); focus omega) | (refine z5 hK ?_; clear hK; simp only [go_sem, *]) | simp only [z3, z4, go_sem, *])
 all_goals try contradiction
 have t := y_aft k_err3 (by decide)
 (try simp only [sA, sCourt, sShut, sDiv, sFell, sFell6, sJoin0, sMixed, sDivided, zJo, zJi, W2, atX, zeroPlate, zNq, List.map_cons, List.map_nil, decide_true, Option.getD_some, zOK] at t)
 refine X3 t (by simp only [go_sem, *]) ?_
 simp only [go_sem, *]
 clear t
 repeat' (first | ((with_reducible refine stop_at [0, 1, 1, 1, 1, 1, 1, 1, 1, 1, 1, 1, 1, 1] ?_)) | (refine Qr rfl ?_; try intro _ hK; try simp only [go_sem, *]) | (refine Qi rfl rfl rfl rfl ?_ ?_ <;> (intro hb; (try intro _ hK); have hc := hb; try simp only [go_sem] at hc; simp only [go_sem, *])) | refine Qh rfl ?_ | refine Qd rfl (by kernel_rfl) ?_ | (refine Qc rfl rfl ?_ ?_ <;> (intro hb; have hc := hb; try simp only [go_sem] at hc)) | refine z6 rfl ?_ | (refine Qb ?_ ?_; focus kernel_rfl) | ((with_reducible apply And.intro); focus omega) | (refine z5 hK ?_; clear hK; simp only [go_sem, *]) | simp only [z3, z4, go_sem, *])
 all_goals try contradiction
 refine ⟨?_⟩
 refine H8 (N := 624) (env := [(1, .own 0 2 0 2), (0, bV false)]) (As := [.row 2 (sA.map Plate.enc)]) [some 1] [] (by (simp only [Weak, go_sem, List.map_append, List.map_set, *] <;> (try simp (disch := omega) only [y8]) <;> (try simp) <;> (try omega))) ?_
 clear lP lC lQ hii hi
 have hA : sA = [⟨2, 0⟩, ⟨2, 1⟩] := rfl
 repeat' (first | (refine Qr rfl ?_; try intro _ hK; try simp only [go_sem, *]) | (refine Qi rfl rfl rfl rfl ?_ ?_ <;> (intro hb; (try intro _ hK); have hc := hb; try simp only [go_sem] at hc; simp only [go_sem, *])) | refine Qh rfl ?_ | refine Qd rfl (by kernel_rfl) ?_ | (refine Qc rfl rfl ?_ ?_ <;> (intro hb; have hc := hb; try simp only [go_sem] at hc)) | refine z6 rfl ?_ | (refine Qb ?_ ?_; focus kernel_rfl) | ((with_reducible apply And.intro); focus omega) | (refine z5 hK ?_; clear hK; simp only [go_sem, *]) | simp only [z3, z4, go_sem, *])
 all_goals try contradiction
 have t := zAv 0 2
 (try simp only [sA, sCourt, sShut, sDiv, sFell, sFell6, sJoin0, sMixed, sDivided, zJo, zJi, W2, atX, zeroPlate, zNq, List.map_cons, List.map_nil, decide_true, Option.getD_some, zOK] at t)
 refine X3 t (by simp only [go_sem, *]) ?_
 simp only [go_sem, *]
 clear t
 repeat' (first | ((with_reducible refine stop_at [0, 1, 1, 1, 1, 1, 1, 1, 1, 1, 1, 1, 1, 1, 1] ?_)) | (refine Qr rfl ?_; try intro _ hK; try simp only [go_sem, *]) | (refine Qi rfl rfl rfl rfl ?_ ?_ <;> (intro hb; (try intro _ hK); have hc := hb; try simp only [go_sem] at hc; simp only [go_sem, *])) | refine Qh rfl ?_ | refine Qd rfl (by kernel_rfl) ?_ | (refine Qc rfl rfl ?_ ?_ <;> (intro hb; have hc := hb; try simp only [go_sem] at hc)) | refine z6 rfl ?_ | (refine Qb ?_ ?_; focus kernel_rfl) | ((with_reducible apply And.intro); focus omega) | (refine z5 hK ?_; clear hK; simp only [go_sem, *]) | simp only [z3, z4, go_sem, *])
 all_goals try contradiction
 clear hA
 refine ⟨?_⟩
 refine H8 (N := 624) (env := [(18, .own 0 3 0 2), (0, bV false)]) (As := [.row 3 [.agg [iV 0, iV 2, iV 0], .agg [iV 0, iV 2, iV 1]]]) [some 1] [] (by (simp only [Weak, go_sem, List.map_append, List.map_set, *] <;> (try simp (disch := omega) only [y8]) <;> (try simp) <;> (try omega))) ?_
 repeat' (first | (refine Qr rfl ?_; try intro _ hK; try simp only [go_sem, *]) | (refine Qi rfl rfl rfl rfl ?_ ?_ <;> (intro hb; (try intro _ hK); have hc := hb; try simp only [go_sem] at hc; simp only [go_sem, *])) | refine Qh rfl ?_ | refine Qd rfl (by kernel_rfl) ?_ | (refine Qc rfl rfl ?_ ?_ <;> (intro hb; have hc := hb; try simp only [go_sem] at hc)) | refine z6 rfl ?_ | (refine Qb ?_ ?_; focus kernel_rfl) | ((with_reducible apply And.intro); focus omega) | (refine z5 hK ?_; clear hK; simp only [go_sem, *]) | simp only [z3, z4, go_sem, *])
 all_goals try contradiction
 have t := zDJ
 (try simp only [sA, sCourt, sShut, sDiv, sFell, sFell6, sJoin0, sMixed, sDivided, zJo, zJi, W2, atX, zeroPlate, zNq, List.map_cons, List.map_nil, decide_true, Option.getD_some, zOK] at t)
 refine X3 t (by simp only [go_sem, *]) ?_
 simp only [go_sem, *]
 clear t
 repeat' (first | (refine Qr rfl ?_; try intro _ hK; try simp only [go_sem, *]) | (refine Qi rfl rfl rfl rfl ?_ ?_ <;> (intro hb; (try intro _ hK); have hc := hb; try simp only [go_sem] at hc; simp only [go_sem, *])) | refine Qh rfl ?_ | refine Qd rfl (by kernel_rfl) ?_ | (refine Qc rfl rfl ?_ ?_ <;> (intro hb; have hc := hb; try simp only [go_sem] at hc)) | refine z6 rfl ?_ | (refine Qb ?_ ?_; focus kernel_rfl) | ((with_reducible apply And.intro); focus omega) | (refine z5 hK ?_; clear hK; simp only [go_sem, *]) | simp only [z3, z4, go_sem, *])
 all_goals try contradiction
 have t := zJV 0
 (try simp only [sA, sCourt, sShut, sDiv, sFell, sFell6, sJoin0, sMixed, sDivided, zJo, zJi, W2, atX, zeroPlate, zNq, List.map_cons, List.map_nil, decide_true, Option.getD_some, zOK] at t)
 refine X3 t (by simp only [go_sem, *]) ?_
 simp only [go_sem, *]
 clear t
 repeat' (first | (refine Qr rfl ?_; try intro _ hK; try simp only [go_sem, *]) | (refine Qi rfl rfl rfl rfl ?_ ?_ <;> (intro hb; (try intro _ hK); have hc := hb; try simp only [go_sem] at hc; simp only [go_sem, *])) | refine Qh rfl ?_ | refine Qd rfl (by kernel_rfl) ?_ | (refine Qc rfl rfl ?_ ?_ <;> (intro hb; have hc := hb; try simp only [go_sem] at hc)) | refine z6 rfl ?_ | (refine Qb ?_ ?_; focus kernel_rfl) | ((with_reducible apply And.intro); focus omega) | (refine z5 hK ?_; clear hK; simp only [go_sem, *]) | simp only [z3, z4, go_sem, *])
 all_goals try contradiction
 have t := zAv 0 1
 (try simp only [sA, sCourt, sShut, sDiv, sFell, sFell6, sJoin0, sMixed, sDivided, zJo, zJi, W2, atX, zeroPlate, zNq, List.map_cons, List.map_nil, decide_true, Option.getD_some, zOK] at t)
 refine X3 t (by simp only [go_sem, *]) ?_
 simp only [go_sem, *]
 clear t
 repeat' (first | (refine Qr rfl ?_; try intro _ hK; try simp only [go_sem, *]) | (refine Qi rfl rfl rfl rfl ?_ ?_ <;> (intro hb; (try intro _ hK); have hc := hb; try simp only [go_sem] at hc; simp only [go_sem, *])) | refine Qh rfl ?_ | refine Qd rfl (by kernel_rfl) ?_ | (refine Qc rfl rfl ?_ ?_ <;> (intro hb; have hc := hb; try simp only [go_sem] at hc)) | refine z6 rfl ?_ | (refine Qb ?_ ?_; focus kernel_rfl) | ((with_reducible apply And.intro); focus omega) | (refine z5 hK ?_; clear hK; simp only [go_sem, *]) | simp only [z3, z4, go_sem, *])
 all_goals try contradiction
 have t := y_bec k_bec1 ⟨by decide, by decide, by decide⟩
 (try simp only [sA, sCourt, sShut, sDiv, sFell, sFell6, sJoin0, sMixed, sDivided, zJo, zJi, W2, atX, zeroPlate, zNq, List.map_cons, List.map_nil, decide_true, Option.getD_some, zOK] at t)
 refine X3 t (by simp only [go_sem, *]) ?_
 simp only [go_sem, *]
 clear t
 repeat' (first | (refine Qr rfl ?_; try intro _ hK; try simp only [go_sem, *]) | (refine Qi rfl rfl rfl rfl ?_ ?_ <;> (intro hb; (try intro _ hK); have hc := hb; try simp only [go_sem] at hc; simp only [go_sem, *])) | refine Qh rfl ?_ | refine Qd rfl (by kernel_rfl) ?_ | (refine Qc rfl rfl ?_ ?_ <;> (intro hb; have hc := hb; try simp only [go_sem] at hc)) | refine z6 rfl ?_ | (refine Qb ?_ ?_; focus kernel_rfl) | ((with_reducible apply And.intro); focus omega) | (refine z5 hK ?_; clear hK; simp only [go_sem, *]) | simp only [z3, z4, go_sem, *])
 all_goals try contradiction
 have t := zDJ
 (try simp only [sA, sCourt, sShut, sDiv, sFell, sFell6, sJoin0, sMixed, sDivided, zJo, zJi, W2, atX, zeroPlate, zNq, List.map_cons, List.map_nil, decide_true, Option.getD_some, zOK] at t)
 refine X3 t (by simp only [go_sem, *]) ?_
 simp only [go_sem, *]
 clear t
 repeat' (first | (refine Qr rfl ?_; try intro _ hK; try simp only [go_sem, *]) | (refine Qi rfl rfl rfl rfl ?_ ?_ <;> (intro hb; (try intro _ hK); have hc := hb; try simp only [go_sem] at hc; simp only [go_sem, *])) | refine Qh rfl ?_ | refine Qd rfl (by kernel_rfl) ?_ | (refine Qc rfl rfl ?_ ?_ <;> (intro hb; have hc := hb; try simp only [go_sem] at hc)) | refine z6 rfl ?_ | (refine Qb ?_ ?_; focus kernel_rfl) | ((with_reducible apply And.intro); focus omega) | (refine z5 hK ?_; clear hK; simp only [go_sem, *]) | simp only [z3, z4, go_sem, *])
 all_goals try contradiction
 have t := zJI 5 0 2
 (try simp only [sA, sCourt, sShut, sDiv, sFell, sFell6, sJoin0, sMixed, sDivided, zJo, zJi, W2, atX, zeroPlate, zNq, List.map_cons, List.map_nil, decide_true, Option.getD_some, zOK] at t)
 refine X3 t (by simp only [go_sem, *]) ?_
 simp only [go_sem, *]
 clear t
 repeat' (first | (refine Qr rfl ?_; try intro _ hK; try simp only [go_sem, *]) | (refine Qi rfl rfl rfl rfl ?_ ?_ <;> (intro hb; (try intro _ hK); have hc := hb; try simp only [go_sem] at hc; simp only [go_sem, *])) | refine Qh rfl ?_ | refine Qd rfl (by kernel_rfl) ?_ | (refine Qc rfl rfl ?_ ?_ <;> (intro hb; have hc := hb; try simp only [go_sem] at hc)) | refine z6 rfl ?_ | (refine Qb ?_ ?_; focus kernel_rfl) | ((with_reducible apply And.intro); focus omega) | (refine z5 hK ?_; clear hK; simp only [go_sem, *]) | simp only [z3, z4, go_sem, *])
 all_goals try contradiction
 have t := zAv 0 2
 (try simp only [sA, sCourt, sShut, sDiv, sFell, sFell6, sJoin0, sMixed, sDivided, zJo, zJi, W2, atX, zeroPlate, zNq, List.map_cons, List.map_nil, decide_true, Option.getD_some, zOK] at t)
 refine X3 t (by simp only [go_sem, *]) ?_
 simp only [go_sem, *]
 clear t
 repeat' (first | (refine Qr rfl ?_; try intro _ hK; try simp only [go_sem, *]) | (refine Qi rfl rfl rfl rfl ?_ ?_ <;> (intro hb; (try intro _ hK); have hc := hb; try simp only [go_sem] at hc; simp only [go_sem, *])) | refine Qh rfl ?_ | refine Qd rfl (by kernel_rfl) ?_ | (refine Qc rfl rfl ?_ ?_ <;> (intro hb; have hc := hb; try simp only [go_sem] at hc)) | refine z6 rfl ?_ | (refine Qb ?_ ?_; focus kernel_rfl) | ((with_reducible apply And.intro); focus omega) | (refine z5 hK ?_; clear hK; simp only [go_sem, *]) | simp only [z3, z4, go_sem, *])
 all_goals try contradiction
 have t := y_bec k_bec2 ⟨by decide, by decide, by decide⟩
 (try simp only [sA, sCourt, sShut, sDiv, sFell, sFell6, sJoin0, sMixed, sDivided, zJo, zJi, W2, atX, zeroPlate, zNq, List.map_cons, List.map_nil, decide_true, Option.getD_some, zOK] at t)
 refine X3 t (by simp only [go_sem, *]) ?_
 simp only [go_sem, *]
 clear t
 repeat' (first | (refine Qr rfl ?_; try intro _ hK; try simp only [go_sem, *]) | (refine Qi rfl rfl rfl rfl ?_ ?_ <;> (intro hb; (try intro _ hK); have hc := hb; try simp only [go_sem] at hc; simp only [go_sem, *])) | refine Qh rfl ?_ | refine Qd rfl (by kernel_rfl) ?_ | (refine Qc rfl rfl ?_ ?_ <;> (intro hb; have hc := hb; try simp only [go_sem] at hc)) | refine z6 rfl ?_ | (refine Qb ?_ ?_; focus kernel_rfl) | ((with_reducible apply And.intro); focus omega) | (refine z5 hK ?_; clear hK; simp only [go_sem, *]) | simp only [z3, z4, go_sem, *])
 all_goals try contradiction
 have t := zDJ
 (try simp only [sA, sCourt, sShut, sDiv, sFell, sFell6, sJoin0, sMixed, sDivided, zJo, zJi, W2, atX, zeroPlate, zNq, List.map_cons, List.map_nil, decide_true, Option.getD_some, zOK] at t)
 refine X3 t (by simp only [go_sem, *]) ?_
 simp only [go_sem, *]
 clear t
 repeat' (first | (refine Qr rfl ?_; try intro _ hK; try simp only [go_sem, *]) | (refine Qi rfl rfl rfl rfl ?_ ?_ <;> (intro hb; (try intro _ hK); have hc := hb; try simp only [go_sem] at hc; simp only [go_sem, *])) | refine Qh rfl ?_ | refine Qd rfl (by kernel_rfl) ?_ | (refine Qc rfl rfl ?_ ?_ <;> (intro hb; have hc := hb; try simp only [go_sem] at hc)) | refine z6 rfl ?_ | (refine Qb ?_ ?_; focus kernel_rfl) | ((with_reducible apply And.intro); focus omega) | (refine z5 hK ?_; clear hK; simp only [go_sem, *]) | simp only [z3, z4, go_sem, *])
 all_goals try contradiction
 have t := zJI 6 0 2
 (try simp only [sA, sCourt, sShut, sDiv, sFell, sFell6, sJoin0, sMixed, sDivided, zJo, zJi, W2, atX, zeroPlate, zNq, List.map_cons, List.map_nil, decide_true, Option.getD_some, zOK] at t)
 refine X3 t (by simp only [go_sem, *]) ?_
 simp only [go_sem, *]
 clear t
 repeat' (first | (refine Qr rfl ?_; try intro _ hK; try simp only [go_sem, *]) | (refine Qi rfl rfl rfl rfl ?_ ?_ <;> (intro hb; (try intro _ hK); have hc := hb; try simp only [go_sem] at hc; simp only [go_sem, *])) | refine Qh rfl ?_ | refine Qd rfl (by kernel_rfl) ?_ | (refine Qc rfl rfl ?_ ?_ <;> (intro hb; have hc := hb; try simp only [go_sem] at hc)) | refine z6 rfl ?_ | (refine Qb ?_ ?_; focus kernel_rfl) | ((with_reducible apply And.intro); focus omega) | (refine z5 hK ?_; clear hK; simp only [go_sem, *]) | simp only [z3, z4, go_sem, *])
 all_goals try contradiction
 have t := zAv 0 2
 (try simp only [sA, sCourt, sShut, sDiv, sFell, sFell6, sJoin0, sMixed, sDivided, zJo, zJi, W2, atX, zeroPlate, zNq, List.map_cons, List.map_nil, decide_true, Option.getD_some, zOK] at t)
 refine X3 t (by simp only [go_sem, *]) ?_
 simp only [go_sem, *]
 clear t
 repeat' (first | (refine Qr rfl ?_; try intro _ hK; try simp only [go_sem, *]) | (refine Qi rfl rfl rfl rfl ?_ ?_ <;> (intro hb; (try intro _ hK); have hc := hb; try simp only [go_sem] at hc; simp only [go_sem, *])) | refine Qh rfl ?_ | refine Qd rfl (by kernel_rfl) ?_ | (refine Qc rfl rfl ?_ ?_ <;> (intro hb; have hc := hb; try simp only [go_sem] at hc)) | refine z6 rfl ?_ | (refine Qb ?_ ?_; focus kernel_rfl) | ((with_reducible apply And.intro); focus omega) | (refine z5 hK ?_; clear hK; simp only [go_sem, *]) | simp only [z3, z4, go_sem, *])
 all_goals try contradiction
 have t := y_bec k_bec3 ⟨by decide, by decide, by decide⟩
 (try simp only [sA, sCourt, sShut, sDiv, sFell, sFell6, sJoin0, sMixed, sDivided, zJo, zJi, W2, atX, zeroPlate, zNq, List.map_cons, List.map_nil, decide_true, Option.getD_some, zOK] at t)
 refine X3 t (by simp only [go_sem, *]) ?_
 simp only [go_sem, *]
 clear t
 repeat' (first | (refine Qr rfl ?_; try intro _ hK; try simp only [go_sem, *]) | (refine Qi rfl rfl rfl rfl ?_ ?_ <;> (intro hb; (try intro _ hK); have hc := hb; try simp only [go_sem] at hc; simp only [go_sem, *])) | refine Qh rfl ?_ | refine Qd rfl (by kernel_rfl) ?_ | (refine Qc rfl rfl ?_ ?_ <;> (intro hb; have hc := hb; try simp only [go_sem] at hc)) | refine z6 rfl ?_ | (refine Qb ?_ ?_; focus kernel_rfl) | ((with_reducible apply And.intro); focus omega) | (refine z5 hK ?_; clear hK; simp only [go_sem, *]) | simp only [z3, z4, go_sem, *])
 all_goals try contradiction
 have t := zDJ
 (try simp only [sA, sCourt, sShut, sDiv, sFell, sFell6, sJoin0, sMixed, sDivided, zJo, zJi, W2, atX, zeroPlate, zNq, List.map_cons, List.map_nil, decide_true, Option.getD_some, zOK] at t)
 refine X3 t (by simp only [go_sem, *]) ?_
 simp only [go_sem, *]
 clear t
 repeat' (first | (refine Qr rfl ?_; try intro _ hK; try simp only [go_sem, *]) | (refine Qi rfl rfl rfl rfl ?_ ?_ <;> (intro hb; (try intro _ hK); have hc := hb; try simp only [go_sem] at hc; simp only [go_sem, *])) | refine Qh rfl ?_ | refine Qd rfl (by kernel_rfl) ?_ | (refine Qc rfl rfl ?_ ?_ <;> (intro hb; have hc := hb; try simp only [go_sem] at hc)) | refine z6 rfl ?_ | (refine Qb ?_ ?_; focus kernel_rfl) | ((with_reducible apply And.intro); focus omega) | (refine z5 hK ?_; clear hK; simp only [go_sem, *]) | simp only [z3, z4, go_sem, *])
 all_goals try contradiction
 have t := zJP 0
 (try simp only [sA, sCourt, sShut, sDiv, sFell, sFell6, sJoin0, sMixed, sDivided, zJo, zJi, W2, atX, zeroPlate, zNq, List.map_cons, List.map_nil, decide_true, Option.getD_some, zOK] at t)
 refine X3 t (by simp only [go_sem, *]) ?_
 simp only [go_sem, *]
 clear t
 repeat' (first | (refine Qr rfl ?_; try intro _ hK; try simp only [go_sem, *]) | (refine Qi rfl rfl rfl rfl ?_ ?_ <;> (intro hb; (try intro _ hK); have hc := hb; try simp only [go_sem] at hc; simp only [go_sem, *])) | refine Qh rfl ?_ | refine Qd rfl (by kernel_rfl) ?_ | (refine Qc rfl rfl ?_ ?_ <;> (intro hb; have hc := hb; try simp only [go_sem] at hc)) | refine z6 rfl ?_ | (refine Qb ?_ ?_; focus kernel_rfl) | ((with_reducible apply And.intro); focus omega) | (refine z5 hK ?_; clear hK; simp only [go_sem, *]) | simp only [z3, z4, go_sem, *])
 all_goals try contradiction
 have t := zAv 1 1
 (try simp only [sA, sCourt, sShut, sDiv, sFell, sFell6, sJoin0, sMixed, sDivided, zJo, zJi, W2, atX, zeroPlate, zNq, List.map_cons, List.map_nil, decide_true, Option.getD_some, zOK] at t)
 refine X3 t (by simp only [go_sem, *]) ?_
 simp only [go_sem, *]
 clear t
 repeat' (first | (refine Qr rfl ?_; try intro _ hK; try simp only [go_sem, *]) | (refine Qi rfl rfl rfl rfl ?_ ?_ <;> (intro hb; (try intro _ hK); have hc := hb; try simp only [go_sem] at hc; simp only [go_sem, *])) | refine Qh rfl ?_ | refine Qd rfl (by kernel_rfl) ?_ | (refine Qc rfl rfl ?_ ?_ <;> (intro hb; have hc := hb; try simp only [go_sem] at hc)) | refine z6 rfl ?_ | (refine Qb ?_ ?_; focus kernel_rfl) | ((with_reducible apply And.intro); focus omega) | (refine z5 hK ?_; clear hK; simp only [go_sem, *]) | simp only [z3, z4, go_sem, *])
 all_goals try contradiction
 have t := y_bec k_bec4 ⟨by decide, by decide, by decide⟩
 (try simp only [sA, sCourt, sShut, sDiv, sFell, sFell6, sJoin0, sMixed, sDivided, zJo, zJi, W2, atX, zeroPlate, zNq, List.map_cons, List.map_nil, decide_true, Option.getD_some, zOK] at t)
 refine X3 t (by simp only [go_sem, *]) ?_
 simp only [go_sem, *]
 clear t
 repeat' (first | ((with_reducible refine stop_at [0, 1, 1, 1, 1, 1, 1, 1, 1, 1, 1, 1, 1, 1, 1, 1, 1, 1, 1] ?_)) | (refine Qr rfl ?_; try intro _ hK; try simp only [go_sem, *]) | (refine Qi rfl rfl rfl rfl ?_ ?_ <;> (intro hb; (try intro _ hK); have hc := hb; try simp only [go_sem] at hc; simp only [go_sem, *])) | refine Qh rfl ?_ | refine Qd rfl (by kernel_rfl) ?_ | (refine Qc rfl rfl ?_ ?_ <;> (intro hb; have hc := hb; try simp only [go_sem] at hc)) | refine z6 rfl ?_ | (refine Qb ?_ ?_; focus kernel_rfl) | ((with_reducible apply And.intro); focus omega) | (refine z5 hK ?_; clear hK; simp only [go_sem, *]) | simp only [z3, z4, go_sem, *])
 all_goals try contradiction
 refine ⟨?_⟩
 refine H8 (N := 624) (env := [(13, iV 0), (15, iV 0), (17, iV 0), (23, iV 0), (19, .list [.agg [iV 0, iV 5, iV 0]]), (20, .list [.agg [iV 0, iV 2, iV 0], .agg [iV 0, iV 2, iV 1]]), (21, .list []), (22, .list [.agg [iV 1, iV 1, iV 0]]), (18, .list [.agg [iV 0, iV 2, iV 0], .agg [iV 0, iV 2, iV 1]]), (0, bV false)]) (As := []) [] [0] (by (simp only [Weak, go_sem, List.map_append, List.map_set, *] <;> (try simp (disch := omega) only [y8]) <;> (try simp) <;> (try omega))) ?_
 exact sk_18 E hE (sk_24 E hE (sk_28 E hE (sk_35 E hE (sk_40 E hE (sk_45 E hE)))))
end Go.Abs

