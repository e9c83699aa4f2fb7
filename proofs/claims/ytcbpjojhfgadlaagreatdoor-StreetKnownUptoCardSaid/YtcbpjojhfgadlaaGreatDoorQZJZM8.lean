/-
  WHAT THE PROOF STANDS ON, PART 8: contracts of the program's functions. No condition.
-/
import Derived.Test.YtcbpjojhfgadlaaGreatDoorQZJZM7
set_option maxRecDepth 100000
set_option maxHeartbeats 16000000
set_option linter.unusedVariables false
set_option linter.unusedSimpArgs false
set_option linter.unusedSectionVars false
namespace Go.Abs
open Go Go.Proofs Tryz
attribute [local irreducible] q8 Hold y4
set_option maxRecDepth 10000
set_option maxHeartbeats 16000000

attribute [-go_sem] nxF
attribute [local go_sem] nxM_cons nxM_nil mxN_eq
theorem sk_18 (E : Env) (hE : E.n = ([] : List AObj).length) (hn : Hold prog E (sub [0, 1, 1, 1, 1, 1, 1, 1, 1, 1, 1, 1, 1, 1, 1, 1, 1, 1, 1, 1, 1, 1, 1, 1, 1] (C4 Tryz.f5)) (z3 (Hold prog E (sub [1, 1, 1, 1, 1, 1, 1, 1, 1, 1, 1, 1, 1, 1, 1, 1, 1, 1, 1, 1, 1, 1, 1, 1, 1] (C4 Tryz.f5)) (fun e σ' => (e = Exit.normal ∨ e = Exit.ret) ∧ D8 prog Tryz.f5 0 (bV true) [] σ')) (fun e σ' => (e = Exit.normal ∨ e = Exit.ret) ∧ D8 prog Tryz.f5 0 (bV true) [] σ')) ⟨624, [(0, bV false)], zNf 0 []⟩) : Hold prog E (sub [0, 1, 1, 1, 1, 1, 1, 1, 1, 1, 1, 1, 1, 1, 1, 1, 1, 1, 1] (C4 Tryz.f5)) (z3 (Hold prog E (sub [1, 1, 1, 1, 1, 1, 1, 1, 1, 1, 1, 1, 1, 1, 1, 1, 1, 1, 1] (C4 Tryz.f5)) (fun e σ' => (e = Exit.normal ∨ e = Exit.ret) ∧ D8 prog Tryz.f5 0 (bV true) [] σ')) (fun e σ' => (e = Exit.normal ∨ e = Exit.ret) ∧ D8 prog Tryz.f5 0 (bV true) [] σ')) ⟨624, [(13, iV 0), (15, iV 0), (17, iV 0), (23, iV 0), (19, .list [.agg [iV 0, iV 5, iV 0]]), (20, .list [.agg [iV 0, iV 2, iV 0], .agg [iV 0, iV 2, iV 1]]), (21, .list []), (22, .list [.agg [iV 1, iV 1, iV 0]]), (18, .list [.agg [iV 0, iV 2, iV 0], .agg [iV 0, iV 2, iV 1]]), (0, bV false)], zNf 0 []⟩ := by
 repeat' (first | (refine Qr rfl ?_; try intro _ hK; try simp only [go_sem, *]) | (refine Qi rfl rfl rfl rfl ?_ ?_ <;> (intro hb; (try intro _ hK); have hc := hb; try simp only [go_sem] at hc; simp only [go_sem, *])) | refine Qh rfl ?_ | refine Qd rfl (by kernel_rfl) ?_ | (refine Qc rfl rfl ?_ ?_ <;> (intro hb; have hc := hb; try simp only [go_sem] at hc)) | refine z6 rfl ?_ | (refine Qb ?_ ?_; focus kernel_rfl) | ((with_reducible apply And.intro); focus omega) | (refine z5 hK ?_; clear hK; simp only [go_sem, *]) | simp only [z3, z4, go_sem, *])
 all_goals try contradiction
 have t := zAv 0 5
 (try simp only [sA, sCourt, sShut, sDiv, sFell, sFell6, sJoin0, sMixed, sDivided, zJo, zJi, W2, atX, zeroPlate, zNq, List.map_cons, List.map_nil, decide_true, Option.getD_some, zOK, sTale1, sTale2, sTaleF, sE, sG1, sG3] at t)
 refine X3 t (by simp only [go_sem, *]) ?_
 simp only [go_sem, *]
 clear t
 repeat' (first | (refine Qr rfl ?_; try intro _ hK; try simp only [go_sem, *]) | (refine Qi rfl rfl rfl rfl ?_ ?_ <;> (intro hb; (try intro _ hK); have hc := hb; try simp only [go_sem] at hc; simp only [go_sem, *])) | refine Qh rfl ?_ | refine Qd rfl (by kernel_rfl) ?_ | (refine Qc rfl rfl ?_ ?_ <;> (intro hb; have hc := hb; try simp only [go_sem] at hc)) | refine z6 rfl ?_ | (refine Qb ?_ ?_; focus kernel_rfl) | ((with_reducible apply And.intro); focus omega) | (refine z5 hK ?_; clear hK; simp only [go_sem, *]) | simp only [z3, z4, go_sem, *])
 all_goals try contradiction
 have t := zIf [atX 0 5] [atX 0 5] (by decide)
 (try simp only [sA, sCourt, sShut, sDiv, sFell, sFell6, sJoin0, sMixed, sDivided, zJo, zJi, W2, atX, zeroPlate, zNq, List.map_cons, List.map_nil, decide_true, Option.getD_some, zOK, sTale1, sTale2, sTaleF, sE, sG1, sG3] at t)
 (refine o3 (t) (by simp only [go_sem, *]; done) rfl (by simp only [go_sem]; done) (by simp) (by simp) ?_; simp only [go_sem, w6, *])
 clear t
 repeat' (first | (refine Qr rfl ?_; try intro _ hK; try simp only [go_sem, *]) | (refine Qi rfl rfl rfl rfl ?_ ?_ <;> (intro hb; (try intro _ hK); have hc := hb; try simp only [go_sem] at hc; simp only [go_sem, *])) | refine Qh rfl ?_ | refine Qd rfl (by kernel_rfl) ?_ | (refine Qc rfl rfl ?_ ?_ <;> (intro hb; have hc := hb; try simp only [go_sem] at hc)) | refine z6 rfl ?_ | (refine Qb ?_ ?_; focus kernel_rfl) | ((with_reducible apply And.intro); focus omega) | (refine z5 hK ?_; clear hK; simp only [go_sem, *]) | simp only [z3, z4, go_sem, *])
 all_goals try contradiction
 have t := zIf [atX 0 2, ⟨0, ⟨2, 1⟩⟩] [atX 0 2, ⟨0, ⟨2, 1⟩⟩] (by decide)
 (try simp only [sA, sCourt, sShut, sDiv, sFell, sFell6, sJoin0, sMixed, sDivided, zJo, zJi, W2, atX, zeroPlate, zNq, List.map_cons, List.map_nil, decide_true, Option.getD_some, zOK, sTale1, sTale2, sTaleF, sE, sG1, sG3] at t)
 refine X3 t (by simp only [go_sem, *]) ?_
 simp only [go_sem, *]
 clear t
 repeat' (first | (refine Qr rfl ?_; try intro _ hK; try simp only [go_sem, *]) | (refine Qi rfl rfl rfl rfl ?_ ?_ <;> (intro hb; (try intro _ hK); have hc := hb; try simp only [go_sem] at hc; simp only [go_sem, *])) | refine Qh rfl ?_ | refine Qd rfl (by kernel_rfl) ?_ | (refine Qc rfl rfl ?_ ?_ <;> (intro hb; have hc := hb; try simp only [go_sem] at hc)) | refine z6 rfl ?_ | (refine Qb ?_ ?_; focus kernel_rfl) | ((with_reducible apply And.intro); focus omega) | (refine z5 hK ?_; clear hK; simp only [go_sem, *]) | simp only [z3, z4, go_sem, *])
 all_goals try contradiction
 have t := zAv 1 1
 (try simp only [sA, sCourt, sShut, sDiv, sFell, sFell6, sJoin0, sMixed, sDivided, zJo, zJi, W2, atX, zeroPlate, zNq, List.map_cons, List.map_nil, decide_true, Option.getD_some, zOK, sTale1, sTale2, sTaleF, sE, sG1, sG3] at t)
 refine X3 t (by simp only [go_sem, *]) ?_
 simp only [go_sem, *]
 clear t
 repeat' (first | (refine Qr rfl ?_; try intro _ hK; try simp only [go_sem, *]) | (refine Qi rfl rfl rfl rfl ?_ ?_ <;> (intro hb; (try intro _ hK); have hc := hb; try simp only [go_sem] at hc; simp only [go_sem, *])) | refine Qh rfl ?_ | refine Qd rfl (by kernel_rfl) ?_ | (refine Qc rfl rfl ?_ ?_ <;> (intro hb; have hc := hb; try simp only [go_sem] at hc)) | refine z6 rfl ?_ | (refine Qb ?_ ?_; focus kernel_rfl) | ((with_reducible apply And.intro); focus omega) | (refine z5 hK ?_; clear hK; simp only [go_sem, *]) | simp only [z3, z4, go_sem, *])
 all_goals try contradiction
 have t := zIf [atX 1 1] [atX 1 1] (by decide)
 (try simp only [sA, sCourt, sShut, sDiv, sFell, sFell6, sJoin0, sMixed, sDivided, zJo, zJi, W2, atX, zeroPlate, zNq, List.map_cons, List.map_nil, decide_true, Option.getD_some, zOK, sTale1, sTale2, sTaleF, sE, sG1, sG3] at t)
 (refine o3 (t) (by simp only [go_sem, *]; done) rfl (by simp only [go_sem]; done) (by simp) (by simp) ?_; simp only [go_sem, w6, *])
 clear t
 repeat' (first | (refine Qr rfl ?_; try intro _ hK; try simp only [go_sem, *]) | (refine Qi rfl rfl rfl rfl ?_ ?_ <;> (intro hb; (try intro _ hK); have hc := hb; try simp only [go_sem] at hc; simp only [go_sem, *])) | refine Qh rfl ?_ | refine Qd rfl (by kernel_rfl) ?_ | (refine Qc rfl rfl ?_ ?_ <;> (intro hb; have hc := hb; try simp only [go_sem] at hc)) | refine z6 rfl ?_ | (refine Qb ?_ ?_; focus kernel_rfl) | ((with_reducible apply And.intro); focus omega) | (refine z5 hK ?_; clear hK; simp only [go_sem, *]) | simp only [z3, z4, go_sem, *])
 all_goals try contradiction
 have t := zDJ
 (try simp only [sA, sCourt, sShut, sDiv, sFell, sFell6, sJoin0, sMixed, sDivided, zJo, zJi, W2, atX, zeroPlate, zNq, List.map_cons, List.map_nil, decide_true, Option.getD_some, zOK, sTale1, sTale2, sTaleF, sE, sG1, sG3] at t)
 refine X3 t (by simp only [go_sem, *]) ?_
 simp only [go_sem, *]
 clear t
 repeat' (first | (refine Qr rfl ?_; try intro _ hK; try simp only [go_sem, *]) | (refine Qi rfl rfl rfl rfl ?_ ?_ <;> (intro hb; (try intro _ hK); have hc := hb; try simp only [go_sem] at hc; simp only [go_sem, *])) | refine Qh rfl ?_ | refine Qd rfl (by kernel_rfl) ?_ | (refine Qc rfl rfl ?_ ?_ <;> (intro hb; have hc := hb; try simp only [go_sem] at hc)) | refine z6 rfl ?_ | (refine Qb ?_ ?_; focus kernel_rfl) | ((with_reducible apply And.intro); focus omega) | (refine z5 hK ?_; clear hK; simp only [go_sem, *]) | simp only [z3, z4, go_sem, *])
 all_goals try contradiction
 have t := zJV 0
 (try simp only [sA, sCourt, sShut, sDiv, sFell, sFell6, sJoin0, sMixed, sDivided, zJo, zJi, W2, atX, zeroPlate, zNq, List.map_cons, List.map_nil, decide_true, Option.getD_some, zOK, sTale1, sTale2, sTaleF, sE, sG1, sG3] at t)
 refine X3 t (by simp only [go_sem, *]) ?_
 simp only [go_sem, *]
 clear t
 repeat' (first | (refine Qr rfl ?_; try intro _ hK; try simp only [go_sem, *]) | (refine Qi rfl rfl rfl rfl ?_ ?_ <;> (intro hb; (try intro _ hK); have hc := hb; try simp only [go_sem] at hc; simp only [go_sem, *])) | refine Qh rfl ?_ | refine Qd rfl (by kernel_rfl) ?_ | (refine Qc rfl rfl ?_ ?_ <;> (intro hb; have hc := hb; try simp only [go_sem] at hc)) | refine z6 rfl ?_ | (refine Qb ?_ ?_; focus kernel_rfl) | ((with_reducible apply And.intro); focus omega) | (refine z5 hK ?_; clear hK; simp only [go_sem, *]) | simp only [z3, z4, go_sem, *])
 all_goals try contradiction
 have t := zAv 0 4
 (try simp only [sA, sCourt, sShut, sDiv, sFell, sFell6, sJoin0, sMixed, sDivided, zJo, zJi, W2, atX, zeroPlate, zNq, List.map_cons, List.map_nil, decide_true, Option.getD_some, zOK, sTale1, sTale2, sTaleF, sE, sG1, sG3] at t)
 refine X3 t (by simp only [go_sem, *]) ?_
 simp only [go_sem, *]
 clear t
 repeat' (first | (refine Qr rfl ?_; try intro _ hK; try simp only [go_sem, *]) | (refine Qi rfl rfl rfl rfl ?_ ?_ <;> (intro hb; (try intro _ hK); have hc := hb; try simp only [go_sem] at hc; simp only [go_sem, *])) | refine Qh rfl ?_ | refine Qd rfl (by kernel_rfl) ?_ | (refine Qc rfl rfl ?_ ?_ <;> (intro hb; have hc := hb; try simp only [go_sem] at hc)) | refine z6 rfl ?_ | (refine Qb ?_ ?_; focus kernel_rfl) | ((with_reducible apply And.intro); focus omega) | (refine z5 hK ?_; clear hK; simp only [go_sem, *]) | simp only [z3, z4, go_sem, *])
 all_goals try contradiction
 have t := y_was k_was1
 (try simp only [sA, sCourt, sShut, sDiv, sFell, sFell6, sJoin0, sMixed, sDivided, zJo, zJi, W2, atX, zeroPlate, zNq, List.map_cons, List.map_nil, decide_true, Option.getD_some, zOK, sTale1, sTale2, sTaleF, sE, sG1, sG3] at t)
 refine X3 t (by simp only [go_sem, *]) ?_
 simp only [go_sem, *]
 clear t
 repeat' (first | (refine Qr rfl ?_; try intro _ hK; try simp only [go_sem, *]) | (refine Qi rfl rfl rfl rfl ?_ ?_ <;> (intro hb; (try intro _ hK); have hc := hb; try simp only [go_sem] at hc; simp only [go_sem, *])) | refine Qh rfl ?_ | refine Qd rfl (by kernel_rfl) ?_ | (refine Qc rfl rfl ?_ ?_ <;> (intro hb; have hc := hb; try simp only [go_sem] at hc)) | refine z6 rfl ?_ | (refine Qb ?_ ?_; focus kernel_rfl) | ((with_reducible apply And.intro); focus omega) | (refine z5 hK ?_; clear hK; simp only [go_sem, *]) | simp only [z3, z4, go_sem, *])
 all_goals try contradiction
 have t := zDJ
 (try simp only [sA, sCourt, sShut, sDiv, sFell, sFell6, sJoin0, sMixed, sDivided, zJo, zJi, W2, atX, zeroPlate, zNq, List.map_cons, List.map_nil, decide_true, Option.getD_some, zOK, sTale1, sTale2, sTaleF, sE, sG1, sG3] at t)
 refine X3 t (by simp only [go_sem, *]) ?_
 simp only [go_sem, *]
 clear t
 repeat' (first | (refine Qr rfl ?_; try intro _ hK; try simp only [go_sem, *]) | (refine Qi rfl rfl rfl rfl ?_ ?_ <;> (intro hb; (try intro _ hK); have hc := hb; try simp only [go_sem] at hc; simp only [go_sem, *])) | refine Qh rfl ?_ | refine Qd rfl (by kernel_rfl) ?_ | (refine Qc rfl rfl ?_ ?_ <;> (intro hb; have hc := hb; try simp only [go_sem] at hc)) | refine z6 rfl ?_ | (refine Qb ?_ ?_; focus kernel_rfl) | ((with_reducible apply And.intro); focus omega) | (refine z5 hK ?_; clear hK; simp only [go_sem, *]) | simp only [z3, z4, go_sem, *])
 all_goals try contradiction
 have t := zJI 5 0 2
 (try simp only [sA, sCourt, sShut, sDiv, sFell, sFell6, sJoin0, sMixed, sDivided, zJo, zJi, W2, atX, zeroPlate, zNq, List.map_cons, List.map_nil, decide_true, Option.getD_some, zOK, sTale1, sTale2, sTaleF, sE, sG1, sG3] at t)
 refine X3 t (by simp only [go_sem, *]) ?_
 simp only [go_sem, *]
 clear t
 repeat' (first | (refine Qr rfl ?_; try intro _ hK; try simp only [go_sem, *]) | (refine Qi rfl rfl rfl rfl ?_ ?_ <;> (intro hb; (try intro _ hK); have hc := hb; try simp only [go_sem] at hc; simp only [go_sem, *])) | refine Qh rfl ?_ | refine Qd rfl (by kernel_rfl) ?_ | (refine Qc rfl rfl ?_ ?_ <;> (intro hb; have hc := hb; try simp only [go_sem] at hc)) | refine z6 rfl ?_ | (refine Qb ?_ ?_; focus kernel_rfl) | ((with_reducible apply And.intro); focus omega) | (refine z5 hK ?_; clear hK; simp only [go_sem, *]) | simp only [z3, z4, go_sem, *])
 all_goals try contradiction
 have t := y_was k_was2
 (try simp only [sA, sCourt, sShut, sDiv, sFell, sFell6, sJoin0, sMixed, sDivided, zJo, zJi, W2, atX, zeroPlate, zNq, List.map_cons, List.map_nil, decide_true, Option.getD_some, zOK, sTale1, sTale2, sTaleF, sE, sG1, sG3] at t)
 refine X3 t (by simp only [go_sem, *]) ?_
 simp only [go_sem, *]
 clear t
 repeat' (first | (refine Qr rfl ?_; try intro _ hK; try simp only [go_sem, *]) | (refine Qi rfl rfl rfl rfl ?_ ?_ <;> (intro hb; (try intro _ hK); have hc := hb; try simp only [go_sem] at hc; simp only [go_sem, *])) | refine Qh rfl ?_ | refine Qd rfl (by kernel_rfl) ?_ | (refine Qc rfl rfl ?_ ?_ <;> (intro hb; have hc := hb; try simp only [go_sem] at hc)) | refine z6 rfl ?_ | (refine Qb ?_ ?_; focus kernel_rfl) | ((with_reducible apply And.intro); focus omega) | (refine z5 hK ?_; clear hK; simp only [go_sem, *]) | simp only [z3, z4, go_sem, *])
 all_goals try contradiction
 have t := zDJ
 (try simp only [sA, sCourt, sShut, sDiv, sFell, sFell6, sJoin0, sMixed, sDivided, zJo, zJi, W2, atX, zeroPlate, zNq, List.map_cons, List.map_nil, decide_true, Option.getD_some, zOK, sTale1, sTale2, sTaleF, sE, sG1, sG3] at t)
 refine X3 t (by simp only [go_sem, *]) ?_
 simp only [go_sem, *]
 clear t
 repeat' (first | (refine Qr rfl ?_; try intro _ hK; try simp only [go_sem, *]) | (refine Qi rfl rfl rfl rfl ?_ ?_ <;> (intro hb; (try intro _ hK); have hc := hb; try simp only [go_sem] at hc; simp only [go_sem, *])) | refine Qh rfl ?_ | refine Qd rfl (by kernel_rfl) ?_ | (refine Qc rfl rfl ?_ ?_ <;> (intro hb; have hc := hb; try simp only [go_sem] at hc)) | refine z6 rfl ?_ | (refine Qb ?_ ?_; focus kernel_rfl) | ((with_reducible apply And.intro); focus omega) | (refine z5 hK ?_; clear hK; simp only [go_sem, *]) | simp only [z3, z4, go_sem, *])
 all_goals try contradiction
 have t := zJP 0
 (try simp only [sA, sCourt, sShut, sDiv, sFell, sFell6, sJoin0, sMixed, sDivided, zJo, zJi, W2, atX, zeroPlate, zNq, List.map_cons, List.map_nil, decide_true, Option.getD_some, zOK, sTale1, sTale2, sTaleF, sE, sG1, sG3] at t)
 refine X3 t (by simp only [go_sem, *]) ?_
 simp only [go_sem, *]
 clear t
 repeat' (first | (refine Qr rfl ?_; try intro _ hK; try simp only [go_sem, *]) | (refine Qi rfl rfl rfl rfl ?_ ?_ <;> (intro hb; (try intro _ hK); have hc := hb; try simp only [go_sem] at hc; simp only [go_sem, *])) | refine Qh rfl ?_ | refine Qd rfl (by kernel_rfl) ?_ | (refine Qc rfl rfl ?_ ?_ <;> (intro hb; have hc := hb; try simp only [go_sem] at hc)) | refine z6 rfl ?_ | (refine Qb ?_ ?_; focus kernel_rfl) | ((with_reducible apply And.intro); focus omega) | (refine z5 hK ?_; clear hK; simp only [go_sem, *]) | simp only [z3, z4, go_sem, *])
 all_goals try contradiction
 have t := zAv 0 6
 (try simp only [sA, sCourt, sShut, sDiv, sFell, sFell6, sJoin0, sMixed, sDivided, zJo, zJi, W2, atX, zeroPlate, zNq, List.map_cons, List.map_nil, decide_true, Option.getD_some, zOK, sTale1, sTale2, sTaleF, sE, sG1, sG3] at t)
 refine X3 t (by simp only [go_sem, *]) ?_
 simp only [go_sem, *]
 clear t
 repeat' (first | (refine Qr rfl ?_; try intro _ hK; try simp only [go_sem, *]) | (refine Qi rfl rfl rfl rfl ?_ ?_ <;> (intro hb; (try intro _ hK); have hc := hb; try simp only [go_sem] at hc; simp only [go_sem, *])) | refine Qh rfl ?_ | refine Qd rfl (by kernel_rfl) ?_ | (refine Qc rfl rfl ?_ ?_ <;> (intro hb; have hc := hb; try simp only [go_sem] at hc)) | refine z6 rfl ?_ | (refine Qb ?_ ?_; focus kernel_rfl) | ((with_reducible apply And.intro); focus omega) | (refine z5 hK ?_; clear hK; simp only [go_sem, *]) | simp only [z3, z4, go_sem, *])
 all_goals try contradiction
 have t := y_was k_was3
 (try simp only [sA, sCourt, sShut, sDiv, sFell, sFell6, sJoin0, sMixed, sDivided, zJo, zJi, W2, atX, zeroPlate, zNq, List.map_cons, List.map_nil, decide_true, Option.getD_some, zOK, sTale1, sTale2, sTaleF, sE, sG1, sG3] at t)
 refine X3 t (by simp only [go_sem, *]) ?_
 simp only [go_sem, *]
 clear t
 repeat' (first | (refine Qr rfl ?_; try intro _ hK; try simp only [go_sem, *]) | (refine Qi rfl rfl rfl rfl ?_ ?_ <;> (intro hb; (try intro _ hK); have hc := hb; try simp only [go_sem] at hc; simp only [go_sem, *])) | refine Qh rfl ?_ | refine Qd rfl (by kernel_rfl) ?_ | (refine Qc rfl rfl ?_ ?_ <;> (intro hb; have hc := hb; try simp only [go_sem] at hc)) | refine z6 rfl ?_ | (refine Qb ?_ ?_; focus kernel_rfl) | ((with_reducible apply And.intro); focus omega) | (refine z5 hK ?_; clear hK; simp only [go_sem, *]) | simp only [z3, z4, go_sem, *])
 all_goals try contradiction
 have t := zDJ
 (try simp only [sA, sCourt, sShut, sDiv, sFell, sFell6, sJoin0, sMixed, sDivided, zJo, zJi, W2, atX, zeroPlate, zNq, List.map_cons, List.map_nil, decide_true, Option.getD_some, zOK, sTale1, sTale2, sTaleF, sE, sG1, sG3] at t)
 refine X3 t (by simp only [go_sem, *]) ?_
 simp only [go_sem, *]
 clear t
 repeat' (first | (refine Qr rfl ?_; try intro _ hK; try simp only [go_sem, *]) | (refine Qi rfl rfl rfl rfl ?_ ?_ <;> (intro hb; (try intro _ hK); have hc := hb; try simp only [go_sem] at hc; simp only [go_sem, *])) | refine Qh rfl ?_ | refine Qd rfl (by kernel_rfl) ?_ | (refine Qc rfl rfl ?_ ?_ <;> (intro hb; have hc := hb; try simp only [go_sem] at hc)) | refine z6 rfl ?_ | (refine Qb ?_ ?_; focus kernel_rfl) | ((with_reducible apply And.intro); focus omega) | (refine z5 hK ?_; clear hK; simp only [go_sem, *]) | simp only [z3, z4, go_sem, *])
 all_goals try contradiction
 have t := zJP 0
 (try simp only [sA, sCourt, sShut, sDiv, sFell, sFell6, sJoin0, sMixed, sDivided, zJo, zJi, W2, atX, zeroPlate, zNq, List.map_cons, List.map_nil, decide_true, Option.getD_some, zOK, sTale1, sTale2, sTaleF, sE, sG1, sG3] at t)
 refine X3 t (by simp only [go_sem, *]) ?_
 simp only [go_sem, *]
 clear t
 repeat' (first | (refine Qr rfl ?_; try intro _ hK; try simp only [go_sem, *]) | (refine Qi rfl rfl rfl rfl ?_ ?_ <;> (intro hb; (try intro _ hK); have hc := hb; try simp only [go_sem] at hc; simp only [go_sem, *])) | refine Qh rfl ?_ | refine Qd rfl (by kernel_rfl) ?_ | (refine Qc rfl rfl ?_ ?_ <;> (intro hb; have hc := hb; try simp only [go_sem] at hc)) | refine z6 rfl ?_ | (refine Qb ?_ ?_; focus kernel_rfl) | ((with_reducible apply And.intro); focus omega) | (refine z5 hK ?_; clear hK; simp only [go_sem, *]) | simp only [z3, z4, go_sem, *])
 all_goals try contradiction
 have t := zAv 0 5
 (try simp only [sA, sCourt, sShut, sDiv, sFell, sFell6, sJoin0, sMixed, sDivided, zJo, zJi, W2, atX, zeroPlate, zNq, List.map_cons, List.map_nil, decide_true, Option.getD_some, zOK, sTale1, sTale2, sTaleF, sE, sG1, sG3] at t)
 refine X3 t (by simp only [go_sem, *]) ?_
 simp only [go_sem, *]
 clear t
 repeat' (first | (refine Qr rfl ?_; try intro _ hK; try simp only [go_sem, *]) | (refine Qi rfl rfl rfl rfl ?_ ?_ <;> (intro hb; (try intro _ hK); have hc := hb; try simp only [go_sem] at hc; simp only [go_sem, *])) | refine Qh rfl ?_ | refine Qd rfl (by kernel_rfl) ?_ | (refine Qc rfl rfl ?_ ?_ <;> (intro hb; have hc := hb; try simp only [go_sem] at hc)) | refine z6 rfl ?_ | (refine Qb ?_ ?_; focus kernel_rfl) | ((with_reducible apply And.intro); focus omega) | (refine z5 hK ?_; clear hK; simp only [go_sem, *]) | simp only [z3, z4, go_sem, *])
 all_goals try contradiction
 have t := y_was ⟨rfl, k_was4⟩
 (try simp only [sA, sCourt, sShut, sDiv, sFell, sFell6, sJoin0, sMixed, sDivided, zJo, zJi, W2, atX, zeroPlate, zNq, List.map_cons, List.map_nil, decide_true, Option.getD_some, zOK, sTale1, sTale2, sTaleF, sE, sG1, sG3] at t)
 refine X3 t (by simp only [go_sem, *]) ?_
 simp only [go_sem, *]
 clear t
 repeat' (first | (refine Qr rfl ?_; try intro _ hK; try simp only [go_sem, *]) | (refine Qi rfl rfl rfl rfl ?_ ?_ <;> (intro hb; (try intro _ hK); have hc := hb; try simp only [go_sem] at hc; simp only [go_sem, *])) | refine Qh rfl ?_ | refine Qd rfl (by kernel_rfl) ?_ | (refine Qc rfl rfl ?_ ?_ <;> (intro hb; have hc := hb; try simp only [go_sem] at hc)) | refine z6 rfl ?_ | (refine Qb ?_ ?_; focus kernel_rfl) | ((with_reducible apply And.intro); focus omega) | (refine z5 hK ?_; clear hK; simp only [go_sem, *]) | simp only [z3, z4, go_sem, *])
 all_goals try contradiction
 have t := zAv 0 2
 (try simp only [sA, sCourt, sShut, sDiv, sFell, sFell6, sJoin0, sMixed, sDivided, zJo, zJi, W2, atX, zeroPlate, zNq, List.map_cons, List.map_nil, decide_true, Option.getD_some, zOK, sTale1, sTale2, sTaleF, sE, sG1, sG3] at t)
 refine X3 t (by simp only [go_sem, *]) ?_
 simp only [go_sem, *]
 clear t
 repeat' (first | (refine Qr rfl ?_; try intro _ hK; try simp only [go_sem, *]) | (refine Qi rfl rfl rfl rfl ?_ ?_ <;> (intro hb; (try intro _ hK); have hc := hb; try simp only [go_sem] at hc; simp only [go_sem, *])) | refine Qh rfl ?_ | refine Qd rfl (by kernel_rfl) ?_ | (refine Qc rfl rfl ?_ ?_ <;> (intro hb; have hc := hb; try simp only [go_sem] at hc)) | refine z6 rfl ?_ | (refine Qb ?_ ?_; focus kernel_rfl) | ((with_reducible apply And.intro); focus omega) | (refine z5 hK ?_; clear hK; simp only [go_sem, *]) | simp only [z3, z4, go_sem, *])
 all_goals try contradiction
 have t := zAv 0 2
 (try simp only [sA, sCourt, sShut, sDiv, sFell, sFell6, sJoin0, sMixed, sDivided, zJo, zJi, W2, atX, zeroPlate, zNq, List.map_cons, List.map_nil, decide_true, Option.getD_some, zOK, sTale1, sTale2, sTaleF, sE, sG1, sG3] at t)
 refine X3 t (by simp only [go_sem, *]) ?_
 simp only [go_sem, *]
 clear t
 repeat' (first | (refine Qr rfl ?_; try intro _ hK; try simp only [go_sem, *]) | (refine Qi rfl rfl rfl rfl ?_ ?_ <;> (intro hb; (try intro _ hK); have hc := hb; try simp only [go_sem] at hc; simp only [go_sem, *])) | refine Qh rfl ?_ | refine Qd rfl (by kernel_rfl) ?_ | (refine Qc rfl rfl ?_ ?_ <;> (intro hb; have hc := hb; try simp only [go_sem] at hc)) | refine z6 rfl ?_ | (refine Qb ?_ ?_; focus kernel_rfl) | ((with_reducible apply And.intro); focus omega) | (refine z5 hK ?_; clear hK; simp only [go_sem, *]) | simp only [z3, z4, go_sem, *])
 all_goals try contradiction
 have t := zAv 0 5
 (try simp only [sA, sCourt, sShut, sDiv, sFell, sFell6, sJoin0, sMixed, sDivided, zJo, zJi, W2, atX, zeroPlate, zNq, List.map_cons, List.map_nil, decide_true, Option.getD_some, zOK, sTale1, sTale2, sTaleF, sE, sG1, sG3] at t)
 refine X3 t (by simp only [go_sem, *]) ?_
 simp only [go_sem, *]
 clear t
 repeat' (first | ((with_reducible refine stop_at [0, 1, 1, 1, 1, 1, 1, 1, 1, 1, 1, 1, 1, 1, 1, 1, 1, 1, 1, 1, 1, 1, 1, 1, 1] ?_)) | (refine Qr rfl ?_; try intro _ hK; try simp only [go_sem, *]) | (refine Qi rfl rfl rfl rfl ?_ ?_ <;> (intro hb; (try intro _ hK); have hc := hb; try simp only [go_sem] at hc; simp only [go_sem, *])) | refine Qh rfl ?_ | refine Qd rfl (by kernel_rfl) ?_ | (refine Qc rfl rfl ?_ ?_ <;> (intro hb; have hc := hb; try simp only [go_sem] at hc)) | refine z6 rfl ?_ | (refine Qb ?_ ?_; focus kernel_rfl) | ((with_reducible apply And.intro); focus omega) | (refine z5 hK ?_; clear hK; simp only [go_sem, *]) | simp only [z3, z4, go_sem, *])
 all_goals try contradiction
 refine ⟨?_⟩
 refine H8 (N := 624) (env := [(0, bV false)]) (As := []) [] [] (by (simp only [Weak, go_sem, List.map_append, List.map_set, *] <;> (try simp (disch := omega) only [y8]) <;> (try simp) <;> (try omega))) ?_
 exact hn
theorem sk_24 (E : Env) (hE : E.n = ([] : List AObj).length) (hn : Hold prog E (sub [0, 1, 1, 1, 1, 1, 1, 1, 1, 1, 1, 1, 1, 1, 1, 1, 1, 1, 1, 1, 1, 1, 1, 1, 1, 1, 1, 1, 1] (C4 Tryz.f5)) (z3 (Hold prog E (sub [1, 1, 1, 1, 1, 1, 1, 1, 1, 1, 1, 1, 1, 1, 1, 1, 1, 1, 1, 1, 1, 1, 1, 1, 1, 1, 1, 1, 1] (C4 Tryz.f5)) (fun e σ' => (e = Exit.normal ∨ e = Exit.ret) ∧ D8 prog Tryz.f5 0 (bV true) [] σ')) (fun e σ' => (e = Exit.normal ∨ e = Exit.ret) ∧ D8 prog Tryz.f5 0 (bV true) [] σ')) ⟨624, [(0, bV false)], zNf 0 []⟩) : Hold prog E (sub [0, 1, 1, 1, 1, 1, 1, 1, 1, 1, 1, 1, 1, 1, 1, 1, 1, 1, 1, 1, 1, 1, 1, 1, 1] (C4 Tryz.f5)) (z3 (Hold prog E (sub [1, 1, 1, 1, 1, 1, 1, 1, 1, 1, 1, 1, 1, 1, 1, 1, 1, 1, 1, 1, 1, 1, 1, 1, 1] (C4 Tryz.f5)) (fun e σ' => (e = Exit.normal ∨ e = Exit.ret) ∧ D8 prog Tryz.f5 0 (bV true) [] σ')) (fun e σ' => (e = Exit.normal ∨ e = Exit.ret) ∧ D8 prog Tryz.f5 0 (bV true) [] σ')) ⟨624, [(0, bV false)], zNf 0 []⟩ := by
 repeat' (first | (refine Qr rfl ?_; try intro _ hK; try simp only [go_sem, *]) | (refine Qi rfl rfl rfl rfl ?_ ?_ <;> (intro hb; (try intro _ hK); have hc := hb; try simp only [go_sem] at hc; simp only [go_sem, *])) | refine Qh rfl ?_ | refine Qd rfl (by kernel_rfl) ?_ | (refine Qc rfl rfl ?_ ?_ <;> (intro hb; have hc := hb; try simp only [go_sem] at hc)) | refine z6 rfl ?_ | (refine Qb ?_ ?_; focus kernel_rfl) | ((with_reducible apply And.intro); focus omega) | (refine z5 hK ?_; clear hK; simp only [go_sem, *]) | simp only [z3, z4, go_sem, *])
 all_goals try contradiction
 have t := zAv 0 3
 (try simp only [sA, sCourt, sShut, sDiv, sFell, sFell6, sJoin0, sMixed, sDivided, zJo, zJi, W2, atX, zeroPlate, zNq, List.map_cons, List.map_nil, decide_true, Option.getD_some, zOK, sTale1, sTale2, sTaleF, sE, sG1, sG3] at t)
 refine X3 t (by simp only [go_sem, *]) ?_
 simp only [go_sem, *]
 clear t
 repeat' (first | (refine Qr rfl ?_; try intro _ hK; try simp only [go_sem, *]) | (refine Qi rfl rfl rfl rfl ?_ ?_ <;> (intro hb; (try intro _ hK); have hc := hb; try simp only [go_sem] at hc; simp only [go_sem, *])) | refine Qh rfl ?_ | refine Qd rfl (by kernel_rfl) ?_ | (refine Qc rfl rfl ?_ ?_ <;> (intro hb; have hc := hb; try simp only [go_sem] at hc)) | refine z6 rfl ?_ | (refine Qb ?_ ?_; focus kernel_rfl) | ((with_reducible apply And.intro); focus omega) | (refine z5 hK ?_; clear hK; simp only [go_sem, *]) | simp only [z3, z4, go_sem, *])
 all_goals try contradiction
 have t := zAv 0 3
 (try simp only [sA, sCourt, sShut, sDiv, sFell, sFell6, sJoin0, sMixed, sDivided, zJo, zJi, W2, atX, zeroPlate, zNq, List.map_cons, List.map_nil, decide_true, Option.getD_some, zOK, sTale1, sTale2, sTaleF, sE, sG1, sG3] at t)
 refine X3 t (by simp only [go_sem, *]) ?_
 simp only [go_sem, *]
 clear t
 repeat' (first | (refine Qr rfl ?_; try intro _ hK; try simp only [go_sem, *]) | (refine Qi rfl rfl rfl rfl ?_ ?_ <;> (intro hb; (try intro _ hK); have hc := hb; try simp only [go_sem] at hc; simp only [go_sem, *])) | refine Qh rfl ?_ | refine Qd rfl (by kernel_rfl) ?_ | (refine Qc rfl rfl ?_ ?_ <;> (intro hb; have hc := hb; try simp only [go_sem] at hc)) | refine z6 rfl ?_ | (refine Qb ?_ ?_; focus kernel_rfl) | ((with_reducible apply And.intro); focus omega) | (refine z5 hK ?_; clear hK; simp only [go_sem, *]) | simp only [z3, z4, go_sem, *])
 all_goals try contradiction
 have t := sp_tale1 ⟨atX 0 3, atX 0 3⟩
 (try simp only [sA, sCourt, sShut, sDiv, sFell, sFell6, sJoin0, sMixed, sDivided, zJo, zJi, W2, atX, zeroPlate, zNq, List.map_cons, List.map_nil, decide_true, Option.getD_some, zOK, sTale1, sTale2, sTaleF, sE, sG1, sG3] at t)
 (refine o3 (t) (by simp only [go_sem, *]; done) rfl (by simp only [go_sem]; done) (by simp) (by simp) ?_; simp only [go_sem, w6, *])
 clear t
 repeat' (first | (refine Qr rfl ?_; try intro _ hK; try simp only [go_sem, *]) | (refine Qi rfl rfl rfl rfl ?_ ?_ <;> (intro hb; (try intro _ hK); have hc := hb; try simp only [go_sem] at hc; simp only [go_sem, *])) | refine Qh rfl ?_ | refine Qd rfl (by kernel_rfl) ?_ | (refine Qc rfl rfl ?_ ?_ <;> (intro hb; have hc := hb; try simp only [go_sem] at hc)) | refine z6 rfl ?_ | (refine Qb ?_ ?_; focus kernel_rfl) | ((with_reducible apply And.intro); focus omega) | (refine z5 hK ?_; clear hK; simp only [go_sem, *]) | simp only [z3, z4, go_sem, *])
 all_goals try contradiction
 have t := z_tr1
 (try simp only [sA, sCourt, sShut, sDiv, sFell, sFell6, sJoin0, sMixed, sDivided, zJo, zJi, W2, atX, zeroPlate, zNq, List.map_cons, List.map_nil, decide_true, Option.getD_some, zOK, sTale1, sTale2, sTaleF, sE, sG1, sG3] at t)
 refine X3 t (by simp only [go_sem, *]) ?_
 simp only [go_sem, *]
 clear t
 repeat' (first | (refine Qr rfl ?_; try intro _ hK; try simp only [go_sem, *]) | (refine Qi rfl rfl rfl rfl ?_ ?_ <;> (intro hb; (try intro _ hK); have hc := hb; try simp only [go_sem] at hc; simp only [go_sem, *])) | refine Qh rfl ?_ | refine Qd rfl (by kernel_rfl) ?_ | (refine Qc rfl rfl ?_ ?_ <;> (intro hb; have hc := hb; try simp only [go_sem] at hc)) | refine z6 rfl ?_ | (refine Qb ?_ ?_; focus kernel_rfl) | ((with_reducible apply And.intro); focus omega) | (refine z5 hK ?_; clear hK; simp only [go_sem, *]) | simp only [z3, z4, go_sem, *])
 all_goals try contradiction
 have t := zAv 0 3
 (try simp only [sA, sCourt, sShut, sDiv, sFell, sFell6, sJoin0, sMixed, sDivided, zJo, zJi, W2, atX, zeroPlate, zNq, List.map_cons, List.map_nil, decide_true, Option.getD_some, zOK, sTale1, sTale2, sTaleF, sE, sG1, sG3] at t)
 refine X3 t (by simp only [go_sem, *]) ?_
 simp only [go_sem, *]
 clear t
 repeat' (first | (refine Qr rfl ?_; try intro _ hK; try simp only [go_sem, *]) | (refine Qi rfl rfl rfl rfl ?_ ?_ <;> (intro hb; (try intro _ hK); have hc := hb; try simp only [go_sem] at hc; simp only [go_sem, *])) | refine Qh rfl ?_ | refine Qd rfl (by kernel_rfl) ?_ | (refine Qc rfl rfl ?_ ?_ <;> (intro hb; have hc := hb; try simp only [go_sem] at hc)) | refine z6 rfl ?_ | (refine Qb ?_ ?_; focus kernel_rfl) | ((with_reducible apply And.intro); focus omega) | (refine z5 hK ?_; clear hK; simp only [go_sem, *]) | simp only [z3, z4, go_sem, *])
 all_goals try contradiction
 have t := zAv 0 5
 (try simp only [sA, sCourt, sShut, sDiv, sFell, sFell6, sJoin0, sMixed, sDivided, zJo, zJi, W2, atX, zeroPlate, zNq, List.map_cons, List.map_nil, decide_true, Option.getD_some, zOK, sTale1, sTale2, sTaleF, sE, sG1, sG3] at t)
 refine X3 t (by simp only [go_sem, *]) ?_
 simp only [go_sem, *]
 clear t
 repeat' (first | (refine Qr rfl ?_; try intro _ hK; try simp only [go_sem, *]) | (refine Qi rfl rfl rfl rfl ?_ ?_ <;> (intro hb; (try intro _ hK); have hc := hb; try simp only [go_sem] at hc; simp only [go_sem, *])) | refine Qh rfl ?_ | refine Qd rfl (by kernel_rfl) ?_ | (refine Qc rfl rfl ?_ ?_ <;> (intro hb; have hc := hb; try simp only [go_sem] at hc)) | refine z6 rfl ?_ | (refine Qb ?_ ?_; focus kernel_rfl) | ((with_reducible apply And.intro); focus omega) | (refine z5 hK ?_; clear hK; simp only [go_sem, *]) | simp only [z3, z4, go_sem, *])
 all_goals try contradiction
 have t := sp_tale1 ⟨atX 0 3, atX 0 5⟩
 (try simp only [sA, sCourt, sShut, sDiv, sFell, sFell6, sJoin0, sMixed, sDivided, zJo, zJi, W2, atX, zeroPlate, zNq, List.map_cons, List.map_nil, decide_true, Option.getD_some, zOK, sTale1, sTale2, sTaleF, sE, sG1, sG3] at t)
 (refine o3 (t) (by simp only [go_sem, *]; done) rfl (by simp only [go_sem]; done) (by simp) (by simp) ?_; simp only [go_sem, w6, *])
 clear t
 repeat' (first | (refine Qr rfl ?_; try intro _ hK; try simp only [go_sem, *]) | (refine Qi rfl rfl rfl rfl ?_ ?_ <;> (intro hb; (try intro _ hK); have hc := hb; try simp only [go_sem] at hc; simp only [go_sem, *])) | refine Qh rfl ?_ | refine Qd rfl (by kernel_rfl) ?_ | (refine Qc rfl rfl ?_ ?_ <;> (intro hb; have hc := hb; try simp only [go_sem] at hc)) | refine z6 rfl ?_ | (refine Qb ?_ ?_; focus kernel_rfl) | ((with_reducible apply And.intro); focus omega) | (refine z5 hK ?_; clear hK; simp only [go_sem, *]) | simp only [z3, z4, go_sem, *])
 all_goals try contradiction
 have t := z_tr2
 (try simp only [sA, sCourt, sShut, sDiv, sFell, sFell6, sJoin0, sMixed, sDivided, zJo, zJi, W2, atX, zeroPlate, zNq, List.map_cons, List.map_nil, decide_true, Option.getD_some, zOK, sTale1, sTale2, sTaleF, sE, sG1, sG3] at t)
 refine X3 t (by simp only [go_sem, *]) ?_
 simp only [go_sem, *]
 clear t
 repeat' (first | (refine Qr rfl ?_; try intro _ hK; try simp only [go_sem, *]) | (refine Qi rfl rfl rfl rfl ?_ ?_ <;> (intro hb; (try intro _ hK); have hc := hb; try simp only [go_sem] at hc; simp only [go_sem, *])) | refine Qh rfl ?_ | refine Qd rfl (by kernel_rfl) ?_ | (refine Qc rfl rfl ?_ ?_ <;> (intro hb; have hc := hb; try simp only [go_sem] at hc)) | refine z6 rfl ?_ | (refine Qb ?_ ?_; focus kernel_rfl) | ((with_reducible apply And.intro); focus omega) | (refine z5 hK ?_; clear hK; simp only [go_sem, *]) | simp only [z3, z4, go_sem, *])
 all_goals try contradiction
 have t := zJR
 (try simp only [sA, sCourt, sShut, sDiv, sFell, sFell6, sJoin0, sMixed, sDivided, zJo, zJi, W2, atX, zeroPlate, zNq, List.map_cons, List.map_nil, decide_true, Option.getD_some, zOK, sTale1, sTale2, sTaleF, sE, sG1, sG3] at t)
 (refine o3 (t) (by simp only [go_sem, *]; done) rfl (by simp only [go_sem]; done) (by simp) (by simp) ?_; simp only [go_sem, w6, *])
 clear t
 repeat' (first | (refine Qr rfl ?_; try intro _ hK; try simp only [go_sem, *]) | (refine Qi rfl rfl rfl rfl ?_ ?_ <;> (intro hb; (try intro _ hK); have hc := hb; try simp only [go_sem] at hc; simp only [go_sem, *])) | refine Qh rfl ?_ | refine Qd rfl (by kernel_rfl) ?_ | (refine Qc rfl rfl ?_ ?_ <;> (intro hb; have hc := hb; try simp only [go_sem] at hc)) | refine z6 rfl ?_ | (refine Qb ?_ ?_; focus kernel_rfl) | ((with_reducible apply And.intro); focus omega) | (refine z5 hK ?_; clear hK; simp only [go_sem, *]) | simp only [z3, z4, go_sem, *])
 all_goals try contradiction
 have t := z_ends
 (try simp only [sA, sCourt, sShut, sDiv, sFell, sFell6, sJoin0, sMixed, sDivided, zJo, zJi, W2, atX, zeroPlate, zNq, List.map_cons, List.map_nil, decide_true, Option.getD_some, zOK, sTale1, sTale2, sTaleF, sE, sG1, sG3] at t)
 refine X3 t (by simp only [go_sem, *]) ?_
 simp only [go_sem, *]
 clear t
 repeat' (first | (refine Qr rfl ?_; try intro _ hK; try simp only [go_sem, *]) | (refine Qi rfl rfl rfl rfl ?_ ?_ <;> (intro hb; (try intro _ hK); have hc := hb; try simp only [go_sem] at hc; simp only [go_sem, *])) | refine Qh rfl ?_ | refine Qd rfl (by kernel_rfl) ?_ | (refine Qc rfl rfl ?_ ?_ <;> (intro hb; have hc := hb; try simp only [go_sem] at hc)) | refine z6 rfl ?_ | (refine Qb ?_ ?_; focus kernel_rfl) | ((with_reducible apply And.intro); focus omega) | (refine z5 hK ?_; clear hK; simp only [go_sem, *]) | simp only [z3, z4, go_sem, *])
 all_goals try contradiction
 have t := zIe [[0, 0]] [[0, 0]] (by decide) (by decide)
 (try simp only [sA, sCourt, sShut, sDiv, sFell, sFell6, sJoin0, sMixed, sDivided, zJo, zJi, W2, atX, zeroPlate, zNq, List.map_cons, List.map_nil, decide_true, Option.getD_some, zOK, sTale1, sTale2, sTaleF, sE, sG1, sG3] at t)
 (refine o3 (t) (by simp only [go_sem, *]; done) rfl (by simp only [go_sem]; done) (by simp) (by simp) ?_; simp only [go_sem, w6, *])
 clear t
 repeat' (first | (refine Qr rfl ?_; try intro _ hK; try simp only [go_sem, *]) | (refine Qi rfl rfl rfl rfl ?_ ?_ <;> (intro hb; (try intro _ hK); have hc := hb; try simp only [go_sem] at hc; simp only [go_sem, *])) | refine Qh rfl ?_ | refine Qd rfl (by kernel_rfl) ?_ | (refine Qc rfl rfl ?_ ?_ <;> (intro hb; have hc := hb; try simp only [go_sem] at hc)) | refine z6 rfl ?_ | (refine Qb ?_ ?_; focus kernel_rfl) | ((with_reducible apply And.intro); focus omega) | (refine z5 hK ?_; clear hK; simp only [go_sem, *]) | simp only [z3, z4, go_sem, *])
 all_goals try contradiction
 have t := E7 [1, 2, 3, 4, 5, 7, 8] (by decide)
 (try simp only [sA, sCourt, sShut, sDiv, sFell, sFell6, sJoin0, sMixed, sDivided, zJo, zJi, W2, atX, zeroPlate, zNq, List.map_cons, List.map_nil, decide_true, Option.getD_some, zOK, sTale1, sTale2, sTaleF, sE, sG1, sG3] at t)
 (refine o3 (t) (by simp only [go_sem, *]; done) rfl (by simp only [go_sem]; done) (by simp) (by simp) ?_; simp only [go_sem, w6, *])
 clear t
 repeat' (first | (refine Qr rfl ?_; try intro _ hK; try simp only [go_sem, *]) | (refine Qi rfl rfl rfl rfl ?_ ?_ <;> (intro hb; (try intro _ hK); have hc := hb; try simp only [go_sem] at hc; simp only [go_sem, *])) | refine Qh rfl ?_ | refine Qd rfl (by kernel_rfl) ?_ | (refine Qc rfl rfl ?_ ?_ <;> (intro hb; have hc := hb; try simp only [go_sem] at hc)) | refine z6 rfl ?_ | (refine Qb ?_ ?_; focus kernel_rfl) | ((with_reducible apply And.intro); focus omega) | (refine z5 hK ?_; clear hK; simp only [go_sem, *]) | simp only [z3, z4, go_sem, *])
 all_goals try contradiction
 have t := zAx (zNq [1, 2, 3, 4, 5, 7, 8]) [] []
 (try simp only [sA, sCourt, sShut, sDiv, sFell, sFell6, sJoin0, sMixed, sDivided, zJo, zJi, W2, atX, zeroPlate, zNq, List.map_cons, List.map_nil, decide_true, Option.getD_some, zOK, sTale1, sTale2, sTaleF, sE, sG1, sG3] at t)
 (refine o3 (t) (by simp only [go_sem, *]; done) rfl (by simp only [go_sem]; done) (by simp) (by simp) ?_; simp only [go_sem, w6, *])
 clear t
 repeat' (first | (refine Qr rfl ?_; try intro _ hK; try simp only [go_sem, *]) | (refine Qi rfl rfl rfl rfl ?_ ?_ <;> (intro hb; (try intro _ hK); have hc := hb; try simp only [go_sem] at hc; simp only [go_sem, *])) | refine Qh rfl ?_ | refine Qd rfl (by kernel_rfl) ?_ | (refine Qc rfl rfl ?_ ?_ <;> (intro hb; have hc := hb; try simp only [go_sem] at hc)) | refine z6 rfl ?_ | (refine Qb ?_ ?_; focus kernel_rfl) | ((with_reducible apply And.intro); focus omega) | (refine z5 hK ?_; clear hK; simp only [go_sem, *]) | simp only [z3, z4, go_sem, *])
 all_goals try contradiction
 have t := E7 [1, 2, 3, 4, 6, 7, 8] (by decide)
 (try simp only [sA, sCourt, sShut, sDiv, sFell, sFell6, sJoin0, sMixed, sDivided, zJo, zJi, W2, atX, zeroPlate, zNq, List.map_cons, List.map_nil, decide_true, Option.getD_some, zOK, sTale1, sTale2, sTaleF, sE, sG1, sG3] at t)
 (refine o3 (t) (by simp only [go_sem, *]; done) rfl (by simp only [go_sem]; done) (by simp) (by simp) ?_; simp only [go_sem, w6, *])
 clear t
 repeat' (first | (refine Qr rfl ?_; try intro _ hK; try simp only [go_sem, *]) | (refine Qi rfl rfl rfl rfl ?_ ?_ <;> (intro hb; (try intro _ hK); have hc := hb; try simp only [go_sem] at hc; simp only [go_sem, *])) | refine Qh rfl ?_ | refine Qd rfl (by kernel_rfl) ?_ | (refine Qc rfl rfl ?_ ?_ <;> (intro hb; have hc := hb; try simp only [go_sem] at hc)) | refine z6 rfl ?_ | (refine Qb ?_ ?_; focus kernel_rfl) | ((with_reducible apply And.intro); focus omega) | (refine z5 hK ?_; clear hK; simp only [go_sem, *]) | simp only [z3, z4, go_sem, *])
 all_goals try contradiction
 have t := zAx (zNq [1, 2, 3, 4, 6, 7, 8]) [] []
 (try simp only [sA, sCourt, sShut, sDiv, sFell, sFell6, sJoin0, sMixed, sDivided, zJo, zJi, W2, atX, zeroPlate, zNq, List.map_cons, List.map_nil, decide_true, Option.getD_some, zOK, sTale1, sTale2, sTaleF, sE, sG1, sG3] at t)
 (refine o3 (t) (by simp only [go_sem, *]; done) rfl (by simp only [go_sem]; done) (by simp) (by simp) ?_; simp only [go_sem, w6, *])
 clear t
 repeat' (first | (refine Qr rfl ?_; try intro _ hK; try simp only [go_sem, *]) | (refine Qi rfl rfl rfl rfl ?_ ?_ <;> (intro hb; (try intro _ hK); have hc := hb; try simp only [go_sem] at hc; simp only [go_sem, *])) | refine Qh rfl ?_ | refine Qd rfl (by kernel_rfl) ?_ | (refine Qc rfl rfl ?_ ?_ <;> (intro hb; have hc := hb; try simp only [go_sem] at hc)) | refine z6 rfl ?_ | (refine Qb ?_ ?_; focus kernel_rfl) | ((with_reducible apply And.intro); focus omega) | (refine z5 hK ?_; clear hK; simp only [go_sem, *]) | simp only [z3, z4, go_sem, *])
 all_goals try contradiction
 have t := z_eqpl
 (try simp only [sA, sCourt, sShut, sDiv, sFell, sFell6, sJoin0, sMixed, sDivided, zJo, zJi, W2, atX, zeroPlate, zNq, List.map_cons, List.map_nil, decide_true, Option.getD_some, zOK, sTale1, sTale2, sTaleF, sE, sG1, sG3] at t)
 (refine o3 (t) (by simp only [go_sem, *]; done) rfl (by simp only [go_sem]; done) (by simp) (by simp) ?_; simp only [go_sem, w6, *])
 clear t
 repeat' (first | ((with_reducible refine stop_at [0, 1, 1, 1, 1, 1, 1, 1, 1, 1, 1, 1, 1, 1, 1, 1, 1, 1, 1, 1, 1, 1, 1, 1, 1, 1, 1, 1, 1] ?_)) | (refine Qr rfl ?_; try intro _ hK; try simp only [go_sem, *]) | (refine Qi rfl rfl rfl rfl ?_ ?_ <;> (intro hb; (try intro _ hK); have hc := hb; try simp only [go_sem] at hc; simp only [go_sem, *])) | refine Qh rfl ?_ | refine Qd rfl (by kernel_rfl) ?_ | (refine Qc rfl rfl ?_ ?_ <;> (intro hb; have hc := hb; try simp only [go_sem] at hc)) | refine z6 rfl ?_ | (refine Qb ?_ ?_; focus kernel_rfl) | ((with_reducible apply And.intro); focus omega) | (refine z5 hK ?_; clear hK; simp only [go_sem, *]) | simp only [z3, z4, go_sem, *])
 all_goals try contradiction
 refine ⟨?_⟩
 refine H8 (N := 624) (env := [(0, bV false)]) (As := []) [] [] (by (simp only [Weak, go_sem, List.map_append, List.map_set, *] <;> (try simp (disch := omega) only [y8]) <;> (try simp) <;> (try omega))) ?_
 exact hn
theorem sk_28 (E : Env) (hE : E.n = ([] : List AObj).length) (hn : Hold prog E (sub [0, 1, 1, 1, 1, 1, 1, 1, 1, 1, 1, 1, 1, 1, 1, 1, 1, 1, 1, 1, 1, 1, 1, 1, 1, 1, 1, 1, 1, 1, 1, 1, 1, 1, 1, 1] (C4 Tryz.f5)) (z3 (Hold prog E (sub [1, 1, 1, 1, 1, 1, 1, 1, 1, 1, 1, 1, 1, 1, 1, 1, 1, 1, 1, 1, 1, 1, 1, 1, 1, 1, 1, 1, 1, 1, 1, 1, 1, 1, 1, 1] (C4 Tryz.f5)) (fun e σ' => (e = Exit.normal ∨ e = Exit.ret) ∧ D8 prog Tryz.f5 0 (bV true) [] σ')) (fun e σ' => (e = Exit.normal ∨ e = Exit.ret) ∧ D8 prog Tryz.f5 0 (bV true) [] σ')) ⟨624, [(0, bV false)], zNf 0 []⟩) : Hold prog E (sub [0, 1, 1, 1, 1, 1, 1, 1, 1, 1, 1, 1, 1, 1, 1, 1, 1, 1, 1, 1, 1, 1, 1, 1, 1, 1, 1, 1, 1] (C4 Tryz.f5)) (z3 (Hold prog E (sub [1, 1, 1, 1, 1, 1, 1, 1, 1, 1, 1, 1, 1, 1, 1, 1, 1, 1, 1, 1, 1, 1, 1, 1, 1, 1, 1, 1, 1] (C4 Tryz.f5)) (fun e σ' => (e = Exit.normal ∨ e = Exit.ret) ∧ D8 prog Tryz.f5 0 (bV true) [] σ')) (fun e σ' => (e = Exit.normal ∨ e = Exit.ret) ∧ D8 prog Tryz.f5 0 (bV true) [] σ')) ⟨624, [(0, bV false)], zNf 0 []⟩ := by
 repeat' (first | (refine Qr rfl ?_; try intro _ hK; try simp only [go_sem, *]) | (refine Qi rfl rfl rfl rfl ?_ ?_ <;> (intro hb; (try intro _ hK); have hc := hb; try simp only [go_sem] at hc; simp only [go_sem, *])) | refine Qh rfl ?_ | refine Qd rfl (by kernel_rfl) ?_ | (refine Qc rfl rfl ?_ ?_ <;> (intro hb; have hc := hb; try simp only [go_sem] at hc)) | refine z6 rfl ?_ | (refine Qb ?_ ?_; focus kernel_rfl) | ((with_reducible apply And.intro); focus omega) | (refine z5 hK ?_; clear hK; simp only [go_sem, *]) | simp only [z3, z4, go_sem, *])
 all_goals try contradiction
 have t := zJR
 (try simp only [sA, sCourt, sShut, sDiv, sFell, sFell6, sJoin0, sMixed, sDivided, zJo, zJi, W2, atX, zeroPlate, zNq, List.map_cons, List.map_nil, decide_true, Option.getD_some, zOK, sTale1, sTale2, sTaleF, sE, sG1, sG3] at t)
 (refine o3 (t) (by simp only [go_sem, *]; done) rfl (by simp only [go_sem]; done) (by simp) (by simp) ?_; simp only [go_sem, w6, *])
 clear t
 repeat' (first | (refine Qr rfl ?_; try intro _ hK; try simp only [go_sem, *]) | (refine Qi rfl rfl rfl rfl ?_ ?_ <;> (intro hb; (try intro _ hK); have hc := hb; try simp only [go_sem] at hc; simp only [go_sem, *])) | refine Qh rfl ?_ | refine Qd rfl (by kernel_rfl) ?_ | (refine Qc rfl rfl ?_ ?_ <;> (intro hb; have hc := hb; try simp only [go_sem] at hc)) | refine z6 rfl ?_ | (refine Qb ?_ ?_; focus kernel_rfl) | ((with_reducible apply And.intro); focus omega) | (refine z5 hK ?_; clear hK; simp only [go_sem, *]) | simp only [z3, z4, go_sem, *])
 all_goals try contradiction
 have t := zAv 0 9
 (try simp only [sA, sCourt, sShut, sDiv, sFell, sFell6, sJoin0, sMixed, sDivided, zJo, zJi, W2, atX, zeroPlate, zNq, List.map_cons, List.map_nil, decide_true, Option.getD_some, zOK, sTale1, sTale2, sTaleF, sE, sG1, sG3] at t)
 refine X3 t (by simp only [go_sem, *]) ?_
 simp only [go_sem, *]
 clear t
 repeat' (first | (refine Qr rfl ?_; try intro _ hK; try simp only [go_sem, *]) | (refine Qi rfl rfl rfl rfl ?_ ?_ <;> (intro hb; (try intro _ hK); have hc := hb; try simp only [go_sem] at hc; simp only [go_sem, *])) | refine Qh rfl ?_ | refine Qd rfl (by kernel_rfl) ?_ | (refine Qc rfl rfl ?_ ?_ <;> (intro hb; have hc := hb; try simp only [go_sem] at hc)) | refine z6 rfl ?_ | (refine Qb ?_ ?_; focus kernel_rfl) | ((with_reducible apply And.intro); focus omega) | (refine z5 hK ?_; clear hK; simp only [go_sem, *]) | simp only [z3, z4, go_sem, *])
 all_goals try contradiction
 have t := z_where9
 (try simp only [sA, sCourt, sShut, sDiv, sFell, sFell6, sJoin0, sMixed, sDivided, zJo, zJi, W2, atX, zeroPlate, zNq, List.map_cons, List.map_nil, decide_true, Option.getD_some, zOK, sTale1, sTale2, sTaleF, sE, sG1, sG3] at t)
 refine X3 t (by simp only [go_sem, *]) ?_
 simp only [go_sem, *]
 clear t
 repeat' (first | (refine Qr rfl ?_; try intro _ hK; try simp only [go_sem, *]) | (refine Qi rfl rfl rfl rfl ?_ ?_ <;> (intro hb; (try intro _ hK); have hc := hb; try simp only [go_sem] at hc; simp only [go_sem, *])) | refine Qh rfl ?_ | refine Qd rfl (by kernel_rfl) ?_ | (refine Qc rfl rfl ?_ ?_ <;> (intro hb; have hc := hb; try simp only [go_sem] at hc)) | refine z6 rfl ?_ | (refine Qb ?_ ?_; focus kernel_rfl) | ((with_reducible apply And.intro); focus omega) | (refine z5 hK ?_; clear hK; simp only [go_sem, *]) | simp only [z3, z4, go_sem, *])
 all_goals try contradiction
 have t := zJR
 (try simp only [sA, sCourt, sShut, sDiv, sFell, sFell6, sJoin0, sMixed, sDivided, zJo, zJi, W2, atX, zeroPlate, zNq, List.map_cons, List.map_nil, decide_true, Option.getD_some, zOK, sTale1, sTale2, sTaleF, sE, sG1, sG3] at t)
 (refine o3 (t) (by simp only [go_sem, *]; done) rfl (by simp only [go_sem]; done) (by simp) (by simp) ?_; simp only [go_sem, w6, *])
 clear t
 repeat' (first | (refine Qr rfl ?_; try intro _ hK; try simp only [go_sem, *]) | (refine Qi rfl rfl rfl rfl ?_ ?_ <;> (intro hb; (try intro _ hK); have hc := hb; try simp only [go_sem] at hc; simp only [go_sem, *])) | refine Qh rfl ?_ | refine Qd rfl (by kernel_rfl) ?_ | (refine Qc rfl rfl ?_ ?_ <;> (intro hb; have hc := hb; try simp only [go_sem] at hc)) | refine z6 rfl ?_ | (refine Qb ?_ ?_; focus kernel_rfl) | ((with_reducible apply And.intro); focus omega) | (refine z5 hK ?_; clear hK; simp only [go_sem, *]) | simp only [z3, z4, go_sem, *])
 all_goals try contradiction
 have t := zAv 0 2
 (try simp only [sA, sCourt, sShut, sDiv, sFell, sFell6, sJoin0, sMixed, sDivided, zJo, zJi, W2, atX, zeroPlate, zNq, List.map_cons, List.map_nil, decide_true, Option.getD_some, zOK, sTale1, sTale2, sTaleF, sE, sG1, sG3] at t)
 refine X3 t (by simp only [go_sem, *]) ?_
 simp only [go_sem, *]
 clear t
 repeat' (first | (refine Qr rfl ?_; try intro _ hK; try simp only [go_sem, *]) | (refine Qi rfl rfl rfl rfl ?_ ?_ <;> (intro hb; (try intro _ hK); have hc := hb; try simp only [go_sem] at hc; simp only [go_sem, *])) | refine Qh rfl ?_ | refine Qd rfl (by kernel_rfl) ?_ | (refine Qc rfl rfl ?_ ?_ <;> (intro hb; have hc := hb; try simp only [go_sem] at hc)) | refine z6 rfl ?_ | (refine Qb ?_ ?_; focus kernel_rfl) | ((with_reducible apply And.intro); focus omega) | (refine z5 hK ?_; clear hK; simp only [go_sem, *]) | simp only [z3, z4, go_sem, *])
 all_goals try contradiction
 have t := z_when
 (try simp only [sA, sCourt, sShut, sDiv, sFell, sFell6, sJoin0, sMixed, sDivided, zJo, zJi, W2, atX, zeroPlate, zNq, List.map_cons, List.map_nil, decide_true, Option.getD_some, zOK, sTale1, sTale2, sTaleF, sE, sG1, sG3] at t)
 refine X3 t (by simp only [go_sem, *]) ?_
 simp only [go_sem, *]
 clear t
 repeat' (first | (refine Qr rfl ?_; try intro _ hK; try simp only [go_sem, *]) | (refine Qi rfl rfl rfl rfl ?_ ?_ <;> (intro hb; (try intro _ hK); have hc := hb; try simp only [go_sem] at hc; simp only [go_sem, *])) | refine Qh rfl ?_ | refine Qd rfl (by kernel_rfl) ?_ | (refine Qc rfl rfl ?_ ?_ <;> (intro hb; have hc := hb; try simp only [go_sem] at hc)) | refine z6 rfl ?_ | (refine Qb ?_ ?_; focus kernel_rfl) | ((with_reducible apply And.intro); focus omega) | (refine z5 hK ?_; clear hK; simp only [go_sem, *]) | simp only [z3, z4, go_sem, *])
 all_goals try contradiction
 have t := zJR
 (try simp only [sA, sCourt, sShut, sDiv, sFell, sFell6, sJoin0, sMixed, sDivided, zJo, zJi, W2, atX, zeroPlate, zNq, List.map_cons, List.map_nil, decide_true, Option.getD_some, zOK, sTale1, sTale2, sTaleF, sE, sG1, sG3] at t)
 (refine o3 (t) (by simp only [go_sem, *]; done) rfl (by simp only [go_sem]; done) (by simp) (by simp) ?_; simp only [go_sem, w6, *])
 clear t
 repeat' (first | (refine Qr rfl ?_; try intro _ hK; try simp only [go_sem, *]) | (refine Qi rfl rfl rfl rfl ?_ ?_ <;> (intro hb; (try intro _ hK); have hc := hb; try simp only [go_sem] at hc; simp only [go_sem, *])) | refine Qh rfl ?_ | refine Qd rfl (by kernel_rfl) ?_ | (refine Qc rfl rfl ?_ ?_ <;> (intro hb; have hc := hb; try simp only [go_sem] at hc)) | refine z6 rfl ?_ | (refine Qb ?_ ?_; focus kernel_rfl) | ((with_reducible apply And.intro); focus omega) | (refine z5 hK ?_; clear hK; simp only [go_sem, *]) | simp only [z3, z4, go_sem, *])
 all_goals try contradiction
 have t := zAv 0 9
 (try simp only [sA, sCourt, sShut, sDiv, sFell, sFell6, sJoin0, sMixed, sDivided, zJo, zJi, W2, atX, zeroPlate, zNq, List.map_cons, List.map_nil, decide_true, Option.getD_some, zOK, sTale1, sTale2, sTaleF, sE, sG1, sG3] at t)
 refine X3 t (by simp only [go_sem, *]) ?_
 simp only [go_sem, *]
 clear t
 repeat' (first | (refine Qr rfl ?_; try intro _ hK; try simp only [go_sem, *]) | (refine Qi rfl rfl rfl rfl ?_ ?_ <;> (intro hb; (try intro _ hK); have hc := hb; try simp only [go_sem] at hc; simp only [go_sem, *])) | refine Qh rfl ?_ | refine Qd rfl (by kernel_rfl) ?_ | (refine Qc rfl rfl ?_ ?_ <;> (intro hb; have hc := hb; try simp only [go_sem] at hc)) | refine z6 rfl ?_ | (refine Qb ?_ ?_; focus kernel_rfl) | ((with_reducible apply And.intro); focus omega) | (refine z5 hK ?_; clear hK; simp only [go_sem, *]) | simp only [z3, z4, go_sem, *])
 all_goals try contradiction
 have t := z_when9
 (try simp only [sA, sCourt, sShut, sDiv, sFell, sFell6, sJoin0, sMixed, sDivided, zJo, zJi, W2, atX, zeroPlate, zNq, List.map_cons, List.map_nil, decide_true, Option.getD_some, zOK, sTale1, sTale2, sTaleF, sE, sG1, sG3] at t)
 refine X3 t (by simp only [go_sem, *]) ?_
 simp only [go_sem, *]
 clear t
 repeat' (first | (refine Qr rfl ?_; try intro _ hK; try simp only [go_sem, *]) | (refine Qi rfl rfl rfl rfl ?_ ?_ <;> (intro hb; (try intro _ hK); have hc := hb; try simp only [go_sem] at hc; simp only [go_sem, *])) | refine Qh rfl ?_ | refine Qd rfl (by kernel_rfl) ?_ | (refine Qc rfl rfl ?_ ?_ <;> (intro hb; have hc := hb; try simp only [go_sem] at hc)) | refine z6 rfl ?_ | (refine Qb ?_ ?_; focus kernel_rfl) | ((with_reducible apply And.intro); focus omega) | (refine z5 hK ?_; clear hK; simp only [go_sem, *]) | simp only [z3, z4, go_sem, *])
 all_goals try contradiction
 have t := zJR
 (try simp only [sA, sCourt, sShut, sDiv, sFell, sFell6, sJoin0, sMixed, sDivided, zJo, zJi, W2, atX, zeroPlate, zNq, List.map_cons, List.map_nil, decide_true, Option.getD_some, zOK, sTale1, sTale2, sTaleF, sE, sG1, sG3] at t)
 (refine o3 (t) (by simp only [go_sem, *]; done) rfl (by simp only [go_sem]; done) (by simp) (by simp) ?_; simp only [go_sem, w6, *])
 clear t
 repeat' (first | (refine Qr rfl ?_; try intro _ hK; try simp only [go_sem, *]) | (refine Qi rfl rfl rfl rfl ?_ ?_ <;> (intro hb; (try intro _ hK); have hc := hb; try simp only [go_sem] at hc; simp only [go_sem, *])) | refine Qh rfl ?_ | refine Qd rfl (by kernel_rfl) ?_ | (refine Qc rfl rfl ?_ ?_ <;> (intro hb; have hc := hb; try simp only [go_sem] at hc)) | refine z6 rfl ?_ | (refine Qb ?_ ?_; focus kernel_rfl) | ((with_reducible apply And.intro); focus omega) | (refine z5 hK ?_; clear hK; simp only [go_sem, *]) | simp only [z3, z4, go_sem, *])
 all_goals try contradiction
 have t := zAv 1 1
 (try simp only [sA, sCourt, sShut, sDiv, sFell, sFell6, sJoin0, sMixed, sDivided, zJo, zJi, W2, atX, zeroPlate, zNq, List.map_cons, List.map_nil, decide_true, Option.getD_some, zOK, sTale1, sTale2, sTaleF, sE, sG1, sG3] at t)
 refine X3 t (by simp only [go_sem, *]) ?_
 simp only [go_sem, *]
 clear t
 repeat' (first | (refine Qr rfl ?_; try intro _ hK; try simp only [go_sem, *]) | (refine Qi rfl rfl rfl rfl ?_ ?_ <;> (intro hb; (try intro _ hK); have hc := hb; try simp only [go_sem] at hc; simp only [go_sem, *])) | refine Qh rfl ?_ | refine Qd rfl (by kernel_rfl) ?_ | (refine Qc rfl rfl ?_ ?_ <;> (intro hb; have hc := hb; try simp only [go_sem] at hc)) | refine z6 rfl ?_ | (refine Qb ?_ ?_; focus kernel_rfl) | ((with_reducible apply And.intro); focus omega) | (refine z5 hK ?_; clear hK; simp only [go_sem, *]) | simp only [z3, z4, go_sem, *])
 all_goals try contradiction
 have t := zAv 0 7
 (try simp only [sA, sCourt, sShut, sDiv, sFell, sFell6, sJoin0, sMixed, sDivided, zJo, zJi, W2, atX, zeroPlate, zNq, List.map_cons, List.map_nil, decide_true, Option.getD_some, zOK, sTale1, sTale2, sTaleF, sE, sG1, sG3] at t)
 refine X3 t (by simp only [go_sem, *]) ?_
 simp only [go_sem, *]
 clear t
 repeat' (first | (refine Qr rfl ?_; try intro _ hK; try simp only [go_sem, *]) | (refine Qi rfl rfl rfl rfl ?_ ?_ <;> (intro hb; (try intro _ hK); have hc := hb; try simp only [go_sem] at hc; simp only [go_sem, *])) | refine Qh rfl ?_ | refine Qd rfl (by kernel_rfl) ?_ | (refine Qc rfl rfl ?_ ?_ <;> (intro hb; have hc := hb; try simp only [go_sem] at hc)) | refine z6 rfl ?_ | (refine Qb ?_ ?_; focus kernel_rfl) | ((with_reducible apply And.intro); focus omega) | (refine z5 hK ?_; clear hK; simp only [go_sem, *]) | simp only [z3, z4, go_sem, *])
 all_goals try contradiction
 have t := z_verd (h := atX 1 1) (to := atX 0 7) (by decide) k_verd1 rfl
 (try simp only [sA, sCourt, sShut, sDiv, sFell, sFell6, sJoin0, sMixed, sDivided, zJo, zJi, W2, atX, zeroPlate, zNq, List.map_cons, List.map_nil, decide_true, Option.getD_some, zOK, sTale1, sTale2, sTaleF, sE, sG1, sG3] at t)
 refine X3 t (by simp only [go_sem, *]) ?_
 simp only [go_sem, *]
 clear t
 repeat' (first | (refine Qr rfl ?_; try intro _ hK; try simp only [go_sem, *]) | (refine Qi rfl rfl rfl rfl ?_ ?_ <;> (intro hb; (try intro _ hK); have hc := hb; try simp only [go_sem] at hc; simp only [go_sem, *])) | refine Qh rfl ?_ | refine Qd rfl (by kernel_rfl) ?_ | (refine Qc rfl rfl ?_ ?_ <;> (intro hb; have hc := hb; try simp only [go_sem] at hc)) | refine z6 rfl ?_ | (refine Qb ?_ ?_; focus kernel_rfl) | ((with_reducible apply And.intro); focus omega) | (refine z5 hK ?_; clear hK; simp only [go_sem, *]) | simp only [z3, z4, go_sem, *])
 all_goals try contradiction
 have t := zJR
 (try simp only [sA, sCourt, sShut, sDiv, sFell, sFell6, sJoin0, sMixed, sDivided, zJo, zJi, W2, atX, zeroPlate, zNq, List.map_cons, List.map_nil, decide_true, Option.getD_some, zOK, sTale1, sTale2, sTaleF, sE, sG1, sG3] at t)
 (refine o3 (t) (by simp only [go_sem, *]; done) rfl (by simp only [go_sem]; done) (by simp) (by simp) ?_; simp only [go_sem, w6, *])
 clear t
 repeat' (first | (refine Qr rfl ?_; try intro _ hK; try simp only [go_sem, *]) | (refine Qi rfl rfl rfl rfl ?_ ?_ <;> (intro hb; (try intro _ hK); have hc := hb; try simp only [go_sem] at hc; simp only [go_sem, *])) | refine Qh rfl ?_ | refine Qd rfl (by kernel_rfl) ?_ | (refine Qc rfl rfl ?_ ?_ <;> (intro hb; have hc := hb; try simp only [go_sem] at hc)) | refine z6 rfl ?_ | (refine Qb ?_ ?_; focus kernel_rfl) | ((with_reducible apply And.intro); focus omega) | (refine z5 hK ?_; clear hK; simp only [go_sem, *]) | simp only [z3, z4, go_sem, *])
 all_goals try contradiction
 have t := zAv 0 3
 (try simp only [sA, sCourt, sShut, sDiv, sFell, sFell6, sJoin0, sMixed, sDivided, zJo, zJi, W2, atX, zeroPlate, zNq, List.map_cons, List.map_nil, decide_true, Option.getD_some, zOK, sTale1, sTale2, sTaleF, sE, sG1, sG3] at t)
 refine X3 t (by simp only [go_sem, *]) ?_
 simp only [go_sem, *]
 clear t
 repeat' (first | (refine Qr rfl ?_; try intro _ hK; try simp only [go_sem, *]) | (refine Qi rfl rfl rfl rfl ?_ ?_ <;> (intro hb; (try intro _ hK); have hc := hb; try simp only [go_sem] at hc; simp only [go_sem, *])) | refine Qh rfl ?_ | refine Qd rfl (by kernel_rfl) ?_ | (refine Qc rfl rfl ?_ ?_ <;> (intro hb; have hc := hb; try simp only [go_sem] at hc)) | refine z6 rfl ?_ | (refine Qb ?_ ?_; focus kernel_rfl) | ((with_reducible apply And.intro); focus omega) | (refine z5 hK ?_; clear hK; simp only [go_sem, *]) | simp only [z3, z4, go_sem, *])
 all_goals try contradiction
 have t := zAv 0 3
 (try simp only [sA, sCourt, sShut, sDiv, sFell, sFell6, sJoin0, sMixed, sDivided, zJo, zJi, W2, atX, zeroPlate, zNq, List.map_cons, List.map_nil, decide_true, Option.getD_some, zOK, sTale1, sTale2, sTaleF, sE, sG1, sG3] at t)
 refine X3 t (by simp only [go_sem, *]) ?_
 simp only [go_sem, *]
 clear t
 repeat' (first | (refine Qr rfl ?_; try intro _ hK; try simp only [go_sem, *]) | (refine Qi rfl rfl rfl rfl ?_ ?_ <;> (intro hb; (try intro _ hK); have hc := hb; try simp only [go_sem] at hc; simp only [go_sem, *])) | refine Qh rfl ?_ | refine Qd rfl (by kernel_rfl) ?_ | (refine Qc rfl rfl ?_ ?_ <;> (intro hb; have hc := hb; try simp only [go_sem] at hc)) | refine z6 rfl ?_ | (refine Qb ?_ ?_; focus kernel_rfl) | ((with_reducible apply And.intro); focus omega) | (refine z5 hK ?_; clear hK; simp only [go_sem, *]) | simp only [z3, z4, go_sem, *])
 all_goals try contradiction
 have t := z_verd (h := atX 0 3) (to := atX 0 3) (by decide) k_verd2 rfl
 (try simp only [sA, sCourt, sShut, sDiv, sFell, sFell6, sJoin0, sMixed, sDivided, zJo, zJi, W2, atX, zeroPlate, zNq, List.map_cons, List.map_nil, decide_true, Option.getD_some, zOK, sTale1, sTale2, sTaleF, sE, sG1, sG3] at t)
 refine X3 t (by simp only [go_sem, *]) ?_
 simp only [go_sem, *]
 clear t
 repeat' (first | (refine Qr rfl ?_; try intro _ hK; try simp only [go_sem, *]) | (refine Qi rfl rfl rfl rfl ?_ ?_ <;> (intro hb; (try intro _ hK); have hc := hb; try simp only [go_sem] at hc; simp only [go_sem, *])) | refine Qh rfl ?_ | refine Qd rfl (by kernel_rfl) ?_ | (refine Qc rfl rfl ?_ ?_ <;> (intro hb; have hc := hb; try simp only [go_sem] at hc)) | refine z6 rfl ?_ | (refine Qb ?_ ?_; focus kernel_rfl) | ((with_reducible apply And.intro); focus omega) | (refine z5 hK ?_; clear hK; simp only [go_sem, *]) | simp only [z3, z4, go_sem, *])
 all_goals try contradiction
 have t := zJR
 (try simp only [sA, sCourt, sShut, sDiv, sFell, sFell6, sJoin0, sMixed, sDivided, zJo, zJi, W2, atX, zeroPlate, zNq, List.map_cons, List.map_nil, decide_true, Option.getD_some, zOK, sTale1, sTale2, sTaleF, sE, sG1, sG3] at t)
 (refine o3 (t) (by simp only [go_sem, *]; done) rfl (by simp only [go_sem]; done) (by simp) (by simp) ?_; simp only [go_sem, w6, *])
 clear t
 repeat' (first | (refine Qr rfl ?_; try intro _ hK; try simp only [go_sem, *]) | (refine Qi rfl rfl rfl rfl ?_ ?_ <;> (intro hb; (try intro _ hK); have hc := hb; try simp only [go_sem] at hc; simp only [go_sem, *])) | refine Qh rfl ?_ | refine Qd rfl (by kernel_rfl) ?_ | (refine Qc rfl rfl ?_ ?_ <;> (intro hb; have hc := hb; try simp only [go_sem] at hc)) | refine z6 rfl ?_ | (refine Qb ?_ ?_; focus kernel_rfl) | ((with_reducible apply And.intro); focus omega) | (refine z5 hK ?_; clear hK; simp only [go_sem, *]) | simp only [z3, z4, go_sem, *])
 all_goals try contradiction
 have t := zAv 0 3
 (try simp only [sA, sCourt, sShut, sDiv, sFell, sFell6, sJoin0, sMixed, sDivided, zJo, zJi, W2, atX, zeroPlate, zNq, List.map_cons, List.map_nil, decide_true, Option.getD_some, zOK, sTale1, sTale2, sTaleF, sE, sG1, sG3] at t)
 refine X3 t (by simp only [go_sem, *]) ?_
 simp only [go_sem, *]
 clear t
 repeat' (first | (refine Qr rfl ?_; try intro _ hK; try simp only [go_sem, *]) | (refine Qi rfl rfl rfl rfl ?_ ?_ <;> (intro hb; (try intro _ hK); have hc := hb; try simp only [go_sem] at hc; simp only [go_sem, *])) | refine Qh rfl ?_ | refine Qd rfl (by kernel_rfl) ?_ | (refine Qc rfl rfl ?_ ?_ <;> (intro hb; have hc := hb; try simp only [go_sem] at hc)) | refine z6 rfl ?_ | (refine Qb ?_ ?_; focus kernel_rfl) | ((with_reducible apply And.intro); focus omega) | (refine z5 hK ?_; clear hK; simp only [go_sem, *]) | simp only [z3, z4, go_sem, *])
 all_goals try contradiction
 have t := zAv 1 1
 (try simp only [sA, sCourt, sShut, sDiv, sFell, sFell6, sJoin0, sMixed, sDivided, zJo, zJi, W2, atX, zeroPlate, zNq, List.map_cons, List.map_nil, decide_true, Option.getD_some, zOK, sTale1, sTale2, sTaleF, sE, sG1, sG3] at t)
 refine X3 t (by simp only [go_sem, *]) ?_
 simp only [go_sem, *]
 clear t
 repeat' (first | (refine Qr rfl ?_; try intro _ hK; try simp only [go_sem, *]) | (refine Qi rfl rfl rfl rfl ?_ ?_ <;> (intro hb; (try intro _ hK); have hc := hb; try simp only [go_sem] at hc; simp only [go_sem, *])) | refine Qh rfl ?_ | refine Qd rfl (by kernel_rfl) ?_ | (refine Qc rfl rfl ?_ ?_ <;> (intro hb; have hc := hb; try simp only [go_sem] at hc)) | refine z6 rfl ?_ | (refine Qb ?_ ?_; focus kernel_rfl) | ((with_reducible apply And.intro); focus omega) | (refine z5 hK ?_; clear hK; simp only [go_sem, *]) | simp only [z3, z4, go_sem, *])
 all_goals try contradiction
 have t := z_verd (h := atX 0 3) (to := atX 1 1) (by decide) k_verd3 rfl
 (try simp only [sA, sCourt, sShut, sDiv, sFell, sFell6, sJoin0, sMixed, sDivided, zJo, zJi, W2, atX, zeroPlate, zNq, List.map_cons, List.map_nil, decide_true, Option.getD_some, zOK, sTale1, sTale2, sTaleF, sE, sG1, sG3] at t)
 refine X3 t (by simp only [go_sem, *]) ?_
 simp only [go_sem, *]
 clear t
 repeat' (first | (refine Qr rfl ?_; try intro _ hK; try simp only [go_sem, *]) | (refine Qi rfl rfl rfl rfl ?_ ?_ <;> (intro hb; (try intro _ hK); have hc := hb; try simp only [go_sem] at hc; simp only [go_sem, *])) | refine Qh rfl ?_ | refine Qd rfl (by kernel_rfl) ?_ | (refine Qc rfl rfl ?_ ?_ <;> (intro hb; have hc := hb; try simp only [go_sem] at hc)) | refine z6 rfl ?_ | (refine Qb ?_ ?_; focus kernel_rfl) | ((with_reducible apply And.intro); focus omega) | (refine z5 hK ?_; clear hK; simp only [go_sem, *]) | simp only [z3, z4, go_sem, *])
 all_goals try contradiction
 have t := zAv 0 1
 (try simp only [sA, sCourt, sShut, sDiv, sFell, sFell6, sJoin0, sMixed, sDivided, zJo, zJi, W2, atX, zeroPlate, zNq, List.map_cons, List.map_nil, decide_true, Option.getD_some, zOK, sTale1, sTale2, sTaleF, sE, sG1, sG3] at t)
 refine X3 t (by simp only [go_sem, *]) ?_
 simp only [go_sem, *]
 clear t
 repeat' (first | (refine Qr rfl ?_; try intro _ hK; try simp only [go_sem, *]) | (refine Qi rfl rfl rfl rfl ?_ ?_ <;> (intro hb; (try intro _ hK); have hc := hb; try simp only [go_sem] at hc; simp only [go_sem, *])) | refine Qh rfl ?_ | refine Qd rfl (by kernel_rfl) ?_ | (refine Qc rfl rfl ?_ ?_ <;> (intro hb; have hc := hb; try simp only [go_sem] at hc)) | refine z6 rfl ?_ | (refine Qb ?_ ?_; focus kernel_rfl) | ((with_reducible apply And.intro); focus omega) | (refine z5 hK ?_; clear hK; simp only [go_sem, *]) | simp only [z3, z4, go_sem, *])
 all_goals try contradiction
 have t := zAv 0 4
 (try simp only [sA, sCourt, sShut, sDiv, sFell, sFell6, sJoin0, sMixed, sDivided, zJo, zJi, W2, atX, zeroPlate, zNq, List.map_cons, List.map_nil, decide_true, Option.getD_some, zOK, sTale1, sTale2, sTaleF, sE, sG1, sG3] at t)
 refine X3 t (by simp only [go_sem, *]) ?_
 simp only [go_sem, *]
 clear t
 repeat' (first | (refine Qr rfl ?_; try intro _ hK; try simp only [go_sem, *]) | (refine Qi rfl rfl rfl rfl ?_ ?_ <;> (intro hb; (try intro _ hK); have hc := hb; try simp only [go_sem] at hc; simp only [go_sem, *])) | refine Qh rfl ?_ | refine Qd rfl (by kernel_rfl) ?_ | (refine Qc rfl rfl ?_ ?_ <;> (intro hb; have hc := hb; try simp only [go_sem] at hc)) | refine z6 rfl ?_ | (refine Qb ?_ ?_; focus kernel_rfl) | ((with_reducible apply And.intro); focus omega) | (refine z5 hK ?_; clear hK; simp only [go_sem, *]) | simp only [z3, z4, go_sem, *])
 all_goals try contradiction
 have t := zIf [atX 0 1, atX 0 4] [atX 0 1, atX 0 4] (by decide)
 (try simp only [sA, sCourt, sShut, sDiv, sFell, sFell6, sJoin0, sMixed, sDivided, zJo, zJi, W2, atX, zeroPlate, zNq, List.map_cons, List.map_nil, decide_true, Option.getD_some, zOK, sTale1, sTale2, sTaleF, sE, sG1, sG3] at t)
 (refine o3 (t) (by simp only [go_sem, *]; done) rfl (by simp only [go_sem]; done) (by simp) (by simp) ?_; simp only [go_sem, w6, *])
 clear t
 repeat' (first | ((with_reducible refine stop_at [0, 1, 1, 1, 1, 1, 1, 1, 1, 1, 1, 1, 1, 1, 1, 1, 1, 1, 1, 1, 1, 1, 1, 1, 1, 1, 1, 1, 1, 1, 1, 1, 1, 1, 1, 1] ?_)) | (refine Qr rfl ?_; try intro _ hK; try simp only [go_sem, *]) | (refine Qi rfl rfl rfl rfl ?_ ?_ <;> (intro hb; (try intro _ hK); have hc := hb; try simp only [go_sem] at hc; simp only [go_sem, *])) | refine Qh rfl ?_ | refine Qd rfl (by kernel_rfl) ?_ | (refine Qc rfl rfl ?_ ?_ <;> (intro hb; have hc := hb; try simp only [go_sem] at hc)) | refine z6 rfl ?_ | (refine Qb ?_ ?_; focus kernel_rfl) | ((with_reducible apply And.intro); focus omega) | (refine z5 hK ?_; clear hK; simp only [go_sem, *]) | simp only [z3, z4, go_sem, *])
 all_goals try contradiction
 refine ⟨?_⟩
 refine H8 (N := 624) (env := [(0, bV false)]) (As := []) [] [] (by (simp only [Weak, go_sem, List.map_append, List.map_set, *] <;> (try simp (disch := omega) only [y8]) <;> (try simp) <;> (try omega))) ?_
 exact hn
end Go.Abs

