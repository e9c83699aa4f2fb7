/-
  WHAT THE PROOF STANDS ON, PART 9: contracts of the program's functions. No condition.
-/
import Derived.Test.YtcbpjojhfgadlaaGreatDoorQZJZM7
set_option maxRecDepth 100000
set_option maxHeartbeats 16000000
set_option linter.unusedVariables false
set_option linter.unusedSimpArgs false
set_option linter.unusedSectionVars false
namespace Go.Abs
open Go Go.Proofs Tryz
attribute [local irreducible] q8 Hold y4
set_option maxRecDepth 10000
set_option maxHeartbeats 16000000

attribute [-go_sem] nxF
attribute [local go_sem] nxM_cons nxM_nil mxN_eq
theorem sk_35 (E : Env) (hE : E.n = ([] : List AObj).length) (hn : Hold prog E (sub [0, 1, 1, 1, 1, 1, 1, 1, 1, 1, 1, 1, 1, 1, 1, 1, 1, 1, 1, 1, 1, 1, 1, 1, 1, 1, 1, 1, 1, 1, 1, 1, 1, 1, 1, 1, 1, 1, 1, 1, 1] (C4 Tryz.f5)) (z3 (Hold prog E (sub [1, 1, 1, 1, 1, 1, 1, 1, 1, 1, 1, 1, 1, 1, 1, 1, 1, 1, 1, 1, 1, 1, 1, 1, 1, 1, 1, 1, 1, 1, 1, 1, 1, 1, 1, 1, 1, 1, 1, 1, 1] (C4 Tryz.f5)) (fun e σ' => (e = Exit.normal ∨ e = Exit.ret) ∧ D8 prog Tryz.f5 0 (bV true) [] σ')) (fun e σ' => (e = Exit.normal ∨ e = Exit.ret) ∧ D8 prog Tryz.f5 0 (bV true) [] σ')) ⟨624, [(0, bV false)], zNf 0 []⟩) : Hold prog E (sub [0, 1, 1, 1, 1, 1, 1, 1, 1, 1, 1, 1, 1, 1, 1, 1, 1, 1, 1, 1, 1, 1, 1, 1, 1, 1, 1, 1, 1, 1, 1, 1, 1, 1, 1, 1] (C4 Tryz.f5)) (z3 (Hold prog E (sub [1, 1, 1, 1, 1, 1, 1, 1, 1, 1, 1, 1, 1, 1, 1, 1, 1, 1, 1, 1, 1, 1, 1, 1, 1, 1, 1, 1, 1, 1, 1, 1, 1, 1, 1, 1] (C4 Tryz.f5)) (fun e σ' => (e = Exit.normal ∨ e = Exit.ret) ∧ D8 prog Tryz.f5 0 (bV true) [] σ')) (fun e σ' => (e = Exit.normal ∨ e = Exit.ret) ∧ D8 prog Tryz.f5 0 (bV true) [] σ')) ⟨624, [(0, bV false)], zNf 0 []⟩ := by
 repeat' (first | (refine Qr rfl ?_; try intro _ hK; try simp only [go_sem, *]) | (refine Qi rfl rfl rfl rfl ?_ ?_ <;> (intro hb; (try intro _ hK); have hc := hb; try simp only [go_sem] at hc; simp only [go_sem, *])) | refine Qh rfl ?_ | refine Qd rfl (by kernel_rfl) ?_ | (refine Qc rfl rfl ?_ ?_ <;> (intro hb; have hc := hb; try simp only [go_sem] at hc)) | refine z6 rfl ?_ | (refine Qb ?_ ?_; focus kernel_rfl) | ((with_reducible apply And.intro); focus omega) | (refine z5 hK ?_; clear hK; simp only [go_sem, *]) | simp only [z3, z4, go_sem, *])
 all_goals try contradiction
 have t := zJR
 (try simp only [sA, sCourt, sShut, sDiv, sFell, sFell6, sJoin0, sMixed, sDivided, zJo, zJi, W2, atX, zeroPlate, zNq, List.map_cons, List.map_nil, decide_true, Option.getD_some, zOK, sTale1, sTale2, sTaleF, sE, sG1, sG3] at t)
 (refine o3 (t) (by simp only [go_sem, *]; done) rfl (by simp only [go_sem]; done) (by simp) (by simp) ?_; simp only [go_sem, w6, *])
 clear t
 repeat' (first | (refine Qr rfl ?_; try intro _ hK; try simp only [go_sem, *]) | (refine Qi rfl rfl rfl rfl ?_ ?_ <;> (intro hb; (try intro _ hK); have hc := hb; try simp only [go_sem] at hc; simp only [go_sem, *])) | refine Qh rfl ?_ | refine Qd rfl (by kernel_rfl) ?_ | (refine Qc rfl rfl ?_ ?_ <;> (intro hb; have hc := hb; try simp only [go_sem] at hc)) | refine z6 rfl ?_ | (refine Qb ?_ ?_; focus kernel_rfl) | ((with_reducible apply And.intro); focus omega) | (refine z5 hK ?_; clear hK; simp only [go_sem, *]) | simp only [z3, z4, go_sem, *])
 all_goals try contradiction
 have t := z_lost1
 (try simp only [sA, sCourt, sShut, sDiv, sFell, sFell6, sJoin0, sMixed, sDivided, zJo, zJi, W2, atX, zeroPlate, zNq, List.map_cons, List.map_nil, decide_true, Option.getD_some, zOK, sTale1, sTale2, sTaleF, sE, sG1, sG3] at t)
 refine X3 t (by simp only [go_sem, *]) ?_
 simp only [go_sem, *]
 clear t
 repeat' (first | (refine Qr rfl ?_; try intro _ hK; try simp only [go_sem, *]) | (refine Qi rfl rfl rfl rfl ?_ ?_ <;> (intro hb; (try intro _ hK); have hc := hb; try simp only [go_sem] at hc; simp only [go_sem, *])) | refine Qh rfl ?_ | refine Qd rfl (by kernel_rfl) ?_ | (refine Qc rfl rfl ?_ ?_ <;> (intro hb; have hc := hb; try simp only [go_sem] at hc)) | refine z6 rfl ?_ | (refine Qb ?_ ?_; focus kernel_rfl) | ((with_reducible apply And.intro); focus omega) | (refine z5 hK ?_; clear hK; simp only [go_sem, *]) | simp only [z3, z4, go_sem, *])
 all_goals try contradiction
 have t := zDJ
 (try simp only [sA, sCourt, sShut, sDiv, sFell, sFell6, sJoin0, sMixed, sDivided, zJo, zJi, W2, atX, zeroPlate, zNq, List.map_cons, List.map_nil, decide_true, Option.getD_some, zOK, sTale1, sTale2, sTaleF, sE, sG1, sG3] at t)
 refine X3 t (by simp only [go_sem, *]) ?_
 simp only [go_sem, *]
 clear t
 repeat' (first | (refine Qr rfl ?_; try intro _ hK; try simp only [go_sem, *]) | (refine Qi rfl rfl rfl rfl ?_ ?_ <;> (intro hb; (try intro _ hK); have hc := hb; try simp only [go_sem] at hc; simp only [go_sem, *])) | refine Qh rfl ?_ | refine Qd rfl (by kernel_rfl) ?_ | (refine Qc rfl rfl ?_ ?_ <;> (intro hb; have hc := hb; try simp only [go_sem] at hc)) | refine z6 rfl ?_ | (refine Qb ?_ ?_; focus kernel_rfl) | ((with_reducible apply And.intro); focus omega) | (refine z5 hK ?_; clear hK; simp only [go_sem, *]) | simp only [z3, z4, go_sem, *])
 all_goals try contradiction
 have t := zJI 6 0 2
 (try simp only [sA, sCourt, sShut, sDiv, sFell, sFell6, sJoin0, sMixed, sDivided, zJo, zJi, W2, atX, zeroPlate, zNq, List.map_cons, List.map_nil, decide_true, Option.getD_some, zOK, sTale1, sTale2, sTaleF, sE, sG1, sG3] at t)
 refine X3 t (by simp only [go_sem, *]) ?_
 simp only [go_sem, *]
 clear t
 repeat' (first | (refine Qr rfl ?_; try intro _ hK; try simp only [go_sem, *]) | (refine Qi rfl rfl rfl rfl ?_ ?_ <;> (intro hb; (try intro _ hK); have hc := hb; try simp only [go_sem] at hc; simp only [go_sem, *])) | refine Qh rfl ?_ | refine Qd rfl (by kernel_rfl) ?_ | (refine Qc rfl rfl ?_ ?_ <;> (intro hb; have hc := hb; try simp only [go_sem] at hc)) | refine z6 rfl ?_ | (refine Qb ?_ ?_; focus kernel_rfl) | ((with_reducible apply And.intro); focus omega) | (refine z5 hK ?_; clear hK; simp only [go_sem, *]) | simp only [z3, z4, go_sem, *])
 all_goals try contradiction
 have t := z_lost2
 (try simp only [sA, sCourt, sShut, sDiv, sFell, sFell6, sJoin0, sMixed, sDivided, zJo, zJi, W2, atX, zeroPlate, zNq, List.map_cons, List.map_nil, decide_true, Option.getD_some, zOK, sTale1, sTale2, sTaleF, sE, sG1, sG3] at t)
 (refine o3 (t) (by simp only [go_sem, *]; done) rfl (by simp only [go_sem]; done) (by simp) (by simp) ?_; simp only [go_sem, w6, *])
 clear t
 repeat' (first | (refine Qr rfl ?_; try intro _ hK; try simp only [go_sem, *]) | (refine Qi rfl rfl rfl rfl ?_ ?_ <;> (intro hb; (try intro _ hK); have hc := hb; try simp only [go_sem] at hc; simp only [go_sem, *])) | refine Qh rfl ?_ | refine Qd rfl (by kernel_rfl) ?_ | (refine Qc rfl rfl ?_ ?_ <;> (intro hb; have hc := hb; try simp only [go_sem] at hc)) | refine z6 rfl ?_ | (refine Qb ?_ ?_; focus kernel_rfl) | ((with_reducible apply And.intro); focus omega) | (refine z5 hK ?_; clear hK; simp only [go_sem, *]) | simp only [z3, z4, go_sem, *])
 all_goals try contradiction
 have t := zAv 0 3
 (try simp only [sA, sCourt, sShut, sDiv, sFell, sFell6, sJoin0, sMixed, sDivided, zJo, zJi, W2, atX, zeroPlate, zNq, List.map_cons, List.map_nil, decide_true, Option.getD_some, zOK, sTale1, sTale2, sTaleF, sE, sG1, sG3] at t)
 refine X3 t (by simp only [go_sem, *]) ?_
 simp only [go_sem, *]
 clear t
 repeat' (first | (refine Qr rfl ?_; try intro _ hK; try simp only [go_sem, *]) | (refine Qi rfl rfl rfl rfl ?_ ?_ <;> (intro hb; (try intro _ hK); have hc := hb; try simp only [go_sem] at hc; simp only [go_sem, *])) | refine Qh rfl ?_ | refine Qd rfl (by kernel_rfl) ?_ | (refine Qc rfl rfl ?_ ?_ <;> (intro hb; have hc := hb; try simp only [go_sem] at hc)) | refine z6 rfl ?_ | (refine Qb ?_ ?_; focus kernel_rfl) | ((with_reducible apply And.intro); focus omega) | (refine z5 hK ?_; clear hK; simp only [go_sem, *]) | simp only [z3, z4, go_sem, *])
 all_goals try contradiction
 have t := zAv 0 3
 (try simp only [sA, sCourt, sShut, sDiv, sFell, sFell6, sJoin0, sMixed, sDivided, zJo, zJi, W2, atX, zeroPlate, zNq, List.map_cons, List.map_nil, decide_true, Option.getD_some, zOK, sTale1, sTale2, sTaleF, sE, sG1, sG3] at t)
 refine X3 t (by simp only [go_sem, *]) ?_
 simp only [go_sem, *]
 clear t
 repeat' (first | (refine Qr rfl ?_; try intro _ hK; try simp only [go_sem, *]) | (refine Qi rfl rfl rfl rfl ?_ ?_ <;> (intro hb; (try intro _ hK); have hc := hb; try simp only [go_sem] at hc; simp only [go_sem, *])) | refine Qh rfl ?_ | refine Qd rfl (by kernel_rfl) ?_ | (refine Qc rfl rfl ?_ ?_ <;> (intro hb; have hc := hb; try simp only [go_sem] at hc)) | refine z6 rfl ?_ | (refine Qb ?_ ?_; focus kernel_rfl) | ((with_reducible apply And.intro); focus omega) | (refine z5 hK ?_; clear hK; simp only [go_sem, *]) | simp only [z3, z4, go_sem, *])
 all_goals try contradiction
 have t := sp_tale1 ⟨atX 0 3, atX 0 3⟩
 (try simp only [sA, sCourt, sShut, sDiv, sFell, sFell6, sJoin0, sMixed, sDivided, zJo, zJi, W2, atX, zeroPlate, zNq, List.map_cons, List.map_nil, decide_true, Option.getD_some, zOK, sTale1, sTale2, sTaleF, sE, sG1, sG3] at t)
 (refine o3 (t) (by simp only [go_sem, *]; done) rfl (by simp only [go_sem]; done) (by simp) (by simp) ?_; simp only [go_sem, w6, *])
 clear t
 repeat' (first | (refine Qr rfl ?_; try intro _ hK; try simp only [go_sem, *]) | (refine Qi rfl rfl rfl rfl ?_ ?_ <;> (intro hb; (try intro _ hK); have hc := hb; try simp only [go_sem] at hc; simp only [go_sem, *])) | refine Qh rfl ?_ | refine Qd rfl (by kernel_rfl) ?_ | (refine Qc rfl rfl ?_ ?_ <;> (intro hb; have hc := hb; try simp only [go_sem] at hc)) | refine z6 rfl ?_ | (refine Qb ?_ ?_; focus kernel_rfl) | ((with_reducible apply And.intro); focus omega) | (refine z5 hK ?_; clear hK; simp only [go_sem, *]) | simp only [z3, z4, go_sem, *])
 all_goals try contradiction
 have t := z_ask
 (try simp only [sA, sCourt, sShut, sDiv, sFell, sFell6, sJoin0, sMixed, sDivided, zJo, zJi, W2, atX, zeroPlate, zNq, List.map_cons, List.map_nil, decide_true, Option.getD_some, zOK, sTale1, sTale2, sTaleF, sE, sG1, sG3] at t)
 refine X3 t (by simp only [go_sem, *]) ?_
 simp only [go_sem, *]
 clear t
 repeat' (first | (refine Qr rfl ?_; try intro _ hK; try simp only [go_sem, *]) | (refine Qi rfl rfl rfl rfl ?_ ?_ <;> (intro hb; (try intro _ hK); have hc := hb; try simp only [go_sem] at hc; simp only [go_sem, *])) | refine Qh rfl ?_ | refine Qd rfl (by kernel_rfl) ?_ | (refine Qc rfl rfl ?_ ?_ <;> (intro hb; have hc := hb; try simp only [go_sem] at hc)) | refine z6 rfl ?_ | (refine Qb ?_ ?_; focus kernel_rfl) | ((with_reducible apply And.intro); focus omega) | (refine z5 hK ?_; clear hK; simp only [go_sem, *]) | simp only [z3, z4, go_sem, *])
 all_goals try contradiction
 have t := zJR
 (try simp only [sA, sCourt, sShut, sDiv, sFell, sFell6, sJoin0, sMixed, sDivided, zJo, zJi, W2, atX, zeroPlate, zNq, List.map_cons, List.map_nil, decide_true, Option.getD_some, zOK, sTale1, sTale2, sTaleF, sE, sG1, sG3] at t)
 (refine o3 (t) (by simp only [go_sem, *]; done) rfl (by simp only [go_sem]; done) (by simp) (by simp) ?_; simp only [go_sem, w6, *])
 clear t
 repeat' (first | (refine Qr rfl ?_; try intro _ hK; try simp only [go_sem, *]) | (refine Qi rfl rfl rfl rfl ?_ ?_ <;> (intro hb; (try intro _ hK); have hc := hb; try simp only [go_sem] at hc; simp only [go_sem, *])) | refine Qh rfl ?_ | refine Qd rfl (by kernel_rfl) ?_ | (refine Qc rfl rfl ?_ ?_ <;> (intro hb; have hc := hb; try simp only [go_sem] at hc)) | refine z6 rfl ?_ | (refine Qb ?_ ?_; focus kernel_rfl) | ((with_reducible apply And.intro); focus omega) | (refine z5 hK ?_; clear hK; simp only [go_sem, *]) | simp only [z3, z4, go_sem, *])
 all_goals try contradiction
 have t := z_settle
 (try simp only [sA, sCourt, sShut, sDiv, sFell, sFell6, sJoin0, sMixed, sDivided, zJo, zJi, W2, atX, zeroPlate, zNq, List.map_cons, List.map_nil, decide_true, Option.getD_some, zOK, sTale1, sTale2, sTaleF, sE, sG1, sG3] at t)
 refine X3 t (by simp only [go_sem, *]) ?_
 simp only [go_sem, *]
 clear t
 repeat' (first | (refine Qr rfl ?_; try intro _ hK; try simp only [go_sem, *]) | (refine Qi rfl rfl rfl rfl ?_ ?_ <;> (intro hb; (try intro _ hK); have hc := hb; try simp only [go_sem] at hc; simp only [go_sem, *])) | refine Qh rfl ?_ | refine Qd rfl (by kernel_rfl) ?_ | (refine Qc rfl rfl ?_ ?_ <;> (intro hb; have hc := hb; try simp only [go_sem] at hc)) | refine z6 rfl ?_ | (refine Qb ?_ ?_; focus kernel_rfl) | ((with_reducible apply And.intro); focus omega) | (refine z5 hK ?_; clear hK; simp only [go_sem, *]) | simp only [z3, z4, go_sem, *])
 all_goals try contradiction
 have t := zAv 0 2
 (try simp only [sA, sCourt, sShut, sDiv, sFell, sFell6, sJoin0, sMixed, sDivided, zJo, zJi, W2, atX, zeroPlate, zNq, List.map_cons, List.map_nil, decide_true, Option.getD_some, zOK, sTale1, sTale2, sTaleF, sE, sG1, sG3] at t)
 refine X3 t (by simp only [go_sem, *]) ?_
 simp only [go_sem, *]
 clear t
 repeat' (first | (refine Qr rfl ?_; try intro _ hK; try simp only [go_sem, *]) | (refine Qi rfl rfl rfl rfl ?_ ?_ <;> (intro hb; (try intro _ hK); have hc := hb; try simp only [go_sem] at hc; simp only [go_sem, *])) | refine Qh rfl ?_ | refine Qd rfl (by kernel_rfl) ?_ | (refine Qc rfl rfl ?_ ?_ <;> (intro hb; have hc := hb; try simp only [go_sem] at hc)) | refine z6 rfl ?_ | (refine Qb ?_ ?_; focus kernel_rfl) | ((with_reducible apply And.intro); focus omega) | (refine z5 hK ?_; clear hK; simp only [go_sem, *]) | simp only [z3, z4, go_sem, *])
 all_goals try contradiction
 have t := zIf [atX 0 2] [atX 0 2] (by decide)
 (try simp only [sA, sCourt, sShut, sDiv, sFell, sFell6, sJoin0, sMixed, sDivided, zJo, zJi, W2, atX, zeroPlate, zNq, List.map_cons, List.map_nil, decide_true, Option.getD_some, zOK, sTale1, sTale2, sTaleF, sE, sG1, sG3] at t)
 (refine o3 (t) (by simp only [go_sem, *]; done) rfl (by simp only [go_sem]; done) (by simp) (by simp) ?_; simp only [go_sem, w6, *])
 clear t
 repeat' (first | (refine Qr rfl ?_; try intro _ hK; try simp only [go_sem, *]) | (refine Qi rfl rfl rfl rfl ?_ ?_ <;> (intro hb; (try intro _ hK); have hc := hb; try simp only [go_sem] at hc; simp only [go_sem, *])) | refine Qh rfl ?_ | refine Qd rfl (by kernel_rfl) ?_ | (refine Qc rfl rfl ?_ ?_ <;> (intro hb; have hc := hb; try simp only [go_sem] at hc)) | refine z6 rfl ?_ | (refine Qb ?_ ?_; focus kernel_rfl) | ((with_reducible apply And.intro); focus omega) | (refine z5 hK ?_; clear hK; simp only [go_sem, *]) | simp only [z3, z4, go_sem, *])
 all_goals try contradiction
 have t := zAv 0 1
 (try simp only [sA, sCourt, sShut, sDiv, sFell, sFell6, sJoin0, sMixed, sDivided, zJo, zJi, W2, atX, zeroPlate, zNq, List.map_cons, List.map_nil, decide_true, Option.getD_some, zOK, sTale1, sTale2, sTaleF, sE, sG1, sG3] at t)
 refine X3 t (by simp only [go_sem, *]) ?_
 simp only [go_sem, *]
 clear t
 repeat' (first | (refine Qr rfl ?_; try intro _ hK; try simp only [go_sem, *]) | (refine Qi rfl rfl rfl rfl ?_ ?_ <;> (intro hb; (try intro _ hK); have hc := hb; try simp only [go_sem] at hc; simp only [go_sem, *])) | refine Qh rfl ?_ | refine Qd rfl (by kernel_rfl) ?_ | (refine Qc rfl rfl ?_ ?_ <;> (intro hb; have hc := hb; try simp only [go_sem] at hc)) | refine z6 rfl ?_ | (refine Qb ?_ ?_; focus kernel_rfl) | ((with_reducible apply And.intro); focus omega) | (refine z5 hK ?_; clear hK; simp only [go_sem, *]) | simp only [z3, z4, go_sem, *])
 all_goals try contradiction
 have t := zIf [atX 0 1] [atX 0 1] (by decide)
 (try simp only [sA, sCourt, sShut, sDiv, sFell, sFell6, sJoin0, sMixed, sDivided, zJo, zJi, W2, atX, zeroPlate, zNq, List.map_cons, List.map_nil, decide_true, Option.getD_some, zOK, sTale1, sTale2, sTaleF, sE, sG1, sG3] at t)
 (refine o3 (t) (by simp only [go_sem, *]; done) rfl (by simp only [go_sem]; done) (by simp) (by simp) ?_; simp only [go_sem, w6, *])
 clear t
 repeat' (first | ((with_reducible refine stop_at [0, 1, 1, 1, 1, 1, 1, 1, 1, 1, 1, 1, 1, 1, 1, 1, 1, 1, 1, 1, 1, 1, 1, 1, 1, 1, 1, 1, 1, 1, 1, 1, 1, 1, 1, 1, 1, 1, 1, 1, 1] ?_)) | (refine Qr rfl ?_; try intro _ hK; try simp only [go_sem, *]) | (refine Qi rfl rfl rfl rfl ?_ ?_ <;> (intro hb; (try intro _ hK); have hc := hb; try simp only [go_sem] at hc; simp only [go_sem, *])) | refine Qh rfl ?_ | refine Qd rfl (by kernel_rfl) ?_ | (refine Qc rfl rfl ?_ ?_ <;> (intro hb; have hc := hb; try simp only [go_sem] at hc)) | refine z6 rfl ?_ | (refine Qb ?_ ?_; focus kernel_rfl) | ((with_reducible apply And.intro); focus omega) | (refine z5 hK ?_; clear hK; simp only [go_sem, *]) | simp only [z3, z4, go_sem, *])
 all_goals try contradiction
 refine ⟨?_⟩
 refine H8 (N := 624) (env := [(0, bV false)]) (As := []) [] [] (by (simp only [Weak, go_sem, List.map_append, List.map_set, *] <;> (try simp (disch := omega) only [y8]) <;> (try simp) <;> (try omega))) ?_
 exact hn
theorem sk_40 (E : Env) (hE : E.n = ([] : List AObj).length) (hn : Hold prog E (sub [0, 1, 1, 1, 1, 1, 1, 1, 1, 1, 1, 1, 1, 1, 1, 1, 1, 1, 1, 1, 1, 1, 1, 1, 1, 1, 1, 1, 1, 1, 1, 1, 1, 1, 1, 1, 1, 1, 1, 1, 1, 1, 1, 1, 1, 1] (C4 Tryz.f5)) (z3 (Hold prog E (sub [1, 1, 1, 1, 1, 1, 1, 1, 1, 1, 1, 1, 1, 1, 1, 1, 1, 1, 1, 1, 1, 1, 1, 1, 1, 1, 1, 1, 1, 1, 1, 1, 1, 1, 1, 1, 1, 1, 1, 1, 1, 1, 1, 1, 1, 1] (C4 Tryz.f5)) (fun e σ' => (e = Exit.normal ∨ e = Exit.ret) ∧ D8 prog Tryz.f5 0 (bV true) [] σ')) (fun e σ' => (e = Exit.normal ∨ e = Exit.ret) ∧ D8 prog Tryz.f5 0 (bV true) [] σ')) ⟨624, [(0, bV false)], zNf 0 []⟩) : Hold prog E (sub [0, 1, 1, 1, 1, 1, 1, 1, 1, 1, 1, 1, 1, 1, 1, 1, 1, 1, 1, 1, 1, 1, 1, 1, 1, 1, 1, 1, 1, 1, 1, 1, 1, 1, 1, 1, 1, 1, 1, 1, 1] (C4 Tryz.f5)) (z3 (Hold prog E (sub [1, 1, 1, 1, 1, 1, 1, 1, 1, 1, 1, 1, 1, 1, 1, 1, 1, 1, 1, 1, 1, 1, 1, 1, 1, 1, 1, 1, 1, 1, 1, 1, 1, 1, 1, 1, 1, 1, 1, 1, 1] (C4 Tryz.f5)) (fun e σ' => (e = Exit.normal ∨ e = Exit.ret) ∧ D8 prog Tryz.f5 0 (bV true) [] σ')) (fun e σ' => (e = Exit.normal ∨ e = Exit.ret) ∧ D8 prog Tryz.f5 0 (bV true) [] σ')) ⟨624, [(0, bV false)], zNf 0 []⟩ := by
 repeat' (first | (refine Qr rfl ?_; try intro _ hK; try simp only [go_sem, *]) | (refine Qi rfl rfl rfl rfl ?_ ?_ <;> (intro hb; (try intro _ hK); have hc := hb; try simp only [go_sem] at hc; simp only [go_sem, *])) | refine Qh rfl ?_ | refine Qd rfl (by kernel_rfl) ?_ | (refine Qc rfl rfl ?_ ?_ <;> (intro hb; have hc := hb; try simp only [go_sem] at hc)) | refine z6 rfl ?_ | (refine Qb ?_ ?_; focus kernel_rfl) | ((with_reducible apply And.intro); focus omega) | (refine z5 hK ?_; clear hK; simp only [go_sem, *]) | simp only [z3, z4, go_sem, *])
 all_goals try contradiction
 have t := zDJ
 (try simp only [sA, sCourt, sShut, sDiv, sFell, sFell6, sJoin0, sMixed, sDivided, zJo, zJi, W2, atX, zeroPlate, zNq, List.map_cons, List.map_nil, decide_true, Option.getD_some, zOK, sTale1, sTale2, sTaleF, sE, sG1, sG3] at t)
 refine X3 t (by simp only [go_sem, *]) ?_
 simp only [go_sem, *]
 clear t
 repeat' (first | (refine Qr rfl ?_; try intro _ hK; try simp only [go_sem, *]) | (refine Qi rfl rfl rfl rfl ?_ ?_ <;> (intro hb; (try intro _ hK); have hc := hb; try simp only [go_sem] at hc; simp only [go_sem, *])) | refine Qh rfl ?_ | refine Qd rfl (by kernel_rfl) ?_ | (refine Qc rfl rfl ?_ ?_ <;> (intro hb; have hc := hb; try simp only [go_sem] at hc)) | refine z6 rfl ?_ | (refine Qb ?_ ?_; focus kernel_rfl) | ((with_reducible apply And.intro); focus omega) | (refine z5 hK ?_; clear hK; simp only [go_sem, *]) | simp only [z3, z4, go_sem, *])
 all_goals try contradiction
 have t := E7 [1, 2, 3, 4, 6] (by decide)
 (try simp only [sA, sCourt, sShut, sDiv, sFell, sFell6, sJoin0, sMixed, sDivided, zJo, zJi, W2, atX, zeroPlate, zNq, List.map_cons, List.map_nil, decide_true, Option.getD_some, zOK, sTale1, sTale2, sTaleF, sE, sG1, sG3] at t)
 (refine o3 (t) (by simp only [go_sem, *]; done) rfl (by simp only [go_sem]; done) (by simp) (by simp) ?_; simp only [go_sem, w6, *])
 clear t
 repeat' (first | (refine Qr rfl ?_; try intro _ hK; try simp only [go_sem, *]) | (refine Qi rfl rfl rfl rfl ?_ ?_ <;> (intro hb; (try intro _ hK); have hc := hb; try simp only [go_sem] at hc; simp only [go_sem, *])) | refine Qh rfl ?_ | refine Qd rfl (by kernel_rfl) ?_ | (refine Qc rfl rfl ?_ ?_ <;> (intro hb; have hc := hb; try simp only [go_sem] at hc)) | refine z6 rfl ?_ | (refine Qb ?_ ?_; focus kernel_rfl) | ((with_reducible apply And.intro); focus omega) | (refine z5 hK ?_; clear hK; simp only [go_sem, *]) | simp only [z3, z4, go_sem, *])
 all_goals try contradiction
 have t := E7 [1, 2] (by decide)
 (try simp only [sA, sCourt, sShut, sDiv, sFell, sFell6, sJoin0, sMixed, sDivided, zJo, zJi, W2, atX, zeroPlate, zNq, List.map_cons, List.map_nil, decide_true, Option.getD_some, zOK, sTale1, sTale2, sTaleF, sE, sG1, sG3] at t)
 (refine o3 (t) (by simp only [go_sem, *]; done) rfl (by simp only [go_sem]; done) (by simp) (by simp) ?_; simp only [go_sem, w6, *])
 clear t
 repeat' (first | (refine Qr rfl ?_; try intro _ hK; try simp only [go_sem, *]) | (refine Qi rfl rfl rfl rfl ?_ ?_ <;> (intro hb; (try intro _ hK); have hc := hb; try simp only [go_sem] at hc; simp only [go_sem, *])) | refine Qh rfl ?_ | refine Qd rfl (by kernel_rfl) ?_ | (refine Qc rfl rfl ?_ ?_ <;> (intro hb; have hc := hb; try simp only [go_sem] at hc)) | refine z6 rfl ?_ | (refine Qb ?_ ?_; focus kernel_rfl) | ((with_reducible apply And.intro); focus omega) | (refine z5 hK ?_; clear hK; simp only [go_sem, *]) | simp only [z3, z4, go_sem, *])
 all_goals try contradiction
 have t := zAx (zNq [1, 2, 3, 4, 6]) (zNq [1, 2]) []
 (try simp only [sA, sCourt, sShut, sDiv, sFell, sFell6, sJoin0, sMixed, sDivided, zJo, zJi, W2, atX, zeroPlate, zNq, List.map_cons, List.map_nil, decide_true, Option.getD_some, zOK, sTale1, sTale2, sTaleF, sE, sG1, sG3] at t)
 (refine o3 (t) (by simp only [go_sem, *]; done) rfl (by simp only [go_sem]; done) (by simp) (by simp) ?_; simp only [go_sem, w6, *])
 clear t
 repeat' (first | (refine Qr rfl ?_; try intro _ hK; try simp only [go_sem, *]) | (refine Qi rfl rfl rfl rfl ?_ ?_ <;> (intro hb; (try intro _ hK); have hc := hb; try simp only [go_sem] at hc; simp only [go_sem, *])) | refine Qh rfl ?_ | refine Qd rfl (by kernel_rfl) ?_ | (refine Qc rfl rfl ?_ ?_ <;> (intro hb; have hc := hb; try simp only [go_sem] at hc)) | refine z6 rfl ?_ | (refine Qb ?_ ?_; focus kernel_rfl) | ((with_reducible apply And.intro); focus omega) | (refine z5 hK ?_; clear hK; simp only [go_sem, *]) | simp only [z3, z4, go_sem, *])
 all_goals try contradiction
 have t := z_guess (q := sG1) (by decide) k_guess1
 (try simp only [sA, sCourt, sShut, sDiv, sFell, sFell6, sJoin0, sMixed, sDivided, zJo, zJi, W2, atX, zeroPlate, zNq, List.map_cons, List.map_nil, decide_true, Option.getD_some, zOK, sTale1, sTale2, sTaleF, sE, sG1, sG3] at t)
 refine X3 t (by simp only [go_sem, *]) ?_
 simp only [go_sem, *]
 clear t
 repeat' (first | (refine Qr rfl ?_; try intro _ hK; try simp only [go_sem, *]) | (refine Qi rfl rfl rfl rfl ?_ ?_ <;> (intro hb; (try intro _ hK); have hc := hb; try simp only [go_sem] at hc; simp only [go_sem, *])) | refine Qh rfl ?_ | refine Qd rfl (by kernel_rfl) ?_ | (refine Qc rfl rfl ?_ ?_ <;> (intro hb; have hc := hb; try simp only [go_sem] at hc)) | refine z6 rfl ?_ | (refine Qb ?_ ?_; focus kernel_rfl) | ((with_reducible apply And.intro); focus omega) | (refine z5 hK ?_; clear hK; simp only [go_sem, *]) | simp only [z3, z4, go_sem, *])
 all_goals try contradiction
 have t := zDJ
 (try simp only [sA, sCourt, sShut, sDiv, sFell, sFell6, sJoin0, sMixed, sDivided, zJo, zJi, W2, atX, zeroPlate, zNq, List.map_cons, List.map_nil, decide_true, Option.getD_some, zOK, sTale1, sTale2, sTaleF, sE, sG1, sG3] at t)
 refine X3 t (by simp only [go_sem, *]) ?_
 simp only [go_sem, *]
 clear t
 repeat' (first | (refine Qr rfl ?_; try intro _ hK; try simp only [go_sem, *]) | (refine Qi rfl rfl rfl rfl ?_ ?_ <;> (intro hb; (try intro _ hK); have hc := hb; try simp only [go_sem] at hc; simp only [go_sem, *])) | refine Qh rfl ?_ | refine Qd rfl (by kernel_rfl) ?_ | (refine Qc rfl rfl ?_ ?_ <;> (intro hb; have hc := hb; try simp only [go_sem] at hc)) | refine z6 rfl ?_ | (refine Qb ?_ ?_; focus kernel_rfl) | ((with_reducible apply And.intro); focus omega) | (refine z5 hK ?_; clear hK; simp only [go_sem, *]) | simp only [z3, z4, go_sem, *])
 all_goals try contradiction
 have t := zDJ
 (try simp only [sA, sCourt, sShut, sDiv, sFell, sFell6, sJoin0, sMixed, sDivided, zJo, zJi, W2, atX, zeroPlate, zNq, List.map_cons, List.map_nil, decide_true, Option.getD_some, zOK, sTale1, sTale2, sTaleF, sE, sG1, sG3] at t)
 refine X3 t (by simp only [go_sem, *]) ?_
 simp only [go_sem, *]
 clear t
 repeat' (first | (refine Qr rfl ?_; try intro _ hK; try simp only [go_sem, *]) | (refine Qi rfl rfl rfl rfl ?_ ?_ <;> (intro hb; (try intro _ hK); have hc := hb; try simp only [go_sem] at hc; simp only [go_sem, *])) | refine Qh rfl ?_ | refine Qd rfl (by kernel_rfl) ?_ | (refine Qc rfl rfl ?_ ?_ <;> (intro hb; have hc := hb; try simp only [go_sem] at hc)) | refine z6 rfl ?_ | (refine Qb ?_ ?_; focus kernel_rfl) | ((with_reducible apply And.intro); focus omega) | (refine z5 hK ?_; clear hK; simp only [go_sem, *]) | simp only [z3, z4, go_sem, *])
 all_goals try contradiction
 have t := z_guess (q := townX) (by decide) k_guess2
 (try simp only [sA, sCourt, sShut, sDiv, sFell, sFell6, sJoin0, sMixed, sDivided, zJo, zJi, W2, atX, zeroPlate, zNq, List.map_cons, List.map_nil, decide_true, Option.getD_some, zOK, sTale1, sTale2, sTaleF, sE, sG1, sG3] at t)
 refine X3 t (by simp only [go_sem, *]) ?_
 simp only [go_sem, *]
 clear t
 repeat' (first | (refine Qr rfl ?_; try intro _ hK; try simp only [go_sem, *]) | (refine Qi rfl rfl rfl rfl ?_ ?_ <;> (intro hb; (try intro _ hK); have hc := hb; try simp only [go_sem] at hc; simp only [go_sem, *])) | refine Qh rfl ?_ | refine Qd rfl (by kernel_rfl) ?_ | (refine Qc rfl rfl ?_ ?_ <;> (intro hb; have hc := hb; try simp only [go_sem] at hc)) | refine z6 rfl ?_ | (refine Qb ?_ ?_; focus kernel_rfl) | ((with_reducible apply And.intro); focus omega) | (refine z5 hK ?_; clear hK; simp only [go_sem, *]) | simp only [z3, z4, go_sem, *])
 all_goals try contradiction
 have t := zDJ
 (try simp only [sA, sCourt, sShut, sDiv, sFell, sFell6, sJoin0, sMixed, sDivided, zJo, zJi, W2, atX, zeroPlate, zNq, List.map_cons, List.map_nil, decide_true, Option.getD_some, zOK, sTale1, sTale2, sTaleF, sE, sG1, sG3] at t)
 refine X3 t (by simp only [go_sem, *]) ?_
 simp only [go_sem, *]
 clear t
 repeat' (first | (refine Qr rfl ?_; try intro _ hK; try simp only [go_sem, *]) | (refine Qi rfl rfl rfl rfl ?_ ?_ <;> (intro hb; (try intro _ hK); have hc := hb; try simp only [go_sem] at hc; simp only [go_sem, *])) | refine Qh rfl ?_ | refine Qd rfl (by kernel_rfl) ?_ | (refine Qc rfl rfl ?_ ?_ <;> (intro hb; have hc := hb; try simp only [go_sem] at hc)) | refine z6 rfl ?_ | (refine Qb ?_ ?_; focus kernel_rfl) | ((with_reducible apply And.intro); focus omega) | (refine z5 hK ?_; clear hK; simp only [go_sem, *]) | simp only [z3, z4, go_sem, *])
 all_goals try contradiction
 have t := E7 [9] (by decide)
 (try simp only [sA, sCourt, sShut, sDiv, sFell, sFell6, sJoin0, sMixed, sDivided, zJo, zJi, W2, atX, zeroPlate, zNq, List.map_cons, List.map_nil, decide_true, Option.getD_some, zOK, sTale1, sTale2, sTaleF, sE, sG1, sG3] at t)
 (refine o3 (t) (by simp only [go_sem, *]; done) rfl (by simp only [go_sem]; done) (by simp) (by simp) ?_; simp only [go_sem, w6, *])
 clear t
 repeat' (first | (refine Qr rfl ?_; try intro _ hK; try simp only [go_sem, *]) | (refine Qi rfl rfl rfl rfl ?_ ?_ <;> (intro hb; (try intro _ hK); have hc := hb; try simp only [go_sem] at hc; simp only [go_sem, *])) | refine Qh rfl ?_ | refine Qd rfl (by kernel_rfl) ?_ | (refine Qc rfl rfl ?_ ?_ <;> (intro hb; have hc := hb; try simp only [go_sem] at hc)) | refine z6 rfl ?_ | (refine Qb ?_ ?_; focus kernel_rfl) | ((with_reducible apply And.intro); focus omega) | (refine z5 hK ?_; clear hK; simp only [go_sem, *]) | simp only [z3, z4, go_sem, *])
 all_goals try contradiction
 have t := E7 [9] (by decide)
 (try simp only [sA, sCourt, sShut, sDiv, sFell, sFell6, sJoin0, sMixed, sDivided, zJo, zJi, W2, atX, zeroPlate, zNq, List.map_cons, List.map_nil, decide_true, Option.getD_some, zOK, sTale1, sTale2, sTaleF, sE, sG1, sG3] at t)
 (refine o3 (t) (by simp only [go_sem, *]; done) rfl (by simp only [go_sem]; done) (by simp) (by simp) ?_; simp only [go_sem, w6, *])
 clear t
 repeat' (first | (refine Qr rfl ?_; try intro _ hK; try simp only [go_sem, *]) | (refine Qi rfl rfl rfl rfl ?_ ?_ <;> (intro hb; (try intro _ hK); have hc := hb; try simp only [go_sem] at hc; simp only [go_sem, *])) | refine Qh rfl ?_ | refine Qd rfl (by kernel_rfl) ?_ | (refine Qc rfl rfl ?_ ?_ <;> (intro hb; have hc := hb; try simp only [go_sem] at hc)) | refine z6 rfl ?_ | (refine Qb ?_ ?_; focus kernel_rfl) | ((with_reducible apply And.intro); focus omega) | (refine z5 hK ?_; clear hK; simp only [go_sem, *]) | simp only [z3, z4, go_sem, *])
 all_goals try contradiction
 have t := E7 [9] (by decide)
 (try simp only [sA, sCourt, sShut, sDiv, sFell, sFell6, sJoin0, sMixed, sDivided, zJo, zJi, W2, atX, zeroPlate, zNq, List.map_cons, List.map_nil, decide_true, Option.getD_some, zOK, sTale1, sTale2, sTaleF, sE, sG1, sG3] at t)
 (refine o3 (t) (by simp only [go_sem, *]; done) rfl (by simp only [go_sem]; done) (by simp) (by simp) ?_; simp only [go_sem, w6, *])
 clear t
 repeat' (first | (refine Qr rfl ?_; try intro _ hK; try simp only [go_sem, *]) | (refine Qi rfl rfl rfl rfl ?_ ?_ <;> (intro hb; (try intro _ hK); have hc := hb; try simp only [go_sem] at hc; simp only [go_sem, *])) | refine Qh rfl ?_ | refine Qd rfl (by kernel_rfl) ?_ | (refine Qc rfl rfl ?_ ?_ <;> (intro hb; have hc := hb; try simp only [go_sem] at hc)) | refine z6 rfl ?_ | (refine Qb ?_ ?_; focus kernel_rfl) | ((with_reducible apply And.intro); focus omega) | (refine z5 hK ?_; clear hK; simp only [go_sem, *]) | simp only [z3, z4, go_sem, *])
 all_goals try contradiction
 have t := zAx (zNq [9]) (zNq [9]) (zNq [9])
 (try simp only [sA, sCourt, sShut, sDiv, sFell, sFell6, sJoin0, sMixed, sDivided, zJo, zJi, W2, atX, zeroPlate, zNq, List.map_cons, List.map_nil, decide_true, Option.getD_some, zOK, sTale1, sTale2, sTaleF, sE, sG1, sG3] at t)
 (refine o3 (t) (by simp only [go_sem, *]; done) rfl (by simp only [go_sem]; done) (by simp) (by simp) ?_; simp only [go_sem, w6, *])
 clear t
 repeat' (first | (refine Qr rfl ?_; try intro _ hK; try simp only [go_sem, *]) | (refine Qi rfl rfl rfl rfl ?_ ?_ <;> (intro hb; (try intro _ hK); have hc := hb; try simp only [go_sem] at hc; simp only [go_sem, *])) | refine Qh rfl ?_ | refine Qd rfl (by kernel_rfl) ?_ | (refine Qc rfl rfl ?_ ?_ <;> (intro hb; have hc := hb; try simp only [go_sem] at hc)) | refine z6 rfl ?_ | (refine Qb ?_ ?_; focus kernel_rfl) | ((with_reducible apply And.intro); focus omega) | (refine z5 hK ?_; clear hK; simp only [go_sem, *]) | simp only [z3, z4, go_sem, *])
 all_goals try contradiction
 have t := z_guess3
 (try simp only [sA, sCourt, sShut, sDiv, sFell, sFell6, sJoin0, sMixed, sDivided, zJo, zJi, W2, atX, zeroPlate, zNq, List.map_cons, List.map_nil, decide_true, Option.getD_some, zOK, sTale1, sTale2, sTaleF, sE, sG1, sG3] at t)
 refine X3 t (by simp only [go_sem, *]) ?_
 simp only [go_sem, *]
 clear t
 repeat' (first | (refine Qr rfl ?_; try intro _ hK; try simp only [go_sem, *]) | (refine Qi rfl rfl rfl rfl ?_ ?_ <;> (intro hb; (try intro _ hK); have hc := hb; try simp only [go_sem] at hc; simp only [go_sem, *])) | refine Qh rfl ?_ | refine Qd rfl (by kernel_rfl) ?_ | (refine Qc rfl rfl ?_ ?_ <;> (intro hb; have hc := hb; try simp only [go_sem] at hc)) | refine z6 rfl ?_ | (refine Qb ?_ ?_; focus kernel_rfl) | ((with_reducible apply And.intro); focus omega) | (refine z5 hK ?_; clear hK; simp only [go_sem, *]) | simp only [z3, z4, go_sem, *])
 all_goals try contradiction
 have t := zDJ
 (try simp only [sA, sCourt, sShut, sDiv, sFell, sFell6, sJoin0, sMixed, sDivided, zJo, zJi, W2, atX, zeroPlate, zNq, List.map_cons, List.map_nil, decide_true, Option.getD_some, zOK, sTale1, sTale2, sTaleF, sE, sG1, sG3] at t)
 refine X3 t (by simp only [go_sem, *]) ?_
 simp only [go_sem, *]
 clear t
 repeat' (first | (refine Qr rfl ?_; try intro _ hK; try simp only [go_sem, *]) | (refine Qi rfl rfl rfl rfl ?_ ?_ <;> (intro hb; (try intro _ hK); have hc := hb; try simp only [go_sem] at hc; simp only [go_sem, *])) | refine Qh rfl ?_ | refine Qd rfl (by kernel_rfl) ?_ | (refine Qc rfl rfl ?_ ?_ <;> (intro hb; have hc := hb; try simp only [go_sem] at hc)) | refine z6 rfl ?_ | (refine Qb ?_ ?_; focus kernel_rfl) | ((with_reducible apply And.intro); focus omega) | (refine z5 hK ?_; clear hK; simp only [go_sem, *]) | simp only [z3, z4, go_sem, *])
 all_goals try contradiction
 have t := z_write
 (try simp only [sA, sCourt, sShut, sDiv, sFell, sFell6, sJoin0, sMixed, sDivided, zJo, zJi, W2, atX, zeroPlate, zNq, List.map_cons, List.map_nil, decide_true, Option.getD_some, zOK, sTale1, sTale2, sTaleF, sE, sG1, sG3] at t)
 refine X3 t (by simp only [go_sem, *]) ?_
 simp only [go_sem, *]
 clear t
 repeat' (first | (refine Qr rfl ?_; try intro _ hK; try simp only [go_sem, *]) | (refine Qi rfl rfl rfl rfl ?_ ?_ <;> (intro hb; (try intro _ hK); have hc := hb; try simp only [go_sem] at hc; simp only [go_sem, *])) | refine Qh rfl ?_ | refine Qd rfl (by kernel_rfl) ?_ | (refine Qc rfl rfl ?_ ?_ <;> (intro hb; have hc := hb; try simp only [go_sem] at hc)) | refine z6 rfl ?_ | (refine Qb ?_ ?_; focus kernel_rfl) | ((with_reducible apply And.intro); focus omega) | (refine z5 hK ?_; clear hK; simp only [go_sem, *]) | simp only [z3, z4, go_sem, *])
 all_goals try contradiction
 have t := zJP 0
 (try simp only [sA, sCourt, sShut, sDiv, sFell, sFell6, sJoin0, sMixed, sDivided, zJo, zJi, W2, atX, zeroPlate, zNq, List.map_cons, List.map_nil, decide_true, Option.getD_some, zOK, sTale1, sTale2, sTaleF, sE, sG1, sG3] at t)
 refine X3 t (by simp only [go_sem, *]) ?_
 simp only [go_sem, *]
 clear t
 repeat' (first | (refine Qr rfl ?_; try intro _ hK; try simp only [go_sem, *]) | (refine Qi rfl rfl rfl rfl ?_ ?_ <;> (intro hb; (try intro _ hK); have hc := hb; try simp only [go_sem] at hc; simp only [go_sem, *])) | refine Qh rfl ?_ | refine Qd rfl (by kernel_rfl) ?_ | (refine Qc rfl rfl ?_ ?_ <;> (intro hb; have hc := hb; try simp only [go_sem] at hc)) | refine z6 rfl ?_ | (refine Qb ?_ ?_; focus kernel_rfl) | ((with_reducible apply And.intro); focus omega) | (refine z5 hK ?_; clear hK; simp only [go_sem, *]) | simp only [z3, z4, go_sem, *])
 all_goals try contradiction
 have t := zIc [zJi] [zJi] (by decide)
 (try simp only [sA, sCourt, sShut, sDiv, sFell, sFell6, sJoin0, sMixed, sDivided, zJo, zJi, W2, atX, zeroPlate, zNq, List.map_cons, List.map_nil, decide_true, Option.getD_some, zOK, sTale1, sTale2, sTaleF, sE, sG1, sG3] at t)
 (refine o3 (t) (by simp only [go_sem, *]; done) rfl (by simp only [go_sem]; done) (by simp) (by simp) ?_; simp only [go_sem, w6, *])
 clear t
 repeat' (first | ((with_reducible refine stop_at [0, 1, 1, 1, 1, 1, 1, 1, 1, 1, 1, 1, 1, 1, 1, 1, 1, 1, 1, 1, 1, 1, 1, 1, 1, 1, 1, 1, 1, 1, 1, 1, 1, 1, 1, 1, 1, 1, 1, 1, 1, 1, 1, 1, 1, 1] ?_)) | (refine Qr rfl ?_; try intro _ hK; try simp only [go_sem, *]) | (refine Qi rfl rfl rfl rfl ?_ ?_ <;> (intro hb; (try intro _ hK); have hc := hb; try simp only [go_sem] at hc; simp only [go_sem, *])) | refine Qh rfl ?_ | refine Qd rfl (by kernel_rfl) ?_ | (refine Qc rfl rfl ?_ ?_ <;> (intro hb; have hc := hb; try simp only [go_sem] at hc)) | refine z6 rfl ?_ | (refine Qb ?_ ?_; focus kernel_rfl) | ((with_reducible apply And.intro); focus omega) | (refine z5 hK ?_; clear hK; simp only [go_sem, *]) | simp only [z3, z4, go_sem, *])
 all_goals try contradiction
 refine ⟨?_⟩
 refine H8 (N := 624) (env := [(0, bV false)]) (As := []) [] [] (by (simp only [Weak, go_sem, List.map_append, List.map_set, *] <;> (try simp (disch := omega) only [y8]) <;> (try simp) <;> (try omega))) ?_
 exact hn
theorem sk_45 (E : Env) (hE : E.n = ([] : List AObj).length) : Hold prog E (sub [0, 1, 1, 1, 1, 1, 1, 1, 1, 1, 1, 1, 1, 1, 1, 1, 1, 1, 1, 1, 1, 1, 1, 1, 1, 1, 1, 1, 1, 1, 1, 1, 1, 1, 1, 1, 1, 1, 1, 1, 1, 1, 1, 1, 1, 1] (C4 Tryz.f5)) (z3 (Hold prog E (sub [1, 1, 1, 1, 1, 1, 1, 1, 1, 1, 1, 1, 1, 1, 1, 1, 1, 1, 1, 1, 1, 1, 1, 1, 1, 1, 1, 1, 1, 1, 1, 1, 1, 1, 1, 1, 1, 1, 1, 1, 1, 1, 1, 1, 1, 1] (C4 Tryz.f5)) (fun e σ' => (e = Exit.normal ∨ e = Exit.ret) ∧ D8 prog Tryz.f5 0 (bV true) [] σ')) (fun e σ' => (e = Exit.normal ∨ e = Exit.ret) ∧ D8 prog Tryz.f5 0 (bV true) [] σ')) ⟨624, [(0, bV false)], zNf 0 []⟩ := by
 repeat' (first | ((with_reducible refine stop_at [0, 1, 1, 1, 1, 1, 1, 1, 1, 1, 1, 1, 1, 1, 1, 1, 1, 1, 1, 1, 1, 1, 1, 1, 1, 1, 1, 1, 1, 1, 1, 1, 1, 1, 1, 1, 1, 1, 1, 1, 1, 1, 1, 1, 1, 1, 1] ?_)) | (refine Qr rfl ?_; try intro _ hK; try simp only [go_sem, *]) | (refine Qi rfl rfl rfl rfl ?_ ?_ <;> (intro hb; (try intro _ hK); have hc := hb; try simp only [go_sem] at hc; simp only [go_sem, *])) | refine Qh rfl ?_ | refine Qd rfl (by kernel_rfl) ?_ | (refine Qc rfl rfl ?_ ?_ <;> (intro hb; have hc := hb; try simp only [go_sem] at hc)) | refine z6 rfl ?_ | (refine Qb ?_ ?_; focus kernel_rfl) | ((with_reducible apply And.intro); focus omega) | (refine z5 hK ?_; clear hK; simp only [go_sem, *]) | simp only [z3, z4, go_sem, *])
 all_goals try contradiction
 refine ⟨?_⟩
 obtain ⟨Ts, hTs⟩ : ∃ x, x = sTs := ⟨_, rfl⟩
 obtain ⟨Ns, hNs⟩ : ∃ x, x = sNs := ⟨_, rfl⟩
 refine H8 (N := 624) (env := [(39, l6 Ns), (38, .list (Ts.map sV)), (0, bV false)]) (As := []) [] [0, 1] (by (rw [hTs, hNs]; simp only [sTs, sNs, l6, List.map_cons, List.map_nil]; (simp only [Weak, go_sem, List.map_append, List.map_set, *] <;> (try simp (disch := omega) only [y8]) <;> (try simp) <;> (try omega)))) ?_
 have c := fun i (h : i < 3) => z_read h
 simp only [← hTs, ← hNs] at c
 have lT : Ts.length = 3 := by rw [hTs]; rfl
 have lN : Ns.length = 3 := by rw [hNs]; rfl
 clear hTs hNs
 repeat' (first | (refine Qr rfl ?_; try intro _ hK; try simp only [go_sem, *]) | (refine Qi rfl rfl rfl rfl ?_ ?_ <;> (intro hb; (try intro _ hK); have hc := hb; try simp only [go_sem] at hc; simp only [go_sem, *])) | refine Qh rfl ?_ | refine Qd rfl (by kernel_rfl) ?_ | (refine Qc rfl rfl ?_ ?_ <;> (intro hb; have hc := hb; try simp only [go_sem] at hc)) | refine z6 rfl ?_ | (refine Qb ?_ ?_; focus kernel_rfl) | ((with_reducible apply And.intro); focus omega) | (refine z5 hK ?_; clear hK; simp only [go_sem, *]) | simp only [z3, z4, go_sem, *])
 all_goals try contradiction
 refine v5 rfl (3) (fun i => NoP i) 624 (fun i => [(40, iV i), (39, l6 Ns), (38, .list (Ts.map sV)), (0, bV false)]) (fun i => []) [] [] (by trivial) ?_; intro i hi hP
 have hwi : IntKind.i64.wrap ((i : Int) + 1) = ((i + 1 : Nat) : Int) := y8 (by omega)
 rcases Nat.lt_or_ge i 3 with hi | hi
 ·have hii : (i : Int) < 3 := by omega
  have t := c i hi
  clear c
  generalize hx0 : Ts.getD i default = x0 at *
  generalize hx1 : Ns.getD i default = x1 at *
  repeat' (first | (refine Qr rfl ?_; try intro _ hK; try simp only [go_sem, *]) | (refine Qi rfl rfl rfl rfl ?_ ?_ <;> (intro hb; (try intro _ hK); have hc := hb; try simp only [go_sem] at hc; simp only [go_sem, *])) | refine Qh rfl ?_ | refine Qd rfl (by kernel_rfl) ?_ | (refine Qc rfl rfl ?_ ?_ <;> (intro hb; have hc := hb; try simp only [go_sem] at hc)) | refine z6 rfl ?_ | (refine Qb ?_ ?_; focus kernel_rfl) | (refine X3 (t) ?_ ?_; (focus (simp only [go_sem, *]; done)); simp only [go_sem, *]) | ((with_reducible apply And.intro); focus omega) | (refine z5 hK ?_; clear hK; simp only [go_sem, *]) | simp only [z3, z4, go_sem, *])
  all_goals first | contradiction | omega | skip
  exact v4 (i' := i + 1) [] [] (by trivial)
 have hii : ¬ (i : Int) < 3 := by omega
 clear c hP
 repeat' (first | (refine Qr rfl ?_; try intro _ hK; try simp only [go_sem, *]) | (refine Qi rfl rfl rfl rfl ?_ ?_ <;> (intro hb; (try intro _ hK); have hc := hb; try simp only [go_sem] at hc; simp only [go_sem, *])) | refine Qh rfl ?_ | refine Qd rfl (by kernel_rfl) ?_ | (refine Qc rfl rfl ?_ ?_ <;> (intro hb; have hc := hb; try simp only [go_sem] at hc)) | refine z6 rfl ?_ | (refine Qb ?_ ?_; focus kernel_rfl) | ((with_reducible apply And.intro); focus omega) | (refine z5 hK ?_; clear hK; simp only [go_sem, *]) | simp only [z3, z4, go_sem, *])
 all_goals try contradiction
 have t := z_read1
 (try simp only [sA, sCourt, sShut, sDiv, sFell, sFell6, sJoin0, sMixed, sDivided, zJo, zJi, W2, atX, zeroPlate, zNq, List.map_cons, List.map_nil, decide_true, Option.getD_some, zOK, sTale1, sTale2, sTaleF, sE, sG1, sG3] at t)
 refine X3 t (by simp only [go_sem, *]) ?_
 simp only [go_sem, *]
 clear t
 repeat' (first | (refine Qr rfl ?_; try intro _ hK; try simp only [go_sem, *]) | (refine Qi rfl rfl rfl rfl ?_ ?_ <;> (intro hb; (try intro _ hK); have hc := hb; try simp only [go_sem] at hc; simp only [go_sem, *])) | refine Qh rfl ?_ | refine Qd rfl (by kernel_rfl) ?_ | (refine Qc rfl rfl ?_ ?_ <;> (intro hb; have hc := hb; try simp only [go_sem] at hc)) | refine z6 rfl ?_ | (refine Qb ?_ ?_; focus kernel_rfl) | ((with_reducible apply And.intro); focus omega) | (refine z5 hK ?_; clear hK; simp only [go_sem, *]) | simp only [z3, z4, go_sem, *])
 all_goals try contradiction
 have t := zC4 [[⟨1, 0⟩, ⟨2, 1⟩], []] [[⟨1, 0⟩, ⟨2, 1⟩], []] (by decide) (by decide)
 (try simp only [sA, sCourt, sShut, sDiv, sFell, sFell6, sJoin0, sMixed, sDivided, zJo, zJi, W2, atX, zeroPlate, zNq, List.map_cons, List.map_nil, decide_true, Option.getD_some, zOK, sTale1, sTale2, sTaleF, sE, sG1, sG3] at t)
 (refine o3 (t) (by simp only [go_sem, *]; done) rfl (by simp only [go_sem]; done) (by simp) (by simp) ?_; simp only [go_sem, w6, *])
 clear t
 repeat' (first | (refine Qr rfl ?_; try intro _ hK; try simp only [go_sem, *]) | (refine Qi rfl rfl rfl rfl ?_ ?_ <;> (intro hb; (try intro _ hK); have hc := hb; try simp only [go_sem] at hc; simp only [go_sem, *])) | refine Qh rfl ?_ | refine Qd rfl (by kernel_rfl) ?_ | (refine Qc rfl rfl ?_ ?_ <;> (intro hb; have hc := hb; try simp only [go_sem] at hc)) | refine z6 rfl ?_ | (refine Qb ?_ ?_; focus kernel_rfl) | ((with_reducible apply And.intro); focus omega) | (refine z5 hK ?_; clear hK; simp only [go_sem, *]) | simp only [z3, z4, go_sem, *])
 all_goals try contradiction
 (refine ⟨[_], [], [], ⟨rfl, trivial⟩, ?_⟩; simp only [go_sem, *])
end Go.Abs

