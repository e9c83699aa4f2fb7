/-
  WHAT THE PROOF STANDS ON, PART 6: contracts of the program's functions and the logic that they are proved in. No condition.
-/
import Derived.Test.YteehcinnfiaklaaGreatDoorQE5
set_option maxRecDepth 100000
set_option maxHeartbeats 4000000
set_option linter.unusedVariables false
set_option linter.unusedSimpArgs false
set_option linter.unusedSectionVars false
namespace Go.Abs
open Go Go.Proofs Tryz
end Go.Abs

namespace Go.Abs
open Go Go.Proofs Tryz
attribute [local irreducible] y4 Hold y9
def zPe (n : Nat) (k : Str) (c : UInt8) : List Str := if (w6 c).isPrefixOf k = true then (zGq n (k.drop (w6 c).length)).map (c :: ·) else []
def zP3 (n : Nat) (k : Str) (t : Nat) : List Str := (zL5 t).flatMap (zPe n k)
end Go.Abs

namespace Go.Abs
open Go Go.Proofs Tryz
attribute [local irreducible] y4 Hold y9
def zQG (s : Str) : Bool := decide (20 < s.length)
def zOx (l : List Str) : Bool := l.any zQG || decide (20 < l.length)
theorem zPN (l : List Str) (hl : l.length ≤ 4294967296) : zNF prog 21 [.raw (.slice none 0 0), y7 l] [] (bV (zOx l)) [] := by
 obtain ⟨R, hR⟩ : ∃ R, l.any zQG = R := ⟨_, rfl⟩
 have e : zOx l = (R || decide (20 < l.length)) := by unfold zOx; rw [hR]
 rw [e]
 have h0 : (l.drop 0).any zQG = R := hR
 clear hR e
 refine q9 func21 rfl (fun E hE => ?_); simp only [go_sem, ntmps21]
 repeat' (first | (refine Qr rfl ?_; try intro _ hK; try simp only [go_sem, *]) | (refine Qi rfl rfl rfl rfl ?_ ?_ <;> (intro hb; (try intro _ hK); have hc := hb; try simp only [go_sem] at hc; simp only [go_sem, *])) | refine Qh rfl ?_ | refine Qd rfl (by kernel_rfl) ?_ | (refine Qc rfl rfl ?_ ?_ <;> (intro hb; have hc := hb; try simp only [go_sem] at hc)) | refine q8 rfl ?_ | (refine Qb ?_ ?_; focus kernel_rfl) | ((with_reducible apply And.intro); focus omega) | (refine q7 hK ?_; clear hK; simp only [go_sem, *]) | simp only [q6, z8, go_sem, *])
 refine n0 rfl (l.length) (fun i => (l.drop i).any zQG = R) 47 (fun i => [(5, iV i), (0, .raw (.slice none 0 0)), (1, y7 l)]) (fun i => []) [] [] (by exact h0) ?_; intro i hi hP
 clear h0
 by_cases hi2 : i < l.length
 ·have hii : (i : Int) < (l.length : Int) := by omega
  have hwi : IntKind.i64.wrap ((i : Int) + 1) = ((i + 1 : Nat) : Int) := t6 (by omega)
  rw [j3 hi2, List.any_cons] at hP
  generalize hxe : l.getD i default = x at *
  by_cases q : 20 < x.length
  ·have e1 : zQG x = true := decide_eq_true q
   rw [e1] at hP
   have hP : true = R := hP
   subst hP
   have qi : (x.length : Int) > 20 := by omega
   clear e1
   repeat' (first | (refine Qr rfl ?_; try intro _ hK; try simp only [go_sem, *]) | (refine Qi rfl rfl rfl rfl ?_ ?_ <;> (intro hb; (try intro _ hK); have hc := hb; try simp only [go_sem] at hc; simp only [go_sem, *])) | refine Qh rfl ?_ | refine Qd rfl (by kernel_rfl) ?_ | (refine Qc rfl rfl ?_ ?_ <;> (intro hb; have hc := hb; try simp only [go_sem] at hc)) | refine q8 rfl ?_ | (refine Qb ?_ ?_; focus kernel_rfl) | ((with_reducible apply And.intro); focus omega) | (refine q7 hK ?_; clear hK; simp only [go_sem, *]) | simp only [q6, z8, go_sem, *])
   all_goals first | contradiction | omega | skip
   (refine ⟨[_], [], [], ⟨rfl, trivial⟩, ?_⟩; simp only [go_sem, *])
  ·have e1 : zQG x = false := decide_eq_false q
   rw [e1] at hP
   have hP : (l.drop (i + 1)).any zQG = R := hP
   have qi : ¬ (x.length : Int) > 20 := by omega
   clear e1
   repeat' (first | (refine Qr rfl ?_; try intro _ hK; try simp only [go_sem, *]) | (refine Qi rfl rfl rfl rfl ?_ ?_ <;> (intro hb; (try intro _ hK); have hc := hb; try simp only [go_sem] at hc; simp only [go_sem, *])) | refine Qh rfl ?_ | refine Qd rfl (by kernel_rfl) ?_ | (refine Qc rfl rfl ?_ ?_ <;> (intro hb; have hc := hb; try simp only [go_sem] at hc)) | refine q8 rfl ?_ | (refine Qb ?_ ?_; focus kernel_rfl) | ((with_reducible apply And.intro); focus omega) | (refine q7 hK ?_; clear hK; simp only [go_sem, *]) | simp only [q6, z8, go_sem, *])
   all_goals first | contradiction | omega | skip
   exact d7 (i' := i + 1) [] [] (by exact hP)
 ·have hii : ¬ (i : Int) < (l.length : Int) := by omega
  rw [c0 (by omega)] at hP
  have hP : false = R := hP
  subst hP
  repeat' (first | (refine Qr rfl ?_; try intro _ hK; try simp only [go_sem, *]) | (refine Qi rfl rfl rfl rfl ?_ ?_ <;> (intro hb; (try intro _ hK); have hc := hb; try simp only [go_sem] at hc; simp only [go_sem, *])) | refine Qh rfl ?_ | refine Qd rfl (by kernel_rfl) ?_ | (refine Qc rfl rfl ?_ ?_ <;> (intro hb; have hc := hb; try simp only [go_sem] at hc)) | refine q8 rfl ?_ | (refine Qb ?_ ?_; focus kernel_rfl) | ((with_reducible apply And.intro); focus omega) | (refine q7 hK ?_; clear hK; simp only [go_sem, *]) | simp only [q6, z8, go_sem, *])
  all_goals first | contradiction | omega | skip
  refine n0 rfl (1) (fun j => NoQ j) 47 (fun j => [(6, iV 0), (0, .raw (.slice none 0 0)), (1, y7 l)]) (fun j => []) [] [] (by trivial) ?_; intro j hj hQ
  by_cases q : 20 < l.length
  ·have qi : (l.length : Int) > 20 := by omega
   repeat' (first | (refine Qr rfl ?_; try intro _ hK; try simp only [go_sem, *]) | (refine Qi rfl rfl rfl rfl ?_ ?_ <;> (intro hb; (try intro _ hK); have hc := hb; try simp only [go_sem] at hc; simp only [go_sem, *])) | refine Qh rfl ?_ | refine Qd rfl (by kernel_rfl) ?_ | (refine Qc rfl rfl ?_ ?_ <;> (intro hb; have hc := hb; try simp only [go_sem] at hc)) | refine q8 rfl ?_ | (refine Qb ?_ ?_; focus kernel_rfl) | ((with_reducible apply And.intro); focus omega) | (refine q7 hK ?_; clear hK; simp only [go_sem, *]) | simp only [q6, z8, go_sem, *])
   all_goals first | contradiction | omega | skip
   (refine ⟨[_], [], [], ⟨rfl, trivial⟩, ?_⟩; simp only [go_sem, *])
  ·have qi : ¬ (l.length : Int) > 20 := by omega
   repeat' (first | (refine Qr rfl ?_; try intro _ hK; try simp only [go_sem, *]) | (refine Qi rfl rfl rfl rfl ?_ ?_ <;> (intro hb; (try intro _ hK); have hc := hb; try simp only [go_sem] at hc; simp only [go_sem, *])) | refine Qh rfl ?_ | refine Qd rfl (by kernel_rfl) ?_ | (refine Qc rfl rfl ?_ ?_ <;> (intro hb; have hc := hb; try simp only [go_sem] at hc)) | refine q8 rfl ?_ | (refine Qb ?_ ?_; focus kernel_rfl) | ((with_reducible apply And.intro); focus omega) | (refine q7 hK ?_; clear hK; simp only [go_sem, *]) | simp only [q6, z8, go_sem, *])
   all_goals first | contradiction | omega | skip
   (refine ⟨[_], [], [], ⟨rfl, trivial⟩, ?_⟩; simp only [go_sem, *])
end Go.Abs

namespace Go.Abs
open Go Go.Proofs Tryz
attribute [local irreducible] y4 Hold y9
theorem zPk : zNF prog 54 [.raw (.slice none 0 0), .raw (.slice none 0 0)] [] (bV true) [] := by
 refine q9 func54 rfl (fun E hE => ?_); simp only [go_sem, ntmps54]
 repeat' (first | (refine Qr rfl ?_; try intro _ hK; try simp only [go_sem, *]) | refine Qh rfl ?_ | refine Qd rfl (by kernel_rfl) ?_ | (refine Qc rfl rfl ?_ ?_ <;> (intro hb; have hc := hb; try simp only [go_sem] at hc)) | refine q8 rfl ?_ | (refine Qb ?_ ?_; focus kernel_rfl) | ((with_reducible apply And.intro); focus omega) | (refine q7 hK ?_; clear hK; simp only [go_sem, *]) | simp only [q6, z8, go_sem, *])
 refine n0 rfl (1) (fun j => NoQ j) 26 (fun j => [(5, iV 0), (0, .raw (.slice none 0 0)), (1, .raw (.slice none 0 0))]) (fun j => []) [] [] (by trivial) ?_; intro j hj hQ
 repeat' (first | (refine Qr rfl ?_; try intro _ hK; try simp only [go_sem, *]) | refine Qh rfl ?_ | refine Qd rfl (by kernel_rfl) ?_ | (refine Qc rfl rfl ?_ ?_ <;> (intro hb; have hc := hb; try simp only [go_sem] at hc)) | refine q8 rfl ?_ | (refine Qb ?_ ?_; focus kernel_rfl) | ((with_reducible apply And.intro); focus omega) | (refine q7 hK ?_; clear hK; simp only [go_sem, *]) | simp only [q6, z8, go_sem, *])
 all_goals first | contradiction | omega | skip
 (refine ⟨[_], [], [], ⟨rfl, trivial⟩, ?_⟩; simp only [go_sem, *])
theorem zQC (ab s : Str) (l : List Str) (nums : List Int) (ha : ab.length ≤ 1048576) (hs : s.length ≤ 1048576) (hl : l.length ≤ 1048576 ∧ ∀ s, s ∈ l → s.length ≤ 1048576) (h : nums.length ≤ 4294967296) :
  zNF prog 18 [sV ab, sV s, y7 l, T1 nums] [] (bV true) [] := by
 obtain ⟨d0, s0, hd0⟩ := zKX nums h
 obtain ⟨l0, d1, s1, v0, hl0, hd1⟩ := zLV d0 5 5 hd0 (by omega) (by omega)
 obtain ⟨x, d2, s2, vx, hd2⟩ := zLU d1 5 hd1 (by omega)
 obtain ⟨L, hmap, hll, hvL, -⟩ := zLS v0 vx
 obtain ⟨j, d3, s3, hj, hd3⟩ := zM8 d2 (l0.length : Int) hd2 (by omega)
 have vj := hvL _ (o7 (l := L) (i := j) (by omega))
 have sK := zMv (L.getD j default) (by have := vj.len; omega)
 rw [if_pos (checkN_zero.2 vj), checkN_zero.2 vj] at sK
 have hk12 := zB0 vj
 generalize zNG (L.getD j default) = kk at *
 obtain ⟨t1, d4, s4, hd4, ht1, -⟩ := zMl d3 kk hd3 (by omega)
 obtain ⟨t2, d5, s5, hd5, ht2, -⟩ := zMl d4 kk hd4 (by omega)
 clear v0 vx vj hd0 hd1 hd2 hd3 hd4 hd5 h
 have htk : List.take (l0.length + 1) (List.map sV L) = List.map sV L := List.take_of_length_le (by simp; omega)
 have hw0 : IntKind.i64.wrap (((l0.length + 1 : Nat) : Int) - 1) = (l0.length : Int) := by rw [wrap_i64 (by omega) (by omega)]; omega
 have sS := zMz
 have sL := zPN l (by omega)
 have sL2 := zPN [ab, s] (by simp)
 generalize zOx l = q1 at *
 generalize zOx [ab, s] = q2 at *
 refine q9 func18 rfl (fun E hE => ?_); simp only [go_sem, ntmps18]
 cases q1 with
 | true =>
  repeat' (first | (refine Qr rfl ?_; try intro _ hK; try simp only [go_sem, *]) | (refine Qi rfl rfl rfl rfl ?_ ?_ <;> (intro hb; (try intro _ hK); have hc := hb; try simp only [go_sem] at hc; simp only [go_sem, *])) | refine Qh rfl ?_ | refine Qd rfl (by kernel_rfl) ?_ | (refine Qc rfl rfl ?_ ?_ <;> (intro hb; have hc := hb; try simp only [go_sem] at hc)) | refine q8 rfl ?_ | (refine Qb ?_ ?_; focus kernel_rfl) | (refine x5 (sL) ?_ ?_; (focus (simp only [go_sem, *]; done)); simp only [go_sem, *]) | (refine j1 (sS) ?_; simp only [go_sem, *]) | ((with_reducible apply And.intro); focus omega) | (refine q7 hK ?_; clear hK; simp only [go_sem, *]) | simp only [q6, z8, go_sem, *])
  all_goals try contradiction
  (refine ⟨[_], [], [], ⟨rfl, trivial⟩, ?_⟩; simp only [go_sem, *])
 | false =>
  cases q2 with
  | true =>
   repeat' (first | (refine Qr rfl ?_; try intro _ hK; try simp only [go_sem, *]) | (refine Qi rfl rfl rfl rfl ?_ ?_ <;> (intro hb; (try intro _ hK); have hc := hb; try simp only [go_sem] at hc; simp only [go_sem, *])) | refine Qh rfl ?_ | refine Qd rfl (by kernel_rfl) ?_ | (refine Qc rfl rfl ?_ ?_ <;> (intro hb; have hc := hb; try simp only [go_sem] at hc)) | refine q8 rfl ?_ | (refine Qb ?_ ?_; focus kernel_rfl) | (refine x5 (sL) ?_ ?_; (focus (simp only [go_sem, *]; done)); simp only [go_sem, *]) | ((with_reducible apply And.intro); focus omega) | (refine q7 hK ?_; clear hK; simp only [go_sem, *]) | simp only [q6, z8, go_sem, *])
   (refine R7 [0] (sL2) (by simp only [go_sem, *]) (.raw _) ?_; simp only [go_sem, *])
   repeat' (first | (refine Qr rfl ?_; try intro _ hK; try simp only [go_sem, *]) | (refine Qi rfl rfl rfl rfl ?_ ?_ <;> (intro hb; (try intro _ hK); have hc := hb; try simp only [go_sem] at hc; simp only [go_sem, *])) | refine Qh rfl ?_ | refine Qd rfl (by kernel_rfl) ?_ | (refine Qc rfl rfl ?_ ?_ <;> (intro hb; have hc := hb; try simp only [go_sem] at hc)) | refine q8 rfl ?_ | (refine Qb ?_ ?_; focus kernel_rfl) | (refine j1 (sS) ?_; simp only [go_sem, *]) | ((with_reducible apply And.intro); focus omega) | (refine q7 hK ?_; clear hK; simp only [go_sem, *]) | simp only [q6, z8, go_sem, *])
   all_goals try contradiction
   (refine ⟨[_], [], [], ⟨rfl, trivial⟩, ?_⟩; simp only [go_sem, *])
  | false =>
   repeat' (first | (refine Qr rfl ?_; try intro _ hK; try simp only [go_sem, *]) | (refine Qi rfl rfl rfl rfl ?_ ?_ <;> (intro hb; (try intro _ hK); have hc := hb; try simp only [go_sem] at hc; simp only [go_sem, *])) | refine Qh rfl ?_ | refine Qd rfl (by kernel_rfl) ?_ | (refine Qc rfl rfl ?_ ?_ <;> (intro hb; have hc := hb; try simp only [go_sem] at hc)) | refine q8 rfl ?_ | (refine Qb ?_ ?_; focus kernel_rfl) | (refine x5 (sL) ?_ ?_; (focus (simp only [go_sem, *]; done)); simp only [go_sem, *]) | ((with_reducible apply And.intro); focus omega) | (refine q7 hK ?_; clear hK; simp only [go_sem, *]) | simp only [q6, z8, go_sem, *])
   (refine R7 [0] (sL2) (by simp only [go_sem, *]) (.raw _) ?_; simp only [go_sem, *])
   repeat' (first | (refine Qr rfl ?_; try intro _ hK; try simp only [go_sem, *]) | (refine Qi rfl rfl rfl rfl ?_ ?_ <;> (intro hb; (try intro _ hK); have hc := hb; try simp only [go_sem] at hc; simp only [go_sem, *])) | refine Qh rfl ?_ | refine Qd rfl (by kernel_rfl) ?_ | (refine Qc rfl rfl ?_ ?_ <;> (intro hb; have hc := hb; try simp only [go_sem] at hc)) | refine q8 rfl ?_ | (refine Qb ?_ ?_; focus kernel_rfl) | (refine j1 (s0) ?_; simp only [go_sem, *]) | ((with_reducible apply And.intro); focus omega) | (refine q7 hK ?_; clear hK; simp only [go_sem, *]) | simp only [q6, z8, go_sem, *])
   refine v8 [1] s1 ?_
   simp only [go_sem, *]
   repeat' (first | (refine Qr rfl ?_; try intro _ hK; try simp only [go_sem, *]) | (refine Qi rfl rfl rfl rfl ?_ ?_ <;> (intro hb; (try intro _ hK); have hc := hb; try simp only [go_sem] at hc; simp only [go_sem, *])) | refine Qh rfl ?_ | refine Qd rfl (by kernel_rfl) ?_ | (refine Qc rfl rfl ?_ ?_ <;> (intro hb; have hc := hb; try simp only [go_sem] at hc)) | refine q8 rfl ?_ | (refine Qb ?_ ?_; focus kernel_rfl) | ((with_reducible apply And.intro); focus omega) | (refine q7 hK ?_; clear hK; simp only [go_sem, *]) | simp only [q6, z8, go_sem, *])
   refine v8 [1] s2 ?_
   simp only [go_sem, *]
   repeat' (first | ((with_reducible refine zM2 [0, 1, 1, 1, 1] ?_)) | (refine Qr rfl ?_; try intro _ hK; try simp only [go_sem, *]) | (refine Qi rfl rfl rfl rfl ?_ ?_ <;> (intro hb; (try intro _ hK); have hc := hb; try simp only [go_sem] at hc; simp only [go_sem, *])) | refine Qh rfl ?_ | refine Qd rfl (by kernel_rfl) ?_ | (refine Qc rfl rfl ?_ ?_ <;> (intro hb; have hc := hb; try simp only [go_sem] at hc)) | refine q8 rfl ?_ | (refine Qb ?_ ?_; focus kernel_rfl) | ((with_reducible apply And.intro); focus omega) | (refine q7 hK ?_; clear hK; simp only [go_sem, *]) | simp only [q6, z8, go_sem, *])
   all_goals try contradiction
   refine ⟨?_⟩
   refine T5 (N := 163) (env := [(9, .ptr 0 0), (10, y7 L), (0, sV ab), (1, sV s), (2, y7 l)]) (As := [w7 d2]) [some 1] [4] (by (simp only [Weak, go_sem, List.map_append, List.map_set, *] <;> (try simp (disch := omega) only [t6]) <;> (try simp) <;> (try omega))) ?_
   clear s0 s1 s2 htk hmap sL sL2
   have hjl : j < l0.length + 1 := by omega
   have hL0 : (0 : Nat) < l0.length + 1 := by omega
   repeat' (first | (refine Qr rfl ?_; try intro _ hK; try simp only [go_sem, *]) | (refine Qi rfl rfl rfl rfl ?_ ?_ <;> (intro hb; (try intro _ hK); have hc := hb; try simp only [go_sem] at hc; simp only [go_sem, *])) | refine Qh rfl ?_ | refine Qd rfl (by kernel_rfl) ?_ | (refine Qc rfl rfl ?_ ?_ <;> (intro hb; have hc := hb; try simp only [go_sem] at hc)) | refine q8 rfl ?_ | (refine Qb ?_ ?_; focus kernel_rfl) | ((with_reducible apply And.intro); focus omega) | (refine q7 hK ?_; clear hK; simp only [go_sem, *]) | simp only [q6, z8, go_sem, *])
   refine v8 [0] s3 ?_
   simp only [go_sem, *]
   repeat' (first | (refine Qr rfl ?_; try intro _ hK; try simp only [go_sem, *]) | (refine Qi rfl rfl rfl rfl ?_ ?_ <;> (intro hb; (try intro _ hK); have hc := hb; try simp only [go_sem] at hc; simp only [go_sem, *])) | refine Qh rfl ?_ | refine Qd rfl (by kernel_rfl) ?_ | (refine Qc rfl rfl ?_ ?_ <;> (intro hb; have hc := hb; try simp only [go_sem] at hc)) | refine q8 rfl ?_ | (refine Qb ?_ ?_; focus kernel_rfl) | (refine x5 (sK) ?_ ?_; (focus (simp only [go_sem, *]; done)); simp only [go_sem, *]) | ((with_reducible apply And.intro); focus omega) | (refine q7 hK ?_; clear hK; simp only [go_sem, *]) | simp only [q6, z8, go_sem, *])
   refine v8 [0] s4 ?_
   simp only [go_sem, *]
   repeat' (first | (refine Qr rfl ?_; try intro _ hK; try simp only [go_sem, *]) | (refine Qi rfl rfl rfl rfl ?_ ?_ <;> (intro hb; (try intro _ hK); have hc := hb; try simp only [go_sem] at hc; simp only [go_sem, *])) | refine Qh rfl ?_ | refine Qd rfl (by kernel_rfl) ?_ | (refine Qc rfl rfl ?_ ?_ <;> (intro hb; have hc := hb; try simp only [go_sem] at hc)) | refine q8 rfl ?_ | (refine Qb ?_ ?_; focus kernel_rfl) | ((with_reducible apply And.intro); focus omega) | (refine q7 hK ?_; clear hK; simp only [go_sem, *]) | simp only [q6, z8, go_sem, *])
   refine v8 [0] s5 ?_
   simp only [go_sem, *]
   repeat' (first | ((with_reducible refine zM2 [0, 1, 1, 1, 1, 1, 1] ?_)) | (refine Qr rfl ?_; try intro _ hK; try simp only [go_sem, *]) | (refine Qi rfl rfl rfl rfl ?_ ?_ <;> (intro hb; (try intro _ hK); have hc := hb; try simp only [go_sem] at hc; simp only [go_sem, *])) | refine Qh rfl ?_ | refine Qd rfl (by kernel_rfl) ?_ | (refine Qc rfl rfl ?_ ?_ <;> (intro hb; have hc := hb; try simp only [go_sem] at hc)) | refine q8 rfl ?_ | (refine Qb ?_ ?_; focus kernel_rfl) | ((with_reducible apply And.intro); focus omega) | (refine q7 hK ?_; clear hK; simp only [go_sem, *]) | simp only [q6, z8, go_sem, *])
   all_goals try contradiction
   refine ⟨?_⟩
   refine T5 (N := 163) (env := [(13, y7 [ab, t1 ++ [46], t2 ++ [46], ab]), (14, y7 [s, L.getD 0 default, s, L.getD 0 default]), (15, .list ([l, L, l, L].map y7))]) (As := []) [] [1, 2, 3] (by (simp only [Weak, go_sem, List.map_append, List.map_set, *] <;> (try simp (disch := omega) only [t6]) <;> (try simp) <;> (try omega))) ?_
   clear s3 s4 s5 sK hw0 hjl hL0
   have hAb : ∀ s, s ∈ [ab, t1 ++ [46], t2 ++ [46], ab] → s.length ≤ 4294967296 := by
    intro s hs
    simp only [List.mem_cons, List.not_mem_nil, or_false] at hs
    rcases hs with rfl | rfl | rfl | rfl
    ·omega
    ·simp; omega
    ·simp; omega
    ·omega
   have g0 := (hvL _ (o7 (l := L) (i := 0) (by omega))).len
   have hSb : ∀ x, x ∈ [s, L.getD 0 default, s, L.getD 0 default] → x.length ≤ 4294967296 := by
    intro x hx
    simp only [List.mem_cons, List.not_mem_nil, or_false] at hx
    rcases hx with rfl | rfl | rfl | rfl <;> omega
   have hLb : ∀ y, y ∈ [l, L, l, L] → y.length ≤ 1048576 ∧ ∀ s, s ∈ y → s.length ≤ 4294967296 := by
    intro y hy
    simp only [List.mem_cons, List.not_mem_nil, or_false] at hy
    rcases hy with rfl | rfl | rfl | rfl
    ·exact ⟨hl.1, fun s hs => by have := hl.2 s hs; omega⟩
    ·exact ⟨by omega, fun s hs => by have := (hvL s hs).len; omega⟩
    ·exact ⟨hl.1, fun s hs => by have := hl.2 s hs; omega⟩
    ·exact ⟨by omega, fun s hs => by have := (hvL s hs).len; omega⟩
   generalize hAe : [ab, t1 ++ [46], t2 ++ [46], ab] = As at *
   generalize hSe : [s, L.getD 0 default, s, L.getD 0 default] = Ss at *
   generalize hLe : [l, L, l, L] = Ls at *
   have hAl : As.length = 4 := by rw [← hAe]; rfl
   have hSl : Ss.length = 4 := by rw [← hSe]; rfl
   have hLl : Ls.length = 4 := by rw [← hLe]; rfl
   clear hvL hl ha hs hAe hSe hLe hll hl0 g0 hj ht1 ht2 hk12
   repeat' (first | (refine Qr rfl ?_; try intro _ hK; try simp only [go_sem, *]) | (refine Qi rfl rfl rfl rfl ?_ ?_ <;> (intro hb; (try intro _ hK); have hc := hb; try simp only [go_sem] at hc; simp only [go_sem, *])) | refine Qh rfl ?_ | refine Qd rfl (by kernel_rfl) ?_ | (refine Qc rfl rfl ?_ ?_ <;> (intro hb; have hc := hb; try simp only [go_sem] at hc)) | refine q8 rfl ?_ | (refine Qb ?_ ?_; focus kernel_rfl) | ((with_reducible apply And.intro); focus omega) | (refine q7 hK ?_; clear hK; simp only [go_sem, *]) | simp only [q6, z8, go_sem, *])
   all_goals try contradiction
   refine n0 rfl (As.length) (fun i => NoQ i) 163 (fun i => [(16, iV i), (13, y7 As), (14, y7 Ss), (15, .list (Ls.map y7))]) (fun i => []) [] [] (by trivial) ?_; intro i hi hP
   by_cases hi3 : i < 4
   ·have hii3 : (i : Int) < 4 := by omega
    have hwi : IntKind.i64.wrap ((i : Int) + 1) = ((i + 1 : Nat) : Int) := t6 (by omega)
    obtain ⟨hy, hys⟩ := hLb _ (o7 (l := Ls) (i := i) (by omega))
    have hA := hAb _ (o7 (i := i) (l := As) (by omega))
    have hS := hSb _ (o7 (i := i) (l := Ss) (by omega))
    generalize hye : Ls.getD i default = y at *
    generalize hue : As.getD i default = u at *
    generalize hve : Ss.getD i default = v at *
    have sd := zMq y (by omega)
    repeat' (first | ((with_reducible refine zM2 [0, 1, 0, 0, 1, 0, 0, 1, 0, 1, 1, 1, 1, 1, 1] ?_)) | (refine Qr rfl ?_; try intro _ hK; try simp only [go_sem, *]) | (refine Qi rfl rfl rfl rfl ?_ ?_ <;> (intro hb; (try intro _ hK); have hc := hb; try simp only [go_sem] at hc; simp only [go_sem, *])) | refine Qh rfl ?_ | refine Qd rfl (by kernel_rfl) ?_ | (refine Qc rfl rfl ?_ ?_ <;> (intro hb; have hc := hb; try simp only [go_sem] at hc)) | refine q8 rfl ?_ | (refine Qb ?_ ?_; focus kernel_rfl) | (refine j1 (sd) ?_; simp only [go_sem, *]) | ((with_reducible apply And.intro); focus omega) | (refine q7 hK ?_; clear hK; simp only [go_sem, *]) | simp only [q6, z8, go_sem, *])
    all_goals try contradiction
    refine ⟨?_⟩
    refine T5 (N := 163) (env := [(17, y7 y), (16, iV i), (13, y7 As), (14, y7 Ss), (15, .list (Ls.map y7))]) (As := []) [] [0] (by (simp only [Weak, go_sem, List.map_append, List.map_set, *] <;> (try simp (disch := omega) only [t6]) <;> (try simp) <;> (try omega))) ?_
    clear sd hLb hAb hSb
    have t1 := zMs u v (by omega)
    have t2 := zMw u v hA hS
    have sE := zHx y y (by omega)
    rw [decide_eq_true (p := y = y) rfl] at sE
    generalize zNu u v = c1 at *
    generalize zNk u v = c2 at *
    have b1 : (c1 != c1) = false := by simp
    have b2 : (c2 != c2) = false := by simp
    by_cases hn : Z4 u y = 0
    ·have n1 := zMu u y hn
     have n2 := zMy u y hn
     have hwl : (zNv u y).length ≤ y.length := zM1 _ 0 rfl
     have sI := zHw (zNv u y) (zNv u y) (by omega)
     rw [decide_eq_true (p := zNv u y = zNv u y) rfl] at sI
     have htw : List.take (zNv u y).length (List.map iV (zNv u y)) = List.map iV (zNv u y) := List.take_of_length_le (by simp)
     generalize zNv u y = ws at *
     clear hn hwl hys hA hS
     repeat' (first | ((with_reducible refine zM2 [0, 1, 1, 1, 1, 0, 0, 1, 0, 0, 1, 0, 1, 1, 1, 1, 1, 1] ?_)) | (refine Qr rfl ?_; try intro _ hK; try simp only [go_sem, *]) | (refine Qi rfl rfl rfl rfl ?_ ?_ <;> (intro hb; (try intro _ hK); have hc := hb; try simp only [go_sem] at hc; simp only [go_sem, *])) | refine Qh rfl ?_ | refine Qd rfl (by kernel_rfl) ?_ | (refine Qc rfl rfl ?_ ?_ <;> (intro hb; have hc := hb; try simp only [go_sem] at hc)) | refine q8 rfl ?_ | (refine Qb ?_ ?_; focus kernel_rfl) | (refine x5 (t1) ?_ ?_; (focus (simp only [go_sem, *]; done)); simp only [go_sem, *]) | (refine x5 (t2) ?_ ?_; (focus (simp only [go_sem, *]; done)); simp only [go_sem, *]) | (refine j1 (n1) ?_; simp only [go_sem, *]) | ((with_reducible apply And.intro); focus omega) | (refine q7 hK ?_; clear hK; simp only [go_sem, *]) | simp only [q6, z8, go_sem, *])
     all_goals try contradiction
     refine ⟨?_⟩
     refine T5 (N := 163) (env := [(22, T1 ws), (23, iV 0), (18, bV c1), (19, iV c2), (20, bV c1), (21, iV c2), (17, y7 y), (16, iV i), (13, y7 As), (14, y7 Ss), (15, .list (Ls.map y7))]) (As := []) [] [0] (by (simp only [Weak, go_sem, List.map_append, List.map_set, *] <;> (try simp (disch := omega) only [t6]) <;> (try simp) <;> (try omega))) ?_
     repeat' (first | ((with_reducible refine zM2 [0, 1, 1, 1, 1, 1, 0, 0, 1, 0, 0, 1, 0, 1, 1, 1, 1, 1, 1] ?_)) | (refine Qr rfl ?_; try intro _ hK; try simp only [go_sem, *]) | (refine Qi rfl rfl rfl rfl ?_ ?_ <;> (intro hb; (try intro _ hK); have hc := hb; try simp only [go_sem] at hc; simp only [go_sem, *])) | refine Qh rfl ?_ | refine Qd rfl (by kernel_rfl) ?_ | (refine Qc rfl rfl ?_ ?_ <;> (intro hb; have hc := hb; try simp only [go_sem] at hc)) | refine q8 rfl ?_ | (refine Qb ?_ ?_; focus kernel_rfl) | (refine j1 (n2) ?_; simp only [go_sem, *]) | ((with_reducible apply And.intro); focus omega) | (refine q7 hK ?_; clear hK; simp only [go_sem, *]) | simp only [q6, z8, go_sem, *])
     all_goals try contradiction
     refine ⟨?_⟩
     refine T5 (N := 163) (env := [(24, T1 ws), (25, iV 0), (22, T1 ws), (23, iV 0), (18, bV c1), (19, iV c2), (20, bV c1), (21, iV c2), (17, y7 y), (16, iV i), (13, y7 As), (14, y7 Ss), (15, .list (Ls.map y7))]) (As := []) [] [0] (by (simp only [Weak, go_sem, List.map_append, List.map_set, *] <;> (try simp (disch := omega) only [t6]) <;> (try simp) <;> (try omega))) ?_
     clear t1 t2 n1 n2 htw
     repeat' (first | (refine Qr rfl ?_; try intro _ hK; try simp only [go_sem, *]) | (refine Qi rfl rfl rfl rfl ?_ ?_ <;> (intro hb; (try intro _ hK); have hc := hb; try simp only [go_sem] at hc; simp only [go_sem, *])) | refine Qh rfl ?_ | refine Qd rfl (by kernel_rfl) ?_ | (refine Qc rfl rfl ?_ ?_ <;> (intro hb; have hc := hb; try simp only [go_sem] at hc)) | refine q8 rfl ?_ | (refine Qb ?_ ?_; focus kernel_rfl) | (refine x5 (sI) ?_ ?_; (focus (simp only [go_sem, *]; done)); simp only [go_sem, *]) | (refine x5 (sE) ?_ ?_; (focus (simp only [go_sem, *]; done)); simp only [go_sem, *]) | ((with_reducible apply And.intro); focus omega) | (refine q7 hK ?_; clear hK; simp only [go_sem, *]) | simp only [q6, z8, go_sem, *])
     all_goals first | contradiction | omega | skip
     exact d7 (i' := i + 1) [] [] (by trivial)
    ·have n1 := zMt u y (by omega) (by omega) hn
     have n2 := zMx u y hA (by omega) hys hn
     have sI := zPk
     generalize Z4 u y = e at *
     have b5 : (e != e) = false := by simp
     clear hys hA hS
     repeat' (first | (refine Qr rfl ?_; try intro _ hK; try simp only [go_sem, *]) | (refine Qi rfl rfl rfl rfl ?_ ?_ <;> (intro hb; (try intro _ hK); have hc := hb; try simp only [go_sem] at hc; simp only [go_sem, *])) | refine Qh rfl ?_ | refine Qd rfl (by kernel_rfl) ?_ | (refine Qc rfl rfl ?_ ?_ <;> (intro hb; have hc := hb; try simp only [go_sem] at hc)) | refine q8 rfl ?_ | (refine Qb ?_ ?_; focus kernel_rfl) | (refine x5 (t1) ?_ ?_; (focus (simp only [go_sem, *]; done)); simp only [go_sem, *]) | (refine x5 (t2) ?_ ?_; (focus (simp only [go_sem, *]; done)); simp only [go_sem, *]) | (refine x5 (n1) ?_ ?_; (focus (simp only [go_sem, *]; done)); simp only [go_sem, *]) | (refine x5 (n2) ?_ ?_; (focus (simp only [go_sem, *]; done)); simp only [go_sem, *]) | (refine x5 (sI) ?_ ?_; (focus (simp only [go_sem, *]; done)); simp only [go_sem, *]) | (refine x5 (sE) ?_ ?_; (focus (simp only [go_sem, *]; done)); simp only [go_sem, *]) | ((with_reducible apply And.intro); focus omega) | (refine q7 hK ?_; clear hK; simp only [go_sem, *]) | simp only [q6, z8, go_sem, *])
     all_goals first | contradiction | omega | skip
     exact d7 (i' := i + 1) [] [] (by trivial)
   ·have hii3 : ¬ (i : Int) < 4 := by omega
    repeat' (first | (refine Qr rfl ?_; try intro _ hK; try simp only [go_sem, *]) | (refine Qi rfl rfl rfl rfl ?_ ?_ <;> (intro hb; (try intro _ hK); have hc := hb; try simp only [go_sem] at hc; simp only [go_sem, *])) | refine Qh rfl ?_ | refine Qd rfl (by kernel_rfl) ?_ | (refine Qc rfl rfl ?_ ?_ <;> (intro hb; have hc := hb; try simp only [go_sem] at hc)) | refine q8 rfl ?_ | (refine Qb ?_ ?_; focus kernel_rfl) | (refine j1 (sS) ?_; simp only [go_sem, *]) | ((with_reducible apply And.intro); focus omega) | (refine q7 hK ?_; clear hK; simp only [go_sem, *]) | simp only [q6, z8, go_sem, *])
    all_goals first | contradiction | omega | skip
    (refine ⟨[_], [], [], ⟨rfl, trivial⟩, ?_⟩; simp only [go_sem, *])
end Go.Abs

