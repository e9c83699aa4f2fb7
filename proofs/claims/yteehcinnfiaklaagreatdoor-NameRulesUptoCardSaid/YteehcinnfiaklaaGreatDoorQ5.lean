/-
  WHAT THE PROOF STANDS ON, PART 5: contracts of the program's functions and the logic that they are proved in. No condition.
-/
import Derived.Test.YteehcinnfiaklaaGreatDoorQ4
set_option maxRecDepth 100000
set_option maxHeartbeats 4000000
set_option linter.unusedVariables false
set_option linter.unusedSimpArgs false
set_option linter.unusedSectionVars false
namespace Go.Abs
open Go Go.Proofs Tryz
attribute [local irreducible] y3 Hold y7
def zNO (n : Int) : Int := if n = 9 then 2 else if n = 0 then 1 else 3
theorem zNF (r : List Rule) (a b : Str) (hr : u7 r = 0) (va : ValidN a) (vb : ValidN b) : zLn prog 39 [x4 r, sV a, sV b] [] (.tup [iV (zNO (zLs r a b)), iV 0]) [] := by
 have sv := zLa r a b (zCP hr).1 (zCP hr).2
 have e : zC3 r a b = zNO (zLs r a b) ∧ zC2 r a b = 0 := by
  unfold zC3 zC2 zNO
  rcases zDg hr va vb with ⟨h1, h2, h3, h4⟩ | ⟨h1, h2, h3⟩
  ·rw [h1, if_neg (show ¬ (0 : Int) = 11 by decide), if_pos rfl, if_neg (show ¬ (0 : Int) = 11 by decide), h2, if_neg (show ¬ zLs r a b = 9 by omega)]
   exact ⟨rfl, rfl⟩
  ·rw [h1, if_pos rfl, if_pos rfl, if_pos h3]; exact ⟨rfl, rfl⟩
 rw [e.1, e.2] at sv
 exact sv
theorem zNK {r s : List Rule} (h1 : u7 r = 0) (h2 : u7 s = 0) (hl : r.length + s.length ≤ 4) : u7 (r ++ s) = 0 := by
 have key : ∀ {r : List Rule}, u7 r = 0 → r.all Rule.ok = true := fun {r} h => by
  unfold u7 at h
  split at h
  ·cases h
  ·split at h
   ·assumption
   ·cases h
 unfold u7
 rw [if_neg (by simp; omega), List.all_append, key h1, key h2]; rfl
theorem zNN (nums : List Int) (h : nums.length ≤ 4294967296) : zLn prog 7 [W4 nums] [] (bV true) [] := by
 obtain ⟨d0, s0, hd0⟩ := zD0 nums h
 obtain ⟨r, d1, s1, hr, hr4, hd1⟩ := zGZ d0 2 hd0 (by omega)
 obtain ⟨q, d2, s2, hq, hq4, hd2⟩ := zGZ d1 2 hd1 (by omega)
 obtain ⟨l0, d3, s3, v0, hl0, hd3⟩ := zFv d2 3 3 hd2 (by omega) (by omega)
 obtain ⟨x, d4, s4, vx, hd4⟩ := zFr d3 3 hd3 (by omega)
 obtain ⟨l, hmap, hll, hvl, -⟩ := zFp v0 vx
 have htk : List.take (l0.length + 1) (List.map sV l) = List.map sV l := List.take_of_length_le (by simp; omega)
 obtain ⟨r', hr'⟩ : ∃ r', r ++ q = r' := ⟨_, rfl⟩
 have hrr : u7 r' = 0 := by rw [← hr']; exact zNK hr hq (by omega)
 have hsub : ∀ x, x ∈ r → x ∈ r' := fun x hx => by rw [← hr']; simp [hx]
 have hrm : List.map Rule.enc r ++ List.map Rule.enc q = List.map Rule.enc r' := by rw [← hr']; simp
 have hrl : r.length + q.length = r'.length := by rw [← hr']; simp
 have htr : List.take r'.length (List.map Rule.enc r') = List.map Rule.enc r' := List.take_of_length_le (by simp)
 have sS := zHt
 have hl4 : l.length ≤ 4 := by omega
 have hl1 : 0 < l.length := by omega
 clear v0 vx hd0 hd1 hd2 hd3 hd4 h hr'
 refine q7 func7 rfl (fun E hE => ?_); simp only [go_sem, ntmps7]
 repeat' (first | (refine Qr rfl ?_; try intro _ hK; try simp only [go_sem, *]) | (refine Qi rfl rfl rfl rfl ?_ ?_ <;> (intro hb; (try intro _ hK); have hc := hb; try simp only [go_sem] at hc; simp only [go_sem, *])) | refine Qh rfl ?_ | refine Qd rfl (by kernel_rfl) ?_ | (refine Qc rfl rfl ?_ ?_ <;> (intro hb; have hc := hb; try simp only [go_sem] at hc)) | refine q6 rfl ?_ | (refine Qb ?_ ?_; focus kernel_rfl) | (refine o9 (s0) ?_; simp only [go_sem, *]) | ((with_reducible apply And.intro); focus omega) | (refine z8 hK ?_; clear hK; simp only [go_sem, *]) | simp only [z7, z6, go_sem, *])
 refine w5 [0] s1 ?_
 simp only [go_sem, *]
 repeat' (first | (refine Qr rfl ?_; try intro _ hK; try simp only [go_sem, *]) | (refine Qi rfl rfl rfl rfl ?_ ?_ <;> (intro hb; (try intro _ hK); have hc := hb; try simp only [go_sem] at hc; simp only [go_sem, *])) | refine Qh rfl ?_ | refine Qd rfl (by kernel_rfl) ?_ | (refine Qc rfl rfl ?_ ?_ <;> (intro hb; have hc := hb; try simp only [go_sem] at hc)) | refine q6 rfl ?_ | (with_reducible (show (∀ _ : AV, _ → _) ∧ _); refine And.intro ?_ ?_; (focus (intro y hy; first | (obtain ⟨z, _, rfl⟩ := List.mem_map.1 (hy); simp [go_sem]; done) | (obtain ⟨z, _, rfl⟩ := List.mem_map.1 (List.mem_of_mem_take hy); simp [go_sem]; done) | (obtain ⟨z, _, rfl⟩ := List.mem_map.1 (List.mem_of_mem_drop hy); simp [go_sem]; done) | (obtain ⟨z, _, rfl⟩ := List.mem_map.1 (List.mem_of_mem_drop (List.mem_of_mem_take hy)); simp [go_sem]; done)))) | (refine Qb ?_ ?_; focus kernel_rfl) | ((with_reducible apply And.intro); focus omega) | (refine z8 hK ?_; clear hK; simp only [go_sem, *]) | simp only [z7, z6, go_sem, *])
 refine w5 [0] s2 ?_
 simp only [go_sem, *]
 repeat' (first | (refine Qr rfl ?_; try intro _ hK; try simp only [go_sem, *]) | (refine Qi rfl rfl rfl rfl ?_ ?_ <;> (intro hb; (try intro _ hK); have hc := hb; try simp only [go_sem] at hc; simp only [go_sem, *])) | refine Qh rfl ?_ | refine Qd rfl (by kernel_rfl) ?_ | (refine Qc rfl rfl ?_ ?_ <;> (intro hb; have hc := hb; try simp only [go_sem] at hc)) | refine q6 rfl ?_ | (with_reducible (show (∀ _ : AV, _ → _) ∧ _); refine And.intro ?_ ?_; (focus (intro y hy; first | (obtain ⟨z, _, rfl⟩ := List.mem_map.1 (hy); simp [go_sem]; done) | (obtain ⟨z, _, rfl⟩ := List.mem_map.1 (List.mem_of_mem_take hy); simp [go_sem]; done) | (obtain ⟨z, _, rfl⟩ := List.mem_map.1 (List.mem_of_mem_drop hy); simp [go_sem]; done) | (obtain ⟨z, _, rfl⟩ := List.mem_map.1 (List.mem_of_mem_drop (List.mem_of_mem_take hy)); simp [go_sem]; done)))) | (refine Qb ?_ ?_; focus kernel_rfl) | ((with_reducible apply And.intro); focus omega) | (refine z8 hK ?_; clear hK; simp only [go_sem, *]) | simp only [z7, z6, go_sem, *])
 refine w5 [0] s3 ?_
 simp only [go_sem, *]
 repeat' (first | (refine Qr rfl ?_; try intro _ hK; try simp only [go_sem, *]) | (refine Qi rfl rfl rfl rfl ?_ ?_ <;> (intro hb; (try intro _ hK); have hc := hb; try simp only [go_sem] at hc; simp only [go_sem, *])) | refine Qh rfl ?_ | refine Qd rfl (by kernel_rfl) ?_ | (refine Qc rfl rfl ?_ ?_ <;> (intro hb; have hc := hb; try simp only [go_sem] at hc)) | refine q6 rfl ?_ | (refine Qb ?_ ?_; focus kernel_rfl) | ((with_reducible apply And.intro); focus omega) | (refine z8 hK ?_; clear hK; simp only [go_sem, *]) | simp only [z7, z6, go_sem, *])
 refine w5 [0] s4 ?_
 simp only [go_sem, *]
 repeat' (first | (refine Qr rfl ?_; try intro _ hK; try simp only [go_sem, *]) | (refine Qi rfl rfl rfl rfl ?_ ?_ <;> (intro hb; (try intro _ hK); have hc := hb; try simp only [go_sem] at hc; simp only [go_sem, *])) | refine Qh rfl ?_ | refine Qd rfl (by kernel_rfl) ?_ | (refine Qc rfl rfl ?_ ?_ <;> (intro hb; have hc := hb; try simp only [go_sem] at hc)) | refine q6 rfl ?_ | (refine Qb ?_ ?_; focus kernel_rfl) | ((with_reducible apply And.intro); focus omega) | (refine z8 hK ?_; clear hK; simp only [go_sem, *]) | simp only [z7, z6, go_sem, *])
 refine p8 rfl (l.length) (fun i => NoQ i) 115 (fun i => [(7, iV i), (4, x4 r), (5, x4 r'), (6, y4 l)]) (fun i => []) [] [1, 5, 8] (by trivial) ?_; intro i hi hP
 clear hmap htk hll s0 s1 s2 s3 s4 hrm hrl htr
 by_cases hi2 : i < l.length
 ·have vi := hvl _ (l4 hi2)
  have v0 := hvl _ (l4 hl1)
  have hwi : IntKind.i64.wrap ((i : Int) + 1) = ((i + 1 : Nat) : Int) := r6 (by omega)
  have u1 := E2 r _ _ hr v0 vi
  have u2 := E2 r' _ _ hrr v0 vi
  have u3 := zNF r _ _ hr v0 vi
  have u4 := zNF r' _ _ hrr v0 vi
  have hm := zJV (r := r) (r' := r') (a := l.getD 0 default) (b := l.getD i default) hsub
  have hn0 := Z9 r (l.getD 0 default) (l.getD i default)
  have hm0 := Z9 r' (l.getD 0 default) (l.getD i default)
  have hz1 := zED (r := r) (a := l.getD 0 default) (b := l.getD i default)
  have hz2 := zED (r := r') (a := l.getD 0 default) (b := l.getD i default)
  have hz : zLs r (l.getD 0 default) (l.getD i default) = 0 ↔ zLs r' (l.getD 0 default) (l.getD i default) = 0 := hz1.trans hz2.symm
  clear hz1 hz2
  generalize zLs r (l.getD 0 default) (l.getD i default) = n at *
  generalize zLs r' (l.getD 0 default) (l.getD i default) = m at *
  have hvw : (zNO n = 2) ∨ (¬ zNO n = 2 ∧ zNO m = zNO n) := by
   unfold zNO
   by_cases h9 : n = 9
   ·rw [if_pos h9]; exact .inl rfl
   ·rw [if_neg h9]
    by_cases h0 : n = 0
    ·rw [if_pos h0, if_neg (by omega), if_pos (hz.1 h0)]; exact .inr ⟨by decide, rfl⟩
    ·rw [if_neg h0, if_neg (by omega), if_neg (fun h => h0 (hz.2 h))]; exact .inr ⟨by decide, rfl⟩
  have hmn : ¬ m > n := by omega
  generalize zNO n = v at *
  generalize zNO m = w at *
  clear hz hn0 hm0 hm hsub
  rcases hvw with h1 | ⟨h1, h2⟩
  ·subst h1
   repeat' (first | (refine Qr rfl ?_; try intro _ hK; try simp only [go_sem, *]) | (refine Qi rfl rfl rfl rfl ?_ ?_ <;> (intro hb; (try intro _ hK); have hc := hb; try simp only [go_sem] at hc; simp only [go_sem, *])) | refine Qh rfl ?_ | refine Qd rfl (by kernel_rfl) ?_ | (refine Qc rfl rfl ?_ ?_ <;> (intro hb; have hc := hb; try simp only [go_sem] at hc)) | refine q6 rfl ?_ | (refine Qb ?_ ?_; focus kernel_rfl) | (refine y8 (u1) ?_ ?_; (focus (simp only [go_sem, *]; done)); simp only [go_sem, *]) | (refine y8 (u2) ?_ ?_; (focus (simp only [go_sem, *]; done)); simp only [go_sem, *]) | (refine y8 (u3) ?_ ?_; (focus (simp only [go_sem, *]; done)); simp only [go_sem, *]) | (refine y8 (u4) ?_ ?_; (focus (simp only [go_sem, *]; done)); simp only [go_sem, *]) | ((with_reducible apply And.intro); focus omega) | (refine z8 hK ?_; clear hK; simp only [go_sem, *]) | simp only [z7, z6, go_sem, *])
   all_goals first | contradiction | omega | skip
   exact p9 (i' := i + 1) [] [] (by trivial)
  ·subst h2
   have hb1 : (w != 2) = true := by simpa using h1
   have hb2 : (w != w) = false := by simp
   repeat' (first | (refine Qr rfl ?_; try intro _ hK; try simp only [go_sem, *]) | (refine Qi rfl rfl rfl rfl ?_ ?_ <;> (intro hb; (try intro _ hK); have hc := hb; try simp only [go_sem] at hc; simp only [go_sem, *])) | refine Qh rfl ?_ | refine Qd rfl (by kernel_rfl) ?_ | (refine Qc rfl rfl ?_ ?_ <;> (intro hb; have hc := hb; try simp only [go_sem] at hc)) | refine q6 rfl ?_ | (refine Qb ?_ ?_; focus kernel_rfl) | (refine y8 (u1) ?_ ?_; (focus (simp only [go_sem, *]; done)); simp only [go_sem, *]) | (refine y8 (u2) ?_ ?_; (focus (simp only [go_sem, *]; done)); simp only [go_sem, *]) | (refine y8 (u3) ?_ ?_; (focus (simp only [go_sem, *]; done)); simp only [go_sem, *]) | (refine y8 (u4) ?_ ?_; (focus (simp only [go_sem, *]; done)); simp only [go_sem, *]) | ((with_reducible apply And.intro); focus omega) | (refine z8 hK ?_; clear hK; simp only [go_sem, *]) | simp only [z7, z6, go_sem, *])
   all_goals first | contradiction | omega | skip
   exact p9 (i' := i + 1) [] [] (by trivial)
 ·repeat' (first | (refine Qr rfl ?_; try intro _ hK; try simp only [go_sem, *]) | (refine Qi rfl rfl rfl rfl ?_ ?_ <;> (intro hb; (try intro _ hK); have hc := hb; try simp only [go_sem] at hc; simp only [go_sem, *])) | refine Qh rfl ?_ | refine Qd rfl (by kernel_rfl) ?_ | (refine Qc rfl rfl ?_ ?_ <;> (intro hb; have hc := hb; try simp only [go_sem] at hc)) | refine q6 rfl ?_ | (refine Qb ?_ ?_; focus kernel_rfl) | (refine q9 (sS) ?_; simp only [go_sem, *]) | ((with_reducible apply And.intro); focus omega) | (refine z8 hK ?_; clear hK; simp only [go_sem, *]) | simp only [z7, z6, go_sem, *])
  all_goals first | contradiction | omega | skip
  (refine ⟨[_], [], [], ⟨rfl, trivial⟩, ?_⟩; simp only [go_sem, *])
end Go.Abs

