/-
  WHAT THE PROOF STANDS ON, PART 5: contracts of the program's functions and the logic that they are proved in. No condition.
-/
import Derived.Test.YteehcinnfiaklaaGreatDoorQF4
set_option maxRecDepth 100000
set_option maxHeartbeats 4000000
set_option linter.unusedVariables false
set_option linter.unusedSimpArgs false
set_option linter.unusedSectionVars false
namespace Go.Abs
open Go Go.Proofs Tryz
attribute [local irreducible] y6 Hold x5
def rrT (s a b : Str) (i : Nat) : Str := s.take i ++ b ++ s.drop (i + a.length)
def zQk (s a b : Str) (i : Nat) : List Str := if (s.take (i + a.length)).drop i = a then (if 1 ≤ (rrT s a b i).length ∧ (rrT s a b i).length ≤ 12 then [rrT s a b i] else []) else []
def zN8 (s a b : Str) (i : Nat) : List Str := (List.range' i (s.length + 1 - a.length - i)).flatMap (zQk s a b)
theorem zOa {s a b : Str} {i : Nat} (h : i + a.length ≤ s.length) : zN8 s a b i = zQk s a b i ++ zN8 s a b (i + 1) := by
 unfold zN8
 rw [show s.length + 1 - a.length - i = (s.length + 1 - a.length - (i + 1)) + 1 by omega, List.range'_succ, List.flatMap_cons]
theorem zOO {s a b : Str} {i : Nat} (h : ¬ i + a.length ≤ s.length) : zN8 s a b i = [] := by
 unfold zN8
 rw [show s.length + 1 - a.length - i = 0 by omega]; rfl
theorem zPC (s a b : Str) (hs : s.length ≤ 1000) (ha : a.length ≤ 1000) (hbl : b.length ≤ 1000) : zMf prog 89 [sV s, sV a, sV b] [] (.own 0 1 0 (zN8 s a b 0).length) [.row 1 ((zN8 s a b 0).map sV)] := by
 obtain ⟨T, hT⟩ : ∃ T, zN8 s a b 0 = T := ⟨_, rfl⟩
 rw [hT]
 have h0 : [] ++ zN8 s a b 0 = T := hT
 clear hT
 refine q9 func89 rfl (fun E hE => ?_); simp only [go_sem, ntmps89]
 repeat' (first | (refine Qr rfl ?_; try intro _ hK; try simp only [go_sem, *]) | (refine Qi rfl rfl rfl rfl ?_ ?_ <;> (intro hb; (try intro _ hK); have hc := hb; try simp only [go_sem] at hc; simp only [go_sem, *])) | refine Qh rfl ?_ | refine Qd rfl (by kernel_rfl) ?_ | (refine Qc rfl rfl ?_ ?_ <;> (intro hb; have hc := hb; try simp only [go_sem] at hc)) | refine q8 rfl ?_ | (refine Qb ?_ ?_; focus kernel_rfl) | ((with_reducible apply And.intro); focus omega) | (refine q7 hK ?_; clear hK; simp only [go_sem, *]) | simp only [q6, z8, go_sem, *])
 refine a7 rfl (s.length + 1 - a.length) (fun i (acc : List Str) => acc ++ zN8 s a b i = T ∧ acc.length ≤ i) 53 (fun i acc => [(8, iV i), (7, .own 0 1 0 acc.length), (0, sV s), (1, sV a), (2, sV b)]) (fun i acc => [.row 1 (acc.map sV)]) [none] [] ([]) (by exact ⟨h0, by simp⟩) ?_; intro i acc hi hP
 clear h0
 obtain ⟨hP, hal⟩ := hP
 have hwl : IntKind.i64.wrap ((i : Int) + (a.length : Int)) = ((i + a.length : Nat) : Int) := by rw [wrap_i64 (by omega) (by omega)]; omega
 by_cases hi2 : i + a.length ≤ s.length
 ·rw [zOa hi2] at hP
  have hil : ((i + a.length : Nat) : Int) ≤ (s.length : Int) := by omega
  have hwi : IntKind.i64.wrap ((i : Int) + 1) = ((i + 1 : Nat) : Int) := r7 (by omega)
  unfold zQk at hP
  by_cases q : (s.take (i + a.length)).drop i = a
  ·rw [if_pos q] at hP
   have hb1 : (List.drop i (List.take (i + a.length) s) == a) = true := by simpa using q
   clear q
   have htl : (rrT s a b i).length ≤ 3000 := by unfold rrT; simp; omega
   have ht : List.take i s ++ b ++ List.drop (i + a.length) s = rrT s a b i := rfl
   generalize rrT s a b i = t at *
   by_cases ql : 1 ≤ t.length ∧ t.length ≤ 12
   ·rw [if_pos ql] at hP
    have hP2 : (acc ++ [t]) ++ zN8 s a b (i + 1) = T := by rw [← hP]; simp
    obtain ⟨q1, q2⟩ := ql
    clear hP
    repeat' (first | (refine Qr rfl ?_; try intro _ hK; try simp only [go_sem, *]) | (refine Qi rfl rfl rfl rfl ?_ ?_ <;> (intro hb; (try intro _ hK); have hc := hb; try simp only [go_sem] at hc; simp only [go_sem, *])) | refine Qh rfl ?_ | refine Qd rfl (by kernel_rfl) ?_ | (refine Qc rfl rfl ?_ ?_ <;> (intro hb; have hc := hb; try simp only [go_sem] at hc)) | refine q8 rfl ?_ | (refine Qb ?_ ?_; focus kernel_rfl) | ((with_reducible apply And.intro); focus omega) | (refine q7 hK ?_; clear hK; simp only [go_sem, *]) | simp only [q6, z8, go_sem, *])
    all_goals first | contradiction | omega | skip
    exact n0 (i' := i + 1) [some 2] [] (acc ++ [t]) (by exact ⟨hP2, by simp; omega⟩)
   ·rw [if_neg ql] at hP
    have hP2 : acc ++ zN8 s a b (i + 1) = T := hP
    clear hP
    by_cases q1 : 1 ≤ t.length
    ·have q2 : ¬ t.length ≤ 12 := fun h => ql ⟨q1, h⟩
     clear ql
     repeat' (first | (refine Qr rfl ?_; try intro _ hK; try simp only [go_sem, *]) | (refine Qi rfl rfl rfl rfl ?_ ?_ <;> (intro hb; (try intro _ hK); have hc := hb; try simp only [go_sem] at hc; simp only [go_sem, *])) | refine Qh rfl ?_ | refine Qd rfl (by kernel_rfl) ?_ | (refine Qc rfl rfl ?_ ?_ <;> (intro hb; have hc := hb; try simp only [go_sem] at hc)) | refine q8 rfl ?_ | (refine Qb ?_ ?_; focus kernel_rfl) | ((with_reducible apply And.intro); focus omega) | (refine q7 hK ?_; clear hK; simp only [go_sem, *]) | simp only [q6, z8, go_sem, *])
     all_goals first | contradiction | omega | skip
     exact n0 (i' := i + 1) [some 0] [] (acc) (by exact ⟨hP2, by omega⟩)
    ·clear ql
     repeat' (first | (refine Qr rfl ?_; try intro _ hK; try simp only [go_sem, *]) | (refine Qi rfl rfl rfl rfl ?_ ?_ <;> (intro hb; (try intro _ hK); have hc := hb; try simp only [go_sem] at hc; simp only [go_sem, *])) | refine Qh rfl ?_ | refine Qd rfl (by kernel_rfl) ?_ | (refine Qc rfl rfl ?_ ?_ <;> (intro hb; have hc := hb; try simp only [go_sem] at hc)) | refine q8 rfl ?_ | (refine Qb ?_ ?_; focus kernel_rfl) | ((with_reducible apply And.intro); focus omega) | (refine q7 hK ?_; clear hK; simp only [go_sem, *]) | simp only [q6, z8, go_sem, *])
     all_goals first | contradiction | omega | skip
     exact n0 (i' := i + 1) [some 0] [] (acc) (by exact ⟨hP2, by omega⟩)
  ·rw [if_neg q] at hP
   have hb1 : (List.drop i (List.take (i + a.length) s) == a) = false := by simpa using q
   have hP2 : acc ++ zN8 s a b (i + 1) = T := hP
   clear q hP
   repeat' (first | (refine Qr rfl ?_; try intro _ hK; try simp only [go_sem, *]) | (refine Qi rfl rfl rfl rfl ?_ ?_ <;> (intro hb; (try intro _ hK); have hc := hb; try simp only [go_sem] at hc; simp only [go_sem, *])) | refine Qh rfl ?_ | refine Qd rfl (by kernel_rfl) ?_ | (refine Qc rfl rfl ?_ ?_ <;> (intro hb; have hc := hb; try simp only [go_sem] at hc)) | refine q8 rfl ?_ | (refine Qb ?_ ?_; focus kernel_rfl) | ((with_reducible apply And.intro); focus omega) | (refine q7 hK ?_; clear hK; simp only [go_sem, *]) | simp only [q6, z8, go_sem, *])
   all_goals first | contradiction | omega | skip
   exact n0 (i' := i + 1) [some 0] [] (acc) (by exact ⟨hP2, by omega⟩)
 ·rw [zOO hi2, List.append_nil] at hP
  subst hP
  have hil : ¬ ((i + a.length : Nat) : Int) ≤ (s.length : Int) := by omega
  repeat' (first | (refine Qr rfl ?_; try intro _ hK; try simp only [go_sem, *]) | (refine Qi rfl rfl rfl rfl ?_ ?_ <;> (intro hb; (try intro _ hK); have hc := hb; try simp only [go_sem] at hc; simp only [go_sem, *])) | refine Qh rfl ?_ | refine Qd rfl (by kernel_rfl) ?_ | (refine Qc rfl rfl ?_ ?_ <;> (intro hb; have hc := hb; try simp only [go_sem] at hc)) | refine q8 rfl ?_ | (refine Qb ?_ ?_; focus kernel_rfl) | ((with_reducible apply And.intro); focus omega) | (refine q7 hK ?_; clear hK; simp only [go_sem, *]) | simp only [q6, z8, go_sem, *])
  all_goals first | contradiction | omega | skip
  refine ⟨[_], [some 0], [], ⟨rfl, trivial⟩, ?_⟩
  simp only [go_sem, *]
def zOC (r : List Rule) (s : Str) : List Str := r.flatMap fun x => zN8 s x.src x.dst 0 ++ zN8 s x.dst x.src 0
theorem zOQ (s a b : Str) (hs : s.length ≤ 1000) : (zN8 s a b 0).length ≤ 1001 := by
 have key : ∀ c i, s.length + 1 - a.length - i = c → (zN8 s a b i).length ≤ c := by
  intro c
  induction c with
  | zero => intro i h; rw [zOO (by omega)]; simp
  | succ c ih =>
   intro i h
   rw [zOa (by omega), List.length_append]
   have := ih (i + 1) (by omega)
   have h2 : (zQk s a b i).length ≤ 1 := by
    unfold zQk
    split
    ·split <;> simp
    ·simp
   omega
 have := key _ 0 rfl
 omega
theorem zPq (r : List Rule) (s : Str) (hs : s.length ≤ 1000) (hr : r.length ≤ 1000) (hx : ∀ x, x ∈ r → x.src.length ≤ 1000 ∧ x.dst.length ≤ 1000) : zMf prog 40 [w6 r, sV s] [] (.own 0 1 0 (zOC r s).length) [.row 1 ((zOC r s).map sV)] := by
 obtain ⟨T, hT⟩ : ∃ T, zOC r s = T := ⟨_, rfl⟩
 rw [hT]
 have h0 : [] ++ zOC (r.drop 0) s = T := hT
 clear hT
 refine q9 func40 rfl (fun E hE => ?_); simp only [go_sem, ntmps40]
 repeat' (first | (refine Qr rfl ?_; try intro _ hK; try simp only [go_sem, *]) | refine Qh rfl ?_ | refine Qd rfl (by kernel_rfl) ?_ | (refine Qc rfl rfl ?_ ?_ <;> (intro hb; have hc := hb; try simp only [go_sem] at hc)) | refine q8 rfl ?_ | (refine Qb ?_ ?_; focus kernel_rfl) | ((with_reducible apply And.intro); focus omega) | (refine q7 hK ?_; clear hK; simp only [go_sem, *]) | simp only [q6, z8, go_sem, *])
 refine a7 rfl (r.length) (fun i (acc : List Str) => acc ++ zOC (r.drop i) s = T ∧ acc.length ≤ 2002 * i) 42 (fun i acc => [(6, iV i), (5, .own 0 1 0 acc.length), (0, w6 r), (1, sV s)]) (fun i acc => [.row 1 (acc.map sV)]) [none] [] ([]) (by exact ⟨h0, by simp⟩) ?_; intro i acc hi hP
 clear h0
 obtain ⟨hP, hal⟩ := hP
 by_cases hi2 : i < r.length
 ·have hxi := hx _ (j9 hi2)
  have e : zOC (r.drop i) s = (zN8 s (r.getD i default).src (r.getD i default).dst 0 ++ zN8 s (r.getD i default).dst (r.getD i default).src 0) ++ zOC (r.drop (i + 1)) s := by
   rw [j4 hi2]; rfl
  rw [e] at hP
  have hii : (i : Int) < (r.length : Int) := by omega
  have hwi : IntKind.i64.wrap ((i : Int) + 1) = ((i + 1 : Nat) : Int) := r7 (by omega)
  have s1 := zPC s (r.getD i default).src (r.getD i default).dst hs hxi.1 hxi.2
  have s2 := zPC s (r.getD i default).dst (r.getD i default).src hs hxi.2 hxi.1
  have l1 := zOQ s (r.getD i default).src (r.getD i default).dst hs
  have l2 := zOQ s (r.getD i default).dst (r.getD i default).src hs
  generalize hsu : (r.getD i default).src = u at *
  generalize hsv : (r.getD i default).dst = v at *
  generalize zN8 s u v 0 = A at *
  generalize zN8 s v u 0 = B at *
  obtain ⟨C1, hC1⟩ : ∃ C, acc ++ A = C := ⟨_, rfl⟩
  obtain ⟨C2, hC2⟩ : ∃ C, C1 ++ B = C := ⟨_, rfl⟩
  have hP2 : C2 ++ zOC (r.drop (i + 1)) s = T := by rw [← hP, ← hC2, ← hC1]; simp
  have hm1 : List.map sV acc ++ List.map sV A = List.map sV C1 := by rw [← hC1]; simp
  have hm2 : List.map sV C1 ++ List.map sV B = List.map sV C2 := by rw [← hC2]; simp
  have hl1 : acc.length + A.length = C1.length := by rw [← hC1]; simp
  have hl2 : C1.length + B.length = C2.length := by rw [← hC2]; simp
  have hl3 : C2.length ≤ 2002 * (i + 1) := by omega
  have hl4 : C1.length ≤ 3000000 := by omega
  clear hC1 hC2
  clear e hP hx
  repeat' (first | (refine Qr rfl ?_; try intro _ hK; try simp only [go_sem, *]) | refine Qh rfl ?_ | refine Qd rfl (by kernel_rfl) ?_ | (refine Qc rfl rfl ?_ ?_ <;> (intro hb; have hc := hb; try simp only [go_sem] at hc)) | refine q8 rfl ?_ | (with_reducible (show (∀ _ : AV, _ → _) ∧ _); refine And.intro ?_ ?_; (focus (intro y hy; first | (obtain ⟨z, _, rfl⟩ := List.mem_map.1 (hy); simp [go_sem]; done) | (obtain ⟨z, _, rfl⟩ := List.mem_map.1 (List.mem_of_mem_take hy); simp [go_sem]; done) | (obtain ⟨z, _, rfl⟩ := List.mem_map.1 (List.mem_of_mem_drop hy); simp [go_sem]; done) | (obtain ⟨z, _, rfl⟩ := List.mem_map.1 (List.mem_of_mem_drop (List.mem_of_mem_take hy)); simp [go_sem]; done)))) | (refine Qb ?_ ?_; focus kernel_rfl) | (refine j8 (s1) ?_; simp only [go_sem, *]) | (refine j8 (s2) ?_; simp only [go_sem, *]) | ((with_reducible apply And.intro); focus omega) | (refine q7 hK ?_; clear hK; simp only [go_sem, *]) | simp only [q6, z8, go_sem, *])
  all_goals first | contradiction | omega | skip
  exact n0 (i' := i + 1) [some 4] [] (C2) (by exact ⟨hP2, hl3⟩)
 ·rw [d7 (by omega)] at hP
  have hP2 : acc = T := by rw [← hP]; simp [zOC]
  subst hP2
  have hii : ¬ (i : Int) < (r.length : Int) := by omega
  repeat' (first | (refine Qr rfl ?_; try intro _ hK; try simp only [go_sem, *]) | refine Qh rfl ?_ | refine Qd rfl (by kernel_rfl) ?_ | (refine Qc rfl rfl ?_ ?_ <;> (intro hb; have hc := hb; try simp only [go_sem] at hc)) | refine q8 rfl ?_ | (refine Qb ?_ ?_; focus kernel_rfl) | ((with_reducible apply And.intro); focus omega) | (refine q7 hK ?_; clear hK; simp only [go_sem, *]) | simp only [q6, z8, go_sem, *])
  all_goals first | contradiction | omega | skip
  refine ⟨[_], [some 0], [], ⟨rfl, trivial⟩, ?_⟩
  simp only [go_sem, *]
end Go.Abs

namespace Go.Abs
open Go Go.Proofs Tryz
attribute [local irreducible] y6 Hold x5
theorem zO9 (s : Str) (lo hi : Nat) (hl : s.length ≤ 4294967296) : zMf prog 131 [sV s, iV lo, iV hi] [] (bV (w5 s lo hi)) [] := by
 unfold w5
 by_cases q1 : lo ≤ s.length
 ·have q1i : ¬ (s.length : Int) < (lo : Int) := by omega
  rw [decide_eq_true q1, Bool.true_and]
  by_cases q2 : s.length ≤ hi
  ·have q2i : ¬ (s.length : Int) > (hi : Int) := by omega
   rw [decide_eq_true q2, Bool.true_and]
   obtain ⟨R, hR⟩ : ∃ R, s.all y9 = R := ⟨_, rfl⟩
   rw [hR]
   have h0 : (s.drop 0).all y9 = R := hR
   clear hR
   refine q9 func131 rfl (fun E hE => ?_); simp only [go_sem, ntmps131]
   repeat' (first | (refine Qr rfl ?_; try intro _ hK; try simp only [go_sem, *]) | (refine Qi rfl rfl rfl rfl ?_ ?_ <;> (intro hb; (try intro _ hK); have hc := hb; try simp only [go_sem] at hc; simp only [go_sem, *])) | refine Qh rfl ?_ | (refine Qc rfl rfl ?_ ?_ <;> (intro hb; have hc := hb; try simp only [go_sem] at hc)) | refine q8 rfl ?_ | ((with_reducible apply And.intro); focus omega) | (refine q7 hK ?_; clear hK; simp only [go_sem, *]) | simp only [q6, z8, go_sem, *])
   all_goals first | contradiction | omega | skip
   refine o9 rfl (s.length) (fun i => (s.drop i).all y9 = R) 29 (fun i => [(7, iV i), (0, sV s)]) (fun i => []) [] [] (by exact h0) ?_; intro i hi hP
   clear h0
   by_cases hi2 : i < s.length
   ·have hii : (i : Int) < (s.length : Int) := by omega
    have hwi : IntKind.i64.wrap ((i : Int) + 1) = ((i + 1 : Nat) : Int) := r7 (by omega)
    have hd : s.drop i = s.getD i 0 :: s.drop (i + 1) := by
     rw [List.drop_eq_getElem_cons hi2]; simp [List.getD, hi2]
    rw [hd, List.all_cons] at hP
    have sl := zDc (s.getD i 0)
    generalize y9 (s.getD i 0) = b at *
    clear hd
    cases b
    ·have hP : false = R := hP
     subst hP
     repeat' (first | (refine Qr rfl ?_; try intro _ hK; try simp only [go_sem, *]) | (refine Qi rfl rfl rfl rfl ?_ ?_ <;> (intro hb; (try intro _ hK); have hc := hb; try simp only [go_sem] at hc; simp only [go_sem, *])) | refine Qh rfl ?_ | (refine Qc rfl rfl ?_ ?_ <;> (intro hb; have hc := hb; try simp only [go_sem] at hc)) | refine q8 rfl ?_ | (refine y5 (sl) ?_; simp only [go_sem, *]) | ((with_reducible apply And.intro); focus omega) | (refine q7 hK ?_; clear hK; simp only [go_sem, *]) | simp only [q6, z8, go_sem, *])
     all_goals first | contradiction | omega | skip
     (refine ⟨[_], [], [], ⟨rfl, trivial⟩, ?_⟩; simp only [go_sem, *])
    ·have hP : (s.drop (i + 1)).all y9 = R := by simpa using hP
     repeat' (first | (refine Qr rfl ?_; try intro _ hK; try simp only [go_sem, *]) | (refine Qi rfl rfl rfl rfl ?_ ?_ <;> (intro hb; (try intro _ hK); have hc := hb; try simp only [go_sem] at hc; simp only [go_sem, *])) | refine Qh rfl ?_ | (refine Qc rfl rfl ?_ ?_ <;> (intro hb; have hc := hb; try simp only [go_sem] at hc)) | refine q8 rfl ?_ | (refine y5 (sl) ?_; simp only [go_sem, *]) | ((with_reducible apply And.intro); focus omega) | (refine q7 hK ?_; clear hK; simp only [go_sem, *]) | simp only [q6, z8, go_sem, *])
     all_goals first | contradiction | omega | skip
     exact f8 (i' := i + 1) [] [] (by exact hP)
   ·have hii : ¬ (i : Int) < (s.length : Int) := by omega
    rw [List.drop_of_length_le (by omega)] at hP
    have hP : true = R := hP
    subst hP
    repeat' (first | (refine Qr rfl ?_; try intro _ hK; try simp only [go_sem, *]) | (refine Qi rfl rfl rfl rfl ?_ ?_ <;> (intro hb; (try intro _ hK); have hc := hb; try simp only [go_sem] at hc; simp only [go_sem, *])) | refine Qh rfl ?_ | (refine Qc rfl rfl ?_ ?_ <;> (intro hb; have hc := hb; try simp only [go_sem] at hc)) | refine q8 rfl ?_ | ((with_reducible apply And.intro); focus omega) | (refine q7 hK ?_; clear hK; simp only [go_sem, *]) | simp only [q6, z8, go_sem, *])
    all_goals first | contradiction | omega | skip
    (refine ⟨[_], [], [], ⟨rfl, trivial⟩, ?_⟩; simp only [go_sem, *])
  ·have q2i : (s.length : Int) > (hi : Int) := by omega
   rw [decide_eq_false q2, Bool.false_and]
   refine q9 func131 rfl (fun E hE => ?_); simp only [go_sem, ntmps131]
   repeat' (first | (refine Qr rfl ?_; try intro _ hK; try simp only [go_sem, *]) | (refine Qi rfl rfl rfl rfl ?_ ?_ <;> (intro hb; (try intro _ hK); have hc := hb; try simp only [go_sem] at hc; simp only [go_sem, *])) | refine Qh rfl ?_ | (refine Qc rfl rfl ?_ ?_ <;> (intro hb; have hc := hb; try simp only [go_sem] at hc)) | refine q8 rfl ?_ | ((with_reducible apply And.intro); focus omega) | (refine q7 hK ?_; clear hK; simp only [go_sem, *]) | simp only [q6, z8, go_sem, *])
   all_goals first | contradiction | omega | skip
   (refine ⟨[_], [], [], ⟨rfl, trivial⟩, ?_⟩; simp only [go_sem, *])
 ·have q1i : (s.length : Int) < (lo : Int) := by omega
  rw [decide_eq_false q1, Bool.false_and]
  refine q9 func131 rfl (fun E hE => ?_); simp only [go_sem, ntmps131]
  repeat' (first | (refine Qr rfl ?_; try intro _ hK; try simp only [go_sem, *]) | (refine Qi rfl rfl rfl rfl ?_ ?_ <;> (intro hb; (try intro _ hK); have hc := hb; try simp only [go_sem] at hc; simp only [go_sem, *])) | refine Qh rfl ?_ | (refine Qc rfl rfl ?_ ?_ <;> (intro hb; have hc := hb; try simp only [go_sem] at hc)) | refine q8 rfl ?_ | ((with_reducible apply And.intro); focus omega) | (refine q7 hK ?_; clear hK; simp only [go_sem, *]) | simp only [q6, z8, go_sem, *])
  all_goals first | contradiction | omega | skip
  (refine ⟨[_], [], [], ⟨rfl, trivial⟩, ?_⟩; simp only [go_sem, *])
theorem zOc (l : List Rule) (hl : l.length ≤ 4294967296) (hr : ∀ r, r ∈ l → r.src.length ≤ 4294967296 ∧ r.dst.length ≤ 4294967296) : zMf prog 99 [w6 l] [] (iV (o5 l)) [] := by
 unfold o5
 by_cases q : 4 < l.length
 ·rw [if_pos q]
  have qi : (l.length : Int) > 4 := by omega
  refine q9 func99 rfl (fun E hE => ?_); simp only [go_sem, ntmps99]
  repeat' (first | (refine Qr rfl ?_; try intro _ hK; try simp only [go_sem, *]) | (refine Qi rfl rfl rfl rfl ?_ ?_ <;> (intro hb; (try intro _ hK); have hc := hb; try simp only [go_sem] at hc; simp only [go_sem, *])) | refine Qh rfl ?_ | refine Qd rfl (by kernel_rfl) ?_ | (refine Qc rfl rfl ?_ ?_ <;> (intro hb; have hc := hb; try simp only [go_sem] at hc)) | refine q8 rfl ?_ | (refine Qb ?_ ?_; focus kernel_rfl) | ((with_reducible apply And.intro); focus omega) | (refine q7 hK ?_; clear hK; simp only [go_sem, *]) | simp only [q6, z8, go_sem, *])
  all_goals first | contradiction | omega | skip
  (refine ⟨[_], [], [], ⟨rfl, trivial⟩, ?_⟩; simp only [go_sem, *])
 ·rw [if_neg q]
  have qi : ¬ (l.length : Int) > 4 := by omega
  obtain ⟨R, hR⟩ : ∃ R, l.all Rule.ok = R := ⟨_, rfl⟩
  rw [hR]
  have h0 : (l.drop 0).all Rule.ok = R := hR
  clear hR
  refine q9 func99 rfl (fun E hE => ?_); simp only [go_sem, ntmps99]
  repeat' (first | (refine Qr rfl ?_; try intro _ hK; try simp only [go_sem, *]) | (refine Qi rfl rfl rfl rfl ?_ ?_ <;> (intro hb; (try intro _ hK); have hc := hb; try simp only [go_sem] at hc; simp only [go_sem, *])) | refine Qh rfl ?_ | refine Qd rfl (by kernel_rfl) ?_ | (refine Qc rfl rfl ?_ ?_ <;> (intro hb; have hc := hb; try simp only [go_sem] at hc)) | refine q8 rfl ?_ | (refine Qb ?_ ?_; focus kernel_rfl) | ((with_reducible apply And.intro); focus omega) | (refine q7 hK ?_; clear hK; simp only [go_sem, *]) | simp only [q6, z8, go_sem, *])
  all_goals first | contradiction | omega | skip
  refine o9 rfl (l.length) (fun i => (l.drop i).all Rule.ok = R) 42 (fun i => [(3, iV i), (0, w6 l)]) (fun i => []) [] [] (by exact h0) ?_; intro i hi hP
  clear h0
  by_cases hi2 : i < l.length
  ·have hii : (i : Int) < (l.length : Int) := by omega
   have hwi : IntKind.i64.wrap ((i : Int) + 1) = ((i + 1 : Nat) : Int) := r7 (by omega)
   have hrl := hr _ (j9 hi2)
   have s1 := zO9 (l.getD i default).src 1 2 hrl.1
   have s2 := zO9 (l.getD i default).dst 0 2 hrl.2
   rw [zHK hi2, zHH] at hP
   generalize w5 (l.getD i default).src 1 2 = b1 at *
   generalize w5 (l.getD i default).dst 0 2 = b2 at *
   generalize hb3 : ((l.getD i default).src == (l.getD i default).dst) = b3 at *
   clear hrl hr
   cases b1 with
   | false =>
    have hP : false = R := by simpa using hP
    subst hP
    clear s2
    repeat' (first | (refine Qr rfl ?_; try intro _ hK; try simp only [go_sem, *]) | (refine Qi rfl rfl rfl rfl ?_ ?_ <;> (intro hb; (try intro _ hK); have hc := hb; try simp only [go_sem] at hc; simp only [go_sem, *])) | refine Qh rfl ?_ | refine Qd rfl (by kernel_rfl) ?_ | (refine Qc rfl rfl ?_ ?_ <;> (intro hb; have hc := hb; try simp only [go_sem] at hc)) | refine q8 rfl ?_ | (refine Qb ?_ ?_; focus kernel_rfl) | (refine p9 (s1) ?_ ?_; (focus (simp only [go_sem, *]; done)); simp only [go_sem, *]) | ((with_reducible apply And.intro); focus omega) | (refine q7 hK ?_; clear hK; simp only [go_sem, *]) | simp only [q6, z8, go_sem, *])
    all_goals try contradiction
    (refine ⟨[_], [], [], ⟨rfl, trivial⟩, ?_⟩; simp only [go_sem, *])
   | true =>
    cases b2 with
    | false =>
     have hP : false = R := by simpa using hP
     subst hP
     repeat' (first | (refine Qr rfl ?_; try intro _ hK; try simp only [go_sem, *]) | (refine Qi rfl rfl rfl rfl ?_ ?_ <;> (intro hb; (try intro _ hK); have hc := hb; try simp only [go_sem] at hc; simp only [go_sem, *])) | refine Qh rfl ?_ | refine Qd rfl (by kernel_rfl) ?_ | (refine Qc rfl rfl ?_ ?_ <;> (intro hb; have hc := hb; try simp only [go_sem] at hc)) | refine q8 rfl ?_ | (refine Qb ?_ ?_; focus kernel_rfl) | (refine p9 (s1) ?_ ?_; (focus (simp only [go_sem, *]; done)); simp only [go_sem, *]) | (refine p9 (s2) ?_ ?_; (focus (simp only [go_sem, *]; done)); simp only [go_sem, *]) | ((with_reducible apply And.intro); focus omega) | (refine q7 hK ?_; clear hK; simp only [go_sem, *]) | simp only [q6, z8, go_sem, *])
     all_goals try contradiction
     (refine ⟨[_], [], [], ⟨rfl, trivial⟩, ?_⟩; simp only [go_sem, *])
    | true =>
     cases b3 with
     | true =>
      have hP : false = R := by simpa using hP
      subst hP
      repeat' (first | (refine Qr rfl ?_; try intro _ hK; try simp only [go_sem, *]) | (refine Qi rfl rfl rfl rfl ?_ ?_ <;> (intro hb; (try intro _ hK); have hc := hb; try simp only [go_sem] at hc; simp only [go_sem, *])) | refine Qh rfl ?_ | refine Qd rfl (by kernel_rfl) ?_ | (refine Qc rfl rfl ?_ ?_ <;> (intro hb; have hc := hb; try simp only [go_sem] at hc)) | refine q8 rfl ?_ | (refine Qb ?_ ?_; focus kernel_rfl) | (refine p9 (s1) ?_ ?_; (focus (simp only [go_sem, *]; done)); simp only [go_sem, *]) | (refine p9 (s2) ?_ ?_; (focus (simp only [go_sem, *]; done)); simp only [go_sem, *]) | ((with_reducible apply And.intro); focus omega) | (refine q7 hK ?_; clear hK; simp only [go_sem, *]) | simp only [q6, z8, go_sem, *])
      all_goals try contradiction
      (refine ⟨[_], [], [], ⟨rfl, trivial⟩, ?_⟩; simp only [go_sem, *])
     | false =>
      have hP : (l.drop (i + 1)).all Rule.ok = R := by simpa using hP
      repeat' (first | (refine Qr rfl ?_; try intro _ hK; try simp only [go_sem, *]) | (refine Qi rfl rfl rfl rfl ?_ ?_ <;> (intro hb; (try intro _ hK); have hc := hb; try simp only [go_sem] at hc; simp only [go_sem, *])) | refine Qh rfl ?_ | refine Qd rfl (by kernel_rfl) ?_ | (refine Qc rfl rfl ?_ ?_ <;> (intro hb; have hc := hb; try simp only [go_sem] at hc)) | refine q8 rfl ?_ | (refine Qb ?_ ?_; focus kernel_rfl) | (refine p9 (s1) ?_ ?_; (focus (simp only [go_sem, *]; done)); simp only [go_sem, *]) | (refine p9 (s2) ?_ ?_; (focus (simp only [go_sem, *]; done)); simp only [go_sem, *]) | ((with_reducible apply And.intro); focus omega) | (refine q7 hK ?_; clear hK; simp only [go_sem, *]) | simp only [q6, z8, go_sem, *])
      all_goals try contradiction
      exact f8 (i' := i + 1) [] [] (by exact hP)
  ·have hii : ¬ (i : Int) < (l.length : Int) := by omega
   rw [d7 (by omega)] at hP
   have hP : true = R := hP
   subst hP
   clear hr
   rw [if_pos rfl]
   repeat' (first | (refine Qr rfl ?_; try intro _ hK; try simp only [go_sem, *]) | (refine Qi rfl rfl rfl rfl ?_ ?_ <;> (intro hb; (try intro _ hK); have hc := hb; try simp only [go_sem] at hc; simp only [go_sem, *])) | refine Qh rfl ?_ | refine Qd rfl (by kernel_rfl) ?_ | (refine Qc rfl rfl ?_ ?_ <;> (intro hb; have hc := hb; try simp only [go_sem] at hc)) | refine q8 rfl ?_ | (refine Qb ?_ ?_; focus kernel_rfl) | ((with_reducible apply And.intro); focus omega) | (refine q7 hK ?_; clear hK; simp only [go_sem, *]) | simp only [q6, z8, go_sem, *])
   all_goals first | contradiction | omega | skip
   (refine ⟨[_], [], [], ⟨rfl, trivial⟩, ?_⟩; simp only [go_sem, *])
theorem zP7 (r : List Rule) (a b : Str) (hl : r.length ≤ 4294967296) (hr : ∀ x, x ∈ r → x.src.length ≤ 4294967296 ∧ x.dst.length ≤ 4294967296) (ha : a.length ≤ 4294967296) (hb : b.length ≤ 4294967296) :
  zMf prog 97 [w6 r, sV a, sV b] [] (iV (c7 r a b)) [] := by
 have s1 := zOc r hl hr
 have s2 := zA4 a ha
 have s3 := zA4 b hb
 unfold c7
 clear hr
 generalize o5 r = e1 at *
 generalize x6 a = e2 at *
 generalize x6 b = e3 at *
 by_cases q1 : e1 = 0
 ·subst q1
  rw [if_pos rfl]
  by_cases q2 : e2 = 0
  ·subst q2
   rw [if_pos rfl]
   refine q9 func97 rfl (fun E hE => ?_); simp only [go_sem, ntmps97]
   repeat' (first | (refine Qr rfl ?_; try intro _ hK; try simp only [go_sem, *]) | refine Qh rfl ?_ | (refine Qc rfl rfl ?_ ?_ <;> (intro hb; have hc := hb; try simp only [go_sem] at hc)) | refine q8 rfl ?_ | (refine y5 (s1) ?_; simp only [go_sem, *]) | (refine p9 (s2) ?_ ?_; (focus (simp only [go_sem, *]; done)); simp only [go_sem, *]) | (refine p9 (s3) ?_ ?_; (focus (simp only [go_sem, *]; done)); simp only [go_sem, *]) | ((with_reducible apply And.intro); focus omega) | (refine q7 hK ?_; clear hK; simp only [go_sem, *]) | simp only [q6, z8, go_sem, *])
   all_goals try contradiction
   (refine ⟨[_], [], [], ⟨rfl, trivial⟩, ?_⟩; simp only [go_sem, *])
  ·rw [if_neg q2]
   refine q9 func97 rfl (fun E hE => ?_); simp only [go_sem, ntmps97]
   repeat' (first | (refine Qr rfl ?_; try intro _ hK; try simp only [go_sem, *]) | refine Qh rfl ?_ | (refine Qc rfl rfl ?_ ?_ <;> (intro hb; have hc := hb; try simp only [go_sem] at hc)) | refine q8 rfl ?_ | (refine y5 (s1) ?_; simp only [go_sem, *]) | (refine p9 (s2) ?_ ?_; (focus (simp only [go_sem, *]; done)); simp only [go_sem, *]) | ((with_reducible apply And.intro); focus omega) | (refine q7 hK ?_; clear hK; simp only [go_sem, *]) | simp only [q6, z8, go_sem, *])
   all_goals try contradiction
   (refine ⟨[_], [], [], ⟨rfl, trivial⟩, ?_⟩; simp only [go_sem, *])
 ·rw [if_neg q1]
  refine q9 func97 rfl (fun E hE => ?_); simp only [go_sem, ntmps97]
  repeat' (first | (refine Qr rfl ?_; try intro _ hK; try simp only [go_sem, *]) | refine Qh rfl ?_ | (refine Qc rfl rfl ?_ ?_ <;> (intro hb; have hc := hb; try simp only [go_sem] at hc)) | refine q8 rfl ?_ | (refine y5 (s1) ?_; simp only [go_sem, *]) | ((with_reducible apply And.intro); focus omega) | (refine q7 hK ?_; clear hK; simp only [go_sem, *]) | simp only [q6, z8, go_sem, *])
  all_goals try contradiction
  (refine ⟨[_], [], [], ⟨rfl, trivial⟩, ?_⟩; simp only [go_sem, *])
end Go.Abs

namespace Go.Abs
open Go Go.Proofs Tryz
theorem zPG {p : UInt8 → Bool} {s : Str} (h : s.all p = true) (n : Nat) : (s.take n).all p = true := List.all_eq_true.2 fun x hx => List.all_eq_true.1 h x (List.mem_of_mem_take hx)
theorem zPF {p : UInt8 → Bool} {s : Str} (h : s.all p = true) (n : Nat) : (s.drop n).all p = true := List.all_eq_true.2 fun x hx => List.all_eq_true.1 h x (List.mem_of_mem_drop hx)
theorem zPf {a k : Str} : a.isPrefixOf k = true ↔ a.length ≤ k.length ∧ k.take a.length = a := by
 constructor
 ·intro h
  have h1 := zC7 h
  have h2 := zG1 h
  refine ⟨h1, ?_⟩
  rw [h2]; simp
 ·rintro ⟨h1, h2⟩
  rw [List.isPrefixOf_iff_prefix, ← h2]
  exact List.take_prefix _ _
theorem zOy {k a b : Str} (hk : k.all y9 = true) (hb : b.all y9 = true) : i3 k a b = zN8 k a b 0 := by
 have key : ∀ c i, k.length + 1 - i = c → W7 k a b i = zN8 k a b i := by
  intro c
  induction c with
  | zero => intro i h; rw [zG9 (by omega), zOO (by omega)]
  | succ c ih =>
   intro i h
   rw [zHA (by omega), ih (i + 1) (by omega)]
   by_cases q : i + a.length ≤ k.length
   ·rw [zOa q]
    congr 1
    have hp : a.isPrefixOf (k.drop i) = true ↔ (k.take (i + a.length)).drop i = a := by
     rw [zPf, List.drop_take, show i + a.length - i = a.length by omega]
     exact ⟨fun h => h.2, fun h => ⟨by simp; omega, h⟩⟩
    have ht : w5 (rrT k a b i) 1 12 = true ↔ 1 ≤ (rrT k a b i).length ∧ (rrT k a b i).length ≤ 12 := by
     have ha : (rrT k a b i).all y9 = true := by
      unfold rrT
      rw [List.all_append, List.all_append, zPG hk, hb, zPF hk]; rfl
     unfold w5
     rw [ha, Bool.and_true, Bool.and_eq_true, decide_eq_true_eq, decide_eq_true_eq]
    unfold zQk
    have he : k.take i ++ b ++ k.drop (i + a.length) = rrT k a b i := rfl
    rw [he]
    clear he
    by_cases q1 : (k.take (i + a.length)).drop i = a
    ·by_cases q2 : 1 ≤ (rrT k a b i).length ∧ (rrT k a b i).length ≤ 12
     ·rw [if_pos ⟨hp.2 q1, ht.2 q2⟩, if_pos q1, if_pos q2]
     ·rw [if_neg (fun h => q2 (ht.1 h.2)), if_pos q1, if_neg q2]
    ·rw [if_neg (fun h => q1 (hp.1 h.1)), if_neg q1]
   ·rw [zOO q, zOO (by omega), if_neg]
    ·rfl
    ·intro h
     have := zC7 h.1
     simp at this; omega
 exact key _ 0 rfl
theorem zPk {r : List Rule} (h : o5 r = 0) : ∀ x, x ∈ r → x.src.all y9 = true ∧ x.dst.all y9 = true := by
 unfold o5 at h
 by_cases h4 : 4 < r.length
 ·rw [if_pos h4] at h; cases h
 ·rw [if_neg h4] at h
  by_cases ha : r.all Rule.ok = true
  ·intro x hx
   have := List.all_eq_true.1 ha x hx
   unfold Rule.ok w5 at this
   simp only [Bool.and_eq_true] at this
   exact ⟨this.1.2.2, this.2.1.2.2⟩
  ·rw [if_neg ha] at h; cases h
theorem zOo {s : Str} (hs : s.all y9 = true) : ∀ {r : List Rule}, (∀ x, x ∈ r → x.src.all y9 = true ∧ x.dst.all y9 = true) → o6 r s = zOC r s
 | [], _ => rfl
 | x :: r, h => by
  have ih := zOo hs (r := r) (fun y hy => h y (by simp [hy]))
  have hx := h x (by simp)
  show i3 s x.src x.dst ++ i3 s x.dst x.src ++ o6 r s = zN8 s x.src x.dst 0 ++ zN8 s x.dst x.src 0 ++ zOC r s
  rw [ih, zOy hs hx.2, zOy hs hx.1]
theorem zQF {r : List Rule} {s x : Str} (h : x ∈ o6 r s) : w5 x 1 12 = true := by
 obtain ⟨y, _, hm⟩ := List.mem_flatMap.1 h
 rcases List.mem_append.1 hm with hm | hm
 ·obtain ⟨_, _, _, h, _⟩ := mem_replacedN.1 hm; exact h
 ·obtain ⟨_, _, _, h, _⟩ := mem_replacedN.1 hm; exact h
theorem zOV {s : Str} {a b : Nat} (h : w5 s a b = true) : s.all y9 = true ∧ s.length ≤ b := by
 unfold w5 at h
 simp only [Bool.and_eq_true, decide_eq_true_eq] at h
 exact ⟨h.2.2, h.2.1⟩
def rcO (l : List Rule) (to : Str) : Nat → Str → Option (List Str)
 | 0, s => some [s]
 | n + 1, s => U0 l to (n + 1) s
theorem zOw {l : List Rule} {to : Str} : ∀ {n : Nat} {s : Str} {c : List Str}, U0 l to n s = some c → rcO l to n s = some c
 | 0, s, c, h => by
  rw [U0] at h
  split at h
  ·exact h
  ·cases h
 | n + 1, s, c, h => h
theorem zPR {l : List Rule} {to : Str} {n : Nat} {s : Str} {c : List Str} (h : U0 l to n s = some c) : c.length = n + 1 ∧ c.getD 0 default = s := by
 have h1 := A5 h
 have h2 := zBc h1.1
 obtain ⟨r, rfl⟩ := h1.1.head
 exact ⟨h2, rfl⟩
def zOK (n : Nat) (B : Option (List Str)) : Prop := ∀ b, B = some b → b.length = n + 2
theorem zOi (s x : Str) (B : Option (List Str)) : A0 s B x none = B := by cases B <;> rfl
theorem zPN {n : Nat} {s x : Str} {B o : Option (List Str)} (hB : zOK n B) (ho : ∀ c, o = some c → c.length = n + 1) : zOK n (A0 s B x o) := by
 cases o with
 | none => rw [zOi]; exact hB
 | some c =>
  have hc := ho c rfl
  cases B with
  | none => intro b hb; cases hb; simp [hc]
  | some b =>
   intro d hd
   have hd : (if u0 x (b.getD 1 []) = true then some (s :: c) else some b) = some d := hd
   by_cases q : u0 x (b.getD 1 []) = true
   ·rw [if_pos q] at hd
    cases hd; simp [hc]
   ·rw [if_neg q] at hd
    cases hd; exact hB b rfl
theorem zOn (s : Str) (hs : s.length ≤ 1000) : ∀ r : List Rule, (zOC r s).length ≤ 2002 * r.length
 | [] => by simp [zOC]
 | x :: r => by
  have ih := zOn s hs r
  have a := zOQ s x.src x.dst hs
  have b := zOQ s x.dst x.src hs
  have e : zOC (x :: r) s = (zN8 s x.src x.dst 0 ++ zN8 s x.dst x.src 0) ++ zOC r s := rfl
  rw [e]
  simp only [List.length_append, List.length_cons]
  omega
theorem zPa {r : List Rule} {a b : Str} (h : c7 r a b = 0) : o5 r = 0 ∧ ValidN a ∧ ValidN b := by
 unfold c7 at h
 by_cases q1 : o5 r = 0
 ·rw [if_pos q1] at h
  by_cases q2 : x6 a = 0
  ·rw [if_pos q2] at h; exact ⟨q1, checkN_zero.1 q2, checkN_zero.1 h⟩
  ·rw [if_neg q2] at h; exact absurd h q2
 ·rw [if_neg q1] at h; exact absurd h q1
end Go.Abs

namespace Go.Abs
open Go Go.Proofs Tryz
attribute [local irreducible] y6 Hold x5
theorem zO8 (r : List Rule) (hq : o5 r = 0) (t : Str) (ht : t.length ≤ 12) : ∀ (n : Nat) (s : Str), n ≤ 10 → s.all y9 = true → s.length ≤ 12 →
  zMf prog 98 [w6 r, sV s, sV t, iV n] [] (.tup [o4 (rcO r t n s), bV (U0 r t n s).isSome]) []
 | 0, s, _, hs, hl => by
  have e : (U0 r t 0 s).isSome = (s == t) := by
   rw [U0]
   by_cases q : s = t
   ·rw [if_pos q]; simp [q]
   ·rw [if_neg q]; simp [q]
  have e2 : rcO r t 0 s = some [s] := rfl
  rw [e, e2, zEM]
  clear e e2
  generalize hbb : (s == t) = b
  refine q9 func98 rfl (fun E hE => ?_); simp only [go_sem, ntmps98]
  repeat' (first | (refine Qr rfl ?_; try intro _ hK; try simp only [go_sem, *]) | (refine Qi rfl rfl rfl rfl ?_ ?_ <;> (intro hb; (try intro _ hK); have hc := hb; try simp only [go_sem] at hc; simp only [go_sem, *])) | refine Qh rfl ?_ | refine Qd rfl (by kernel_rfl) ?_ | (refine Qc rfl rfl ?_ ?_ <;> (intro hb; have hc := hb; try simp only [go_sem] at hc)) | refine q8 rfl ?_ | (refine Qb ?_ ?_; focus kernel_rfl) | ((with_reducible apply And.intro); focus omega) | (refine q7 hK ?_; clear hK; simp only [go_sem, *]) | simp only [q6, z8, go_sem, *])
  all_goals try contradiction
  refine ⟨[.own 0 1 0 1, _], [], [0], ⟨rfl, rfl, trivial⟩, ?_⟩
  simp only [go_sem, *]
 | n + 1, s, hn, hs, hl => by
  obtain ⟨h4, h5⟩ := zDH hq
  have IH := fun x => zO8 r hq t ht n x (by omega)
  have hM : o6 r s = zOC r s := zOo hs (zPk hq)
  have hin : ∀ x, x ∈ o6 r s → x.all y9 = true ∧ x.length ≤ 12 := fun x hx => zOV (zQF hx)
  have hT : U0 r t (n + 1) s = (o6 r s).foldl (fun best x => A0 s best x (U0 r t n x)) none := rfl
  have e2 : rcO r t (n + 1) s = U0 r t (n + 1) s := rfl
  have hML := zOn s (by omega) r
  have sM := zPq r s (by omega) (by omega) (fun x hx => by have := h5 x hx; omega)
  rw [hM] at hT hin
  have h0 : ((zOC r s).drop 0).foldl (fun best x => A0 s best x (U0 r t n x)) none = U0 r t (n + 1) s := hT.symm
  rw [e2]
  have hcs : ∀ x c, U0 r t n x = some c → rcO r t n x = some c ∧ c.length = n + 1 := fun x c h => ⟨zOw h, (zPR h).1⟩
  generalize zOC r s = M at *
  generalize U0 r t (n + 1) s = T at *
  have hML2 : M.length ≤ 100000 := by omega
  have hw1 : IntKind.i64.wrap (((n + 1 : Nat) : Int) - 1) = (n : Int) := by rw [wrap_i64 (by omega) (by omega)]; omega
  have hz : (((n + 1 : Nat) : Int) == 0) = false := by rw [beq_eq_false_iff_ne]; omega
  have hB0 : zOK n none := fun b h => by cases h
  clear hM hT e2 h4 h5 hML
  obtain ⟨m, hm⟩ : ∃ m, m = n + 1 := ⟨_, rfl⟩
  rw [← hm] at hw1 hz ⊢
  clear hm
  refine q9 func98 rfl (fun E hE => ?_); simp only [go_sem, ntmps98]
  repeat' (first | (refine Qr rfl ?_; try intro _ hK; try simp only [go_sem, *]) | (refine Qi rfl rfl rfl rfl ?_ ?_ <;> (intro hb; (try intro _ hK); have hc := hb; try simp only [go_sem] at hc; simp only [go_sem, *])) | refine Qh rfl ?_ | refine Qd rfl (by kernel_rfl) ?_ | (refine Qc rfl rfl ?_ ?_ <;> (intro hb; have hc := hb; try simp only [go_sem] at hc)) | refine q8 rfl ?_ | (refine Qb ?_ ?_; focus kernel_rfl) | (refine j8 (sM) ?_; simp only [go_sem, *]) | ((with_reducible apply And.intro); focus omega) | (refine q7 hK ?_; clear hK; simp only [go_sem, *]) | simp only [q6, z8, go_sem, *])
  all_goals try contradiction
  refine a7 rfl (M.length) (fun i (B : Option (List Str)) => (M.drop i).foldl (fun best x => A0 s best x (U0 r t n x)) B = T ∧ zOK n B) 65 (fun i B => [(13, iV i), (12, .own 0 1 0 M.length), (11, bV B.isSome), (10, o4 B), (0, w6 r), (1, sV s), (2, sV t), (3, iV m)]) (fun i B => [.row 1 (M.map sV)]) [some 0] [] (none) (by exact ⟨h0, hB0⟩) ?_; intro i B hi hP
  clear h0 sM hB0
  obtain ⟨hP, hB⟩ := hP
  by_cases hi2 : i < M.length
  ·have hii : (i : Int) < (M.length : Int) := by omega
   have hwi : IntKind.i64.wrap ((i : Int) + 1) = ((i + 1 : Nat) : Int) := r7 (by omega)
   have hx := hin _ (j9 hi2)
   have s1 := IH _ hx.1 hx.2
   have hc := hcs (M.getD i default)
   rw [j4 hi2, List.foldl_cons] at hP
   have hB2 : zOK n (A0 s B (M.getD i default) (U0 r t n (M.getD i default))) := zPN hB (fun c h => (hc c h).2)
   generalize hxe : M.getD i default = x at *
   generalize hoe : U0 r t n x = o at *
   generalize rcO r t n x = V at *
   clear IH hcs hin hx
   cases o with
   | none =>
    rw [zOi] at hP hB2
    clear hc hB
    simp only [Option.isSome_none] at s1
    repeat' (first | (refine Qr rfl ?_; try intro _ hK; try simp only [go_sem, *]) | (refine Qi rfl rfl rfl rfl ?_ ?_ <;> (intro hb; (try intro _ hK); have hc := hb; try simp only [go_sem] at hc; simp only [go_sem, *])) | refine Qh rfl ?_ | refine Qd rfl (by kernel_rfl) ?_ | (refine Qc rfl rfl ?_ ?_ <;> (intro hb; have hc := hb; try simp only [go_sem] at hc)) | refine q8 rfl ?_ | (refine Qb ?_ ?_; focus kernel_rfl) | (refine y5 (s1) ?_; simp only [go_sem, *]) | ((with_reducible apply And.intro); focus omega) | (refine q7 hK ?_; clear hK; simp only [go_sem, *]) | simp only [q6, z8, go_sem, *])
    all_goals try contradiction
    exact n0 (i' := i + 1) [some 0] [] (B) (by exact ⟨hP, hB2⟩)
   | some c =>
    obtain ⟨rfl, hcl⟩ := hc c rfl
    clear hc
    simp only [Option.isSome_some, zEM] at s1
    have hta : List.take (1 + c.length) ([sV s] ++ List.map sV c) = sV s :: List.map sV c := List.take_of_length_le (by simp; omega)
    have hta2 : List.take (1 + c.length) (sV s :: List.map sV c) = sV s :: List.map sV c := List.take_of_length_le (by simp; omega)
    have hta3 : 1 + c.length ≤ c.length + 1 := by omega
    have hcl2 : c.length ≤ 1000 := by omega
    clear hcl
    cases B with
    | none =>
     have hP2 : (M.drop (i + 1)).foldl (fun best x => A0 s best x (U0 r t n x)) (some (s :: c)) = T := hP
     have hB3 : zOK n (some (s :: c)) := hB2
     clear hP hB2 hB
     simp only [Option.isSome_none, zJv]
     repeat' (first | (refine Qr rfl ?_; try intro _ hK; try simp only [go_sem, *]) | (refine Qi rfl rfl rfl rfl ?_ ?_ <;> (intro hb; (try intro _ hK); have hc := hb; try simp only [go_sem] at hc; simp only [go_sem, *])) | refine Qh rfl ?_ | refine Qd rfl (by kernel_rfl) ?_ | (refine Qc rfl rfl ?_ ?_ <;> (intro hb; have hc := hb; try simp only [go_sem] at hc)) | refine q8 rfl ?_ | (with_reducible (show (∀ _ : AV, _ → _) ∧ _); refine And.intro ?_ ?_; (focus (intro y hy; first | (obtain ⟨z, _, rfl⟩ := List.mem_map.1 (hy); simp [go_sem]; done) | (obtain ⟨z, _, rfl⟩ := List.mem_map.1 (List.mem_of_mem_take hy); simp [go_sem]; done) | (obtain ⟨z, _, rfl⟩ := List.mem_map.1 (List.mem_of_mem_drop hy); simp [go_sem]; done) | (obtain ⟨z, _, rfl⟩ := List.mem_map.1 (List.mem_of_mem_drop (List.mem_of_mem_take hy)); simp [go_sem]; done)))) | (refine Qb ?_ ?_; focus kernel_rfl) | (refine y5 (s1) ?_; simp only [go_sem, *]) | ((with_reducible apply And.intro); focus omega) | (refine q7 hK ?_; clear hK; simp only [go_sem, *]) | simp only [q6, z8, go_sem, *])
     all_goals try contradiction
     exact n0 (i' := i + 1) [some 0] [2] (some (s :: c)) (by exact ⟨hP2, hB3⟩)
    | some b =>
     have hbl : 1 < b.length := by have := hB b rfl; omega
     have hP1 : (M.drop (i + 1)).foldl (fun best x => A0 s best x (U0 r t n x)) (if u0 x (b.getD 1 default) = true then some (s :: c) else some b) = T := hP
     have hB3 : zOK n (if u0 x (b.getD 1 default) = true then some (s :: c) else some b) := hB2
     clear hP hB2 hB
     simp only [Option.isSome_some, zEM]
     cases hlt : u0 x (b.getD 1 default) with
     | true =>
      rw [hlt, if_pos rfl] at hP1 hB3
      repeat' (first | (refine Qr rfl ?_; try intro _ hK; try simp only [go_sem, *]) | (refine Qi rfl rfl rfl rfl ?_ ?_ <;> (intro hb; (try intro _ hK); have hc := hb; try simp only [go_sem] at hc; simp only [go_sem, *])) | refine Qh rfl ?_ | refine Qd rfl (by kernel_rfl) ?_ | (refine Qc rfl rfl ?_ ?_ <;> (intro hb; have hc := hb; try simp only [go_sem] at hc)) | refine q8 rfl ?_ | (with_reducible (show (∀ _ : AV, _ → _) ∧ _); refine And.intro ?_ ?_; (focus (intro y hy; first | (obtain ⟨z, _, rfl⟩ := List.mem_map.1 (hy); simp [go_sem]; done) | (obtain ⟨z, _, rfl⟩ := List.mem_map.1 (List.mem_of_mem_take hy); simp [go_sem]; done) | (obtain ⟨z, _, rfl⟩ := List.mem_map.1 (List.mem_of_mem_drop hy); simp [go_sem]; done) | (obtain ⟨z, _, rfl⟩ := List.mem_map.1 (List.mem_of_mem_drop (List.mem_of_mem_take hy)); simp [go_sem]; done)))) | (refine Qb ?_ ?_; focus kernel_rfl) | (refine y5 (s1) ?_; simp only [go_sem, *]) | ((with_reducible apply And.intro); focus omega) | (refine q7 hK ?_; clear hK; simp only [go_sem, *]) | simp only [q6, z8, go_sem, *])
      all_goals try contradiction
      exact n0 (i' := i + 1) [some 0] [2] (some (s :: c)) (by exact ⟨hP1, hB3⟩)
     | false =>
      rw [hlt, if_neg (by decide)] at hP1 hB3
      repeat' (first | (refine Qr rfl ?_; try intro _ hK; try simp only [go_sem, *]) | (refine Qi rfl rfl rfl rfl ?_ ?_ <;> (intro hb; (try intro _ hK); have hc := hb; try simp only [go_sem] at hc; simp only [go_sem, *])) | refine Qh rfl ?_ | refine Qd rfl (by kernel_rfl) ?_ | (refine Qc rfl rfl ?_ ?_ <;> (intro hb; have hc := hb; try simp only [go_sem] at hc)) | refine q8 rfl ?_ | (with_reducible (show (∀ _ : AV, _ → _) ∧ _); refine And.intro ?_ ?_; (focus (intro y hy; first | (obtain ⟨z, _, rfl⟩ := List.mem_map.1 (hy); simp [go_sem]; done) | (obtain ⟨z, _, rfl⟩ := List.mem_map.1 (List.mem_of_mem_take hy); simp [go_sem]; done) | (obtain ⟨z, _, rfl⟩ := List.mem_map.1 (List.mem_of_mem_drop hy); simp [go_sem]; done) | (obtain ⟨z, _, rfl⟩ := List.mem_map.1 (List.mem_of_mem_drop (List.mem_of_mem_take hy)); simp [go_sem]; done)))) | (refine Qb ?_ ?_; focus kernel_rfl) | (refine y5 (s1) ?_; simp only [go_sem, *]) | ((with_reducible apply And.intro); focus omega) | (refine q7 hK ?_; clear hK; simp only [go_sem, *]) | simp only [q6, z8, go_sem, *])
      all_goals try contradiction
      exact n0 (i' := i + 1) [some 0] [] (some b) (by exact ⟨hP1, hB3⟩)
  ·have hii : ¬ (i : Int) < (M.length : Int) := by omega
   rw [d7 (by omega)] at hP
   have hP : B = T := hP
   subst hP
   clear IH hcs hin hB
   repeat' (first | (refine Qr rfl ?_; try intro _ hK; try simp only [go_sem, *]) | (refine Qi rfl rfl rfl rfl ?_ ?_ <;> (intro hb; (try intro _ hK); have hc := hb; try simp only [go_sem] at hc; simp only [go_sem, *])) | refine Qh rfl ?_ | refine Qd rfl (by kernel_rfl) ?_ | (refine Qc rfl rfl ?_ ?_ <;> (intro hb; have hc := hb; try simp only [go_sem] at hc)) | refine q8 rfl ?_ | (refine Qb ?_ ?_; focus kernel_rfl) | ((with_reducible apply And.intro); focus omega) | (refine q7 hK ?_; clear hK; simp only [go_sem, *]) | simp only [q6, z8, go_sem, *])
   all_goals try contradiction
   (refine ⟨[_, _], [], [], ⟨rfl, rfl, trivial⟩, ?_⟩; simp only [go_sem, *])
theorem zO1 (r : List Rule) (a b : Str) (hl : r.length ≤ 4294967296) (hr : ∀ x, x ∈ r → x.src.length ≤ 4294967296 ∧ x.dst.length ≤ 4294967296) (ha : a.length ≤ 4294967296) (hb : b.length ≤ 4294967296) :
  zMf prog 52 [w6 r, sV a, sV b] [] (.tup [o4 (X8 r a b), iV (o7 r a b)]) [] := by
 have s1 := zP7 r a b hl hr ha hb
 by_cases q : c7 r a b = 0
 ·obtain ⟨q1, va, vb⟩ := zPa q
  have ka := zDb a va
  have kb := zDb b vb
  have hka := zOV (zAW va)
  have hkb := zOV (zAW vb)
  have s2 := fun n (hn : n ≤ 10) => zO8 r q1 (zMh b) hkb.2 n (zMh a) hn hka.1 hka.2
  have hcs := fun n c (h : U0 r (zMh b) n (zMh a) = some c) => zOw h
  have hK : S8 (zMh a) r (zMh b) = r8 (fun n => U0 r (zMh b) n (zMh a)) [0, 1, 2] := zE8 (fun n _ => zEd r (zMh b) n (zMh a))
  rw [zEa q, zBb q, hK]
  rw [q] at s1
  obtain ⟨T, hT⟩ : ∃ T, r8 (fun n => U0 r (zMh b) n (zMh a)) [0, 1, 2] = T := ⟨_, rfl⟩
  rw [hT]
  have h0 : r8 (fun n => U0 r (zMh b) n (zMh a)) (List.range' 0 (3 - 0)) = T := hT
  generalize zMh a = x at *
  generalize zMh b = y at *
  clear hT hK q q1 va vb hka hkb hl hr
  refine q9 func52 rfl (fun E hE => ?_); simp only [go_sem, ntmps52]
  repeat' (first | (refine Qr rfl ?_; try intro _ hK; try simp only [go_sem, *]) | refine Qh rfl ?_ | (refine Qc rfl rfl ?_ ?_ <;> (intro hb; have hc := hb; try simp only [go_sem] at hc)) | refine q8 rfl ?_ | (refine y5 (s1) ?_; simp only [go_sem, *]) | ((with_reducible apply And.intro); focus omega) | (refine q7 hK ?_; clear hK; simp only [go_sem, *]) | simp only [q6, z8, go_sem, *])
  all_goals try contradiction
  refine o9 rfl (3) (fun i => r8 (fun n => U0 r y n x) (List.range' i (3 - i)) = T) 35 (fun i => [(9, iV i), (0, w6 r), (1, sV a), (2, sV b)]) (fun i => []) [] [] (by exact h0) ?_; intro i hi hP
  clear h0 s1
  by_cases hi : i < 3
  ·rw [zEe hi] at hP
   have s3 := s2 i (by omega)
   have hi3 : (i : Int) ≤ 2 := by omega
   have hwi : IntKind.i64.wrap ((i : Int) + 1) = ((i + 1 : Nat) : Int) := r7 (by omega)
   have hc2 := hcs i
   generalize rcO r y i x = V at *
   clear s2 hcs
   cases hc : U0 r y i x with
   | none =>
    rw [hc] at hP s3
    have hP : r8 (fun n => U0 r y n x) (List.range' (i + 1) (3 - (i + 1))) = T := hP
    simp only [Option.isSome_none] at s3
    clear hc hc2
    repeat' (first | (refine Qr rfl ?_; try intro _ hK; try simp only [go_sem, *]) | refine Qh rfl ?_ | (refine Qc rfl rfl ?_ ?_ <;> (intro hb; have hc := hb; try simp only [go_sem] at hc)) | refine q8 rfl ?_ | (refine p9 (ka) ?_ ?_; (focus (simp only [go_sem, *]; done)); simp only [go_sem, *]) | (refine p9 (kb) ?_ ?_; (focus (simp only [go_sem, *]; done)); simp only [go_sem, *]) | (refine y5 (s3) ?_; simp only [go_sem, *]) | ((with_reducible apply And.intro); focus omega) | (refine q7 hK ?_; clear hK; simp only [go_sem, *]) | simp only [q6, z8, go_sem, *])
    all_goals try contradiction
    exact f8 (i' := i + 1) [] [] (by exact hP)
   | some c =>
    rw [hc] at hP s3
    have hV := hc2 c hc
    subst hV
    have hP : some c = T := hP
    subst hP
    simp only [Option.isSome_some, zEM] at s3 ⊢
    clear hc hc2
    repeat' (first | (refine Qr rfl ?_; try intro _ hK; try simp only [go_sem, *]) | refine Qh rfl ?_ | (refine Qc rfl rfl ?_ ?_ <;> (intro hb; have hc := hb; try simp only [go_sem] at hc)) | refine q8 rfl ?_ | (refine p9 (ka) ?_ ?_; (focus (simp only [go_sem, *]; done)); simp only [go_sem, *]) | (refine p9 (kb) ?_ ?_; (focus (simp only [go_sem, *]; done)); simp only [go_sem, *]) | (refine y5 (s3) ?_; simp only [go_sem, *]) | ((with_reducible apply And.intro); focus omega) | (refine q7 hK ?_; clear hK; simp only [go_sem, *]) | simp only [q6, z8, go_sem, *])
    all_goals try contradiction
    (refine ⟨[_, _], [], [], ⟨rfl, rfl, trivial⟩, ?_⟩; simp only [go_sem, *])
  ·have e : 3 - i = 0 := by omega
   rw [e] at hP
   have hP : none = T := hP
   subst hP
   have hi3 : ¬ (i : Int) ≤ 2 := by omega
   clear s2 hcs
   repeat' (first | (refine Qr rfl ?_; try intro _ hK; try simp only [go_sem, *]) | refine Qh rfl ?_ | (refine Qc rfl rfl ?_ ?_ <;> (intro hb; have hc := hb; try simp only [go_sem] at hc)) | refine q8 rfl ?_ | ((with_reducible apply And.intro); focus omega) | (refine q7 hK ?_; clear hK; simp only [go_sem, *]) | simp only [q6, z8, go_sem, *])
   all_goals try contradiction
   (refine ⟨[_, _], [], [], ⟨rfl, rfl, trivial⟩, ?_⟩; simp only [go_sem, *])
   all_goals rfl
 ·have e1 : X8 r a b = none := if_neg q
  have e2 : o7 r a b = c7 r a b := if_neg q
  rw [e1, e2]
  clear e1 e2 hl hr ha hb
  generalize c7 r a b = e at *
  refine q9 func52 rfl (fun E hE => ?_); simp only [go_sem, ntmps52]
  repeat' (first | (refine Qr rfl ?_; try intro _ hK; try simp only [go_sem, *]) | refine Qh rfl ?_ | (refine Qc rfl rfl ?_ ?_ <;> (intro hb; have hc := hb; try simp only [go_sem] at hc)) | refine q8 rfl ?_ | (refine y5 (s1) ?_; simp only [go_sem, *]) | ((with_reducible apply And.intro); focus omega) | (refine q7 hK ?_; clear hK; simp only [go_sem, *]) | simp only [q6, z8, go_sem, *])
  all_goals try contradiction
  (refine ⟨[_, _], [], [], ⟨rfl, rfl, trivial⟩, ?_⟩; simp only [go_sem, *])
theorem zOb (r : List Rule) (a b : Str) (hl : r.length ≤ 4294967296) (hr : ∀ x, x ∈ r → x.src.length ≤ 4294967296 ∧ x.dst.length ≤ 4294967296) (ha : a.length ≤ 4294967296) (hb : b.length ≤ 4294967296) :
  zMf prog 50 [w6 r, sV a, sV b] [] (.tup [iV (X7 r a b), iV (o7 r a b)]) [] := by
 have sC := zO1 r a b hl hr ha hb
 clear hl hr
 by_cases q : o7 r a b = 0
 ·obtain ⟨c, h1, _, h2, h3, h4⟩ := zEb q
  rw [h4, q]
  rw [h1, q] at sC
  have hw : IntKind.i64.wrap ((c.length : Int) - 1) = (c.length : Int) - 1 := wrap_i64 (by omega) (by omega)
  clear q h1 h4
  refine q9 func50 rfl (fun E hE => ?_); simp only [go_sem, ntmps50]
  repeat' (first | (refine Qr rfl ?_; try intro _ hK; try simp only [go_sem, *]) | refine Qh rfl ?_ | (refine Qc rfl rfl ?_ ?_ <;> (intro hb; have hc := hb; try simp only [go_sem] at hc)) | refine q8 rfl ?_ | (refine y5 (sC) ?_; simp only [go_sem, *]) | ((with_reducible apply And.intro); focus omega) | (refine q7 hK ?_; clear hK; simp only [go_sem, *]) | simp only [q6, z8, go_sem, *])
  all_goals try contradiction
  (refine ⟨[_, _], [], [], ⟨rfl, rfl, trivial⟩, ?_⟩; simp only [go_sem, *])
 ·have e : X7 r a b = 0 := by unfold X7; rw [if_neg q]
  rw [e]
  clear e
  generalize X8 r a b = o at *
  generalize o7 r a b = e at *
  refine q9 func50 rfl (fun E hE => ?_); simp only [go_sem, ntmps50]
  repeat' (first | (refine Qr rfl ?_; try intro _ hK; try simp only [go_sem, *]) | refine Qh rfl ?_ | (refine Qc rfl rfl ?_ ?_ <;> (intro hb; have hc := hb; try simp only [go_sem] at hc)) | refine q8 rfl ?_ | (refine y5 (sC) ?_; simp only [go_sem, *]) | ((with_reducible apply And.intro); focus omega) | (refine q7 hK ?_; clear hK; simp only [go_sem, *]) | simp only [q6, z8, go_sem, *])
  all_goals try contradiction
  (refine ⟨[_, _], [], [], ⟨rfl, rfl, trivial⟩, ?_⟩; simp only [go_sem, *])
theorem zP2 (r : List Rule) (a b : Str) (hl : r.length ≤ 4294967296) (hr : ∀ x, x ∈ r → x.src.length ≤ 4294967296 ∧ x.dst.length ≤ 4294967296) (ha : a.length ≤ 4294967296) (hb : b.length ≤ 4294967296) :
  zMf prog 51 [w6 r, sV a, sV b] [] (.tup [iV (zDv r a b), iV (zDu r a b)]) [] := by
 have sU := zOb r a b hl hr ha hb
 clear hl hr
 unfold zDv zDu
 generalize X7 r a b = n at *
 generalize o7 r a b = e at *
 refine q9 func51 rfl (fun E hE => ?_); simp only [go_sem, ntmps51]
 repeat' (first | (refine Qr rfl ?_; try intro _ hK; try simp only [go_sem, *]) | refine Qh rfl ?_ | (refine Qc rfl rfl ?_ ?_ <;> (intro hb; have hc := hb; try simp only [go_sem] at hc)) | refine q8 rfl ?_ | (refine y5 (sU) ?_; simp only [go_sem, *]) | ((with_reducible apply And.intro); focus omega) | (refine q7 hK ?_; clear hK; simp only [go_sem, *]) | simp only [q6, z8, go_sem, *])
 all_goals (refine ⟨[_, _], [], [], ⟨rfl, rfl, trivial⟩, ?_⟩; simp only [go_sem, *])
 all_goals simp_all
end Go.Abs

namespace Go.Abs
open Go Go.Proofs Tryz
attribute [local irreducible] y6 Hold x5
theorem zO3 (r : List Rule) (s : Str) (l : List Str) (q : H2 r s l = 0) :
    zMf prog 53 [w6 r, sV s, y8 l] [] (.tup [.own 0 1 0 (M1 r s l).length, iV 0]) [.row 1 ((M1 r s l).map iV)] := by
  obtain ⟨q1, q2, q3⟩ : o5 r = 0 ∧ x6 s = 0 ∧ v8 l = 0 := by
    unfold H2 at q
    by_cases a : o5 r = 0
    · rw [if_pos a] at q
      by_cases b : x6 s = 0
      · rw [if_pos b] at q; exact ⟨a, b, q⟩
      · rw [if_neg b] at q; exact absurd q b
    · rw [if_neg a] at q; exact absurd q a
  obtain ⟨h4, h5⟩ := zDH q1
  have h6 := E6 q3
  have hv := E7 q3
  have vs := (checkN_zero.1 q2).len
  have s1 := zOc r (by omega) (fun x hx => by have := h5 x hx; omega)
  have s2 := zA4 s (by omega)
  have s3 := zMT l (by omega) (fun x hx => by have := (hv x hx).len; omega)
  have s4 := fun i (hi : i < l.length) => zOb r s (l.getD i default) (by omega) (fun x hx => by have := h5 x hx; omega) (by omega) (by have := (hv _ (j9 hi)).len; omega)
  rw [q1] at s1
  rw [q2] at s2
  rw [q3] at s3
  have h0 : [] ++ c0 r s l 0 = M1 r s l := zGk r s l
  generalize M1 r s l = T at *
  clear q q1 q2 q3 h4 h5 hv vs
  refine q9 func53 rfl (fun E hE => ?_); simp only [go_sem, ntmps53]
  repeat' (first | (refine Qr rfl ?_; try intro _ hK; try simp only [go_sem, *]) | (refine Qi rfl rfl rfl rfl ?_ ?_ <;> (intro hb; (try intro _ hK); have hc := hb; try simp only [go_sem] at hc; simp only [go_sem, *])) | refine Qh rfl ?_ | (refine Qc rfl rfl ?_ ?_ <;> (intro hb; have hc := hb; try simp only [go_sem] at hc)) | refine q8 rfl ?_ | ((first | refine y5 (s1) ?_ | refine y5 (s2) ?_ | refine y5 (s3) ?_); simp only [go_sem, *]) | ((with_reducible apply And.intro); focus omega) | (refine q7 hK ?_; clear hK; simp only [go_sem, *]) | simp only [q6, z8, go_sem, *])
  all_goals try contradiction
  refine a7 rfl (3) (fun m (xs : List Int) => xs ++ c0 r s l m = T ∧ xs.length ≤ 6 * m) 63 (fun m xs => [(12, iV m), (11, .own 0 1 0 xs.length), (0, w6 r), (1, sV s), (2, y8 l)]) (fun m xs => [.row 1 (xs.map iV)]) [none] [] ([]) (by exact ⟨h0, by simp⟩) ?_; intro m xs hm hP
  clear h0 s1 s2 s3
  obtain ⟨hP, hx⟩ := hP
  have hw : IntKind.i64.wrap ((m : Int) + 1) = ((m + 1 : Nat) : Int) := r7 (by omega)
  by_cases hm : m < 3
  · have hm3 : (m : Int) ≤ 2 := by omega
    rw [zGj hm] at hP
    repeat' (first | (refine Qr rfl ?_; try intro _ hK; try simp only [go_sem, *]) | (refine Qi rfl rfl rfl rfl ?_ ?_ <;> (intro hb; (try intro _ hK); have hc := hb; try simp only [go_sem] at hc; simp only [go_sem, *])) | refine Qh rfl ?_ | (refine Qc rfl rfl ?_ ?_ <;> (intro hb; have hc := hb; try simp only [go_sem] at hc)) | refine q8 rfl ?_ | ((with_reducible apply And.intro); focus omega) | (refine q7 hK ?_; clear hK; simp only [go_sem, *]) | simp only [q6, z8, go_sem, *])
    all_goals first | contradiction | omega | skip
    refine a7 rfl (l.length) (fun i (ys : List Int) => ys ++ (c5 r s l m i ++ c0 r s l (m + 1)) = T ∧ ys.length ≤ 6 * m + i) 63 (fun i ys => [(13, iV i), (12, iV m), (11, .own 0 1 0 ys.length), (0, w6 r), (1, sV s), (2, y8 l)]) (fun i ys => [.row 1 (ys.map iV)]) [some 0] [] (xs) (by exact ⟨hP, by omega⟩) ?_; intro i ys hi hQ
    clear hP hx
    obtain ⟨hQ, hy⟩ := hQ
    by_cases hi2 : i < l.length
    · rw [zGm hi2] at hQ
      have hii : (i : Int) < (l.length : Int) := by omega
      have s5 := s4 i hi2
      generalize X7 r s (l.getD i default) = u at *
      generalize o7 r s (l.getD i default) = e at *
      have hwi : IntKind.i64.wrap ((i : Int) + 1) = ((i + 1 : Nat) : Int) := r7 (by omega)
      clear s4
      by_cases qe : e = 0
      · by_cases qu : u = (m : Int)
        · rw [if_pos ⟨qe, qu⟩] at hQ
          have hQ : (ys ++ [(i : Int)]) ++ (c5 r s l m (i + 1) ++ c0 r s l (m + 1)) = T := by rw [← hQ]; simp
          subst qe qu
          repeat' (first | (refine Qr rfl ?_; try intro _ hK; try simp only [go_sem, *]) | (refine Qi rfl rfl rfl rfl ?_ ?_ <;> (intro hb; (try intro _ hK); have hc := hb; try simp only [go_sem] at hc; simp only [go_sem, *])) | refine Qh rfl ?_ | (refine Qc rfl rfl ?_ ?_ <;> (intro hb; have hc := hb; try simp only [go_sem] at hc)) | refine q8 rfl ?_ | (refine y5 (s5) ?_; simp only [go_sem, *]) | ((with_reducible apply And.intro); focus omega) | (refine q7 hK ?_; clear hK; simp only [go_sem, *]) | simp only [q6, z8, go_sem, *])
          all_goals first | contradiction | omega | skip
          exact n0 (i' := i + 1) [some 2] [] (ys ++ [(i : Int)]) (by exact ⟨hQ, by simp; omega⟩)
        · rw [if_neg (fun h => qu h.2)] at hQ
          have hQ : ys ++ (c5 r s l m (i + 1) ++ c0 r s l (m + 1)) = T := hQ
          subst qe
          repeat' (first | (refine Qr rfl ?_; try intro _ hK; try simp only [go_sem, *]) | (refine Qi rfl rfl rfl rfl ?_ ?_ <;> (intro hb; (try intro _ hK); have hc := hb; try simp only [go_sem] at hc; simp only [go_sem, *])) | refine Qh rfl ?_ | (refine Qc rfl rfl ?_ ?_ <;> (intro hb; have hc := hb; try simp only [go_sem] at hc)) | refine q8 rfl ?_ | (refine y5 (s5) ?_; simp only [go_sem, *]) | ((with_reducible apply And.intro); focus omega) | (refine q7 hK ?_; clear hK; simp only [go_sem, *]) | simp only [q6, z8, go_sem, *])
          all_goals first | contradiction | omega | skip
          exact n0 (i' := i + 1) [some 0] [] (ys) (by exact ⟨hQ, by omega⟩)
      · rw [if_neg (fun h => qe h.1)] at hQ
        have hQ : ys ++ (c5 r s l m (i + 1) ++ c0 r s l (m + 1)) = T := hQ
        repeat' (first | (refine Qr rfl ?_; try intro _ hK; try simp only [go_sem, *]) | (refine Qi rfl rfl rfl rfl ?_ ?_ <;> (intro hb; (try intro _ hK); have hc := hb; try simp only [go_sem] at hc; simp only [go_sem, *])) | refine Qh rfl ?_ | (refine Qc rfl rfl ?_ ?_ <;> (intro hb; have hc := hb; try simp only [go_sem] at hc)) | refine q8 rfl ?_ | (refine y5 (s5) ?_; simp only [go_sem, *]) | ((with_reducible apply And.intro); focus omega) | (refine q7 hK ?_; clear hK; simp only [go_sem, *]) | simp only [q6, z8, go_sem, *])
        all_goals first | contradiction | omega | skip
        exact n0 (i' := i + 1) [some 0] [] (ys) (by exact ⟨hQ, by omega⟩)
    · have hii : ¬ (i : Int) < (l.length : Int) := by omega
      rw [zGl (by omega)] at hQ
      have hQ : ys ++ c0 r s l (m + 1) = T := hQ
      clear s4
      repeat' (first | (refine Qr rfl ?_; try intro _ hK; try simp only [go_sem, *]) | (refine Qi rfl rfl rfl rfl ?_ ?_ <;> (intro hb; (try intro _ hK); have hc := hb; try simp only [go_sem] at hc; simp only [go_sem, *])) | refine Qh rfl ?_ | (refine Qc rfl rfl ?_ ?_ <;> (intro hb; have hc := hb; try simp only [go_sem] at hc)) | refine q8 rfl ?_ | ((with_reducible apply And.intro); focus omega) | (refine q7 hK ?_; clear hK; simp only [go_sem, *]) | simp only [q6, z8, go_sem, *])
      all_goals first | contradiction | omega | skip
      exact n0 (i' := m + 1) [some 0] [] (ys) (by exact ⟨hQ, by omega⟩)
  · have e : c0 r s l m = [] := by
      unfold c0
      rw [show 3 - m = 0 by omega]; rfl
    rw [e, List.append_nil] at hP
    subst hP
    have hm3 : ¬ (m : Int) ≤ 2 := by omega
    clear s4
    repeat' (first | (refine Qr rfl ?_; try intro _ hK; try simp only [go_sem, *]) | (refine Qi rfl rfl rfl rfl ?_ ?_ <;> (intro hb; (try intro _ hK); have hc := hb; try simp only [go_sem] at hc; simp only [go_sem, *])) | refine Qh rfl ?_ | (refine Qc rfl rfl ?_ ?_ <;> (intro hb; have hc := hb; try simp only [go_sem] at hc)) | refine q8 rfl ?_ | ((with_reducible apply And.intro); focus omega) | (refine q7 hK ?_; clear hK; simp only [go_sem, *]) | simp only [q6, z8, go_sem, *])
    all_goals first | contradiction | omega | skip
    refine ⟨[_, _], [some 0], [], ⟨rfl, rfl, trivial⟩, ?_⟩
    simp only [go_sem, *]
theorem zO2 (r : List Rule) (s : Str) (l : List Str) (hl : r.length ≤ 4294967296) (hr : ∀ x, x ∈ r → x.src.length ≤ 4294967296 ∧ x.dst.length ≤ 4294967296) (hs : s.length ≤ 4294967296) (hll : l.length ≤ 4294967296) (hx : ∀ x, x ∈ l → x.length ≤ 4294967296) (q : ¬ H2 r s l = 0) :
  zMf prog 53 [w6 r, sV s, y8 l] [] (.tup [.raw (.slice none 0 0), iV (H2 r s l)]) [] := by
 have s1 := zOc r hl hr
 have s2 := zA4 s hs
 have s3 := zMT l hll hx
 unfold H2 at q ⊢
 generalize o5 r = e1 at *
 generalize x6 s = e2 at *
 generalize v8 l = e3 at *
 clear hl hr hll hx hs
 by_cases a : e1 = 0
 ·by_cases b : e2 = 0
  ·rw [if_pos a, if_pos b] at q ⊢
   subst a b
   refine q9 func53 rfl (fun E hE => ?_); simp only [go_sem, ntmps53]
   repeat' (first | (refine Qr rfl ?_; try intro _ hK; try simp only [go_sem, *]) | (refine Qi rfl rfl rfl rfl ?_ ?_ <;> (intro hb; (try intro _ hK); have hc := hb; try simp only [go_sem] at hc; simp only [go_sem, *])) | refine Qh rfl ?_ | (refine Qc rfl rfl ?_ ?_ <;> (intro hb; have hc := hb; try simp only [go_sem] at hc)) | refine q8 rfl ?_ | ((first | refine y5 (s1) ?_ | refine y5 (s2) ?_ | refine y5 (s3) ?_); simp only [go_sem, *]) | ((with_reducible apply And.intro); focus omega) | (refine q7 hK ?_; clear hK; simp only [go_sem, *]) | simp only [q6, z8, go_sem, *])
   all_goals try contradiction
   (refine ⟨[_, _], [], [], ⟨rfl, rfl, trivial⟩, ?_⟩; simp only [go_sem, *])
  ·rw [if_pos a, if_neg b] at q ⊢
   subst a
   refine q9 func53 rfl (fun E hE => ?_); simp only [go_sem, ntmps53]
   repeat' (first | (refine Qr rfl ?_; try intro _ hK; try simp only [go_sem, *]) | (refine Qi rfl rfl rfl rfl ?_ ?_ <;> (intro hb; (try intro _ hK); have hc := hb; try simp only [go_sem] at hc; simp only [go_sem, *])) | refine Qh rfl ?_ | (refine Qc rfl rfl ?_ ?_ <;> (intro hb; have hc := hb; try simp only [go_sem] at hc)) | refine q8 rfl ?_ | ((first | refine y5 (s1) ?_ | refine y5 (s2) ?_ | refine y5 (s3) ?_); simp only [go_sem, *]) | ((with_reducible apply And.intro); focus omega) | (refine q7 hK ?_; clear hK; simp only [go_sem, *]) | simp only [q6, z8, go_sem, *])
   all_goals try contradiction
   (refine ⟨[_, _], [], [], ⟨rfl, rfl, trivial⟩, ?_⟩; simp only [go_sem, *])
 ·rw [if_neg a] at q ⊢
  refine q9 func53 rfl (fun E hE => ?_); simp only [go_sem, ntmps53]
  repeat' (first | (refine Qr rfl ?_; try intro _ hK; try simp only [go_sem, *]) | (refine Qi rfl rfl rfl rfl ?_ ?_ <;> (intro hb; (try intro _ hK); have hc := hb; try simp only [go_sem] at hc; simp only [go_sem, *])) | refine Qh rfl ?_ | (refine Qc rfl rfl ?_ ?_ <;> (intro hb; have hc := hb; try simp only [go_sem] at hc)) | refine q8 rfl ?_ | ((first | refine y5 (s1) ?_ | refine y5 (s2) ?_ | refine y5 (s3) ?_); simp only [go_sem, *]) | ((with_reducible apply And.intro); focus omega) | (refine q7 hK ?_; clear hK; simp only [go_sem, *]) | simp only [q6, z8, go_sem, *])
  all_goals try contradiction
  (refine ⟨[_, _], [], [], ⟨rfl, rfl, trivial⟩, ?_⟩; simp only [go_sem, *])
end Go.Abs

namespace Go.Abs
open Go Go.Proofs Tryz
attribute [local irreducible] y6 Hold x5
def zQi (x : Rule) : Bool := decide (20 < x.src.length + x.dst.length)
def zOW (r : List Rule) (l : List Str) : Bool := l.any zNL || (r.any zQi || (decide (20 < l.length) || decide (20 < r.length)))
theorem zPv (r : List Rule) (l : List Str) (hl : l.length ≤ 1048576) (hr : r.length ≤ 1048576) (hx : ∀ x, x ∈ r → x.src.length ≤ 1048576 ∧ x.dst.length ≤ 1048576) : zMf prog 21 [w6 r, y8 l] [] (bV (zOW r l)) [] := by
 obtain ⟨R, hR⟩ : ∃ R, l.any zNL = R := ⟨_, rfl⟩
 unfold zOW
 rw [hR]
 have h0 : (l.drop 0).any zNL = R := hR
 clear hR
 refine q9 func21 rfl (fun E hE => ?_); simp only [go_sem, ntmps21]
 repeat' (first | (refine Qr rfl ?_; try intro _ hK; try simp only [go_sem, *]) | (refine Qi rfl rfl rfl rfl ?_ ?_ <;> (intro hb; (try intro _ hK); have hc := hb; try simp only [go_sem] at hc; simp only [go_sem, *])) | refine Qh rfl ?_ | refine Qd rfl (by kernel_rfl) ?_ | (refine Qc rfl rfl ?_ ?_ <;> (intro hb; have hc := hb; try simp only [go_sem] at hc)) | refine q8 rfl ?_ | (refine Qb ?_ ?_; focus kernel_rfl) | ((with_reducible apply And.intro); focus omega) | (refine q7 hK ?_; clear hK; simp only [go_sem, *]) | simp only [q6, z8, go_sem, *])
 refine o9 rfl (l.length) (fun i => (l.drop i).any zNL = R) 47 (fun i => [(5, iV i), (0, w6 r), (1, y8 l)]) (fun i => []) [] [] (by exact h0) ?_; intro i hi hP
 clear h0
 by_cases hi2 : i < l.length
 ·have hii : (i : Int) < (l.length : Int) := by omega
  have hwi : IntKind.i64.wrap ((i : Int) + 1) = ((i + 1 : Nat) : Int) := r7 (by omega)
  rw [j4 hi2, List.any_cons] at hP
  generalize hxe : l.getD i default = x at *
  clear hx
  by_cases q : 20 < x.length
  ·have e1 : zNL x = true := decide_eq_true q
   rw [e1] at hP
   have hP : true = R := hP
   subst hP
   have qi : (x.length : Int) > 20 := by omega
   clear e1
   repeat' (first | (refine Qr rfl ?_; try intro _ hK; try simp only [go_sem, *]) | (refine Qi rfl rfl rfl rfl ?_ ?_ <;> (intro hb; (try intro _ hK); have hc := hb; try simp only [go_sem] at hc; simp only [go_sem, *])) | refine Qh rfl ?_ | refine Qd rfl (by kernel_rfl) ?_ | (refine Qc rfl rfl ?_ ?_ <;> (intro hb; have hc := hb; try simp only [go_sem] at hc)) | refine q8 rfl ?_ | (refine Qb ?_ ?_; focus kernel_rfl) | ((with_reducible apply And.intro); focus omega) | (refine q7 hK ?_; clear hK; simp only [go_sem, *]) | simp only [q6, z8, go_sem, *])
   all_goals first | contradiction | omega | skip
   (refine ⟨[_], [], [], ⟨rfl, trivial⟩, ?_⟩; simp only [go_sem, *])
  ·have e1 : zNL x = false := decide_eq_false q
   rw [e1] at hP
   have hP : (l.drop (i + 1)).any zNL = R := hP
   have qi : ¬ (x.length : Int) > 20 := by omega
   clear e1
   repeat' (first | (refine Qr rfl ?_; try intro _ hK; try simp only [go_sem, *]) | (refine Qi rfl rfl rfl rfl ?_ ?_ <;> (intro hb; (try intro _ hK); have hc := hb; try simp only [go_sem] at hc; simp only [go_sem, *])) | refine Qh rfl ?_ | refine Qd rfl (by kernel_rfl) ?_ | (refine Qc rfl rfl ?_ ?_ <;> (intro hb; have hc := hb; try simp only [go_sem] at hc)) | refine q8 rfl ?_ | (refine Qb ?_ ?_; focus kernel_rfl) | ((with_reducible apply And.intro); focus omega) | (refine q7 hK ?_; clear hK; simp only [go_sem, *]) | simp only [q6, z8, go_sem, *])
   all_goals first | contradiction | omega | skip
   exact f8 (i' := i + 1) [] [] (by exact hP)
 ·have hii : ¬ (i : Int) < (l.length : Int) := by omega
  rw [d7 (by omega)] at hP
  have hP : false = R := hP
  subst hP
  rw [Bool.false_or]
  obtain ⟨S, hS⟩ : ∃ S, r.any zQi = S := ⟨_, rfl⟩
  rw [hS]
  have h1 : (r.drop 0).any zQi = S := hS
  clear hS
  repeat' (first | (refine Qr rfl ?_; try intro _ hK; try simp only [go_sem, *]) | (refine Qi rfl rfl rfl rfl ?_ ?_ <;> (intro hb; (try intro _ hK); have hc := hb; try simp only [go_sem] at hc; simp only [go_sem, *])) | refine Qh rfl ?_ | refine Qd rfl (by kernel_rfl) ?_ | (refine Qc rfl rfl ?_ ?_ <;> (intro hb; have hc := hb; try simp only [go_sem] at hc)) | refine q8 rfl ?_ | (refine Qb ?_ ?_; focus kernel_rfl) | ((with_reducible apply And.intro); focus omega) | (refine q7 hK ?_; clear hK; simp only [go_sem, *]) | simp only [q6, z8, go_sem, *])
  all_goals first | contradiction | omega | skip
  refine o9 rfl (r.length) (fun j => (r.drop j).any zQi = S) 47 (fun j => [(6, iV j), (0, w6 r), (1, y8 l)]) (fun j => []) [] [] (by exact h1) ?_; intro j hj hQ
  clear h1
  by_cases hj2 : j < r.length
  ·have hjj : (j : Int) < (r.length : Int) := by omega
   have hwj : IntKind.i64.wrap ((j : Int) + 1) = ((j + 1 : Nat) : Int) := r7 (by omega)
   have hxj := hx _ (j9 hj2)
   rw [j4 hj2, List.any_cons] at hQ
   generalize hxe : r.getD j default = x at *
   clear hx
   have hws : IntKind.i64.wrap ((x.src.length : Int) + (x.dst.length : Int)) = ((x.src.length + x.dst.length : Nat) : Int) := by rw [wrap_i64 (by omega) (by omega)]; omega
   by_cases q : 20 < x.src.length + x.dst.length
   ·have e1 : zQi x = true := decide_eq_true q
    rw [e1] at hQ
    have hQ : true = S := hQ
    subst hQ
    have qi : ((x.src.length + x.dst.length : Nat) : Int) > 20 := by omega
    clear e1
    repeat' (first | (refine Qr rfl ?_; try intro _ hK; try simp only [go_sem, *]) | (refine Qi rfl rfl rfl rfl ?_ ?_ <;> (intro hb; (try intro _ hK); have hc := hb; try simp only [go_sem] at hc; simp only [go_sem, *])) | refine Qh rfl ?_ | refine Qd rfl (by kernel_rfl) ?_ | (refine Qc rfl rfl ?_ ?_ <;> (intro hb; have hc := hb; try simp only [go_sem] at hc)) | refine q8 rfl ?_ | (refine Qb ?_ ?_; focus kernel_rfl) | ((with_reducible apply And.intro); focus omega) | (refine q7 hK ?_; clear hK; simp only [go_sem, *]) | simp only [q6, z8, go_sem, *])
    all_goals first | contradiction | omega | skip
    (refine ⟨[_], [], [], ⟨rfl, trivial⟩, ?_⟩; simp only [go_sem, *])
   ·have e1 : zQi x = false := decide_eq_false q
    rw [e1] at hQ
    have hQ : (r.drop (j + 1)).any zQi = S := hQ
    have qi : ¬ ((x.src.length + x.dst.length : Nat) : Int) > 20 := by omega
    clear e1
    repeat' (first | (refine Qr rfl ?_; try intro _ hK; try simp only [go_sem, *]) | (refine Qi rfl rfl rfl rfl ?_ ?_ <;> (intro hb; (try intro _ hK); have hc := hb; try simp only [go_sem] at hc; simp only [go_sem, *])) | refine Qh rfl ?_ | refine Qd rfl (by kernel_rfl) ?_ | (refine Qc rfl rfl ?_ ?_ <;> (intro hb; have hc := hb; try simp only [go_sem] at hc)) | refine q8 rfl ?_ | (refine Qb ?_ ?_; focus kernel_rfl) | ((with_reducible apply And.intro); focus omega) | (refine q7 hK ?_; clear hK; simp only [go_sem, *]) | simp only [q6, z8, go_sem, *])
    all_goals first | contradiction | omega | skip
    exact f8 (i' := j + 1) [] [] (by exact hQ)
  ·have hjj : ¬ (j : Int) < (r.length : Int) := by omega
   rw [d7 (by omega)] at hQ
   have hQ : false = S := hQ
   subst hQ
   rw [Bool.false_or]
   clear hx
   by_cases q : 20 < l.length
   ·have qi : (l.length : Int) > 20 := by omega
    rw [decide_eq_true q, Bool.true_or]
    repeat' (first | (refine Qr rfl ?_; try intro _ hK; try simp only [go_sem, *]) | (refine Qi rfl rfl rfl rfl ?_ ?_ <;> (intro hb; (try intro _ hK); have hc := hb; try simp only [go_sem] at hc; simp only [go_sem, *])) | refine Qh rfl ?_ | refine Qd rfl (by kernel_rfl) ?_ | (refine Qc rfl rfl ?_ ?_ <;> (intro hb; have hc := hb; try simp only [go_sem] at hc)) | refine q8 rfl ?_ | (refine Qb ?_ ?_; focus kernel_rfl) | ((with_reducible apply And.intro); focus omega) | (refine q7 hK ?_; clear hK; simp only [go_sem, *]) | simp only [q6, z8, go_sem, *])
    all_goals first | contradiction | omega | skip
    (refine ⟨[_], [], [], ⟨rfl, trivial⟩, ?_⟩; simp only [go_sem, *])
   ·have qi : ¬ (l.length : Int) > 20 := by omega
    rw [decide_eq_false q, Bool.false_or]
    by_cases q2 : 20 < r.length
    ·have q2i : (r.length : Int) > 20 := by omega
     rw [decide_eq_true q2]
     repeat' (first | (refine Qr rfl ?_; try intro _ hK; try simp only [go_sem, *]) | (refine Qi rfl rfl rfl rfl ?_ ?_ <;> (intro hb; (try intro _ hK); have hc := hb; try simp only [go_sem] at hc; simp only [go_sem, *])) | refine Qh rfl ?_ | refine Qd rfl (by kernel_rfl) ?_ | (refine Qc rfl rfl ?_ ?_ <;> (intro hb; have hc := hb; try simp only [go_sem] at hc)) | refine q8 rfl ?_ | (refine Qb ?_ ?_; focus kernel_rfl) | ((with_reducible apply And.intro); focus omega) | (refine q7 hK ?_; clear hK; simp only [go_sem, *]) | simp only [q6, z8, go_sem, *])
     all_goals first | contradiction | omega | skip
     (refine ⟨[_], [], [], ⟨rfl, trivial⟩, ?_⟩; simp only [go_sem, *])
    ·have q2i : ¬ (r.length : Int) > 20 := by omega
     rw [decide_eq_false q2]
     repeat' (first | (refine Qr rfl ?_; try intro _ hK; try simp only [go_sem, *]) | (refine Qi rfl rfl rfl rfl ?_ ?_ <;> (intro hb; (try intro _ hK); have hc := hb; try simp only [go_sem] at hc; simp only [go_sem, *])) | refine Qh rfl ?_ | refine Qd rfl (by kernel_rfl) ?_ | (refine Qc rfl rfl ?_ ?_ <;> (intro hb; have hc := hb; try simp only [go_sem] at hc)) | refine q8 rfl ?_ | (refine Qb ?_ ?_; focus kernel_rfl) | ((with_reducible apply And.intro); focus omega) | (refine q7 hK ?_; clear hK; simp only [go_sem, *]) | simp only [q6, z8, go_sem, *])
     all_goals first | contradiction | omega | skip
     (refine ⟨[_], [], [], ⟨rfl, trivial⟩, ?_⟩; simp only [go_sem, *])
theorem zOj (b : ByteArray) : (b == b) = true := by
 cases b with
 | mk d => show (d == d) = true; simp
theorem zPo (r : List Rule) (hl : r.length ≤ 4294967296) : zMf prog 55 [w6 r, w6 r] [] (bV true) [] := by
 refine q9 func55 rfl (fun E hE => ?_); simp only [go_sem, ntmps55]
 repeat' (first | (refine Qr rfl ?_; try intro _ hK; try simp only [go_sem, *]) | refine Qh rfl ?_ | refine Qd rfl (by kernel_rfl) ?_ | (refine Qc rfl rfl ?_ ?_ <;> (intro hb; have hc := hb; try simp only [go_sem] at hc)) | refine q8 rfl ?_ | (refine Qb ?_ ?_; focus kernel_rfl) | ((with_reducible apply And.intro); focus omega) | (refine q7 hK ?_; clear hK; simp only [go_sem, *]) | simp only [q6, z8, go_sem, *])
 all_goals try contradiction
 refine o9 rfl (r.length) (fun i => NoQ i) 26 (fun i => [(5, iV i), (0, w6 r), (1, w6 r)]) (fun i => []) [] [] (by trivial) ?_; intro i hi hP
 have hwi : IntKind.i64.wrap ((i : Int) + 1) = ((i + 1 : Nat) : Int) := r7 (by omega)
 by_cases hi2 : i < r.length
 ·have hii : (i : Int) < (r.length : Int) := by omega
  generalize hxe : r.getD i default = x at *
  repeat' (first | (refine Qr rfl ?_; try intro _ hK; try simp only [go_sem, *]) | refine Qh rfl ?_ | refine Qd rfl (by kernel_rfl) ?_ | (refine Qc rfl rfl ?_ ?_ <;> (intro hb; have hc := hb; try simp only [go_sem] at hc)) | refine q8 rfl ?_ | (refine Qb ?_ ?_; focus kernel_rfl) | ((with_reducible apply And.intro); focus omega) | (refine q7 hK ?_; clear hK; simp only [go_sem, *]) | simp only [q6, z8, go_sem, *])
  all_goals first | contradiction | omega | (exfalso; revert hb; rw [zOj, zOj]; simp; done) | skip
  exact f8 (i' := i + 1) [] [] (by trivial)
 ·have hii : ¬ (i : Int) < (r.length : Int) := by omega
  repeat' (first | (refine Qr rfl ?_; try intro _ hK; try simp only [go_sem, *]) | refine Qh rfl ?_ | refine Qd rfl (by kernel_rfl) ?_ | (refine Qc rfl rfl ?_ ?_ <;> (intro hb; have hc := hb; try simp only [go_sem] at hc)) | refine q8 rfl ?_ | (refine Qb ?_ ?_; focus kernel_rfl) | ((with_reducible apply And.intro); focus omega) | (refine q7 hK ?_; clear hK; simp only [go_sem, *]) | simp only [q6, z8, go_sem, *])
  all_goals first | contradiction | omega | skip
  (refine ⟨[_], [], [], ⟨rfl, trivial⟩, ?_⟩; simp only [go_sem, *])
theorem zPp : zMf prog 33 [.raw (.slice none 0 0), .raw (.slice none 0 0)] [] (bV true) [] := by
 refine q9 func33 rfl (fun E hE => ?_); simp only [go_sem, ntmps33]
 repeat' (first | (refine Qr rfl ?_; try intro _ hK; try simp only [go_sem, *]) | refine Qh rfl ?_ | refine Qd rfl (by kernel_rfl) ?_ | (refine Qc rfl rfl ?_ ?_ <;> (intro hb; have hc := hb; try simp only [go_sem] at hc)) | refine q8 rfl ?_ | (refine Qb ?_ ?_; focus kernel_rfl) | ((with_reducible apply And.intro); focus omega) | (refine q7 hK ?_; clear hK; simp only [go_sem, *]) | simp only [q6, z8, go_sem, *])
 refine o9 rfl (1) (fun j => NoQ j) 26 (fun j => [(5, iV 0), (0, .raw (.slice none 0 0)), (1, .raw (.slice none 0 0))]) (fun j => []) [] [] (by trivial) ?_; intro j hj hQ
 repeat' (first | (refine Qr rfl ?_; try intro _ hK; try simp only [go_sem, *]) | refine Qh rfl ?_ | refine Qd rfl (by kernel_rfl) ?_ | (refine Qc rfl rfl ?_ ?_ <;> (intro hb; have hc := hb; try simp only [go_sem] at hc)) | refine q8 rfl ?_ | (refine Qb ?_ ?_; focus kernel_rfl) | ((with_reducible apply And.intro); focus omega) | (refine q7 hK ?_; clear hK; simp only [go_sem, *]) | simp only [q6, z8, go_sem, *])
 all_goals first | contradiction | omega | skip
 (refine ⟨[_], [], [], ⟨rfl, trivial⟩, ?_⟩; simp only [go_sem, *])
theorem zO0 : zMf prog 54 [.raw (.slice none 0 0), .raw (.slice none 0 0)] [] (bV true) [] := by
 refine q9 func54 rfl (fun E hE => ?_); simp only [go_sem, ntmps54]
 repeat' (first | (refine Qr rfl ?_; try intro _ hK; try simp only [go_sem, *]) | refine Qh rfl ?_ | refine Qd rfl (by kernel_rfl) ?_ | (refine Qc rfl rfl ?_ ?_ <;> (intro hb; have hc := hb; try simp only [go_sem] at hc)) | refine q8 rfl ?_ | (refine Qb ?_ ?_; focus kernel_rfl) | ((with_reducible apply And.intro); focus omega) | (refine q7 hK ?_; clear hK; simp only [go_sem, *]) | simp only [q6, z8, go_sem, *])
 refine o9 rfl (1) (fun j => NoQ j) 26 (fun j => [(5, iV 0), (0, .raw (.slice none 0 0)), (1, .raw (.slice none 0 0))]) (fun j => []) [] [] (by trivial) ?_; intro j hj hQ
 repeat' (first | (refine Qr rfl ?_; try intro _ hK; try simp only [go_sem, *]) | refine Qh rfl ?_ | refine Qd rfl (by kernel_rfl) ?_ | (refine Qc rfl rfl ?_ ?_ <;> (intro hb; have hc := hb; try simp only [go_sem] at hc)) | refine q8 rfl ?_ | (refine Qb ?_ ?_; focus kernel_rfl) | ((with_reducible apply And.intro); focus omega) | (refine q7 hK ?_; clear hK; simp only [go_sem, *]) | simp only [q6, z8, go_sem, *])
 all_goals first | contradiction | omega | skip
 (refine ⟨[_], [], [], ⟨rfl, trivial⟩, ?_⟩; simp only [go_sem, *])
theorem zOX {r : List Rule} {s : Str} {l : List Str} {n : Int} : ∀ c i, l.length - i = c → (c5 r s l n i).length ≤ c := by
 intro c
 induction c with
 | zero => intro i h; rw [zGl (by omega)]; simp
 | succ c ih =>
  intro i h
  rw [zGm (by omega), List.length_append]
  have := ih (i + 1) (by omega)
  split <;> simp <;> omega
theorem zOp (r : List Rule) (s : Str) (l : List Str) : (M1 r s l).length ≤ 3 * l.length := by
 unfold M1
 have h0 := zOX (r := r) (s := s) (l := l) (n := 0) _ 0 rfl
 have h1 := zOX (r := r) (s := s) (l := l) (n := 1) _ 0 rfl
 have h2 := zOX (r := r) (s := s) (l := l) (n := 2) _ 0 rfl
 simp only [List.length_append]
 omega
theorem zPQ {r : List Rule} {a b : Str} {c : List Str} (h : X8 r a b = some c) : c.length ≤ 3 := by
 unfold X8 at h
 by_cases q : c7 r a b = 0
 ·rw [if_pos q] at h
  obtain ⟨n, h1, h2, _⟩ := zEc h
  omega
 ·rw [if_neg q] at h; cases h
theorem zQg (r : List Rule) (l : List Str) (a b : Str) (nums : List Int) (hr : r.length ≤ 1048576 ∧ ∀ x, x ∈ r → x.src.length ≤ 1048576 ∧ x.dst.length ≤ 1048576) (hl : l.length ≤ 1048576 ∧ ∀ s, s ∈ l → s.length ≤ 1048576) (ha : a.length ≤ 1048576) (hb : b.length ≤ 1048576) (h : nums.length ≤ 4294967296) :
  zMf prog 12 [w6 r, y8 l, sV a, sV b, R5 nums] [] (bV true) [] := by
 obtain ⟨d0, s0, hd0⟩ := zJ7 nums h
 obtain ⟨R, d1, s1, vR, hRl, hd1⟩ := zL9 d0 3 hd0 (by omega)
 obtain ⟨l0, d2, s2, v0, hl0, hd2⟩ := zK5 d1 4 4 hd1 (by omega) (by omega)
 obtain ⟨x, d3, s3, vx, hd3⟩ := zK4 d2 4 hd2 (by omega)
 obtain ⟨L, hmap, hll, hvL, -⟩ := zK2 v0 vx
 obtain ⟨k, d4, s4, hk, hd4⟩ := zMb d3 (l0.length : Int) hd3 (by omega)
 clear v0 vx hd0 hd1 hd2 hd3 hd4 h
 have htk : List.take (l0.length + 1) (List.map sV L) = List.map sV L := List.take_of_length_le (by simp; omega)
 have hw0 : IntKind.i64.wrap (((l0.length + 1 : Nat) : Int) - 1) = (l0.length : Int) := by rw [wrap_i64 (by omega) (by omega)]; omega
 have sS := zMU
 have sL := zPv r l hl.1 hr.1 hr.2
 have sL2 := zMR [a, b] (by simp)
 generalize zOW r l = q1 at *
 generalize zAc [a, b] = q2 at *
 refine q9 func12 rfl (fun E hE => ?_); simp only [go_sem, ntmps12]
 cases q1 with
 | true =>
  repeat' (first | (refine Qr rfl ?_; try intro _ hK; try simp only [go_sem, *]) | (refine Qi rfl rfl rfl rfl ?_ ?_ <;> (intro hb; (try intro _ hK); have hc := hb; try simp only [go_sem] at hc; simp only [go_sem, *])) | refine Qh rfl ?_ | refine Qd rfl (by kernel_rfl) ?_ | (refine Qc rfl rfl ?_ ?_ <;> (intro hb; have hc := hb; try simp only [go_sem] at hc)) | refine q8 rfl ?_ | (refine Qb ?_ ?_; focus kernel_rfl) | (refine p9 (sL) ?_ ?_; (focus (simp only [go_sem, *]; done)); simp only [go_sem, *]) | (refine j8 (sS) ?_; simp only [go_sem, *]) | ((with_reducible apply And.intro); focus omega) | (refine q7 hK ?_; clear hK; simp only [go_sem, *]) | simp only [q6, z8, go_sem, *])
  all_goals try contradiction
  (refine ⟨[_], [], [], ⟨rfl, trivial⟩, ?_⟩; simp only [go_sem, *])
 | false =>
  cases q2 with
  | true =>
   repeat' (first | (refine Qr rfl ?_; try intro _ hK; try simp only [go_sem, *]) | (refine Qi rfl rfl rfl rfl ?_ ?_ <;> (intro hb; (try intro _ hK); have hc := hb; try simp only [go_sem] at hc; simp only [go_sem, *])) | refine Qh rfl ?_ | refine Qd rfl (by kernel_rfl) ?_ | (refine Qc rfl rfl ?_ ?_ <;> (intro hb; have hc := hb; try simp only [go_sem] at hc)) | refine q8 rfl ?_ | (refine Qb ?_ ?_; focus kernel_rfl) | (refine p9 (sL) ?_ ?_; (focus (simp only [go_sem, *]; done)); simp only [go_sem, *]) | ((with_reducible apply And.intro); focus omega) | (refine q7 hK ?_; clear hK; simp only [go_sem, *]) | simp only [q6, z8, go_sem, *])
   (refine V9 [0] (sL2) (by simp only [go_sem, *]) (.raw _) ?_; simp only [go_sem, *])
   repeat' (first | (refine Qr rfl ?_; try intro _ hK; try simp only [go_sem, *]) | (refine Qi rfl rfl rfl rfl ?_ ?_ <;> (intro hb; (try intro _ hK); have hc := hb; try simp only [go_sem] at hc; simp only [go_sem, *])) | refine Qh rfl ?_ | refine Qd rfl (by kernel_rfl) ?_ | (refine Qc rfl rfl ?_ ?_ <;> (intro hb; have hc := hb; try simp only [go_sem] at hc)) | refine q8 rfl ?_ | (refine Qb ?_ ?_; focus kernel_rfl) | (refine j8 (sS) ?_; simp only [go_sem, *]) | ((with_reducible apply And.intro); focus omega) | (refine q7 hK ?_; clear hK; simp only [go_sem, *]) | simp only [q6, z8, go_sem, *])
   all_goals try contradiction
   (refine ⟨[_], [], [], ⟨rfl, trivial⟩, ?_⟩; simp only [go_sem, *])
  | false =>
   repeat' (first | (refine Qr rfl ?_; try intro _ hK; try simp only [go_sem, *]) | (refine Qi rfl rfl rfl rfl ?_ ?_ <;> (intro hb; (try intro _ hK); have hc := hb; try simp only [go_sem] at hc; simp only [go_sem, *])) | refine Qh rfl ?_ | refine Qd rfl (by kernel_rfl) ?_ | (refine Qc rfl rfl ?_ ?_ <;> (intro hb; have hc := hb; try simp only [go_sem] at hc)) | refine q8 rfl ?_ | (refine Qb ?_ ?_; focus kernel_rfl) | (refine p9 (sL) ?_ ?_; (focus (simp only [go_sem, *]; done)); simp only [go_sem, *]) | ((with_reducible apply And.intro); focus omega) | (refine q7 hK ?_; clear hK; simp only [go_sem, *]) | simp only [q6, z8, go_sem, *])
   (refine V9 [0] (sL2) (by simp only [go_sem, *]) (.raw _) ?_; simp only [go_sem, *])
   repeat' (first | (refine Qr rfl ?_; try intro _ hK; try simp only [go_sem, *]) | (refine Qi rfl rfl rfl rfl ?_ ?_ <;> (intro hb; (try intro _ hK); have hc := hb; try simp only [go_sem] at hc; simp only [go_sem, *])) | refine Qh rfl ?_ | refine Qd rfl (by kernel_rfl) ?_ | (refine Qc rfl rfl ?_ ?_ <;> (intro hb; have hc := hb; try simp only [go_sem] at hc)) | refine q8 rfl ?_ | (refine Qb ?_ ?_; focus kernel_rfl) | (refine j8 (s0) ?_; simp only [go_sem, *]) | ((with_reducible apply And.intro); focus omega) | (refine q7 hK ?_; clear hK; simp only [go_sem, *]) | simp only [q6, z8, go_sem, *])
   refine t8 [1] s1 ?_
   simp only [go_sem, *]
   repeat' (first | (refine Qr rfl ?_; try intro _ hK; try simp only [go_sem, *]) | (refine Qi rfl rfl rfl rfl ?_ ?_ <;> (intro hb; (try intro _ hK); have hc := hb; try simp only [go_sem] at hc; simp only [go_sem, *])) | refine Qh rfl ?_ | refine Qd rfl (by kernel_rfl) ?_ | (refine Qc rfl rfl ?_ ?_ <;> (intro hb; have hc := hb; try simp only [go_sem] at hc)) | refine q8 rfl ?_ | (refine Qb ?_ ?_; focus kernel_rfl) | ((with_reducible apply And.intro); focus omega) | (refine q7 hK ?_; clear hK; simp only [go_sem, *]) | simp only [q6, z8, go_sem, *])
   refine t8 [1] s2 ?_
   simp only [go_sem, *]
   repeat' (first | (refine Qr rfl ?_; try intro _ hK; try simp only [go_sem, *]) | (refine Qi rfl rfl rfl rfl ?_ ?_ <;> (intro hb; (try intro _ hK); have hc := hb; try simp only [go_sem] at hc; simp only [go_sem, *])) | refine Qh rfl ?_ | refine Qd rfl (by kernel_rfl) ?_ | (refine Qc rfl rfl ?_ ?_ <;> (intro hb; have hc := hb; try simp only [go_sem] at hc)) | refine q8 rfl ?_ | (refine Qb ?_ ?_; focus kernel_rfl) | ((with_reducible apply And.intro); focus omega) | (refine q7 hK ?_; clear hK; simp only [go_sem, *]) | simp only [q6, z8, go_sem, *])
   refine t8 [1] s3 ?_
   simp only [go_sem, *]
   repeat' (first | ((with_reducible refine zMV [0, 1, 1, 1, 1, 1] ?_)) | (refine Qr rfl ?_; try intro _ hK; try simp only [go_sem, *]) | (refine Qi rfl rfl rfl rfl ?_ ?_ <;> (intro hb; (try intro _ hK); have hc := hb; try simp only [go_sem] at hc; simp only [go_sem, *])) | refine Qh rfl ?_ | refine Qd rfl (by kernel_rfl) ?_ | (refine Qc rfl rfl ?_ ?_ <;> (intro hb; have hc := hb; try simp only [go_sem] at hc)) | refine q8 rfl ?_ | (refine Qb ?_ ?_; focus kernel_rfl) | ((with_reducible apply And.intro); focus omega) | (refine q7 hK ?_; clear hK; simp only [go_sem, *]) | simp only [q6, z8, go_sem, *])
   all_goals try contradiction
   refine ⟨?_⟩
   refine R8 (N := 277) (env := [(11, .ptr 0 0), (12, w6 R), (13, y8 L), (0, w6 r), (1, y8 l), (2, sV a), (3, sV b)]) (As := [u6 d3]) [some 1] [2, 5] (by (simp only [Weak, go_sem, List.map_append, List.map_set, *] <;> (try simp (disch := omega) only [r7]) <;> (try simp) <;> (try omega))) ?_
   clear s0 s1 s2 s3 sL sL2 htk hmap
   have hL0 : (0 : Nat) < l0.length + 1 := by omega
   have hLn : l0.length < l0.length + 1 := by omega
   have hLk : k < l0.length + 1 := by omega
   repeat' (first | (refine Qr rfl ?_; try intro _ hK; try simp only [go_sem, *]) | (refine Qi rfl rfl rfl rfl ?_ ?_ <;> (intro hb; (try intro _ hK); have hc := hb; try simp only [go_sem] at hc; simp only [go_sem, *])) | refine Qh rfl ?_ | refine Qd rfl (by kernel_rfl) ?_ | (refine Qc rfl rfl ?_ ?_ <;> (intro hb; have hc := hb; try simp only [go_sem] at hc)) | refine q8 rfl ?_ | (refine Qb ?_ ?_; focus kernel_rfl) | ((with_reducible apply And.intro); focus omega) | (refine q7 hK ?_; clear hK; simp only [go_sem, *]) | simp only [q6, z8, go_sem, *])
   refine t8 [0] s4 ?_
   simp only [go_sem, *]
   repeat' (first | ((with_reducible refine zMV [0, 1, 1, 1, 1, 1, 1] ?_)) | (refine Qr rfl ?_; try intro _ hK; try simp only [go_sem, *]) | (refine Qi rfl rfl rfl rfl ?_ ?_ <;> (intro hb; (try intro _ hK); have hc := hb; try simp only [go_sem] at hc; simp only [go_sem, *])) | refine Qh rfl ?_ | refine Qd rfl (by kernel_rfl) ?_ | (refine Qc rfl rfl ?_ ?_ <;> (intro hb; have hc := hb; try simp only [go_sem] at hc)) | refine q8 rfl ?_ | (refine Qb ?_ ?_; focus kernel_rfl) | ((with_reducible apply And.intro); focus omega) | (refine q7 hK ?_; clear hK; simp only [go_sem, *]) | simp only [q6, z8, go_sem, *])
   all_goals try contradiction
   refine ⟨?_⟩
   refine R8 (N := 277) (env := [(14, .list ([r, R, R, r].map w6)), (15, .list ([l, L, l, L].map y8)), (16, y8 [a, L.getD 0 default, a, L.getD k default]), (17, y8 [b, L.getD l0.length default, b, L.getD 0 default])]) (As := []) [] [1, 2, 3, 4] (by (simp only [Weak, go_sem, List.map_append, List.map_set, *] <;> (try simp (disch := omega) only [r7]) <;> (try simp) <;> (try omega))) ?_
   clear s4 hw0 hL0 hLn hLk
   have hRs : [r, R, R, r].length = 4 := rfl
   have hRb : ∀ y, y ∈ [r, R, R, r] → y.length ≤ 1048576 ∧ ∀ x, x ∈ y → x.src.length ≤ 4294967296 ∧ x.dst.length ≤ 4294967296 := by
    have h5 := (zDH vR).2
    intro y hy
    simp only [List.mem_cons, List.not_mem_nil, or_false] at hy
    rcases hy with rfl | rfl | rfl | rfl
    ·exact ⟨hr.1, fun x hx => by have := hr.2 x hx; omega⟩
    ·exact ⟨by omega, fun x hx => by have := h5 x hx; omega⟩
    ·exact ⟨by omega, fun x hx => by have := h5 x hx; omega⟩
    ·exact ⟨hr.1, fun x hx => by have := hr.2 x hx; omega⟩
   have hLb : ∀ y, y ∈ [l, L, l, L] → y.length ≤ 1048576 ∧ ∀ s, s ∈ y → s.length ≤ 4294967296 := by
    intro y hy
    simp only [List.mem_cons, List.not_mem_nil, or_false] at hy
    rcases hy with rfl | rfl | rfl | rfl
    ·exact ⟨hl.1, fun s hs => by have := hl.2 s hs; omega⟩
    ·exact ⟨by omega, fun s hs => by have := (hvL s hs).len; omega⟩
    ·exact ⟨hl.1, fun s hs => by have := hl.2 s hs; omega⟩
    ·exact ⟨by omega, fun s hs => by have := (hvL s hs).len; omega⟩
   have g0 := (hvL _ (j9 (l := L) (i := 0) (by omega))).len
   have gn := (hvL _ (j9 (l := L) (i := l0.length) (by omega))).len
   have gk := (hvL _ (j9 (l := L) (i := k) (by omega))).len
   have hAb : ∀ s, s ∈ [a, L.getD 0 default, a, L.getD k default] → s.length ≤ 4294967296 := by
    intro s hs
    simp only [List.mem_cons, List.not_mem_nil, or_false] at hs
    rcases hs with rfl | rfl | rfl | rfl <;> omega
   have hBb : ∀ s, s ∈ [b, L.getD l0.length default, b, L.getD 0 default] → s.length ≤ 4294967296 := by
    intro s hs
    simp only [List.mem_cons, List.not_mem_nil, or_false] at hs
    rcases hs with rfl | rfl | rfl | rfl <;> omega
   generalize hRe : [r, R, R, r] = Rs at *
   generalize hLe : [l, L, l, L] = Ls at *
   generalize hAe : [a, L.getD 0 default, a, L.getD k default] = As at *
   generalize hBe : [b, L.getD l0.length default, b, L.getD 0 default] = Bs at *
   have hLl : Ls.length = 4 := by rw [← hLe]; rfl
   have hAl : As.length = 4 := by rw [← hAe]; rfl
   have hBl : Bs.length = 4 := by rw [← hBe]; rfl
   clear hvL hl hr ha hb hRe hLe hAe hBe hll hl0 hRl vR g0 gn gk hk
   repeat' (first | (refine Qr rfl ?_; try intro _ hK; try simp only [go_sem, *]) | (refine Qi rfl rfl rfl rfl ?_ ?_ <;> (intro hb; (try intro _ hK); have hc := hb; try simp only [go_sem] at hc; simp only [go_sem, *])) | refine Qh rfl ?_ | refine Qd rfl (by kernel_rfl) ?_ | (refine Qc rfl rfl ?_ ?_ <;> (intro hb; have hc := hb; try simp only [go_sem] at hc)) | refine q8 rfl ?_ | (refine Qb ?_ ?_; focus kernel_rfl) | ((with_reducible apply And.intro); focus omega) | (refine q7 hK ?_; clear hK; simp only [go_sem, *]) | simp only [q6, z8, go_sem, *])
   all_goals try contradiction
   refine o9 rfl (Rs.length) (fun i => NoQ i) 277 (fun i => [(18, iV i), (14, .list (Rs.map w6)), (15, .list (Ls.map y8)), (16, y8 As), (17, y8 Bs)]) (fun i => []) [] [] (by trivial) ?_; intro i hi hP
   by_cases hi3 : i < 4
   ·have hii3 : (i : Int) < 4 := by omega
    have hwi : IntKind.i64.wrap ((i : Int) + 1) = ((i + 1 : Nat) : Int) := r7 (by omega)
    obtain ⟨hq, hqs⟩ := hRb _ (j9 (l := Rs) (i := i) (by omega))
    obtain ⟨hy, hys⟩ := hLb _ (j9 (l := Ls) (i := i) (by omega))
    have hA := hAb _ (j9 (i := i) (l := As) (by omega))
    have hB := hBb _ (j9 (i := i) (l := Bs) (by omega))
    generalize hqe : Rs.getD i default = q at *
    generalize hye : Ls.getD i default = y at *
    generalize hue : As.getD i default = u at *
    generalize hve : Bs.getD i default = v at *
    have sd := zMK y (by omega)
    have htq : List.take q.length (List.map Rule.enc q) = List.map Rule.enc q := List.take_of_length_le (by simp)
    repeat' (first | ((with_reducible refine zMV [0, 1, 0, 0, 1, 0, 0, 1, 0, 1, 1, 1, 1, 1, 1] ?_)) | (refine Qr rfl ?_; try intro _ hK; try simp only [go_sem, *]) | (refine Qi rfl rfl rfl rfl ?_ ?_ <;> (intro hb; (try intro _ hK); have hc := hb; try simp only [go_sem] at hc; simp only [go_sem, *])) | refine Qh rfl ?_ | refine Qd rfl (by kernel_rfl) ?_ | (refine Qc rfl rfl ?_ ?_ <;> (intro hb; have hc := hb; try simp only [go_sem] at hc)) | refine q8 rfl ?_ | (with_reducible (show (∀ _ : AV, _ → _) ∧ _); refine And.intro ?_ ?_; (focus (intro y hy; first | (obtain ⟨z, _, rfl⟩ := List.mem_map.1 (hy); simp [go_sem]; done) | (obtain ⟨z, _, rfl⟩ := List.mem_map.1 (List.mem_of_mem_take hy); simp [go_sem]; done) | (obtain ⟨z, _, rfl⟩ := List.mem_map.1 (List.mem_of_mem_drop hy); simp [go_sem]; done) | (obtain ⟨z, _, rfl⟩ := List.mem_map.1 (List.mem_of_mem_drop (List.mem_of_mem_take hy)); simp [go_sem]; done)))) | (refine Qb ?_ ?_; focus kernel_rfl) | (refine j8 (sd) ?_; simp only [go_sem, *]) | ((with_reducible apply And.intro); focus omega) | (refine q7 hK ?_; clear hK; simp only [go_sem, *]) | simp only [q6, z8, go_sem, *])
    all_goals try contradiction
    refine ⟨?_⟩
    refine R8 (N := 277) (env := [(19, w6 q), (20, y8 y), (18, iV i), (14, .list (Rs.map w6)), (15, .list (Ls.map y8)), (16, y8 As), (17, y8 Bs)]) (As := []) [] [1, 2] (by (simp only [Weak, go_sem, List.map_append, List.map_set, *] <;> (try simp (disch := omega) only [r7]) <;> (try simp) <;> (try omega))) ?_
    clear sd htq hRb hLb hAb hBb
    have t1 := zDV q u v (by omega) hqs
    have t2 := zOb q u v (by omega) hqs hA hB
    have t3 := zMQ q u v (by omega) hqs
    have t4 := zP2 q u v (by omega) hqs hA hB
    have t5 := zDQ q u v (by omega) hqs
    have t6 := zO1 q u v (by omega) hqs hA hB
    have sR := zPo q (by omega)
    have sE := zHq y y (by omega)
    rw [decide_eq_true (p := y = y) rfl] at sE
    have hol := fun c => zPQ (r := q) (a := u) (b := v) (c := c)
    generalize X7 q u v = c1 at *
    generalize o7 q u v = c2 at *
    generalize zDv q u v = c3 at *
    generalize zDu q u v = c4 at *
    have b1 : (c1 != c1) = false := by simp
    have b2 : (c2 != c2) = false := by simp
    have b3 : (c3 != c3) = false := by simp
    have b4 : (c4 != c4) = false := by simp
    cases ho : X8 q u v with
    | none =>
     rw [ho] at t5 t6
     rw [zJv] at t5 t6
     have sC := zPp
     clear ho hol
     by_cases hn : H2 q u y = 0
     ·have n1 := zMN q u y hn
      have n2 := zO3 q u y hn
      have hwl := zOp q u y
      have sI := zHp (M1 q u y) (M1 q u y) (by omega)
      rw [decide_eq_true (p := M1 q u y = M1 q u y) rfl] at sI
      have htw : List.take (M1 q u y).length (List.map iV (M1 q u y)) = List.map iV (M1 q u y) := List.take_of_length_le (by simp)
      generalize M1 q u y = ws at *
      clear hn hwl hys hqs hA hB
      repeat' (first | ((with_reducible refine zMV [0, 1, 1, 1, 1, 1, 1, 1, 1, 1, 0, 0, 1, 0, 0, 1, 0, 1, 1, 1, 1, 1, 1] ?_)) | (refine Qr rfl ?_; try intro _ hK; try simp only [go_sem, *]) | (refine Qi rfl rfl rfl rfl ?_ ?_ <;> (intro hb; (try intro _ hK); have hc := hb; try simp only [go_sem] at hc; simp only [go_sem, *])) | refine Qh rfl ?_ | refine Qd rfl (by kernel_rfl) ?_ | (refine Qc rfl rfl ?_ ?_ <;> (intro hb; have hc := hb; try simp only [go_sem] at hc)) | refine q8 rfl ?_ | (refine Qb ?_ ?_; focus kernel_rfl) | (refine p9 (t1) ?_ ?_; (focus (simp only [go_sem, *]; done)); simp only [go_sem, *]) | (refine p9 (t2) ?_ ?_; (focus (simp only [go_sem, *]; done)); simp only [go_sem, *]) | (refine p9 (t3) ?_ ?_; (focus (simp only [go_sem, *]; done)); simp only [go_sem, *]) | (refine p9 (t4) ?_ ?_; (focus (simp only [go_sem, *]; done)); simp only [go_sem, *]) | (refine p9 (t5) ?_ ?_; (focus (simp only [go_sem, *]; done)); simp only [go_sem, *]) | (refine p9 (t6) ?_ ?_; (focus (simp only [go_sem, *]; done)); simp only [go_sem, *]) | (refine j8 (n1) ?_; simp only [go_sem, *]) | ((with_reducible apply And.intro); focus omega) | (refine q7 hK ?_; clear hK; simp only [go_sem, *]) | simp only [q6, z8, go_sem, *])
      all_goals try contradiction
      refine ⟨?_⟩
      refine R8 (N := 277) (env := [(31, R5 ws), (26, iV 0), (29, .raw (.slice none 0 0)), (30, .raw (.slice none 0 0)), (22, iV c2), (24, iV c2), (19, w6 q), (20, y8 y), (18, iV i), (14, .list (Rs.map w6)), (15, .list (Ls.map y8)), (16, y8 As), (17, y8 Bs)]) (As := []) [] [0] (by (simp only [Weak, go_sem, List.map_append, List.map_set, *] <;> (try simp (disch := omega) only [r7]) <;> (try simp) <;> (try omega))) ?_
      repeat' (first | ((with_reducible refine zMV [0, 1, 1, 1, 1, 1, 1, 1, 1, 1, 1, 0, 0, 1, 0, 0, 1, 0, 1, 1, 1, 1, 1, 1] ?_)) | (refine Qr rfl ?_; try intro _ hK; try simp only [go_sem, *]) | (refine Qi rfl rfl rfl rfl ?_ ?_ <;> (intro hb; (try intro _ hK); have hc := hb; try simp only [go_sem] at hc; simp only [go_sem, *])) | refine Qh rfl ?_ | refine Qd rfl (by kernel_rfl) ?_ | (refine Qc rfl rfl ?_ ?_ <;> (intro hb; have hc := hb; try simp only [go_sem] at hc)) | refine q8 rfl ?_ | (refine Qb ?_ ?_; focus kernel_rfl) | (refine j8 (n2) ?_; simp only [go_sem, *]) | ((with_reducible apply And.intro); focus omega) | (refine q7 hK ?_; clear hK; simp only [go_sem, *]) | simp only [q6, z8, go_sem, *])
      all_goals try contradiction
      refine ⟨?_⟩
      refine R8 (N := 277) (env := [(32, R5 ws), (28, iV 0), (31, R5 ws), (26, iV 0), (29, .raw (.slice none 0 0)), (30, .raw (.slice none 0 0)), (22, iV c2), (24, iV c2), (19, w6 q), (20, y8 y), (18, iV i), (14, .list (Rs.map w6)), (15, .list (Ls.map y8)), (16, y8 As), (17, y8 Bs)]) (As := []) [] [0] (by (simp only [Weak, go_sem, List.map_append, List.map_set, *] <;> (try simp (disch := omega) only [r7]) <;> (try simp) <;> (try omega))) ?_
      clear t1 t2 t3 t4 t5 t6 n1 n2 htw
      repeat' (first | (refine Qr rfl ?_; try intro _ hK; try simp only [go_sem, *]) | (refine Qi rfl rfl rfl rfl ?_ ?_ <;> (intro hb; (try intro _ hK); have hc := hb; try simp only [go_sem] at hc; simp only [go_sem, *])) | refine Qh rfl ?_ | refine Qd rfl (by kernel_rfl) ?_ | (refine Qc rfl rfl ?_ ?_ <;> (intro hb; have hc := hb; try simp only [go_sem] at hc)) | refine q8 rfl ?_ | (refine Qb ?_ ?_; focus kernel_rfl) | ((first | refine y5 (sI) ?_ | refine y5 (sR) ?_); simp only [go_sem, *]) | (refine p9 (sC) ?_ ?_; (focus (simp only [go_sem, *]; done)); simp only [go_sem, *]) | (refine p9 (sE) ?_ ?_; (focus (simp only [go_sem, *]; done)); simp only [go_sem, *]) | ((with_reducible apply And.intro); focus omega) | (refine q7 hK ?_; clear hK; simp only [go_sem, *]) | simp only [q6, z8, go_sem, *])
      all_goals first | contradiction | omega | skip
      exact f8 (i' := i + 1) [] [] (by trivial)
     ·have n1 := zMM q u y (by omega) hqs (by omega) hn
      have n2 := zO2 q u y (by omega) hqs hA (by omega) hys hn
      have sI := zO0
      generalize H2 q u y = e at *
      have b5 : (e != e) = false := by simp
      clear hys hqs hA hB
      repeat' (first | (refine Qr rfl ?_; try intro _ hK; try simp only [go_sem, *]) | (refine Qi rfl rfl rfl rfl ?_ ?_ <;> (intro hb; (try intro _ hK); have hc := hb; try simp only [go_sem] at hc; simp only [go_sem, *])) | refine Qh rfl ?_ | refine Qd rfl (by kernel_rfl) ?_ | (refine Qc rfl rfl ?_ ?_ <;> (intro hb; have hc := hb; try simp only [go_sem] at hc)) | refine q8 rfl ?_ | (refine Qb ?_ ?_; focus kernel_rfl) | ((first | refine y5 (sI) ?_ | refine y5 (sR) ?_); simp only [go_sem, *]) | (refine p9 (t1) ?_ ?_; (focus (simp only [go_sem, *]; done)); simp only [go_sem, *]) | (refine p9 (t2) ?_ ?_; (focus (simp only [go_sem, *]; done)); simp only [go_sem, *]) | (refine p9 (t3) ?_ ?_; (focus (simp only [go_sem, *]; done)); simp only [go_sem, *]) | (refine p9 (t4) ?_ ?_; (focus (simp only [go_sem, *]; done)); simp only [go_sem, *]) | (refine p9 (t5) ?_ ?_; (focus (simp only [go_sem, *]; done)); simp only [go_sem, *]) | (refine p9 (t6) ?_ ?_; (focus (simp only [go_sem, *]; done)); simp only [go_sem, *]) | (refine p9 (n1) ?_ ?_; (focus (simp only [go_sem, *]; done)); simp only [go_sem, *]) | (refine p9 (n2) ?_ ?_; (focus (simp only [go_sem, *]; done)); simp only [go_sem, *]) | (refine p9 (sC) ?_ ?_; (focus (simp only [go_sem, *]; done)); simp only [go_sem, *]) | (refine p9 (sE) ?_ ?_; (focus (simp only [go_sem, *]; done)); simp only [go_sem, *]) | ((with_reducible apply And.intro); focus omega) | (refine q7 hK ?_; clear hK; simp only [go_sem, *]) | simp only [q6, z8, go_sem, *])
      all_goals first | contradiction | omega | skip
      exact f8 (i' := i + 1) [] [] (by trivial)
    | some c =>
     rw [ho] at t5 t6
     rw [zEM] at t5 t6
     have hcl := hol c ho
     have sC := zHq c c (by omega)
     rw [decide_eq_true (p := c = c) rfl] at sC
     clear ho hol
     by_cases hn : H2 q u y = 0
     ·have n1 := zMN q u y hn
      have n2 := zO3 q u y hn
      have hwl := zOp q u y
      have sI := zHp (M1 q u y) (M1 q u y) (by omega)
      rw [decide_eq_true (p := M1 q u y = M1 q u y) rfl] at sI
      have htw : List.take (M1 q u y).length (List.map iV (M1 q u y)) = List.map iV (M1 q u y) := List.take_of_length_le (by simp)
      generalize M1 q u y = ws at *
      clear hn hwl hys hqs hA hB
      repeat' (first | ((with_reducible refine zMV [0, 1, 1, 1, 1, 1, 1, 1, 1, 1, 0, 0, 1, 0, 0, 1, 0, 1, 1, 1, 1, 1, 1] ?_)) | (refine Qr rfl ?_; try intro _ hK; try simp only [go_sem, *]) | (refine Qi rfl rfl rfl rfl ?_ ?_ <;> (intro hb; (try intro _ hK); have hc := hb; try simp only [go_sem] at hc; simp only [go_sem, *])) | refine Qh rfl ?_ | refine Qd rfl (by kernel_rfl) ?_ | (refine Qc rfl rfl ?_ ?_ <;> (intro hb; have hc := hb; try simp only [go_sem] at hc)) | refine q8 rfl ?_ | (refine Qb ?_ ?_; focus kernel_rfl) | (refine p9 (t1) ?_ ?_; (focus (simp only [go_sem, *]; done)); simp only [go_sem, *]) | (refine p9 (t2) ?_ ?_; (focus (simp only [go_sem, *]; done)); simp only [go_sem, *]) | (refine p9 (t3) ?_ ?_; (focus (simp only [go_sem, *]; done)); simp only [go_sem, *]) | (refine p9 (t4) ?_ ?_; (focus (simp only [go_sem, *]; done)); simp only [go_sem, *]) | (refine p9 (t5) ?_ ?_; (focus (simp only [go_sem, *]; done)); simp only [go_sem, *]) | (refine p9 (t6) ?_ ?_; (focus (simp only [go_sem, *]; done)); simp only [go_sem, *]) | (refine j8 (n1) ?_; simp only [go_sem, *]) | ((with_reducible apply And.intro); focus omega) | (refine q7 hK ?_; clear hK; simp only [go_sem, *]) | simp only [q6, z8, go_sem, *])
      all_goals try contradiction
      refine ⟨?_⟩
      refine R8 (N := 277) (env := [(31, R5 ws), (26, iV 0), (29, y8 c), (30, y8 c), (22, iV c2), (24, iV c2), (19, w6 q), (20, y8 y), (18, iV i), (14, .list (Rs.map w6)), (15, .list (Ls.map y8)), (16, y8 As), (17, y8 Bs)]) (As := []) [] [0] (by (simp only [Weak, go_sem, List.map_append, List.map_set, *] <;> (try simp (disch := omega) only [r7]) <;> (try simp) <;> (try omega))) ?_
      repeat' (first | ((with_reducible refine zMV [0, 1, 1, 1, 1, 1, 1, 1, 1, 1, 1, 0, 0, 1, 0, 0, 1, 0, 1, 1, 1, 1, 1, 1] ?_)) | (refine Qr rfl ?_; try intro _ hK; try simp only [go_sem, *]) | (refine Qi rfl rfl rfl rfl ?_ ?_ <;> (intro hb; (try intro _ hK); have hc := hb; try simp only [go_sem] at hc; simp only [go_sem, *])) | refine Qh rfl ?_ | refine Qd rfl (by kernel_rfl) ?_ | (refine Qc rfl rfl ?_ ?_ <;> (intro hb; have hc := hb; try simp only [go_sem] at hc)) | refine q8 rfl ?_ | (refine Qb ?_ ?_; focus kernel_rfl) | (refine j8 (n2) ?_; simp only [go_sem, *]) | ((with_reducible apply And.intro); focus omega) | (refine q7 hK ?_; clear hK; simp only [go_sem, *]) | simp only [q6, z8, go_sem, *])
      all_goals try contradiction
      refine ⟨?_⟩
      refine R8 (N := 277) (env := [(32, R5 ws), (28, iV 0), (31, R5 ws), (26, iV 0), (29, y8 c), (30, y8 c), (22, iV c2), (24, iV c2), (19, w6 q), (20, y8 y), (18, iV i), (14, .list (Rs.map w6)), (15, .list (Ls.map y8)), (16, y8 As), (17, y8 Bs)]) (As := []) [] [0] (by (simp only [Weak, go_sem, List.map_append, List.map_set, *] <;> (try simp (disch := omega) only [r7]) <;> (try simp) <;> (try omega))) ?_
      clear t1 t2 t3 t4 t5 t6 n1 n2 htw
      repeat' (first | (refine Qr rfl ?_; try intro _ hK; try simp only [go_sem, *]) | (refine Qi rfl rfl rfl rfl ?_ ?_ <;> (intro hb; (try intro _ hK); have hc := hb; try simp only [go_sem] at hc; simp only [go_sem, *])) | refine Qh rfl ?_ | refine Qd rfl (by kernel_rfl) ?_ | (refine Qc rfl rfl ?_ ?_ <;> (intro hb; have hc := hb; try simp only [go_sem] at hc)) | refine q8 rfl ?_ | (refine Qb ?_ ?_; focus kernel_rfl) | ((first | refine y5 (sI) ?_ | refine y5 (sR) ?_); simp only [go_sem, *]) | (refine p9 (sC) ?_ ?_; (focus (simp only [go_sem, *]; done)); simp only [go_sem, *]) | (refine p9 (sE) ?_ ?_; (focus (simp only [go_sem, *]; done)); simp only [go_sem, *]) | ((with_reducible apply And.intro); focus omega) | (refine q7 hK ?_; clear hK; simp only [go_sem, *]) | simp only [q6, z8, go_sem, *])
      all_goals first | contradiction | omega | skip
      exact f8 (i' := i + 1) [] [] (by trivial)
     ·have n1 := zMM q u y (by omega) hqs (by omega) hn
      have n2 := zO2 q u y (by omega) hqs hA (by omega) hys hn
      have sI := zO0
      generalize H2 q u y = e at *
      have b5 : (e != e) = false := by simp
      clear hys hqs hA hB
      repeat' (first | (refine Qr rfl ?_; try intro _ hK; try simp only [go_sem, *]) | (refine Qi rfl rfl rfl rfl ?_ ?_ <;> (intro hb; (try intro _ hK); have hc := hb; try simp only [go_sem] at hc; simp only [go_sem, *])) | refine Qh rfl ?_ | refine Qd rfl (by kernel_rfl) ?_ | (refine Qc rfl rfl ?_ ?_ <;> (intro hb; have hc := hb; try simp only [go_sem] at hc)) | refine q8 rfl ?_ | (refine Qb ?_ ?_; focus kernel_rfl) | ((first | refine y5 (sI) ?_ | refine y5 (sR) ?_); simp only [go_sem, *]) | (refine p9 (t1) ?_ ?_; (focus (simp only [go_sem, *]; done)); simp only [go_sem, *]) | (refine p9 (t2) ?_ ?_; (focus (simp only [go_sem, *]; done)); simp only [go_sem, *]) | (refine p9 (t3) ?_ ?_; (focus (simp only [go_sem, *]; done)); simp only [go_sem, *]) | (refine p9 (t4) ?_ ?_; (focus (simp only [go_sem, *]; done)); simp only [go_sem, *]) | (refine p9 (t5) ?_ ?_; (focus (simp only [go_sem, *]; done)); simp only [go_sem, *]) | (refine p9 (t6) ?_ ?_; (focus (simp only [go_sem, *]; done)); simp only [go_sem, *]) | (refine p9 (n1) ?_ ?_; (focus (simp only [go_sem, *]; done)); simp only [go_sem, *]) | (refine p9 (n2) ?_ ?_; (focus (simp only [go_sem, *]; done)); simp only [go_sem, *]) | (refine p9 (sC) ?_ ?_; (focus (simp only [go_sem, *]; done)); simp only [go_sem, *]) | (refine p9 (sE) ?_ ?_; (focus (simp only [go_sem, *]; done)); simp only [go_sem, *]) | ((with_reducible apply And.intro); focus omega) | (refine q7 hK ?_; clear hK; simp only [go_sem, *]) | simp only [q6, z8, go_sem, *])
      all_goals first | contradiction | omega | skip
      exact f8 (i' := i + 1) [] [] (by trivial)
   ·have hii3 : ¬ (i : Int) < 4 := by omega
    repeat' (first | (refine Qr rfl ?_; try intro _ hK; try simp only [go_sem, *]) | (refine Qi rfl rfl rfl rfl ?_ ?_ <;> (intro hb; (try intro _ hK); have hc := hb; try simp only [go_sem] at hc; simp only [go_sem, *])) | refine Qh rfl ?_ | refine Qd rfl (by kernel_rfl) ?_ | (refine Qc rfl rfl ?_ ?_ <;> (intro hb; have hc := hb; try simp only [go_sem] at hc)) | refine q8 rfl ?_ | (refine Qb ?_ ?_; focus kernel_rfl) | (refine j8 (sS) ?_; simp only [go_sem, *]) | ((with_reducible apply And.intro); focus omega) | (refine q7 hK ?_; clear hK; simp only [go_sem, *]) | simp only [q6, z8, go_sem, *])
    all_goals first | contradiction | omega | skip
    (refine ⟨[_], [], [], ⟨rfl, trivial⟩, ?_⟩; simp only [go_sem, *])
end Go.Abs

