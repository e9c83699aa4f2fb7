/-
  WHAT THE PROOF STANDS ON, PART 5: contracts of the program's functions and the logic that they are proved in. No condition.
-/
import Derived.Test.YteehcinnfiaklaaGreatDoorQF4
set_option maxRecDepth 100000
set_option maxHeartbeats 4000000
set_option linter.unusedVariables false
set_option linter.unusedSimpArgs false
set_option linter.unusedSectionVars false
namespace Go.Abs
open Go
theorem zQD (t : Str) : zNC [] t = true := by cases t <;> rfl
theorem zQB {s t : Str} {a i : Nat} (ha : a < s.length) (hi : i < t.length) (h : t.getD i 0 = s.getD a 0) : zNC (s.drop a) (t.drop i) = zNC (s.drop (a + 1)) (t.drop (i + 1)) := by
 rw [List.drop_eq_getElem_cons ha, List.drop_eq_getElem_cons hi]
 have e : s[a] = t[i] := by simpa [List.getD, ha, hi] using h.symm
 rw [zNC, if_pos e]
theorem zQC {s t : Str} {a i : Nat} (ha : a < s.length) (hi : i < t.length) (h : ¬ t.getD i 0 = s.getD a 0) : zNC (s.drop a) (t.drop i) = zNC (s.drop a) (t.drop (i + 1)) := by
 rw [List.drop_eq_getElem_cons ha, List.drop_eq_getElem_cons hi]
 have e : ¬ s[a] = t[i] := fun e => h (by simpa [List.getD, ha, hi] using e.symm)
 rw [zNC, if_neg e]
theorem zQA {s t : Str} {a i : Nat} (hi : t.length ≤ i) : zNC (s.drop a) (t.drop i) = decide (s.length ≤ a) := by
 rw [List.drop_eq_nil_of_le hi]
 by_cases h : s.length ≤ a
 ·rw [List.drop_eq_nil_of_le h, decide_eq_true h]; rfl
 ·rw [List.drop_eq_getElem_cons (by omega), decide_eq_false h]; rfl
theorem zOt (s : Str) : X1 0 s = [[]] := by rw [X1]
theorem zPb {n : Nat} {s : Str} (h : s.length < n) : X1 n s = [] := by
 rw [List.eq_nil_iff_forall_not_mem]
 intro t ht
 obtain ⟨h1, h2⟩ := mem_partsN.1 ht
 have := h2.length_le
 omega
theorem zPc {n : Nat} {s : Str} {i : Nat} (h : i < s.length) : X1 (n + 1) (s.drop i) = (X1 n (s.drop (i + 1))).map (s.getD i 0 :: ·) ++ X1 (n + 1) (s.drop (i + 1)) := by
 rw [List.drop_eq_getElem_cons h, X1]
 have e : s.getD i 0 = s[i] := by simp [List.getD, h]
 rw [e]
theorem zOY : ∀ (n : Nat) (s : Str), (X1 n s).length ≤ 2 ^ s.length
 | 0, s => by rw [zOt]; exact Nat.one_le_two_pow
 | n + 1, [] => by rw [X1]; simp
 | n + 1, a :: r => by
  have h1 := zOY n r
  have h2 := zOY (n + 1) r
  rw [X1, List.length_append, List.length_map, List.length_cons, Nat.pow_succ]
  omega
 termination_by n s => (n, s.length)
theorem zOZ {n : Nat} {s : Str} (h : s.length ≤ 12) : (X1 n s).length ≤ 4096 :=
 Nat.le_trans (zOY n s) (Nat.pow_le_pow_right (by decide) h)
theorem zOs {n : Nat} {s t : Str} (h : t ∈ X1 n s) : t.length = n := (mem_partsN.1 h).1
def zOD (l : List Str) (own : Str) (B : Option Str) (L : List Str) : Option Str := x7 zMj B ((L.map (own.take 1 ++ ·)).filter fun s => !l9 s l own)
theorem zPL (l : List Str) (own : Str) (B : Option Str) : zOD l own B [] = B := by cases B <;> rfl
theorem zPH {l : List Str} {own : Str} {B : Option Str} {x : Str} {L : List Str} (h : l9 (own.take 1 ++ x) l own = true) : zOD l own B (x :: L) = zOD l own B L := by
 unfold zOD
 rw [List.map_cons, List.filter_cons, if_neg (by rw [h]; decide)]
theorem zPI {l : List Str} {own : Str} {x : Str} {L : List Str} (h : l9 (own.take 1 ++ x) l own = false) : zOD l own none (x :: L) = zOD l own (some (own.take 1 ++ x)) L := by
 unfold zOD
 rw [List.map_cons, List.filter_cons, if_pos (by rw [h]; decide)]
 rfl
theorem zPJ {l : List Str} {own : Str} {b x : Str} {L : List Str} (h : l9 (own.take 1 ++ x) l own = false) (hlt : u0 (own.take 1 ++ x) b = true) : zOD l own (some b) (x :: L) = zOD l own (some (own.take 1 ++ x)) L := by
 unfold zOD
 rw [List.map_cons, List.filter_cons, if_pos (by rw [h]; decide), x7, if_pos (cmpS_neg.2 hlt)]
theorem zPK {l : List Str} {own : Str} {b x : Str} {L : List Str} (h : l9 (own.take 1 ++ x) l own = false) (hlt : u0 (own.take 1 ++ x) b = false) : zOD l own (some b) (x :: L) = zOD l own (some b) L := by
 unfold zOD
 rw [List.map_cons, List.filter_cons, if_pos (by rw [h]; decide), x7, if_neg (fun k => by rw [cmpS_neg, hlt] at k; cases k)]
def zQl (s own x : Str) : Bool := !(decide (zMh x = own)) && X5 s (zMh x)
theorem zPW (s : Str) (l : List Str) (own : Str) : l9 s l own = l.any (zQl s own) := rfl
def zON (l : List Str) (own : Str) (n : Nat) : Str := if own.length ≤ n then [] else (V7 l own n).getD [] ++ [46]
theorem zPM {l : List Str} {own : Str} {n : Nat} (h : ¬ own.length ≤ n) : V7 l own n = zOD l own none (X1 (n - 1) (own.drop 1)) := by
 unfold V7
 rw [if_neg h]; rfl
end Go.Abs

namespace Go.Abs
open Go Go.Proofs Tryz
attribute [local irreducible] y6 Hold x5
theorem zP8 (s t : Str) (hs : s.length ≤ 1000) (ht : t.length ≤ 1000) : zMf prog 137 [sV s, sV t] [] (bV (zNC s t)) [] := by
 have h0 : zNC (s.drop 0) (t.drop 0) = zNC s t := rfl
 generalize zNC s t = R at *
 refine q9 func137 rfl (fun E hE => ?_); simp only [go_sem, ntmps137]
 repeat' (first | (refine Qr rfl ?_; try intro _ hK; try simp only [go_sem, *]) | (refine Qi rfl rfl rfl rfl ?_ ?_ <;> (intro hb; (try intro _ hK); have hc := hb; try simp only [go_sem] at hc; simp only [go_sem, *])) | refine Qh rfl ?_ | refine Qd rfl (by kernel_rfl) ?_ | (refine Qc rfl rfl ?_ ?_ <;> (intro hb; have hc := hb; try simp only [go_sem] at hc)) | refine q8 rfl ?_ | (refine Qb ?_ ?_; focus kernel_rfl) | ((with_reducible apply And.intro); focus omega) | (refine q7 hK ?_; clear hK; simp only [go_sem, *]) | simp only [q6, z8, go_sem, *])
 refine a7 rfl (t.length) (fun i (a : Nat) => zNC (s.drop a) (t.drop i) = R ∧ a ≤ s.length) 32 (fun i a => [(6, iV i), (5, iV a), (0, sV s), (1, sV t)]) (fun i a => []) [] [] (0) (by exact ⟨h0, Nat.zero_le _⟩) ?_; intro i a hi hP
 clear h0
 obtain ⟨hP, ha⟩ := hP
 have hwi : IntKind.i64.wrap ((i : Int) + 1) = ((i + 1 : Nat) : Int) := r7 (by omega)
 have hwa : IntKind.i64.wrap ((a : Int) + 1) = ((a + 1 : Nat) : Int) := r7 (by omega)
 by_cases hi2 : i < t.length
 ·have hii : (i : Int) < (t.length : Int) := by omega
  by_cases ha2 : a < s.length
  ·have hai : (a : Int) < (s.length : Int) := by omega
   by_cases q : t.getD i 0 = s.getD a 0
   ·rw [zQB ha2 hi2 q] at hP
    have qn : ((t.getD i 0).toNat : Int) = (s.getD a 0).toNat := by rw [q]
    clear q
    repeat' (first | (refine Qr rfl ?_; try intro _ hK; try simp only [go_sem, *]) | (refine Qi rfl rfl rfl rfl ?_ ?_ <;> (intro hb; (try intro _ hK); have hc := hb; try simp only [go_sem] at hc; simp only [go_sem, *])) | refine Qh rfl ?_ | refine Qd rfl (by kernel_rfl) ?_ | (refine Qc rfl rfl ?_ ?_ <;> (intro hb; have hc := hb; try simp only [go_sem] at hc)) | refine q8 rfl ?_ | (refine Qb ?_ ?_; focus kernel_rfl) | ((with_reducible apply And.intro); focus omega) | (refine q7 hK ?_; clear hK; simp only [go_sem, *]) | simp only [q6, z8, go_sem, *])
    all_goals first | contradiction | omega | skip
    exact n0 (i' := i + 1) [] [] (a + 1) (by exact ⟨hP, by omega⟩)
   ·rw [zQC ha2 hi2 q] at hP
    have qn : ¬ ((t.getD i 0).toNat : Int) = (s.getD a 0).toNat := fun h => q (UInt8.toNat_inj.1 (by omega))
    clear q
    repeat' (first | (refine Qr rfl ?_; try intro _ hK; try simp only [go_sem, *]) | (refine Qi rfl rfl rfl rfl ?_ ?_ <;> (intro hb; (try intro _ hK); have hc := hb; try simp only [go_sem] at hc; simp only [go_sem, *])) | refine Qh rfl ?_ | refine Qd rfl (by kernel_rfl) ?_ | (refine Qc rfl rfl ?_ ?_ <;> (intro hb; have hc := hb; try simp only [go_sem] at hc)) | refine q8 rfl ?_ | (refine Qb ?_ ?_; focus kernel_rfl) | ((with_reducible apply And.intro); focus omega) | (refine q7 hK ?_; clear hK; simp only [go_sem, *]) | simp only [q6, z8, go_sem, *])
    all_goals first | contradiction | omega | skip
    exact n0 (i' := i + 1) [] [] (a) (by exact ⟨hP, ha⟩)
  ·have hai : ¬ (a : Int) < (s.length : Int) := by omega
   have hae : ((a : Int) == (s.length : Int)) = true := by rw [beq_iff_eq]; omega
   rw [List.drop_eq_nil_of_le (by omega), zQD] at hP
   subst hP
   repeat' (first | (refine Qr rfl ?_; try intro _ hK; try simp only [go_sem, *]) | (refine Qi rfl rfl rfl rfl ?_ ?_ <;> (intro hb; (try intro _ hK); have hc := hb; try simp only [go_sem] at hc; simp only [go_sem, *])) | refine Qh rfl ?_ | refine Qd rfl (by kernel_rfl) ?_ | (refine Qc rfl rfl ?_ ?_ <;> (intro hb; have hc := hb; try simp only [go_sem] at hc)) | refine q8 rfl ?_ | (refine Qb ?_ ?_; focus kernel_rfl) | ((with_reducible apply And.intro); focus omega) | (refine q7 hK ?_; clear hK; simp only [go_sem, *]) | simp only [q6, z8, go_sem, *])
   all_goals first | contradiction | omega | skip
   (refine ⟨[_], [], [], ⟨rfl, trivial⟩, ?_⟩; simp only [go_sem, *])
 ·have hii : ¬ (i : Int) < (t.length : Int) := by omega
  rw [zQA (by omega)] at hP
  have hae : ((a : Int) == (s.length : Int)) = R := by
   rw [← hP]
   by_cases e : s.length ≤ a
   ·rw [decide_eq_true e, beq_iff_eq]; omega
   ·rw [decide_eq_false e, beq_eq_false_iff_ne]; omega
  clear hP
  repeat' (first | (refine Qr rfl ?_; try intro _ hK; try simp only [go_sem, *]) | (refine Qi rfl rfl rfl rfl ?_ ?_ <;> (intro hb; (try intro _ hK); have hc := hb; try simp only [go_sem] at hc; simp only [go_sem, *])) | refine Qh rfl ?_ | refine Qd rfl (by kernel_rfl) ?_ | (refine Qc rfl rfl ?_ ?_ <;> (intro hb; have hc := hb; try simp only [go_sem] at hc)) | refine q8 rfl ?_ | (refine Qb ?_ ?_; focus kernel_rfl) | ((with_reducible apply And.intro); focus omega) | (refine q7 hK ?_; clear hK; simp only [go_sem, *]) | simp only [q6, z8, go_sem, *])
  all_goals first | contradiction | omega | skip
  (refine ⟨[_], [], [], ⟨rfl, trivial⟩, ?_⟩; simp only [go_sem, *])
theorem zPw (s k : Str) (hs0 : 0 < s.length) (hs : s.length ≤ 1000) (hk : k.length ≤ 1000) : zMf prog 113 [sV s, sV k] [] (bV (X5 s k)) [] := by
 have sp := zP8 s k hs hk
 unfold X5
 generalize zNC s k = b at *
 by_cases q1 : s.length < k.length
 ·have q1i : (s.length : Int) < (k.length : Int) := by omega
  rw [decide_eq_true q1, Bool.true_and]
  by_cases q2 : s.getD 0 0 = k.getD 0 0
  ·have q2n : ((s.getD 0 0).toNat : Int) = (k.getD 0 0).toNat := by rw [q2]
   have e : (s.getD 0 0 == k.getD 0 0) = true := by simpa using q2
   rw [e, Bool.true_and]
   clear e q2
   refine q9 func113 rfl (fun E hE => ?_); simp only [go_sem, ntmps113]
   repeat' (first | (refine Qr rfl ?_; try intro _ hK; try simp only [go_sem, *]) | (refine Qi rfl rfl rfl rfl ?_ ?_ <;> (intro hb; (try intro _ hK); have hc := hb; try simp only [go_sem] at hc; simp only [go_sem, *])) | refine Qh rfl ?_ | refine Qd rfl (by kernel_rfl) ?_ | (refine Qc rfl rfl ?_ ?_ <;> (intro hb; have hc := hb; try simp only [go_sem] at hc)) | refine q8 rfl ?_ | (refine Qb ?_ ?_; focus kernel_rfl) | (refine y5 (sp) ?_; simp only [go_sem, *]) | ((with_reducible apply And.intro); focus omega) | (refine q7 hK ?_; clear hK; simp only [go_sem, *]) | simp only [q6, z8, go_sem, *])
   all_goals first | contradiction | omega | skip
   (refine ⟨[_], [], [], ⟨rfl, trivial⟩, ?_⟩; simp only [go_sem, *])
  ·have q2n : ¬ ((s.getD 0 0).toNat : Int) = (k.getD 0 0).toNat := fun h => q2 (UInt8.toNat_inj.1 (by omega))
   have e : (s.getD 0 0 == k.getD 0 0) = false := by simpa using q2
   rw [e, Bool.false_and]
   clear e q2
   refine q9 func113 rfl (fun E hE => ?_); simp only [go_sem, ntmps113]
   repeat' (first | (refine Qr rfl ?_; try intro _ hK; try simp only [go_sem, *]) | (refine Qi rfl rfl rfl rfl ?_ ?_ <;> (intro hb; (try intro _ hK); have hc := hb; try simp only [go_sem] at hc; simp only [go_sem, *])) | refine Qh rfl ?_ | refine Qd rfl (by kernel_rfl) ?_ | (refine Qc rfl rfl ?_ ?_ <;> (intro hb; have hc := hb; try simp only [go_sem] at hc)) | refine q8 rfl ?_ | (refine Qb ?_ ?_; focus kernel_rfl) | (refine y5 (sp) ?_; simp only [go_sem, *]) | ((with_reducible apply And.intro); focus omega) | (refine q7 hK ?_; clear hK; simp only [go_sem, *]) | simp only [q6, z8, go_sem, *])
   all_goals first | contradiction | omega | skip
   (refine ⟨[_], [], [], ⟨rfl, trivial⟩, ?_⟩; simp only [go_sem, *])
 ·have q1i : ¬ (s.length : Int) < (k.length : Int) := by omega
  rw [decide_eq_false q1, Bool.false_and]
  refine q9 func113 rfl (fun E hE => ?_); simp only [go_sem, ntmps113]
  repeat' (first | (refine Qr rfl ?_; try intro _ hK; try simp only [go_sem, *]) | (refine Qi rfl rfl rfl rfl ?_ ?_ <;> (intro hb; (try intro _ hK); have hc := hb; try simp only [go_sem] at hc; simp only [go_sem, *])) | refine Qh rfl ?_ | refine Qd rfl (by kernel_rfl) ?_ | (refine Qc rfl rfl ?_ ?_ <;> (intro hb; have hc := hb; try simp only [go_sem] at hc)) | refine q8 rfl ?_ | (refine Qb ?_ ?_; focus kernel_rfl) | (refine y5 (sp) ?_; simp only [go_sem, *]) | ((with_reducible apply And.intro); focus omega) | (refine q7 hK ?_; clear hK; simp only [go_sem, *]) | simp only [q6, z8, go_sem, *])
  all_goals first | contradiction | omega | skip
  (refine ⟨[_], [], [], ⟨rfl, trivial⟩, ?_⟩; simp only [go_sem, *])
theorem zPB : ∀ (n : Nat) (s : Str), n ≤ 100 → s.length ≤ 12 → zMf prog 121 [sV s, iV n] [] (.own 0 1 0 (X1 n s).length) [.row 1 ((X1 n s).map sV)]
 | 0, s, _, _ => by
  rw [zOt]
  refine q9 func121 rfl (fun E hE => ?_); simp only [go_sem, ntmps121]
  repeat' (first | (refine Qr rfl ?_; try intro _ hK; try simp only [go_sem, *]) | refine Qh rfl ?_ | refine Qd rfl (by kernel_rfl) ?_ | (refine Qc rfl rfl ?_ ?_ <;> (intro hb; have hc := hb; try simp only [go_sem] at hc)) | refine q8 rfl ?_ | (refine Qb ?_ ?_; focus kernel_rfl) | ((with_reducible apply And.intro); focus omega) | (refine q7 hK ?_; clear hK; simp only [go_sem, *]) | simp only [q6, z8, go_sem, *])
  all_goals try contradiction
  refine ⟨[_], [some 0], [], ⟨rfl, trivial⟩, ?_⟩
  simp only [go_sem, *]
 | n + 1, s, hn, hs => by
  have IH := fun i => zPB n (s.drop i) (by omega) (by simp; omega)
  have h0 : [] ++ X1 (n + 1) (s.drop 0) = X1 (n + 1) s := rfl
  have hst := fun i (h : i < s.length) => zPc (n := n) (s := s) (i := i) h
  have hsh := fun i (h : s.length - i < n + 1) => zPb (n := n + 1) (s := s.drop i) (by simpa using h)
  have hsm := fun i => zOZ (n := n) (s := s.drop i) (by simp; omega)
  have hTl := zOZ (n := n + 1) (s := s) hs
  have hpl := fun i x (h : x ∈ X1 n (s.drop i)) => zOs h
  generalize X1 (n + 1) s = T at *
  have hw1 : IntKind.i64.wrap (((n + 1 : Nat) : Int) - 1) = (n : Int) := by rw [wrap_i64 (by omega) (by omega)]; omega
  have hz : (((n + 1 : Nat) : Int) == 0) = false := by rw [beq_eq_false_iff_ne]; omega
  obtain ⟨m, hm⟩ : ∃ m, m = n + 1 := ⟨_, rfl⟩
  rw [← hm] at hw1 hz h0 hst hsh ⊢
  have hmn : m ≤ 101 ∧ 1 ≤ m := by omega
  clear hm
  refine q9 func121 rfl (fun E hE => ?_); simp only [go_sem, ntmps121]
  repeat' (first | (refine Qr rfl ?_; try intro _ hK; try simp only [go_sem, *]) | refine Qh rfl ?_ | refine Qd rfl (by kernel_rfl) ?_ | (refine Qc rfl rfl ?_ ?_ <;> (intro hb; have hc := hb; try simp only [go_sem] at hc)) | refine q8 rfl ?_ | (refine Qb ?_ ?_; focus kernel_rfl) | ((with_reducible apply And.intro); focus omega) | (refine q7 hK ?_; clear hK; simp only [go_sem, *]) | simp only [q6, z8, go_sem, *])
  all_goals try contradiction
  refine a7 rfl (s.length) (fun i (acc : List Str) => acc ++ X1 m (s.drop i) = T) 47 (fun i acc => [(6, iV i), (5, .own 0 1 0 acc.length), (0, sV s), (1, iV m)]) (fun i acc => [.row 1 (acc.map sV)]) [none] [] ([]) (by exact h0) ?_; intro i acc hi hP
  clear h0
  have hwl : IntKind.i64.wrap ((i : Int) + (m : Int)) = ((i + m : Nat) : Int) := by rw [wrap_i64 (by omega) (by omega)]; omega
  by_cases hi2 : i + m ≤ s.length
  ·have hil : ((i + m : Nat) : Int) ≤ (s.length : Int) := by omega
   have hi3 : i < s.length := by omega
   have hwi : IntKind.i64.wrap ((i : Int) + 1) = ((i + 1 : Nat) : Int) := r7 (by omega)
   have s1 := IH (i + 1)
   have hRl := hsm (i + 1)
   have hpl2 := hpl (i + 1)
   rw [hst i hi3] at hP
   have hc1 : (s.take (i + 1)).drop i = [s.getD i 0] := by
    rw [List.drop_take, show i + 1 - i = 1 by omega, List.drop_eq_getElem_cons hi3, List.take_succ_cons, List.take_zero]; simp [List.getD, hi3]
   generalize hce : s.getD i 0 = c at *
   generalize X1 n (s.drop (i + 1)) = R at *
   clear IH hst hsm hpl
   have hP0 : acc ++ ((R.drop 0).map (c :: ·) ++ X1 m (s.drop (i + 1))) = T := hP
   clear hP
   repeat' (first | (refine Qr rfl ?_; try intro _ hK; try simp only [go_sem, *]) | refine Qh rfl ?_ | refine Qd rfl (by kernel_rfl) ?_ | (refine Qc rfl rfl ?_ ?_ <;> (intro hb; have hc := hb; try simp only [go_sem] at hc)) | refine q8 rfl ?_ | (refine Qb ?_ ?_; focus kernel_rfl) | (refine j8 (s1) ?_; simp only [go_sem, *]) | ((with_reducible apply And.intro); focus omega) | (refine q7 hK ?_; clear hK; simp only [go_sem, *]) | simp only [q6, z8, go_sem, *])
   all_goals first | contradiction | omega | skip
   refine a7 rfl (R.length) (fun k (ac : List Str) => ac ++ ((R.drop k).map (c :: ·) ++ X1 m (s.drop (i + 1))) = T) 47 (fun k ac => [(8, iV k), (7, .own 1 1 0 R.length), (6, iV i), (5, .own 0 1 0 ac.length), (0, sV s), (1, iV m)]) (fun k ac => [.row 1 (ac.map sV), .row 1 (R.map sV)]) [some 0, some 1] [] (acc) (by exact hP0) ?_; intro k ac hk hQ
   clear hP0
   by_cases hk2 : k < R.length
   ·have hki : (k : Int) < (R.length : Int) := by omega
    have hwk : IntKind.i64.wrap ((k : Int) + 1) = ((k + 1 : Nat) : Int) := r7 (by omega)
    have hol := hpl2 _ (j9 hk2)
    rw [j4 hk2, List.map_cons] at hQ
    have hacl : ac.length ≤ 4096 := by
     have := congrArg List.length hQ
     simp only [List.length_append, List.length_cons] at this
     omega
    have hQ2 : (ac ++ [c :: R.getD k default]) ++ ((R.drop (k + 1)).map (c :: ·) ++ X1 m (s.drop (i + 1))) = T := by rw [← hQ]; simp
    generalize hoe : R.getD k default = o at *
    clear hQ hpl2 hsh
    repeat' (first | (refine Qr rfl ?_; try intro _ hK; try simp only [go_sem, *]) | refine Qh rfl ?_ | refine Qd rfl (by kernel_rfl) ?_ | (refine Qc rfl rfl ?_ ?_ <;> (intro hb; have hc := hb; try simp only [go_sem] at hc)) | refine q8 rfl ?_ | (refine Qb ?_ ?_; focus kernel_rfl) | ((with_reducible apply And.intro); focus omega) | (refine q7 hK ?_; clear hK; simp only [go_sem, *]) | simp only [q6, z8, go_sem, *])
    all_goals first | contradiction | omega | skip
    exact n0 (i' := k + 1) [some 3, some 1] [] (ac ++ [c :: o]) (by exact hQ2)
   ·have hki : ¬ (k : Int) < (R.length : Int) := by omega
    rw [d7 (by omega)] at hQ
    have hQ2 : ac ++ X1 m (s.drop (i + 1)) = T := hQ
    clear hQ hpl2
    repeat' (first | (refine Qr rfl ?_; try intro _ hK; try simp only [go_sem, *]) | refine Qh rfl ?_ | refine Qd rfl (by kernel_rfl) ?_ | (refine Qc rfl rfl ?_ ?_ <;> (intro hb; have hc := hb; try simp only [go_sem] at hc)) | refine q8 rfl ?_ | (refine Qb ?_ ?_; focus kernel_rfl) | ((with_reducible apply And.intro); focus omega) | (refine q7 hK ?_; clear hK; simp only [go_sem, *]) | simp only [q6, z8, go_sem, *])
    all_goals first | contradiction | omega | skip
    exact n0 (i' := i + 1) [some 0] [] (ac) (by exact hQ2)
  ·have hil : ¬ ((i + m : Nat) : Int) ≤ (s.length : Int) := by omega
   rw [hsh i (by omega), List.append_nil] at hP
   subst hP
   clear IH hst hsh hsm hpl
   repeat' (first | (refine Qr rfl ?_; try intro _ hK; try simp only [go_sem, *]) | refine Qh rfl ?_ | refine Qd rfl (by kernel_rfl) ?_ | (refine Qc rfl rfl ?_ ?_ <;> (intro hb; have hc := hb; try simp only [go_sem] at hc)) | refine q8 rfl ?_ | (refine Qb ?_ ?_; focus kernel_rfl) | ((with_reducible apply And.intro); focus omega) | (refine q7 hK ?_; clear hK; simp only [go_sem, *]) | simp only [q6, z8, go_sem, *])
   all_goals first | contradiction | omega | skip
   refine ⟨[_], [some 0], [], ⟨rfl, trivial⟩, ?_⟩
   simp only [go_sem, *]
end Go.Abs

namespace Go.Abs
open Go Go.Proofs Tryz
attribute [local irreducible] y6 Hold x5
theorem zOU {s : Str} (v : ValidN s) : 1 ≤ (zMh s).length ∧ (zMh s).length ≤ 12 := by
 have h := zAW v
 unfold w5 at h
 simp only [Bool.and_eq_true, decide_eq_true_eq] at h
 exact ⟨h.1, h.2.1⟩
def zOI (l : List Str) (s own : Str) (j : Nat) (g : Bool) : Prop := g = !(l.take j).any (zQl s own)
theorem zPV {l : List Str} {s own : Str} {j : Nat} {g : Bool} (hj : j < l.length) (h : zOI l s own j g) : zOI l s own (j + 1) (g && !zQl s own (l.getD j default)) := by
 unfold zOI at h ⊢
 rw [B2 hj, List.any_append, h]; simp
theorem zO7 (l : List Str) (hv : ∀ s, s ∈ l → ValidN s) (h6 : l.length ≤ 6) (k : Nat) (hk : k < l.length) (n : Nat) (hn : 1 ≤ n) (hn2 : n ≤ 1000) :
  zMf prog 82 [y8 l, iV k, iV n] [] (.tup [sV (zON l (zMh (l.getD k default)) n), bV (V7 l (zMh (l.getD k default)) n).isSome]) [] := by
 have sk := zDb _ (hv _ (j9 hk))
 obtain ⟨hk1, hk12⟩ := zOU (hv _ (j9 hk))
 have sks := fun j (hj : j < l.length) => zDb _ (hv _ (j9 hj))
 have hks := fun j (hj : j < l.length) => zOU (hv _ (j9 hj))
 have hki : (k : Int) < (l.length : Int) := by omega
 generalize zMh (l.getD k default) = own at *
 clear hv
 by_cases q : own.length ≤ n
 ·have e1 : zON l own n = [] := if_pos q
  have e2 : V7 l own n = none := by unfold V7; rw [if_pos q]
  have qi : (n : Int) ≥ (own.length : Int) := by omega
  rw [e1, e2, Option.isSome_none]
  clear e1 e2 sks hks
  refine q9 func82 rfl (fun E hE => ?_); simp only [go_sem, ntmps82]
  repeat' (first | (refine Qr rfl ?_; try intro _ hK; try simp only [go_sem, *]) | (refine Qi rfl rfl rfl rfl ?_ ?_ <;> (intro hb; (try intro _ hK); have hc := hb; try simp only [go_sem] at hc; simp only [go_sem, *])) | refine Qh rfl ?_ | refine Qd rfl (by kernel_rfl) ?_ | (refine Qc rfl rfl ?_ ?_ <;> (intro hb; have hc := hb; try simp only [go_sem] at hc)) | refine q8 rfl ?_ | (refine Qb ?_ ?_; focus kernel_rfl) | (refine y5 (sk) ?_; simp only [go_sem, *]) | ((with_reducible apply And.intro); focus omega) | (refine q7 hK ?_; clear hK; simp only [go_sem, *]) | simp only [q6, z8, go_sem, *])
  all_goals first | contradiction | omega | skip
  (refine ⟨[_, _], [], [], ⟨rfl, rfl, trivial⟩, ?_⟩; simp only [go_sem, *])
 ·have e1 : zON l own n = (V7 l own n).getD [] ++ [46] := if_neg q
  have h0 : zOD l own none ((X1 (n - 1) (own.drop 1)).drop 0) = V7 l own n := (zPM q).symm
  have qi : ¬ (n : Int) ≥ (own.length : Int) := by omega
  have sp := zPB (n - 1) (own.drop 1) (by omega) (by simp; omega)
  have hRl := zOZ (n := n - 1) (s := own.drop 1) (by simp; omega)
  have hol := fun x (h : x ∈ X1 (n - 1) (own.drop 1)) => zOs h
  have hw1 : IntKind.i64.wrap ((n : Int) - 1) = ((n - 1 : Nat) : Int) := by rw [wrap_i64 (by omega) (by omega)]; omega
  rw [e1]
  clear e1
  generalize V7 l own n = T at *
  generalize X1 (n - 1) (own.drop 1) = R at *
  refine q9 func82 rfl (fun E hE => ?_); simp only [go_sem, ntmps82]
  repeat' (first | (refine Qr rfl ?_; try intro _ hK; try simp only [go_sem, *]) | (refine Qi rfl rfl rfl rfl ?_ ?_ <;> (intro hb; (try intro _ hK); have hc := hb; try simp only [go_sem] at hc; simp only [go_sem, *])) | refine Qh rfl ?_ | refine Qd rfl (by kernel_rfl) ?_ | (refine Qc rfl rfl ?_ ?_ <;> (intro hb; have hc := hb; try simp only [go_sem] at hc)) | refine q8 rfl ?_ | (refine Qb ?_ ?_; focus kernel_rfl) | (refine y5 (sk) ?_; simp only [go_sem, *]) | (refine j8 (sp) ?_; simp only [go_sem, *]) | ((with_reducible apply And.intro); focus omega) | (refine q7 hK ?_; clear hK; simp only [go_sem, *]) | simp only [q6, z8, go_sem, *])
  all_goals first | contradiction | omega | skip
  refine a7 rfl (R.length) (fun i (B : Option Str) => zOD l own B (R.drop i) = T ∧ (B.getD []).length ≤ 1000) 83 (fun i B => [(12, iV i), (11, .own 0 1 0 R.length), (10, bV B.isSome), (9, sV (B.getD [])), (8, sV own), (0, y8 l), (1, iV k), (2, iV n)]) (fun i B => [.row 1 (R.map sV)]) [some 0] [] (none) (by exact ⟨h0, by simp⟩) ?_; intro i B hi hP
  clear h0 sk sp
  obtain ⟨hP, hBl⟩ := hP
  by_cases hi2 : i < R.length
  ·have hii : (i : Int) < (R.length : Int) := by omega
   have hwi : IntKind.i64.wrap ((i : Int) + 1) = ((i + 1 : Nat) : Int) := r7 (by omega)
   have hxl := hol _ (j9 hi2)
   rw [j4 hi2] at hP
   generalize hxe : R.getD i default = x at *
   obtain ⟨s, hs⟩ : ∃ s, own.take 1 ++ x = s := ⟨_, rfl⟩
   have hsl : 0 < s.length ∧ s.length ≤ 1000 := by rw [← hs]; simp; omega
   have sA := fun j (hj : j < l.length) => zPw s (zMh (l.getD j default)) hsl.1 hsl.2 (by have := hks j hj; omega)
   repeat' (first | (refine Qr rfl ?_; try intro _ hK; try simp only [go_sem, *]) | (refine Qi rfl rfl rfl rfl ?_ ?_ <;> (intro hb; (try intro _ hK); have hc := hb; try simp only [go_sem] at hc; simp only [go_sem, *])) | refine Qh rfl ?_ | refine Qd rfl (by kernel_rfl) ?_ | (refine Qc rfl rfl ?_ ?_ <;> (intro hb; have hc := hb; try simp only [go_sem] at hc)) | refine q8 rfl ?_ | (refine Qb ?_ ?_; focus kernel_rfl) | ((with_reducible apply And.intro); focus omega) | (refine q7 hK ?_; clear hK; simp only [go_sem, *]) | simp only [q6, z8, go_sem, *])
   all_goals first | contradiction | omega | skip
   refine a7 rfl (l.length) (fun j (g : Bool) => zOI l s own j g) 83 (fun j g => [(15, iV j), (14, bV g), (13, sV s), (12, iV i), (11, .own 0 1 0 R.length), (10, bV B.isSome), (9, sV (B.getD [])), (8, sV own), (0, y8 l), (1, iV k), (2, iV n)]) (fun j g => [.row 1 (R.map sV)]) [some 0] [] (true) (by exact rfl) ?_; intro j g hj hQ
   by_cases hj2 : j < l.length
   ·have hjj : (j : Int) < (l.length : Int) := by omega
    have hwj : IntKind.i64.wrap ((j : Int) + 1) = ((j + 1 : Nat) : Int) := r7 (by omega)
    have hQ2 := zPV hj2 hQ
    have k1 := sks j hj2
    have a1 := sA j hj2
    unfold zQl at hQ2
    clear hQ hP sks sA hks hol
    generalize hye : l.getD j default = y at *
    generalize zMh y = ky at *
    cases g
    ·have hQ2 : zOI l s own (j + 1) false := hQ2
     repeat' (first | (refine Qr rfl ?_; try intro _ hK; try simp only [go_sem, *]) | (refine Qi rfl rfl rfl rfl ?_ ?_ <;> (intro hb; (try intro _ hK); have hc := hb; try simp only [go_sem] at hc; simp only [go_sem, *])) | refine Qh rfl ?_ | refine Qd rfl (by kernel_rfl) ?_ | (refine Qc rfl rfl ?_ ?_ <;> (intro hb; have hc := hb; try simp only [go_sem] at hc)) | refine q8 rfl ?_ | (refine Qb ?_ ?_; focus kernel_rfl) | ((with_reducible apply And.intro); focus omega) | (refine q7 hK ?_; clear hK; simp only [go_sem, *]) | simp only [q6, z8, go_sem, *])
     all_goals first | contradiction | omega | skip
     exact n0 (i' := j + 1) [some 0] [] (false) (by exact hQ2)
    ·by_cases q2 : ky = own
     ·have qb : (ky == own) = true := by simpa using q2
      have hQ2 : zOI l s own (j + 1) true := by rw [decide_eq_true q2] at hQ2; exact hQ2
      clear q2 a1
      repeat' (first | (refine Qr rfl ?_; try intro _ hK; try simp only [go_sem, *]) | (refine Qi rfl rfl rfl rfl ?_ ?_ <;> (intro hb; (try intro _ hK); have hc := hb; try simp only [go_sem] at hc; simp only [go_sem, *])) | refine Qh rfl ?_ | refine Qd rfl (by kernel_rfl) ?_ | (refine Qc rfl rfl ?_ ?_ <;> (intro hb; have hc := hb; try simp only [go_sem] at hc)) | refine q8 rfl ?_ | (refine Qb ?_ ?_; focus kernel_rfl) | (refine y5 (k1) ?_; simp only [go_sem, *]) | ((with_reducible apply And.intro); focus omega) | (refine q7 hK ?_; clear hK; simp only [go_sem, *]) | simp only [q6, z8, go_sem, *])
      all_goals first | contradiction | omega | skip
      exact n0 (i' := j + 1) [some 0] [] (true) (by exact hQ2)
     ·have qb : (ky == own) = false := by simpa using q2
      rw [decide_eq_false q2] at hQ2
      generalize X5 s ky = st at *
      have hQ2 : zOI l s own (j + 1) (!st) := by simpa using hQ2
      clear q2
      repeat' (first | (refine Qr rfl ?_; try intro _ hK; try simp only [go_sem, *]) | (refine Qi rfl rfl rfl rfl ?_ ?_ <;> (intro hb; (try intro _ hK); have hc := hb; try simp only [go_sem] at hc; simp only [go_sem, *])) | refine Qh rfl ?_ | refine Qd rfl (by kernel_rfl) ?_ | (refine Qc rfl rfl ?_ ?_ <;> (intro hb; have hc := hb; try simp only [go_sem] at hc)) | refine q8 rfl ?_ | (refine Qb ?_ ?_; focus kernel_rfl) | ((first | refine y5 (k1) ?_ | refine y5 (a1) ?_); simp only [go_sem, *]) | ((with_reducible apply And.intro); focus omega) | (refine q7 hK ?_; clear hK; simp only [go_sem, *]) | simp only [q6, z8, go_sem, *])
      all_goals first | contradiction | omega | skip
      exact n0 (i' := j + 1) [some 0] [] (!st) (by exact hQ2)
   ·have hjj : ¬ (j : Int) < (l.length : Int) := by omega
    have hg : l9 s l own = !g := by
     unfold zOI at hQ
     rw [List.take_of_length_le (by omega)] at hQ
     rw [zPW, hQ]; simp
    rw [← hs] at hg
    clear hQ sks hks sA hol
    cases g
    ·rw [zPH hg] at hP
     clear hg
     repeat' (first | (refine Qr rfl ?_; try intro _ hK; try simp only [go_sem, *]) | (refine Qi rfl rfl rfl rfl ?_ ?_ <;> (intro hb; (try intro _ hK); have hc := hb; try simp only [go_sem] at hc; simp only [go_sem, *])) | refine Qh rfl ?_ | refine Qd rfl (by kernel_rfl) ?_ | (refine Qc rfl rfl ?_ ?_ <;> (intro hb; have hc := hb; try simp only [go_sem] at hc)) | refine q8 rfl ?_ | (refine Qb ?_ ?_; focus kernel_rfl) | ((with_reducible apply And.intro); focus omega) | (refine q7 hK ?_; clear hK; simp only [go_sem, *]) | simp only [q6, z8, go_sem, *])
     all_goals first | contradiction | omega | skip
     exact n0 (i' := i + 1) [some 0] [] (B) (by exact ⟨hP, hBl⟩)
    ·have hg : l9 (own.take 1 ++ x) l own = false := hg
     cases B with
     | none =>
      rw [zPI hg, hs] at hP
      clear hg
      simp only [Option.isSome_none, Option.getD_none]
      repeat' (first | (refine Qr rfl ?_; try intro _ hK; try simp only [go_sem, *]) | (refine Qi rfl rfl rfl rfl ?_ ?_ <;> (intro hb; (try intro _ hK); have hc := hb; try simp only [go_sem] at hc; simp only [go_sem, *])) | refine Qh rfl ?_ | refine Qd rfl (by kernel_rfl) ?_ | (refine Qc rfl rfl ?_ ?_ <;> (intro hb; have hc := hb; try simp only [go_sem] at hc)) | refine q8 rfl ?_ | (refine Qb ?_ ?_; focus kernel_rfl) | ((with_reducible apply And.intro); focus omega) | (refine q7 hK ?_; clear hK; simp only [go_sem, *]) | simp only [q6, z8, go_sem, *])
      all_goals first | contradiction | omega | skip
      exact n0 (i' := i + 1) [some 0] [] (some s) (by exact ⟨hP, hsl.2⟩)
     | some b =>
      simp only [Option.isSome_some, Option.getD_some]
      cases hlt : u0 s b with
      | true =>
       rw [zPJ hg (by rw [hs]; exact hlt), hs] at hP
       clear hg
       repeat' (first | (refine Qr rfl ?_; try intro _ hK; try simp only [go_sem, *]) | (refine Qi rfl rfl rfl rfl ?_ ?_ <;> (intro hb; (try intro _ hK); have hc := hb; try simp only [go_sem] at hc; simp only [go_sem, *])) | refine Qh rfl ?_ | refine Qd rfl (by kernel_rfl) ?_ | (refine Qc rfl rfl ?_ ?_ <;> (intro hb; have hc := hb; try simp only [go_sem] at hc)) | refine q8 rfl ?_ | (refine Qb ?_ ?_; focus kernel_rfl) | ((with_reducible apply And.intro); focus omega) | (refine q7 hK ?_; clear hK; simp only [go_sem, *]) | simp only [q6, z8, go_sem, *])
       all_goals first | contradiction | omega | skip
       exact n0 (i' := i + 1) [some 0] [] (some s) (by exact ⟨hP, hsl.2⟩)
      | false =>
       rw [zPK hg (by rw [hs]; exact hlt)] at hP
       clear hg
       repeat' (first | (refine Qr rfl ?_; try intro _ hK; try simp only [go_sem, *]) | (refine Qi rfl rfl rfl rfl ?_ ?_ <;> (intro hb; (try intro _ hK); have hc := hb; try simp only [go_sem] at hc; simp only [go_sem, *])) | refine Qh rfl ?_ | refine Qd rfl (by kernel_rfl) ?_ | (refine Qc rfl rfl ?_ ?_ <;> (intro hb; have hc := hb; try simp only [go_sem] at hc)) | refine q8 rfl ?_ | (refine Qb ?_ ?_; focus kernel_rfl) | ((with_reducible apply And.intro); focus omega) | (refine q7 hK ?_; clear hK; simp only [go_sem, *]) | simp only [q6, z8, go_sem, *])
       all_goals first | contradiction | omega | skip
       exact n0 (i' := i + 1) [some 0] [] (some b) (by exact ⟨hP, hBl⟩)
  ·have hii : ¬ (i : Int) < (R.length : Int) := by omega
   rw [d7 (by omega), zPL] at hP
   subst hP
   clear sks hks hol
   repeat' (first | (refine Qr rfl ?_; try intro _ hK; try simp only [go_sem, *]) | (refine Qi rfl rfl rfl rfl ?_ ?_ <;> (intro hb; (try intro _ hK); have hc := hb; try simp only [go_sem] at hc; simp only [go_sem, *])) | refine Qh rfl ?_ | refine Qd rfl (by kernel_rfl) ?_ | (refine Qc rfl rfl ?_ ?_ <;> (intro hb; have hc := hb; try simp only [go_sem] at hc)) | refine q8 rfl ?_ | (refine Qb ?_ ?_; focus kernel_rfl) | ((with_reducible apply And.intro); focus omega) | (refine q7 hK ?_; clear hK; simp only [go_sem, *]) | simp only [q6, z8, go_sem, *])
   all_goals first | contradiction | omega | skip
   (refine ⟨[_, _], [], [], ⟨rfl, rfl, trivial⟩, ?_⟩; simp only [go_sem, *])
theorem zP0 (l : List Str) (z : Int) (hl : l.length ≤ 4294967296) (hx : ∀ s, s ∈ l → s.length ≤ 4294967296) :
  zMf prog 30 [y8 l, iV z] [] (.tup [sV (zAy l z), iV (zAx l z)]) [] := by
 have s1 := zMT l hl hx
 unfold zAy zAx
 by_cases q : v8 l = 0
 ·by_cases q2 : z < 0 ∨ (l.length : Int) ≤ z
  ·have e : f7 l z = 3 := by unfold f7; rw [if_pos q, if_pos q2]
   rw [e, if_neg (by decide), if_neg (by decide)]
   rw [q] at s1
   clear e hx
   by_cases q3 : z < 0
   ·refine q9 func30 rfl (fun E hE => ?_); simp only [go_sem, ntmps30]
    repeat' (first | (refine Qr rfl ?_; try intro _ hK; try simp only [go_sem, *]) | (refine Qi rfl rfl rfl rfl ?_ ?_ <;> (intro hb; (try intro _ hK); have hc := hb; try simp only [go_sem] at hc; simp only [go_sem, *])) | refine Qh rfl ?_ | (refine Qc rfl rfl ?_ ?_ <;> (intro hb; have hc := hb; try simp only [go_sem] at hc)) | refine q8 rfl ?_ | (refine y5 (s1) ?_; simp only [go_sem, *]) | ((with_reducible apply And.intro); focus omega) | (refine q7 hK ?_; clear hK; simp only [go_sem, *]) | simp only [q6, z8, go_sem, *])
    all_goals first | contradiction | omega | skip
    (refine ⟨[_, _], [], [], ⟨rfl, rfl, trivial⟩, ?_⟩; simp only [go_sem, *])
   ·have q4 : z ≥ (l.length : Int) := by omega
    refine q9 func30 rfl (fun E hE => ?_); simp only [go_sem, ntmps30]
    repeat' (first | (refine Qr rfl ?_; try intro _ hK; try simp only [go_sem, *]) | (refine Qi rfl rfl rfl rfl ?_ ?_ <;> (intro hb; (try intro _ hK); have hc := hb; try simp only [go_sem] at hc; simp only [go_sem, *])) | refine Qh rfl ?_ | (refine Qc rfl rfl ?_ ?_ <;> (intro hb; have hc := hb; try simp only [go_sem] at hc)) | refine q8 rfl ?_ | (refine y5 (s1) ?_; simp only [go_sem, *]) | ((with_reducible apply And.intro); focus omega) | (refine q7 hK ?_; clear hK; simp only [go_sem, *]) | simp only [q6, z8, go_sem, *])
    all_goals first | contradiction | omega | skip
    (refine ⟨[_, _], [], [], ⟨rfl, rfl, trivial⟩, ?_⟩; simp only [go_sem, *])
  ·have e : f7 l z = 0 := by unfold f7; rw [if_pos q, if_neg q2]
   obtain ⟨k, rfl⟩ : ∃ k : Nat, z = k := ⟨z.toNat, by omega⟩
   have hk : k < l.length := by omega
   have ek : p5 l (k : Int) = zMh (l.getD k default) := rfl
   rw [e, if_pos rfl, if_pos rfl, ek]
   rw [q] at s1
   have hv := E7 q
   have h6 := E6 q
   have sb := fun n (h1 : 1 ≤ n) (h2 : n ≤ 1000) => zO7 l hv h6 k hk n h1 h2
   have h0 : r8 (V7 l (zMh (l.getD k default))) (List.range' (0 + 1) (12 - 0)) = zMr l (zMh (l.getD k default)) 12 true := zME l _
   generalize zMh (l.getD k default) = own at *
   generalize zMr l own 12 true = T at *
   have z0 : ¬ (k : Int) < 0 := by omega
   have z1 : ¬ (k : Int) ≥ (l.length : Int) := by omega
   clear e ek hv h6 hx q q2
   refine q9 func30 rfl (fun E hE => ?_); simp only [go_sem, ntmps30]
   repeat' (first | (refine Qr rfl ?_; try intro _ hK; try simp only [go_sem, *]) | (refine Qi rfl rfl rfl rfl ?_ ?_ <;> (intro hb; (try intro _ hK); have hc := hb; try simp only [go_sem] at hc; simp only [go_sem, *])) | refine Qh rfl ?_ | (refine Qc rfl rfl ?_ ?_ <;> (intro hb; have hc := hb; try simp only [go_sem] at hc)) | refine q8 rfl ?_ | (refine y5 (s1) ?_; simp only [go_sem, *]) | ((with_reducible apply And.intro); focus omega) | (refine q7 hK ?_; clear hK; simp only [go_sem, *]) | simp only [q6, z8, go_sem, *])
   all_goals first | contradiction | omega | skip
   refine o9 rfl (12) (fun i => r8 (V7 l own) (List.range' (i + 1) (12 - i)) = T) 36 (fun i => [(7, iV ((i + 1 : Nat) : Int)), (0, y8 l), (1, iV k)]) (fun i => []) [] [] (by exact h0) ?_; intro i hi hP
   clear h0 s1
   by_cases hi2 : i < 12
   ·have hii : ((i + 1 : Nat) : Int) ≤ 12 := by omega
    have hwi : IntKind.i64.wrap (((i + 1 : Nat) : Int) + 1) = ((i + 1 + 1 : Nat) : Int) := r7 (by omega)
    have s2 := sb (i + 1) (by omega) (by omega)
    rw [show 12 - i = (12 - (i + 1)) + 1 by omega, List.range'_succ, r8] at hP
    unfold zON at s2
    clear sb
    cases hb : V7 l own (i + 1) with
    | none =>
     rw [hb] at hP s2
     simp only [Option.isSome_none] at s2
     generalize (if own.length ≤ i + 1 then ([] : Str) else (none : Option Str).getD [] ++ [46]) = V at *
     have hP : r8 (V7 l own) (List.range' (i + 1 + 1) (12 - (i + 1))) = T := hP
     clear hb
     repeat' (first | (refine Qr rfl ?_; try intro _ hK; try simp only [go_sem, *]) | (refine Qi rfl rfl rfl rfl ?_ ?_ <;> (intro hb; (try intro _ hK); have hc := hb; try simp only [go_sem] at hc; simp only [go_sem, *])) | refine Qh rfl ?_ | (refine Qc rfl rfl ?_ ?_ <;> (intro hb; have hc := hb; try simp only [go_sem] at hc)) | refine q8 rfl ?_ | (refine y5 (s2) ?_; simp only [go_sem, *]) | ((with_reducible apply And.intro); focus omega) | (refine q7 hK ?_; clear hK; simp only [go_sem, *]) | simp only [q6, z8, go_sem, *])
     all_goals first | contradiction | omega | skip
     exact f8 (i' := i + 1) [] [] (by exact hP)
    | some s =>
     rw [hb] at hP s2
     have hne : ¬ own.length ≤ i + 1 := fun h => by
      unfold V7 at hb
      rw [if_pos h] at hb; cases hb
     rw [if_neg hne] at s2
     simp only [Option.isSome_some, Option.getD_some] at s2
     have hP : some s = T := hP
     subst hP
     have e1 : (Option.map zNd (some s)).getD [] = s ++ [46] := rfl
     rw [e1]
     simp only [Option.isSome_some, if_true]
     clear hb hne e1
     repeat' (first | (refine Qr rfl ?_; try intro _ hK; try simp only [go_sem, *]) | (refine Qi rfl rfl rfl rfl ?_ ?_ <;> (intro hb; (try intro _ hK); have hc := hb; try simp only [go_sem] at hc; simp only [go_sem, *])) | refine Qh rfl ?_ | (refine Qc rfl rfl ?_ ?_ <;> (intro hb; have hc := hb; try simp only [go_sem] at hc)) | refine q8 rfl ?_ | (refine y5 (s2) ?_; simp only [go_sem, *]) | ((with_reducible apply And.intro); focus omega) | (refine q7 hK ?_; clear hK; simp only [go_sem, *]) | simp only [q6, z8, go_sem, *])
     all_goals first | contradiction | omega | skip
     (refine ⟨[_, _], [], [], ⟨rfl, rfl, trivial⟩, ?_⟩; simp only [go_sem, *])
   ·have hii : ¬ ((i + 1 : Nat) : Int) ≤ 12 := by omega
    rw [show 12 - i = 0 by omega] at hP
    have hP : none = T := hP
    subst hP
    have e1 : (Option.map zNd (none : Option Str)).getD [] = [] := rfl
    rw [e1]
    simp only [Option.isSome_none, Bool.false_eq_true, if_false]
    clear sb e1
    repeat' (first | (refine Qr rfl ?_; try intro _ hK; try simp only [go_sem, *]) | (refine Qi rfl rfl rfl rfl ?_ ?_ <;> (intro hb; (try intro _ hK); have hc := hb; try simp only [go_sem] at hc; simp only [go_sem, *])) | refine Qh rfl ?_ | (refine Qc rfl rfl ?_ ?_ <;> (intro hb; have hc := hb; try simp only [go_sem] at hc)) | refine q8 rfl ?_ | ((with_reducible apply And.intro); focus omega) | (refine q7 hK ?_; clear hK; simp only [go_sem, *]) | simp only [q6, z8, go_sem, *])
    all_goals first | contradiction | omega | skip
    (refine ⟨[_, _], [], [], ⟨rfl, rfl, trivial⟩, ?_⟩; simp only [go_sem, *])
 ·have e : f7 l z = v8 l := by unfold f7; rw [if_neg q]
  rw [e, if_neg q, if_neg q]
  generalize v8 l = e' at *
  clear hx e
  refine q9 func30 rfl (fun E hE => ?_); simp only [go_sem, ntmps30]
  repeat' (first | (refine Qr rfl ?_; try intro _ hK; try simp only [go_sem, *]) | (refine Qi rfl rfl rfl rfl ?_ ?_ <;> (intro hb; (try intro _ hK); have hc := hb; try simp only [go_sem] at hc; simp only [go_sem, *])) | refine Qh rfl ?_ | (refine Qc rfl rfl ?_ ?_ <;> (intro hb; have hc := hb; try simp only [go_sem] at hc)) | refine q8 rfl ?_ | (refine y5 (s1) ?_; simp only [go_sem, *]) | ((with_reducible apply And.intro); focus omega) | (refine q7 hK ?_; clear hK; simp only [go_sem, *]) | simp only [q6, z8, go_sem, *])
  all_goals first | contradiction | omega | skip
  (refine ⟨[_, _], [], [], ⟨rfl, rfl, trivial⟩, ?_⟩; simp only [go_sem, *])
theorem zPx (l : List Str) (z w : Int) (hl : l.length ≤ 4294967296) (hx : ∀ s, s ∈ l → s.length ≤ 4294967296) :
  zMf prog 32 [y8 l, iV z, iV w] [] (.tup [sV (zNm l z w), iV (zAH l z w)]) [] := by
 have s1 := zMT l hl hx
 unfold zNm zAH
 by_cases q : v8 l = 0
 ·by_cases q2 : z < 0 ∨ (l.length : Int) ≤ z
  ·have e : f7 l z = 3 := by unfold f7; rw [if_pos q, if_pos q2]
   rw [e, if_neg (by decide), if_neg (by decide)]
   rw [q] at s1
   clear e hx
   by_cases q3 : z < 0
   ·refine q9 func32 rfl (fun E hE => ?_); simp only [go_sem, ntmps32]
    repeat' (first | (refine Qr rfl ?_; try intro _ hK; try simp only [go_sem, *]) | (refine Qi rfl rfl rfl rfl ?_ ?_ <;> (intro hb; (try intro _ hK); have hc := hb; try simp only [go_sem] at hc; simp only [go_sem, *])) | refine Qh rfl ?_ | (refine Qc rfl rfl ?_ ?_ <;> (intro hb; have hc := hb; try simp only [go_sem] at hc)) | refine q8 rfl ?_ | (refine y5 (s1) ?_; simp only [go_sem, *]) | ((with_reducible apply And.intro); focus omega) | (refine q7 hK ?_; clear hK; simp only [go_sem, *]) | simp only [q6, z8, go_sem, *])
    all_goals first | contradiction | omega | skip
    (refine ⟨[_, _], [], [], ⟨rfl, rfl, trivial⟩, ?_⟩; simp only [go_sem, *])
   ·have q4 : z ≥ (l.length : Int) := by omega
    refine q9 func32 rfl (fun E hE => ?_); simp only [go_sem, ntmps32]
    repeat' (first | (refine Qr rfl ?_; try intro _ hK; try simp only [go_sem, *]) | (refine Qi rfl rfl rfl rfl ?_ ?_ <;> (intro hb; (try intro _ hK); have hc := hb; try simp only [go_sem] at hc; simp only [go_sem, *])) | refine Qh rfl ?_ | (refine Qc rfl rfl ?_ ?_ <;> (intro hb; have hc := hb; try simp only [go_sem] at hc)) | refine q8 rfl ?_ | (refine y5 (s1) ?_; simp only [go_sem, *]) | ((with_reducible apply And.intro); focus omega) | (refine q7 hK ?_; clear hK; simp only [go_sem, *]) | simp only [q6, z8, go_sem, *])
    all_goals first | contradiction | omega | skip
    (refine ⟨[_, _], [], [], ⟨rfl, rfl, trivial⟩, ?_⟩; simp only [go_sem, *])
  ·have e : f7 l z = 0 := by unfold f7; rw [if_pos q, if_neg q2]
   obtain ⟨k, rfl⟩ : ∃ k : Nat, z = k := ⟨z.toNat, by omega⟩
   have hk : k < l.length := by omega
   have ek : p5 l (k : Int) = zMh (l.getD k default) := rfl
   rw [e, if_pos rfl, if_pos rfl, ek]
   rw [q] at s1
   have hv := E7 q
   have h6 := E6 q
   have sk := zDb _ (hv _ (j9 hk))
   obtain ⟨hk1, hk12⟩ := zOU (hv _ (j9 hk))
   have sb := fun n (h1 : 1 ≤ n) (h2 : n ≤ 1000) => zO7 l hv h6 k hk n h1 h2
   have z0 : ¬ (k : Int) < 0 := by omega
   have z1 : ¬ (k : Int) ≥ (l.length : Int) := by omega
   clear e ek hv h6 hx q q2
   by_cases w1 : w < 1
   ·rw [if_pos w1, if_pos w1]
    clear sb
    refine q9 func32 rfl (fun E hE => ?_); simp only [go_sem, ntmps32]
    repeat' (first | (refine Qr rfl ?_; try intro _ hK; try simp only [go_sem, *]) | (refine Qi rfl rfl rfl rfl ?_ ?_ <;> (intro hb; (try intro _ hK); have hc := hb; try simp only [go_sem] at hc; simp only [go_sem, *])) | refine Qh rfl ?_ | (refine Qc rfl rfl ?_ ?_ <;> (intro hb; have hc := hb; try simp only [go_sem] at hc)) | refine q8 rfl ?_ | (refine y5 (s1) ?_; simp only [go_sem, *]) | ((with_reducible apply And.intro); focus omega) | (refine q7 hK ?_; clear hK; simp only [go_sem, *]) | simp only [q6, z8, go_sem, *])
    all_goals first | contradiction | omega | skip
    (refine ⟨[_, _], [], [], ⟨rfl, rfl, trivial⟩, ?_⟩; simp only [go_sem, *])
   ·rw [if_neg w1, if_neg w1]
    have hf := fun n => zKB l (zMh (l.getD k default)) n
    generalize zMh (l.getD k default) = own at *
    by_cases w2 : (own.length : Int) ≤ w
    ·rw [if_pos w2, if_pos w2]
     clear sb hf
     refine q9 func32 rfl (fun E hE => ?_); simp only [go_sem, ntmps32]
     repeat' (first | (refine Qr rfl ?_; try intro _ hK; try simp only [go_sem, *]) | (refine Qi rfl rfl rfl rfl ?_ ?_ <;> (intro hb; (try intro _ hK); have hc := hb; try simp only [go_sem] at hc; simp only [go_sem, *])) | refine Qh rfl ?_ | (refine Qc rfl rfl ?_ ?_ <;> (intro hb; have hc := hb; try simp only [go_sem] at hc)) | refine q8 rfl ?_ | (refine y5 (s1) ?_; simp only [go_sem, *]) | (refine p9 (sk) ?_ ?_; (focus (simp only [go_sem, *]; done)); simp only [go_sem, *]) | ((with_reducible apply And.intro); focus omega) | (refine q7 hK ?_; clear hK; simp only [go_sem, *]) | simp only [q6, z8, go_sem, *])
     all_goals first | contradiction | omega | skip
     (refine ⟨[_, _], [], [], ⟨rfl, rfl, trivial⟩, ?_⟩; simp only [go_sem, *])
    ·rw [if_neg w2, if_neg w2]
     obtain ⟨n, rfl⟩ : ∃ n : Nat, w = ((n + 1 : Nat) : Int) := ⟨(w - 1).toNat, by omega⟩
     have hn : n ≤ 12 := by omega
     have en : ((n + 1 : Nat) : Int) - 1 = (n : Int) := by omega
     have h0 : r8 (V7 l own) (R2 (n - 0)) = zMr l own (n : Int) false := hf n
     have hwn : IntKind.i64.wrap (((n + 1 : Nat) : Int) - 1) = ((n - 0 : Nat) : Int) := by rw [wrap_i64 (by omega) (by omega)]; omega
     rw [en]
     generalize zMr l own (n : Int) false = T at *
     clear hf en
     refine q9 func32 rfl (fun E hE => ?_); simp only [go_sem, ntmps32]
     repeat' (first | (refine Qr rfl ?_; try intro _ hK; try simp only [go_sem, *]) | (refine Qi rfl rfl rfl rfl ?_ ?_ <;> (intro hb; (try intro _ hK); have hc := hb; try simp only [go_sem] at hc; simp only [go_sem, *])) | refine Qh rfl ?_ | (refine Qc rfl rfl ?_ ?_ <;> (intro hb; have hc := hb; try simp only [go_sem] at hc)) | refine q8 rfl ?_ | (refine y5 (s1) ?_; simp only [go_sem, *]) | (refine p9 (sk) ?_ ?_; (focus (simp only [go_sem, *]; done)); simp only [go_sem, *]) | ((with_reducible apply And.intro); focus omega) | (refine q7 hK ?_; clear hK; simp only [go_sem, *]) | simp only [q6, z8, go_sem, *])
     all_goals first | contradiction | omega | skip
     refine o9 rfl (n) (fun i => r8 (V7 l own) (R2 (n - i)) = T) 55 (fun i => [(9, iV ((n - i : Nat) : Int)), (0, y8 l), (1, iV k), (2, iV ((n + 1 : Nat) : Int))]) (fun i => []) [] [] (by exact h0) ?_; intro i hi hP
     clear h0 s1 sk hwn w1 w2
     by_cases hi2 : i < n
     ·obtain ⟨m, hm⟩ : ∃ m, n - i = m + 1 := ⟨n - i - 1, by omega⟩
      have hii : ((m + 1 : Nat) : Int) ≥ 1 := by omega
      have hwi : IntKind.i64.wrap (((m + 1 : Nat) : Int) - 1) = (m : Int) := by rw [wrap_i64 (by omega) (by omega)]; omega
      have hm2 : n - (i + 1) = m := by omega
      have s2 := sb (m + 1) (by omega) (by omega)
      rw [hm, R2, r8] at hP
      rw [hm]
      unfold zON at s2
      clear sb
      cases hb : V7 l own (m + 1) with
      | none =>
       rw [hb] at hP s2
       simp only [Option.isSome_none] at s2
       generalize (if own.length ≤ m + 1 then ([] : Str) else (none : Option Str).getD [] ++ [46]) = V at *
       have hP : r8 (V7 l own) (R2 (n - (i + 1))) = T := by rw [hm2]; exact hP
       clear hb
       repeat' (first | (refine Qr rfl ?_; try intro _ hK; try simp only [go_sem, *]) | (refine Qi rfl rfl rfl rfl ?_ ?_ <;> (intro hb; (try intro _ hK); have hc := hb; try simp only [go_sem] at hc; simp only [go_sem, *])) | refine Qh rfl ?_ | (refine Qc rfl rfl ?_ ?_ <;> (intro hb; have hc := hb; try simp only [go_sem] at hc)) | refine q8 rfl ?_ | (refine y5 (s2) ?_; simp only [go_sem, *]) | ((with_reducible apply And.intro); focus omega) | (refine q7 hK ?_; clear hK; simp only [go_sem, *]) | simp only [q6, z8, go_sem, *])
       all_goals first | contradiction | omega | skip
       exact f8 (i' := i + 1) [] [] (by exact hP)
      | some s =>
       rw [hb] at hP s2
       have hne : ¬ own.length ≤ m + 1 := fun h => by
        unfold V7 at hb
        rw [if_pos h] at hb; cases hb
       rw [if_neg hne] at s2
       simp only [Option.isSome_some, Option.getD_some] at s2
       have hP : some s = T := hP
       subst hP
       have e1 : (Option.map zNd (some s)).getD [] = s ++ [46] := rfl
       rw [e1]
       simp only [Option.isSome_some, if_true]
       clear hb hne e1
       repeat' (first | (refine Qr rfl ?_; try intro _ hK; try simp only [go_sem, *]) | (refine Qi rfl rfl rfl rfl ?_ ?_ <;> (intro hb; (try intro _ hK); have hc := hb; try simp only [go_sem] at hc; simp only [go_sem, *])) | refine Qh rfl ?_ | (refine Qc rfl rfl ?_ ?_ <;> (intro hb; have hc := hb; try simp only [go_sem] at hc)) | refine q8 rfl ?_ | (refine y5 (s2) ?_; simp only [go_sem, *]) | ((with_reducible apply And.intro); focus omega) | (refine q7 hK ?_; clear hK; simp only [go_sem, *]) | simp only [q6, z8, go_sem, *])
       all_goals first | contradiction | omega | skip
       (refine ⟨[_, _], [], [], ⟨rfl, rfl, trivial⟩, ?_⟩; simp only [go_sem, *])
     ·have hii : ¬ ((n - i : Nat) : Int) ≥ 1 := by omega
      rw [show n - i = 0 by omega] at hP
      have hP : none = T := hP
      subst hP
      have e1 : (Option.map zNd (none : Option Str)).getD [] = [] := rfl
      rw [e1]
      simp only [Option.isSome_none, Bool.false_eq_true, if_false]
      clear sb e1
      repeat' (first | (refine Qr rfl ?_; try intro _ hK; try simp only [go_sem, *]) | (refine Qi rfl rfl rfl rfl ?_ ?_ <;> (intro hb; (try intro _ hK); have hc := hb; try simp only [go_sem] at hc; simp only [go_sem, *])) | refine Qh rfl ?_ | (refine Qc rfl rfl ?_ ?_ <;> (intro hb; have hc := hb; try simp only [go_sem] at hc)) | refine q8 rfl ?_ | ((with_reducible apply And.intro); focus omega) | (refine q7 hK ?_; clear hK; simp only [go_sem, *]) | simp only [q6, z8, go_sem, *])
      all_goals first | contradiction | omega | skip
      (refine ⟨[_, _], [], [], ⟨rfl, rfl, trivial⟩, ?_⟩; simp only [go_sem, *])
 ·have e : f7 l z = v8 l := by unfold f7; rw [if_neg q]
  rw [e, if_neg q, if_neg q]
  generalize v8 l = e' at *
  clear hx e
  refine q9 func32 rfl (fun E hE => ?_); simp only [go_sem, ntmps32]
  repeat' (first | (refine Qr rfl ?_; try intro _ hK; try simp only [go_sem, *]) | (refine Qi rfl rfl rfl rfl ?_ ?_ <;> (intro hb; (try intro _ hK); have hc := hb; try simp only [go_sem] at hc; simp only [go_sem, *])) | refine Qh rfl ?_ | (refine Qc rfl rfl ?_ ?_ <;> (intro hb; have hc := hb; try simp only [go_sem] at hc)) | refine q8 rfl ?_ | (refine y5 (s1) ?_; simp only [go_sem, *]) | ((with_reducible apply And.intro); focus omega) | (refine q7 hK ?_; clear hK; simp only [go_sem, *]) | simp only [q6, z8, go_sem, *])
  all_goals first | contradiction | omega | skip
  (refine ⟨[_, _], [], [], ⟨rfl, rfl, trivial⟩, ?_⟩; simp only [go_sem, *])
end Go.Abs

namespace Go.Abs
open Go Go.Proofs Tryz
attribute [local irreducible] y6 Hold x5
theorem zOm (d : Dice) (lo hi : Int) (h : b6 d) (hl : 0 ≤ lo ∧ lo ≤ hi) (hh : hi ≤ 4294967296) : ∃ (z : Int) (d' : Dice), zMf prog 27 [.ptr 0 0, iV lo, iV hi] [u6 d] (iV z) [u6 d'] ∧ b6 d' :=
 ⟨_, _, zHs d lo hi h hl hh, by unfold b6 W1; rw [o3]; exact h⟩
theorem zQe (l : List Str) (at' width : Int) (nums : List Int) (hl : l.length ≤ 1048576 ∧ ∀ s, s ∈ l → s.length ≤ 1048576) (_ha : (Lit.int .i64 at').wf = true) (_hw : (Lit.int .i64 width).wf = true) (h : nums.length ≤ 4294967296) :
  zMf prog 3 [y8 l, iV at', iV width, R5 nums] [] (bV true) [] := by
 obtain ⟨d0, s0, hd0⟩ := zJ7 nums h
 obtain ⟨l0, d1, s1, v0, hl0, hd1⟩ := zK5 d0 5 6 hd0 (by omega) (by omega)
 obtain ⟨x, d2, s2, vx, hd2⟩ := zK4 d1 6 hd1 (by omega)
 obtain ⟨L, hmap, hll, hvL, -⟩ := zK2 v0 vx
 obtain ⟨k1, d3, s3, hk1, hd3⟩ := zMb d2 (l0.length : Int) hd2 (by omega)
 obtain ⟨k2, d4, s4, hk2, hd4⟩ := zMb d3 (l0.length : Int) hd3 (by omega)
 obtain ⟨z1, d5, s5, hd5⟩ := zOm d4 1 7 hd4 (by omega) (by omega)
 obtain ⟨z2, d6, s6, hd6⟩ := zOm d5 1 7 hd5 (by omega) (by omega)
 clear v0 vx hd0 hd1 hd2 hd3 hd4 hd5 hd6 h
 have htk : List.take (l0.length + 1) (List.map sV L) = List.map sV L := List.take_of_length_le (by simp; omega)
 have hw0 : IntKind.i64.wrap (((l0.length + 1 : Nat) : Int) - 1) = (l0.length : Int) := by rw [wrap_i64 (by omega) (by omega)]; omega
 have sS := zMU
 have sL := zMR l (by omega)
 generalize zAc l = q1 at *
 refine q9 func3 rfl (fun E hE => ?_); simp only [go_sem, ntmps3]
 cases q1 with
 | true =>
  repeat' (first | (refine Qr rfl ?_; try intro _ hK; try simp only [go_sem, *]) | (refine Qi rfl rfl rfl rfl ?_ ?_ <;> (intro hb; (try intro _ hK); have hc := hb; try simp only [go_sem] at hc; simp only [go_sem, *])) | refine Qh rfl ?_ | refine Qd rfl (by kernel_rfl) ?_ | (refine Qc rfl rfl ?_ ?_ <;> (intro hb; have hc := hb; try simp only [go_sem] at hc)) | refine q8 rfl ?_ | (refine Qb ?_ ?_; focus kernel_rfl) | (refine y5 (sL) ?_; simp only [go_sem, *]) | (refine j8 (sS) ?_; simp only [go_sem, *]) | ((with_reducible apply And.intro); focus omega) | (refine q7 hK ?_; clear hK; simp only [go_sem, *]) | simp only [q6, z8, go_sem, *])
  all_goals try contradiction
  (refine ⟨[_], [], [], ⟨rfl, trivial⟩, ?_⟩; simp only [go_sem, *])
 | false =>
  repeat' (first | (refine Qr rfl ?_; try intro _ hK; try simp only [go_sem, *]) | (refine Qi rfl rfl rfl rfl ?_ ?_ <;> (intro hb; (try intro _ hK); have hc := hb; try simp only [go_sem] at hc; simp only [go_sem, *])) | refine Qh rfl ?_ | refine Qd rfl (by kernel_rfl) ?_ | (refine Qc rfl rfl ?_ ?_ <;> (intro hb; have hc := hb; try simp only [go_sem] at hc)) | refine q8 rfl ?_ | (refine Qb ?_ ?_; focus kernel_rfl) | (refine y5 (sL) ?_; simp only [go_sem, *]) | (refine j8 (s0) ?_; simp only [go_sem, *]) | ((with_reducible apply And.intro); focus omega) | (refine q7 hK ?_; clear hK; simp only [go_sem, *]) | simp only [q6, z8, go_sem, *])
  refine t8 [0] s1 ?_
  simp only [go_sem, *]
  repeat' (first | (refine Qr rfl ?_; try intro _ hK; try simp only [go_sem, *]) | (refine Qi rfl rfl rfl rfl ?_ ?_ <;> (intro hb; (try intro _ hK); have hc := hb; try simp only [go_sem] at hc; simp only [go_sem, *])) | refine Qh rfl ?_ | refine Qd rfl (by kernel_rfl) ?_ | (refine Qc rfl rfl ?_ ?_ <;> (intro hb; have hc := hb; try simp only [go_sem] at hc)) | refine q8 rfl ?_ | (refine Qb ?_ ?_; focus kernel_rfl) | ((with_reducible apply And.intro); focus omega) | (refine q7 hK ?_; clear hK; simp only [go_sem, *]) | simp only [q6, z8, go_sem, *])
  refine t8 [0] s2 ?_
  simp only [go_sem, *]
  repeat' (first | ((with_reducible refine zMV [0, 1, 1, 1, 1] ?_)) | (refine Qr rfl ?_; try intro _ hK; try simp only [go_sem, *]) | (refine Qi rfl rfl rfl rfl ?_ ?_ <;> (intro hb; (try intro _ hK); have hc := hb; try simp only [go_sem] at hc; simp only [go_sem, *])) | refine Qh rfl ?_ | refine Qd rfl (by kernel_rfl) ?_ | (refine Qc rfl rfl ?_ ?_ <;> (intro hb; have hc := hb; try simp only [go_sem] at hc)) | refine q8 rfl ?_ | (refine Qb ?_ ?_; focus kernel_rfl) | ((with_reducible apply And.intro); focus omega) | (refine q7 hK ?_; clear hK; simp only [go_sem, *]) | simp only [q6, z8, go_sem, *])
  all_goals try contradiction
  refine ⟨?_⟩
  refine R8 (N := 149) (env := [(9, .ptr 0 0), (10, y8 L), (0, y8 l), (1, iV at'), (2, iV width)]) (As := [u6 d2]) [some 0] [3] (by (simp only [Weak, go_sem, List.map_append, List.map_set, *] <;> (try simp (disch := omega) only [r7]) <;> (try simp) <;> (try omega))) ?_
  clear s0 s1 s2 htk hmap
  repeat' (first | (refine Qr rfl ?_; try intro _ hK; try simp only [go_sem, *]) | (refine Qi rfl rfl rfl rfl ?_ ?_ <;> (intro hb; (try intro _ hK); have hc := hb; try simp only [go_sem] at hc; simp only [go_sem, *])) | refine Qh rfl ?_ | refine Qd rfl (by kernel_rfl) ?_ | (refine Qc rfl rfl ?_ ?_ <;> (intro hb; have hc := hb; try simp only [go_sem] at hc)) | refine q8 rfl ?_ | (refine Qb ?_ ?_; focus kernel_rfl) | ((with_reducible apply And.intro); focus omega) | (refine q7 hK ?_; clear hK; simp only [go_sem, *]) | simp only [q6, z8, go_sem, *])
  refine t8 [0] s3 ?_
  simp only [go_sem, *]
  repeat' (first | (refine Qr rfl ?_; try intro _ hK; try simp only [go_sem, *]) | (refine Qi rfl rfl rfl rfl ?_ ?_ <;> (intro hb; (try intro _ hK); have hc := hb; try simp only [go_sem] at hc; simp only [go_sem, *])) | refine Qh rfl ?_ | refine Qd rfl (by kernel_rfl) ?_ | (refine Qc rfl rfl ?_ ?_ <;> (intro hb; have hc := hb; try simp only [go_sem] at hc)) | refine q8 rfl ?_ | (refine Qb ?_ ?_; focus kernel_rfl) | ((with_reducible apply And.intro); focus omega) | (refine q7 hK ?_; clear hK; simp only [go_sem, *]) | simp only [q6, z8, go_sem, *])
  refine t8 [0] s4 ?_
  simp only [go_sem, *]
  repeat' (first | (refine Qr rfl ?_; try intro _ hK; try simp only [go_sem, *]) | (refine Qi rfl rfl rfl rfl ?_ ?_ <;> (intro hb; (try intro _ hK); have hc := hb; try simp only [go_sem] at hc; simp only [go_sem, *])) | refine Qh rfl ?_ | refine Qd rfl (by kernel_rfl) ?_ | (refine Qc rfl rfl ?_ ?_ <;> (intro hb; have hc := hb; try simp only [go_sem] at hc)) | refine q8 rfl ?_ | (refine Qb ?_ ?_; focus kernel_rfl) | ((with_reducible apply And.intro); focus omega) | (refine q7 hK ?_; clear hK; simp only [go_sem, *]) | simp only [q6, z8, go_sem, *])
  refine t8 [0] s5 ?_
  simp only [go_sem, *]
  repeat' (first | (refine Qr rfl ?_; try intro _ hK; try simp only [go_sem, *]) | (refine Qi rfl rfl rfl rfl ?_ ?_ <;> (intro hb; (try intro _ hK); have hc := hb; try simp only [go_sem] at hc; simp only [go_sem, *])) | refine Qh rfl ?_ | refine Qd rfl (by kernel_rfl) ?_ | (refine Qc rfl rfl ?_ ?_ <;> (intro hb; have hc := hb; try simp only [go_sem] at hc)) | refine q8 rfl ?_ | (refine Qb ?_ ?_; focus kernel_rfl) | ((with_reducible apply And.intro); focus omega) | (refine q7 hK ?_; clear hK; simp only [go_sem, *]) | simp only [q6, z8, go_sem, *])
  refine t8 [0] s6 ?_
  simp only [go_sem, *]
  repeat' (first | ((with_reducible refine zMV [0, 1, 1, 1, 1, 1] ?_)) | (refine Qr rfl ?_; try intro _ hK; try simp only [go_sem, *]) | (refine Qi rfl rfl rfl rfl ?_ ?_ <;> (intro hb; (try intro _ hK); have hc := hb; try simp only [go_sem] at hc; simp only [go_sem, *])) | refine Qh rfl ?_ | refine Qd rfl (by kernel_rfl) ?_ | (refine Qc rfl rfl ?_ ?_ <;> (intro hb; have hc := hb; try simp only [go_sem] at hc)) | refine q8 rfl ?_ | (refine Qb ?_ ?_; focus kernel_rfl) | ((with_reducible apply And.intro); focus omega) | (refine q7 hK ?_; clear hK; simp only [go_sem, *]) | simp only [q6, z8, go_sem, *])
  all_goals try contradiction
  refine ⟨?_⟩
  refine R8 (N := 149) (env := [(11, .list ([l, L, L, L].map y8)), (12, R5 [at', (k1 : Int), (k2 : Int), at']), (13, R5 [width, z1, width, z2])]) (As := []) [] [1, 2, 3] (by (simp only [Weak, go_sem, List.map_append, List.map_set, *] <;> (try simp (disch := omega) only [r7]) <;> (try simp) <;> (try omega))) ?_
  clear s3 s4 s5 s6 hw0
  have hLs : [l, L, L, L].length = 4 := rfl
  have hLb : ∀ y, y ∈ [l, L, L, L] → y.length ≤ 4294967296 ∧ ∀ s, s ∈ y → s.length ≤ 4294967296 := by
   intro y hy
   simp only [List.mem_cons, List.not_mem_nil, or_false] at hy
   rcases hy with rfl | rfl | rfl | rfl
   ·exact ⟨by omega, fun s hs => by have := hl.2 s hs; omega⟩
   ·exact ⟨by omega, fun s hs => by have := (hvL s hs).len; omega⟩
   ·exact ⟨by omega, fun s hs => by have := (hvL s hs).len; omega⟩
   ·exact ⟨by omega, fun s hs => by have := (hvL s hs).len; omega⟩
  generalize hLe : [l, L, L, L] = Ls at *
  generalize hIe : [at', (k1 : Int), (k2 : Int), at'] = Is at *
  generalize hWe : [width, z1, width, z2] = Ws at *
  have hIl : Is.length = 4 := by rw [← hIe]; rfl
  have hWl : Ws.length = 4 := by rw [← hWe]; rfl
  clear hvL hl hLe hIe hWe hll hl0
  repeat' (first | (refine Qr rfl ?_; try intro _ hK; try simp only [go_sem, *]) | (refine Qi rfl rfl rfl rfl ?_ ?_ <;> (intro hb; (try intro _ hK); have hc := hb; try simp only [go_sem] at hc; simp only [go_sem, *])) | refine Qh rfl ?_ | refine Qd rfl (by kernel_rfl) ?_ | (refine Qc rfl rfl ?_ ?_ <;> (intro hb; have hc := hb; try simp only [go_sem] at hc)) | refine q8 rfl ?_ | (refine Qb ?_ ?_; focus kernel_rfl) | ((with_reducible apply And.intro); focus omega) | (refine q7 hK ?_; clear hK; simp only [go_sem, *]) | simp only [q6, z8, go_sem, *])
  all_goals try contradiction
  refine o9 rfl (Ls.length) (fun i => NoQ i) 149 (fun i => [(14, iV i), (11, .list (Ls.map y8)), (12, R5 Is), (13, R5 Ws)]) (fun i => []) [] [] (by trivial) ?_; intro i hi hP
  by_cases hi3 : i < 4
  ·have hii3 : (i : Int) < 4 := by omega
   have hia : i < Ls.length := by omega
   have hwi : IntKind.i64.wrap ((i : Int) + 1) = ((i + 1 : Nat) : Int) := r7 (by omega)
   obtain ⟨hy, hys⟩ := hLb _ (j9 hia)
   generalize hye : Ls.getD i default = y at *
   generalize hze : Is.getD i default = z at *
   generalize hwe : Ws.getD i default = v at *
   have sd := zMK y (by omega)
   repeat' (first | ((with_reducible refine zMV [0, 1, 0, 0, 1, 0, 0, 1, 0, 1, 1, 1, 1, 1] ?_)) | (refine Qr rfl ?_; try intro _ hK; try simp only [go_sem, *]) | (refine Qi rfl rfl rfl rfl ?_ ?_ <;> (intro hb; (try intro _ hK); have hc := hb; try simp only [go_sem] at hc; simp only [go_sem, *])) | refine Qh rfl ?_ | refine Qd rfl (by kernel_rfl) ?_ | (refine Qc rfl rfl ?_ ?_ <;> (intro hb; have hc := hb; try simp only [go_sem] at hc)) | refine q8 rfl ?_ | (refine Qb ?_ ?_; focus kernel_rfl) | (refine j8 (sd) ?_; simp only [go_sem, *]) | ((with_reducible apply And.intro); focus omega) | (refine q7 hK ?_; clear hK; simp only [go_sem, *]) | simp only [q6, z8, go_sem, *])
   refine ⟨?_⟩
   refine R8 (N := 149) (env := [(15, y8 y), (14, iV i), (11, .list (Ls.map y8)), (12, R5 Is), (13, R5 Ws)]) (As := []) [] [0] (by (simp only [Weak, go_sem, List.map_append, List.map_set, *] <;> (try simp (disch := omega) only [r7]) <;> (try simp) <;> (try omega))) ?_
   clear sd
   have t1 := zH1 y z (by omega)
   have t2 := zP0 y z hy hys
   have t3 := zHr y z v (by omega)
   have t4 := zPx y z v hy hys
   have sE := zHq y y (by omega)
   rw [decide_eq_true (p := y = y) rfl] at sE
   clear hLb hys
   generalize zAy y z = a1 at *
   generalize zAx y z = a2 at *
   generalize zNm y z v = a3 at *
   generalize zAH y z v = a4 at *
   have b1 : (a1 == a1) = true := by simp
   have b3 : (a3 == a3) = true := by simp
   have b2 : (a2 != a2) = false := by simp
   have b4 : (a4 != a4) = false := by simp
   repeat' (first | (refine Qr rfl ?_; try intro _ hK; try simp only [go_sem, *]) | (refine Qi rfl rfl rfl rfl ?_ ?_ <;> (intro hb; (try intro _ hK); have hc := hb; try simp only [go_sem] at hc; simp only [go_sem, *])) | refine Qh rfl ?_ | refine Qd rfl (by kernel_rfl) ?_ | (refine Qc rfl rfl ?_ ?_ <;> (intro hb; have hc := hb; try simp only [go_sem] at hc)) | refine q8 rfl ?_ | (refine Qb ?_ ?_; focus kernel_rfl) | (refine p9 (t1) ?_ ?_; (focus (simp only [go_sem, *]; done)); simp only [go_sem, *]) | (refine p9 (t2) ?_ ?_; (focus (simp only [go_sem, *]; done)); simp only [go_sem, *]) | (refine p9 (t3) ?_ ?_; (focus (simp only [go_sem, *]; done)); simp only [go_sem, *]) | (refine p9 (t4) ?_ ?_; (focus (simp only [go_sem, *]; done)); simp only [go_sem, *]) | (refine y5 (sE) ?_; simp only [go_sem, *]) | ((with_reducible apply And.intro); focus omega) | (refine q7 hK ?_; clear hK; simp only [go_sem, *]) | simp only [q6, z8, go_sem, *])
   all_goals first | contradiction | omega | skip
   exact f8 (i' := i + 1) [] [] (by trivial)
  ·have hii3 : ¬ (i : Int) < 4 := by omega
   repeat' (first | (refine Qr rfl ?_; try intro _ hK; try simp only [go_sem, *]) | (refine Qi rfl rfl rfl rfl ?_ ?_ <;> (intro hb; (try intro _ hK); have hc := hb; try simp only [go_sem] at hc; simp only [go_sem, *])) | refine Qh rfl ?_ | refine Qd rfl (by kernel_rfl) ?_ | (refine Qc rfl rfl ?_ ?_ <;> (intro hb; have hc := hb; try simp only [go_sem] at hc)) | refine q8 rfl ?_ | (refine Qb ?_ ?_; focus kernel_rfl) | (refine j8 (sS) ?_; simp only [go_sem, *]) | ((with_reducible apply And.intro); focus omega) | (refine q7 hK ?_; clear hK; simp only [go_sem, *]) | simp only [q6, z8, go_sem, *])
   all_goals first | contradiction | omega | skip
   (refine ⟨[_], [], [], ⟨rfl, trivial⟩, ?_⟩; simp only [go_sem, *])
end Go.Abs

