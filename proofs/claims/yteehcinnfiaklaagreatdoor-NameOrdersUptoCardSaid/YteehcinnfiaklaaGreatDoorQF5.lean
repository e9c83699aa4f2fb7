/-
  WHAT THE PROOF STANDS ON, PART 5: contracts of the program's functions and the logic that they are proved in. No condition.
-/
import Derived.Test.YteehcinnfiaklaaGreatDoorQF4
set_option maxRecDepth 100000
set_option maxHeartbeats 4000000
set_option linter.unusedVariables false
set_option linter.unusedSimpArgs false
set_option linter.unusedSectionVars false
namespace Go.Abs
open Go Go.Proofs Tryz
attribute [local irreducible] y6 Hold x5
theorem zPX {l : List Str} {j : Nat} (hj : j + 1 < l.length) : i9 (l.drop j) = (!(zNb (l.getD (j + 1) default) (l.getD j default)) && i9 (l.drop (j + 1))) := by
 rw [j4 (show j < l.length by omega), j4 hj]
 rfl
theorem zPY {l : List Str} {j : Nat} (hj : ¬ j + 1 < l.length) : i9 (l.drop j) = true := by
 have : (l.drop j).length ≤ 1 := by simp; omega
 generalize l.drop j = m at *
 match m, this with
 | [], _ => rfl
 | [_], _ => rfl
theorem zPA (l : List Str) (hl : l.length ≤ 4294967296) (hv : ∀ s, s ∈ l → ValidN s) : zMf prog 108 [y8 l] [] (bV (i9 l)) [] := by
 obtain ⟨R, hR⟩ : ∃ R, i9 l = R := ⟨_, rfl⟩
 rw [hR]
 have h0 : i9 (l.drop 0) = R := hR
 clear hR
 refine q9 func108 rfl (fun E hE => ?_); simp only [go_sem, ntmps108]
 repeat' (first | (refine Qr rfl ?_; try intro _ hK; try simp only [go_sem, *]) | refine Qh rfl ?_ | refine Qd rfl (by kernel_rfl) ?_ | (refine Qc rfl rfl ?_ ?_ <;> (intro hb; have hc := hb; try simp only [go_sem] at hc)) | refine q8 rfl ?_ | (refine Qb ?_ ?_; focus kernel_rfl) | ((with_reducible apply And.intro); focus omega) | (refine q7 hK ?_; clear hK; simp only [go_sem, *]) | simp only [q6, z8, go_sem, *])
 refine o9 rfl (l.length) (fun j => i9 (l.drop j) = R) 20 (fun j => [(3, iV ((j + 1 : Nat) : Int)), (0, y8 l)]) (fun j => []) [] [] (by exact h0) ?_; intro j hj hP
 clear h0
 by_cases hj2 : j + 1 < l.length
 ·have hji : ((j + 1 : Nat) : Int) < (l.length : Int) := by omega
  have hw0 : IntKind.i64.wrap (((j + 1 : Nat) : Int) - 1) = (j : Int) := by rw [wrap_i64 (by omega) (by omega)]; omega
  have hw1 : IntKind.i64.wrap (((j + 1 : Nat) : Int) + 1) = ((j + 1 + 1 : Nat) : Int) := r7 (by omega)
  have hj0 : j < l.length := by omega
  rw [zPX hj2] at hP
  have sb := zDa _ _ (hv _ (j9 hj2)) (hv _ (j9 hj0))
  generalize zNb (l.getD (j + 1) default) (l.getD j default) = b at *
  cases b
  ·have hP : i9 (l.drop (j + 1)) = R := by simpa using hP
   repeat' (first | (refine Qr rfl ?_; try intro _ hK; try simp only [go_sem, *]) | refine Qh rfl ?_ | refine Qd rfl (by kernel_rfl) ?_ | (refine Qc rfl rfl ?_ ?_ <;> (intro hb; have hc := hb; try simp only [go_sem] at hc)) | refine q8 rfl ?_ | (refine Qb ?_ ?_; focus kernel_rfl) | (refine y5 (sb) ?_; simp only [go_sem, *]) | ((with_reducible apply And.intro); focus omega) | (refine q7 hK ?_; clear hK; simp only [go_sem, *]) | simp only [q6, z8, go_sem, *])
   all_goals first | contradiction | omega | skip
   exact f8 (i' := j + 1) [] [] (by exact hP)
  ·have hP : false = R := by simpa using hP
   subst hP
   repeat' (first | (refine Qr rfl ?_; try intro _ hK; try simp only [go_sem, *]) | refine Qh rfl ?_ | refine Qd rfl (by kernel_rfl) ?_ | (refine Qc rfl rfl ?_ ?_ <;> (intro hb; have hc := hb; try simp only [go_sem] at hc)) | refine q8 rfl ?_ | (refine Qb ?_ ?_; focus kernel_rfl) | (refine y5 (sb) ?_; simp only [go_sem, *]) | ((with_reducible apply And.intro); focus omega) | (refine q7 hK ?_; clear hK; simp only [go_sem, *]) | simp only [q6, z8, go_sem, *])
   all_goals first | contradiction | omega | skip
   (refine ⟨[_], [], [], ⟨rfl, trivial⟩, ?_⟩; simp only [go_sem, *])
 ·have hji : ¬ ((j + 1 : Nat) : Int) < (l.length : Int) := by omega
  rw [zPY hj2] at hP
  subst hP
  repeat' (first | (refine Qr rfl ?_; try intro _ hK; try simp only [go_sem, *]) | refine Qh rfl ?_ | refine Qd rfl (by kernel_rfl) ?_ | (refine Qc rfl rfl ?_ ?_ <;> (intro hb; have hc := hb; try simp only [go_sem] at hc)) | refine q8 rfl ?_ | (refine Qb ?_ ?_; focus kernel_rfl) | ((with_reducible apply And.intro); focus omega) | (refine q7 hK ?_; clear hK; simp only [go_sem, *]) | simp only [q6, z8, go_sem, *])
  all_goals first | contradiction | omega | skip
  (refine ⟨[_], [], [], ⟨rfl, trivial⟩, ?_⟩; simp only [go_sem, *])
theorem zPz (l : List Str) (s : Str) (hl : l.length ≤ 4294967296) (hx : ∀ s, s ∈ l → s.length ≤ 4294967296) (hs : s.length ≤ 4294967296) : zMf prog 64 [y8 l, sV s] [] (.tup [iV (W6 l s), iV (X3 l s)]) [] := by
 have s1 := zMT l hl hx
 have s2 := zA4 s hs
 by_cases q1 : v8 l = 0
 ·by_cases q2 : x6 s = 0
  ·have hv := E7 q1
   have hl6 := E6 q1
   have s3 := zPA l hl hv
   by_cases q3 : i9 l = true
   ·have e1 : X3 l s = 0 := by unfold X3; rw [if_pos q1, if_pos q2, if_pos q3]
    have e2 : W6 l s = ((l.countP fun x => decide (x9 x s < 0) : Nat) : Int) := by unfold W6; rw [if_pos e1]
    have e3 : (l.countP fun x => decide (x9 x s < 0)) = l.countP (zNb · s) := rfl
    rw [e1, e2, e3]
    rw [q1] at s1
    rw [q2] at s2
    rw [q3] at s3
    have vs := checkN_zero.1 q2
    have s4 : ∀ i, i < l.length → zMf prog 105 [sV (l.getD i default), sV s] [] (bV (zNb (l.getD i default) s)) [] := fun i hi => zDa _ _ (hv _ (j9 hi)) vs
    clear q1 q2 q3 e1 e2 e3 hv vs hx
    refine q9 func64 rfl (fun E hE => ?_); simp only [go_sem, ntmps64]
    repeat' (first | (refine Qr rfl ?_; try intro _ hK; try simp only [go_sem, *]) | refine Qh rfl ?_ | (refine Qc rfl rfl ?_ ?_ <;> (intro hb; have hc := hb; try simp only [go_sem] at hc)) | refine q8 rfl ?_ | ((first | refine y5 (s1) ?_ | refine y5 (s2) ?_ | refine y5 (s3) ?_); simp only [go_sem, *]) | ((with_reducible apply And.intro); focus omega) | (refine q7 hK ?_; clear hK; simp only [go_sem, *]) | simp only [q6, z8, go_sem, *])
    all_goals try contradiction
    refine a7 rfl (l.length) (fun i (n : Nat) => n = (l.take i).countP (zNb · s)) 38 (fun i n => [(9, iV i), (8, iV n), (0, y8 l), (1, sV s)]) (fun i n => []) [] [] (0) (by simp) ?_; intro i n hi hP
    by_cases hi2 : i < l.length
    ·have hii : (i : Int) < (l.length : Int) := by omega
     have hwi : IntKind.i64.wrap ((i : Int) + 1) = ((i + 1 : Nat) : Int) := r7 (by omega)
     have sc := s4 i hi2
     have hn : (l.take (i + 1)).countP (zNb · s) = n + if zNb (l.getD i default) s = true then 1 else 0 := by
      rw [zDn hi2, List.countP_append, ← hP]; simp [List.countP_cons]
     have hw : IntKind.i64.wrap ((n : Int) + 1) = ((n + 1 : Nat) : Int) := r7 (by have := List.countP_le_length (p := (zNb · s)) (l := l.take i); simp at this; omega)
     clear hP
     generalize zNb (l.getD i default) s = b at *
     cases b
     ·have hn := hn.symm
      repeat' (first | (refine Qr rfl ?_; try intro _ hK; try simp only [go_sem, *]) | refine Qh rfl ?_ | (refine Qc rfl rfl ?_ ?_ <;> (intro hb; have hc := hb; try simp only [go_sem] at hc)) | refine q8 rfl ?_ | (refine y5 (sc) ?_; simp only [go_sem, *]) | ((with_reducible apply And.intro); focus omega) | (refine q7 hK ?_; clear hK; simp only [go_sem, *]) | simp only [q6, z8, go_sem, *])
      all_goals first | contradiction | omega | skip
      exact n0 (i' := i + 1) [] [] (n) (by exact hn)
     ·have hn := hn.symm
      repeat' (first | (refine Qr rfl ?_; try intro _ hK; try simp only [go_sem, *]) | refine Qh rfl ?_ | (refine Qc rfl rfl ?_ ?_ <;> (intro hb; have hc := hb; try simp only [go_sem] at hc)) | refine q8 rfl ?_ | (refine y5 (sc) ?_; simp only [go_sem, *]) | ((with_reducible apply And.intro); focus omega) | (refine q7 hK ?_; clear hK; simp only [go_sem, *]) | simp only [q6, z8, go_sem, *])
      all_goals first | contradiction | omega | skip
      exact n0 (i' := i + 1) [] [] (n + 1) (by exact hn)
    ·have hii : ¬ (i : Int) < (l.length : Int) := by omega
     rw [List.take_of_length_le (by omega)] at hP
     subst hP
     clear s4
     generalize List.countP (zNb · s) l = c at *
     repeat' (first | (refine Qr rfl ?_; try intro _ hK; try simp only [go_sem, *]) | refine Qh rfl ?_ | (refine Qc rfl rfl ?_ ?_ <;> (intro hb; have hc := hb; try simp only [go_sem] at hc)) | refine q8 rfl ?_ | ((with_reducible apply And.intro); focus omega) | (refine q7 hK ?_; clear hK; simp only [go_sem, *]) | simp only [q6, z8, go_sem, *])
     all_goals first | contradiction | omega | skip
     (refine ⟨[_, _], [], [], ⟨rfl, rfl, trivial⟩, ?_⟩; simp only [go_sem, *])
   ·have q3 : i9 l = false := by simpa using q3
    have e1 : X3 l s = 5 := by unfold X3; rw [if_pos q1, if_pos q2, if_neg (by rw [q3]; decide)]
    have e2 : W6 l s = 0 := by unfold W6; rw [if_neg (by rw [e1]; decide)]
    rw [e1, e2]
    rw [q1] at s1
    rw [q2] at s2
    rw [q3] at s3
    clear q1 q2 q3 e1 e2 hv hx
    refine q9 func64 rfl (fun E hE => ?_); simp only [go_sem, ntmps64]
    repeat' (first | (refine Qr rfl ?_; try intro _ hK; try simp only [go_sem, *]) | refine Qh rfl ?_ | (refine Qc rfl rfl ?_ ?_ <;> (intro hb; have hc := hb; try simp only [go_sem] at hc)) | refine q8 rfl ?_ | ((first | refine y5 (s1) ?_ | refine y5 (s2) ?_ | refine y5 (s3) ?_); simp only [go_sem, *]) | ((with_reducible apply And.intro); focus omega) | (refine q7 hK ?_; clear hK; simp only [go_sem, *]) | simp only [q6, z8, go_sem, *])
    all_goals try contradiction
    (refine ⟨[_, _], [], [], ⟨rfl, rfl, trivial⟩, ?_⟩; simp only [go_sem, *])
  ·have e1 : X3 l s = x6 s := by unfold X3; rw [if_pos q1, if_neg q2]
   have e2 : W6 l s = 0 := by unfold W6; rw [if_neg (by rw [e1]; exact q2)]
   rw [e1, e2]
   rw [q1] at s1
   generalize x6 s = e at *
   clear e1 e2 q1 hx
   refine q9 func64 rfl (fun E hE => ?_); simp only [go_sem, ntmps64]
   repeat' (first | (refine Qr rfl ?_; try intro _ hK; try simp only [go_sem, *]) | refine Qh rfl ?_ | (refine Qc rfl rfl ?_ ?_ <;> (intro hb; have hc := hb; try simp only [go_sem] at hc)) | refine q8 rfl ?_ | ((first | refine y5 (s1) ?_ | refine y5 (s2) ?_); simp only [go_sem, *]) | ((with_reducible apply And.intro); focus omega) | (refine q7 hK ?_; clear hK; simp only [go_sem, *]) | simp only [q6, z8, go_sem, *])
   all_goals try contradiction
   (refine ⟨[_, _], [], [], ⟨rfl, rfl, trivial⟩, ?_⟩; simp only [go_sem, *])
 ·have e1 : X3 l s = v8 l := by unfold X3; rw [if_neg q1]
  have e2 : W6 l s = 0 := by unfold W6; rw [if_neg (by rw [e1]; exact q1)]
  rw [e1, e2]
  generalize v8 l = e at *
  clear e1 e2 hx s2
  refine q9 func64 rfl (fun E hE => ?_); simp only [go_sem, ntmps64]
  repeat' (first | (refine Qr rfl ?_; try intro _ hK; try simp only [go_sem, *]) | refine Qh rfl ?_ | (refine Qc rfl rfl ?_ ?_ <;> (intro hb; have hc := hb; try simp only [go_sem] at hc)) | refine q8 rfl ?_ | (refine y5 (s1) ?_; simp only [go_sem, *]) | ((with_reducible apply And.intro); focus omega) | (refine q7 hK ?_; clear hK; simp only [go_sem, *]) | simp only [q6, z8, go_sem, *])
  all_goals try contradiction
  (refine ⟨[_, _], [], [], ⟨rfl, rfl, trivial⟩, ?_⟩; simp only [go_sem, *])
end Go.Abs

namespace Go.Abs
open Go Go.Proofs Tryz
attribute [local irreducible] y6 Hold x5
theorem zOu {l : List Str} (hv : ∀ s, s ∈ l → ValidN s) {j : Nat} (hj : j < l.length) : zAp l ((r6 l).getD j default) = j := by
 have h2 : j < (r6 l).length := by rw [C8]; exact hj
 have := zLt l hv h2
 simpa [List.getD, h2] using this
theorem zOv {l : List Str} (hv : ∀ s, s ∈ l → ValidN s) {i : Nat} (hi : i < l.length) : zAp l i < l.length ∧ (r6 l).getD (zAp l i) default = i := by
 have hm : i ∈ r6 l := (G3 (l := l)).mem_iff.2 (List.mem_range.2 hi)
 obtain ⟨j, hj, e⟩ := List.getElem_of_mem hm
 have hj2 : j < l.length := by rw [C8] at hj; exact hj
 have e2 : (r6 l).getD j default = i := by simp [List.getD, hj, e]
 have := zOu hv hj2
 rw [e2] at this
 rw [this]
 exact ⟨hj2, e2⟩
def zOP (l : List Str) (i : Nat) (R : List Nat) : Prop := R.length = l.length ∧ ∀ j, j < l.length → (r6 l).getD j default < i → R.getD j default = (r6 l).getD j default
theorem zPe {l : List Str} (hv : ∀ s, s ∈ l → ValidN s) {i : Nat} {R : List Nat} (hi : i < l.length) (h : zOP l i R) : zOP l (i + 1) (R.set (zAp l i) i) := by
 obtain ⟨h1, h2⟩ := h
 refine ⟨by simpa using h1, fun j hj hlt => ?_⟩
 by_cases e : zAp l i = j
 ·subst e
  have := (zOv hv hi).2
  rw [this]
  simp [List.getD, h1, hj]
 ·have hne : (r6 l).getD j default ≠ i := fun e2 => e (by rw [← e2, zOu hv hj])
  have := h2 j hj (by omega)
  rw [← this]
  simp [List.getD, List.getElem?_set, e]
theorem zPd {l : List Str} {R : List Nat} (h : zOP l l.length R) : R = r6 l := by
 obtain ⟨h1, h2⟩ := h
 apply List.ext_getElem (by rw [h1, C8])
 intro j hj hj2
 have := h2 j (by omega) (zMG (by omega))
 simpa [List.getD, hj, hj2] using this
def pB (l : List Str) (i k : Nat) : Bool := V6 (l.getD k []) (l.getD i []) || (decide (k < i) && !V6 (l.getD i []) (l.getD k []))
theorem zO6 (a b : Str) (va : ValidN a) (vb : ValidN b) : zMf prog 105 [sV a, sV b] [] (bV (V6 a b)) [] := by
 have h := zDa a b va vb
 have e : zNb a b = V6 a b := by
  unfold zNb
  rw [Bool.eq_iff_iff, decide_eq_true_eq]; exact A8 va vb
 rw [e] at h; exact h
theorem zO5 (l : List Str) (q : v8 l = 0) : zMf prog 60 [y8 l] [] (.tup [.own 0 1 0 l.length, iV 0]) [.row 1 ((r6 l).map nV)] := by
 have hv := E7 q
 have h6 := E6 q
 have s1 := zMT l (by omega) (fun s hs => by have := (hv s hs).len; omega)
 rw [q] at s1
 clear q
 refine q9 func60 rfl (fun E hE => ?_); simp only [go_sem, ntmps60]
 repeat' (first | (refine Qr rfl ?_; try intro _ hK; try simp only [go_sem, *]) | (refine Qi rfl rfl rfl rfl ?_ ?_ <;> (intro hb; (try intro _ hK); have hc := hb; try simp only [go_sem] at hc; simp only [go_sem, *])) | refine Qh rfl ?_ | refine Qd rfl (by kernel_rfl) ?_ | (refine Qc rfl rfl ?_ ?_ <;> (intro hb; have hc := hb; try simp only [go_sem] at hc)) | refine q8 rfl ?_ | (refine Qb ?_ ?_; focus kernel_rfl) | (refine y5 (s1) ?_; simp only [go_sem, *]) | ((with_reducible apply And.intro); focus omega) | (refine q7 hK ?_; clear hK; simp only [go_sem, *]) | simp only [q6, z8, go_sem, *])
 all_goals try contradiction
 refine a7 rfl (l.length) (fun i (R : List Nat) => zOP l i R) 62 (fun i R => [(6, iV i), (5, .own 0 1 0 l.length), (0, y8 l)]) (fun i R => [.row 1 (R.map nV)]) [some 0] [] (List.replicate l.length 0) (by exact ⟨by simp, fun j _ h => absurd h (Nat.not_lt_zero _)⟩) ?_; intro i R hi hP
 clear s1
 have hRl := hP.1
 by_cases hi2 : i < l.length
 ·have hii : (i : Int) < (l.length : Int) := by omega
  have hwi : IntKind.i64.wrap ((i : Int) + 1) = ((i + 1 : Nat) : Int) := r7 (by omega)
  have hst := zPe hv hi2 hP
  have hrk := (zOv hv hi2).1
  have hre : zAp l i = (List.range l.length).countP (pB l i) := rfl
  rw [hre] at hst hrk
  clear hP hre
  repeat' (first | (refine Qr rfl ?_; try intro _ hK; try simp only [go_sem, *]) | (refine Qi rfl rfl rfl rfl ?_ ?_ <;> (intro hb; (try intro _ hK); have hc := hb; try simp only [go_sem] at hc; simp only [go_sem, *])) | refine Qh rfl ?_ | refine Qd rfl (by kernel_rfl) ?_ | (refine Qc rfl rfl ?_ ?_ <;> (intro hb; have hc := hb; try simp only [go_sem] at hc)) | refine q8 rfl ?_ | (refine Qb ?_ ?_; focus kernel_rfl) | ((with_reducible apply And.intro); focus omega) | (refine q7 hK ?_; clear hK; simp only [go_sem, *]) | simp only [q6, z8, go_sem, *])
  all_goals first | contradiction | omega | skip
  refine a7 rfl (l.length) (fun k (n : Nat) => n = (List.range k).countP (pB l i)) 62 (fun k n => [(8, iV k), (7, iV n), (6, iV i), (5, .own 0 1 0 l.length), (0, y8 l)]) (fun k n => [.row 1 (R.map nV)]) [some 0] [] (0) (by rfl) ?_; intro k n hk hQ
  by_cases hk2 : k < l.length
  ·have hki : (k : Int) < (l.length : Int) := by omega
   have hwk : IntKind.i64.wrap ((k : Int) + 1) = ((k + 1 : Nat) : Int) := r7 (by omega)
   have hn : (List.range (k + 1)).countP (pB l i) = n + if pB l i k = true then 1 else 0 := by
    rw [List.range_succ, List.countP_append, ← hQ]; simp [List.countP_cons]
   have hnk : n ≤ k := by rw [hQ]; have := List.countP_le_length (p := pB l i) (l := List.range k); simpa using this
   have hwn : IntKind.i64.wrap ((n : Int) + 1) = ((n + 1 : Nat) : Int) := r7 (by omega)
   have t1 := zO6 _ _ (hv _ (j9 hk2)) (hv _ (j9 hi2))
   have t2 := zO6 _ _ (hv _ (j9 hi2)) (hv _ (j9 hk2))
   have hp : pB l i k = (V6 (l.getD k default) (l.getD i default) || (decide (k < i) && !V6 (l.getD i default) (l.getD k default))) := rfl
   rw [hp] at hn
   clear hQ hst hp
   generalize V6 (l.getD k default) (l.getD i default) = b1 at *
   generalize V6 (l.getD i default) (l.getD k default) = b2 at *
   cases b1
   ·by_cases qk : k < i
    ·have qki : (k : Int) < (i : Int) := by omega
     rw [decide_eq_true qk] at hn
     cases b2
     ·have hn := hn.symm
      repeat' (first | (refine Qr rfl ?_; try intro _ hK; try simp only [go_sem, *]) | (refine Qi rfl rfl rfl rfl ?_ ?_ <;> (intro hb; (try intro _ hK); have hc := hb; try simp only [go_sem] at hc; simp only [go_sem, *])) | refine Qh rfl ?_ | refine Qd rfl (by kernel_rfl) ?_ | (refine Qc rfl rfl ?_ ?_ <;> (intro hb; have hc := hb; try simp only [go_sem] at hc)) | refine q8 rfl ?_ | (refine Qb ?_ ?_; focus kernel_rfl) | ((first | refine y5 (t1) ?_ | refine y5 (t2) ?_); simp only [go_sem, *]) | ((with_reducible apply And.intro); focus omega) | (refine q7 hK ?_; clear hK; simp only [go_sem, *]) | simp only [q6, z8, go_sem, *])
      all_goals first | contradiction | omega | skip
      exact n0 (i' := k + 1) [some 0] [] (n + 1) (by exact hn)
     ·have hn := hn.symm
      repeat' (first | (refine Qr rfl ?_; try intro _ hK; try simp only [go_sem, *]) | (refine Qi rfl rfl rfl rfl ?_ ?_ <;> (intro hb; (try intro _ hK); have hc := hb; try simp only [go_sem] at hc; simp only [go_sem, *])) | refine Qh rfl ?_ | refine Qd rfl (by kernel_rfl) ?_ | (refine Qc rfl rfl ?_ ?_ <;> (intro hb; have hc := hb; try simp only [go_sem] at hc)) | refine q8 rfl ?_ | (refine Qb ?_ ?_; focus kernel_rfl) | ((first | refine y5 (t1) ?_ | refine y5 (t2) ?_); simp only [go_sem, *]) | ((with_reducible apply And.intro); focus omega) | (refine q7 hK ?_; clear hK; simp only [go_sem, *]) | simp only [q6, z8, go_sem, *])
      all_goals first | contradiction | omega | skip
      exact n0 (i' := k + 1) [some 0] [] (n) (by exact hn)
    ·have qki : ¬ (k : Int) < (i : Int) := by omega
     rw [decide_eq_false qk] at hn
     have hn := hn.symm
     repeat' (first | (refine Qr rfl ?_; try intro _ hK; try simp only [go_sem, *]) | (refine Qi rfl rfl rfl rfl ?_ ?_ <;> (intro hb; (try intro _ hK); have hc := hb; try simp only [go_sem] at hc; simp only [go_sem, *])) | refine Qh rfl ?_ | refine Qd rfl (by kernel_rfl) ?_ | (refine Qc rfl rfl ?_ ?_ <;> (intro hb; have hc := hb; try simp only [go_sem] at hc)) | refine q8 rfl ?_ | (refine Qb ?_ ?_; focus kernel_rfl) | (refine y5 (t1) ?_; simp only [go_sem, *]) | ((with_reducible apply And.intro); focus omega) | (refine q7 hK ?_; clear hK; simp only [go_sem, *]) | simp only [q6, z8, go_sem, *])
     all_goals first | contradiction | omega | skip
     exact n0 (i' := k + 1) [some 0] [] (n) (by exact hn)
   ·have hn := hn.symm
    repeat' (first | (refine Qr rfl ?_; try intro _ hK; try simp only [go_sem, *]) | (refine Qi rfl rfl rfl rfl ?_ ?_ <;> (intro hb; (try intro _ hK); have hc := hb; try simp only [go_sem] at hc; simp only [go_sem, *])) | refine Qh rfl ?_ | refine Qd rfl (by kernel_rfl) ?_ | (refine Qc rfl rfl ?_ ?_ <;> (intro hb; have hc := hb; try simp only [go_sem] at hc)) | refine q8 rfl ?_ | (refine Qb ?_ ?_; focus kernel_rfl) | (refine y5 (t1) ?_; simp only [go_sem, *]) | ((with_reducible apply And.intro); focus omega) | (refine q7 hK ?_; clear hK; simp only [go_sem, *]) | simp only [q6, z8, go_sem, *])
    all_goals first | contradiction | omega | skip
    exact n0 (i' := k + 1) [some 0] [] (n + 1) (by exact hn)
  ·have hki : ¬ (k : Int) < (l.length : Int) := by omega
   have e : k = l.length := by omega
   subst e
   rw [← hQ] at hst hrk
   have hnR : n < R.length := by omega
   clear hQ
   repeat' (first | (refine Qr rfl ?_; try intro _ hK; try simp only [go_sem, *]) | (refine Qi rfl rfl rfl rfl ?_ ?_ <;> (intro hb; (try intro _ hK); have hc := hb; try simp only [go_sem] at hc; simp only [go_sem, *])) | refine Qh rfl ?_ | refine Qd rfl (by kernel_rfl) ?_ | (refine Qc rfl rfl ?_ ?_ <;> (intro hb; have hc := hb; try simp only [go_sem] at hc)) | refine q8 rfl ?_ | (refine Qb ?_ ?_; focus kernel_rfl) | ((with_reducible apply And.intro); focus omega) | (refine q7 hK ?_; clear hK; simp only [go_sem, *]) | simp only [q6, z8, go_sem, *])
   all_goals first | contradiction | omega | skip
   exact n0 (i' := i + 1) [some 0] [] (R.set n i) (by exact hst)
 ·have hii : ¬ (i : Int) < (l.length : Int) := by omega
  have e : i = l.length := by omega
  subst e
  have := zPd hP
  subst this
  clear hP
  repeat' (first | (refine Qr rfl ?_; try intro _ hK; try simp only [go_sem, *]) | (refine Qi rfl rfl rfl rfl ?_ ?_ <;> (intro hb; (try intro _ hK); have hc := hb; try simp only [go_sem] at hc; simp only [go_sem, *])) | refine Qh rfl ?_ | refine Qd rfl (by kernel_rfl) ?_ | (refine Qc rfl rfl ?_ ?_ <;> (intro hb; have hc := hb; try simp only [go_sem] at hc)) | refine q8 rfl ?_ | (refine Qb ?_ ?_; focus kernel_rfl) | (refine y5 (O1) ?_; simp only [go_sem, *]) | ((with_reducible apply And.intro); focus omega) | (refine q7 hK ?_; clear hK; simp only [go_sem, *]) | simp only [q6, z8, go_sem, *])
  refine ⟨[_, _], [some 0], [], ⟨rfl, rfl, trivial⟩, ?_⟩
  simp only [go_sem, *]
theorem zP1 (l : List Str) (hl : l.length ≤ 4294967296) (hx : ∀ s, s ∈ l → s.length ≤ 4294967296) (q : ¬ v8 l = 0) : zMf prog 60 [y8 l] [] (.tup [.raw (.slice none 0 0), iV (v8 l)]) [] := by
 have s1 := zMT l hl hx
 generalize v8 l = e at *
 refine q9 func60 rfl (fun E hE => ?_); simp only [go_sem, ntmps60]
 repeat' (first | (refine Qr rfl ?_; try intro _ hK; try simp only [go_sem, *]) | (refine Qi rfl rfl rfl rfl ?_ ?_ <;> (intro hb; (try intro _ hK); have hc := hb; try simp only [go_sem] at hc; simp only [go_sem, *])) | refine Qh rfl ?_ | refine Qd rfl (by kernel_rfl) ?_ | (refine Qc rfl rfl ?_ ?_ <;> (intro hb; have hc := hb; try simp only [go_sem] at hc)) | refine q8 rfl ?_ | (refine Qb ?_ ?_; focus kernel_rfl) | (refine y5 (s1) ?_; simp only [go_sem, *]) | ((with_reducible apply And.intro); focus omega) | (refine q7 hK ?_; clear hK; simp only [go_sem, *]) | simp only [q6, z8, go_sem, *])
 all_goals try contradiction
 (refine ⟨[_, _], [], [], ⟨rfl, rfl, trivial⟩, ?_⟩; simp only [go_sem, *])
end Go.Abs

namespace Go.Abs
open Go Go.Proofs Tryz
attribute [local irreducible] y6 Hold x5
abbrev zN7 (l : List Nat) : AV := .list (l.map nV)
theorem zPU {x y : List Nat} {i : Nat} (h1 : i < x.length) (h2 : i < y.length) : l3 (x.drop i) (y.drop i) = if zMm (x.getD i default) (y.getD i default) = 0 then l3 (x.drop (i + 1)) (y.drop (i + 1)) else zMm (x.getD i default) (y.getD i default) := by
 rw [j4 h1, j4 h2, l3]
theorem zPT {x y : List Nat} {i : Nat} (h1 : i < x.length) (h2 : y.length ≤ i) : l3 (x.drop i) (y.drop i) = 1 := by
 rw [j4 h1, d7 h2, l3]
theorem zPS {x y : List Nat} {i : Nat} (h1 : x.length ≤ i) : l3 (x.drop i) (y.drop i) = if i < y.length then -1 else 0 := by
 rw [d7 h1]
 by_cases h2 : i < y.length
 ·rw [j4 h2, l3, if_pos h2]
 ·rw [d7 (by omega), l3, if_neg h2]
theorem zPm (x y : List Nat) (h1 : x.length ≤ 4294967296) (h2 : y.length ≤ 4294967296) : zMf prog 132 [zN7 x, zN7 y] [] (iV (l3 x y)) [] := by
 refine q9 func132 rfl (fun E hE => ?_); simp only [go_sem, ntmps132]
 repeat' (first | (refine Qr rfl ?_; try intro _ hK; try simp only [go_sem, *]) | refine Qh rfl ?_ | (refine Qc rfl rfl ?_ ?_ <;> (intro hb; have hc := hb; try simp only [go_sem] at hc)) | refine q8 rfl ?_ | ((with_reducible apply And.intro); focus omega) | (refine q7 hK ?_; clear hK; simp only [go_sem, *]) | simp only [q6, z8, go_sem, *])
 refine o9 rfl (x.length) (fun i => l3 (x.drop i) (y.drop i) = l3 x y ∧ i ≤ y.length) 36 (fun i => [(11, iV i), (10, iV x.length), (9, zN7 x), (0, zN7 x), (1, zN7 y)]) (fun i => []) [] [] (by simp) ?_; intro i hi hP
 obtain ⟨hP, hiy⟩ := hP
 by_cases hi2 : i < x.length
 ·by_cases hi3 : i < y.length
  ·have hs := zPU hi2 hi3
   have sc := zHk (x.getD i default) (y.getD i default)
   rw [hs] at hP
   clear hs
   have gi : ¬ ((i : Int) ≥ (y.length : Int)) := by omega
   by_cases q : zMm (x.getD i default) (y.getD i default) = 0
   ·rw [if_pos q] at hP
    rw [q] at sc
    repeat' (first | (refine Qr rfl ?_; try intro _ hK; try simp only [go_sem, *]) | refine Qh rfl ?_ | (refine Qc rfl rfl ?_ ?_ <;> (intro hb; have hc := hb; try simp only [go_sem] at hc)) | refine q8 rfl ?_ | (refine y5 (sc) ?_; simp only [go_sem, *]) | ((with_reducible apply And.intro); focus omega) | (refine q7 hK ?_; clear hK; simp only [go_sem, *]) | simp only [q6, z8, go_sem, *])
    all_goals first | contradiction | omega | skip
    exact f8 (i' := i + 1) [] [] (by exact ⟨hP, by omega⟩)
   ·rw [if_neg q] at hP
    generalize zMm (x.getD i default) (y.getD i default) = c at *
    rw [← hP]
    clear hP
    repeat' (first | (refine Qr rfl ?_; try intro _ hK; try simp only [go_sem, *]) | refine Qh rfl ?_ | (refine Qc rfl rfl ?_ ?_ <;> (intro hb; have hc := hb; try simp only [go_sem] at hc)) | refine q8 rfl ?_ | (refine y5 (sc) ?_; simp only [go_sem, *]) | ((with_reducible apply And.intro); focus omega) | (refine q7 hK ?_; clear hK; simp only [go_sem, *]) | simp only [q6, z8, go_sem, *])
    all_goals first | contradiction | omega | skip
    (refine ⟨[_], [], [], ⟨rfl, trivial⟩, ?_⟩; simp only [go_sem, *])
  ·rw [zPT hi2 (by omega)] at hP
   rw [← hP]
   clear hP
   repeat' (first | (refine Qr rfl ?_; try intro _ hK; try simp only [go_sem, *]) | refine Qh rfl ?_ | (refine Qc rfl rfl ?_ ?_ <;> (intro hb; have hc := hb; try simp only [go_sem] at hc)) | refine q8 rfl ?_ | ((with_reducible apply And.intro); focus omega) | (refine q7 hK ?_; clear hK; simp only [go_sem, *]) | simp only [q6, z8, go_sem, *])
   all_goals first | contradiction | omega | skip
   (refine ⟨[_], [], [], ⟨rfl, trivial⟩, ?_⟩; simp only [go_sem, *])
 ·have hix : i = x.length := by omega
  subst hix
  rw [zPS (Nat.le_refl _)] at hP
  by_cases hxy : x.length < y.length
  ·rw [if_pos hxy] at hP
   rw [← hP]
   clear hP
   repeat' (first | (refine Qr rfl ?_; try intro _ hK; try simp only [go_sem, *]) | refine Qh rfl ?_ | (refine Qc rfl rfl ?_ ?_ <;> (intro hb; have hc := hb; try simp only [go_sem] at hc)) | refine q8 rfl ?_ | ((with_reducible apply And.intro); focus omega) | (refine q7 hK ?_; clear hK; simp only [go_sem, *]) | simp only [q6, z8, go_sem, *])
   all_goals first | contradiction | omega | skip
   (refine ⟨[_], [], [], ⟨rfl, trivial⟩, ?_⟩; simp only [go_sem, *])
  ·rw [if_neg hxy] at hP
   rw [← hP]
   clear hP
   repeat' (first | (refine Qr rfl ?_; try intro _ hK; try simp only [go_sem, *]) | refine Qh rfl ?_ | (refine Qc rfl rfl ?_ ?_ <;> (intro hb; have hc := hb; try simp only [go_sem] at hc)) | refine q8 rfl ?_ | ((with_reducible apply And.intro); focus omega) | (refine q7 hK ?_; clear hK; simp only [go_sem, *]) | simp only [q6, z8, go_sem, *])
   all_goals first | contradiction | omega | skip
   (refine ⟨[_], [], [], ⟨rfl, trivial⟩, ?_⟩; simp only [go_sem, *])
theorem zP9 (a b : List Nat) (h1 : a.length ≤ 4294967296) (h2 : b.length ≤ 4294967296) : zMf prog 103 [zN7 a, zN7 b] [] (iV (Q2 a b)) [] := by
 have s1 := zHk a.length b.length
 have s2 := zPm a b h1 h2
 have so := zDU [zMm a.length b.length, l3 a b] (by simp)
 rw [zC0] at so
 unfold Q2
 generalize orI (zMm a.length b.length) (l3 a b) = r at *
 generalize zMm a.length b.length = c at *
 generalize l3 a b = d at *
 clear h1 h2
 refine q9 func103 rfl (fun E hE => ?_); simp only [go_sem, ntmps103]
 repeat' (first | (refine Qr rfl ?_; try intro _ hK; try simp only [go_sem, *]) | refine Qh rfl ?_ | (refine Qc rfl rfl ?_ ?_ <;> (intro hb; have hc := hb; try simp only [go_sem] at hc)) | refine q8 rfl ?_ | ((first | refine y5 (s1) ?_ | refine y5 (s2) ?_); simp only [go_sem, *]) | ((with_reducible apply And.intro); focus omega) | (refine q7 hK ?_; clear hK; simp only [go_sem, *]) | simp only [q6, z8, go_sem, *])
 (refine V9 [0] (so) (by simp only [go_sem, *]) (.raw _) ?_; simp only [go_sem, *])
 repeat' (first | (refine Qr rfl ?_; try intro _ hK; try simp only [go_sem, *]) | refine Qh rfl ?_ | (refine Qc rfl rfl ?_ ?_ <;> (intro hb; have hc := hb; try simp only [go_sem] at hc)) | refine q8 rfl ?_ | ((with_reducible apply And.intro); focus omega) | (refine q7 hK ?_; clear hK; simp only [go_sem, *]) | simp only [q6, z8, go_sem, *])
 (refine ⟨[_], [], [], ⟨rfl, trivial⟩, ?_⟩; simp only [go_sem, *])
noncomputable def zOk : Code := sub [0, 1, 0, 1, 1, 1] (V8 Tryz.f102)
noncomputable def zOE (fn : FuncId) : LoopK := ⟨fn, #[10], L2 zOk, L3 zOk, 23⟩
def zOB : Option (List Nat) → AV
 | none => .raw (.slice none 0 0)
 | some c => zN7 c
@[go_sem] theorem zQU : zOB none = .raw (.slice none 0 0) := rfl
@[go_sem] theorem zQV (c : List Nat) : zOB (some c) = .list (c.map nV) := rfl
@[go_sem] theorem zQR (H : Nat → AObj) (m : List (Option Nat)) (ex : List Nat) (B : Option (List Nat)) : XpF H m ex (zOB B) (zOB B) ↔ True := by cases B <;> simp [zOB, XpF]
@[go_sem] theorem zQb (f : Nat → Nat) (B : Option (List Nat)) : AV.ren f (zOB B) = zOB B := by cases B <;> simp [zOB, AV.ren]
@[go_sem] theorem zQW (B : Option (List Nat)) : (zOB B).cells = [zOB B] := by cases B <;> rfl
@[go_sem] theorem zQa (B : Option (List Nat)) : (zOB B).one = true := by cases B <;> rfl
@[go_sem] theorem zQX (B : Option (List Nat)) : (zOB B).flat = true := by cases B <;> rfl
@[go_sem] theorem zQd (B : Option (List Nat)) : (zOB B).sized = true := by cases B <;> rfl
abbrev zOG : AV := fnV 103
abbrev zQZ (c : List Nat) : Prop := c.length ≤ 1000
theorem zQP (fn : FuncId) (c : List Nat) : e9 prog [zN7 c] [.loopo (zOE fn) [(3, .ptr 1 0), (6, .ptr 2 0), (7, .ptr 3 0)] (some none), .box [zOG], .box [.raw (.slice none 0 0)], .box [bV false]] (bV true)
  [.loopo (zOE fn) [(3, .ptr 1 0), (6, .ptr 2 0), (7, .ptr 3 0)] (some none), .box [zOG], .box [zN7 c], .box [bV true]] := by
 refine P9 (L := zOE fn) (env := [(3, .ptr 1 0), (6, .ptr 2 0), (7, .ptr 3 0)]) (j := none) rfl rfl (fun E l hE => ?_)
 refine j1 rfl ?_
 simp only [zOE, c8, go_sem]
 repeat' (first | (refine Qr (ops := _ :: _) rfl ?_; try intro _ hK; try simp only [go_sem, *]) | (refine Qi rfl rfl rfl rfl ?_ ?_ <;> (intro hb; (try intro _ hK); have hc := hb; try simp only [go_sem] at hc; simp only [go_sem, *])) | (refine Qb ?_ ?_; focus kernel_rfl) | ((with_reducible apply And.intro); focus omega) | (refine q7 hK ?_; clear hK; simp only [go_sem, *]) | simp only [q6, z8, go_sem, *])
 refine o0 ?_
 refine ⟨by simp only [go_sem], ?_⟩
 refine P2 (id := 1) rfl ?_
 refine Q8 rfl ?_
 refine j1 rfl ?_
 simp only [go_sem]
 repeat' (first | (refine Qr (ops := _ :: _) rfl ?_; try intro _ hK; try simp only [go_sem, *]) | (refine Qi rfl rfl rfl rfl ?_ ?_ <;> (intro hb; (try intro _ hK); have hc := hb; try simp only [go_sem] at hc; simp only [go_sem, *])) | (refine Qb ?_ ?_; focus kernel_rfl) | ((with_reducible apply And.intro); focus omega) | (refine q7 hK ?_; clear hK; simp only [go_sem, *]) | simp only [q6, z8, go_sem, *])
 refine o0 ?_
 refine T4 (t := true) rfl (by simp only [go_sem]) (fun _ => ?_) (fun h => by cases h)
 refine j1 rfl ?_
 simp only [go_sem]
 repeat' (first | (refine Qr (ops := _ :: _) rfl ?_; try intro _ hK; try simp only [go_sem, *]) | (refine Qi rfl rfl rfl rfl ?_ ?_ <;> (intro hb; (try intro _ hK); have hc := hb; try simp only [go_sem] at hc; simp only [go_sem, *])) | (refine Qb ?_ ?_; focus kernel_rfl) | ((with_reducible apply And.intro); focus omega) | (refine q7 hK ?_; clear hK; simp only [go_sem, *]) | simp only [q6, z8, go_sem, *])
 refine o0 ?_
 simp only [z8, go_sem]
 refine ⟨rfl, [some 0, some 1, some 2, some 3], [], ?_⟩
 simp only [go_sem, *]
theorem zQQ (fn : FuncId) (b c : List Nat) (hb1 : b.length ≤ 1000) (hc1 : c.length ≤ 1000) : e9 prog [zN7 c] [.loopo (zOE fn) [(3, .ptr 1 0), (6, .ptr 2 0), (7, .ptr 3 0)] (some none), .box [zOG], .box [zN7 b], .box [bV true]] (bV true)
  [.loopo (zOE fn) [(3, .ptr 1 0), (6, .ptr 2 0), (7, .ptr 3 0)] (some none), .box [zOG], .box [zN7 (if Q2 c b < 0 then c else b)], .box [bV true]] := by
 have hca : p7 prog 103 = true := by kernel_rfl
 have sc := zP9 c b (by omega) (by omega)
 refine P9 (L := zOE fn) (env := [(3, .ptr 1 0), (6, .ptr 2 0), (7, .ptr 3 0)]) (j := none) rfl rfl (fun E l hE => ?_)
 refine j1 rfl ?_
 simp only [zOE, c8, go_sem]
 repeat' (first | (refine Qr (ops := _ :: _) rfl ?_; try intro _ hK; try simp only [go_sem, *]) | (refine Qi rfl rfl rfl rfl ?_ ?_ <;> (intro hb; (try intro _ hK); have hc := hb; try simp only [go_sem] at hc; simp only [go_sem, *])) | (refine Qb ?_ ?_; focus kernel_rfl) | ((with_reducible apply And.intro); focus omega) | (refine q7 hK ?_; clear hK; simp only [go_sem, *]) | simp only [q6, z8, go_sem, *])
 refine o0 ?_
 refine ⟨by simp only [go_sem], ?_⟩
 refine P2 (id := 1) rfl ?_
 refine Q8 rfl ?_
 refine j1 rfl ?_
 simp only [go_sem]
 repeat' (first | (refine Qr (ops := _ :: _) rfl ?_; try intro _ hK; try simp only [go_sem, *]) | (refine Qi rfl rfl rfl rfl ?_ ?_ <;> (intro hb; (try intro _ hK); have hc := hb; try simp only [go_sem] at hc; simp only [go_sem, *])) | (refine Qb ?_ ?_; focus kernel_rfl) | ((with_reducible apply And.intro); focus omega) | (refine q7 hK ?_; clear hK; simp only [go_sem, *]) | simp only [q6, z8, go_sem, *])
 refine y5 sc ?_
 simp only [go_sem]
 repeat' (first | (refine Qr (ops := _ :: _) rfl ?_; try intro _ hK; try simp only [go_sem, *]) | (refine Qi rfl rfl rfl rfl ?_ ?_ <;> (intro hb; (try intro _ hK); have hc := hb; try simp only [go_sem] at hc; simp only [go_sem, *])) | (refine Qb ?_ ?_; focus kernel_rfl) | ((with_reducible apply And.intro); focus omega) | (refine q7 hK ?_; clear hK; simp only [go_sem, *]) | simp only [q6, z8, go_sem, *])
 refine o0 ?_
 refine T4 (t := decide (Q2 c b < 0)) rfl (by simp only [go_sem]) (fun h => ?_) (fun h => ?_)
 ·rw [if_pos (by simpa using h)]
  refine j1 rfl ?_
  simp only [go_sem]
  repeat' (first | (refine Qr (ops := _ :: _) rfl ?_; try intro _ hK; try simp only [go_sem, *]) | (refine Qi rfl rfl rfl rfl ?_ ?_ <;> (intro hb; (try intro _ hK); have hc := hb; try simp only [go_sem] at hc; simp only [go_sem, *])) | (refine Qb ?_ ?_; focus kernel_rfl) | ((with_reducible apply And.intro); focus omega) | (refine q7 hK ?_; clear hK; simp only [go_sem, *]) | simp only [q6, z8, go_sem, *])
  refine o0 ?_
  simp only [z8, go_sem]
  refine ⟨rfl, [some 0, some 1, some 2, some 3], [], ?_⟩
  simp only [go_sem, *]
 ·rw [if_neg (by simpa using h)]
  refine H5 rfl ?_
  simp only [z8, go_sem]
  refine ⟨rfl, [some 0, some 1, some 2, some 3], [], ?_⟩
  simp only [go_sem, *]
theorem zQO (fn : FuncId) (B : Option (List Nat)) (c : List Nat) (hb1 : ∀ b, B = some b → b.length ≤ 1000) (hc1 : c.length ≤ 1000) : e9 prog [zN7 c] [.loopo (zOE fn) [(3, .ptr 1 0), (6, .ptr 2 0), (7, .ptr 3 0)] (some none), .box [zOG], .box [zOB B], .box [bV B.isSome]] (bV true)
  [.loopo (zOE fn) [(3, .ptr 1 0), (6, .ptr 2 0), (7, .ptr 3 0)] (some none), .box [zOG], .box [zOB (x7 Q2 B [c])], .box [bV (x7 Q2 B [c]).isSome]] := by
 cases B with
 | none => exact zQP fn c
 | some b =>
  have := zQQ fn b c (hb1 b rfl) hc1
  rw [zBx]
  by_cases h : Q2 c b < 0
  ·simp only [if_pos h] at this ⊢; exact this
  ·simp only [if_neg h] at this ⊢; exact this
end Go.Abs

namespace Go.Abs
open Go Go.Proofs Tryz
attribute [local irreducible] y6 Hold x5
def zOF (l : List Str) (s : Nat) : List (List Nat) := (List.range' s (2 ^ l.length - s)).filterMap fun set => if i9 (zAq l set) = true then some (M4 l.length set) else none
theorem zPj (l : List Str) : zOF l 0 = D6 l := by
 unfold zOF D6
 rw [List.range_eq_range']; rfl
theorem zPi {l : List Str} {s : Nat} (h : s < 2 ^ l.length) : zOF l s = (if i9 (zAq l s) = true then [M4 l.length s] else []) ++ zOF l (s + 1) := by
 unfold zOF
 rw [show 2 ^ l.length - s = (2 ^ l.length - (s + 1)) + 1 by omega, List.range'_succ, List.filterMap_cons]
 split <;> rename_i h2 <;> split at h2 <;> simp_all
theorem zPh {l : List Str} {s : Nat} (h : ¬ s < 2 ^ l.length) : zOF l s = [] := by
 unfold zOF
 rw [show 2 ^ l.length - s = 0 by omega]; rfl
def zOH (l : List Str) (set i : Nat) : List Str := ((List.range i).filter fun i => !set.testBit i).map fun i => l.getD i default
theorem zPZ (set i : Nat) : M4 (i + 1) set = if set.testBit i = true then M4 i set ++ [i] else M4 i set := by
 unfold M4
 rw [List.range_succ, List.filter_append]
 cases h : set.testBit i <;> simp [h]
theorem zPg (l : List Str) (set i : Nat) : zOH l set (i + 1) = if set.testBit i = true then zOH l set i else zOH l set i ++ [l.getD i default] := by
 unfold zOH
 rw [List.range_succ, List.filter_append]
 cases h : set.testBit i <;> simp [h]
theorem zOr (set i : Nat) : (M4 i set).length ≤ i := by
 unfold M4
 have := List.length_filter_le (fun i => set.testBit i) (List.range i)
 simpa using this
theorem zOx (l : List Str) (set i : Nat) : (zOH l set i).length ≤ i := by
 unfold zOH
 have := List.length_filter_le (fun i => !set.testBit i) (List.range i)
 simpa using this
theorem zPl : ∀ n, n < 7 → IntKind.i64.wrap (1 * 2 ^ (min n 64)) = ((2 ^ n : Nat) : Int) := by decide
def zOg (a b : Int) : Int := IntKind.i64.wrap (BitVec.ofInt IntKind.i64.bits a &&& BitVec.ofInt IntKind.i64.bits b).toNat
def zOz (a : Int) (k : Nat) : Int := a.fdiv (2 ^ (min k IntKind.i64.bits))
@[go_sem ↓] theorem zQY (a b : Int) (K : Cont) : zNM .and .i64 a b K = K (iV (zOg a b)) [] [] := rfl
@[go_sem ↓] theorem zQc (a b : Int) (K : Cont) : P5 .shr .i64 a b K = (0 ≤ b ∧ K (iV (zOz a b.toNat)) [] []) := rfl
def zQm (set i : Nat) : Int := zOg (zOz set i) 1
set_option maxRecDepth 100000 in
theorem zPO : ((List.range 64).all fun set => (List.range 6).all fun i => decide (zQm set i = if set.testBit i = true then 1 else 0)) = true := by kernel_rfl
theorem zPP {set i : Nat} (h1 : set < 64) (h2 : i < 6) : zQm set i = if set.testBit i = true then 1 else 0 := by
 have := List.all_eq_true.1 (List.all_eq_true.1 zPO set (List.mem_range.2 h1)) i (List.mem_range.2 h2)
 exact of_decide_eq_true this
noncomputable abbrev zOJ (fn : FuncId) (B : Option (List Nat)) : List AObj := [.loopo (zOE fn) [(3, .ptr 1 0), (6, .ptr 2 0), (7, .ptr 3 0)] (some none), .box [zOG], .box [zOB B], .box [bV B.isSome]]
theorem zPr (fn : FuncId) (l : List Str) (hv : ∀ s, s ∈ l → ValidN s) (h6 : l.length ≤ 6) (B : Option (List Nat)) (hB : ∀ b, B = some b → b.length ≤ 1000) :
  zMf prog 100 [.yld 0, .ptr 4 0] (zOJ fn B ++ [.box [y8 l]]) (.tup []) (zOJ fn (x7 Q2 B (D6 l)) ++ [.box [y8 l]]) := by
 obtain ⟨T, hT⟩ : ∃ T, x7 Q2 B (D6 l) = T := ⟨_, rfl⟩
 rw [hT]
 rw [← zPj] at hT
 have hpw : (2 : Nat) ^ l.length ≤ 64 := Nat.pow_le_pow_right (by decide) h6
 have hsh := zPl l.length (by omega)
 simp only [zOJ, List.cons_append, List.nil_append]
 refine q9 func100 rfl (fun E hE => ?_); simp only [go_sem, ntmps100]
 repeat' (first | (refine Qr rfl ?_; try intro _ hK; try simp only [go_sem, *]) | (refine Qi rfl rfl rfl rfl ?_ ?_ <;> (intro hb; (try intro _ hK); have hc := hb; try simp only [go_sem] at hc; simp only [go_sem, *])) | refine Qh rfl ?_ | (refine Qc rfl rfl ?_ ?_ <;> (intro hb; have hc := hb; try simp only [go_sem] at hc)) | refine q8 rfl ?_ | ((with_reducible apply And.intro); focus omega) | (refine q7 hK ?_; clear hK; simp only [go_sem, *]) | simp only [q6, z8, go_sem, *])
 refine a7 rfl (2 ^ l.length) (fun s (Z : Option (List Nat)) => x7 Q2 Z (zOF l s) = T ∧ ∀ b, Z = some b → b.length ≤ 1000) 44 (fun s Z => [(11, iV s), (10, iV ((2 ^ l.length : Nat) : Int)), (0, .yld 0), (1, .ptr 4 0)]) (fun s Z => zOJ fn Z ++ [.box [y8 l]]) [some 0, some 1, some 2, some 3, some 4] [] (B) (by exact ⟨hT, hB⟩) ?_; intro s Z hs hP
 clear hT hB hsh
 obtain ⟨hP, hZ⟩ := hP
 by_cases hs2 : s < 2 ^ l.length
 ·have hsi : (s : Int) < ((2 ^ l.length : Nat) : Int) := by omega
  repeat' (first | (refine Qr rfl ?_; try intro _ hK; try simp only [go_sem, *]) | (refine Qi rfl rfl rfl rfl ?_ ?_ <;> (intro hb; (try intro _ hK); have hc := hb; try simp only [go_sem] at hc; simp only [go_sem, *])) | refine Qh rfl ?_ | (refine Qc rfl rfl ?_ ?_ <;> (intro hb; have hc := hb; try simp only [go_sem] at hc)) | refine q8 rfl ?_ | ((with_reducible apply And.intro); focus omega) | (refine q7 hK ?_; clear hK; simp only [go_sem, *]) | simp only [q6, z8, go_sem, *])
  all_goals first | contradiction | omega | skip
  refine N7 rfl (l.length) (fun i (o : List Nat) (q : List Str) => o = M4 i s ∧ q = zOH l s i) 44 (fun i o q => [(16, iV i), (15, iV l.length), (14, y8 l), (3, iV s), (4, .own 5 1 0 o.length), (5, .own 6 1 0 q.length), (11, iV s), (10, iV ((2 ^ l.length : Nat) : Int)), (0, .yld 0), (1, .ptr 4 0)]) (fun i o q => zOJ fn Z ++ [.box [y8 l], .row 1 (o.map nV), .row 1 (q.map sV)]) [some 0, some 1, some 2, some 3, some 4, none, none] [] ([]) ([]) (by exact ⟨rfl, rfl⟩) ?_; intro i o q hi hQ
  obtain ⟨hQ1, hQ2⟩ := hQ
  by_cases hi2 : i < l.length
  ·have hii : (i : Int) < (l.length : Int) := by omega
   have hwi : IntKind.i64.wrap ((i : Int) + 1) = ((i + 1 : Nat) : Int) := r7 (by omega)
   have hbe := zPP (set := s) (i := i) (by omega) (by omega)
   have hol := zOr s i
   have hql := zOx l s i
   have hos := zPZ s i
   have hqs := zPg l s i
   rw [← hQ1] at hol hos
   rw [← hQ2] at hql hqs
   clear hQ1 hQ2 hP hZ
   unfold zQm at hbe
   cases htb : s.testBit i
   ·rw [htb] at hbe hos hqs
    have hbe2 := hbe.trans (if_neg (by decide))
    clear hbe
    repeat' (first | (refine Qr rfl ?_; try intro _ hK; try simp only [go_sem, *]) | (refine Qi rfl rfl rfl rfl ?_ ?_ <;> (intro hb; (try intro _ hK); have hc := hb; try simp only [go_sem] at hc; simp only [go_sem, *])) | refine Qh rfl ?_ | (refine Qc rfl rfl ?_ ?_ <;> (intro hb; have hc := hb; try simp only [go_sem] at hc)) | refine q8 rfl ?_ | ((with_reducible apply And.intro); focus omega) | (refine q7 hK ?_; clear hK; simp only [go_sem, *]) | simp only [q6, z8, go_sem, *])
    all_goals first | contradiction | omega | skip
    exact c6 (i' := i + 1) [some 0, some 1, some 2, some 3, some 4, some 5, some 8] [] (o) (q ++ [l.getD i default]) (by exact ⟨hos.symm, hqs.symm⟩)
   ·rw [htb] at hbe hos hqs
    have hbe2 := hbe.trans (if_pos rfl)
    clear hbe
    repeat' (first | (refine Qr rfl ?_; try intro _ hK; try simp only [go_sem, *]) | (refine Qi rfl rfl rfl rfl ?_ ?_ <;> (intro hb; (try intro _ hK); have hc := hb; try simp only [go_sem] at hc; simp only [go_sem, *])) | refine Qh rfl ?_ | (refine Qc rfl rfl ?_ ?_ <;> (intro hb; have hc := hb; try simp only [go_sem] at hc)) | refine q8 rfl ?_ | ((with_reducible apply And.intro); focus omega) | (refine q7 hK ?_; clear hK; simp only [go_sem, *]) | simp only [q6, z8, go_sem, *])
    all_goals first | contradiction | omega | skip
    exact c6 (i' := i + 1) [some 0, some 1, some 2, some 3, some 4, some 8, some 6] [] (o ++ [i]) (q) (by exact ⟨hos.symm, hqs.symm⟩)
  ·have hil : i = l.length := by omega
   have hii : ¬ (i : Int) < (l.length : Int) := by omega
   have hol := zOr s i
   have hql := zOx l s i
   have hqv : ∀ x, x ∈ zOH l s i → ValidN x := fun x hx => by
    unfold zOH at hx
    obtain ⟨j, hj, rfl⟩ := List.mem_map.1 hx
    have := List.mem_range.1 (List.mem_filter.1 hj).1
    exact hv _ (j9 (by omega))
   rw [zPi hs2] at hP
   have e1 : zAq l s = q := by rw [hQ2, hil]; rfl
   have e2 : M4 l.length s = o := by rw [hQ1, hil]
   rw [e1, e2] at hP
   rw [← hQ1] at hol
   rw [← hQ2] at hql hqv
   clear hQ1 hQ2 e1 e2 hv
   have so := zHw q hqv (by omega)
   have htq : List.take q.length (List.map sV q) = List.map sV q := List.take_of_length_le (by simp)
   have hto : List.take o.length (List.map nV o) = List.map nV o := List.take_of_length_le (by simp)
   have hws : IntKind.i64.wrap ((s : Int) + 1) = ((s + 1 : Nat) : Int) := r7 (by omega)
   clear hqv
   cases hord : i9 q
   ·rw [hord] at hP so
    have hP2 : x7 Q2 Z (zOF l (s + 1)) = T := hP
    clear hord hP
    repeat' (first | ((with_reducible refine zMV [0, 1, 1, 1, 1, 0, 0, 1, 1, 0, 0, 1] ?_)) | (refine Qr rfl ?_; try intro _ hK; try simp only [go_sem, *]) | (refine Qi rfl rfl rfl rfl ?_ ?_ <;> (intro hb; (try intro _ hK); have hc := hb; try simp only [go_sem] at hc; simp only [go_sem, *])) | refine Qh rfl ?_ | (refine Qc rfl rfl ?_ ?_ <;> (intro hb; have hc := hb; try simp only [go_sem] at hc)) | refine q8 rfl ?_ | ((with_reducible apply And.intro); focus omega) | (refine q7 hK ?_; clear hK; simp only [go_sem, *]) | simp only [q6, z8, go_sem, *])
    all_goals first | contradiction | omega | skip
    refine ⟨?_⟩
    refine R8 (N := 44) (env := [(4, zN7 o), (5, y8 q), (11, iV s), (10, iV ((2 ^ l.length : Nat) : Int)), (0, .yld 0), (1, .ptr 4 0)]) (As := zOJ fn Z ++ [.box [y8 l]]) [some 0, some 1, some 2, some 3, some 4] [5, 6] (by (simp only [Weak, go_sem, List.map_append, List.map_set, *] <;> (try simp (disch := omega) only [r7]) <;> (try simp) <;> (try omega))) ?_
    refine G0 5 rfl rfl rfl ?_
    simp only [List.take_succ_cons, List.take_zero, List.drop_succ_cons, List.drop_zero]
    repeat' (first | (refine Qr rfl ?_; try intro _ hK; try simp only [go_sem, *]) | (refine Qi rfl rfl rfl rfl ?_ ?_ <;> (intro hb; (try intro _ hK); have hc := hb; try simp only [go_sem] at hc; simp only [go_sem, *])) | refine Qh rfl ?_ | (refine Qc rfl rfl ?_ ?_ <;> (intro hb; have hc := hb; try simp only [go_sem] at hc)) | refine q8 rfl ?_ | (refine y5 (so) ?_; simp only [go_sem, *]) | ((with_reducible apply And.intro); focus omega) | (refine q7 hK ?_; clear hK; simp only [go_sem, *]) | simp only [q6, z8, go_sem, *])
    all_goals first | contradiction | omega | skip
    refine zCA rfl rfl (by simp only [go_sem]) ?_
    repeat' (first | (refine Qr rfl ?_; try intro _ hK; try simp only [go_sem, *]) | (refine Qi rfl rfl rfl rfl ?_ ?_ <;> (intro hb; (try intro _ hK); have hc := hb; try simp only [go_sem] at hc; simp only [go_sem, *])) | refine Qh rfl ?_ | (refine Qc rfl rfl ?_ ?_ <;> (intro hb; have hc := hb; try simp only [go_sem] at hc)) | refine q8 rfl ?_ | ((with_reducible apply And.intro); focus omega) | (refine q7 hK ?_; clear hK; simp only [go_sem, *]) | simp only [q6, z8, go_sem, *])
    all_goals first | contradiction | omega | skip
    exact n0 (i' := s + 1) [some 0, some 1, some 2, some 3, some 4] [] (Z) (by exact ⟨hP2, hZ⟩)
   ·rw [hord] at hP so
    have hP2 : x7 Q2 (x7 Q2 Z [o]) (zOF l (s + 1)) = T := by rw [← hP, ← J4]; rfl
    have hy := zQO fn Z o hZ (by omega)
    have hZ2 : ∀ b, x7 Q2 Z [o] = some b → b.length ≤ 1000 := fun b hb2 => by
     rcases J5 hb2 with h | h
     ·exact hZ b h
     ·rw [List.mem_singleton.1 h]; omega
    generalize x7 Q2 Z [o] = Z2 at *
    clear hord hP hZ
    repeat' (first | ((with_reducible refine zMV [0, 1, 1, 1, 1, 0, 0, 1, 1, 0, 0, 1] ?_)) | (refine Qr rfl ?_; try intro _ hK; try simp only [go_sem, *]) | (refine Qi rfl rfl rfl rfl ?_ ?_ <;> (intro hb; (try intro _ hK); have hc := hb; try simp only [go_sem] at hc; simp only [go_sem, *])) | refine Qh rfl ?_ | (refine Qc rfl rfl ?_ ?_ <;> (intro hb; have hc := hb; try simp only [go_sem] at hc)) | refine q8 rfl ?_ | ((with_reducible apply And.intro); focus omega) | (refine q7 hK ?_; clear hK; simp only [go_sem, *]) | simp only [q6, z8, go_sem, *])
    all_goals first | contradiction | omega | skip
    refine ⟨?_⟩
    refine R8 (N := 44) (env := [(4, zN7 o), (5, y8 q), (11, iV s), (10, iV ((2 ^ l.length : Nat) : Int)), (0, .yld 0), (1, .ptr 4 0)]) (As := zOJ fn Z ++ [.box [y8 l]]) [some 0, some 1, some 2, some 3, some 4] [5, 6] (by (simp only [Weak, go_sem, List.map_append, List.map_set, *] <;> (try simp (disch := omega) only [r7]) <;> (try simp) <;> (try omega))) ?_
    refine G0 5 rfl rfl rfl ?_
    simp only [List.take_succ_cons, List.take_zero, List.drop_succ_cons, List.drop_zero]
    repeat' (first | (refine Qr rfl ?_; try intro _ hK; try simp only [go_sem, *]) | (refine Qi rfl rfl rfl rfl ?_ ?_ <;> (intro hb; (try intro _ hK); have hc := hb; try simp only [go_sem] at hc; simp only [go_sem, *])) | refine Qh rfl ?_ | (refine Qc rfl rfl ?_ ?_ <;> (intro hb; have hc := hb; try simp only [go_sem] at hc)) | refine q8 rfl ?_ | (refine y5 (so) ?_; simp only [go_sem, *]) | ((with_reducible apply And.intro); focus omega) | (refine q7 hK ?_; clear hK; simp only [go_sem, *]) | simp only [q6, z8, go_sem, *])
    all_goals first | contradiction | omega | skip
    refine zCC rfl rfl (by simp only [go_sem]) ?_
    refine B6 [0, 1, 2, 3] [] hy rfl rfl (by simp) (by simp only [go_sem]) (by simp only [go_sem]) (by simp) (.inl rfl) (by simp [go_sem]) (by simp [go_sem]) ?_
    simp only [go_sem]
    repeat' (first | (refine Qr rfl ?_; try intro _ hK; try simp only [go_sem, *]) | (refine Qi rfl rfl rfl rfl ?_ ?_ <;> (intro hb; (try intro _ hK); have hc := hb; try simp only [go_sem] at hc; simp only [go_sem, *])) | refine Qh rfl ?_ | (refine Qc rfl rfl ?_ ?_ <;> (intro hb; have hc := hb; try simp only [go_sem] at hc)) | refine q8 rfl ?_ | ((with_reducible apply And.intro); focus omega) | (refine q7 hK ?_; clear hK; simp only [go_sem, *]) | simp only [q6, z8, go_sem, *])
    all_goals first | contradiction | omega | skip
    exact n0 (i' := s + 1) [some 0, some 1, some 2, some 3, some 4] [] (Z2) (by exact ⟨hP2, hZ2⟩)
 ·rw [zPh hs2] at hP
  have hP2 : Z = T := by cases Z <;> exact hP
  subst hP2
  have hsi : ¬ (s : Int) < ((2 ^ l.length : Nat) : Int) := by omega
  clear hP
  repeat' (first | (refine Qr rfl ?_; try intro _ hK; try simp only [go_sem, *]) | (refine Qi rfl rfl rfl rfl ?_ ?_ <;> (intro hb; (try intro _ hK); have hc := hb; try simp only [go_sem] at hc; simp only [go_sem, *])) | refine Qh rfl ?_ | (refine Qc rfl rfl ?_ ?_ <;> (intro hb; have hc := hb; try simp only [go_sem] at hc)) | refine q8 rfl ?_ | ((with_reducible apply And.intro); focus omega) | (refine q7 hK ?_; clear hK; simp only [go_sem, *]) | simp only [q6, z8, go_sem, *])
  all_goals first | contradiction | omega | skip
  refine ⟨[], [some 0, some 1, some 2, some 3, some 4], [], trivial, ?_⟩
  simp only [go_sem, f9, *]
end Go.Abs

namespace Go.Abs
open Go Go.Proofs Tryz
attribute [local irreducible] y6 Hold x5
theorem zPu (l : List Str) (hv : ∀ s, s ∈ l → ValidN s) (h6 : l.length ≤ 6) :
  zMf prog 102 [.fn 100 [.ptr 0 0], zOG] [.box [y8 l]] (.tup [zOB (b9 Q2 (D6 l)), bV (b9 Q2 (D6 l)).isSome]) [.box [y8 l]] := by
 have s1 := fun fn => zPr fn l hv h6 none (fun b h => by cases h)
 have e : b9 Q2 (D6 l) = x7 Q2 none (D6 l) := rfl
 rw [e]
 generalize x7 Q2 none (D6 l) = B at *
 clear hv e
 simp only [zOJ, List.cons_append, List.nil_append, Option.isSome_none] at s1
 refine q9 func102 rfl (fun E hE => ?_); simp only [go_sem, ntmps102]
 repeat' (first | (refine Qr rfl ?_; try intro _ hK; try simp only [go_sem, *]) | refine Qh rfl ?_ | refine Qd rfl (by kernel_rfl) ?_ | (refine Qc rfl rfl ?_ ?_ <;> (intro hb; have hc := hb; try simp only [go_sem] at hc)) | refine q8 rfl ?_ | (refine Qb ?_ ?_; focus kernel_rfl) | ((with_reducible apply And.intro); focus omega) | (refine q7 hK ?_; clear hK; simp only [go_sem, *]) | simp only [q6, z8, go_sem, *])
 refine R8 (N := 23) (env := [(9, .fn 100 [.ptr 0 0]), (3, .ptr 1 0), (6, .ptr 2 0), (7, .ptr 3 0)]) (As := [.box [y8 l], .box [zOG], .box [zOB none], .box [bV false]]) [some 0, some 1, some 2, some 3] [] (by (simp only [Weak, go_sem, List.map_append, List.map_set, *] <;> (try simp (disch := omega) only [r7]) <;> (try simp) <;> (try omega))) ?_
 refine C6 (f := 100) (caps := [.ptr 0 0]) rfl (by simp only [go_sem]) (by kernel_rfl) (nx := 4) (by simp only [go_sem]) (fun fn => ⟨5, ?_⟩)
 refine p6 [4, 1, 2, 3, 0] [] (s1 fn) (by simp) (by simp only [go_sem]) ?_ (by simp) (.inl rfl) (by simp [go_sem]) (by simp [go_sem]) ?_
 ·simp only [go_sem, *]
  first | rfl | exact ⟨rfl, rfl⟩
 ·simp only [go_sem, *]
  refine ⟨zOE fn, [(3, .ptr 1 0), (6, .ptr 2 0), (7, .ptr 3 0)], none, by simp only [go_sem], ?_⟩
  simp only [go_sem]
  repeat' (first | (refine Qr rfl ?_; try intro _ hK; try simp only [go_sem, *]) | refine Qh rfl ?_ | refine Qd rfl (by kernel_rfl) ?_ | (refine Qc rfl rfl ?_ ?_ <;> (intro hb; have hc := hb; try simp only [go_sem] at hc)) | refine q8 rfl ?_ | (refine Qb ?_ ?_; focus kernel_rfl) | ((with_reducible apply And.intro); focus omega) | (refine q7 hK ?_; clear hK; simp only [go_sem, *]) | simp only [q6, z8, go_sem, *])
  refine ⟨[_, _], [some 0], [], ⟨rfl, rfl, trivial⟩, ?_⟩
  simp only [go_sem, *]
theorem zQN (l : List Str) : b9 Q2 (D6 l) = some (B5 l) := by
 have hl := (zI3 l).1
 cases h : b9 Q2 (D6 l) with
 | some c =>
  have : B5 l = c := by unfold B5; rw [h]; rfl
  rw [this]
 | none =>
  exfalso
  have hm : B5 l ∈ D6 l := mem_rightSets.2 hl
  have hne : D6 l ≠ [] := fun e => by rw [e] at hm; cases hm
  obtain ⟨b, hb2, _⟩ := U7 (cmp := Q2) (fun x y z => zFh) (fun x y => zEK x y) hne
  rw [h] at hb2; cases hb2
theorem zPt (l : List Str) (q : v8 l = 0) : zMf prog 56 [y8 l] [] (.tup [zN7 (B5 l), iV 0]) [] := by
 have hv := E7 q
 have h6 := E6 q
 have s1 := L7 l (by omega)
 rw [q] at s1
 have s2 := zPu l hv h6
 rw [zQN] at s2
 have s2 : zMf prog 102 [.fn 100 [.ptr 0 0], zOG] [.box [y8 l]] (.tup [zN7 (B5 l), bV true]) [.box [y8 l]] := s2
 generalize B5 l = w at *
 clear hv q h6
 refine q9 func56 rfl (fun E hE => ?_); simp only [go_sem, ntmps56]
 repeat' (first | (refine Qr rfl ?_; try intro _ hK; try simp only [go_sem, *]) | refine Qh rfl ?_ | (refine Qc rfl rfl ?_ ?_ <;> (intro hb; have hc := hb; try simp only [go_sem] at hc)) | refine q8 rfl ?_ | (refine y5 (s1) ?_; simp only [go_sem, *]) | (refine t8 [0] (s2) ?_; simp only [go_sem, *]) | ((with_reducible apply And.intro); focus omega) | (refine q7 hK ?_; clear hK; simp only [go_sem, *]) | simp only [q6, z8, go_sem, *])
 all_goals try contradiction
 (refine ⟨[_, _], [], [], ⟨rfl, rfl, trivial⟩, ?_⟩; simp only [go_sem, *])
theorem zPs (l : List Str) (hl : l.length ≤ 4294967296) (q : ¬ v8 l = 0) : zMf prog 56 [y8 l] [] (.tup [.raw (.slice none 0 0), iV (v8 l)]) [] := by
 have s1 := L7 l hl
 generalize v8 l = e at *
 refine q9 func56 rfl (fun E hE => ?_); simp only [go_sem, ntmps56]
 repeat' (first | (refine Qr rfl ?_; try intro _ hK; try simp only [go_sem, *]) | refine Qh rfl ?_ | (refine Qc rfl rfl ?_ ?_ <;> (intro hb; have hc := hb; try simp only [go_sem] at hc)) | refine q8 rfl ?_ | (refine y5 (s1) ?_; simp only [go_sem, *]) | ((with_reducible apply And.intro); focus omega) | (refine q7 hK ?_; clear hK; simp only [go_sem, *]) | simp only [q6, z8, go_sem, *])
 all_goals try contradiction
 (refine ⟨[_, _], [], [], ⟨rfl, rfl, trivial⟩, ?_⟩; simp only [go_sem, *])
end Go.Abs

namespace Go.Abs
open Go Go.Proofs Tryz
attribute [local irreducible] y6 Hold x5
@[go_sem, simp] theorem zPE {α : Type} (H : Nat → AObj) (m : List (Option Nat)) (ex : List Nat) (f : α → List AV) (l : List α) (x y : AV) : XpL H m ex (List.map (fun t => AV.list (f t)) l ++ [x]) (List.map (fun t => AV.list (f t)) l ++ [y]) ↔ XpF H m ex x y := by
 rw [zD9 _ (fun z hz => by
  obtain ⟨t, _, rfl⟩ := List.mem_map.1 hz
  simp only [XpF])]
@[go_sem, simp] theorem zQT {α : Type} (H : Nat → AObj) (m : List (Option Nat)) (ex : List Nat) (f : α → List AV) (l : List α) : XpL H m ex (List.map (fun t => AV.list (f t)) l) (List.map (fun t => AV.list (f t)) l) ↔ True := ⟨fun _ => trivial, fun _ => zEA (fun x => by simp only [XpF]) _⟩
def zN9 (n : Nat) : Nat → Nat → List (List Int)
 | 0, _ => [[]]
 | _ + 1, 0 => []
 | m + 1, r + 1 => (zN9 n m r).map (fun l => (((n - (r + 1) : Nat) : Int)) :: l) ++ zN9 n (m + 1) r
theorem zOR (n r : Nat) : zN9 n 0 r = [[]] := by cases r <;> rfl
theorem zOf (n : Nat) : ∀ (r m : Nat), r < m → zN9 n m r = []
 | 0, 0, h => by omega
 | 0, m + 1, _ => rfl
 | r + 1, 0, h => by omega
 | r + 1, m + 1, h => by
  rw [zN9, zOf n r m (by omega), zOf n r (m + 1) (by omega)]
  rfl
theorem zOe (n : Nat) : ∀ (r m : Nat) (l : List Int), r ≤ n → l ∈ zN9 n m r → l.length = m ∧ ∀ k, k ∈ l → 0 ≤ k ∧ k < n
 | r, 0, l, _, h => by
  rw [zOR] at h
  rw [List.mem_singleton.1 h]
  exact ⟨rfl, fun k hk => by cases hk⟩
 | 0, m + 1, l, _, h => by cases h
 | r + 1, m + 1, l, hr, h => by
  rw [zN9] at h
  rcases List.mem_append.1 h with h | h
  ·obtain ⟨q, hq, rfl⟩ := List.mem_map.1 h
   obtain ⟨h1, h2⟩ := zOe n r m q (by omega) hq
   refine ⟨by simp [h1], fun k hk => ?_⟩
   rcases List.mem_cons.1 hk with rfl | hk
   ·omega
   ·exact h2 k hk
  ·exact zOe n r (m + 1) l (by omega) h
theorem zOd (n : Nat) : ∀ (r m : Nat), (zN9 n m r).length ≤ 2 ^ r
 | r, 0 => by rw [zOR]; exact Nat.one_le_two_pow
 | 0, m + 1 => Nat.zero_le _
 | r + 1, m + 1 => by
  have h1 := zOd n r m
  have h2 := zOd n r (m + 1)
  rw [zN9, List.length_append, List.length_map, Nat.pow_succ]
  omega
@[go_sem, simp] theorem zQS (H : Nat → AObj) (m : List (Option Nat)) (ex : List Nat) (l : List (List Int)) (x y : AV) : XpL H m ex (List.map R5 l ++ [x]) (List.map R5 l ++ [y]) ↔ XpF H m ex x y := zPE H m ex (fun t => t.map iV) l x y
theorem zQE {n m i : Nat} (h : i < n) : zN9 n (m + 1) (n - i) = (zN9 n m (n - (i + 1))).map (fun l => (i : Int) :: l) ++ zN9 n (m + 1) (n - (i + 1)) := by
 obtain ⟨r, hr⟩ : ∃ r, n - (i + 1) = r := ⟨_, rfl⟩
 have e : n - i = r + 1 := by omega
 have e2 : n - (r + 1) = i := by omega
 rw [e, hr, zN9, e2]
theorem zPD {n r m : Nat} (h : r ≤ 24) : (zN9 n m r).length ≤ 16777216 := Nat.le_trans (zOd n r m) (Nat.pow_le_pow_right (by omega) h)
end Go.Abs

namespace Go.Abs
open Go Go.Proofs Tryz
attribute [local irreducible] y6 Hold x5
theorem zO4 (n : Nat) (hn : n ≤ 24) : ∀ (m start : Nat), m ≤ 24 → start ≤ n →
  zMf prog 109 [iV start, iV n, iV m] [] (.list ((zN9 n m (n - start)).map R5)) []
 | 0, start, hm, hs => by
  rw [zOR]
  refine q9 func109 rfl (fun E hE => ?_); simp only [go_sem, ntmps109]
  repeat' (first | (refine Qr rfl ?_; try intro _ hK; try simp only [go_sem, *]) | refine Qh rfl ?_ | (refine Qc rfl rfl ?_ ?_ <;> (intro hb; have hc := hb; try simp only [go_sem] at hc)) | refine q8 rfl ?_ | ((with_reducible apply And.intro); focus omega) | (refine q7 hK ?_; clear hK; simp only [go_sem, *]) | simp only [q6, z8, go_sem, *])
  all_goals try contradiction
  refine ⟨[.own 0 1 0 1], [], [0], ⟨rfl, trivial⟩, ?_⟩
  simp only [go_sem, *]
 | m + 1, start, hm, hs => by
  have IH := fun i (hi : i + 1 ≤ n) => zO4 n hn m (i + 1) (by omega) hi
  have hRl := zPD (n := n) (r := n - start) (m := m + 1) (by omega)
  obtain ⟨R, hR0⟩ : ∃ R, ([] : List (List Int)) ++ zN9 n (m + 1) (n - start) = R := ⟨_, rfl⟩
  have hR1 : zN9 n (m + 1) (n - start) = R := hR0
  rw [hR1] at hRl ⊢
  clear hR1
  have hst := fun i => zQE (n := n) (m := m) (i := i)
  have hno := fun i => zOf n i (m + 1)
  have hw1 : IntKind.i64.wrap (((m + 1 : Nat) : Int) - 1) = (m : Int) := by rw [wrap_i64 (by omega) (by omega)]; omega
  have hz : (((m + 1 : Nat) : Int) == 0) = false := by rw [beq_eq_false_iff_ne]; omega
  obtain ⟨M, hM⟩ : ∃ M, M = m + 1 := ⟨_, rfl⟩
  rw [← hM] at hw1 hz hst hno hR0 ⊢
  have hM2 : m < M := by omega
  have hM3 : M ≤ 24 := by omega
  clear hM
  refine q9 func109 rfl (fun E hE => ?_); simp only [go_sem, ntmps109]
  repeat' (first | (refine Qr rfl ?_; try intro _ hK; try simp only [go_sem, *]) | refine Qh rfl ?_ | (refine Qc rfl rfl ?_ ?_ <;> (intro hb; have hc := hb; try simp only [go_sem] at hc)) | refine q8 rfl ?_ | ((with_reducible apply And.intro); focus omega) | (refine q7 hK ?_; clear hK; simp only [go_sem, *]) | simp only [q6, z8, go_sem, *])
  all_goals try contradiction
  refine N7 rfl (n - start) (fun q (i : Nat) (acc : List (List Int)) => (start + q ≤ i ∧ i ≤ start + q) ∧ acc ++ zN9 n M (n - i) = R) 43 (fun q i acc => [(8, iV i), (7, .own 0 1 0 acc.length), (1, iV n), (2, iV M)]) (fun q i acc => [.box (acc.map R5)]) [none] [] (start) ([]) (by exact ⟨⟨Nat.le_refl _, Nat.le_refl _⟩, hR0⟩) ?_; intro q i acc hq hP
  clear hR0
  obtain ⟨⟨hik1, hik2⟩, hP⟩ := hP
  have hiM : i ≤ n := by omega
  have hw3 : IntKind.i64.wrap ((i : Int) + 1) = ((i + 1 : Nat) : Int) := by rw [wrap_i64 (by omega) (by omega)]; omega
  by_cases hi : i < n
  ·have hi3 : (i : Int) < n := by omega
   rw [hst i (by omega)] at hP
   have ih := IH i (by omega)
   have hWm : ∀ l, l ∈ zN9 n m (n - (i + 1)) → l.length ≤ 24 := fun l hm => by have := (zOe n _ m l (by omega) hm).1; omega
   generalize zN9 n m (n - (i + 1)) = W at *
   generalize hT : zN9 n M (n - (i + 1)) = T at *
   clear IH hst hno
   have hP0 : acc ++ ((W.drop 0).map (fun l => (i : Int) :: l) ++ T) = R := hP
   have hql := congrArg List.length hP
   simp only [List.length_append, List.length_map] at hql
   have hWl : W.length ≤ 16777216 := by omega
   clear hql
   repeat' (first | (refine Qr rfl ?_; try intro _ hK; try simp only [go_sem, *]) | refine Qh rfl ?_ | (refine Qc rfl rfl ?_ ?_ <;> (intro hb; have hc := hb; try simp only [go_sem] at hc)) | refine q8 rfl ?_ | (refine y5 (ih) ?_; simp only [go_sem, *]) | ((with_reducible apply And.intro); focus omega) | (refine q7 hK ?_; clear hK; simp only [go_sem, *]) | simp only [q6, z8, go_sem, *])
   all_goals try contradiction
   clear hP
   refine a7 rfl (W.length) (fun k (ac : List (List Int)) => ac ++ ((W.drop k).map (fun l => (i : Int) :: l) ++ T) = R) 43 (fun k ac => [(10, iV k), (9, .list (W.map R5)), (8, iV i), (7, .own 0 1 0 ac.length), (1, iV n), (2, iV M)]) (fun k ac => [.box (ac.map R5)]) [some 0] [] (acc) (by exact hP0) ?_; intro k ac hk hQ
   clear hP0
   by_cases hk : k < W.length
   ·have hk3 : (k : Int) < W.length := by omega
    rw [j4 hk, List.map_cons] at hQ
    have hql := congrArg List.length hQ
    simp only [List.length_append, List.length_map, List.length_cons] at hql
    have hWk := hWm _ (j9 hk)
    clear hWm
    generalize hw0 : W.getD k default = w at *
    have ht : ∀ a : AV, List.take (1 + w.length) ([a] ++ List.map iV w) = a :: List.map iV w := fun a => List.take_of_length_le (by simp; omega)
    have ht2 : ∀ a : AV, List.take (1 + w.length) (a :: List.map iV w) = a :: List.map iV w := ht
    have ht3 : 1 + w.length ≤ w.length + 1 := by omega
    repeat' (first | (refine Qr rfl ?_; try intro _ hK; try simp only [go_sem, *]) | refine Qh rfl ?_ | (refine Qc rfl rfl ?_ ?_ <;> (intro hb; have hc := hb; try simp only [go_sem] at hc)) | refine q8 rfl ?_ | (with_reducible (show (∀ _ : AV, _ → _) ∧ _); refine And.intro ?_ ?_; (focus (intro y hy; first | (obtain ⟨z, _, rfl⟩ := List.mem_map.1 (hy); simp [go_sem]; done) | (obtain ⟨z, _, rfl⟩ := List.mem_map.1 (List.mem_of_mem_take hy); simp [go_sem]; done) | (obtain ⟨z, _, rfl⟩ := List.mem_map.1 (List.mem_of_mem_drop hy); simp [go_sem]; done) | (obtain ⟨z, _, rfl⟩ := List.mem_map.1 (List.mem_of_mem_drop (List.mem_of_mem_take hy)); simp [go_sem]; done)))) | ((with_reducible apply And.intro); focus omega) | (refine q7 hK ?_; clear hK; simp only [go_sem, *]) | simp only [q6, z8, go_sem, *])
    all_goals try contradiction
    exact n0 (i' := k + 1) [some 4] [2] (ac ++ [(i : Int) :: w]) (by rw [← hQ]; simp)
   ·have hk3 : ¬ (k : Int) < W.length := by omega
    rw [d7 (by omega), List.map_nil, List.nil_append] at hQ
    repeat' (first | (refine Qr rfl ?_; try intro _ hK; try simp only [go_sem, *]) | refine Qh rfl ?_ | (refine Qc rfl rfl ?_ ?_ <;> (intro hb; have hc := hb; try simp only [go_sem] at hc)) | refine q8 rfl ?_ | ((with_reducible apply And.intro); focus omega) | (refine q7 hK ?_; clear hK; simp only [go_sem, *]) | simp only [q6, z8, go_sem, *])
    all_goals try contradiction
    exact c6 (i' := q + 1) [some 0] [] (i + 1) (ac) (by rw [hT]; exact ⟨⟨by omega, by omega⟩, hQ⟩)
  ·have hi3 : ¬ (i : Int) < n := by omega
   rw [hno _ (by omega), List.append_nil] at hP
   subst hP
   clear IH hst hno
   repeat' (first | (refine Qr rfl ?_; try intro _ hK; try simp only [go_sem, *]) | refine Qh rfl ?_ | (refine Qc rfl rfl ?_ ?_ <;> (intro hb; have hc := hb; try simp only [go_sem] at hc)) | refine q8 rfl ?_ | ((with_reducible apply And.intro); focus omega) | (refine q7 hK ?_; clear hK; simp only [go_sem, *]) | simp only [q6, z8, go_sem, *])
   all_goals try contradiction
   refine ⟨[.own 0 1 0 acc.length], [], [0], ⟨rfl, trivial⟩, ?_⟩
   simp only [go_sem, *]
   intro x hx
   obtain ⟨y, _, rfl⟩ := List.mem_map.1 hx
   rfl
end Go.Abs

namespace Go.Abs
open Go Go.Proofs Tryz
attribute [local irreducible] y6 Hold x5
def wTo (l : List Str) (c : List Int) (i : Nat) : List Str := ((List.range i).filter fun (j : Nat) => !(c.any (· == (j : Int)))).map fun j => l.getD j default
def WOK (l : List Str) (c : List Int) (i : Nat) (acc : List Str) : Prop := acc = wTo l c i
def zOL (c : List Int) (i : Nat) (k : Nat) (b : Bool) : Prop := b = (c.take k).any (· == (i : Int))
theorem zQH (l : List Str) (c : List Int) (i : Nat) : wTo l c (i + 1) = if c.any (· == (i : Int)) = true then wTo l c i else wTo l c i ++ [l.getD i default] := by
 unfold wTo
 rw [List.range_succ, List.filter_append]
 cases h : c.any (· == (i : Int)) <;> simp [h]
theorem zQG (l : List Str) (c : List Int) (i : Nat) : (wTo l c i).length ≤ i := by
 unfold wTo
 have := List.length_filter_le (fun (j : Nat) => !(c.any (· == (j : Int)))) (List.range i)
 simpa using this
theorem zP3 (l : List Str) (c : List Int) (hl : l.length ≤ 1000) (hc0 : c.length ≤ 1000) : zMf prog 59 [y8 l, R5 c] [] (.own 0 1 0 (wTo l c l.length).length) [.row 1 ((wTo l c l.length).map sV)] := by
  refine q9 func59 rfl (fun E hE => ?_); simp only [go_sem, ntmps59]
  repeat' (first | (refine Qr rfl ?_; try intro _ hK; try simp only [go_sem, *]) | (refine Qi rfl rfl rfl rfl ?_ ?_ <;> (intro hb; (try intro _ hK); have hc := hb; try simp only [go_sem] at hc; simp only [go_sem, *])) | refine Qh rfl ?_ | (refine Qc rfl rfl ?_ ?_ <;> (intro hb; have hc := hb; try simp only [go_sem] at hc)) | refine q8 rfl ?_ | ((with_reducible apply And.intro); focus omega) | (refine q7 hK ?_; clear hK; simp only [go_sem, *]) | simp only [q6, z8, go_sem, *])
  refine a7 rfl (l.length) (fun i (acc : List Str) => WOK l c i acc) 40 (fun i acc => [(6, iV i), (5, .own 0 1 0 acc.length), (0, y8 l), (1, R5 c)]) (fun i acc => [.row 1 (acc.map sV)]) [none] [] ([]) (by exact rfl) ?_; intro i acc hi hP
  by_cases hi2 : i < l.length
  · have hii : (i : Int) < (l.length : Int) := by omega
    have hwi : IntKind.i64.wrap ((i : Int) + 1) = ((i + 1 : Nat) : Int) := r7 (by omega)
    have hal : acc.length ≤ i := by unfold WOK at hP; rw [hP]; exact zQG l c i
    repeat' (first | (refine Qr rfl ?_; try intro _ hK; try simp only [go_sem, *]) | (refine Qi rfl rfl rfl rfl ?_ ?_ <;> (intro hb; (try intro _ hK); have hc := hb; try simp only [go_sem] at hc; simp only [go_sem, *])) | refine Qh rfl ?_ | (refine Qc rfl rfl ?_ ?_ <;> (intro hb; have hc := hb; try simp only [go_sem] at hc)) | refine q8 rfl ?_ | ((with_reducible apply And.intro); focus omega) | (refine q7 hK ?_; clear hK; simp only [go_sem, *]) | simp only [q6, z8, go_sem, *])
    all_goals first | contradiction | omega | skip
    refine a7 rfl (c.length) (fun k (g : Bool) => zOL c i k g) 40 (fun k g => [(8, iV k), (7, bV g), (6, iV i), (5, .own 0 1 0 acc.length), (0, y8 l), (1, R5 c)]) (fun k g => [.row 1 (acc.map sV)]) [some 0] [] (false) (by exact rfl) ?_; intro k g hk hQ
    by_cases hk2 : k < c.length
    · have hki : (k : Int) < (c.length : Int) := by omega
      have hwk : IntKind.i64.wrap ((k : Int) + 1) = ((k + 1 : Nat) : Int) := r7 (by omega)
      have hQ2 : zOL c i (k + 1) (g || (c.getD k default == (i : Int))) := by
        unfold zOL at hQ ⊢
        rw [B2 hk2, List.any_append, hQ]; simp
      clear hQ hP
      cases g
      · have hQ2 : zOL c i (k + 1) (c.getD k default == (i : Int)) := hQ2
        generalize hze : c.getD k default = z at *
        generalize hzy : (z == (i : Int)) = p at *
        repeat' (first | (refine Qr rfl ?_; try intro _ hK; try simp only [go_sem, *]) | (refine Qi rfl rfl rfl rfl ?_ ?_ <;> (intro hb; (try intro _ hK); have hc := hb; try simp only [go_sem] at hc; simp only [go_sem, *])) | refine Qh rfl ?_ | (refine Qc rfl rfl ?_ ?_ <;> (intro hb; have hc := hb; try simp only [go_sem] at hc)) | refine q8 rfl ?_ | ((with_reducible apply And.intro); focus omega) | (refine q7 hK ?_; clear hK; simp only [go_sem, *]) | simp only [q6, z8, go_sem, *])
        all_goals first | contradiction | omega | skip
        exact n0 (i' := k + 1) [some 0] [] (p) (by exact hQ2)
      · have hQ2 : zOL c i (k + 1) true := hQ2
        repeat' (first | (refine Qr rfl ?_; try intro _ hK; try simp only [go_sem, *]) | (refine Qi rfl rfl rfl rfl ?_ ?_ <;> (intro hb; (try intro _ hK); have hc := hb; try simp only [go_sem] at hc; simp only [go_sem, *])) | refine Qh rfl ?_ | (refine Qc rfl rfl ?_ ?_ <;> (intro hb; have hc := hb; try simp only [go_sem] at hc)) | refine q8 rfl ?_ | ((with_reducible apply And.intro); focus omega) | (refine q7 hK ?_; clear hK; simp only [go_sem, *]) | simp only [q6, z8, go_sem, *])
        all_goals first | contradiction | omega | skip
        exact n0 (i' := k + 1) [some 0] [] (true) (by exact hQ2)
    · have hki : ¬ (k : Int) < (c.length : Int) := by omega
      have hst := zQH l c i
      have hg : g = c.any (· == (i : Int)) := by
        unfold zOL at hQ
        rw [hQ, List.take_of_length_le (by omega)]
      rw [← hg] at hst
      clear hQ hg
      cases g
      · have hP2 : WOK l c (i + 1) (acc ++ [l.getD i default]) := by
          unfold WOK at hP ⊢
          rw [hst, hP]; rfl
        clear hst hP
        repeat' (first | (refine Qr rfl ?_; try intro _ hK; try simp only [go_sem, *]) | (refine Qi rfl rfl rfl rfl ?_ ?_ <;> (intro hb; (try intro _ hK); have hc := hb; try simp only [go_sem] at hc; simp only [go_sem, *])) | refine Qh rfl ?_ | (refine Qc rfl rfl ?_ ?_ <;> (intro hb; have hc := hb; try simp only [go_sem] at hc)) | refine q8 rfl ?_ | ((with_reducible apply And.intro); focus omega) | (refine q7 hK ?_; clear hK; simp only [go_sem, *]) | simp only [q6, z8, go_sem, *])
        all_goals first | contradiction | omega | skip
        exact n0 (i' := i + 1) [some 2] [] (acc ++ [l.getD i default]) (by exact hP2)
      · have hP2 : WOK l c (i + 1) acc := by
          unfold WOK at hP ⊢
          rw [hst, hP]; rfl
        clear hst hP
        repeat' (first | (refine Qr rfl ?_; try intro _ hK; try simp only [go_sem, *]) | (refine Qi rfl rfl rfl rfl ?_ ?_ <;> (intro hb; (try intro _ hK); have hc := hb; try simp only [go_sem] at hc; simp only [go_sem, *])) | refine Qh rfl ?_ | (refine Qc rfl rfl ?_ ?_ <;> (intro hb; have hc := hb; try simp only [go_sem] at hc)) | refine q8 rfl ?_ | ((with_reducible apply And.intro); focus omega) | (refine q7 hK ?_; clear hK; simp only [go_sem, *]) | simp only [q6, z8, go_sem, *])
        all_goals first | contradiction | omega | skip
        exact n0 (i' := i + 1) [some 0] [] (acc) (by exact hP2)
  · have hie : i = l.length := by omega
    have hii : ¬ (i : Int) < (l.length : Int) := by omega
    unfold WOK at hP
    rw [hie] at hP
    rw [← hP]
    clear hP hie
    repeat' (first | (refine Qr rfl ?_; try intro _ hK; try simp only [go_sem, *]) | (refine Qi rfl rfl rfl rfl ?_ ?_ <;> (intro hb; (try intro _ hK); have hc := hb; try simp only [go_sem] at hc; simp only [go_sem, *])) | refine Qh rfl ?_ | (refine Qc rfl rfl ?_ ?_ <;> (intro hb; have hc := hb; try simp only [go_sem] at hc)) | refine q8 rfl ?_ | ((with_reducible apply And.intro); focus omega) | (refine q7 hK ?_; clear hK; simp only [go_sem, *]) | simp only [q6, z8, go_sem, *])
    all_goals first | contradiction | omega | skip
    refine ⟨[_], [some 0], [], ⟨rfl, trivial⟩, ?_⟩
    simp only [go_sem, *]
def zQn (q : List Str) (t : Nat) : Prop := ∀ j, j < t → ¬ x9 (q.getD (j + 1) []) (q.getD j []) < 0
end Go.Abs

namespace Go.Abs
open Go Go.Proofs Tryz
attribute [local irreducible] y6 Hold x5
def zOA (c : List Nat) : List Int := c.map fun (k : Nat) => (k : Int)
theorem zOS (n : Nat) : ∀ (m r : Nat), r ≤ n → zN9 n m r = (X2 n m (n - r)).map zOA
 | 0, r, h => by rw [zOR]; rfl
 | m + 1, 0, h => by
  have : n - (n - 0) = 0 := by omega
  simp [zN9, X2, this]
 | m + 1, r + 1, h => by
  have e1 : n - (n - (r + 1)) = r + 1 := by omega
  have e2 : n - (r + 1) + 1 = n - r := by omega
  have e3 : n - (n - r) = r := by omega
  rw [zN9, zOS n m r (by omega), zOS n (m + 1) r (by omega)]
  rw [X2, X2, e1, e3, List.range'_succ, List.flatMap_cons, e2, List.map_append, List.map_map, List.map_map]
  rfl
theorem zPy (n m : Nat) (hn : n ≤ 24) (hm : m ≤ 24) : zMf prog 109 [iV 0, iV n, iV m] [] (.list ((X2 n m 0).map zN7)) [] := by
 have h := zO4 n hn m 0 hm (Nat.zero_le _)
 have e := zOS n m (n - 0) (by omega)
 have e0 : n - (n - 0) = 0 := by omega
 rw [e, e0, List.map_map] at h
 have e2 : (R5 ∘ zOA) = zN7 := by
  funext c
  simp [zOA, List.map_map]
 rw [e2] at h
 exact h
theorem zQJ (l : List Str) (c : List Nat) : wTo l (zOA c) l.length = P7 l c := by
 unfold wTo P7
 have : ∀ j : Nat, (zOA c).any (· == (j : Int)) = decide (j ∈ c) := by
  intro j
  rw [Bool.eq_iff_iff, List.any_eq_true, decide_eq_true_eq]
  constructor
  ·rintro ⟨x, hx, e⟩
   obtain ⟨k, hk, rfl⟩ := List.mem_map.1 hx
   have : k = j := by have h9 : (k : Int) = (j : Int) := eq_of_beq e; omega
   exact this ▸ hk
  ·intro h
   exact ⟨(j : Int), List.mem_map.2 ⟨j, h, rfl⟩, by simp⟩
 simp only [this]
 rfl
theorem zP4 (l : List Str) (c : List Nat) (hl : l.length ≤ 1000) (hc0 : c.length ≤ 1000) : zMf prog 59 [y8 l, zN7 c] [] (.own 0 1 0 (P7 l c).length) [.row 1 ((P7 l c).map sV)] := by
 have h := zP3 l (zOA c) hl (by simpa [zOA] using hc0)
 rw [zQJ] at h
 have e : R5 (zOA c) = zN7 c := by simp [zOA, List.map_map]
 rw [e] at h
 exact h
def zOT (l : List Str) (c : List Nat) : Option (List Nat) := if i9 (P7 l c) = true then some c else none
def zOq (o r : Option (List Nat)) : Option (List Nat) := match o with | some y => some y | none => r
theorem zOl {α β : Type} (f : α → Option β) (x : α) (r : List α) : r8 f (x :: r) = match f x with | some y => some y | none => r8 f r := rfl
def zQj (l : List Str) (w : List Nat) (m : Nat) : Prop := r8 (B4 l) ((List.range (l.length + 1)).drop m) = some w
def zQh (l : List Str) (w : List Nat) (m k : Nat) : Prop := zOq (r8 (zOT l) ((X2 l.length m 0).drop k)) (r8 (B4 l) ((List.range (l.length + 1)).drop (m + 1))) = some w
theorem zQK {l : List Str} {w : List Nat} {m : Nat} (hm : m < l.length + 1) (h : zQj l w m) : zQh l w m 0 := by
 unfold zQj at h
 rw [j4 (by simpa using hm), zOl] at h
 have e : (List.range (l.length + 1)).getD m default = m := by simp [List.getD, hm]
 rw [e] at h
 have e2 : B4 l m = r8 (zOT l) (X2 l.length m 0) := rfl
 rw [e2] at h
 unfold zQh zOq
 rw [List.drop_zero]
 generalize r8 (zOT l) (X2 l.length m 0) = o at *
 cases o <;> exact h
theorem zQL {l : List Str} {w : List Nat} {m k : Nat} (hk : (X2 l.length m 0).length ≤ k) (h : zQh l w m k) : zQj l w (m + 1) := by
 unfold zQh at h
 rw [d7 hk] at h
 exact h
theorem zQM {l : List Str} {w : List Nat} {m k : Nat} (hk : k < (X2 l.length m 0).length) (h : zQh l w m k) :
  (i9 (P7 l ((X2 l.length m 0).getD k default)) = true ∧ (X2 l.length m 0).getD k default = w) ∨ (i9 (P7 l ((X2 l.length m 0).getD k default)) = false ∧ zQh l w m (k + 1)) := by
 unfold zQh at h
 rw [j4 hk, zOl] at h
 unfold zOT at h
 by_cases q : i9 (P7 l ((X2 l.length m 0).getD k default)) = true
 ·rw [if_pos q] at h
  exact .inl ⟨q, Option.some.inj h⟩
 ·rw [if_neg q] at h
  exact .inr ⟨by simpa using q, h⟩
theorem zQI {l : List Str} (hv : ∀ s, s ∈ l → ValidN s) (c : List Nat) : (∀ s, s ∈ P7 l c → ValidN s) ∧ (P7 l c).length ≤ l.length := by
 refine ⟨fun s hs => ?_, ?_⟩
 ·obtain ⟨i, hi, rfl⟩ := List.mem_map.1 hs
  have := List.mem_range.1 (List.mem_filter.1 hi).1
  exact hv _ (by simp [List.getD, this])
 ·unfold P7
  rw [List.length_map]
  exact Nat.le_trans (List.length_filter_le _ _) (by simp)
theorem zP6 (l : List Str) (q : v8 l = 0) : zMf prog 65 [y8 l] [] (.tup [zN7 (B5 l), iV 0]) [] := by
 have hv := E7 q
 have h6 := E6 q
 have s1 := zMT l (by omega) (fun s hs => by have := (hv s hs).len; omega)
 rw [q] at s1
 have h0 : zQj l (B5 l) 0 := zMe l
 generalize B5 l = w at *
 clear q
 refine q9 func65 rfl (fun E hE => ?_); simp only [go_sem, ntmps65]
 repeat' (first | (refine Qr rfl ?_; try intro _ hK; try simp only [go_sem, *]) | refine Qh rfl ?_ | (refine Qc rfl rfl ?_ ?_ <;> (intro hb; have hc := hb; try simp only [go_sem] at hc)) | refine q8 rfl ?_ | (refine y5 (s1) ?_; simp only [go_sem, *]) | ((with_reducible apply And.intro); focus omega) | (refine q7 hK ?_; clear hK; simp only [go_sem, *]) | simp only [q6, z8, go_sem, *])
 all_goals try contradiction
 refine o9 rfl (l.length + 1) (fun m => zQj l w m) 40 (fun m => [(5, iV m), (0, y8 l)]) (fun m => []) [] [] (by exact h0) ?_; intro m hm hP
 clear h0 s1
 by_cases hm2 : m < l.length + 1
 ·have hmi : (m : Int) ≤ (l.length : Int) := by omega
  have hwm : IntKind.i64.wrap ((m : Int) + 1) = ((m + 1 : Nat) : Int) := r7 (by omega)
  have hin := zQK hm2 hP
  have sp := zPy l.length m (by omega) (by omega)
  have hPl : (X2 l.length m 0).length ≤ 16777216 := by
   have a := zOS l.length m l.length (Nat.le_refl _)
   have b := zPD (n := l.length) (r := l.length) (m := m) (by omega)
   rw [a, List.length_map, Nat.sub_self] at b
   exact b
  have hst := fun k hk => zQM (l := l) (w := w) (m := m) (k := k) hk
  have hend := fun k hk => zQL (l := l) (w := w) (m := m) (k := k) hk
  have hlen : ∀ c, c ∈ X2 l.length m 0 → c.length ≤ 1000 := fun c hc => by have := (mem_picksN.1 hc).1; omega
  clear hP
  generalize X2 l.length m 0 = P at *
  repeat' (first | (refine Qr rfl ?_; try intro _ hK; try simp only [go_sem, *]) | refine Qh rfl ?_ | (refine Qc rfl rfl ?_ ?_ <;> (intro hb; have hc := hb; try simp only [go_sem] at hc)) | refine q8 rfl ?_ | (refine y5 (sp) ?_; simp only [go_sem, *]) | ((with_reducible apply And.intro); focus omega) | (refine q7 hK ?_; clear hK; simp only [go_sem, *]) | simp only [q6, z8, go_sem, *])
  all_goals first | contradiction | omega | skip
  refine o9 rfl (P.length) (fun k => zQh l w m k) 40 (fun k => [(7, iV k), (6, .list (P.map zN7)), (5, iV m), (0, y8 l)]) (fun k => []) [] [] (by exact hin) ?_; intro k hk hQ
  clear hin sp
  by_cases hk2 : k < P.length
  ·have hki : (k : Int) < (P.length : Int) := by omega
   have hwk : IntKind.i64.wrap ((k : Int) + 1) = ((k + 1 : Nat) : Int) := r7 (by omega)
   have hcl := hlen _ (j9 hk2)
   have hcase := hst k hk2 hQ
   clear hst hend hlen hQ
   generalize hce : P.getD k default = c at *
   have sw := zP4 l c (by omega) hcl
   obtain ⟨hv2, hl2⟩ := zQI hv c
   have so := zPA (P7 l c) (by omega) hv2
   clear hv2
   generalize P7 l c = L at *
   rcases hcase with ⟨h1, h2⟩ | ⟨h1, h2⟩
   ·subst h2
    rw [h1] at so
    clear h1
    repeat' (first | (refine Qr rfl ?_; try intro _ hK; try simp only [go_sem, *]) | refine Qh rfl ?_ | (refine Qc rfl rfl ?_ ?_ <;> (intro hb; have hc := hb; try simp only [go_sem] at hc)) | refine q8 rfl ?_ | (refine j8 (sw) ?_; simp only [go_sem, *]) | ((with_reducible apply And.intro); focus omega) | (refine q7 hK ?_; clear hK; simp only [go_sem, *]) | simp only [q6, z8, go_sem, *])
    (refine V9 [0] (so) (by simp only [go_sem, *]) (.raw _) ?_; simp only [go_sem, *])
    repeat' (first | (refine Qr rfl ?_; try intro _ hK; try simp only [go_sem, *]) | refine Qh rfl ?_ | (refine Qc rfl rfl ?_ ?_ <;> (intro hb; have hc := hb; try simp only [go_sem] at hc)) | refine q8 rfl ?_ | ((with_reducible apply And.intro); focus omega) | (refine q7 hK ?_; clear hK; simp only [go_sem, *]) | simp only [q6, z8, go_sem, *])
    all_goals first | contradiction | omega | skip
    (refine ⟨[_, _], [], [], ⟨rfl, rfl, trivial⟩, ?_⟩; simp only [go_sem, *])
   ·rw [h1] at so
    clear h1
    repeat' (first | (refine Qr rfl ?_; try intro _ hK; try simp only [go_sem, *]) | refine Qh rfl ?_ | (refine Qc rfl rfl ?_ ?_ <;> (intro hb; have hc := hb; try simp only [go_sem] at hc)) | refine q8 rfl ?_ | (refine j8 (sw) ?_; simp only [go_sem, *]) | ((with_reducible apply And.intro); focus omega) | (refine q7 hK ?_; clear hK; simp only [go_sem, *]) | simp only [q6, z8, go_sem, *])
    (refine V9 [0] (so) (by simp only [go_sem, *]) (.raw _) ?_; simp only [go_sem, *])
    repeat' (first | (refine Qr rfl ?_; try intro _ hK; try simp only [go_sem, *]) | refine Qh rfl ?_ | (refine Qc rfl rfl ?_ ?_ <;> (intro hb; have hc := hb; try simp only [go_sem] at hc)) | refine q8 rfl ?_ | ((with_reducible apply And.intro); focus omega) | (refine q7 hK ?_; clear hK; simp only [go_sem, *]) | simp only [q6, z8, go_sem, *])
    all_goals first | contradiction | omega | skip
    exact f8 (i' := k + 1) [] [] (by exact h2)
  ·have hki : ¬ (k : Int) < (P.length : Int) := by omega
   have hn := hend k (by omega) hQ
   clear hst hend hlen hQ
   repeat' (first | (refine Qr rfl ?_; try intro _ hK; try simp only [go_sem, *]) | refine Qh rfl ?_ | (refine Qc rfl rfl ?_ ?_ <;> (intro hb; have hc := hb; try simp only [go_sem] at hc)) | refine q8 rfl ?_ | ((with_reducible apply And.intro); focus omega) | (refine q7 hK ?_; clear hK; simp only [go_sem, *]) | simp only [q6, z8, go_sem, *])
   all_goals first | contradiction | omega | skip
   exact f8 (i' := m + 1) [] [] (by exact hn)
 ·exfalso
  unfold zQj at hP
  rw [d7 (by simp; omega)] at hP
  cases hP
theorem zP5 (l : List Str) (hl : l.length ≤ 4294967296) (hx : ∀ s, s ∈ l → s.length ≤ 4294967296) (q : ¬ v8 l = 0) : zMf prog 65 [y8 l] [] (.tup [.raw (.slice none 0 0), iV (v8 l)]) [] := by
 have s1 := zMT l hl hx
 generalize v8 l = e at *
 refine q9 func65 rfl (fun E hE => ?_); simp only [go_sem, ntmps65]
 repeat' (first | (refine Qr rfl ?_; try intro _ hK; try simp only [go_sem, *]) | refine Qh rfl ?_ | (refine Qc rfl rfl ?_ ?_ <;> (intro hb; have hc := hb; try simp only [go_sem] at hc)) | refine q8 rfl ?_ | (refine y5 (s1) ?_; simp only [go_sem, *]) | ((with_reducible apply And.intro); focus omega) | (refine q7 hK ?_; clear hK; simp only [go_sem, *]) | simp only [q6, z8, go_sem, *])
 all_goals try contradiction
 (refine ⟨[_, _], [], [], ⟨rfl, rfl, trivial⟩, ?_⟩; simp only [go_sem, *])
end Go.Abs

namespace Go.Abs
open Go Go.Proofs Tryz
attribute [local irreducible] y6 Hold x5
theorem zOh (n : Nat) : ∀ (c : List Nat) (lo : Nat), c.Pairwise (· < ·) → (∀ i, i ∈ c → lo ≤ i ∧ i < n) → c.length ≤ n - lo
 | [], lo, _, _ => Nat.zero_le _
 | x :: r, lo, h, hb => by
  obtain ⟨h1, h2⟩ := List.pairwise_cons.1 h
  have hx := hb x (by simp)
  have := zOh n r (x + 1) h2 (fun i hi => ⟨h1 i hi, (hb i (by simp [hi])).2⟩)
  simp only [List.length_cons]; omega
theorem zPn : zMf prog 54 [.raw (.slice none 0 0), .raw (.slice none 0 0)] [] (bV true) [] := by
 refine q9 func54 rfl (fun E hE => ?_); simp only [go_sem, ntmps54]
 repeat' (first | (refine Qr rfl ?_; try intro _ hK; try simp only [go_sem, *]) | refine Qh rfl ?_ | refine Qd rfl (by kernel_rfl) ?_ | (refine Qc rfl rfl ?_ ?_ <;> (intro hb; have hc := hb; try simp only [go_sem] at hc)) | refine q8 rfl ?_ | (refine Qb ?_ ?_; focus kernel_rfl) | ((with_reducible apply And.intro); focus omega) | (refine q7 hK ?_; clear hK; simp only [go_sem, *]) | simp only [q6, z8, go_sem, *])
 refine o9 rfl (1) (fun j => NoQ j) 26 (fun j => [(5, iV 0), (0, .raw (.slice none 0 0)), (1, .raw (.slice none 0 0))]) (fun j => []) [] [] (by trivial) ?_; intro j hj hQ
 repeat' (first | (refine Qr rfl ?_; try intro _ hK; try simp only [go_sem, *]) | refine Qh rfl ?_ | refine Qd rfl (by kernel_rfl) ?_ | (refine Qc rfl rfl ?_ ?_ <;> (intro hb; have hc := hb; try simp only [go_sem] at hc)) | refine q8 rfl ?_ | (refine Qb ?_ ?_; focus kernel_rfl) | ((with_reducible apply And.intro); focus omega) | (refine q7 hK ?_; clear hK; simp only [go_sem, *]) | simp only [q6, z8, go_sem, *])
 all_goals first | contradiction | omega | skip
 (refine ⟨[_], [], [], ⟨rfl, trivial⟩, ?_⟩; simp only [go_sem, *])
def zOM (l : List Str) (i : Nat) (S : List Str) : Prop := S = (G4 l).take i
theorem zQf (l : List Str) (a b : Str) (nums : List Int) (hl : l.length ≤ 1048576 ∧ ∀ s, s ∈ l → s.length ≤ 1048576) (ha : a.length ≤ 1048576) (hb : b.length ≤ 1048576) (h : nums.length ≤ 4294967296) :
  zMf prog 14 [y8 l, sV a, sV b, R5 nums] [] (bV true) [] := by
 obtain ⟨d0, s0, hd0⟩ := zJ7 nums h
 obtain ⟨x, d1, s1, vx, hx0, hd1⟩ := zK5 d0 6 4 hd0 (by omega) (by omega)
 obtain ⟨w1, d2, s2, v1, hd2⟩ := zK4 d1 4 hd1 (by omega)
 obtain ⟨w2, d3, s3, v2, hd3⟩ := zK4 d2 4 hd2 (by omega)
 obtain ⟨w3, d4, s4, v3, hd4⟩ := zK4 d3 4 hd3 (by omega)
 obtain ⟨w4, d5, s5, v4, hd5⟩ := zK4 d4 2 hd4 (by omega)
 have hx6 : x.length ≤ 6 := by omega
 have sS := zMU
 have sL := zMR l (by omega)
 have sL2 := zMR [a, b] (by simp)
 have sO := zO5 x (zKw vx hx6)
 have hxl : (r6 x).length = x.length := C8 x
 have hto : List.take x.length (List.map nV (r6 x)) = List.map nV (r6 x) := List.take_of_length_le (by simp [C8])
 clear hd0 hd1 hd2 hd3 hd4 hd5 h
 generalize zAc [a, b] = q2 at *
 generalize zAc l = q1 at *
 refine q9 func14 rfl (fun E hE => ?_); simp only [go_sem, ntmps14]
 cases q1 with
 | true =>
  repeat' (first | (refine Qr rfl ?_; try intro _ hK; try simp only [go_sem, *]) | (refine Qi rfl rfl rfl rfl ?_ ?_ <;> (intro hb; (try intro _ hK); have hc := hb; try simp only [go_sem] at hc; simp only [go_sem, *])) | refine Qh rfl ?_ | refine Qd rfl (by kernel_rfl) ?_ | (refine Qc rfl rfl ?_ ?_ <;> (intro hb; have hc := hb; try simp only [go_sem] at hc)) | refine q8 rfl ?_ | (refine Qb ?_ ?_; focus kernel_rfl) | (refine y5 (sL) ?_; simp only [go_sem, *]) | (refine j8 (sS) ?_; simp only [go_sem, *]) | ((with_reducible apply And.intro); focus omega) | (refine q7 hK ?_; clear hK; simp only [go_sem, *]) | simp only [q6, z8, go_sem, *])
  all_goals try contradiction
  (refine ⟨[_], [], [], ⟨rfl, trivial⟩, ?_⟩; simp only [go_sem, *])
 | false =>
  cases q2 with
  | true =>
   repeat' (first | (refine Qr rfl ?_; try intro _ hK; try simp only [go_sem, *]) | (refine Qi rfl rfl rfl rfl ?_ ?_ <;> (intro hb; (try intro _ hK); have hc := hb; try simp only [go_sem] at hc; simp only [go_sem, *])) | refine Qh rfl ?_ | refine Qd rfl (by kernel_rfl) ?_ | (refine Qc rfl rfl ?_ ?_ <;> (intro hb; have hc := hb; try simp only [go_sem] at hc)) | refine q8 rfl ?_ | (refine Qb ?_ ?_; focus kernel_rfl) | (refine y5 (sL) ?_; simp only [go_sem, *]) | ((with_reducible apply And.intro); focus omega) | (refine q7 hK ?_; clear hK; simp only [go_sem, *]) | simp only [q6, z8, go_sem, *])
   (refine V9 [0] (sL2) (by simp only [go_sem, *]) (.raw _) ?_; simp only [go_sem, *])
   repeat' (first | (refine Qr rfl ?_; try intro _ hK; try simp only [go_sem, *]) | (refine Qi rfl rfl rfl rfl ?_ ?_ <;> (intro hb; (try intro _ hK); have hc := hb; try simp only [go_sem] at hc; simp only [go_sem, *])) | refine Qh rfl ?_ | refine Qd rfl (by kernel_rfl) ?_ | (refine Qc rfl rfl ?_ ?_ <;> (intro hb; have hc := hb; try simp only [go_sem] at hc)) | refine q8 rfl ?_ | (refine Qb ?_ ?_; focus kernel_rfl) | (refine j8 (sS) ?_; simp only [go_sem, *]) | ((with_reducible apply And.intro); focus omega) | (refine q7 hK ?_; clear hK; simp only [go_sem, *]) | simp only [q6, z8, go_sem, *])
   all_goals try contradiction
   (refine ⟨[_], [], [], ⟨rfl, trivial⟩, ?_⟩; simp only [go_sem, *])
  | false =>
   repeat' (first | (refine Qr rfl ?_; try intro _ hK; try simp only [go_sem, *]) | (refine Qi rfl rfl rfl rfl ?_ ?_ <;> (intro hb; (try intro _ hK); have hc := hb; try simp only [go_sem] at hc; simp only [go_sem, *])) | refine Qh rfl ?_ | refine Qd rfl (by kernel_rfl) ?_ | (refine Qc rfl rfl ?_ ?_ <;> (intro hb; have hc := hb; try simp only [go_sem] at hc)) | refine q8 rfl ?_ | (refine Qb ?_ ?_; focus kernel_rfl) | (refine y5 (sL) ?_; simp only [go_sem, *]) | ((with_reducible apply And.intro); focus omega) | (refine q7 hK ?_; clear hK; simp only [go_sem, *]) | simp only [q6, z8, go_sem, *])
   (refine V9 [0] (sL2) (by simp only [go_sem, *]) (.raw _) ?_; simp only [go_sem, *])
   repeat' (first | (refine Qr rfl ?_; try intro _ hK; try simp only [go_sem, *]) | (refine Qi rfl rfl rfl rfl ?_ ?_ <;> (intro hb; (try intro _ hK); have hc := hb; try simp only [go_sem] at hc; simp only [go_sem, *])) | refine Qh rfl ?_ | refine Qd rfl (by kernel_rfl) ?_ | (refine Qc rfl rfl ?_ ?_ <;> (intro hb; have hc := hb; try simp only [go_sem] at hc)) | refine q8 rfl ?_ | (refine Qb ?_ ?_; focus kernel_rfl) | (refine j8 (s0) ?_; simp only [go_sem, *]) | ((with_reducible apply And.intro); focus omega) | (refine q7 hK ?_; clear hK; simp only [go_sem, *]) | simp only [q6, z8, go_sem, *])
   refine t8 [1] s1 ?_
   simp only [go_sem, *]
   repeat' (first | ((with_reducible refine zMV [0, 1, 1, 1, 1] ?_)) | (refine Qr rfl ?_; try intro _ hK; try simp only [go_sem, *]) | (refine Qi rfl rfl rfl rfl ?_ ?_ <;> (intro hb; (try intro _ hK); have hc := hb; try simp only [go_sem] at hc; simp only [go_sem, *])) | refine Qh rfl ?_ | refine Qd rfl (by kernel_rfl) ?_ | (refine Qc rfl rfl ?_ ?_ <;> (intro hb; have hc := hb; try simp only [go_sem] at hc)) | refine q8 rfl ?_ | (refine Qb ?_ ?_; focus kernel_rfl) | ((with_reducible apply And.intro); focus omega) | (refine q7 hK ?_; clear hK; simp only [go_sem, *]) | simp only [q6, z8, go_sem, *])
   refine ⟨?_⟩
   refine R8 (N := 211) (env := [(9, .ptr 0 0), (10, y8 x), (0, y8 l), (1, sV a), (2, sV b)]) (As := [u6 d1]) [some 1] [2] (by (simp only [Weak, go_sem, List.map_append, List.map_set, *] <;> (try simp (disch := omega) only [r7]) <;> (try simp) <;> (try omega))) ?_
   clear s0 s1 sL sL2
   repeat' (first | ((with_reducible refine zMV [0, 1, 1, 1, 1, 1] ?_)) | (refine Qr rfl ?_; try intro _ hK; try simp only [go_sem, *]) | (refine Qi rfl rfl rfl rfl ?_ ?_ <;> (intro hb; (try intro _ hK); have hc := hb; try simp only [go_sem] at hc; simp only [go_sem, *])) | refine Qh rfl ?_ | refine Qd rfl (by kernel_rfl) ?_ | (refine Qc rfl rfl ?_ ?_ <;> (intro hb; have hc := hb; try simp only [go_sem] at hc)) | refine q8 rfl ?_ | (refine Qb ?_ ?_; focus kernel_rfl) | (refine j8 (sO) ?_; simp only [go_sem, *]) | ((with_reducible apply And.intro); focus omega) | (refine q7 hK ?_; clear hK; simp only [go_sem, *]) | simp only [q6, z8, go_sem, *])
   refine ⟨?_⟩
   refine R8 (N := 211) (env := [(11, zN7 (r6 x)), (9, .ptr 0 0), (10, y8 x), (0, y8 l), (1, sV a), (2, sV b)]) (As := [u6 d1]) [some 0] [1] (by (simp only [Weak, go_sem, List.map_append, List.map_set, *] <;> (try simp (disch := omega) only [r7]) <;> (try simp) <;> (try omega))) ?_
   clear sO hto
   have hxlt : ∀ i, i < x.length → (r6 x).getD i default < x.length := fun i h => zMG h
   have hxat : ∀ i, i < x.length → (G4 x).getD i default = x.getD ((r6 x).getD i default) default := fun i h => zMH h
   generalize r6 x = xs at *
   repeat' (first | (refine Qr rfl ?_; try intro _ hK; try simp only [go_sem, *]) | (refine Qi rfl rfl rfl rfl ?_ ?_ <;> (intro hb; (try intro _ hK); have hc := hb; try simp only [go_sem] at hc; simp only [go_sem, *])) | refine Qh rfl ?_ | refine Qd rfl (by kernel_rfl) ?_ | (refine Qc rfl rfl ?_ ?_ <;> (intro hb; have hc := hb; try simp only [go_sem] at hc)) | refine q8 rfl ?_ | (refine Qb ?_ ?_; focus kernel_rfl) | ((with_reducible apply And.intro); focus omega) | (refine q7 hK ?_; clear hK; simp only [go_sem, *]) | simp only [q6, z8, go_sem, *])
   all_goals try contradiction
   refine a7 rfl (x.length) (fun i (S : List Str) => zOM x i S) 211 (fun i S => [(14, iV i), (13, .own 1 1 0 i), (11, zN7 xs), (9, .ptr 0 0), (10, y8 x), (0, y8 l), (1, sV a), (2, sV b)]) (fun i S => [u6 d1, .row 1 (S.map sV)]) [some 0, none] [] ([]) (by exact rfl) ?_; intro i S hi hP
   by_cases hi2 : i < x.length
   ·have hix : i < xs.length := by omega
    have hii : (i : Int) < (xs.length : Int) := by omega
    have hii2 : (i : Int) < (x.length : Int) := by omega
    have hwi : IntKind.i64.wrap ((i : Int) + 1) = ((i + 1 : Nat) : Int) := r7 (by omega)
    have hx1 := hxlt i hi2
    have hat := hxat i hi2
    have hP2 : zOM x (i + 1) (S ++ [(G4 x).getD i default]) := by
     unfold zOM at hP ⊢
     rw [hP, B2 (by rw [zMI]; exact hi2)]
    rw [hat] at hP2
    have hSl : S.length = i := by unfold zOM at hP; rw [hP]; simp [zMI]; omega
    clear hat hP hxlt hxat
    generalize hxe : xs.getD i default = y at *
    repeat' (first | (refine Qr rfl ?_; try intro _ hK; try simp only [go_sem, *]) | (refine Qi rfl rfl rfl rfl ?_ ?_ <;> (intro hb; (try intro _ hK); have hc := hb; try simp only [go_sem] at hc; simp only [go_sem, *])) | refine Qh rfl ?_ | refine Qd rfl (by kernel_rfl) ?_ | (refine Qc rfl rfl ?_ ?_ <;> (intro hb; have hc := hb; try simp only [go_sem] at hc)) | refine q8 rfl ?_ | (with_reducible (show (∀ _ : AV, _ → _) ∧ _); refine And.intro ?_ ?_; (focus (intro y hy; first | (obtain ⟨z, _, rfl⟩ := List.mem_map.1 (hy); simp [go_sem]; done) | (obtain ⟨z, _, rfl⟩ := List.mem_map.1 (List.mem_of_mem_take hy); simp [go_sem]; done) | (obtain ⟨z, _, rfl⟩ := List.mem_map.1 (List.mem_of_mem_drop hy); simp [go_sem]; done) | (obtain ⟨z, _, rfl⟩ := List.mem_map.1 (List.mem_of_mem_drop (List.mem_of_mem_take hy)); simp [go_sem]; done)))) | (refine Qb ?_ ?_; focus kernel_rfl) | ((with_reducible apply And.intro); focus omega) | (refine q7 hK ?_; clear hK; simp only [go_sem, *]) | simp only [q6, z8, go_sem, *])
    all_goals first | contradiction | omega | skip
    exact n0 (i' := i + 1) [some 0, some 3] [] (S ++ [x.getD y default]) (by exact hP2)
   ·have hie : i = x.length := by omega
    have hii : ¬ (i : Int) < (xs.length : Int) := by omega
    have hii2 : ¬ (i : Int) < (x.length : Int) := by omega
    have hSl : S.length = x.length := by
     unfold zOM at hP
     rw [hP, hie, List.take_of_length_le (by rw [zMI]; omega), zMI]
    have hvS : ∀ s, s ∈ S → ValidN s := by
     unfold zOM at hP
     intro s hs
     rw [hP] at hs
     exact zMJ vx s (List.mem_of_mem_take hs)
    have htS : List.take x.length (List.map sV S) = List.map sV S := List.take_of_length_le (by simp; omega)
    clear hP hxlt hxat
    repeat' (first | ((with_reducible refine zMV [0, 1, 1, 1, 1, 1, 1, 1] ?_)) | (refine Qr rfl ?_; try intro _ hK; try simp only [go_sem, *]) | (refine Qi rfl rfl rfl rfl ?_ ?_ <;> (intro hb; (try intro _ hK); have hc := hb; try simp only [go_sem] at hc; simp only [go_sem, *])) | refine Qh rfl ?_ | refine Qd rfl (by kernel_rfl) ?_ | (refine Qc rfl rfl ?_ ?_ <;> (intro hb; have hc := hb; try simp only [go_sem] at hc)) | refine q8 rfl ?_ | (refine Qb ?_ ?_; focus kernel_rfl) | ((with_reducible apply And.intro); focus omega) | (refine q7 hK ?_; clear hK; simp only [go_sem, *]) | simp only [q6, z8, go_sem, *])
    all_goals first | contradiction | omega | skip
    refine ⟨?_⟩
    refine R8 (N := 211) (env := [(13, y8 S), (9, .ptr 0 0), (10, y8 x), (0, y8 l), (1, sV a), (2, sV b)]) (As := [u6 d1]) [some 0] [1] (by (simp only [Weak, go_sem, List.map_append, List.map_set, *] <;> (try simp (disch := omega) only [r7]) <;> (try simp) <;> (try omega))) ?_
    clear htS hii hii2
    repeat' (first | (refine Qr rfl ?_; try intro _ hK; try simp only [go_sem, *]) | (refine Qi rfl rfl rfl rfl ?_ ?_ <;> (intro hb; (try intro _ hK); have hc := hb; try simp only [go_sem] at hc; simp only [go_sem, *])) | refine Qh rfl ?_ | refine Qd rfl (by kernel_rfl) ?_ | (refine Qc rfl rfl ?_ ?_ <;> (intro hb; have hc := hb; try simp only [go_sem] at hc)) | refine q8 rfl ?_ | (refine Qb ?_ ?_; focus kernel_rfl) | ((with_reducible apply And.intro); focus omega) | (refine q7 hK ?_; clear hK; simp only [go_sem, *]) | simp only [q6, z8, go_sem, *])
    refine t8 [0] s2 ?_
    simp only [go_sem, *]
    repeat' (first | (refine Qr rfl ?_; try intro _ hK; try simp only [go_sem, *]) | (refine Qi rfl rfl rfl rfl ?_ ?_ <;> (intro hb; (try intro _ hK); have hc := hb; try simp only [go_sem] at hc; simp only [go_sem, *])) | refine Qh rfl ?_ | refine Qd rfl (by kernel_rfl) ?_ | (refine Qc rfl rfl ?_ ?_ <;> (intro hb; have hc := hb; try simp only [go_sem] at hc)) | refine q8 rfl ?_ | (refine Qb ?_ ?_; focus kernel_rfl) | ((with_reducible apply And.intro); focus omega) | (refine q7 hK ?_; clear hK; simp only [go_sem, *]) | simp only [q6, z8, go_sem, *])
    refine t8 [0] s3 ?_
    simp only [go_sem, *]
    repeat' (first | (refine Qr rfl ?_; try intro _ hK; try simp only [go_sem, *]) | (refine Qi rfl rfl rfl rfl ?_ ?_ <;> (intro hb; (try intro _ hK); have hc := hb; try simp only [go_sem] at hc; simp only [go_sem, *])) | refine Qh rfl ?_ | refine Qd rfl (by kernel_rfl) ?_ | (refine Qc rfl rfl ?_ ?_ <;> (intro hb; have hc := hb; try simp only [go_sem] at hc)) | refine q8 rfl ?_ | (refine Qb ?_ ?_; focus kernel_rfl) | ((with_reducible apply And.intro); focus omega) | (refine q7 hK ?_; clear hK; simp only [go_sem, *]) | simp only [q6, z8, go_sem, *])
    refine t8 [0] s4 ?_
    simp only [go_sem, *]
    repeat' (first | (refine Qr rfl ?_; try intro _ hK; try simp only [go_sem, *]) | (refine Qi rfl rfl rfl rfl ?_ ?_ <;> (intro hb; (try intro _ hK); have hc := hb; try simp only [go_sem] at hc; simp only [go_sem, *])) | refine Qh rfl ?_ | refine Qd rfl (by kernel_rfl) ?_ | (refine Qc rfl rfl ?_ ?_ <;> (intro hb; have hc := hb; try simp only [go_sem] at hc)) | refine q8 rfl ?_ | (refine Qb ?_ ?_; focus kernel_rfl) | ((with_reducible apply And.intro); focus omega) | (refine q7 hK ?_; clear hK; simp only [go_sem, *]) | simp only [q6, z8, go_sem, *])
    refine t8 [0] s5 ?_
    simp only [go_sem, *]
    repeat' (first | ((with_reducible refine zMV [0, 1, 1, 1, 1, 1, 1, 1, 1] ?_)) | (refine Qr rfl ?_; try intro _ hK; try simp only [go_sem, *]) | (refine Qi rfl rfl rfl rfl ?_ ?_ <;> (intro hb; (try intro _ hK); have hc := hb; try simp only [go_sem] at hc; simp only [go_sem, *])) | refine Qh rfl ?_ | refine Qd rfl (by kernel_rfl) ?_ | (refine Qc rfl rfl ?_ ?_ <;> (intro hb; have hc := hb; try simp only [go_sem] at hc)) | refine q8 rfl ?_ | (refine Qb ?_ ?_; focus kernel_rfl) | ((with_reducible apply And.intro); focus omega) | (refine q7 hK ?_; clear hK; simp only [go_sem, *]) | simp only [q6, z8, go_sem, *])
    refine ⟨?_⟩
    refine R8 (N := 211) (env := [(15, .list ([l, x, S, S].map y8)), (16, y8 [a, w1, w2, a]), (17, y8 [b, w3, b, w4])]) (As := []) [] [1, 2, 3] (by (simp only [Weak, go_sem, List.map_append, List.map_set, *] <;> (try simp (disch := omega) only [r7]) <;> (try simp) <;> (try omega))) ?_
    have hLs : [l, x, S, S].length = 4 := rfl
    have hLb : ∀ y, y ∈ [l, x, S, S] → y.length ≤ 4294967296 ∧ ∀ s, s ∈ y → s.length ≤ 4294967296 := by
     have vS := hvS
     intro y hy
     simp only [List.mem_cons, List.not_mem_nil, or_false] at hy
     rcases hy with rfl | rfl | rfl | rfl
     ·exact ⟨by omega, fun s hs => by have := hl.2 s hs; omega⟩
     ·exact ⟨by omega, fun s hs => by have := (vx s hs).len; omega⟩
     ·exact ⟨by omega, fun s hs => by have := (vS s hs).len; omega⟩
     ·exact ⟨by omega, fun s hs => by have := (vS s hs).len; omega⟩
    have hAb : ∀ s, s ∈ [a, w1, w2, a] → s.length ≤ 4294967296 := by
     have g1 := v1.len
     have g2 := v2.len
     intro s hs
     simp only [List.mem_cons, List.not_mem_nil, or_false] at hs
     rcases hs with rfl | rfl | rfl | rfl <;> omega
    have hBb : ∀ s, s ∈ [b, w3, b, w4] → s.length ≤ 4294967296 := by
     have g1 := v3.len
     have g2 := v4.len
     intro s hs
     simp only [List.mem_cons, List.not_mem_nil, or_false] at hs
     rcases hs with rfl | rfl | rfl | rfl <;> omega
    generalize hLe : [l, x, S, S] = Ls at *
    generalize hAe : [a, w1, w2, a] = As at *
    generalize hBe : [b, w3, b, w4] = Bs at *
    have hAl : As.length = 4 := by rw [← hAe]; rfl
    have hBl : Bs.length = 4 := by rw [← hBe]; rfl
    repeat' (first | (refine Qr rfl ?_; try intro _ hK; try simp only [go_sem, *]) | (refine Qi rfl rfl rfl rfl ?_ ?_ <;> (intro hb; (try intro _ hK); have hc := hb; try simp only [go_sem] at hc; simp only [go_sem, *])) | refine Qh rfl ?_ | refine Qd rfl (by kernel_rfl) ?_ | (refine Qc rfl rfl ?_ ?_ <;> (intro hb; have hc := hb; try simp only [go_sem] at hc)) | refine q8 rfl ?_ | (refine Qb ?_ ?_; focus kernel_rfl) | ((with_reducible apply And.intro); focus omega) | (refine q7 hK ?_; clear hK; simp only [go_sem, *]) | simp only [q6, z8, go_sem, *])
    all_goals try contradiction
    refine o9 rfl (Ls.length) (fun i => NoQ i) 211 (fun i => [(18, iV i), (15, .list (Ls.map y8)), (16, y8 As), (17, y8 Bs)]) (fun i => []) [] [] (by trivial) ?_; intro i hi hP
    by_cases hi3 : i < 4
    ·have hii3 : (i : Int) < 4 := by omega
     have hia : i < Ls.length := by omega
     obtain ⟨hy, hys⟩ := hLb _ (j9 hia)
     have hA := hAb _ (j9 (i := i) (l := As) (by omega))
     have hB := hBb _ (j9 (i := i) (l := Bs) (by omega))
     generalize hye : Ls.getD i default = y at *
     generalize hue : As.getD i default = u at *
     generalize hve : Bs.getD i default = v at *
     have sd := zMK y (by omega)
     have t1 := zML u v
     have t2 := zMS u v hA hB
     repeat' (first | ((with_reducible refine zMV [0, 1, 0, 0, 1, 0, 0, 1, 0, 1, 1, 1, 1, 1, 1, 1, 1] ?_)) | (refine Qr rfl ?_; try intro _ hK; try simp only [go_sem, *]) | (refine Qi rfl rfl rfl rfl ?_ ?_ <;> (intro hb; (try intro _ hK); have hc := hb; try simp only [go_sem] at hc; simp only [go_sem, *])) | refine Qh rfl ?_ | refine Qd rfl (by kernel_rfl) ?_ | (refine Qc rfl rfl ?_ ?_ <;> (intro hb; have hc := hb; try simp only [go_sem] at hc)) | refine q8 rfl ?_ | (refine Qb ?_ ?_; focus kernel_rfl) | (refine j8 (sd) ?_; simp only [go_sem, *]) | ((with_reducible apply And.intro); focus omega) | (refine q7 hK ?_; clear hK; simp only [go_sem, *]) | simp only [q6, z8, go_sem, *])
     refine ⟨?_⟩
     refine R8 (N := 211) (env := [(19, y8 y), (18, iV i), (15, .list (Ls.map y8)), (16, y8 As), (17, y8 Bs)]) (As := []) [] [0] (by (simp only [Weak, go_sem, List.map_append, List.map_set, *] <;> (try simp (disch := omega) only [r7]) <;> (try simp) <;> (try omega))) ?_
     clear sd
     have t3 := zMO y u (by omega)
     have t4 := zPz y u (by omega) hys hA
     have hn1 : ∀ z : Int, (z != z) = false := fun z => by simp
     have b1 := hn1 (if X9 u v = 0 then x9 u v else 0)
     have b2 := hn1 (X9 u v)
     have b3 := hn1 (W6 y u)
     have b4 := hn1 (X3 y u)
     have b5 := hn1 (v8 y)
     clear hn1
     generalize (if X9 u v = 0 then x9 u v else 0) = c1 at *
     generalize X9 u v = c2 at *
     generalize W6 y u = c3 at *
     generalize X3 y u = c4 at *
     have sE := zHq y y (by omega)
     rw [decide_eq_true (p := y = y) rfl] at sE
     by_cases q : v8 y = 0
     ·have so := zH3 y q
      have sr := zO5 y q
      have hxl : (r6 y).length = y.length := C8 y
      have hto : List.take y.length (List.map nV (r6 y)) = List.map nV (r6 y) := List.take_of_length_le (by simp [C8])
      have r1 := zPt y q
      have r2 := zP6 y q
      generalize r6 y = xs at *
      have hwl : (B5 y).length ≤ 4294967296 := by
       have := (zI3 y).1.1
       have h3 := zOh y.length (B5 y) 0 this.1 (fun z hz => ⟨Nat.zero_le _, this.2 z hz⟩)
       omega
      generalize B5 y = ws at *
      repeat' (first | ((with_reducible refine zMV [0, 1, 1, 1, 1, 0, 0, 1, 0, 0, 1, 0, 1, 1, 1, 1, 1, 1, 1, 1] ?_)) | (refine Qr rfl ?_; try intro _ hK; try simp only [go_sem, *]) | (refine Qi rfl rfl rfl rfl ?_ ?_ <;> (intro hb; (try intro _ hK); have hc := hb; try simp only [go_sem] at hc; simp only [go_sem, *])) | refine Qh rfl ?_ | refine Qd rfl (by kernel_rfl) ?_ | (refine Qc rfl rfl ?_ ?_ <;> (intro hb; have hc := hb; try simp only [go_sem] at hc)) | refine q8 rfl ?_ | (refine Qb ?_ ?_; focus kernel_rfl) | (refine p9 (t1) ?_ ?_; (focus (simp only [go_sem, *]; done)); simp only [go_sem, *]) | (refine p9 (t2) ?_ ?_; (focus (simp only [go_sem, *]; done)); simp only [go_sem, *]) | (refine j8 (so) ?_; simp only [go_sem, *]) | ((with_reducible apply And.intro); focus omega) | (refine q7 hK ?_; clear hK; simp only [go_sem, *]) | simp only [q6, z8, go_sem, *])
      refine ⟨?_⟩
      refine R8 (N := 211) (env := [(24, zN7 xs), (25, iV 0), (20, iV c1), (21, iV c2), (22, iV c1), (23, iV c2), (19, y8 y), (18, iV i), (15, .list (Ls.map y8)), (16, y8 As), (17, y8 Bs)]) (As := []) [] [0] (by (simp only [Weak, go_sem, List.map_append, List.map_set, *] <;> (try simp (disch := omega) only [r7]) <;> (try simp) <;> (try omega))) ?_
      repeat' (first | ((with_reducible refine zMV [0, 1, 1, 1, 1, 1, 0, 0, 1, 0, 0, 1, 0, 1, 1, 1, 1, 1, 1, 1, 1] ?_)) | (refine Qr rfl ?_; try intro _ hK; try simp only [go_sem, *]) | (refine Qi rfl rfl rfl rfl ?_ ?_ <;> (intro hb; (try intro _ hK); have hc := hb; try simp only [go_sem] at hc; simp only [go_sem, *])) | refine Qh rfl ?_ | refine Qd rfl (by kernel_rfl) ?_ | (refine Qc rfl rfl ?_ ?_ <;> (intro hb; have hc := hb; try simp only [go_sem] at hc)) | refine q8 rfl ?_ | (refine Qb ?_ ?_; focus kernel_rfl) | (refine j8 (sr) ?_; simp only [go_sem, *]) | ((with_reducible apply And.intro); focus omega) | (refine q7 hK ?_; clear hK; simp only [go_sem, *]) | simp only [q6, z8, go_sem, *])
      refine ⟨?_⟩
      refine R8 (N := 211) (env := [(26, zN7 xs), (27, iV 0), (24, zN7 xs), (25, iV 0), (20, iV c1), (21, iV c2), (22, iV c1), (23, iV c2), (19, y8 y), (18, iV i), (15, .list (Ls.map y8)), (16, y8 As), (17, y8 Bs)]) (As := []) [] [0] (by (simp only [Weak, go_sem, List.map_append, List.map_set, *] <;> (try simp (disch := omega) only [r7]) <;> (try simp) <;> (try omega))) ?_
      have eN : ∀ k : List Nat, R5 (zOA k) = zN7 k := fun k => by simp [zOA, List.map_map]
      have e1 := zHp (zOA xs) (zOA xs) (by simp [zOA, hxl]; omega)
      have e2 := zHp (zOA ws) (zOA ws) (by simpa [zOA] using hwl)
      rw [decide_eq_true (p := zOA xs = zOA xs) rfl, eN] at e1
      rw [decide_eq_true (p := zOA ws = zOA ws) rfl, eN] at e2
      clear so sr t1 t2 eN hto
      repeat' (first | (refine Qr rfl ?_; try intro _ hK; try simp only [go_sem, *]) | (refine Qi rfl rfl rfl rfl ?_ ?_ <;> (intro hb; (try intro _ hK); have hc := hb; try simp only [go_sem] at hc; simp only [go_sem, *])) | refine Qh rfl ?_ | refine Qd rfl (by kernel_rfl) ?_ | (refine Qc rfl rfl ?_ ?_ <;> (intro hb; have hc := hb; try simp only [go_sem] at hc)) | refine q8 rfl ?_ | (refine Qb ?_ ?_; focus kernel_rfl) | ((first | refine y5 (e1) ?_ | refine y5 (e2) ?_ | refine y5 (sE) ?_); simp only [go_sem, *]) | (refine p9 (t3) ?_ ?_; (focus (simp only [go_sem, *]; done)); simp only [go_sem, *]) | (refine p9 (t4) ?_ ?_; (focus (simp only [go_sem, *]; done)); simp only [go_sem, *]) | (refine p9 (r1) ?_ ?_; (focus (simp only [go_sem, *]; done)); simp only [go_sem, *]) | (refine p9 (r2) ?_ ?_; (focus (simp only [go_sem, *]; done)); simp only [go_sem, *]) | ((with_reducible apply And.intro); focus omega) | (refine q7 hK ?_; clear hK; simp only [go_sem, *]) | simp only [q6, z8, go_sem, *])
      all_goals first | contradiction | omega | skip
      exact f8 (i' := i + 1) [] [] (by trivial)
     ·have so := zMP y (by omega) q
      have sr := zP1 y (by omega) hys q
      have r1 := zPs y (by omega) q
      have r2 := zP5 y (by omega) hys q
      have e1 := zPn
      generalize v8 y = e at *
      repeat' (first | (refine Qr rfl ?_; try intro _ hK; try simp only [go_sem, *]) | (refine Qi rfl rfl rfl rfl ?_ ?_ <;> (intro hb; (try intro _ hK); have hc := hb; try simp only [go_sem] at hc; simp only [go_sem, *])) | refine Qh rfl ?_ | refine Qd rfl (by kernel_rfl) ?_ | (refine Qc rfl rfl ?_ ?_ <;> (intro hb; have hc := hb; try simp only [go_sem] at hc)) | refine q8 rfl ?_ | (refine Qb ?_ ?_; focus kernel_rfl) | ((first | refine y5 (e1) ?_ | refine y5 (sE) ?_); simp only [go_sem, *]) | (refine p9 (t1) ?_ ?_; (focus (simp only [go_sem, *]; done)); simp only [go_sem, *]) | (refine p9 (t2) ?_ ?_; (focus (simp only [go_sem, *]; done)); simp only [go_sem, *]) | (refine p9 (so) ?_ ?_; (focus (simp only [go_sem, *]; done)); simp only [go_sem, *]) | (refine p9 (sr) ?_ ?_; (focus (simp only [go_sem, *]; done)); simp only [go_sem, *]) | (refine p9 (t3) ?_ ?_; (focus (simp only [go_sem, *]; done)); simp only [go_sem, *]) | (refine p9 (t4) ?_ ?_; (focus (simp only [go_sem, *]; done)); simp only [go_sem, *]) | (refine p9 (r1) ?_ ?_; (focus (simp only [go_sem, *]; done)); simp only [go_sem, *]) | (refine p9 (r2) ?_ ?_; (focus (simp only [go_sem, *]; done)); simp only [go_sem, *]) | ((with_reducible apply And.intro); focus omega) | (refine q7 hK ?_; clear hK; simp only [go_sem, *]) | simp only [q6, z8, go_sem, *])
      all_goals first | contradiction | omega | skip
      exact f8 (i' := i + 1) [] [] (by trivial)
    ·have hii3 : ¬ (i : Int) < 4 := by omega
     repeat' (first | (refine Qr rfl ?_; try intro _ hK; try simp only [go_sem, *]) | (refine Qi rfl rfl rfl rfl ?_ ?_ <;> (intro hb; (try intro _ hK); have hc := hb; try simp only [go_sem] at hc; simp only [go_sem, *])) | refine Qh rfl ?_ | refine Qd rfl (by kernel_rfl) ?_ | (refine Qc rfl rfl ?_ ?_ <;> (intro hb; have hc := hb; try simp only [go_sem] at hc)) | refine q8 rfl ?_ | (refine Qb ?_ ?_; focus kernel_rfl) | (refine j8 (sS) ?_; simp only [go_sem, *]) | ((with_reducible apply And.intro); focus omega) | (refine q7 hK ?_; clear hK; simp only [go_sem, *]) | simp only [q6, z8, go_sem, *])
     all_goals first | contradiction | omega | skip
     (refine ⟨[_], [], [], ⟨rfl, trivial⟩, ?_⟩; simp only [go_sem, *])
end Go.Abs

