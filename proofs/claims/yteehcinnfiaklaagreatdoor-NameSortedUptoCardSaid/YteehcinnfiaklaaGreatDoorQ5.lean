/-
  WHAT THE PROOF STANDS ON, PART 5: contracts of the program's functions and the logic that they are proved in. No condition.
-/
import Derived.Test.YteehcinnfiaklaaGreatDoorQ4
set_option maxRecDepth 100000
set_option maxHeartbeats 4000000
set_option linter.unusedVariables false
set_option linter.unusedSimpArgs false
set_option linter.unusedSectionVars false
namespace Go.Abs
open Go Go.Proofs Tryz
attribute [local irreducible] q9 Hold y8
@[go_sem, simp] theorem zOj {α : Type} (H : Nat → AObj) (m : List (Option Nat)) (ex : List Nat) (f : α → List AV) (l : List α) (x y : AV) : XpL H m ex (List.map (fun t => AV.list (f t)) l ++ [x]) (List.map (fun t => AV.list (f t)) l ++ [y]) ↔ XpF H m ex x y := by
 rw [zDu _ (fun z hz => by
  obtain ⟨t, _, rfl⟩ := List.mem_map.1 hz
  simp only [XpF])]
@[go_sem, simp] theorem zPC {α : Type} (H : Nat → AObj) (m : List (Option Nat)) (ex : List Nat) (f : α → List AV) (l : List α) : XpL H m ex (List.map (fun t => AV.list (f t)) l) (List.map (fun t => AV.list (f t)) l) ↔ True := ⟨fun _ => trivial, fun _ => zDv (fun x => by simp only [XpF]) _⟩
def zN7 (n : Nat) : Nat → Nat → List (List Int)
 | 0, _ => [[]]
 | _ + 1, 0 => []
 | m + 1, r + 1 => (zN7 n m r).map (fun l => (((n - (r + 1) : Nat) : Int)) :: l) ++ zN7 n (m + 1) r
@[go_sem, simp] theorem zPB (H : Nat → AObj) (m : List (Option Nat)) (ex : List Nat) (l : List (List Int)) (x y : AV) : XpL H m ex (List.map R0 l ++ [x]) (List.map R0 l ++ [y]) ↔ XpF H m ex x y := zOj H m ex (fun t => t.map iV) l x y
end Go.Abs

namespace Go.Abs
open Go Go.Proofs Tryz
attribute [local irreducible] q9 Hold y8
def wTo (l : List Str) (c : List Int) (i : Nat) : List Str := ((List.range i).filter fun (j : Nat) => !(c.any (· == (j : Int)))).map fun j => l.getD j default
def WOK (l : List Str) (c : List Int) (i : Nat) (acc : List Str) : Prop := acc = wTo l c i
def zOH (c : List Int) (i : Nat) (k : Nat) (b : Bool) : Prop := b = (c.take k).any (· == (i : Int))
theorem zOe {a b : Str} (va : ValidN a) (vb : ValidN b) : zMf prog 48 [sV a, sV b] [] (.tup [iV (x6 a b), iV 0]) [] := by
 have e : O4 a b = 0 := by unfold O4; rw [zAf, if_pos va.check, vb.check]
 have s := zMP a b
 rw [e, if_pos rfl] at s
 exact s
def zPK (q : List Str) (t : Nat) : Prop := ∀ j, j < t → ¬ x6 (q.getD (j + 1) []) (q.getD j []) < 0
end Go.Abs

namespace Go.Abs
open Go
def zN6 (l : List Str) : List Str := (P3 l).map fun i => l.getD i default
theorem zOE (l : List Str) : (zN6 l).length = l.length := by unfold zN6; rw [List.length_map, zHS]
theorem zOT {l : List Str} {j : Nat} (h : j < l.length) : (zN6 l).getD j default = l.getD ((P3 l).getD j default) default := by
 have h2 : j < (P3 l).length := by rw [zHS]; exact h
 simp [zN6, List.getD, h2]
theorem zOv {l : List Str} {j : Nat} (h : j < l.length) : (P3 l).getD j default < l.length := by
 have h2 : j < (P3 l).length := by rw [zHS]; exact h
 have hm : (P3 l).getD j default ∈ P3 l := by simp [List.getD, h2]
 exact List.mem_range.1 ((zHT (l := l)).mem_iff.1 hm)
theorem zOw {l : List Str} {j k : Nat} (hj : j < l.length) (hk : k < j) : (P3 l).getD k default ≠ (P3 l).getD j default := by
 have hn : (P3 l).Nodup := (zHT (l := l)).nodup_iff.2 List.nodup_range
 have h2 : j < (P3 l).length := by rw [zHS]; exact hj
 have h3 : k < (P3 l).length := by omega
 have e1 : (P3 l).getD k default = (P3 l)[k] := by simp [List.getD, h3]
 have e2 : (P3 l).getD j default = (P3 l)[j] := by simp [List.getD, h2]
 rw [e1, e2]
 intro e
 have := (List.getElem_inj hn).1 e
 omega
theorem zOU {l : List Str} (hv : ∀ s, s ∈ l → ValidN s) : ∀ s, s ∈ zN6 l → ValidN s := fun s hs => by
 obtain ⟨i, hi, rfl⟩ := List.mem_map.1 hs
 have := List.mem_range.1 ((zHT (l := l)).mem_iff.1 hi)
 refine hv _ ?_
 simp [List.getD, this]
theorem zOL {l : List Str} {j k : Nat} (hk : k < l.length) (hj : j < k) : x6 ((zN6 l).getD j default) ((zN6 l).getD k default) < 0 ∨ (x6 ((zN6 l).getD j default) ((zN6 l).getD k default) = 0 ∧ (P3 l).getD j default < (P3 l).getD k default) := by
 have h2 : k < (P3 l).length := by rw [zHS]; exact hk
 have h3 : j < (P3 l).length := by omega
 have hp := List.pairwise_iff_getElem.1 (zMN (l := l)) j k h3 h2 hj
 rw [zOT (by omega), zOT hk]
 have e1 : (P3 l).getD j default = (P3 l)[j] := by simp [List.getD, h3]
 have e2 : (P3 l).getD k default = (P3 l)[k] := by simp [List.getD, h2]
 rw [e1, e2]
 have hd : ∀ i, l.getD i default = l.getD i [] := fun _ => rfl
 unfold Prec cfI at hp
 rw [hd, hd]
 rcases hp with hp | ⟨hp, hlt⟩
 ·exact .inl hp
 ·rw [F4] at hp
  by_cases h0 : x6 (l.getD (P3 l)[j] []) (l.getD (P3 l)[k] []) = 0
  ·exact .inr ⟨h0, hlt⟩
  ·left; omega
theorem zOc (l : List Str) : l3 (zN6 l) = true := orderedB_iff.2 (fun j _ h => by
 rw [zOE] at h
 have := zOL (l := l) h (Nat.lt_succ_self j)
 have hd : ∀ i, (zN6 l).getD i default = (zN6 l).getD i [] := fun _ => rfl
 rw [hd, hd] at this
 rw [F4]
 omega)
theorem zOx {l : List Str} (hv : ∀ s, s ∈ l → ValidN s) {i f : Nat} (hi : i < l.length) (hf : f ≤ i) (h1 : ∀ j, f ≤ j → j ≤ i → (zN6 l).getD j default = (zN6 l).getD i default)
  (h2 : 0 < f → (zN6 l).getD (f - 1) default ≠ (zN6 l).getD i default) : (zN6 l).countP (fun x => decide (x6 x ((zN6 l).getD i default) < 0)) = f := by
 have hlen := zOE l
 have val : ∀ j, j < l.length → ValidN ((zN6 l).getD j default) := fun j hj => zOU hv _ (by
  have : j < (zN6 l).length := by omega
  simp [List.getD, this])
 have lo : ∀ j, j < f → x6 ((zN6 l).getD j default) ((zN6 l).getD i default) < 0 := by
  intro j hj
  have hl : x6 ((zN6 l).getD (f - 1) default) ((zN6 l).getD i default) < 0 := by
   have hne := h2 (by omega)
   rcases zOL (l := l) (j := f - 1) hi (by omega) with h | ⟨h, _⟩
   ·exact h
   ·exact absurd ((zJ2 (val _ (by omega)) (val _ hi)).1 h) hne
  by_cases e : j = f - 1
  ·rw [e]; exact hl
  ·rcases zOL (l := l) (j := j) (k := f - 1) (by omega) (by omega) with h | ⟨h, _⟩
   ·exact zJ4 h hl
   ·have := (zJ2 (val _ (by omega)) (val _ (by omega))).1 h
    rw [this]; exact hl
 have hi2 : ∀ j, f ≤ j → j < l.length → ¬ x6 ((zN6 l).getD j default) ((zN6 l).getD i default) < 0 := by
  intro j hj hjl
  by_cases e : j ≤ i
  ·rw [h1 j hj e, zJ3]; omega
  ·rw [F4]
   rcases zOL (l := l) (j := i) (k := j) hjl (by omega) with h | ⟨h, _⟩ <;> omega
 have hs : zN6 l = (zN6 l).take f ++ (zN6 l).drop f := (List.take_append_drop _ _).symm
 generalize hT : (zN6 l).getD i default = t at *
 generalize zN6 l = S at *
 rw [hs, List.countP_append]
 have c1 : (S.take f).countP (fun x => decide (x6 x t < 0)) = f := by
  have hle : (S.take f).length = f := by simp; omega
  have : (S.take f).countP (fun x => decide (x6 x t < 0)) = (S.take f).length := by
   rw [List.countP_eq_length]
   intro x hx
   obtain ⟨j, hj, rfl⟩ := List.getElem_of_mem hx
   have hj2 : j < f := by omega
   have := lo j hj2
   rw [List.getElem_take, decide_eq_true_eq]
   have e : S.getD j default = S[j]'(by omega) := by simp [List.getD, show j < S.length by omega]
   rw [← e]; exact this
  rw [this, hle]
 have c2 : (S.drop f).countP (fun x => decide (x6 x t < 0)) = 0 := by
  rw [List.countP_eq_zero]
  intro x hx
  obtain ⟨j, hj, rfl⟩ := List.getElem_of_mem hx
  have hjl : f + j < S.length := by simp at hj; omega
  have := hi2 (f + j) (by omega) (by omega)
  rw [List.getElem_drop, decide_eq_true_eq]
  have e : S.getD (f + j) default = S[f + j] := by simp [List.getD, hjl]
  rw [← e]; exact this
 omega
theorem zOz (l : List Str) : Q2 (zN6 l) = [] := by
 have hl := zDk (zN6 l)
 have hw : P5 (zN6 l) [] = zN6 l := by
  have e : (List.range (zN6 l).length).filter (fun i => !decide (i ∈ ([] : List Nat))) = List.range (zN6 l).length := List.filter_eq_self.2 (fun a _ => by simp)
  unfold P5
  rw [e]
  refine List.ext_getElem (by simp) (fun i h1 h2 => ?_)
  simp [List.getD, h2]
 have hr : S1 (zN6 l) [] := ⟨⟨List.Pairwise.nil, fun i hi => by cases hi⟩, by rw [hw]; exact zOc l⟩
 have := hl.2 [] hr
 cases hc : Q2 (zN6 l) with
 | nil => rfl
 | cons a r =>
  exfalso
  rw [hc] at this
  exact this (shorter_neg.2 (.inl (by simp)))
theorem zOy {l : List Str} (hv : ∀ s, s ∈ l → ValidN s) (h6 : l.length ≤ 6) {i f : Nat} (hi : i < l.length) (hf : f ≤ i) (h1 : ∀ j, f ≤ j → j ≤ i → (zN6 l).getD j default = (zN6 l).getD i default)
  (h2 : 0 < f → (zN6 l).getD (f - 1) default ≠ (zN6 l).getD i default) : Y5 (zN6 l) ((zN6 l).getD i default) = 0 ∧ W3 (zN6 l) ((zN6 l).getD i default) = f := by
 have hsv := zOU hv
 have hm : (zN6 l).getD i default ∈ zN6 l := by
  have : i < (zN6 l).length := by rw [zOE]; exact hi
  simp [List.getD, this]
 have hne : ∀ {m : List Str}, (∀ s, s ∈ m → ValidN s) → r4 m = 0 := by
  intro m
  induction m with
  | nil => intro _; rfl
  | cons x r ih => intro h; rw [r4, if_pos (checkN_zero.2 (h x (by simp))), ih (fun s hs => h s (by simp [hs]))]
 have hle : t8 (zN6 l) = 0 := by
  unfold t8
  rw [if_neg (by rw [zOE]; omega), hne hsv]
 have he : Y5 (zN6 l) ((zN6 l).getD i default) = 0 := by
  unfold Y5
  rw [if_pos hle, if_pos (checkN_zero.2 (hsv _ hm)), if_pos (zOc l)]
 refine ⟨he, ?_⟩
 unfold W3
 rw [if_pos he, zOx hv hi hf h1 h2]
end Go.Abs

namespace Go.Abs
open Go Go.Proofs Tryz
attribute [local irreducible] q9 Hold y8
def zOC (n : Int) : List Int → Nat → Int
 | [], _ => -1
 | x :: r, i => if x = n then i else zOC n r (i + 1)
theorem zOY (n : Int) : ∀ (l : List Int) (i : Nat), (zOC n l i ≥ 0) = (n ∈ l)
 | [], i => by simp [zOC]
 | x :: r, i => by
  rw [zOC]
  by_cases h : x = n
  ·rw [if_pos h]; simp [h]
  ·rw [if_neg h, zOY n r (i + 1)]; simp [Ne.symm h]
theorem zO0 (l : List Int) (n : Int) (h1 : l.length ≤ 4294967296) : zMf prog 66 [R0 l, iV n] [] (iV (zOC n l 0)) [] := by
 obtain ⟨R, hR⟩ : ∃ R, zOC n (l.drop 0) 0 = R := ⟨_, rfl⟩
 have hR1 : zOC n l 0 = R := hR
 rw [hR1]
 clear hR1
 refine q7 func66 rfl (fun E hE => ?_); simp only [go_sem, ntmps66]
 repeat' (first | (refine Qr rfl ?_; try intro _ hK; try simp only [go_sem, *]) | refine Qh rfl ?_ | (refine Qc rfl rfl ?_ ?_ <;> (intro hb; have hc := hb; try simp only [go_sem] at hc)) | refine q6 rfl ?_ | ((with_reducible apply And.intro); focus omega) | (refine z8 hK ?_; clear hK; simp only [go_sem, *]) | simp only [z7, z6, go_sem, *])
 all_goals try contradiction
 refine o6 rfl (l.length) (fun i => zOC n (l.drop i) i = R) 19 (fun i => [(5, iV i), (0, R0 l), (1, iV n)]) (fun i => []) [] [] (by exact hR) ?_; intro i hi hP
 clear hR
 by_cases hi : i < l.length
 ·have hi3 : (i : Int) < l.length := by omega
  rw [o3 hi, zOC] at hP
  generalize hz : l.getD i default = z at *
  by_cases hq : z = n
  ·rw [if_pos hq] at hP
   subst hP hq
   repeat' (first | (refine Qr rfl ?_; try intro _ hK; try simp only [go_sem, *]) | refine Qh rfl ?_ | (refine Qc rfl rfl ?_ ?_ <;> (intro hb; have hc := hb; try simp only [go_sem] at hc)) | refine q6 rfl ?_ | ((with_reducible apply And.intro); focus omega) | (refine z8 hK ?_; clear hK; simp only [go_sem, *]) | simp only [z7, z6, go_sem, *])
   all_goals try contradiction
   (refine ⟨[_], [], [], ⟨rfl, trivial⟩, ?_⟩; simp only [go_sem, *])
  ·rw [if_neg hq] at hP
   repeat' (first | (refine Qr rfl ?_; try intro _ hK; try simp only [go_sem, *]) | refine Qh rfl ?_ | (refine Qc rfl rfl ?_ ?_ <;> (intro hb; have hc := hb; try simp only [go_sem] at hc)) | refine q6 rfl ?_ | ((with_reducible apply And.intro); focus omega) | (refine z8 hK ?_; clear hK; simp only [go_sem, *]) | simp only [z7, z6, go_sem, *])
   all_goals try contradiction
   exact i4 (i' := i + 1) [] [] (by exact hP)
 ·have hi3 : ¬ (i : Int) < l.length := by omega
  rw [f5 (by omega), zOC] at hP
  subst hP
  have hw : IntKind.i64.wrap (-1) = (-1 : Int) := wrap_i64 (by omega) (by omega)
  repeat' (first | (refine Qr rfl ?_; try intro _ hK; try simp only [go_sem, *]) | refine Qh rfl ?_ | (refine Qc rfl rfl ?_ ?_ <;> (intro hb; have hc := hb; try simp only [go_sem] at hc)) | refine q6 rfl ?_ | ((with_reducible apply And.intro); focus omega) | (refine z8 hK ?_; clear hK; simp only [go_sem, *]) | simp only [z7, z6, go_sem, *])
  all_goals try contradiction
  (refine ⟨[_], [], [], ⟨rfl, trivial⟩, ?_⟩; simp only [go_sem, *])
theorem zOM (l : List Str) (s : Str) (p : Int) (hl : l.length ≤ 4294967296) (h1 : Y5 l s = 0) (h2 : W3 l s = p) : zMf prog 63 [y4 l, sV s] [] (.tup [iV p, iV 0]) [] := by
 have := zMR l s hl
 rw [h1, h2] at this
 exact this
def zOK (l : List Str) (i : Nat) (S : List Str) : Prop := S = (zN6 l).take i
def zOG (S : List Str) (i f : Nat) : Prop := ∀ j, f ≤ j → j ≤ i → S.getD j default = S.getD i default
theorem zPF (nums : List Int) (h : nums.length ≤ 4294967296) : zMf prog 15 [R0 nums] [] (bV true) [] := by
  obtain ⟨d0, s0, hd0⟩ := zJ5 nums h
  obtain ⟨l, d1, s1, hv, hl0, hd1⟩ := zK5 d0 6 3 hd0 (by omega) (by omega)
  have hl : l.length ≤ 6 := by omega
  have sS := zMV
  have sO := zHt l (zKw hv hl)
  have hxl : (P3 l).length = l.length := zHS l
  have hto : List.take l.length (List.map nV (P3 l)) = List.map nV (P3 l) := List.take_of_length_le (by simp [zHS])
  clear hd0 hd1 h
  refine q7 func15 rfl (fun E hE => ?_); simp only [go_sem, ntmps15]
  repeat' (first | (refine Qr rfl ?_; try intro _ hK; try simp only [go_sem, *]) | (refine Qi rfl rfl rfl rfl ?_ ?_ <;> (intro hb; (try intro _ hK); have hc := hb; try simp only [go_sem] at hc; simp only [go_sem, *])) | refine Qh rfl ?_ | refine Qd rfl (by kernel_rfl) ?_ | (refine Qc rfl rfl ?_ ?_ <;> (intro hb; have hc := hb; try simp only [go_sem] at hc)) | refine q6 rfl ?_ | (refine Qb ?_ ?_; focus kernel_rfl) | (refine j0 (s0) ?_; simp only [go_sem, *]) | ((with_reducible apply And.intro); focus omega) | (refine z8 hK ?_; clear hK; simp only [go_sem, *]) | simp only [z7, z6, go_sem, *])
  refine v6 [0] s1 ?_
  simp only [go_sem, *]
  repeat' (first | ((with_reducible refine zDU [0, 1, 1] ?_)) | (refine Qr rfl ?_; try intro _ hK; try simp only [go_sem, *]) | (refine Qi rfl rfl rfl rfl ?_ ?_ <;> (intro hb; (try intro _ hK); have hc := hb; try simp only [go_sem] at hc; simp only [go_sem, *])) | refine Qh rfl ?_ | refine Qd rfl (by kernel_rfl) ?_ | (refine Qc rfl rfl ?_ ?_ <;> (intro hb; have hc := hb; try simp only [go_sem] at hc)) | refine q6 rfl ?_ | (refine Qb ?_ ?_; focus kernel_rfl) | ((with_reducible apply And.intro); focus omega) | (refine z8 hK ?_; clear hK; simp only [go_sem, *]) | simp only [z7, z6, go_sem, *])
  refine ⟨?_⟩
  refine Q7 (N := 165) (env := [(3, y4 l)]) (As := []) [] [1] (by (simp only [Weak, go_sem, List.map_append, List.map_set, *] <;> (try simp (disch := omega) only [r9]) <;> (try simp) <;> (try omega))) ?_
  repeat' (first | ((with_reducible refine zDU [0, 1, 1, 1] ?_)) | (refine Qr rfl ?_; try intro _ hK; try simp only [go_sem, *]) | (refine Qi rfl rfl rfl rfl ?_ ?_ <;> (intro hb; (try intro _ hK); have hc := hb; try simp only [go_sem] at hc; simp only [go_sem, *])) | refine Qh rfl ?_ | refine Qd rfl (by kernel_rfl) ?_ | (refine Qc rfl rfl ?_ ?_ <;> (intro hb; have hc := hb; try simp only [go_sem] at hc)) | refine q6 rfl ?_ | (refine Qb ?_ ?_; focus kernel_rfl) | (refine j0 (sO) ?_; simp only [go_sem, *]) | ((with_reducible apply And.intro); focus omega) | (refine z8 hK ?_; clear hK; simp only [go_sem, *]) | simp only [z7, z6, go_sem, *])
  refine ⟨?_⟩
  refine Q7 (N := 165) (env := [(3, y4 l), (4, l5 (P3 l)), (5, iV 0)]) (As := []) [] [0] (by (simp only [Weak, go_sem, List.map_append, List.map_set, *] <;> (try simp (disch := omega) only [r9]) <;> (try simp) <;> (try omega))) ?_
  clear sO s0 s1
  have hxlt : ∀ i, i < l.length → (P3 l).getD i default < l.length := fun i h => zOv h
  have hxnew : ∀ i k, i < l.length → k < i → (P3 l).getD k default ≠ (P3 l).getD i default := fun i k h1 h2 => zOw h1 h2
  have hxat : ∀ i, i < l.length → (zN6 l).getD i default = l.getD ((P3 l).getD i default) default := fun i h => zOT h
  have hxtwo : ∀ j k, k < l.length → j < k → x6 ((zN6 l).getD j default) ((zN6 l).getD k default) < 0 ∨ (x6 ((zN6 l).getD j default) ((zN6 l).getD k default) = 0 ∧ (P3 l).getD j default < (P3 l).getD k default) := fun j k h1 h2 => zOL h1 h2
  generalize P3 l = xs at *
  have hb0 : ((l.length : Int) != (l.length : Int)) = false := by simp
  clear hto
  repeat' (first | (refine Qr rfl ?_; try intro _ hK; try simp only [go_sem, *]) | (refine Qi rfl rfl rfl rfl ?_ ?_ <;> (intro hb; (try intro _ hK); have hc := hb; try simp only [go_sem] at hc; simp only [go_sem, *])) | refine Qh rfl ?_ | refine Qd rfl (by kernel_rfl) ?_ | (refine Qc rfl rfl ?_ ?_ <;> (intro hb; have hc := hb; try simp only [go_sem] at hc)) | refine q6 rfl ?_ | (refine Qb ?_ ?_; focus kernel_rfl) | ((with_reducible apply And.intro); focus omega) | (refine z8 hK ?_; clear hK; simp only [go_sem, *]) | simp only [z7, z6, go_sem, *])
  all_goals try contradiction
  refine a7 rfl (l.length) (fun i (S : List Str) => zOK l i S) 165 (fun i S => [(7, iV i), (6, .own 0 1 0 i), (4, l5 xs), (3, y4 l)]) (fun i S => [.row 1 (S.map sV)]) [none] [] ([]) (by exact rfl) ?_; intro i S hi hP
  by_cases hi2 : i < l.length
  · have hix : i < xs.length := by omega
    have hii : (i : Int) < (l.length : Int) := by omega
    have hwi : IntKind.i64.wrap ((i : Int) + 1) = ((i + 1 : Nat) : Int) := r9 (by omega)
    have hx1 := hxlt i hi2
    have hat := hxat i hi2
    have hSl : S.length = i := by unfold zOK at hP; rw [hP]; simp [zOE]; omega
    have hP2 : zOK l (i + 1) (S ++ [(zN6 l).getD i default]) := by
      unfold zOK at hP ⊢
      rw [hP, zA2 (by rw [zOE]; exact hi2)]
    rw [hat] at hP2
    have hnin : ((xs.getD i default : Nat) : Int) ∉ (xs.take i).map (fun (k : Nat) => (k : Int)) := fun hm => by
      obtain ⟨y, hy, e⟩ := List.mem_map.1 hm
      obtain ⟨k, hk, rfl⟩ := List.getElem_of_mem hy
      have hk2 : k < i := by simp at hk; omega
      have := hxnew i k hi2 hk2
      apply this
      have e3 : (xs.take i)[k] = xs.getD k default := by simp [List.getD, show k < xs.length by omega]
      rw [e3] at e
      omega
    have sI := zO0 ((xs.take i).map (fun (k : Nat) => (k : Int))) (xs.getD i default : Nat) (by simp; omega)
    have hr := zOY ((xs.getD i default : Nat) : Int) ((xs.take i).map (fun (k : Nat) => (k : Int))) 0
    generalize zOC ((xs.getD i default : Nat) : Int) ((xs.take i).map (fun (k : Nat) => (k : Int))) 0 = g at *
    have hg : ¬ g ≥ 0 := by rw [hr]; exact hnin
    have em : R0 ((xs.take i).map (fun (k : Nat) => (k : Int))) = .list (List.take i (List.map nV xs)) := by simp [List.map_map, List.map_take]; rfl
    rw [em] at sI
    have hxn : ¬ (((xs.getD i default : Nat) : Int) < 0) := by omega
    have hxl2 : ¬ (((xs.getD i default : Nat) : Int) ≥ (l.length : Int)) := by omega
    clear hr hnin em hat hP hxlt hxnew hxat hxtwo
    generalize hxe : xs.getD i default = x at *
    repeat' (first | (refine Qr rfl ?_; try intro _ hK; try simp only [go_sem, *]) | (refine Qi rfl rfl rfl rfl ?_ ?_ <;> (intro hb; (try intro _ hK); have hc := hb; try simp only [go_sem] at hc; simp only [go_sem, *])) | refine Qh rfl ?_ | refine Qd rfl (by kernel_rfl) ?_ | (refine Qc rfl rfl ?_ ?_ <;> (intro hb; have hc := hb; try simp only [go_sem] at hc)) | refine q6 rfl ?_ | (with_reducible (show (∀ _ : AV, _ → _) ∧ _); refine And.intro ?_ ?_; (focus (intro y hy; first | (obtain ⟨z, _, rfl⟩ := List.mem_map.1 (hy); simp [go_sem]; done) | (obtain ⟨z, _, rfl⟩ := List.mem_map.1 (List.mem_of_mem_take hy); simp [go_sem]; done) | (obtain ⟨z, _, rfl⟩ := List.mem_map.1 (List.mem_of_mem_drop hy); simp [go_sem]; done) | (obtain ⟨z, _, rfl⟩ := List.mem_map.1 (List.mem_of_mem_drop (List.mem_of_mem_take hy)); simp [go_sem]; done)))) | (refine Qb ?_ ?_; focus kernel_rfl) | (refine q8 (sI) ?_; simp only [go_sem, *]) | ((with_reducible apply And.intro); focus omega) | (refine z8 hK ?_; clear hK; simp only [go_sem, *]) | simp only [z7, z6, go_sem, *])
    all_goals first | contradiction | omega | skip
    exact o7 (i' := i + 1) [some 2] [] (S ++ [l.getD x default]) (by exact hP2)
  · have hie : i = l.length := by omega
    have hii : ¬ (i : Int) < (l.length : Int) := by omega
    have hSe : S = zN6 l := by
      unfold zOK at hP
      rw [hP, hie, List.take_of_length_le (by rw [zOE]; omega)]
    have hSl : S.length = l.length := by rw [hSe, zOE]
    have htS : List.take i (List.map sV S) = List.map sV S := List.take_of_length_le (by simp; omega)
    have htS2 : List.take l.length (List.map sV S) = List.map sV S := List.take_of_length_le (by simp; omega)
    have hvS : ∀ s, s ∈ S → ValidN s := by rw [hSe]; exact zOU hv
    have hpl : ∀ {i f : Nat}, i < l.length → f ≤ i → zOG S i f → (0 < f → S.getD (f - 1) default ≠ S.getD i default) → Y5 S (S.getD i default) = 0 ∧ W3 S (S.getD i default) = f := fun h1 h2 h3 h4 => by
      rw [hSe] at h3 h4 ⊢
      exact zOy hv hl h1 h2 h3 h4
    have hwr : Q2 S = [] := by rw [hSe]; exact zOz l
    have hlo : t8 S = 0 := zKw hvS (by omega)
    have sWr := zMT S hlo
    rw [hwr] at sWr
    rw [← hSe] at hxtwo
    clear hP hSe hxnew hxat hwr hlo hxlt
    repeat' (first | (refine Qr rfl ?_; try intro _ hK; try simp only [go_sem, *]) | (refine Qi rfl rfl rfl rfl ?_ ?_ <;> (intro hb; (try intro _ hK); have hc := hb; try simp only [go_sem] at hc; simp only [go_sem, *])) | refine Qh rfl ?_ | refine Qd rfl (by kernel_rfl) ?_ | (refine Qc rfl rfl ?_ ?_ <;> (intro hb; have hc := hb; try simp only [go_sem] at hc)) | refine q6 rfl ?_ | (refine Qb ?_ ?_; focus kernel_rfl) | ((with_reducible apply And.intro); focus omega) | (refine z8 hK ?_; clear hK; simp only [go_sem, *]) | simp only [z7, z6, go_sem, *])
    all_goals first | contradiction | omega | skip
    refine o6 rfl (l.length) (fun a => NoQ a) 165 (fun a => [(8, iV a), (6, y4 S), (4, l5 xs), (3, y4 l)]) (fun a => []) [] [0] (by trivial) ?_; intro a ha hQ
    by_cases ha2 : a < l.length
    · have haa : (a : Int) < (l.length : Int) := by omega
      have haS : a < S.length := by omega
      have hax : a < xs.length := by omega
      have hwa : IntKind.i64.wrap ((a : Int) + 1) = ((a + 1 : Nat) : Int) := r9 (by omega)
      clear sWr sS
      by_cases ha0 : 0 < a
      · have hai : (a : Int) > 0 := by omega
        have hw0 : IntKind.i64.wrap ((a : Int) - 1) = ((a - 1 : Nat) : Int) := by rw [wrap_i64 (by omega) (by omega)]; omega
        have ha1 : a - 1 < l.length := by omega
        have ha1x : a - 1 < xs.length := by omega
        have su := zOe (hvS _ (j3 (i := a - 1) (l := S) (by omega))) (hvS _ (j3 haS))
        have hcc := hxtwo (a - 1) a ha2 (by omega)
        generalize x6 (S.getD (a - 1) default) (S.getD a default) = c at *
        rcases hcc with hc1 | ⟨hc1, hc2⟩
        · have hcg : ¬ c > 0 := by omega
          have hcz : (c == 0) = false := by rw [beq_eq_false_iff_ne]; omega
          repeat' (first | (refine Qr rfl ?_; try intro _ hK; try simp only [go_sem, *]) | (refine Qi rfl rfl rfl rfl ?_ ?_ <;> (intro hb; (try intro _ hK); have hc := hb; try simp only [go_sem] at hc; simp only [go_sem, *])) | refine Qh rfl ?_ | refine Qd rfl (by kernel_rfl) ?_ | (refine Qc rfl rfl ?_ ?_ <;> (intro hb; have hc := hb; try simp only [go_sem] at hc)) | refine q6 rfl ?_ | (refine Qb ?_ ?_; focus kernel_rfl) | (refine q8 (su) ?_; simp only [go_sem, *]) | ((with_reducible apply And.intro); focus omega) | (refine z8 hK ?_; clear hK; simp only [go_sem, *]) | simp only [z7, z6, go_sem, *])
          all_goals first | contradiction | omega | skip
          refine o6 rfl (a) (fun t => zOG S a (a - t)) 165 (fun t => [(11, iV ((a - t : Nat) : Int)), (8, iV a), (6, y4 S), (4, l5 xs), (3, y4 l)]) (fun t => []) [] [] (by exact fun j h1 h2 => by rw [show j = a by omega]) ?_; intro t ht hR
          generalize hft : a - t = f at *
          have hfa : f ≤ a := by omega
          by_cases hf0 : 0 < f
          · have hfi : (f : Int) > 0 := by omega
            have hwf : IntKind.i64.wrap ((f : Int) - 1) = ((f - 1 : Nat) : Int) := by rw [wrap_i64 (by omega) (by omega)]; omega
            have hf1 : f - 1 < l.length := by omega
            by_cases q : S.getD (f - 1) default = S.getD a default
            · have hR2 : zOG S a (f - 1) := fun j h1 h2 => by
                by_cases e : j = f - 1
                · rw [e]; exact q
                · exact hR j (by omega) h2
              have hb1 : (S.getD (f - 1) default == S.getD a default) = true := by simpa using q
              have hft2 : a - (t + 1) = f - 1 := by omega
              clear hR q hpl hxtwo
              repeat' (first | (refine Qr rfl ?_; try intro _ hK; try simp only [go_sem, *]) | (refine Qi rfl rfl rfl rfl ?_ ?_ <;> (intro hb; (try intro _ hK); have hc := hb; try simp only [go_sem] at hc; simp only [go_sem, *])) | refine Qh rfl ?_ | refine Qd rfl (by kernel_rfl) ?_ | (refine Qc rfl rfl ?_ ?_ <;> (intro hb; have hc := hb; try simp only [go_sem] at hc)) | refine q6 rfl ?_ | (refine Qb ?_ ?_; focus kernel_rfl) | ((with_reducible apply And.intro); focus omega) | (refine z8 hK ?_; clear hK; simp only [go_sem, *]) | simp only [z7, z6, go_sem, *])
              all_goals first | contradiction | omega | skip
              exact i4 (i' := t + 1) [] [] (by rw [hft2]; exact hR2)
            · have hb1 : (S.getD (f - 1) default == S.getD a default) = false := by simpa using q
              obtain ⟨p1, p2⟩ := hpl ha2 hfa hR (fun _ => q)
              have sP := zOM S (S.getD a default) f (by omega) p1 p2
              have hff : ((f : Int) != (f : Int)) = false := by simp
              clear hR q hpl hxtwo p1 p2
              repeat' (first | (refine Qr rfl ?_; try intro _ hK; try simp only [go_sem, *]) | (refine Qi rfl rfl rfl rfl ?_ ?_ <;> (intro hb; (try intro _ hK); have hc := hb; try simp only [go_sem] at hc; simp only [go_sem, *])) | refine Qh rfl ?_ | refine Qd rfl (by kernel_rfl) ?_ | (refine Qc rfl rfl ?_ ?_ <;> (intro hb; have hc := hb; try simp only [go_sem] at hc)) | refine q6 rfl ?_ | (refine Qb ?_ ?_; focus kernel_rfl) | (refine q8 (sP) ?_; simp only [go_sem, *]) | ((with_reducible apply And.intro); focus omega) | (refine z8 hK ?_; clear hK; simp only [go_sem, *]) | simp only [z7, z6, go_sem, *])
              all_goals first | contradiction | omega | skip
              exact i4 (i' := a + 1) [] [] (by trivial)
          · have hfi : ¬ (f : Int) > 0 := by omega
            obtain ⟨p1, p2⟩ := hpl ha2 hfa hR (fun h => absurd h hf0)
            have sP := zOM S (S.getD a default) f (by omega) p1 p2
            have hff : ((f : Int) != (f : Int)) = false := by simp
            clear hR hpl hxtwo p1 p2
            repeat' (first | (refine Qr rfl ?_; try intro _ hK; try simp only [go_sem, *]) | (refine Qi rfl rfl rfl rfl ?_ ?_ <;> (intro hb; (try intro _ hK); have hc := hb; try simp only [go_sem] at hc; simp only [go_sem, *])) | refine Qh rfl ?_ | refine Qd rfl (by kernel_rfl) ?_ | (refine Qc rfl rfl ?_ ?_ <;> (intro hb; have hc := hb; try simp only [go_sem] at hc)) | refine q6 rfl ?_ | (refine Qb ?_ ?_; focus kernel_rfl) | (refine q8 (sP) ?_; simp only [go_sem, *]) | ((with_reducible apply And.intro); focus omega) | (refine z8 hK ?_; clear hK; simp only [go_sem, *]) | simp only [z7, z6, go_sem, *])
            all_goals first | contradiction | omega | skip
            exact i4 (i' := a + 1) [] [] (by trivial)
        · subst hc1
          have hxc : ¬ ((xs.getD (a - 1) default : Nat) : Int) > ((xs.getD a default : Nat) : Int) := by omega
          clear hc2
          generalize hxa : xs.getD (a - 1) default = x1 at *
          generalize hxb : xs.getD a default = x2 at *
          repeat' (first | (refine Qr rfl ?_; try intro _ hK; try simp only [go_sem, *]) | (refine Qi rfl rfl rfl rfl ?_ ?_ <;> (intro hb; (try intro _ hK); have hc := hb; try simp only [go_sem] at hc; simp only [go_sem, *])) | refine Qh rfl ?_ | refine Qd rfl (by kernel_rfl) ?_ | (refine Qc rfl rfl ?_ ?_ <;> (intro hb; have hc := hb; try simp only [go_sem] at hc)) | refine q6 rfl ?_ | (refine Qb ?_ ?_; focus kernel_rfl) | (refine q8 (su) ?_; simp only [go_sem, *]) | ((with_reducible apply And.intro); focus omega) | (refine z8 hK ?_; clear hK; simp only [go_sem, *]) | simp only [z7, z6, go_sem, *])
          all_goals first | contradiction | omega | skip
          refine o6 rfl (a) (fun t => zOG S a (a - t)) 165 (fun t => [(11, iV ((a - t : Nat) : Int)), (8, iV a), (6, y4 S), (4, l5 xs), (3, y4 l)]) (fun t => []) [] [] (by exact fun j h1 h2 => by rw [show j = a by omega]) ?_; intro t ht hR
          generalize hft : a - t = f at *
          have hfa : f ≤ a := by omega
          by_cases hf0 : 0 < f
          · have hfi : (f : Int) > 0 := by omega
            have hwf : IntKind.i64.wrap ((f : Int) - 1) = ((f - 1 : Nat) : Int) := by rw [wrap_i64 (by omega) (by omega)]; omega
            have hf1 : f - 1 < l.length := by omega
            by_cases q : S.getD (f - 1) default = S.getD a default
            · have hR2 : zOG S a (f - 1) := fun j h1 h2 => by
                by_cases e : j = f - 1
                · rw [e]; exact q
                · exact hR j (by omega) h2
              have hb1 : (S.getD (f - 1) default == S.getD a default) = true := by simpa using q
              have hft2 : a - (t + 1) = f - 1 := by omega
              clear hR q hpl hxtwo
              repeat' (first | (refine Qr rfl ?_; try intro _ hK; try simp only [go_sem, *]) | (refine Qi rfl rfl rfl rfl ?_ ?_ <;> (intro hb; (try intro _ hK); have hc := hb; try simp only [go_sem] at hc; simp only [go_sem, *])) | refine Qh rfl ?_ | refine Qd rfl (by kernel_rfl) ?_ | (refine Qc rfl rfl ?_ ?_ <;> (intro hb; have hc := hb; try simp only [go_sem] at hc)) | refine q6 rfl ?_ | (refine Qb ?_ ?_; focus kernel_rfl) | ((with_reducible apply And.intro); focus omega) | (refine z8 hK ?_; clear hK; simp only [go_sem, *]) | simp only [z7, z6, go_sem, *])
              all_goals first | contradiction | omega | skip
              exact i4 (i' := t + 1) [] [] (by rw [hft2]; exact hR2)
            · have hb1 : (S.getD (f - 1) default == S.getD a default) = false := by simpa using q
              obtain ⟨p1, p2⟩ := hpl ha2 hfa hR (fun _ => q)
              have sP := zOM S (S.getD a default) f (by omega) p1 p2
              have hff : ((f : Int) != (f : Int)) = false := by simp
              clear hR q hpl hxtwo p1 p2
              repeat' (first | (refine Qr rfl ?_; try intro _ hK; try simp only [go_sem, *]) | (refine Qi rfl rfl rfl rfl ?_ ?_ <;> (intro hb; (try intro _ hK); have hc := hb; try simp only [go_sem] at hc; simp only [go_sem, *])) | refine Qh rfl ?_ | refine Qd rfl (by kernel_rfl) ?_ | (refine Qc rfl rfl ?_ ?_ <;> (intro hb; have hc := hb; try simp only [go_sem] at hc)) | refine q6 rfl ?_ | (refine Qb ?_ ?_; focus kernel_rfl) | (refine q8 (sP) ?_; simp only [go_sem, *]) | ((with_reducible apply And.intro); focus omega) | (refine z8 hK ?_; clear hK; simp only [go_sem, *]) | simp only [z7, z6, go_sem, *])
              all_goals first | contradiction | omega | skip
              exact i4 (i' := a + 1) [] [] (by trivial)
          · have hfi : ¬ (f : Int) > 0 := by omega
            obtain ⟨p1, p2⟩ := hpl ha2 hfa hR (fun h => absurd h hf0)
            have sP := zOM S (S.getD a default) f (by omega) p1 p2
            have hff : ((f : Int) != (f : Int)) = false := by simp
            clear hR hpl hxtwo p1 p2
            repeat' (first | (refine Qr rfl ?_; try intro _ hK; try simp only [go_sem, *]) | (refine Qi rfl rfl rfl rfl ?_ ?_ <;> (intro hb; (try intro _ hK); have hc := hb; try simp only [go_sem] at hc; simp only [go_sem, *])) | refine Qh rfl ?_ | refine Qd rfl (by kernel_rfl) ?_ | (refine Qc rfl rfl ?_ ?_ <;> (intro hb; have hc := hb; try simp only [go_sem] at hc)) | refine q6 rfl ?_ | (refine Qb ?_ ?_; focus kernel_rfl) | (refine q8 (sP) ?_; simp only [go_sem, *]) | ((with_reducible apply And.intro); focus omega) | (refine z8 hK ?_; clear hK; simp only [go_sem, *]) | simp only [z7, z6, go_sem, *])
            all_goals first | contradiction | omega | skip
            exact i4 (i' := a + 1) [] [] (by trivial)
      · have hai : ¬ (a : Int) > 0 := by omega
        repeat' (first | (refine Qr rfl ?_; try intro _ hK; try simp only [go_sem, *]) | (refine Qi rfl rfl rfl rfl ?_ ?_ <;> (intro hb; (try intro _ hK); have hc := hb; try simp only [go_sem] at hc; simp only [go_sem, *])) | refine Qh rfl ?_ | refine Qd rfl (by kernel_rfl) ?_ | (refine Qc rfl rfl ?_ ?_ <;> (intro hb; have hc := hb; try simp only [go_sem] at hc)) | refine q6 rfl ?_ | (refine Qb ?_ ?_; focus kernel_rfl) | ((with_reducible apply And.intro); focus omega) | (refine z8 hK ?_; clear hK; simp only [go_sem, *]) | simp only [z7, z6, go_sem, *])
        all_goals first | contradiction | omega | skip
        refine o6 rfl (a) (fun t => zOG S a (a - t)) 165 (fun t => [(11, iV ((a - t : Nat) : Int)), (8, iV a), (6, y4 S), (4, l5 xs), (3, y4 l)]) (fun t => []) [] [] (by exact fun j h1 h2 => by rw [show j = a by omega]) ?_; intro t ht hR
        generalize hft : a - t = f at *
        have hfa : f ≤ a := by omega
        by_cases hf0 : 0 < f
        · exfalso; omega
        · have hfi : ¬ (f : Int) > 0 := by omega
          obtain ⟨p1, p2⟩ := hpl ha2 hfa hR (fun h => absurd h hf0)
          have sP := zOM S (S.getD a default) f (by omega) p1 p2
          have hff : ((f : Int) != (f : Int)) = false := by simp
          clear hR hpl hxtwo p1 p2
          repeat' (first | (refine Qr rfl ?_; try intro _ hK; try simp only [go_sem, *]) | (refine Qi rfl rfl rfl rfl ?_ ?_ <;> (intro hb; (try intro _ hK); have hc := hb; try simp only [go_sem] at hc; simp only [go_sem, *])) | refine Qh rfl ?_ | refine Qd rfl (by kernel_rfl) ?_ | (refine Qc rfl rfl ?_ ?_ <;> (intro hb; have hc := hb; try simp only [go_sem] at hc)) | refine q6 rfl ?_ | (refine Qb ?_ ?_; focus kernel_rfl) | (refine q8 (sP) ?_; simp only [go_sem, *]) | ((with_reducible apply And.intro); focus omega) | (refine z8 hK ?_; clear hK; simp only [go_sem, *]) | simp only [z7, z6, go_sem, *])
          all_goals first | contradiction | omega | skip
          exact i4 (i' := a + 1) [] [] (by trivial)
    · have haa : ¬ (a : Int) < (l.length : Int) := by omega
      repeat' (first | (refine Qr rfl ?_; try intro _ hK; try simp only [go_sem, *]) | (refine Qi rfl rfl rfl rfl ?_ ?_ <;> (intro hb; (try intro _ hK); have hc := hb; try simp only [go_sem] at hc; simp only [go_sem, *])) | refine Qh rfl ?_ | refine Qd rfl (by kernel_rfl) ?_ | (refine Qc rfl rfl ?_ ?_ <;> (intro hb; have hc := hb; try simp only [go_sem] at hc)) | refine q6 rfl ?_ | (refine Qb ?_ ?_; focus kernel_rfl) | ((first | refine q8 (sWr) ?_ | refine q8 (sS) ?_); simp only [go_sem, *]) | ((with_reducible apply And.intro); focus omega) | (refine z8 hK ?_; clear hK; simp only [go_sem, *]) | simp only [z7, z6, go_sem, *])
      all_goals first | contradiction | omega | skip
      (refine ⟨[_], [], [], ⟨rfl, trivial⟩, ?_⟩; simp only [go_sem, *])
end Go.Abs

