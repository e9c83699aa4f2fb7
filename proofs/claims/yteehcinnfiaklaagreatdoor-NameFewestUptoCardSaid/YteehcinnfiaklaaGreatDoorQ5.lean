/-
  WHAT THE PROOF STANDS ON, PART 5: contracts of the program's functions and the logic that they are proved in. No condition.
-/
import Derived.Test.YteehcinnfiaklaaGreatDoorQ4
set_option maxRecDepth 100000
set_option maxHeartbeats 4000000
set_option linter.unusedVariables false
set_option linter.unusedSimpArgs false
set_option linter.unusedSectionVars false
namespace Go.Abs
open Go Go.Proofs Tryz
attribute [local irreducible] q9 Hold y8
@[go_sem, simp] theorem zOj {α : Type} (H : Nat → AObj) (m : List (Option Nat)) (ex : List Nat) (f : α → List AV) (l : List α) (x y : AV) : XpL H m ex (List.map (fun t => AV.list (f t)) l ++ [x]) (List.map (fun t => AV.list (f t)) l ++ [y]) ↔ XpF H m ex x y := by
 rw [zDu _ (fun z hz => by
  obtain ⟨t, _, rfl⟩ := List.mem_map.1 hz
  simp only [XpF])]
@[go_sem, simp] theorem zPC {α : Type} (H : Nat → AObj) (m : List (Option Nat)) (ex : List Nat) (f : α → List AV) (l : List α) : XpL H m ex (List.map (fun t => AV.list (f t)) l) (List.map (fun t => AV.list (f t)) l) ↔ True := ⟨fun _ => trivial, fun _ => zDv (fun x => by simp only [XpF]) _⟩
def zN7 (n : Nat) : Nat → Nat → List (List Int)
 | 0, _ => [[]]
 | _ + 1, 0 => []
 | m + 1, r + 1 => (zN7 n m r).map (fun l => (((n - (r + 1) : Nat) : Int)) :: l) ++ zN7 n (m + 1) r
theorem zOR (n r : Nat) : zN7 n 0 r = [[]] := by cases r <;> rfl
theorem zOV (n : Nat) : ∀ (r m : Nat), r < m → zN7 n m r = []
 | 0, 0, h => by omega
 | 0, m + 1, _ => rfl
 | r + 1, 0, h => by omega
 | r + 1, m + 1, h => by
  rw [zN7, zOV n r m (by omega), zOV n r (m + 1) (by omega)]
  rfl
theorem zOQ (n : Nat) : ∀ (r m : Nat) (l : List Int), r ≤ n → l ∈ zN7 n m r → l.length = m ∧ ∀ k, k ∈ l → 0 ≤ k ∧ k < n
 | r, 0, l, _, h => by
  rw [zOR] at h
  rw [List.mem_singleton.1 h]
  exact ⟨rfl, fun k hk => by cases hk⟩
 | 0, m + 1, l, _, h => by cases h
 | r + 1, m + 1, l, hr, h => by
  rw [zN7] at h
  rcases List.mem_append.1 h with h | h
  ·obtain ⟨q, hq, rfl⟩ := List.mem_map.1 h
   obtain ⟨h1, h2⟩ := zOQ n r m q (by omega) hq
   refine ⟨by simp [h1], fun k hk => ?_⟩
   rcases List.mem_cons.1 hk with rfl | hk
   ·omega
   ·exact h2 k hk
  ·exact zOQ n r (m + 1) l (by omega) h
theorem zOP (n : Nat) : ∀ (r m : Nat), (zN7 n m r).length ≤ 2 ^ r
 | r, 0 => by rw [zOR]; exact Nat.one_le_two_pow
 | 0, m + 1 => Nat.zero_le _
 | r + 1, m + 1 => by
  have h1 := zOP n r m
  have h2 := zOP n r (m + 1)
  rw [zN7, List.length_append, List.length_map, Nat.pow_succ]
  omega
@[go_sem, simp] theorem zPB (H : Nat → AObj) (m : List (Option Nat)) (ex : List Nat) (l : List (List Int)) (x y : AV) : XpL H m ex (List.map R0 l ++ [x]) (List.map R0 l ++ [y]) ↔ XpF H m ex x y := zOj H m ex (fun t => t.map iV) l x y
theorem zO7 {n m i : Nat} (h : i < n) : zN7 n (m + 1) (n - i) = (zN7 n m (n - (i + 1))).map (fun l => (i : Int) :: l) ++ zN7 n (m + 1) (n - (i + 1)) := by
 obtain ⟨r, hr⟩ : ∃ r, n - (i + 1) = r := ⟨_, rfl⟩
 have e : n - i = r + 1 := by omega
 have e2 : n - (r + 1) = i := by omega
 rw [e, hr, zN7, e2]
theorem zO6 {n r m : Nat} (h : r ≤ 24) : (zN7 n m r).length ≤ 16777216 := Nat.le_trans (zOP n r m) (Nat.pow_le_pow_right (by omega) h)
theorem zOg (n : Nat) (hn : n ≤ 24) : ∀ (m start : Nat), m ≤ 24 → start ≤ n →
  zMf prog 104 [iV start, iV n, iV m] [] (.list ((zN7 n m (n - start)).map R0)) []
 | 0, start, hm, hs => by
  rw [zOR]
  refine q7 func104 rfl (fun E hE => ?_); simp only [go_sem, ntmps104]
  repeat' (first | (refine Qr rfl ?_; try intro _ hK; try simp only [go_sem, *]) | refine Qh rfl ?_ | (refine Qc rfl rfl ?_ ?_ <;> (intro hb; have hc := hb; try simp only [go_sem] at hc)) | refine q6 rfl ?_ | ((with_reducible apply And.intro); focus omega) | (refine z8 hK ?_; clear hK; simp only [go_sem, *]) | simp only [z7, z6, go_sem, *])
  all_goals try contradiction
  refine ⟨[.own 0 1 0 1], [], [0], ⟨rfl, trivial⟩, ?_⟩
  simp only [go_sem, *]
 | m + 1, start, hm, hs => by
  have IH := fun i (hi : i + 1 ≤ n) => zOg n hn m (i + 1) (by omega) hi
  have hRl := zO6 (n := n) (r := n - start) (m := m + 1) (by omega)
  obtain ⟨R, hR0⟩ : ∃ R, ([] : List (List Int)) ++ zN7 n (m + 1) (n - start) = R := ⟨_, rfl⟩
  have hR1 : zN7 n (m + 1) (n - start) = R := hR0
  rw [hR1] at hRl ⊢
  clear hR1
  have hst := fun i => zO7 (n := n) (m := m) (i := i)
  have hno := fun i => zOV n i (m + 1)
  have hw1 : IntKind.i64.wrap (((m + 1 : Nat) : Int) - 1) = (m : Int) := by rw [wrap_i64 (by omega) (by omega)]; omega
  have hz : (((m + 1 : Nat) : Int) == 0) = false := by rw [beq_eq_false_iff_ne]; omega
  obtain ⟨M, hM⟩ : ∃ M, M = m + 1 := ⟨_, rfl⟩
  rw [← hM] at hw1 hz hst hno hR0 ⊢
  have hM2 : m < M := by omega
  have hM3 : M ≤ 24 := by omega
  clear hM
  refine q7 func104 rfl (fun E hE => ?_); simp only [go_sem, ntmps104]
  repeat' (first | (refine Qr rfl ?_; try intro _ hK; try simp only [go_sem, *]) | refine Qh rfl ?_ | (refine Qc rfl rfl ?_ ?_ <;> (intro hb; have hc := hb; try simp only [go_sem] at hc)) | refine q6 rfl ?_ | ((with_reducible apply And.intro); focus omega) | (refine z8 hK ?_; clear hK; simp only [go_sem, *]) | simp only [z7, z6, go_sem, *])
  all_goals try contradiction
  refine N9 rfl (n - start) (fun q (i : Nat) (acc : List (List Int)) => (start + q ≤ i ∧ i ≤ start + q) ∧ acc ++ zN7 n M (n - i) = R) 45 (fun q i acc => [(8, iV i), (7, .own 0 1 0 acc.length), (1, iV n), (2, iV M)]) (fun q i acc => [.box (acc.map R0)]) [none] [] (start) ([]) (by exact ⟨⟨Nat.le_refl _, Nat.le_refl _⟩, hR0⟩) ?_; intro q i acc hq hP
  clear hR0
  obtain ⟨⟨hik1, hik2⟩, hP⟩ := hP
  have hiM : i ≤ n := by omega
  have hw : IntKind.i64.wrap ((i : Int) + (M : Int)) = (i : Int) + M := wrap_i64 (by omega) (by omega)
  have hw3 : IntKind.i64.wrap ((i : Int) + 1) = ((i + 1 : Nat) : Int) := by rw [wrap_i64 (by omega) (by omega)]; omega
  by_cases hi : i + M ≤ n
  ·have hi3 : (i : Int) + M ≤ n := by omega
   rw [hst i (by omega)] at hP
   have ih := IH i (by omega)
   have hWm : ∀ l, l ∈ zN7 n m (n - (i + 1)) → l.length ≤ 24 := fun l hm => by have := (zOQ n _ m l (by omega) hm).1; omega
   generalize zN7 n m (n - (i + 1)) = W at *
   generalize hT : zN7 n M (n - (i + 1)) = T at *
   clear IH hst hno
   have hP0 : acc ++ ((W.drop 0).map (fun l => (i : Int) :: l) ++ T) = R := hP
   have hql := congrArg List.length hP
   simp only [List.length_append, List.length_map] at hql
   have hWl : W.length ≤ 16777216 := by omega
   clear hql
   repeat' (first | (refine Qr rfl ?_; try intro _ hK; try simp only [go_sem, *]) | refine Qh rfl ?_ | (refine Qc rfl rfl ?_ ?_ <;> (intro hb; have hc := hb; try simp only [go_sem] at hc)) | refine q6 rfl ?_ | (refine q8 (ih) ?_; simp only [go_sem, *]) | ((with_reducible apply And.intro); focus omega) | (refine z8 hK ?_; clear hK; simp only [go_sem, *]) | simp only [z7, z6, go_sem, *])
   all_goals try contradiction
   clear hP
   refine a7 rfl (W.length) (fun k (ac : List (List Int)) => ac ++ ((W.drop k).map (fun l => (i : Int) :: l) ++ T) = R) 45 (fun k ac => [(10, iV k), (9, .list (W.map R0)), (8, iV i), (7, .own 0 1 0 ac.length), (1, iV n), (2, iV M)]) (fun k ac => [.box (ac.map R0)]) [some 0] [] (acc) (by exact hP0) ?_; intro k ac hk hQ
   clear hP0
   by_cases hk : k < W.length
   ·have hk3 : (k : Int) < W.length := by omega
    rw [o3 hk, List.map_cons] at hQ
    have hql := congrArg List.length hQ
    simp only [List.length_append, List.length_map, List.length_cons] at hql
    have hWk := hWm _ (j3 hk)
    clear hWm
    generalize hw0 : W.getD k default = w at *
    have ht : ∀ a : AV, List.take (1 + w.length) ([a] ++ List.map iV w) = a :: List.map iV w := fun a => List.take_of_length_le (by simp; omega)
    have ht2 : ∀ a : AV, List.take (1 + w.length) (a :: List.map iV w) = a :: List.map iV w := ht
    have ht3 : 1 + w.length ≤ w.length + 1 := by omega
    repeat' (first | (refine Qr rfl ?_; try intro _ hK; try simp only [go_sem, *]) | refine Qh rfl ?_ | (refine Qc rfl rfl ?_ ?_ <;> (intro hb; have hc := hb; try simp only [go_sem] at hc)) | refine q6 rfl ?_ | (with_reducible (show (∀ _ : AV, _ → _) ∧ _); refine And.intro ?_ ?_; (focus (intro y hy; first | (obtain ⟨z, _, rfl⟩ := List.mem_map.1 (hy); simp [go_sem]; done) | (obtain ⟨z, _, rfl⟩ := List.mem_map.1 (List.mem_of_mem_take hy); simp [go_sem]; done) | (obtain ⟨z, _, rfl⟩ := List.mem_map.1 (List.mem_of_mem_drop hy); simp [go_sem]; done) | (obtain ⟨z, _, rfl⟩ := List.mem_map.1 (List.mem_of_mem_drop (List.mem_of_mem_take hy)); simp [go_sem]; done)))) | ((with_reducible apply And.intro); focus omega) | (refine z8 hK ?_; clear hK; simp only [go_sem, *]) | simp only [z7, z6, go_sem, *])
    all_goals try contradiction
    exact o7 (i' := k + 1) [some 4] [2] (ac ++ [(i : Int) :: w]) (by rw [← hQ]; simp)
   ·have hk3 : ¬ (k : Int) < W.length := by omega
    rw [f5 (by omega), List.map_nil, List.nil_append] at hQ
    repeat' (first | (refine Qr rfl ?_; try intro _ hK; try simp only [go_sem, *]) | refine Qh rfl ?_ | (refine Qc rfl rfl ?_ ?_ <;> (intro hb; have hc := hb; try simp only [go_sem] at hc)) | refine q6 rfl ?_ | ((with_reducible apply And.intro); focus omega) | (refine z8 hK ?_; clear hK; simp only [go_sem, *]) | simp only [z7, z6, go_sem, *])
    all_goals try contradiction
    exact Z1 (i' := q + 1) [some 0] [] (i + 1) (ac) (by rw [hT]; exact ⟨⟨by omega, by omega⟩, hQ⟩)
  ·have hi3 : ¬ (i : Int) + M ≤ n := by omega
   rw [hno _ (by omega), List.append_nil] at hP
   subst hP
   clear IH hst hno
   repeat' (first | (refine Qr rfl ?_; try intro _ hK; try simp only [go_sem, *]) | refine Qh rfl ?_ | (refine Qc rfl rfl ?_ ?_ <;> (intro hb; have hc := hb; try simp only [go_sem] at hc)) | refine q6 rfl ?_ | ((with_reducible apply And.intro); focus omega) | (refine z8 hK ?_; clear hK; simp only [go_sem, *]) | simp only [z7, z6, go_sem, *])
   all_goals try contradiction
   refine ⟨[.own 0 1 0 acc.length], [], [0], ⟨rfl, trivial⟩, ?_⟩
   simp only [go_sem, *]
   intro x hx
   obtain ⟨y, _, rfl⟩ := List.mem_map.1 hx
   rfl
theorem zO1 (n m : Nat) (hn : n ≤ 24) (hm : m ≤ 24) : zMf prog 57 [iV n, iV m] [] (.list ((zN7 n m n).map R0)) [] := by
 have s1 : zMf prog 104 [iV 0, iV n, iV m] [] (.list ((zN7 n m n).map R0)) [] := zOg n hn m 0 hm (Nat.zero_le _)
 refine q7 func57 rfl (fun E hE => ?_); simp only [go_sem, ntmps57]
 repeat' (first | (refine Qr rfl ?_; try intro _ hK; try simp only [go_sem, *]) | refine Qh rfl ?_ | (refine Qc rfl rfl ?_ ?_ <;> (intro hb; have hc := hb; try simp only [go_sem] at hc)) | refine q6 rfl ?_ | (refine q8 (s1) ?_; simp only [go_sem, *]) | ((with_reducible apply And.intro); focus omega) | (refine z8 hK ?_; clear hK; simp only [go_sem, *]) | simp only [z7, z6, go_sem, *])
 (refine ⟨[_], [], [], ⟨rfl, trivial⟩, ?_⟩; simp only [go_sem, *])
end Go.Abs

namespace Go.Abs
open Go Go.Proofs Tryz
attribute [local irreducible] q9 Hold y8
def wTo (l : List Str) (c : List Int) (i : Nat) : List Str := ((List.range i).filter fun (j : Nat) => !(c.any (· == (j : Int)))).map fun j => l.getD j default
def WOK (l : List Str) (c : List Int) (i : Nat) (acc : List Str) : Prop := acc = wTo l c i
def zOH (c : List Int) (i : Nat) (k : Nat) (b : Bool) : Prop := b = (c.take k).any (· == (i : Int))
theorem zPA (l : List Str) (c : List Int) (i : Nat) : wTo l c (i + 1) = if c.any (· == (i : Int)) = true then wTo l c i else wTo l c i ++ [l.getD i default] := by
 unfold wTo
 rw [List.range_succ, List.filter_append]
 cases h : c.any (· == (i : Int)) <;> simp [h]
theorem zOh (l : List Str) (c : List Int) (i : Nat) : (wTo l c i).length ≤ i := by
 unfold wTo
 have := List.length_filter_le (fun (j : Nat) => !(c.any (· == (j : Int)))) (List.range i)
 simpa using this
theorem zO3 (l : List Str) (c : List Int) (hl : l.length ≤ 1000) (hc0 : c.length ≤ 1000) : zMf prog 59 [y4 l, R0 c] [] (.own 0 1 0 (wTo l c l.length).length) [.row 1 ((wTo l c l.length).map sV)] := by
  refine q7 func59 rfl (fun E hE => ?_); simp only [go_sem, ntmps59]
  repeat' (first | (refine Qr rfl ?_; try intro _ hK; try simp only [go_sem, *]) | (refine Qi rfl rfl rfl rfl ?_ ?_ <;> (intro hb; (try intro _ hK); have hc := hb; try simp only [go_sem] at hc; simp only [go_sem, *])) | refine Qh rfl ?_ | (refine Qc rfl rfl ?_ ?_ <;> (intro hb; have hc := hb; try simp only [go_sem] at hc)) | refine q6 rfl ?_ | ((with_reducible apply And.intro); focus omega) | (refine z8 hK ?_; clear hK; simp only [go_sem, *]) | simp only [z7, z6, go_sem, *])
  refine a7 rfl (l.length) (fun i (acc : List Str) => WOK l c i acc) 40 (fun i acc => [(6, iV i), (5, .own 0 1 0 acc.length), (0, y4 l), (1, R0 c)]) (fun i acc => [.row 1 (acc.map sV)]) [none] [] ([]) (by exact rfl) ?_; intro i acc hi hP
  by_cases hi2 : i < l.length
  · have hii : (i : Int) < (l.length : Int) := by omega
    have hwi : IntKind.i64.wrap ((i : Int) + 1) = ((i + 1 : Nat) : Int) := r9 (by omega)
    have hal : acc.length ≤ i := by unfold WOK at hP; rw [hP]; exact zOh l c i
    repeat' (first | (refine Qr rfl ?_; try intro _ hK; try simp only [go_sem, *]) | (refine Qi rfl rfl rfl rfl ?_ ?_ <;> (intro hb; (try intro _ hK); have hc := hb; try simp only [go_sem] at hc; simp only [go_sem, *])) | refine Qh rfl ?_ | (refine Qc rfl rfl ?_ ?_ <;> (intro hb; have hc := hb; try simp only [go_sem] at hc)) | refine q6 rfl ?_ | ((with_reducible apply And.intro); focus omega) | (refine z8 hK ?_; clear hK; simp only [go_sem, *]) | simp only [z7, z6, go_sem, *])
    all_goals first | contradiction | omega | skip
    refine a7 rfl (c.length) (fun k (g : Bool) => zOH c i k g) 40 (fun k g => [(8, iV k), (7, bV g), (6, iV i), (5, .own 0 1 0 acc.length), (0, y4 l), (1, R0 c)]) (fun k g => [.row 1 (acc.map sV)]) [some 0] [] (false) (by exact rfl) ?_; intro k g hk hQ
    by_cases hk2 : k < c.length
    · have hki : (k : Int) < (c.length : Int) := by omega
      have hwk : IntKind.i64.wrap ((k : Int) + 1) = ((k + 1 : Nat) : Int) := r9 (by omega)
      have hQ2 : zOH c i (k + 1) (g || (c.getD k default == (i : Int))) := by
        unfold zOH at hQ ⊢
        rw [zA2 hk2, List.any_append, hQ]; simp
      clear hQ hP
      cases g
      · have hQ2 : zOH c i (k + 1) (c.getD k default == (i : Int)) := hQ2
        generalize hze : c.getD k default = z at *
        generalize hzy : (z == (i : Int)) = p at *
        repeat' (first | (refine Qr rfl ?_; try intro _ hK; try simp only [go_sem, *]) | (refine Qi rfl rfl rfl rfl ?_ ?_ <;> (intro hb; (try intro _ hK); have hc := hb; try simp only [go_sem] at hc; simp only [go_sem, *])) | refine Qh rfl ?_ | (refine Qc rfl rfl ?_ ?_ <;> (intro hb; have hc := hb; try simp only [go_sem] at hc)) | refine q6 rfl ?_ | ((with_reducible apply And.intro); focus omega) | (refine z8 hK ?_; clear hK; simp only [go_sem, *]) | simp only [z7, z6, go_sem, *])
        all_goals first | contradiction | omega | skip
        exact o7 (i' := k + 1) [some 0] [] (p) (by exact hQ2)
      · have hQ2 : zOH c i (k + 1) true := hQ2
        repeat' (first | (refine Qr rfl ?_; try intro _ hK; try simp only [go_sem, *]) | (refine Qi rfl rfl rfl rfl ?_ ?_ <;> (intro hb; (try intro _ hK); have hc := hb; try simp only [go_sem] at hc; simp only [go_sem, *])) | refine Qh rfl ?_ | (refine Qc rfl rfl ?_ ?_ <;> (intro hb; have hc := hb; try simp only [go_sem] at hc)) | refine q6 rfl ?_ | ((with_reducible apply And.intro); focus omega) | (refine z8 hK ?_; clear hK; simp only [go_sem, *]) | simp only [z7, z6, go_sem, *])
        all_goals first | contradiction | omega | skip
        exact o7 (i' := k + 1) [some 0] [] (true) (by exact hQ2)
    · have hki : ¬ (k : Int) < (c.length : Int) := by omega
      have hst := zPA l c i
      have hg : g = c.any (· == (i : Int)) := by
        unfold zOH at hQ
        rw [hQ, List.take_of_length_le (by omega)]
      rw [← hg] at hst
      clear hQ hg
      cases g
      · have hP2 : WOK l c (i + 1) (acc ++ [l.getD i default]) := by
          unfold WOK at hP ⊢
          rw [hst, hP]; rfl
        clear hst hP
        repeat' (first | (refine Qr rfl ?_; try intro _ hK; try simp only [go_sem, *]) | (refine Qi rfl rfl rfl rfl ?_ ?_ <;> (intro hb; (try intro _ hK); have hc := hb; try simp only [go_sem] at hc; simp only [go_sem, *])) | refine Qh rfl ?_ | (refine Qc rfl rfl ?_ ?_ <;> (intro hb; have hc := hb; try simp only [go_sem] at hc)) | refine q6 rfl ?_ | ((with_reducible apply And.intro); focus omega) | (refine z8 hK ?_; clear hK; simp only [go_sem, *]) | simp only [z7, z6, go_sem, *])
        all_goals first | contradiction | omega | skip
        exact o7 (i' := i + 1) [some 2] [] (acc ++ [l.getD i default]) (by exact hP2)
      · have hP2 : WOK l c (i + 1) acc := by
          unfold WOK at hP ⊢
          rw [hst, hP]; rfl
        clear hst hP
        repeat' (first | (refine Qr rfl ?_; try intro _ hK; try simp only [go_sem, *]) | (refine Qi rfl rfl rfl rfl ?_ ?_ <;> (intro hb; (try intro _ hK); have hc := hb; try simp only [go_sem] at hc; simp only [go_sem, *])) | refine Qh rfl ?_ | (refine Qc rfl rfl ?_ ?_ <;> (intro hb; have hc := hb; try simp only [go_sem] at hc)) | refine q6 rfl ?_ | ((with_reducible apply And.intro); focus omega) | (refine z8 hK ?_; clear hK; simp only [go_sem, *]) | simp only [z7, z6, go_sem, *])
        all_goals first | contradiction | omega | skip
        exact o7 (i' := i + 1) [some 0] [] (acc) (by exact hP2)
  · have hie : i = l.length := by omega
    have hii : ¬ (i : Int) < (l.length : Int) := by omega
    unfold WOK at hP
    rw [hie] at hP
    rw [← hP]
    clear hP hie
    repeat' (first | (refine Qr rfl ?_; try intro _ hK; try simp only [go_sem, *]) | (refine Qi rfl rfl rfl rfl ?_ ?_ <;> (intro hb; (try intro _ hK); have hc := hb; try simp only [go_sem] at hc; simp only [go_sem, *])) | refine Qh rfl ?_ | (refine Qc rfl rfl ?_ ?_ <;> (intro hb; have hc := hb; try simp only [go_sem] at hc)) | refine q6 rfl ?_ | ((with_reducible apply And.intro); focus omega) | (refine z8 hK ?_; clear hK; simp only [go_sem, *]) | simp only [z7, z6, go_sem, *])
    all_goals first | contradiction | omega | skip
    refine ⟨[_], [some 0], [], ⟨rfl, trivial⟩, ?_⟩
    simp only [go_sem, *]
theorem zOe {a b : Str} (va : ValidN a) (vb : ValidN b) : zMf prog 48 [sV a, sV b] [] (.tup [iV (x6 a b), iV 0]) [] := by
 have e : O4 a b = 0 := by unfold O4; rw [zAf, if_pos va.check, vb.check]
 have s := zMP a b
 rw [e, if_pos rfl] at s
 exact s
def zPK (q : List Str) (t : Nat) : Prop := ∀ j, j < t → ¬ x6 (q.getD (j + 1) []) (q.getD j []) < 0
theorem zO2 (q : List Str) (hv : ∀ s, s ∈ q → ValidN s) (hl : q.length ≤ 1000) : zMf prog 58 [y4 q] [] (.tup [bV (l3 q), bV true]) [] := by
 refine q7 func58 rfl (fun E hE => ?_); simp only [go_sem, ntmps58]
 repeat' (first | (refine Qr rfl ?_; try intro _ hK; try simp only [go_sem, *]) | refine Qh rfl ?_ | refine Qd rfl (by kernel_rfl) ?_ | (refine Qc rfl rfl ?_ ?_ <;> (intro hb; have hc := hb; try simp only [go_sem] at hc)) | refine q6 rfl ?_ | (refine Qb ?_ ?_; focus kernel_rfl) | ((with_reducible apply And.intro); focus omega) | (refine z8 hK ?_; clear hK; simp only [go_sem, *]) | simp only [z7, z6, go_sem, *])
 refine o6 rfl (q.length - 1) (fun t => zPK q t) 30 (fun t => [(4, iV ((t + 1 : Nat) : Int)), (0, y4 q)]) (fun t => []) [] [] (by exact fun j h => absurd h (Nat.not_lt_zero j)) ?_; intro t ht hP
 by_cases ht : t + 1 < q.length
 ·have hti : ((t + 1 : Nat) : Int) < (q.length : Int) := by omega
  have ht1 : t < q.length := by omega
  have hw0 : IntKind.i64.wrap (((t + 1 : Nat) : Int) - 1) = (t : Int) := by rw [wrap_i64 (by omega) (by omega)]; omega
  have hw1 : IntKind.i64.wrap (((t + 1 : Nat) : Int) + 1) = ((t + 1 + 1 : Nat) : Int) := r9 (by omega)
  have su := zOe (hv _ (j3 ht1)) (hv _ (j3 ht))
  have hanti := F4 (q.getD t default) (q.getD (t + 1) default)
  have hdef : ∀ j, q.getD j default = q.getD j [] := fun _ => rfl
  have hbad : x6 (q.getD t default) (q.getD (t + 1) default) > 0 → l3 q = false := fun h => by
   cases e : l3 q with
   | false => rfl
   | true =>
    have := orderedB_iff.1 e t (Nat.zero_le _) ht
    rw [← hdef, ← hdef] at this
    omega
  have hgood : ¬ x6 (q.getD t default) (q.getD (t + 1) default) > 0 → zPK q (t + 1) := fun h j hj => by
   by_cases e : j = t
   ·subst e
    rw [← hdef, ← hdef]; omega
   ·exact hP j (by omega)
  clear hanti hdef hP
  generalize x6 (q.getD t default) (q.getD (t + 1) default) = n at *
  by_cases hn : n > 0
  ·rw [hbad hn]
   clear hbad hgood hv
   repeat' (first | (refine Qr rfl ?_; try intro _ hK; try simp only [go_sem, *]) | refine Qh rfl ?_ | refine Qd rfl (by kernel_rfl) ?_ | (refine Qc rfl rfl ?_ ?_ <;> (intro hb; have hc := hb; try simp only [go_sem] at hc)) | refine q6 rfl ?_ | (refine Qb ?_ ?_; focus kernel_rfl) | (refine q8 (su) ?_; simp only [go_sem, *]) | ((with_reducible apply And.intro); focus omega) | (refine z8 hK ?_; clear hK; simp only [go_sem, *]) | simp only [z7, z6, go_sem, *])
   all_goals first | contradiction | omega | skip
   (refine ⟨[_, _], [], [], ⟨rfl, rfl, trivial⟩, ?_⟩; simp only [go_sem, *])
  ·have hP2 := hgood hn
   clear hbad hgood
   repeat' (first | (refine Qr rfl ?_; try intro _ hK; try simp only [go_sem, *]) | refine Qh rfl ?_ | refine Qd rfl (by kernel_rfl) ?_ | (refine Qc rfl rfl ?_ ?_ <;> (intro hb; have hc := hb; try simp only [go_sem] at hc)) | refine q6 rfl ?_ | (refine Qb ?_ ?_; focus kernel_rfl) | (refine q8 (su) ?_; simp only [go_sem, *]) | ((with_reducible apply And.intro); focus omega) | (refine z8 hK ?_; clear hK; simp only [go_sem, *]) | simp only [z7, z6, go_sem, *])
   all_goals first | contradiction | omega | skip
   exact i4 (i' := t + 1) [] [] (by exact hP2)
 ·have hti : ¬ ((t + 1 : Nat) : Int) < (q.length : Int) := by omega
  have ho : l3 q = true := orderedB_iff.2 (fun j _ h2 => hP j (by omega))
  rw [ho]
  clear hP ho hv
  repeat' (first | (refine Qr rfl ?_; try intro _ hK; try simp only [go_sem, *]) | refine Qh rfl ?_ | refine Qd rfl (by kernel_rfl) ?_ | (refine Qc rfl rfl ?_ ?_ <;> (intro hb; have hc := hb; try simp only [go_sem] at hc)) | refine q6 rfl ?_ | (refine Qb ?_ ?_; focus kernel_rfl) | ((with_reducible apply And.intro); focus omega) | (refine z8 hK ?_; clear hK; simp only [go_sem, *]) | simp only [z7, z6, go_sem, *])
  all_goals first | contradiction | omega | skip
  (refine ⟨[_, _], [], [], ⟨rfl, rfl, trivial⟩, ?_⟩; simp only [go_sem, *])
end Go.Abs

namespace Go.Abs
open Go Go.Proofs Tryz
attribute [local irreducible] q9 Hold y8
def zOB (c : List Nat) : List Int := c.map fun (i : Nat) => (i : Int)
theorem zOu {n m lo : Nat} (h : lo < n) : Y4 n (m + 1) lo = (Y4 n m (lo + 1)).map (lo :: ·) ++ Y4 n (m + 1) (lo + 1) := by
 rw [Y4, Y4, show n - lo = (n - (lo + 1)) + 1 by omega, List.range'_succ, List.flatMap_cons]
theorem zOt {n m lo : Nat} (h : n ≤ lo) : Y4 n (m + 1) lo = [] := by
 rw [Y4, show n - lo = 0 by omega]; rfl
theorem zOW (n : Nat) : ∀ (r m : Nat), r ≤ n → zN7 n m r = (Y4 n m (n - r)).map zOB
 | r, 0, _ => by rw [zOR, Y4]; rfl
 | 0, m + 1, _ => by rw [zOt (by omega)]; rfl
 | r + 1, m + 1, h => by
  have e : n - (r + 1) + 1 = n - r := by omega
  rw [zOu (by omega), e, zN7, zOW n r m (by omega), zOW n r (m + 1) (by omega), List.map_append, List.map_map, List.map_map]
  rfl
theorem zOl (c : List Nat) (j : Nat) : (zOB c).any (· == (j : Int)) = decide (j ∈ c) := by
 unfold zOB
 rw [Bool.eq_iff_iff, List.any_map, List.any_eq_true, decide_eq_true_eq]
 constructor
 ·rintro ⟨x, hx, h⟩
  have : (x : Int) = (j : Int) := by simpa using h
  rw [show j = x by omega]; exact hx
 ·intro h
  exact ⟨j, h, by simp⟩
theorem zO9 (l : List Str) (c : List Nat) : wTo l (zOB c) l.length = P5 l c := by
 unfold wTo P5
 simp only [zOl]
 rfl
def zPH (l : List Str) (c : List Nat) : Option (List Nat) := if l3 (P5 l c) = true then some c else none
def zOJ (l : List Str) (m : Nat) : Option (List Nat) := p5 (B0 l) (List.range' m (l.length + 1 - m))
def zON (l : List Str) (m i : Nat) : Option (List Nat) := match p5 (zPH l) ((Y4 l.length m 0).drop i) with
 | some c => some c
 | none => zOJ l (m + 1)
def zOF (l : List Str) (m : Nat) : Prop := zOJ l m = some (Q2 l)
def zOD (l : List Str) (m i : Nat) : Prop := zON l m i = some (Q2 l)
theorem zOq (l : List Str) : zOF l 0 := by
 have := zMe l
 rw [List.range_eq_range'] at this
 exact this
theorem zOn {l : List Str} {m : Nat} (h : zOF l m) (hm : m ≤ l.length) : zOD l m 0 := by
 unfold zOF zOJ at h
 rw [show l.length + 1 - m = (l.length + 1 - (m + 1)) + 1 by omega, List.range'_succ, p5] at h
 unfold zOD zON
 have e : p5 (zPH l) ((Y4 l.length m 0).drop 0) = B0 l m := rfl
 rw [e]
 have e2 : zOJ l (m + 1) = p5 (B0 l) (List.range' (m + 1) (l.length + 1 - (m + 1))) := rfl
 rw [e2]
 cases hc : B0 l m with
 | none => rw [hc] at h; exact h
 | some c => rw [hc] at h; exact h
theorem zOo {l : List Str} {m : Nat} (h : zOF l m) : m ≤ l.length := by
 by_cases hm : m ≤ l.length
 ·exact hm
 ·unfold zOF zOJ at h
  rw [show l.length + 1 - m = 0 by omega] at h
  cases h
theorem zOp {l : List Str} {m i : Nat} (h : zOD l m i) (hi : i < (Y4 l.length m 0).length) :
  (l3 (P5 l ((Y4 l.length m 0).getD i default)) = true ∧ (Y4 l.length m 0).getD i default = Q2 l) ∨ (l3 (P5 l ((Y4 l.length m 0).getD i default)) = false ∧ zOD l m (i + 1)) := by
 unfold zOD zON at h
 rw [o3 hi, p5] at h
 cases e : l3 (P5 l ((Y4 l.length m 0).getD i default)) with
 | true =>
  have e2 : zPH l ((Y4 l.length m 0).getD i default) = some ((Y4 l.length m 0).getD i default) := by unfold zPH; rw [if_pos e]
  rw [e2] at h
  exact .inl ⟨rfl, Option.some.inj h⟩
 | false =>
  have e2 : zPH l ((Y4 l.length m 0).getD i default) = none := by unfold zPH; rw [if_neg (by rw [e]; decide)]
  rw [e2] at h
  exact .inr ⟨rfl, h⟩
theorem zOm {l : List Str} {m i : Nat} (h : zOD l m i) (hi : (Y4 l.length m 0).length ≤ i) : zOF l (m + 1) := by
 unfold zOD zON at h
 rw [f5 hi] at h
 exact h
theorem zPD (nums : List Int) (h : nums.length ≤ 4294967296) : zMf prog 13 [R0 nums] [] (bV true) [] := by
 obtain ⟨d0, s0, hd0⟩ := zJ5 nums h
 obtain ⟨l, d1, s1, hv, hl0, hd1⟩ := zK5 d0 6 3 hd0 (by omega) (by omega)
 have hl : l.length ≤ 6 := by omega
 have sW : zMf prog 56 [y4 l] [] (.tup [R0 (zOB (Q2 l)), iV 0]) [] := by
  have := zMT l (zKw hv hl)
  have e : l5 (Q2 l) = R0 (zOB (Q2 l)) := by unfold zOB; simp [List.map_map]
  rwa [e] at this
 have sS := zMV
 have hwl : (zOB (Q2 l)).length ≤ 1000 := by
  have ha := (zDk l).1.1
  have hf : Q2 l = (List.range l.length).filter (fun i => decide (i ∈ Q2 l)) := zBK ha ⟨(List.pairwise_lt_range).filter _, fun i hi => by simpa using (List.mem_filter.1 hi).1⟩ (fun i => by
   rw [List.mem_filter, List.mem_range, decide_eq_true_eq]
   exact ⟨fun hi => ⟨ha.2 i hi, hi⟩, fun hi => hi.2⟩)
  have hsub : (Q2 l).length ≤ l.length := by
   rw [hf]
   have := List.length_filter_le (fun i => decide (i ∈ Q2 l)) (List.range l.length)
   simpa using this
  unfold zOB; simp; omega
 have h0 := zOq l
 clear hd0 hd1 h
 refine q7 func13 rfl (fun E hE => ?_); simp only [go_sem, ntmps13]
 repeat' (first | (refine Qr rfl ?_; try intro _ hK; try simp only [go_sem, *]) | (refine Qi rfl rfl rfl rfl ?_ ?_ <;> (intro hb; (try intro _ hK); have hc := hb; try simp only [go_sem] at hc; simp only [go_sem, *])) | refine Qh rfl ?_ | (refine Qc rfl rfl ?_ ?_ <;> (intro hb; have hc := hb; try simp only [go_sem] at hc)) | refine q6 rfl ?_ | (refine j0 (s0) ?_; simp only [go_sem, *]) | ((with_reducible apply And.intro); focus omega) | (refine z8 hK ?_; clear hK; simp only [go_sem, *]) | simp only [z7, z6, go_sem, *])
 refine v6 [0] s1 ?_
 simp only [go_sem, *]
 repeat' (first | ((with_reducible refine zDU [0, 1, 1] ?_)) | (refine Qr rfl ?_; try intro _ hK; try simp only [go_sem, *]) | (refine Qi rfl rfl rfl rfl ?_ ?_ <;> (intro hb; (try intro _ hK); have hc := hb; try simp only [go_sem] at hc; simp only [go_sem, *])) | refine Qh rfl ?_ | (refine Qc rfl rfl ?_ ?_ <;> (intro hb; have hc := hb; try simp only [go_sem] at hc)) | refine q6 rfl ?_ | ((with_reducible apply And.intro); focus omega) | (refine z8 hK ?_; clear hK; simp only [go_sem, *]) | simp only [z7, z6, go_sem, *])
 refine ⟨?_⟩
 refine Q7 (N := 61) (env := [(3, y4 l)]) (As := []) [] [1] (by (simp only [Weak, go_sem, List.map_append, List.map_set, *] <;> (try simp (disch := omega) only [r9]) <;> (try simp) <;> (try omega))) ?_
 repeat' (first | (refine Qr rfl ?_; try intro _ hK; try simp only [go_sem, *]) | (refine Qi rfl rfl rfl rfl ?_ ?_ <;> (intro hb; (try intro _ hK); have hc := hb; try simp only [go_sem] at hc; simp only [go_sem, *])) | refine Qh rfl ?_ | (refine Qc rfl rfl ?_ ?_ <;> (intro hb; have hc := hb; try simp only [go_sem] at hc)) | refine q6 rfl ?_ | (refine q8 (sW) ?_; simp only [go_sem, *]) | ((with_reducible apply And.intro); focus omega) | (refine z8 hK ?_; clear hK; simp only [go_sem, *]) | simp only [z7, z6, go_sem, *])
 generalize hw : zOB (Q2 l) = w at *
 clear sW s0 s1
 refine o6 rfl (l.length + 1) (fun m => zOF l m) 61 (fun m => [(6, iV m), (5, iV 0), (4, R0 w), (3, y4 l)]) (fun m => []) [] [] (by exact h0) ?_; intro m hm hP
 clear h0
 have hmn := zOo hP
 have hmi : (m : Int) ≤ (l.length : Int) := by omega
 have hwm : IntKind.i64.wrap ((m : Int) + 1) = ((m + 1 : Nat) : Int) := r9 (by omega)
 have sub := zO1 l.length m (by omega) (by omega)
 have hsp : zN7 l.length m l.length = (Y4 l.length m 0).map zOB := by
  have := zOW l.length l.length m (Nat.le_refl _)
  rwa [Nat.sub_self] at this
 have hsl := zOP l.length l.length m
 have hpw : (2 : Nat) ^ l.length ≤ 64 := Nat.pow_le_pow_right (by decide) hl
 have hmem := zOQ l.length l.length m
 have hQ0 := zOn hP hmn
 clear hP
 have hAl : (zN7 l.length m l.length).length = (Y4 l.length m 0).length := by rw [hsp]; simp
 have hAg : ∀ i, i < (Y4 l.length m 0).length → (zN7 l.length m l.length).getD i default = zOB ((Y4 l.length m 0).getD i default) := fun i hi => by
  rw [hsp]; simp [List.getD, hi]
 generalize zN7 l.length m l.length = A at *
 clear hsp
 repeat' (first | (refine Qr rfl ?_; try intro _ hK; try simp only [go_sem, *]) | (refine Qi rfl rfl rfl rfl ?_ ?_ <;> (intro hb; (try intro _ hK); have hc := hb; try simp only [go_sem] at hc; simp only [go_sem, *])) | refine Qh rfl ?_ | (refine Qc rfl rfl ?_ ?_ <;> (intro hb; have hc := hb; try simp only [go_sem] at hc)) | refine q6 rfl ?_ | (refine q8 (sub) ?_; simp only [go_sem, *]) | ((with_reducible apply And.intro); focus omega) | (refine z8 hK ?_; clear hK; simp only [go_sem, *]) | simp only [z7, z6, go_sem, *])
 all_goals first | contradiction | omega | skip
 refine o6 rfl (A.length) (fun i => zOD l m i) 61 (fun i => [(8, iV i), (7, .list (A.map R0)), (6, iV m), (5, iV 0), (4, R0 w), (3, y4 l)]) (fun i => []) [] [] (by exact hQ0) ?_; intro i hi hQ
 clear hQ0
 by_cases hi2 : i < A.length
 ·have hii : (i : Int) < (A.length : Int) := by omega
  have hwi : IntKind.i64.wrap ((i : Int) + 1) = ((i + 1 : Nat) : Int) := r9 (by omega)
  have hst := zOp hQ (by omega)
  have hg := hAg i (by omega)
  have hcl := (hmem _ (Nat.le_refl _) (j3 hi2)).1
  have sw := zO3 l (A.getD i default) (by omega) (by omega)
  have hwv : ∀ x, x ∈ wTo l (A.getD i default) l.length → ValidN x := fun x hx => by
   unfold wTo at hx
   obtain ⟨j, hj, rfl⟩ := List.mem_map.1 hx
   exact hv _ (j3 (List.mem_range.1 (List.mem_filter.1 hj).1))
  have hwl2 := zOh l (A.getD i default) l.length
  have so := zO2 _ hwv (by omega)
  have hword : l3 (wTo l (A.getD i default) l.length) = l3 (P5 l ((Y4 l.length m 0).getD i default)) := by rw [hg, zO9]
  rw [hword] at so
  generalize wTo l (A.getD i default) l.length = q at *
  have htq : List.take q.length (List.map sV q) = List.map sV q := List.take_of_length_le (by simp)
  have sE := zHi w (A.getD i default) (by omega)
  clear hmem hAg hword hwv hQ
  rcases hst with ⟨e1, e2⟩ | ⟨e1, e2⟩
  ·rw [e1] at so
   have e3 : w = A.getD i default := by rw [hg, e2, hw]
   rw [decide_eq_true e3] at sE
   clear e1 e2 e3 hg hw
   repeat' (first | (refine Qr rfl ?_; try intro _ hK; try simp only [go_sem, *]) | (refine Qi rfl rfl rfl rfl ?_ ?_ <;> (intro hb; (try intro _ hK); have hc := hb; try simp only [go_sem] at hc; simp only [go_sem, *])) | refine Qh rfl ?_ | (refine Qc rfl rfl ?_ ?_ <;> (intro hb; have hc := hb; try simp only [go_sem] at hc)) | refine q6 rfl ?_ | (refine j0 (sw) ?_; simp only [go_sem, *]) | ((with_reducible apply And.intro); focus omega) | (refine z8 hK ?_; clear hK; simp only [go_sem, *]) | simp only [z7, z6, go_sem, *])
   refine b7 [] [0] so rfl (by simp only [go_sem]) (by simp) ?_ ?_ (by simp [go_sem]) (by simp [go_sem]) ?_
   ·simp only [go_sem, *]
   ·simp only [go_sem, *]
   simp only [go_sem, w8, *]
   repeat' (first | (refine Qr rfl ?_; try intro _ hK; try simp only [go_sem, *]) | (refine Qi rfl rfl rfl rfl ?_ ?_ <;> (intro hb; (try intro _ hK); have hc := hb; try simp only [go_sem] at hc; simp only [go_sem, *])) | refine Qh rfl ?_ | (refine Qc rfl rfl ?_ ?_ <;> (intro hb; have hc := hb; try simp only [go_sem] at hc)) | refine q6 rfl ?_ | ((first | refine q8 (sE) ?_ | refine q8 (sS) ?_); simp only [go_sem, *]) | ((with_reducible apply And.intro); focus omega) | (refine z8 hK ?_; clear hK; simp only [go_sem, *]) | simp only [z7, z6, go_sem, *])
   all_goals first | contradiction | omega | skip
   (refine ⟨[_], [], [], ⟨rfl, trivial⟩, ?_⟩; simp only [go_sem, *])
  ·rw [e1] at so
   clear e1 hg hw
   repeat' (first | (refine Qr rfl ?_; try intro _ hK; try simp only [go_sem, *]) | (refine Qi rfl rfl rfl rfl ?_ ?_ <;> (intro hb; (try intro _ hK); have hc := hb; try simp only [go_sem] at hc; simp only [go_sem, *])) | refine Qh rfl ?_ | (refine Qc rfl rfl ?_ ?_ <;> (intro hb; have hc := hb; try simp only [go_sem] at hc)) | refine q6 rfl ?_ | (refine j0 (sw) ?_; simp only [go_sem, *]) | ((with_reducible apply And.intro); focus omega) | (refine z8 hK ?_; clear hK; simp only [go_sem, *]) | simp only [z7, z6, go_sem, *])
   refine b7 [] [0] so rfl (by simp only [go_sem]) (by simp) ?_ ?_ (by simp [go_sem]) (by simp [go_sem]) ?_
   ·simp only [go_sem, *]
   ·simp only [go_sem, *]
   simp only [go_sem, w8, *]
   repeat' (first | (refine Qr rfl ?_; try intro _ hK; try simp only [go_sem, *]) | (refine Qi rfl rfl rfl rfl ?_ ?_ <;> (intro hb; (try intro _ hK); have hc := hb; try simp only [go_sem] at hc; simp only [go_sem, *])) | refine Qh rfl ?_ | (refine Qc rfl rfl ?_ ?_ <;> (intro hb; have hc := hb; try simp only [go_sem] at hc)) | refine q6 rfl ?_ | ((with_reducible apply And.intro); focus omega) | (refine z8 hK ?_; clear hK; simp only [go_sem, *]) | simp only [z7, z6, go_sem, *])
   all_goals first | contradiction | omega | skip
   exact i4 (i' := i + 1) [] [] (by exact e2)
 ·have hii : ¬ (i : Int) < (A.length : Int) := by omega
  have hP2 := zOm hQ (by omega)
  clear hmem hAg hQ
  repeat' (first | (refine Qr rfl ?_; try intro _ hK; try simp only [go_sem, *]) | (refine Qi rfl rfl rfl rfl ?_ ?_ <;> (intro hb; (try intro _ hK); have hc := hb; try simp only [go_sem] at hc; simp only [go_sem, *])) | refine Qh rfl ?_ | (refine Qc rfl rfl ?_ ?_ <;> (intro hb; have hc := hb; try simp only [go_sem] at hc)) | refine q6 rfl ?_ | ((with_reducible apply And.intro); focus omega) | (refine z8 hK ?_; clear hK; simp only [go_sem, *]) | simp only [z7, z6, go_sem, *])
  all_goals first | contradiction | omega | skip
  exact i4 (i' := m + 1) [] [] (by exact hP2)
end Go.Abs

