/-
  WHAT THE PROOF STANDS ON, PART 3: contracts of the program's functions and the logic that they are proved in. No condition.
-/
import Derived.Maps.Keyed
import Derived.DeepKeys3
import Derived.Test.YtmhleaopjcfjnaaGreatQ2
set_option maxRecDepth 100000
set_option maxHeartbeats 4000000
set_option linter.unusedVariables false
set_option linter.unusedSimpArgs false
set_option linter.unusedSectionVars false
namespace Go.Abs
open Go Go.Proofs Tryz
attribute [local irreducible] z3 Hold q7
theorem t7 (n a b : Int) : zLJ prog 128 [iV n, iV a, iV b] [] (bV (zLL n a b)) [] := by
 refine y3 func128 rfl (fun E hE => ?_); simp only [go_sem, ntmps128]
 repeat' (first | (show z3 ..; first | (refine Qr rfl ?_; try intro _ hK; try simp only [go_sem, *]) | (refine Qi rfl rfl rfl rfl (fun hb _ hK => ?_) (fun hb => ?_) <;> (have hc := hb; try simp only [go_sem] at hc; simp only [go_sem, *]))) | (show Hold ..; first | refine Qh rfl ?_ | (refine z7 rfl ⟨_, rfl, fun hb => ?_, fun hb => ?_⟩ <;> (have hc := hb; try simp only [go_sem] at hc)) | refine z8 rfl ?_) | ((with_reducible refine And.intro ?_ ?_); focus omega) | (refine z6 hK ?_; clear hK; simp only [go_sem, *]) | (simp only [z5, z4, go_sem, *]))
 all_goals (refine ⟨[_], [], [], ⟨rfl, trivial⟩, ?_⟩; simp only [go_sem, *])
 all_goals (refine W9 ?_; simp [zLL] at *; omega)
theorem u2 (n a b : Int) : zLJ prog 114 [iV n, iV a, iV b] [] (bV (zLL n a b)) [] := by
 refine y3 func114 rfl (fun E hE => ?_); simp only [go_sem, ntmps114]
 repeat' (first | (show z3 ..; first | (refine Qr rfl ?_; try intro _ hK; try simp only [go_sem, *]) | (refine Qi rfl rfl rfl rfl (fun hb _ hK => ?_) (fun hb => ?_) <;> (have hc := hb; try simp only [go_sem] at hc; simp only [go_sem, *]))) | (show Hold ..; first | refine Qh rfl ?_ | (refine z7 rfl ⟨_, rfl, fun hb => ?_, fun hb => ?_⟩ <;> (have hc := hb; try simp only [go_sem] at hc)) | refine z8 rfl ?_) | ((with_reducible refine And.intro ?_ ?_); focus omega) | (refine z6 hK ?_; clear hK; simp only [go_sem, *]) | (simp only [z5, z4, go_sem, *]))
 all_goals (refine ⟨[_], [], [], ⟨rfl, trivial⟩, ?_⟩; simp only [go_sem, *])
 all_goals (refine W9 ?_; simp [zLL] at *; omega)
theorem zCa (x : Plate) : zLJ prog 92 [x.enc] [] (bV x.ok) [] := by
 refine y3 func92 rfl (fun E hE => ?_); simp only [go_sem, ntmps92]
 repeat' (first | (show z3 ..; first | (refine Qr rfl ?_; try intro _ hK; try simp only [go_sem, *]) | (refine Qi rfl rfl rfl rfl (fun hb _ hK => ?_) (fun hb => ?_) <;> (have hc := hb; try simp only [go_sem] at hc; simp only [go_sem, *]))) | (show Hold ..; first | refine Qh rfl ?_ | (refine z7 rfl ⟨_, rfl, fun hb => ?_, fun hb => ?_⟩ <;> (have hc := hb; try simp only [go_sem] at hc)) | refine z8 rfl ?_) | (show q7 ..; first | (refine q8 (t7 _ _ _) ?_ ?_; (focus (simp only [go_sem, *]; done)); simp only [go_sem, *])) | ((with_reducible refine And.intro ?_ ?_); focus omega) | (refine z6 hK ?_; clear hK; simp only [go_sem, *]) | (simp only [z5, z4, go_sem, *]))
 all_goals (refine ⟨[_], [], [], ⟨rfl, trivial⟩, ?_⟩; simp only [go_sem, *])
 all_goals simp_all [Plate.ok]
theorem zGz (x : Plate) : zLJ prog 59 [x.enc] [] (bV x.ok) [] := by
 refine y3 func59 rfl (fun E hE => ?_); simp only [go_sem, ntmps59]
 repeat' (first | (show z3 ..; first | (refine Qr rfl ?_; try intro _ hK; try simp only [go_sem, *]) | (refine Qi rfl rfl rfl rfl (fun hb _ hK => ?_) (fun hb => ?_) <;> (have hc := hb; try simp only [go_sem] at hc; simp only [go_sem, *]))) | (show Hold ..; first | refine Qh rfl ?_ | (refine z7 rfl ⟨_, rfl, fun hb => ?_, fun hb => ?_⟩ <;> (have hc := hb; try simp only [go_sem] at hc)) | refine z8 rfl ?_) | (show q7 ..; first | (refine q8 (u2 _ _ _) ?_ ?_; (focus (simp only [go_sem, *]; done)); simp only [go_sem, *])) | ((with_reducible refine And.intro ?_ ?_); focus omega) | (refine z6 hK ?_; clear hK; simp only [go_sem, *]) | (simp only [z5, z4, go_sem, *]))
 all_goals (refine ⟨[_], [], [], ⟨rfl, trivial⟩, ?_⟩; simp only [go_sem, *])
 all_goals simp_all [Plate.ok]
theorem zHJ (n : Int) : zLJ prog 155 [iV n] [] (bV false) [] := by
 refine y3 func155 rfl (fun E hE => ?_); simp only [go_sem, ntmps155]
 repeat' (first | (show z3 ..; first | (refine Qr rfl ?_; try intro _ hK; try simp only [go_sem, *])) | (show Hold ..; first | refine Qh rfl ?_ | (refine z7 rfl ⟨_, rfl, fun hb => ?_, fun hb => ?_⟩ <;> (have hc := hb; try simp only [go_sem] at hc)) | refine z8 rfl ?_) | ((with_reducible refine And.intro ?_ ?_); focus omega) | (refine z6 hK ?_; clear hK; simp only [go_sem, *]) | (simp only [z5, z4, go_sem, *]))
 all_goals (refine ⟨[_], [], [], ⟨rfl, trivial⟩, ?_⟩; simp only [go_sem, *])
 all_goals simp_all
theorem zCK (a b : Int) : zLJ prog 130 [iV a, iV b] [] (iV (zLn a b)) [] := by
 refine y3 func130 rfl (fun E hE => ?_); simp only [go_sem, ntmps130]
 repeat' (first | (show z3 ..; first | (refine Qr rfl ?_; try intro _ hK; try simp only [go_sem, *])) | (show Hold ..; first | refine Qh rfl ?_ | (refine z7 rfl ⟨_, rfl, fun hb => ?_, fun hb => ?_⟩ <;> (have hc := hb; try simp only [go_sem] at hc)) | refine z8 rfl ?_) | (show q7 ..; first | (refine q8 (zHJ _) ?_ ?_; (focus (simp only [go_sem, *]; done)); simp only [go_sem, *])) | ((with_reducible refine And.intro ?_ ?_); focus omega) | (refine z6 hK ?_; clear hK; simp only [go_sem, *]) | (simp only [z5, z4, go_sem, *]))
 all_goals (refine ⟨[_], [], [], ⟨rfl, trivial⟩, ?_⟩; simp only [go_sem, *])
 all_goals (refine B3 ?_; unfold zLn; repeat' split)
 all_goals omega
theorem L4 (a b : Plate) : zLJ prog 94 [a.enc, b.enc] [] (bV (a.lt b)) [] := by
 refine y3 func94 rfl (fun E hE => ?_); simp only [go_sem, ntmps94]
 repeat' (first | (show z3 ..; first | (refine Qr rfl ?_; try intro _ hK; try simp only [go_sem, *]) | (refine Qi rfl rfl rfl rfl (fun hb _ hK => ?_) (fun hb => ?_) <;> (have hc := hb; try simp only [go_sem] at hc; simp only [go_sem, *]))) | (show Hold ..; first | refine Qh rfl ?_ | (refine z7 rfl ⟨_, rfl, fun hb => ?_, fun hb => ?_⟩ <;> (have hc := hb; try simp only [go_sem] at hc)) | refine z8 rfl ?_) | ((with_reducible refine And.intro ?_ ?_); focus omega) | (refine z6 hK ?_; clear hK; simp only [go_sem, *]) | (simp only [z5, z4, go_sem, *]))
 all_goals (refine ⟨[_], [], [], ⟨rfl, trivial⟩, ?_⟩; simp only [go_sem, *])
 all_goals (refine W9 ?_; rw [Plate.lt_iff]; simp at *; omega)
theorem zCP (a b : Plate) : zLJ prog 87 [a.enc, b.enc] [] (bV (a.lt b)) [] := by
 refine y3 func87 rfl (fun E hE => ?_); simp only [go_sem, ntmps87]
 repeat' (first | (show z3 ..; first | (refine Qr rfl ?_; try intro _ hK; try simp only [go_sem, *]) | (refine Qi rfl rfl rfl rfl (fun hb _ hK => ?_) (fun hb => ?_) <;> (have hc := hb; try simp only [go_sem] at hc; simp only [go_sem, *]))) | (show Hold ..; first | refine Qh rfl ?_ | (refine z7 rfl ⟨_, rfl, fun hb => ?_, fun hb => ?_⟩ <;> (have hc := hb; try simp only [go_sem] at hc)) | refine z8 rfl ?_) | ((with_reducible refine And.intro ?_ ?_); focus omega) | (refine z6 hK ?_; clear hK; simp only [go_sem, *]) | (simp only [z5, z4, go_sem, *]))
 all_goals (refine ⟨[_], [], [], ⟨rfl, trivial⟩, ?_⟩; simp only [go_sem, *])
 all_goals (refine W9 ?_; rw [Plate.lt_iff]; simp at *; omega)
theorem zGg (a b : House) : zLJ prog 50 [a.enc, b.enc] [] (bV (a.lt b)) [] := by
 obtain ⟨a1, a2, a3⟩ := a
 obtain ⟨b1, b2, b3⟩ := b
 refine y3 func50 rfl (fun E hE => ?_); simp only [go_sem, ntmps50]
 repeat' (first | (show z3 ..; first | (refine Qr rfl ?_; try intro _ hK; try simp only [go_sem, *]) | (refine Qi rfl rfl rfl rfl (fun hb _ hK => ?_) (fun hb => ?_) <;> (have hc := hb; try simp only [go_sem] at hc; simp only [go_sem, *]))) | (show Hold ..; first | refine Qh rfl ?_ | (refine z7 rfl ⟨_, rfl, fun hb => ?_, fun hb => ?_⟩ <;> (have hc := hb; try simp only [go_sem] at hc)) | refine z8 rfl ?_) | (show q7 ..; first | (refine q8 (L4 ⟨_, _⟩ ⟨_, _⟩) ?_ ?_; (focus (simp only [go_sem, *]; done)); simp only [go_sem, *])) | ((with_reducible refine And.intro ?_ ?_); focus omega) | (refine z6 hK ?_; clear hK; simp only [go_sem, *]) | (simp only [z5, z4, go_sem, *]))
 all_goals (refine ⟨[_], [], [], ⟨rfl, trivial⟩, ?_⟩; simp only [go_sem, *])
 all_goals (refine W9 ?_; simp only [House.lt_iff, Plate.lt_iff]; simp at *; try omega)
theorem zAQ (a : Plate) : zLJ prog 195 [a.enc] [] (bV (a.number.tmod 2 != 0)) [] := by
 refine y3 func195 rfl (fun E hE => ?_); simp only [go_sem, ntmps195]
 repeat' (first | (show z3 ..; first | (refine Qr rfl ?_; try intro _ hK; try simp only [go_sem, *])) | (show Hold ..; first | refine Qh rfl ?_ | (refine z7 rfl ⟨_, rfl, fun hb => ?_, fun hb => ?_⟩ <;> (have hc := hb; try simp only [go_sem] at hc)) | refine z8 rfl ?_) | ((with_reducible refine And.intro ?_ ?_); focus omega) | (refine z6 hK ?_; clear hK; simp only [go_sem, *]) | (simp only [z5, z4, go_sem, *]))
 all_goals (refine ⟨[_], [], [], ⟨rfl, trivial⟩, ?_⟩; simp only [go_sem, *])
theorem zCS (a : Plate) : zLJ prog 196 [a.enc] [] (bV (a.number.tmod 2 == 0)) [] := by
 refine y3 func196 rfl (fun E hE => ?_); simp only [go_sem, ntmps196]
 repeat' (first | (show z3 ..; first | (refine Qr rfl ?_; try intro _ hK; try simp only [go_sem, *])) | (show Hold ..; first | refine Qh rfl ?_ | (refine z7 rfl ⟨_, rfl, fun hb => ?_, fun hb => ?_⟩ <;> (have hc := hb; try simp only [go_sem] at hc)) | refine z8 rfl ?_) | ((with_reducible refine And.intro ?_ ?_); focus omega) | (refine z6 hK ?_; clear hK; simp only [go_sem, *]) | (simp only [z5, z4, go_sem, *]))
 all_goals (refine ⟨[_], [], [], ⟨rfl, trivial⟩, ?_⟩; simp only [go_sem, *])
def orL : List Int → Int
 | [] => 0
 | x :: r => if x = 0 then orL r else x
theorem zCM (l : List Int) (hl : l.length ≤ 4294967296) : zLJ prog 129 [.list (l.map iV)] [] (iV (orL l)) [] := by
 refine y3 func129 rfl (fun E hE => ?_); simp only [go_sem, ntmps129]
 repeat' (first | (show z3 ..; first | (refine Qr rfl ?_; try intro _ hK; try simp only [go_sem, *])) | (show Hold ..; first | refine Qh rfl ?_ | (refine z7 rfl ⟨_, rfl, fun hb => ?_, fun hb => ?_⟩ <;> (have hc := hb; try simp only [go_sem] at hc)) | refine z8 rfl ?_) | ((with_reducible refine And.intro ?_ ?_); focus omega) | (refine z6 hK ?_; clear hK; simp only [go_sem, *]) | (simp only [z5, z4, go_sem, *]))
 refine y8 rfl (fun n N env As => ∃ i : Nat, n = l.length - i ∧ i ≤ l.length ∧ orL (l.drop i) = orL l ∧ N = 18 ∧ env = [(8, iV i), (7, iV l.length), (6, .list (l.map iV)), (3, iV 0)] ∧ As = []) l.length ⟨[], [], _, _, _, ?_, 0, by simp, by simp, by simp, rfl, rfl, rfl⟩ ?_
 ·(simp only [Weak, go_sem, List.map_append, List.map_set, *] <;> (try simp (disch := omega) only [q9]) <;> (try simp) <;> (try omega))
 rintro _ _ _ _ ⟨i, rfl, hi, ho, rfl, rfl, rfl⟩
 repeat' (first | (show z3 ..; first | (refine Qr rfl ?_; try intro _ hK; try simp only [go_sem, *])) | (show Hold ..; first | refine Qh rfl ?_ | (refine z7 rfl ⟨_, rfl, fun hb => ?_, fun hb => ?_⟩ <;> (have hc := hb; try simp only [go_sem] at hc)) | refine z8 rfl ?_) | ((with_reducible refine And.intro ?_ ?_); focus omega) | (refine z6 hK ?_; clear hK; simp only [go_sem, *]) | (simp only [z5, z4, go_sem, *]))
 ·(refine ⟨[_], [], [], ⟨rfl, trivial⟩, ?_⟩; simp only [go_sem, *])
  rw [← ho, v3 ‹_›, orL, if_neg ‹_›]
 ·refine ⟨_, ?_, [], [], _, _, _, ?_, i + 1, rfl, ?_, ?_, rfl, rfl, rfl⟩
  ·omega
  ·(simp only [Weak, go_sem, List.map_append, List.map_set, *] <;> (try simp (disch := omega) only [q9]) <;> (try simp) <;> (try omega))
  ·omega
  ·rw [← ho, v3 (i := i) ‹_›, orL, if_pos ‹_›]
 ·(refine ⟨[_], [], [], ⟨rfl, trivial⟩, ?_⟩; simp only [go_sem, *])
  rw [← ho, v4 (by omega), orL]
theorem zB2 (a b : Int) : orL [a, b] = orI a b := by
 simp only [orL, orI]; repeat' split
 all_goals omega
theorem W1 (a b : Plate) : zLJ prog 93 [a.enc, b.enc] [] (iV (zLV a b)) [] := by
 refine y3 func93 rfl (fun E hE => ?_); simp only [go_sem, ntmps93]
 repeat' (first | (show z3 ..; first | (refine Qr rfl ?_; try intro _ hK; try simp only [go_sem, *])) | (show Hold ..; first | refine Qh rfl ?_ | refine q6 rfl mixed (by kernel_rfl) ?_ | (refine z7 rfl ⟨_, rfl, fun hb => ?_, fun hb => ?_⟩ <;> (have hc := hb; try simp only [go_sem] at hc)) | refine z8 rfl ?_) | (refine Qb ?_ ?_; focus kernel_rfl) | (show q7 ..; first | (refine q8 (zCK _ _) ?_ ?_; (focus (simp only [go_sem, *]; done)); simp only [go_sem, *])) | ((with_reducible refine And.intro ?_ ?_); focus omega) | (refine z6 hK ?_; clear hK; simp only [go_sem, *]) | (simp only [z5, z4, go_sem, *]))
 (refine o7 [2] (zCM [zLn a.number b.number, zLn a.letter b.letter] (by simp)) (by simp only [go_sem, *]) (.raw _) ?_; simp only [go_sem, *])
 repeat' (first | (show z3 ..; first | (refine Qr rfl ?_; try intro _ hK; try simp only [go_sem, *])) | (show Hold ..; first | refine Qh rfl ?_ | refine q6 rfl mixed (by kernel_rfl) ?_ | (refine z7 rfl ⟨_, rfl, fun hb => ?_, fun hb => ?_⟩ <;> (have hc := hb; try simp only [go_sem] at hc)) | refine z8 rfl ?_) | (refine Qb ?_ ?_; focus kernel_rfl) | ((with_reducible refine And.intro ?_ ?_); focus omega) | (refine z6 hK ?_; clear hK; simp only [go_sem, *]) | (simp only [z5, z4, go_sem, *]))
 (refine ⟨[_], [], [], ⟨rfl, trivial⟩, ?_⟩; simp only [go_sem, *])
 rw [zB2, zLV]
theorem zG6 (a b : House) : zLJ prog 136 [a.enc, b.enc] [] (iV (zLi a b)) [] := by
 refine y3 func136 rfl (fun E hE => ?_); simp only [go_sem, ntmps136]
 repeat' (first | (show z3 ..; first | (refine Qr rfl ?_; try intro _ hK; try simp only [go_sem, *])) | (show Hold ..; first | refine Qh rfl ?_ | refine q6 rfl mixed (by kernel_rfl) ?_ | (refine z7 rfl ⟨_, rfl, fun hb => ?_, fun hb => ?_⟩ <;> (have hc := hb; try simp only [go_sem] at hc)) | refine z8 rfl ?_) | (refine Qb ?_ ?_; focus kernel_rfl) | (show q7 ..; first | ((first | refine q8 (zCK _ _) ?_ ?_ | refine q8 (W1 a.plate b.plate) ?_ ?_); (focus (simp only [go_sem, *]; done)); simp only [go_sem, *])) | ((with_reducible refine And.intro ?_ ?_); focus omega) | (refine z6 hK ?_; clear hK; simp only [go_sem, *]) | (simp only [z5, z4, go_sem, *]))
 (refine o7 [2] (zCM [zLn a.street b.street, zLV a.plate b.plate] (by simp)) (by simp only [go_sem, *]) (.raw _) ?_; simp only [go_sem, *])
 repeat' (first | (show z3 ..; first | (refine Qr rfl ?_; try intro _ hK; try simp only [go_sem, *])) | (show Hold ..; first | refine Qh rfl ?_ | refine q6 rfl mixed (by kernel_rfl) ?_ | (refine z7 rfl ⟨_, rfl, fun hb => ?_, fun hb => ?_⟩ <;> (have hc := hb; try simp only [go_sem] at hc)) | refine z8 rfl ?_) | (refine Qb ?_ ?_; focus kernel_rfl) | ((with_reducible refine And.intro ?_ ?_); focus omega) | (refine z6 hK ?_; clear hK; simp only [go_sem, *]) | (simp only [z5, z4, go_sem, *]))
 (refine ⟨[_], [], [], ⟨rfl, trivial⟩, ?_⟩; simp only [go_sem, *])
 rw [zB2, zLi]
theorem zBs (n m : Int) (h : 0 < m) : n % m = if n.tmod m < 0 then n.tmod m + m else n.tmod m := by
 have h1 := Int.tmod_add_mul_tdiv n m
 have h2 := Int.tmod_lt_of_pos n h
 have h3 := Int.lt_tmod_of_pos n h
 have e : n % m = n.tmod m % m := by
  conv => lhs; rw [← h1]
  rw [Int.add_mul_emod_self_left]
 rw [e]
 split
 ·rw [← Int.emod_eq_of_lt (a := n.tmod m + m) (b := m) (by omega) (by omega), Int.add_emod_right]
 ·exact Int.emod_eq_of_lt (by omega) h2
theorem zCL (n m : Int) (h : 0 < m) (hm : m ≤ 4294967296) : zLJ prog 65 [iV n, iV m] [] (iV (n % m)) [] := by
 have h2 := Int.tmod_lt_of_pos n h
 have h3 := Int.lt_tmod_of_pos n h
 refine y3 func65 rfl (fun E hE => ?_); simp only [go_sem, ntmps65]
 repeat' (first | (show z3 ..; first | (refine Qr rfl ?_; try intro _ hK; try simp only [go_sem, *])) | (show Hold ..; first | refine Qh rfl ?_ | (refine z7 rfl ⟨_, rfl, fun hb => ?_, fun hb => ?_⟩ <;> (have hc := hb; try simp only [go_sem] at hc)) | refine z8 rfl ?_) | ((with_reducible refine And.intro ?_ ?_); focus omega) | (refine z6 hK ?_; clear hK; simp only [go_sem, *]) | (simp only [z5, z4, go_sem, *]))
 ·(refine ⟨[_], [], [], ⟨rfl, trivial⟩, ?_⟩; simp only [go_sem, *])
  rw [zBs n m h, if_pos (by assumption), wrap_i64 (by omega) (by omega)]
 ·(refine ⟨[_], [], [], ⟨rfl, trivial⟩, ?_⟩; simp only [go_sem, *])
  rw [zBs n m h, if_neg (by omega)]
theorem zAx {l : List Plate} {k : Nat} (h : k < l.length) (o : Option Plate) (ho : o = if k = 0 then none else some (l.getD (k - 1) default)) :
  u7 o (l.drop k) = if (l.getD k default).ok = true then (if k = 0 ∨ (l.getD (k - 1) default).lt (l.getD k default) = true then u7 (some (l.getD k default)) (l.drop (k + 1)) else 5) else 1 := by
 rw [v3 h]
 subst ho
 by_cases hk : k = 0
 ·simp [hk, u7]
 ·simp [hk, u7]
def Z5 (l : List Plate) (k : Nat) : Option Plate := if k = 0 then none else some (l.getD (k - 1) default)
theorem H4 (l : List Plate) (k : Nat) : Z5 l (k + 1) = some (l.getD k default) := by simp [Z5]
theorem G1 {p : zLI} {i : Nat} (h : i < p.length) : r7 (p.drop i) = if 8 < (p.getD i default).length then 6 else if u7 none (p.getD i default) = 0 then r7 (p.drop (i + 1)) else u7 none (p.getD i default) := by
 rw [v3 h, r7]
theorem e8 (p : zLI) (h1 : p.length ≤ 4294967296) : zLJ prog 27 [y5 p] [] (iV (check p)) [] := by
  have e0 : p.length = 0 → check p = 7 := fun h => by unfold check; rw [if_pos h]
  have e1 : ¬ p.length = 0 → 3 < p.length → check p = 6 := fun h h' => by unfold check; rw [if_neg h, if_pos h']
  have e2 : ¬ p.length = 0 → ¬ 3 < p.length → check p = r7 p := fun h h' => by unfold check; rw [if_neg h, if_neg h']
  refine y3 func27 rfl (fun E hE => ?_); simp only [go_sem, ntmps27]
  repeat' (first | (show z3 ..; first | (refine Qr rfl ?_; try intro _ hK; try simp only [go_sem, *]) | (refine Qi rfl rfl rfl rfl (fun hb _ hK => ?_) (fun hb => ?_) <;> (have hc := hb; try simp only [go_sem] at hc; simp only [go_sem, *]))) | (show Hold ..; first | refine Qh rfl ?_ | refine q6 rfl mixed (by kernel_rfl) ?_ | (refine z7 rfl ⟨_, rfl, fun hb => ?_, fun hb => ?_⟩ <;> (have hc := hb; try simp only [go_sem] at hc)) | refine z8 rfl ?_) | (refine Qb ?_ ?_; focus kernel_rfl) | ((with_reducible refine And.intro ?_ ?_); focus omega) | (refine z6 hK ?_; clear hK; simp only [go_sem, *]) | (simp only [z5, z4, go_sem, *]))
  · (refine ⟨[_], [], [], ⟨rfl, trivial⟩, ?_⟩; simp only [go_sem, *])
    rw [e0 (by omega)]
  · (refine ⟨[_], [], [], ⟨rfl, trivial⟩, ?_⟩; simp only [go_sem, *])
    rw [e1 (by omega) (by omega)]
  · have e3 := e2 (by omega) (by omega)
    clear e0 e1 e2
    refine y8 rfl (fun zn zN zenv zAs => ∃ (i : Nat), zn = (p.length) - i ∧ i ≤ (p.length) ∧ (r7 (p.drop i) = r7 p) ∧ zN = 49 ∧ zenv = [(18, iV i), (17, iV p.length), (16, .list (p.map y6))] ∧ zAs = []) (p.length) ⟨[], [], _, _, _, (by (simp only [Weak, go_sem, List.map_append, List.map_set, *] <;> (try simp (disch := omega) only [q9]) <;> (try simp) <;> (try omega))), 0, (by simp), (by simp), (by simp), rfl, rfl, rfl⟩ ?_; rintro _ _ _ _ ⟨i, rfl, hi, hP, rfl, rfl, rfl⟩
    repeat' (first | (show z3 ..; first | (refine Qr rfl ?_; try intro _ hK; try simp only [go_sem, *]) | (refine Qi rfl rfl rfl rfl (fun hb _ hK => ?_) (fun hb => ?_) <;> (have hc := hb; try simp only [go_sem] at hc; simp only [go_sem, *]))) | (show Hold ..; first | refine Qh rfl ?_ | refine q6 rfl mixed (by kernel_rfl) ?_ | (refine z7 rfl ⟨_, rfl, fun hb => ?_, fun hb => ?_⟩ <;> (have hc := hb; try simp only [go_sem] at hc)) | refine z8 rfl ?_) | (refine Qb ?_ ?_; focus kernel_rfl) | ((with_reducible refine And.intro ?_ ?_); focus omega) | (refine z6 hK ?_; clear hK; simp only [go_sem, *]) | (simp only [z5, z4, go_sem, *]))
    · (refine ⟨[_], [], [], ⟨rfl, trivial⟩, ?_⟩; simp only [go_sem, *])
      rw [← hP, G1 (by omega), if_pos (by omega)]
    · have hl : (p.getD i default).length ≤ 8 := by omega
      have hi' : i < p.length := by omega
      rw [G1 hi', if_neg (by omega)] at hP
      generalize hll : p.getD i default = l at *
      refine y8 rfl (fun zn zN zenv zAs => ∃ (k : Nat), zn = (l.length) - k ∧ k ≤ (l.length) ∧ (u7 (Z5 l k) (l.drop k) = u7 none l) ∧ zN = 49 ∧ zenv = [(27, iV k), (26, iV l.length), (25, y6 l), (4, y6 l), (18, iV i), (17, iV p.length), (16, .list (p.map y6))] ∧ zAs = []) (l.length) ⟨[], [], _, _, _, (by (simp only [Weak, go_sem, List.map_append, List.map_set, *] <;> (try simp (disch := omega) only [q9]) <;> (try simp) <;> (try omega))), 0, (by simp), (by simp), (by simp [Z5]), rfl, rfl, rfl⟩ ?_; rintro _ _ _ _ ⟨k, rfl, hk, hK, rfl, rfl, rfl⟩
      have hw : 0 < k → IntKind.i64.wrap ((k : Int) - 1) = ((k - 1 : Nat) : Int) := fun h => by rw [wrap_i64 (by omega) (by omega)]; omega
      have hk1 : k < l.length → k - 1 < l.length := fun h => by omega
      have hstep : ∀ h : k < l.length, _ := fun h => zAx h (Z5 l k) rfl
      repeat' (first | (show z3 ..; first | (refine Qr rfl ?_; try intro _ hK; try simp only [go_sem, *]) | (refine Qi rfl rfl rfl rfl (fun hb _ hK => ?_) (fun hb => ?_) <;> (have hc := hb; try simp only [go_sem] at hc; simp only [go_sem, *]))) | (show Hold ..; first | refine Qh rfl ?_ | refine q6 rfl mixed (by kernel_rfl) ?_ | (refine z7 rfl ⟨_, rfl, fun hb => ?_, fun hb => ?_⟩ <;> (have hc := hb; try simp only [go_sem] at hc)) | refine z8 rfl ?_) | (refine Qb ?_ ?_; focus kernel_rfl) | (show q7 ..; first | ((first | refine q8 (zCa _) ?_ ?_ | refine q8 (W1 _ _) ?_ ?_); (focus (simp only [go_sem, *]; done)); simp only [go_sem, *])) | ((with_reducible refine And.intro ?_ ?_); focus omega) | (refine z6 hK ?_; clear hK; simp only [go_sem, *]) | (simp only [z5, z4, go_sem, *]))
      · (refine ⟨[_], [], [], ⟨rfl, trivial⟩, ?_⟩; simp only [go_sem, *])
        rw [hstep (by omega), if_neg (by simp_all)] at hK
        rw [← hK, if_neg (by omega)] at hP
        rw [← hP]
      · (refine ⟨[_], [], [], ⟨rfl, trivial⟩, ?_⟩; simp only [go_sem, *])
        have hlt : ¬ (l.getD (k - 1) default).lt (l.getD k default) = true := by rw [← N1]; omega
        rw [hstep (by omega), if_pos (by assumption), if_neg (by intro h; rcases h with h | h; · omega
                                                                 · exact hlt h)] at hK
        rw [← hK, if_neg (by omega)] at hP
        rw [← hP]
      · have hlt : (l.getD (k - 1) default).lt (l.getD k default) = true := by rw [← N1]; omega
        refine ⟨_, (by omega), [], [], _, _, _, (by (simp only [Weak, go_sem, List.map_append, List.map_set, *] <;> (try simp (disch := omega) only [q9]) <;> (try simp) <;> (try omega))), k + 1, rfl, (by omega), (by rw [← hK, hstep (by omega), if_pos (by assumption), if_pos (.inr hlt), H4]), rfl, rfl, rfl⟩
      · refine ⟨_, (by omega), [], [], _, _, _, (by (simp only [Weak, go_sem, List.map_append, List.map_set, *] <;> (try simp (disch := omega) only [q9]) <;> (try simp) <;> (try omega))), k + 1, rfl, (by omega), (by rw [← hK, hstep (by omega), if_pos (by assumption), if_pos (.inl (by omega)), H4]), rfl, rfl, rfl⟩
      · rw [v4 (by omega)] at hK
        have h0 : u7 none l = 0 := by rw [← hK]; cases Z5 l k <;> rfl
        rw [if_pos h0] at hP
        refine ⟨_, (by omega), [], [], _, _, _, (by (simp only [Weak, go_sem, List.map_append, List.map_set, *] <;> (try simp (disch := omega) only [q9]) <;> (try simp) <;> (try omega))), i + 1, rfl, (by omega), (by exact hP), rfl, rfl, rfl⟩
    · (refine ⟨[_], [], [], ⟨rfl, trivial⟩, ?_⟩; simp only [go_sem, *])
      rw [← hP, v4 (by omega), r7]
end Go.Abs

namespace Go.Abs
open Go Go.Proofs Tryz
theorem B6 : Maps.Keyed prog 57 := Maps.Keyed.of_law (deep_law (m := 4) (by omega) (by kernel_rfl) (by kernel_rfl) (by kernel_rfl))
structure House.Wf (h : House) : Prop where
 s : (Lit.int .i64 h.street).wf = true
 n : (Lit.int .i64 h.plate.number).wf = true
 l : (Lit.int .i64 h.plate.letter).wf = true
@[reducible] def House.key (h : House) : Value := .agg #[.int .i64 h.street, .int .i64 h.plate.number, .int .i64 h.plate.letter]
theorem B9 (d : Nat) (n : Int) (h : (Lit.int .i64 n).wf = true) : prog.keyLits (d + 1) 3 [.int .i64 n] = some [.int .i64 n] := by
 have hu : prog.underlying 3 = some (.int .i64) := by kernel_rfl
 unfold Program.keyLits
 rw [hu]; simp [h]
theorem zFY (d : Nat) (n m : Int) (h : (Lit.int .i64 n).wf = true) (h' : (Lit.int .i64 m).wf = true) : prog.keyLits (d + 2) 26 [.int .i64 n, .int .i64 m] = some [.int .i64 n, .int .i64 m] := by
 have hu : prog.underlying 26 = some (.struct (prog.fieldsOf 26)) := by kernel_rfl
 have hl : (prog.fieldsOf 26).toList = [(prog.fieldsOf 26).toList.getD 0 default, (prog.fieldsOf 26).toList.getD 1 default] := by kernel_rfl
 have t0 : ((prog.fieldsOf 26).toList.getD 0 default).type = 3 := by kernel_rfl
 have t1 : ((prog.fieldsOf 26).toList.getD 1 default).type = 3 := by kernel_rfl
 have o0 : ((prog.fieldsOf 26).toList.getD 0 default).offset = 0 := by kernel_rfl
 have o1 : ((prog.fieldsOf 26).toList.getD 1 default).offset = 1 := by kernel_rfl
 have c3 : prog.cellsOf 3 = 1 := by kernel_rfl
 have c26 : prog.cellsOf 26 = 2 := by kernel_rfl
 have hn : (prog.fieldsOf 26).all (·.name != "_") = true := by kernel_rfl
 unfold Program.keyLits
 rw [hu]
 simp only [hn, c26, List.length_cons, List.length_nil, and_self, if_true]
 rw [hl]
 generalize (prog.fieldsOf 26).toList.getD 0 default = f0 at *
 generalize (prog.fieldsOf 26).toList.getD 1 default = f1 at *
 simp [List.mapM_cons, t0, t1, o0, o1, c3, B9 d _ h, B9 d _ h']
theorem zFZ (d : Nat) (a n m : Int) (h0 : (Lit.int .i64 a).wf = true) (h : (Lit.int .i64 n).wf = true) (h' : (Lit.int .i64 m).wf = true) : prog.keyLits (d + 3) 57 [.int .i64 a, .int .i64 n, .int .i64 m] = some [.int .i64 a, .int .i64 n, .int .i64 m] := by
 have hu : prog.underlying 57 = some (.struct (prog.fieldsOf 57)) := by kernel_rfl
 have hl : (prog.fieldsOf 57).toList = [(prog.fieldsOf 57).toList.getD 0 default, (prog.fieldsOf 57).toList.getD 1 default] := by kernel_rfl
 have t0 : ((prog.fieldsOf 57).toList.getD 0 default).type = 3 := by kernel_rfl
 have t1 : ((prog.fieldsOf 57).toList.getD 1 default).type = 26 := by kernel_rfl
 have o0 : ((prog.fieldsOf 57).toList.getD 0 default).offset = 0 := by kernel_rfl
 have o1 : ((prog.fieldsOf 57).toList.getD 1 default).offset = 1 := by kernel_rfl
 have c3 : prog.cellsOf 3 = 1 := by kernel_rfl
 have c26 : prog.cellsOf 26 = 2 := by kernel_rfl
 have c57 : prog.cellsOf 57 = 3 := by kernel_rfl
 have hn : (prog.fieldsOf 57).all (·.name != "_") = true := by kernel_rfl
 unfold Program.keyLits
 rw [hu]
 simp only [hn, c57, List.length_cons, List.length_nil, and_self, if_true]
 rw [hl]
 generalize (prog.fieldsOf 57).toList.getD 0 default = f0 at *
 generalize (prog.fieldsOf 57).toList.getD 1 default = f1 at *
 simp [List.mapM_cons, t0, t1, o0, o1, c3, c26, B9 (d + 1) _ h0, zFY d _ _ h h']
theorem R0 (h : House) (hw : h.Wf) : zLo prog 57 h.key := by
 have hu : prog.underlying 57 = some (.struct (prog.fieldsOf 57)) := by kernel_rfl
 have hk : prog.keyType 57 = true := by kernel_rfl
 have hs : ∃ d, prog.types.size + 1 = d + 3 := ⟨prog.types.size - 2, by kernel_rfl⟩
 have hf : h.key.formed prog 57 = true := by
  have : prog.cellsOf 57 = 3 := by kernel_rfl
  simp [House.key, Value.formed, hu, this]
 obtain ⟨d, hd⟩ := hs
 unfold zLo keyOf
 rw [hu]
 simp only [hk, hf, Bool.and_self, if_true, hd]
 rw [show h.key.cells.toList = [.int .i64 h.street, .int .i64 h.plate.number, .int .i64 h.plate.letter] from rfl, zFZ d _ _ _ hw.s hw.n hw.l]
 exact ⟨_, rfl⟩
end Go.Abs

namespace Go.Abs
open Go Go.Proofs Tryz
theorem House.key_inj {a b : House} : a.key = b.key ↔ a = b := by
 rw [House.eq_iff]
 simp [House.key]
theorem V5 (h : House) : ∀ hs : List House, zLc h.key (hs.map House.key) = if h ∈ hs then some (hs.idxOf h) else none
 | [] => by simp [zLc]
 | x :: r => by
  have ih := V5 h r
  rw [List.map_cons]
  unfold zLc
  by_cases e : x = h
  ·subst e; simp
  ·have e' : ¬ x.key = h.key := fun k => e (House.key_inj.1 k)
   rw [if_neg e', ih]
   by_cases hm : h ∈ r
   ·rw [if_pos hm, if_pos (by simp [hm])]
    have hb : (x == h) = false := by simpa using e
    simp [List.idxOf_cons, hb]
   ·rw [if_neg hm, if_neg (by simp only [List.mem_cons, not_or]; exact ⟨fun k => e k.symm, hm⟩)]; rfl
theorem zJl (hs : List House) (h : House) : zLu (hs.map House.key) h.key = decide (h ∈ hs) := by
 unfold zLu; rw [V5]; by_cases hm : h ∈ hs <;> simp [hm]
theorem zFa {hs : List House} {h : House} (F : House → AV) (z : AV) : f5 (hs.map House.key) (hs.map F) h.key z = if h ∈ hs then F h else z := by
 unfold f5; rw [V5]
 by_cases hm : h ∈ hs
 ·rw [if_pos hm, if_pos hm]
  have hlt := List.idxOf_lt_length_of_mem hm
  simp [hlt, List.getElem_idxOf]
 ·rw [if_neg hm, if_neg hm]
theorem zGF {hs : List House} {h : House} (hm : h ∈ hs) : zLw (hs.map House.key) h.key = hs.map House.key := by
 unfold zLw; rw [V5, if_pos hm]
theorem zGE {hs : List House} {h : House} (hm : h ∉ hs) : zLw (hs.map House.key) h.key = (hs ++ [h]).map House.key := by
 unfold zLw; rw [V5, if_neg hm]; simp
theorem zGG {hs : List House} {h : House} (xs : List AV) (v : AV) (hm : h ∉ hs) : zLx (hs.map House.key) xs h.key v = xs ++ [v] := by
 unfold zLx; rw [V5, if_neg hm]
theorem zGH {hs : List House} {h : House} (hn : hs.Nodup) (F : House → AV) (v : AV) (hm : h ∈ hs) : zLx (hs.map House.key) (hs.map F) h.key v = hs.map (fun k => if k = h then v else F k) := by
 unfold zLx; rw [V5, if_pos hm]
 apply List.ext_getElem (by simp)
 intro i h1 h2
 simp only [List.getElem_set, List.getElem_map]
 simp at h2
 have hlt := List.idxOf_lt_length_of_mem hm
 have hg : hs[hs.idxOf h] = h := by simp [List.getElem_idxOf]
 by_cases e : hs.idxOf h = i
 ·subst e; simp [hg]
 ·rw [if_neg e, if_neg]
  intro e2
  apply e
  have : hs[hs.idxOf h] = hs[i] := by rw [hg, e2]
  exact (Q6 hn).1 this
theorem A5 : ∃ et, zLf prog 121 = some (57, et) ∧ zeroT prog et = some (.slice none 0 0) := by
 have h : ((zLf prog 121).map (·.1)) = some 57 := by kernel_rfl
 have h2 : ((zLf prog 121).bind fun x => zeroT prog x.2) = some (.slice none 0 0) := by kernel_rfl
 cases hm : zLf prog 121 with
 | none => rw [hm] at h; cases h
 | some x => rw [hm] at h h2; obtain ⟨k, e⟩ := x; simp at h; subst h; exact ⟨e, rfl, by simpa using h2⟩
theorem B5 (h : House) : zL2 h.enc = some h.key := by simp [House.enc, zL2, k8, House.key]
theorem zCt {h : House} {hs : List House} {F : House → AV} {x : AV} {o : Nat} {H : Nat → AObj} {K : Cont} (ho : H o = .mapo (hs.map House.key) (hs.map F)) (hw : ∀ k, k ∈ hs → k.Wf) (hn : hs.Nodup) (hm : h ∈ hs)
  (hp : Pure (zLK H 3 x).1) (hc : (zLK H 3 x).2.contains o = false)
  (hk : K (.tup []) (o :: (zLK H 3 x).2) (w9 (zLK H 3 x).2 ++ [(o, .mapo (hs.map House.key) (hs.map fun k => if k = h then (zLK H 3 x).1 else F k))])) : l8 prog 121 (.mp o) h.enc x H K := by
 obtain ⟨et, h1, _⟩ := A5
 unfold l8
 rw [h1, B5]
 simp only [ho]
 refine ⟨B6, R0 h (hw h hm), fun q hq => ?_, hp, hc, ?_⟩
 ·obtain ⟨k, hk, rfl⟩ := List.mem_map.1 hq; exact R0 k (hw k hk)
 ·rw [zGF hm, zGH hn F _ hm]; exact hk
theorem zBz {h : House} {hs : List House} {xs : List AV} {x : AV} {o : Nat} {H : Nat → AObj} {K : Cont} (ho : H o = .mapo (hs.map House.key) xs) (hw : ∀ k, k ∈ hs → k.Wf) (hh : h.Wf) (hm : h ∉ hs)
  (hp : Pure (zLK H 3 x).1) (hc : (zLK H 3 x).2.contains o = false)
  (hk : K (.tup []) (o :: (zLK H 3 x).2) (w9 (zLK H 3 x).2 ++ [(o, .mapo ((hs ++ [h]).map House.key) (xs ++ [(zLK H 3 x).1]))])) : l8 prog 121 (.mp o) h.enc x H K := by
 obtain ⟨et, h1, _⟩ := A5
 unfold l8
 rw [h1, B5]
 simp only [ho]
 refine ⟨B6, R0 h hh, fun q hq => ?_, hp, hc, ?_⟩
 ·obtain ⟨k, hk, rfl⟩ := List.mem_map.1 hq; exact R0 k (hw k hk)
 ·rw [zGE hm, zGG xs _ hm]; exact hk
theorem zEb {H : Nat → AObj} {q n : Nat} {hl : List House} {rows : List AV} (h : H q = .row 3 rows) (hr : rows = hl.map House.enc) (hn : n = hl.length) : zLK H 3 (.own q 3 0 n) = (.list (hl.map House.enc), [q]) := by
 subst hr; subst hn
 simp [zLK, h, List.take_of_length_le]
theorem X5 {h : House} {hs : List House} {F : House → AV} {H : Nat → AObj} {K : Cont} (hw : ∀ k, k ∈ hs → k.Wf) (hh : h.Wf)
  (hk : K (if h ∈ hs then F h else .list []) [] []) : Q3 prog 121 (.fmap (hs.map House.key) (hs.map F)) h.enc false H K := by
 obtain ⟨et, h1, h2⟩ := A5
 unfold Q3
 rw [h1, B5]
 simp only [h2]
 refine ⟨B6, R0 h hh, by simp [Value.cells, Value.oneCell'], fun q hq => ?_, ?_⟩
 ·obtain ⟨k, hk, rfl⟩ := List.mem_map.1 hq; exact R0 k (hw k hk)
 ·rw [zFa]; simpa [zAV] using hk
def zLN (g : House → List House) (h : House) : AV := .list ((g h).map House.enc)
@[reducible] def w5 (p : zLI) : List Value := (y4 p).map House.key
@[reducible] def w4 (p : zLI) (g : House → List House) : List AV := (y4 p).map (zLN g)
theorem zFi {p : zLI} {g g' : House → List House} (h : ∀ k, k ∈ y4 p → g k = g' k) : w4 p g = w4 p g' := List.map_congr_left (fun k hk => by simp [zLN, h k hk])
def Upd (p : zLI) (c : Change) (g : House → List House) (done : List Plate) : Prop := ∀ h, h ∈ y4 p → g h = if h.street = c.street ∧ h.plate ∈ done then mv p c h else [h]
theorem Upd.nil (p : zLI) (c : Change) : Upd p c (fun h => [h]) [] := fun h _ => by simp
theorem Upd.step {p : zLI} {c : Change} {g : House → List House} {done : List Plate} (h : Upd p c g done) (x : Plate) : Upd p c (fun k => if k = ⟨c.street, x⟩ then mv p c ⟨c.street, x⟩ else g k) (done ++ [x]) := fun k hk => by
 simp only
 by_cases e : k = ⟨c.street, x⟩
 ·subst e; simp
 ·rw [if_neg e, h k hk]
  have : (k.street = c.street ∧ k.plate ∈ done ++ [x]) ↔ (k.street = c.street ∧ k.plate ∈ done) := by
   constructor
   ·rintro ⟨h1, h2⟩
    rcases List.mem_append.1 h2 with h2 | h2
    ·exact ⟨h1, h2⟩
    ·simp at h2; exact absurd (by cases k; simp_all) e
   ·rintro ⟨h1, h2⟩; exact ⟨h1, by simp [h2]⟩
  simp only [this]
theorem Upd.fin {p : zLI} {c : Change} {g : House → List House} {done : List Plate} (h : Upd p c g done) (hd : ∀ x, x ∈ z9 p c.street → x ∉ done → toP p c x = [⟨c.street, x⟩]) : w4 p g = w4 p (mv p c) := zFi fun k hk => by
 rw [h k hk]
 by_cases e : k.street = c.street
 ·by_cases hm : k.plate ∈ done
  ·rw [if_pos ⟨e, hm⟩]
  ·rw [if_neg (fun x => hm x.2)]
   have hr := (mem_houses.1 hk).2.2
   rw [e] at hr
   rw [mv, if_pos e, hd _ hr hm]; cases k; simp_all
 ·rw [if_neg (fun x => e x.1), mv, if_neg e]
theorem F4 {n : Int} (h0 : -9223372036854775808 ≤ n) (h1 : n ≤ 9223372036854775807) : (Lit.int .i64 n).wf = true := by
 simp [Lit.wf, IntKind.min, IntKind.max, IntKind.signed, IntKind.bits]; omega
theorem Valid.wf {p : zLI} (v : Valid p) : ∀ h, h ∈ y4 p → h.Wf := fun h hh => by
 obtain ⟨h0, h1, h2⟩ := mem_houses.1 hh
 have := (u0 _).1 ((v.row h.street).ok _ h2)
 have := v.len
 exact ⟨F4 (by omega) (by omega), F4 (by omega) (by omega), F4 (by omega) (by omega)⟩
theorem Valid.nodup {p : zLI} (v : Valid p) : (y4 p).Nodup := (zCj v).nodup
theorem Valid.count {p : zLI} (v : Valid p) : (y4 p).length ≤ 24 := by
 have key : ∀ n, n ≤ p.length → ((List.range n).flatMap fun s => (p.getD s default).map fun x => (⟨(s : Nat), x⟩ : House)).length ≤ n * 8 := by
  intro n
  induction n with
  | zero => intro _; simp
  | succ n ih =>
   intro hn
   have := (v.rows _ (w6 (l := p) (i := n) (by omega))).len
   have := ih (by omega)
   rw [List.range_succ, List.flatMap_append]
   simp only [List.length_append, List.flatMap_cons, List.flatMap_nil, List.append_nil, List.length_map]
   omega
 rw [I3]
 have := key p.length (Nat.le_refl _)
 have := v.len
 omega
end Go.Abs

namespace Go.Abs
open Go Go.Proofs Tryz
@[go_sem] theorem zKu (p : zLI) (s : Int) : List.getD p s.toNat default = z9 p s := rfl
theorem v5 {P : Program} {f : FuncId} {avs : List AV} {H : Nat → AObj} {nx : Nat} {K : Cont} {r : AV} {out : List AObj} (sp : zLJ P f avs [] r out) (h : XpL H [] [] avs avs) (hu : ∀ j, j < out.length → H (nx + j) = .unb) (h7 : ∀ A, A ∈ out → A ≠ .unb)
  (hk : K (r.ren (v7 [] nx)) (f7 [] nx out) (s8 [] nx out)) : q7 P f avs H nx K :=
 x8 [] [] sp (by simp) h trivial (by simp) (.inl rfl) (fun j hj => hu j (by simpa using hj)) h7 (by simpa using hk)
attribute [go_sem] Nat.mul_one List.length_set
@[go_sem] theorem zKC (n : Nat) : ((n : Int) < 2) = (n < 2) := by simp; omega
@[go_sem] theorem zJw : ((0 : Nat) : Int) = 0 := rfl
@[go_sem] theorem zJx : ((1 : Nat) : Int) = 1 := rfl
@[go_sem] theorem zJy : ((2 : Nat) : Int) = 2 := rfl
@[go_sem] theorem zJz : ((3 : Nat) : Int) = 3 := rfl
@[go_sem] theorem zJ0 : ((4 : Nat) : Int) = 4 := rfl
@[go_sem] theorem zJ1 : ((5 : Nat) : Int) = 5 := rfl
@[go_sem] theorem zJ2 : ((6 : Nat) : Int) = 6 := rfl
@[go_sem] theorem zJ3 : ((7 : Nat) : Int) = 7 := rfl
@[go_sem] theorem zJ4 : ((8 : Nat) : Int) = 8 := rfl
@[go_sem] theorem zLC {α β : Type} (f : α → β) (l : List α) : (l.map f).take l.length = l.map f := List.take_of_length_le (by simp)
theorem zAi {H : Nat → AObj} {m : List (Option Nat)} {ex : List Nat} {α : Type} {f : α → AV} (hf : ∀ x, XpF H m ex (f x) (f x)) : ∀ l : List α, XpL H m ex (l.map f) (l.map f)
 | [] => by simp [zAj]
 | x :: r => by simp only [List.map_cons, F8]; exact ⟨hf x, zAi hf r⟩
@[go_sem] theorem zIi (H : Nat → AObj) (m : List (Option Nat)) (ex : List Nat) (l : List (List Plate)) : XpL H m ex (l.map y6) (l.map y6) ↔ True := ⟨fun _ => trivial, fun _ => zAi (fun x => by simp only [XpF]) l⟩
@[go_sem] theorem zJS (H : Nat → AObj) (n : Nat) (f : Fn) (a b : Array Value) : zLK H (n + 1) (.raw (.func f a b)) = (.raw (.func f a b), []) := rfl
def NoP (_ : Nat) : Prop := True
def zLd (p : zLI) (c : Change) (g : House → List House) (x : Plate) : House → List House := fun k => if k = ⟨c.street, x⟩ then mv p c ⟨c.street, x⟩ else g k
theorem Upd.one {p : zLI} {c : Change} {g : House → List House} {done : List Plate} (h : Upd p c g done) (x : Plate) : Upd p c (zLd p c g x) (done ++ [x]) := h.step x
theorem zBx (p : zLI) (c : Change) (x : Plate) : mv p c ⟨c.street, x⟩ = toP p c x := by simp [mv]
theorem zBT {p : zLI} {c : Change} (hs0 : 0 ≤ c.street) (hs1 : c.street < p.length) {x : Plate} (hx : x ∈ z9 p c.street) : (⟨c.street, x⟩ : House) ∈ y4 p := mem_houses.2 ⟨hs0, hs1, hx⟩
theorem T1 {p : zLI} {c : Change} {g : House → List House} {x : Plate} {o q n : Nat} {H : Nat → AObj} {K : Cont} (hl : List House) (v : Valid p) (hs0 : 0 ≤ c.street) (hs1 : c.street < p.length) (hx : x ∈ z9 p c.street)
  (ho : H o = .mapo (w5 p) (w4 p g)) (hq : H q = .row 3 (hl.map House.enc)) (hn : n = hl.length) (hoq : (q == o) = false) (e : toP p c x = hl)
  (hk : K (.tup []) [o, q] [(q, .dead), (o, .mapo (w5 p) (w4 p (zLd p c g x)))]) : l8 prog 121 (.mp o) (.agg [iV c.street, iV x.number, iV x.letter]) (.own q 3 0 n) H K := by
 have hf := zEb hq rfl hn
 refine zCt (h := ⟨c.street, x⟩) (hs := y4 p) (F := zLN g) ho v.wf v.nodup (zBT hs0 hs1 hx) (by rw [hf]; exact .list _) (by rw [hf]; simpa using fun e => by simp [e] at hoq) ?_
 rw [hf]
 have : (y4 p).map (fun k => if k = ⟨c.street, x⟩ then AV.list (hl.map House.enc) else zLN g k) = w4 p (zLd p c g x) := by
  refine List.map_congr_left (fun k _ => ?_)
  unfold zLN zLd
  rw [zBx, e]
  split <;> rfl
 rw [this]
 exact hk
theorem zH4 {p : zLI} {c : Change} {g : House → List House} {x : Plate} {o : Nat} {H : Nat → AObj} {K : Cont} (v : Valid p) (hs0 : 0 ≤ c.street) (hs1 : c.street < p.length) (hx : x ∈ z9 p c.street)
  (ho : H o = .mapo (w5 p) (w4 p g)) (e : toP p c x = [])
  (hk : K (.tup []) [o] [(o, .mapo (w5 p) (w4 p (zLd p c g x)))]) : l8 prog 121 (.mp o) (.agg [iV c.street, iV x.number, iV x.letter]) zLb H K := by
 have hf : zLK H 3 zLb = (.list [], []) := rfl
 refine zCt (h := ⟨c.street, x⟩) (hs := y4 p) (F := zLN g) ho v.wf v.nodup (zBT hs0 hs1 hx) (by rw [hf]; exact .list _) (by rw [hf]; rfl) ?_
 rw [hf]
 have : (y4 p).map (fun k => if k = ⟨c.street, x⟩ then AV.list [] else zLN g k) = w4 p (zLd p c g x) := by
  refine List.map_congr_left (fun k _ => ?_)
  unfold zLN zLd
  rw [zBx, e]
  split <;> rfl
 rw [this]
 exact hk
@[reducible] def zLq (c : Change) : AObj := .box [iV c.kind, iV c.street, iV c.other, iV c.src.number, iV c.src.letter, iV c.dst.number, iV c.dst.letter]
@[reducible] def zLW (p : zLI) : AObj := .box [.list (p.map y6)]
attribute [go_sem] zLq zLW w5 w4
structure Pre (p : zLI) (c : Change) : Prop where
 kind : 1 ≤ c.kind ∧ c.kind ≤ 7
 street : 0 ≤ c.street ∧ c.street < p.length
 other : c.kind = 4 ∨ c.kind = 7 → 0 ≤ c.other ∧ c.other < p.length ∧ c.other ≠ c.street
theorem Pre.fit {p : zLI} {c : Change} (h : Pre p c) (hf : y9 p c = 0) : Fit p c := ⟨h.kind, h.street, h.other, hf⟩
def zLQ (p : zLI) (c : Change) : AObj := if y9 p c = 0 then .mapo (w5 p) (w4 p (mv p c)) else .dead
end Go.Abs

namespace Go.Abs
open Go
@[go_sem] theorem zJ8 (m n : Nat) : ((m : Int) = (n : Int)) = (m = n) := by simp only [eq_iff_iff]; omega
@[go_sem] theorem zFw (m n : Nat) : ((m : Int) == (n : Int)) = decide (m = n) := by rw [Bool.eq_iff_iff]; simp only [beq_iff_eq, decide_eq_true_eq]; omega
@[go_sem] theorem zJ5 (m n : Nat) : ((m : Int) != (n : Int)) = !decide (m = n) := by simp [bne, zFw]
@[go_sem] theorem zLH : zeroPlate.number = 0 := rfl
@[go_sem] theorem zLG : zeroPlate.letter = 0 := rfl
end Go.Abs

namespace Go.Abs
open Go Go.Proofs Tryz
attribute [local irreducible] z3 Hold q7
theorem zK6 (p : zLI) (h1 : p.length ≤ 4294967296) : zLJ prog 28 [y5 p] [] (iV (check p)) [] := by
  have e0 : p.length = 0 → check p = 7 := fun h => by unfold check; rw [if_pos h]
  have e1 : ¬ p.length = 0 → 3 < p.length → check p = 6 := fun h h' => by unfold check; rw [if_neg h, if_pos h']
  have e2 : ¬ p.length = 0 → ¬ 3 < p.length → check p = r7 p := fun h h' => by unfold check; rw [if_neg h, if_neg h']
  refine y3 func28 rfl (fun E hE => ?_); simp only [go_sem, ntmps28]
  repeat' (first | (show z3 ..; first | (refine Qr rfl ?_; try intro _ hK; try simp only [go_sem, *]) | (refine Qi rfl rfl rfl rfl (fun hb _ hK => ?_) (fun hb => ?_) <;> (have hc := hb; try simp only [go_sem] at hc; simp only [go_sem, *]))) | (show Hold ..; first | refine Qh rfl ?_ | refine q6 rfl mixed (by kernel_rfl) ?_ | (refine z7 rfl ⟨_, rfl, fun hb => ?_, fun hb => ?_⟩ <;> (have hc := hb; try simp only [go_sem] at hc)) | refine z8 rfl ?_) | (refine Qb ?_ ?_; focus kernel_rfl) | ((with_reducible refine And.intro ?_ ?_); focus omega) | (refine z6 hK ?_; clear hK; simp only [go_sem, *]) | (simp only [z5, z4, go_sem, *]))
  · (refine ⟨[_], [], [], ⟨rfl, trivial⟩, ?_⟩; simp only [go_sem, *])
    rw [e0 (by omega)]
  · (refine ⟨[_], [], [], ⟨rfl, trivial⟩, ?_⟩; simp only [go_sem, *])
    rw [e1 (by omega) (by omega)]
  · have e3 := e2 (by omega) (by omega)
    clear e0 e1 e2
    refine y8 rfl (fun zn zN zenv zAs => ∃ (i : Nat), zn = (p.length) - i ∧ i ≤ (p.length) ∧ (r7 (p.drop i) = r7 p) ∧ zN = 56 ∧ zenv = [(3, iV i), (1, .ptr 0 0)] ∧ zAs = [.box [.list (p.map y6)]]) (p.length) ⟨[some 0], [], _, _, _, (by (simp only [Weak, go_sem, List.map_append, List.map_set, *] <;> (try simp (disch := omega) only [q9]) <;> (try simp) <;> (try omega))), 0, (by simp), (by simp), (by simp), rfl, rfl, rfl⟩ ?_; rintro _ _ _ _ ⟨i, rfl, hi, hP, rfl, rfl, rfl⟩
    repeat' (first | (show z3 ..; first | (refine Qr rfl ?_; try intro _ hK; try simp only [go_sem, *]) | (refine Qi rfl rfl rfl rfl (fun hb _ hK => ?_) (fun hb => ?_) <;> (have hc := hb; try simp only [go_sem] at hc; simp only [go_sem, *]))) | (show Hold ..; first | refine Qh rfl ?_ | refine q6 rfl mixed (by kernel_rfl) ?_ | (refine z7 rfl ⟨_, rfl, fun hb => ?_, fun hb => ?_⟩ <;> (have hc := hb; try simp only [go_sem] at hc)) | refine z8 rfl ?_) | (refine Qb ?_ ?_; focus kernel_rfl) | ((with_reducible refine And.intro ?_ ?_); focus omega) | (refine z6 hK ?_; clear hK; simp only [go_sem, *]) | (simp only [z5, z4, go_sem, *]))
    · (refine ⟨[_], [], [], ⟨rfl, trivial⟩, ?_⟩; simp only [go_sem, *])
      rw [← hP, G1 (by omega), if_pos (by omega)]
    · have hl : (p.getD i default).length ≤ 8 := by omega
      have hi' : i < p.length := by omega
      rw [G1 hi', if_neg (by omega)] at hP
      generalize hll : p.getD i default = l at *
      refine y8 rfl (fun zn zN zenv zAs => ∃ (k : Nat), zn = (l.length) - k ∧ k ≤ (l.length) ∧ (u7 (Z5 l k) (l.drop k) = u7 none l) ∧ zN = 56 ∧ zenv = [(5, iV k), (4, y6 l), (3, iV i), (1, .ptr 0 0)] ∧ zAs = [.box [.list (p.map y6)]]) (l.length) ⟨[some 0], [], _, _, _, (by (simp only [Weak, go_sem, List.map_append, List.map_set, *] <;> (try simp (disch := omega) only [q9]) <;> (try simp) <;> (try omega))), 0, (by simp), (by simp), (by simp [Z5]), rfl, rfl, rfl⟩ ?_; rintro _ _ _ _ ⟨k, rfl, hk, hK, rfl, rfl, rfl⟩
      have hw : 0 < k → IntKind.i64.wrap ((k : Int) - 1) = ((k - 1 : Nat) : Int) := fun h => by rw [wrap_i64 (by omega) (by omega)]; omega
      have hk1 : k < l.length → k - 1 < l.length := fun h => by omega
      have hstep : ∀ h : k < l.length, _ := fun h => zAx h (Z5 l k) rfl
      repeat' (first | (show z3 ..; first | (refine Qr rfl ?_; try intro _ hK; try simp only [go_sem, *]) | (refine Qi rfl rfl rfl rfl (fun hb _ hK => ?_) (fun hb => ?_) <;> (have hc := hb; try simp only [go_sem] at hc; simp only [go_sem, *]))) | (show Hold ..; first | refine Qh rfl ?_ | refine q6 rfl mixed (by kernel_rfl) ?_ | (refine z7 rfl ⟨_, rfl, fun hb => ?_, fun hb => ?_⟩ <;> (have hc := hb; try simp only [go_sem] at hc)) | refine z8 rfl ?_) | (refine Qb ?_ ?_; focus kernel_rfl) | (show q7 ..; first | ((first | refine q8 (zGz _) ?_ ?_ | refine q8 (L4 _ _) ?_ ?_); (focus (simp only [go_sem, *]; done)); simp only [go_sem, *])) | ((with_reducible refine And.intro ?_ ?_); focus omega) | (refine z6 hK ?_; clear hK; simp only [go_sem, *]) | (simp only [z5, z4, go_sem, *]))
      · (refine ⟨[_], [], [], ⟨rfl, trivial⟩, ?_⟩; simp only [go_sem, *])
        rw [hstep (by omega), if_neg (by simp_all)] at hK
        rw [← hK, if_neg (by omega)] at hP
        rw [← hP]
      · (refine ⟨[_], [], [], ⟨rfl, trivial⟩, ?_⟩; simp only [go_sem, *])
        rw [hstep (by omega), if_pos (by assumption), if_neg (by intro h; rcases h with h | h; · omega
                                                                 · simp_all)] at hK
        rw [← hK, if_neg (by omega)] at hP
        rw [← hP]
      · refine ⟨_, (by omega), [some 0], [], _, _, _, (by (simp only [Weak, go_sem, List.map_append, List.map_set, *] <;> (try simp (disch := omega) only [q9]) <;> (try simp) <;> (try omega))), k + 1, rfl, (by omega), (by rw [← hK, hstep (by omega), if_pos (by assumption), if_pos (.inr (by assumption)), H4]), rfl, rfl, rfl⟩
      · refine ⟨_, (by omega), [some 0], [], _, _, _, (by (simp only [Weak, go_sem, List.map_append, List.map_set, *] <;> (try simp (disch := omega) only [q9]) <;> (try simp) <;> (try omega))), k + 1, rfl, (by omega), (by rw [← hK, hstep (by omega), if_pos (by assumption), if_pos (.inl (by omega)), H4]), rfl, rfl, rfl⟩
      · rw [v4 (by omega)] at hK
        have h0 : u7 none l = 0 := by rw [← hK]; cases Z5 l k <;> rfl
        rw [if_pos h0] at hP
        refine ⟨_, (by omega), [some 0], [], _, _, _, (by (simp only [Weak, go_sem, List.map_append, List.map_set, *] <;> (try simp (disch := omega) only [q9]) <;> (try simp) <;> (try omega))), i + 1, rfl, (by omega), (by exact hP), rfl, rfl, rfl⟩
    · (refine ⟨[_], [], [], ⟨rfl, trivial⟩, ?_⟩; simp only [go_sem, *])
      rw [← hP, v4 (by omega), r7]
end Go.Abs

namespace Go.Abs
open Go Go.Proofs Tryz
attribute [local irreducible] z3 Hold q7
theorem C6 {p : zLI} {i : Nat} (h : i < p.length) : o3 i (p.drop i) = (p.getD i default).map (fun x => (⟨(i : Nat), x⟩ : House)) ++ o3 (i + 1) (p.drop (i + 1)) := by
 rw [v3 h, o3]
theorem A4 {l : List Plate} {k : Nat} (h : k < l.length) (i : Int) : (l.drop k).map (fun x => (⟨i, x⟩ : House)) = ⟨i, l.getD k default⟩ :: (l.drop (k + 1)).map (fun x => (⟨i, x⟩ : House)) := by
 rw [v3 h, List.map_cons]
theorem zK2 (p : zLI) (h1 : p.length ≤ 4294967296) (h2 : ∀ l, l ∈ p → l.length ≤ 4294967296) (h3 : (y4 p).length ≤ 4294967296) : zLJ prog 34 [y5 p] [] (.own 0 3 0 (y4 p).length) [.row 3 ((y4 p).map House.enc)] := by
 refine y3 func34 rfl (fun E hE => ?_); simp only [go_sem, ntmps34]
 repeat' (first | (show z3 ..; first | (refine Qr rfl ?_; try intro _ hK; try simp only [go_sem, *])) | (show Hold ..; first | refine Qh rfl ?_ | (refine z7 rfl ⟨_, rfl, fun hb => ?_, fun hb => ?_⟩ <;> (have hc := hb; try simp only [go_sem] at hc)) | refine z8 rfl ?_) | ((with_reducible refine And.intro ?_ ?_); focus omega) | (refine z6 hK ?_; clear hK; simp only [go_sem, *]) | (simp only [z5, z4, go_sem, *]))
 refine y8 rfl (fun zn zN zenv zAs => ∃ (i : Nat) (acc : List House), zn = (p.length) - i ∧ i ≤ (p.length) ∧ (acc ++ o3 i (p.drop i) = y4 p) ∧ zN = 37 ∧ zenv = [(4, iV i), (3, .own 1 3 0 acc.length), (1, .ptr 0 0)] ∧ zAs = [.box [AV.list (p.map y6)], .row 3 (acc.map House.enc)]) (p.length) ⟨[some 0, none], [], _, _, _, (by (simp only [Weak, go_sem, List.map_append, List.map_set, *] <;> (try simp (disch := omega) only [q9]) <;> (try simp) <;> (try omega))), 0, [], (by simp), (by simp), (by simp [y4]), rfl, rfl, rfl⟩ ?_; rintro _ _ _ _ ⟨i, acc, rfl, hi, hP, rfl, rfl, rfl⟩
 repeat' (first | (show z3 ..; first | (refine Qr rfl ?_; try intro _ hK; try simp only [go_sem, *])) | (show Hold ..; first | refine Qh rfl ?_ | (refine z7 rfl ⟨_, rfl, fun hb => ?_, fun hb => ?_⟩ <;> (have hc := hb; try simp only [go_sem] at hc)) | refine z8 rfl ?_) | ((with_reducible refine And.intro ?_ ?_); focus omega) | (refine z6 hK ?_; clear hK; simp only [go_sem, *]) | (simp only [z5, z4, go_sem, *]))
 ·have hl := h2 _ (w6 ‹_›)
  rw [C6 ‹_›] at hP
  generalize hll : p.getD i default = l at *
  refine y8 rfl (fun zn zN zenv zAs => ∃ (k : Nat) (acc : List House), zn = (l.length) - k ∧ k ≤ (l.length) ∧ (acc ++ ((l.drop k).map (fun x => (⟨(i : Nat), x⟩ : House)) ++ o3 (i + 1) (p.drop (i + 1))) = y4 p) ∧ zN = 37 ∧ zenv = [(5, iV k), (4, iV i), (3, .own 1 3 0 acc.length), (1, .ptr 0 0)] ∧ zAs = [.box [AV.list (p.map y6)], .row 3 (acc.map House.enc)]) (l.length) ⟨[some 0, some 1], [], _, _, _, (by (simp only [Weak, go_sem, List.map_append, List.map_set, *] <;> (try simp (disch := omega) only [q9]) <;> (try simp) <;> (try omega))), 0, acc, (by simp), (by simp), (by simpa using hP), rfl, rfl, rfl⟩ ?_; rintro _ _ _ _ ⟨k, acc, rfl, hk, hK, rfl, rfl, rfl⟩
  have hlen := congrArg List.length hK
  simp only [List.length_append, List.length_map, List.length_drop] at hlen
  repeat' (first | (show z3 ..; first | (refine Qr rfl ?_; try intro _ hK; try simp only [go_sem, *])) | (show Hold ..; first | refine Qh rfl ?_ | (refine z7 rfl ⟨_, rfl, fun hb => ?_, fun hb => ?_⟩ <;> (have hc := hb; try simp only [go_sem] at hc)) | refine z8 rfl ?_) | ((with_reducible refine And.intro ?_ ?_); focus omega) | (refine z6 hK ?_; clear hK; simp only [go_sem, *]) | (simp only [z5, z4, go_sem, *]))
  ·refine ⟨_, (by omega), [some 0, some 3], [], _, _, _, (by (simp only [Weak, go_sem, List.map_append, List.map_set, *] <;> (try simp (disch := omega) only [q9]) <;> (try simp) <;> (try omega))), k + 1, acc ++ [⟨(i : Nat), l.getD k default⟩], rfl, (by omega), (by rw [← hK, A4 (k := k) (by assumption)]; simp), rfl, rfl, rfl⟩
  ·rw [v4 (by omega)] at hK
   refine ⟨_, (by omega), [some 0, some 1], [], _, _, _, (by (simp only [Weak, go_sem, List.map_append, List.map_set, *] <;> (try simp (disch := omega) only [q9]) <;> (try simp) <;> (try omega))), i + 1, acc, rfl, (by omega), (by simpa using hK), rfl, rfl, rfl⟩
 ·refine ⟨[_], [some 1], [], ⟨rfl, trivial⟩, ?_⟩
  rw [v4 (by omega), o3, List.append_nil] at hP
  simp only [go_sem, hP, *]
theorem zHU (p : zLI) (h1 : p.length ≤ 4294967296) (h2 : ∀ l, l ∈ p → l.length ≤ 4294967296) (h3 : (y4 p).length ≤ 4294967296) : zLJ prog 116 [y5 p] [] (.own 0 3 0 (y4 p).length) [.row 3 ((y4 p).map House.enc)] := by
 refine y3 func116 rfl (fun E hE => ?_); simp only [go_sem, ntmps116]
 repeat' (first | (show z3 ..; first | (refine Qr rfl ?_; try intro _ hK; try simp only [go_sem, *])) | (show Hold ..; first | refine Qh rfl ?_ | (refine z7 rfl ⟨_, rfl, fun hb => ?_, fun hb => ?_⟩ <;> (have hc := hb; try simp only [go_sem] at hc)) | refine z8 rfl ?_) | ((with_reducible refine And.intro ?_ ?_); focus omega) | (refine z6 hK ?_; clear hK; simp only [go_sem, *]) | (simp only [z5, z4, go_sem, *]))
 refine y8 rfl (fun zn zN zenv zAs => ∃ (i : Nat) (acc : List House), zn = (p.length) - i ∧ i ≤ (p.length) ∧ (acc ++ o3 i (p.drop i) = y4 p) ∧ zN = 37 ∧ zenv = [(4, iV i), (3, .own 1 3 0 acc.length), (1, .ptr 0 0)] ∧ zAs = [.box [AV.list (p.map y6)], .row 3 (acc.map House.enc)]) (p.length) ⟨[some 0, none], [], _, _, _, (by (simp only [Weak, go_sem, List.map_append, List.map_set, *] <;> (try simp (disch := omega) only [q9]) <;> (try simp) <;> (try omega))), 0, [], (by simp), (by simp), (by simp [y4]), rfl, rfl, rfl⟩ ?_; rintro _ _ _ _ ⟨i, acc, rfl, hi, hP, rfl, rfl, rfl⟩
 repeat' (first | (show z3 ..; first | (refine Qr rfl ?_; try intro _ hK; try simp only [go_sem, *])) | (show Hold ..; first | refine Qh rfl ?_ | (refine z7 rfl ⟨_, rfl, fun hb => ?_, fun hb => ?_⟩ <;> (have hc := hb; try simp only [go_sem] at hc)) | refine z8 rfl ?_) | ((with_reducible refine And.intro ?_ ?_); focus omega) | (refine z6 hK ?_; clear hK; simp only [go_sem, *]) | (simp only [z5, z4, go_sem, *]))
 ·have hl := h2 _ (w6 ‹_›)
  rw [C6 ‹_›] at hP
  generalize hll : p.getD i default = l at *
  refine y8 rfl (fun zn zN zenv zAs => ∃ (k : Nat) (acc : List House), zn = (l.length) - k ∧ k ≤ (l.length) ∧ (acc ++ ((l.drop k).map (fun x => (⟨(i : Nat), x⟩ : House)) ++ o3 (i + 1) (p.drop (i + 1))) = y4 p) ∧ zN = 37 ∧ zenv = [(5, iV k), (4, iV i), (3, .own 1 3 0 acc.length), (1, .ptr 0 0)] ∧ zAs = [.box [AV.list (p.map y6)], .row 3 (acc.map House.enc)]) (l.length) ⟨[some 0, some 1], [], _, _, _, (by (simp only [Weak, go_sem, List.map_append, List.map_set, *] <;> (try simp (disch := omega) only [q9]) <;> (try simp) <;> (try omega))), 0, acc, (by simp), (by simp), (by simpa using hP), rfl, rfl, rfl⟩ ?_; rintro _ _ _ _ ⟨k, acc, rfl, hk, hK, rfl, rfl, rfl⟩
  have hlen := congrArg List.length hK
  simp only [List.length_append, List.length_map, List.length_drop] at hlen
  repeat' (first | (show z3 ..; first | (refine Qr rfl ?_; try intro _ hK; try simp only [go_sem, *])) | (show Hold ..; first | refine Qh rfl ?_ | (refine z7 rfl ⟨_, rfl, fun hb => ?_, fun hb => ?_⟩ <;> (have hc := hb; try simp only [go_sem] at hc)) | refine z8 rfl ?_) | ((with_reducible refine And.intro ?_ ?_); focus omega) | (refine z6 hK ?_; clear hK; simp only [go_sem, *]) | (simp only [z5, z4, go_sem, *]))
  ·refine ⟨_, (by omega), [some 0, some 3], [], _, _, _, (by (simp only [Weak, go_sem, List.map_append, List.map_set, *] <;> (try simp (disch := omega) only [q9]) <;> (try simp) <;> (try omega))), k + 1, acc ++ [⟨(i : Nat), l.getD k default⟩], rfl, (by omega), (by rw [← hK, A4 (k := k) (by assumption)]; simp), rfl, rfl, rfl⟩
  ·rw [v4 (by omega)] at hK
   refine ⟨_, (by omega), [some 0, some 1], [], _, _, _, (by (simp only [Weak, go_sem, List.map_append, List.map_set, *] <;> (try simp (disch := omega) only [q9]) <;> (try simp) <;> (try omega))), i + 1, acc, rfl, (by omega), (by simpa using hK), rfl, rfl, rfl⟩
 ·refine ⟨[_], [some 1], [], ⟨rfl, trivial⟩, ?_⟩
  rw [v4 (by omega), o3, List.append_nil] at hP
  simp only [go_sem, hP, *]
theorem zHG (p : zLI) (h1 : p.length ≤ 4294967296) (h2 : ∀ l, l ∈ p → l.length ≤ 4294967296) (h3 : (y4 p).length ≤ 4294967296) : zLJ prog 160 [y5 p] [] (.own 0 3 0 (y4 p).length) [.row 3 ((y4 p).map House.enc)] := by
 refine y3 func160 rfl (fun E hE => ?_); simp only [go_sem, ntmps160]
 repeat' (first | (show z3 ..; first | (refine Qr rfl ?_; try intro _ hK; try simp only [go_sem, *])) | (show Hold ..; first | refine Qh rfl ?_ | (refine z7 rfl ⟨_, rfl, fun hb => ?_, fun hb => ?_⟩ <;> (have hc := hb; try simp only [go_sem] at hc)) | refine z8 rfl ?_) | ((with_reducible refine And.intro ?_ ?_); focus omega) | (refine z6 hK ?_; clear hK; simp only [go_sem, *]) | (simp only [z5, z4, go_sem, *]))
 refine y8 rfl (fun zn zN zenv zAs => ∃ (i : Nat) (acc : List House), zn = (p.length) - i ∧ i ≤ (p.length) ∧ (acc ++ o3 i (p.drop i) = y4 p) ∧ zN = 31 ∧ zenv = [(11, iV i), (10, iV p.length), (9, .list (p.map y6)), (3, .own 0 3 0 acc.length)] ∧ zAs = [.row 3 (acc.map House.enc)]) (p.length) ⟨[none], [], _, _, _, (by (simp only [Weak, go_sem, List.map_append, List.map_set, *] <;> (try simp (disch := omega) only [q9]) <;> (try simp) <;> (try omega))), 0, [], (by simp), (by simp), (by simp [y4]), rfl, rfl, rfl⟩ ?_; rintro _ _ _ _ ⟨i, acc, rfl, hi, hP, rfl, rfl, rfl⟩
 repeat' (first | (show z3 ..; first | (refine Qr rfl ?_; try intro _ hK; try simp only [go_sem, *])) | (show Hold ..; first | refine Qh rfl ?_ | (refine z7 rfl ⟨_, rfl, fun hb => ?_, fun hb => ?_⟩ <;> (have hc := hb; try simp only [go_sem] at hc)) | refine z8 rfl ?_) | ((with_reducible refine And.intro ?_ ?_); focus omega) | (refine z6 hK ?_; clear hK; simp only [go_sem, *]) | (simp only [z5, z4, go_sem, *]))
 ·have hl := h2 _ (w6 ‹_›)
  rw [C6 ‹_›] at hP
  generalize hll : p.getD i default = l at *
  refine y8 rfl (fun zn zN zenv zAs => ∃ (k : Nat) (acc : List House), zn = (l.length) - k ∧ k ≤ (l.length) ∧ (acc ++ ((l.drop k).map (fun x => (⟨(i : Nat), x⟩ : House)) ++ o3 (i + 1) (p.drop (i + 1))) = y4 p) ∧ zN = 31 ∧ zenv = [(18, iV k), (17, iV l.length), (16, y6 l), (4, iV i), (11, iV i), (10, iV p.length), (9, .list (p.map y6)), (3, .own 0 3 0 acc.length)] ∧ zAs = [.row 3 (acc.map House.enc)]) (l.length) ⟨[some 0], [], _, _, _, (by (simp only [Weak, go_sem, List.map_append, List.map_set, *] <;> (try simp (disch := omega) only [q9]) <;> (try simp) <;> (try omega))), 0, acc, (by simp), (by simp), (by simpa using hP), rfl, rfl, rfl⟩ ?_; rintro _ _ _ _ ⟨k, acc, rfl, hk, hK, rfl, rfl, rfl⟩
  have hlen := congrArg List.length hK
  simp only [List.length_append, List.length_map, List.length_drop] at hlen
  repeat' (first | (show z3 ..; first | (refine Qr rfl ?_; try intro _ hK; try simp only [go_sem, *])) | (show Hold ..; first | refine Qh rfl ?_ | (refine z7 rfl ⟨_, rfl, fun hb => ?_, fun hb => ?_⟩ <;> (have hc := hb; try simp only [go_sem] at hc)) | refine z8 rfl ?_) | ((with_reducible refine And.intro ?_ ?_); focus omega) | (refine z6 hK ?_; clear hK; simp only [go_sem, *]) | (simp only [z5, z4, go_sem, *]))
  ·refine ⟨_, (by omega), [some 3], [], _, _, _, (by (simp only [Weak, go_sem, List.map_append, List.map_set, *] <;> (try simp (disch := omega) only [q9]) <;> (try simp) <;> (try omega))), k + 1, acc ++ [⟨(i : Nat), l.getD k default⟩], rfl, (by omega), (by rw [← hK, A4 (k := k) (by assumption)]; simp), rfl, rfl, rfl⟩
  ·rw [v4 (by omega)] at hK
   refine ⟨_, (by omega), [some 0], [], _, _, _, (by (simp only [Weak, go_sem, List.map_append, List.map_set, *] <;> (try simp (disch := omega) only [q9]) <;> (try simp) <;> (try omega))), i + 1, acc, rfl, (by omega), (by simpa using hK), rfl, rfl, rfl⟩
 ·refine ⟨[_], [some 0], [], ⟨rfl, trivial⟩, ?_⟩
  rw [v4 (by omega), o3, List.append_nil] at hP
  simp only [go_sem, hP, *]
end Go.Abs

namespace Go.Abs
open Go Go.Proofs Tryz
attribute [local irreducible] z3 Hold q7
theorem zCo {l : List Plate} {i : Nat} {x : Plate} (h : i < l.length) (hn : x ∉ l.take i) (hx : ¬ l.getD i default = x) : x ∉ l.take (i + 1) := by
 rw [List.take_add_one]
 simp only [List.getD_eq_getElem?_getD, List.getElem?_eq_getElem h, Option.getD_some] at hx
 simp only [List.getElem?_eq_getElem h, Option.toList_some, List.mem_append, List.mem_singleton, not_or]
 exact ⟨hn, fun e => hx e.symm⟩
theorem zBY {l : List Plate} {i : Nat} {x : Plate} (h : i < l.length) (hn : x ∉ l.take i) (hx : l.getD i default = x) : zLS l x = i := by
 have hg : l.drop i = x :: l.drop (i + 1) := by rw [v3 h, hx]
 have hl : l = l.take i ++ x :: l.drop (i + 1) := by rw [← hg, List.take_append_drop]
 have hm : x ∈ l := by rw [hl]; simp
 rw [p5 hm]
 conv => lhs; rw [hl]
 rw [List.idxOf_append, if_neg hn]
 simp; omega
theorem S7 {l : List Plate} {x : Plate} (hn : x ∉ l) : zLS l x = -1 := by simp [zLS, hn]
theorem k9 (l : List Plate) (x : Plate) (h1 : l.length ≤ 4294967296) : zLJ prog 157 [y6 l, x.enc] [] (iV (zLS l x)) [] := by
 refine y3 func157 rfl (fun E hE => ?_); simp only [go_sem, ntmps157]
 repeat' (first | (show z3 ..; first | (refine Qr rfl ?_; try intro _ hK; try simp only [go_sem, *])) | (show Hold ..; first | refine Qh rfl ?_ | refine q6 rfl mixed (by kernel_rfl) ?_ | (refine z7 rfl ⟨_, rfl, fun hb => ?_, fun hb => ?_⟩ <;> (have hc := hb; try simp only [go_sem] at hc)) | refine z8 rfl ?_) | (refine Qb ?_ ?_; focus kernel_rfl) | ((with_reducible refine And.intro ?_ ?_); focus omega) | (refine z6 hK ?_; clear hK; simp only [go_sem, *]) | (simp only [z5, z4, go_sem, *]))
 refine y8 rfl (fun zn zN zenv zAs => ∃ (i : Nat), zn = (l.length) - i ∧ i ≤ (l.length) ∧ (x ∉ l.take i) ∧ zN = 19 ∧ zenv = [(5, iV i), (3, .ptr 0 0), (0, y6 l)] ∧ zAs = [.box [iV x.number, iV x.letter]]) (l.length) ⟨[some 0], [], _, _, _, (by (simp only [Weak, go_sem, List.map_append, List.map_set, *] <;> (try simp (disch := omega) only [q9]) <;> (try simp) <;> (try omega))), 0, (by simp), (by simp), (by simp), rfl, rfl, rfl⟩ ?_; rintro _ _ _ _ ⟨i, rfl, hi, hP, rfl, rfl, rfl⟩
 repeat' (first | (show z3 ..; first | (refine Qr rfl ?_; try intro _ hK; try simp only [go_sem, *])) | (show Hold ..; first | refine Qh rfl ?_ | refine q6 rfl mixed (by kernel_rfl) ?_ | (refine z7 rfl ⟨_, rfl, fun hb => ?_, fun hb => ?_⟩ <;> (have hc := hb; try simp only [go_sem] at hc)) | refine z8 rfl ?_) | (refine Qb ?_ ?_; focus kernel_rfl) | ((with_reducible refine And.intro ?_ ?_); focus omega) | (refine z6 hK ?_; clear hK; simp only [go_sem, *]) | (simp only [z5, z4, go_sem, *]))
 ·(refine ⟨[_], [], [], ⟨rfl, trivial⟩, ?_⟩; simp only [go_sem, *])
  rw [zBY (by assumption) hP (by assumption)]
 ·refine ⟨_, (by omega), [some 0], [], _, _, _, (by (simp only [Weak, go_sem, List.map_append, List.map_set, *] <;> (try simp (disch := omega) only [q9]) <;> (try simp) <;> (try omega))), i + 1, rfl, (by omega), (by exact zCo (by assumption) hP (by assumption)), rfl, rfl, rfl⟩
 ·(refine ⟨[_], [], [], ⟨rfl, trivial⟩, ?_⟩; simp only [go_sem, *])
  rw [List.take_of_length_le (by omega)] at hP
  rw [S7 hP]
def Y3 (b : Bool) (y : Plate) : Bool := (y.number.tmod 2 == 1) == b
theorem U4 (l : List Plate) (b : Bool) (h1 : l.length ≤ 4294967296) : zLJ prog 166 [y6 l, bV b] [] (.own 0 2 0 (l.filter (Y3 b)).length) [.row 2 ((l.filter (Y3 b)).map Plate.enc)] := by
 refine y3 func166 rfl (fun E hE => ?_); simp only [go_sem, ntmps166]
 repeat' (first | (show z3 ..; first | (refine Qr rfl ?_; try intro _ hK; try simp only [go_sem, *])) | (show Hold ..; first | refine Qh rfl ?_ | (refine z7 rfl ⟨_, rfl, fun hb => ?_, fun hb => ?_⟩ <;> (have hc := hb; try simp only [go_sem] at hc)) | refine z8 rfl ?_) | ((with_reducible refine And.intro ?_ ?_); focus omega) | (refine z6 hK ?_; clear hK; simp only [go_sem, *]) | (simp only [z5, z4, go_sem, *]))
 refine y8 rfl (fun zn zN zenv zAs => ∃ (i : Nat) (acc : List Plate), zn = (l.length) - i ∧ i ≤ (l.length) ∧ (acc ++ (l.drop i).filter (Y3 b) = l.filter (Y3 b)) ∧ zN = 30 ∧ zenv = [(6, iV i), (5, .own 0 2 0 acc.length), (0, y6 l), (1, bV b)] ∧ zAs = [.row 2 (acc.map Plate.enc)]) (l.length) ⟨[none], [], _, _, _, (by (simp only [Weak, go_sem, List.map_append, List.map_set, *] <;> (try simp (disch := omega) only [q9]) <;> (try simp) <;> (try omega))), 0, [], (by simp), (by simp), (by simp), rfl, rfl, rfl⟩ ?_; rintro _ _ _ _ ⟨i, acc, rfl, hi, hP, rfl, rfl, rfl⟩
 have hlen := congrArg List.length hP
 have hfl := List.length_filter_le (Y3 b) l
 simp only [List.length_append] at hlen
 repeat' (first | (show z3 ..; first | (refine Qr rfl ?_; try intro _ hK; try simp only [go_sem, *])) | (show Hold ..; first | refine Qh rfl ?_ | (refine z7 rfl ⟨_, rfl, fun hb => ?_, fun hb => ?_⟩ <;> (have hc := hb; try simp only [go_sem] at hc)) | refine z8 rfl ?_) | ((with_reducible refine And.intro ?_ ?_); focus omega) | (refine z6 hK ?_; clear hK; simp only [go_sem, *]) | (simp only [z5, z4, go_sem, *]))
 ·refine ⟨_, (by omega), [some 2], [], _, _, _, (by (simp only [Weak, go_sem, List.map_append, List.map_set, *] <;> (try simp (disch := omega) only [q9]) <;> (try simp) <;> (try omega))), i + 1, acc ++ [l.getD i default], rfl, (by omega), (by rw [← hP, v3 (i := i) (by assumption), List.filter_cons, if_pos (by unfold Y3; assumption)]; simp), rfl, rfl, rfl⟩
 ·refine ⟨_, (by omega), [some 0], [], _, _, _, (by (simp only [Weak, go_sem, List.map_append, List.map_set, *] <;> (try simp (disch := omega) only [q9]) <;> (try simp) <;> (try omega))), i + 1, acc, rfl, (by omega), (by rw [← hP, v3 (i := i) (by assumption), List.filter_cons, if_neg (by unfold Y3; rw [Bool.not_eq_true]; assumption)]), rfl, rfl, rfl⟩
 ·refine ⟨[_], [some 0], [], ⟨rfl, trivial⟩, ?_⟩
  rw [v4 (by omega), List.filter_nil, List.append_nil] at hP
  simp only [go_sem, hP, *]
theorem zBj {l : List Plate} {n : Int} {i : Nat} (hi : i < 4) (h : ∀ j : Nat, j < i → (⟨n, (j : Int) + 1⟩ : Plate) ∈ l) (hn : (⟨n, (i : Int) + 1⟩ : Plate) ∉ l) : letter l n = i + 1 := by
 have h0 := h 0; have h1 := h 1; have h2 := h 2
 have : i = 0 ∨ i = 1 ∨ i = 2 ∨ i = 3 := by omega
 rcases this with rfl | rfl | rfl | rfl <;> simp_all [letter]
theorem zCW (l : List Plate) (n : Int) (h1 : l.length ≤ 4294967296) : zLJ prog 158 [y6 l, iV n] [] (iV (letter l n)) [] := by
 refine y3 func158 rfl (fun E hE => ?_); simp only [go_sem, ntmps158]
 repeat' (first | (show z3 ..; first | (refine Qr rfl ?_; try intro _ hK; try simp only [go_sem, *])) | (show Hold ..; first | refine Qh rfl ?_ | (refine z7 rfl ⟨_, rfl, fun hb => ?_, fun hb => ?_⟩ <;> (have hc := hb; try simp only [go_sem] at hc)) | refine z8 rfl ?_) | ((with_reducible refine And.intro ?_ ?_); focus omega) | (refine z6 hK ?_; clear hK; simp only [go_sem, *]) | (simp only [z5, z4, go_sem, *]))
 refine y8 rfl (fun zn zN zenv zAs => ∃ (i : Nat), zn = (4) - i ∧ i ≤ (4) ∧ (∀ j : Nat, j < i → (⟨n, (j : Int) + 1⟩ : Plate) ∈ l) ∧ zN = 17 ∧ zenv = [(5, iV ((i : Int) + 1)), (0, y6 l), (1, iV n)] ∧ zAs = []) (4) ⟨[], [], _, _, _, (by (simp only [Weak, go_sem, List.map_append, List.map_set, *] <;> (try simp (disch := omega) only [q9]) <;> (try simp) <;> (try omega))), 0, (by simp), (by simp), (by simp), rfl, rfl, rfl⟩ ?_; rintro _ _ _ _ ⟨i, rfl, hi, hP, rfl, rfl, rfl⟩
 have hw : i < 4 → IntKind.i64.wrap ((i : Int) + 1 + 1) = (((i + 1 : Nat) : Int) + 1) := fun h => by rw [wrap_i64 (by omega) (by omega)]; omega
 repeat' (first | (show z3 ..; first | (refine Qr rfl ?_; try intro _ hK; try simp only [go_sem, *])) | (show Hold ..; first | refine Qh rfl ?_ | (refine z7 rfl ⟨_, rfl, fun hb => ?_, fun hb => ?_⟩ <;> (have hc := hb; try simp only [go_sem] at hc)) | refine z8 rfl ?_) | (show q7 ..; first | (refine q8 (k9 l ⟨n, (i : Int) + 1⟩ h1) ?_ ?_; (focus (simp only [go_sem, *]; done)); simp only [go_sem, *])) | ((with_reducible refine And.intro ?_ ?_); focus omega) | (refine z6 hK ?_; clear hK; simp only [go_sem, *]) | (simp only [z5, z4, go_sem, *]))
 ·(refine ⟨[_], [], [], ⟨rfl, trivial⟩, ?_⟩; simp only [go_sem, *])
  rw [zBj (by omega) hP (fun hm => by rw [p5 hm] at *; omega)]
 ·have hi4 : i < 4 := by omega
  refine ⟨_, (by omega), [], [], _, _, _, (by (simp only [Weak, go_sem, List.map_append, List.map_set, *] <;> (try simp (disch := omega) only [q9]) <;> (try simp) <;> (try omega))), i + 1, rfl, (by omega), (fun j hj => ?_), rfl, rfl, rfl⟩
  rcases Nat.lt_succ_iff_lt_or_eq.1 hj with h | h
  ·exact hP j h
  ·subst h
   exact Decidable.byContradiction fun hm => by rw [S7 hm] at *; omega
 ·(refine ⟨[_], [], [], ⟨rfl, trivial⟩, ?_⟩; simp only [go_sem, *])
  have : i = 4 := by omega
  subst this
  have h0 := hP 0; have h1 := hP 1; have h2 := hP 2; have h3 := hP 3
  simp_all [letter]
theorem P7 {v : Int} (h : 0 ≤ v) : v.tmod 2 = v % 2 := by rw [Int.tmod_eq_emod_of_nonneg h]
theorem zCO (l : List Plate) (h1 : l.length ≤ 4294967296) (h2 : ∀ x, x ∈ l → x.ok = true) : zLJ prog 156 [y6 l] [] (iV (base l)) [] := by
 refine y3 func156 rfl (fun E hE => ?_); simp only [go_sem, ntmps156]
 repeat' (first | (show z3 ..; first | (refine Qr rfl ?_; try intro _ hK; try simp only [go_sem, *])) | (show Hold ..; first | refine Qh rfl ?_ | (refine z7 rfl ⟨_, rfl, fun hb => ?_, fun hb => ?_⟩ <;> (have hc := hb; try simp only [go_sem] at hc)) | refine z8 rfl ?_) | ((with_reducible refine And.intro ?_ ?_); focus omega) | (refine z6 hK ?_; clear hK; simp only [go_sem, *]) | (simp only [z5, z4, go_sem, *]))
 refine y8 rfl (fun zn zN zenv zAs => ∃ (i : Nat) (v : Int), zn = (l.length) - i ∧ i ≤ (l.length) ∧ (0 ≤ v ∧ v ≤ 40 ∧ (l.drop i).foldl (fun n x => max n x.number) v = l.foldl (fun n x => max n x.number) 0) ∧ zN = 22 ∧ zenv = [(4, iV i), (3, iV v), (0, y6 l)] ∧ zAs = []) (l.length) ⟨[], [], _, _, _, (by (simp only [Weak, go_sem, List.map_append, List.map_set, *] <;> (try simp (disch := omega) only [q9]) <;> (try simp) <;> (try omega))), 0, 0, (by simp), (by simp), (by simp), rfl, rfl, rfl⟩ ?_; rintro _ _ _ _ ⟨i, v, rfl, hi, hP, rfl, rfl, rfl⟩
 repeat' (first | (show z3 ..; first | (refine Qr rfl ?_; try intro _ hK; try simp only [go_sem, *])) | (show Hold ..; first | refine Qh rfl ?_ | (refine z7 rfl ⟨_, rfl, fun hb => ?_, fun hb => ?_⟩ <;> (have hc := hb; try simp only [go_sem] at hc)) | refine z8 rfl ?_) | ((with_reducible refine And.intro ?_ ?_); focus omega) | (refine z6 hK ?_; clear hK; simp only [go_sem, *]) | (simp only [z5, z4, go_sem, *]))
 ·have hx := (u0 _).1 (h2 _ (w6 (by assumption)))
  have hm : zL7 v (l.getD i default).number = max v (l.getD i default).number := by unfold zL7; split <;> omega
  obtain ⟨p1, p2, p3⟩ := hP
  refine ⟨_, (by omega), [], [], _, _, _, (by (simp only [Weak, go_sem, List.map_append, List.map_set, *] <;> (try simp (disch := omega) only [q9]) <;> (try simp) <;> (try omega))), i + 1, max v (l.getD i default).number, rfl, (by omega), (by refine ⟨by omega, by omega, ?_⟩; rw [← p3, v3 (i := i) (by assumption), List.foldl_cons]), rfl, rfl, rfl⟩
 ·(refine ⟨[_], [], [], ⟨rfl, trivial⟩, ?_⟩; simp only [go_sem, *])
  obtain ⟨p1, p2, p3⟩ := hP
  rw [v4 (by omega), List.foldl_nil] at p3
  rw [base, ← p3, P7 p1, wrap_i64 (by omega) (by omega)]
end Go.Abs

namespace Go.Abs
open Go Go.Proofs Tryz
attribute [local irreducible] z3 Hold q7
theorem e9 (l : List Plate) (x : Plate) (h1 : l.length ≤ 4294967296) : zLJ prog 199 [y6 l, x.enc] [] (iV (zLS l x)) [] := by
 refine y3 func199 rfl (fun E hE => ?_); simp only [go_sem, ntmps199]
 repeat' (first | (show z3 ..; first | (refine Qr rfl ?_; try intro _ hK; try simp only [go_sem, *])) | (show Hold ..; first | refine Qh rfl ?_ | refine q6 rfl mixed (by kernel_rfl) ?_ | (refine z7 rfl ⟨_, rfl, fun hb => ?_, fun hb => ?_⟩ <;> (have hc := hb; try simp only [go_sem] at hc)) | refine z8 rfl ?_) | (refine Qb ?_ ?_; focus kernel_rfl) | ((with_reducible refine And.intro ?_ ?_); focus omega) | (refine z6 hK ?_; clear hK; simp only [go_sem, *]) | (simp only [z5, z4, go_sem, *]))
 refine y8 rfl (fun zn zN zenv zAs => ∃ (i : Nat), zn = (l.length) - i ∧ i ≤ (l.length) ∧ (x ∉ l.take i) ∧ zN = 19 ∧ zenv = [(8, iV i), (7, iV l.length), (3, .ptr 0 0), (0, y6 l)] ∧ zAs = [.box [iV x.number, iV x.letter]]) (l.length) ⟨[some 0], [], _, _, _, (by (simp only [Weak, go_sem, List.map_append, List.map_set, *] <;> (try simp (disch := omega) only [q9]) <;> (try simp) <;> (try omega))), 0, (by simp), (by simp), (by simp), rfl, rfl, rfl⟩ ?_; rintro _ _ _ _ ⟨i, rfl, hi, hP, rfl, rfl, rfl⟩
 repeat' (first | (show z3 ..; first | (refine Qr rfl ?_; try intro _ hK; try simp only [go_sem, *])) | (show Hold ..; first | refine Qh rfl ?_ | refine q6 rfl mixed (by kernel_rfl) ?_ | (refine z7 rfl ⟨_, rfl, fun hb => ?_, fun hb => ?_⟩ <;> (have hc := hb; try simp only [go_sem] at hc)) | refine z8 rfl ?_) | (refine Qb ?_ ?_; focus kernel_rfl) | ((with_reducible refine And.intro ?_ ?_); focus omega) | (refine z6 hK ?_; clear hK; simp only [go_sem, *]) | (simp only [z5, z4, go_sem, *]))
 ·(refine ⟨[_], [], [], ⟨rfl, trivial⟩, ?_⟩; simp only [go_sem, *])
  have e : x = l.getD i default := by assumption
  rw [← e]
  exact B3 (zBY (by assumption) hP e.symm)
 ·refine ⟨_, (by omega), [some 0], [], _, _, _, (by (simp only [Weak, go_sem, List.map_append, List.map_set, *] <;> (try simp (disch := omega) only [q9]) <;> (try simp) <;> (try omega))), i + 1, rfl, (by omega), (by exact zCo (by assumption) hP (fun e => absurd e.symm (by assumption))), rfl, rfl, rfl⟩
 ·(refine ⟨[_], [], [], ⟨rfl, trivial⟩, ?_⟩; simp only [go_sem, *])
  rw [List.take_of_length_le (by omega)] at hP
  rw [S7 hP]
theorem zAK (l : List Plate) (x : Plate) (h1 : l.length ≤ 4294967296) : zLJ prog 198 [y6 l, x.enc] [] (bV (decide (x ∈ l))) [] := by
 refine y3 func198 rfl (fun E hE => ?_); simp only [go_sem, ntmps198]
 repeat' (first | (show z3 ..; first | (refine Qr rfl ?_; try intro _ hK; try simp only [go_sem, *])) | (show Hold ..; first | refine Qh rfl ?_ | (refine z7 rfl ⟨_, rfl, fun hb => ?_, fun hb => ?_⟩ <;> (have hc := hb; try simp only [go_sem] at hc)) | refine z8 rfl ?_) | (show q7 ..; first | (refine q8 (e9 l x h1) ?_ ?_; (focus (simp only [go_sem, *]; done)); simp only [go_sem, *])) | ((with_reducible refine And.intro ?_ ?_); focus omega) | (refine z6 hK ?_; clear hK; simp only [go_sem, *]) | (simp only [z5, z4, go_sem, *]))
 (refine ⟨[_], [], [], ⟨rfl, trivial⟩, ?_⟩; simp only [go_sem, *])
 refine W9 ?_
 by_cases hm : x ∈ l
 ·simp [p5 hm, hm]
 ·simp [S7 hm, hm]
theorem L6 (s n k : Int) : zLJ prog 197 [iV s, iV n, iV k] [] (.agg [iV s, iV n, iV k]) [] := by
 refine y3 func197 rfl (fun E hE => ?_); simp only [go_sem, ntmps197]
 repeat' (first | (show z3 ..; first | (refine Qr rfl ?_; try intro _ hK; try simp only [go_sem, *])) | (show Hold ..; first | refine Qh rfl ?_ | (refine z7 rfl ⟨_, rfl, fun hb => ?_, fun hb => ?_⟩ <;> (have hc := hb; try simp only [go_sem] at hc)) | refine z8 rfl ?_) | ((with_reducible refine And.intro ?_ ?_); focus omega) | (refine z6 hK ?_; clear hK; simp only [go_sem, *]) | (simp only [z5, z4, go_sem, *]))
 refine ⟨[.agg [iV s, iV n, iV k]], [], [], ⟨(by simp only [x9, go_sem]), trivial⟩, ?_⟩; simp only [go_sem, *]
abbrev fnV (f : Nat) : AV := .raw (.func (.func f) #[] #[])
theorem G9 {f : Nat} {pr : Plate → Bool} (hc : r5 prog f = true) (hf : ∀ x : Plate, zLJ prog f [x.enc] [] (bV (pr x)) []) (l : List Plate) (h1 : l.length ≤ 4294967296) :
  zLJ prog 194 [y6 l, fnV f] [] (.own 0 2 0 (l.filter pr).length) [.row 2 ((l.filter pr).map Plate.enc)] := by
 refine y3 func194 rfl (fun E hE => ?_); simp only [go_sem, ntmps194]
 repeat' (first | (show z3 ..; first | (refine Qr rfl ?_; try intro _ hK; try simp only [go_sem, *])) | (show Hold ..; first | refine Qh rfl ?_ | (refine z7 rfl ⟨_, rfl, fun hb => ?_, fun hb => ?_⟩ <;> (have hc := hb; try simp only [go_sem] at hc)) | refine z8 rfl ?_) | ((with_reducible refine And.intro ?_ ?_); focus omega) | (refine z6 hK ?_; clear hK; simp only [go_sem, *]) | (simp only [z5, z4, go_sem, *]))
 refine y8 rfl (fun zn zN zenv zAs => ∃ (i : Nat) (acc : List Plate), zn = (l.length) - i ∧ i ≤ (l.length) ∧ (acc ++ (l.drop i).filter pr = l.filter pr) ∧ zN = 23 ∧ zenv = [(10, iV i), (9, iV l.length), (8, y6 l), (5, .own 0 2 0 acc.length), (1, fnV f)] ∧ zAs = [.row 2 (acc.map Plate.enc)]) (l.length) ⟨[none], [], _, _, _, (by (simp only [Weak, go_sem, List.map_append, List.map_set, *] <;> (try simp (disch := omega) only [q9]) <;> (try simp) <;> (try omega))), 0, [], (by simp), (by simp), (by simp), rfl, rfl, rfl⟩ ?_; rintro _ _ _ _ ⟨i, acc, rfl, hi, hP, rfl, rfl, rfl⟩
 have hlen := congrArg List.length hP
 have hfl := List.length_filter_le pr l
 simp only [List.length_append] at hlen
 repeat' (first | (show z3 ..; first | (refine Qr rfl ?_; try intro _ hK; try simp only [go_sem, *])) | (show Hold ..; first | refine Qh rfl ?_ | (refine z7 rfl ⟨_, rfl, fun hb => ?_, fun hb => ?_⟩ <;> (have hc := hb; try simp only [go_sem] at hc)) | refine z8 rfl ?_) | (show q7 ..; first | (refine q8 (hf (l.getD i default)) ?_ ?_; (focus (simp only [go_sem, *]; done)); simp only [go_sem, *])) | ((with_reducible refine And.intro ?_ ?_); focus omega) | (refine z6 hK ?_; clear hK; simp only [go_sem, *]) | (simp only [z5, z4, go_sem, *]))
 ·refine ⟨_, (by omega), [some 3], [], _, _, _, (by (simp only [Weak, go_sem, List.map_append, List.map_set, *] <;> (try simp (disch := omega) only [q9]) <;> (try simp) <;> (try omega))), i + 1, acc ++ [l.getD i default], rfl, (by omega), (by rw [← hP, v3 (i := i) (by assumption), List.filter_cons, if_pos (by assumption)]; simp), rfl, rfl, rfl⟩
 ·refine ⟨_, (by omega), [some 0], [], _, _, _, (by (simp only [Weak, go_sem, List.map_append, List.map_set, *] <;> (try simp (disch := omega) only [q9]) <;> (try simp) <;> (try omega))), i + 1, acc, rfl, (by omega), (by rw [← hP, v3 (i := i) (by assumption), List.filter_cons, if_neg (by rw [Bool.not_eq_true]; assumption)]), rfl, rfl, rfl⟩
 ·refine ⟨[_], [some 0], [], ⟨rfl, trivial⟩, ?_⟩
  rw [v4 (by omega), List.filter_nil, List.append_nil] at hP
  simp only [go_sem, hP, *]
theorem U3 : zLJ prog 152 [] [] (.agg [.raw .nilFunc, fnV 169, fnV 170, fnV 171, fnV 172, fnV 173, fnV 174, fnV 175]) [] := by
 refine y3 func152 rfl (fun E hE => ?_); simp only [go_sem, ntmps152]
 repeat' (first | (show z3 ..; first | (refine Qr rfl ?_; try intro _ hK; try simp only [go_sem, *])) | (show Hold ..; first | refine Qh rfl ?_ | (refine z7 rfl ⟨_, rfl, fun hb => ?_, fun hb => ?_⟩ <;> (have hc := hb; try simp only [go_sem] at hc)) | refine z8 rfl ?_) | ((with_reducible refine And.intro ?_ ?_); focus omega) | (refine z6 hK ?_; clear hK; simp only [go_sem, *]) | (simp only [z5, z4, go_sem, *]))
 refine ⟨[.agg [.raw .nilFunc, fnV 169, fnV 170, fnV 171, fnV 172, fnV 173, fnV 174, fnV 175]], [], [], ⟨(by simp only [x9, go_sem]), trivial⟩, ?_⟩; simp only [go_sem, *]
end Go.Abs

namespace Go.Abs
open Go Go.Proofs Tryz
attribute [local irreducible] z3 Hold q7
theorem zCU {p : zLI} (v : Valid p) : zLJ prog 160 [y5 p] [] (.own 0 3 0 (y4 p).length) [.row 3 ((y4 p).map House.enc)] := zHG p (by have := v.len; omega) (fun l hl => by have := (v.rows l hl).len; omega) (by have := v.count; omega)
theorem zFz {α : Type} [Inhabited α] {l : List α} (hn : l.Nodup) {i : Nat} (h : i < l.length) : l.getD i default ∉ l.take i := fun hm => by
 obtain ⟨j, hj, e⟩ := List.getElem_of_mem hm
 simp at hj e
 rw [List.getElem?_eq_getElem h] at e
 simp only [Option.getD_some] at e
 have := (Q6 hn).1 e
 omega
theorem j0 {α : Type} [Inhabited α] {l : List α} {i : Nat} (h : i < l.length) : l.take (i + 1) = l.take i ++ [l.getD i default] := by
 rw [List.take_add_one]; simp [List.getD, h]
theorem W2 (p : zLI) (v : Valid p) : zLJ prog 151 [y5 p] [] (.mp 0) [.mapo (w5 p) (w4 p fun h => [h])] := by
 have hn := v.nodup
 have hw := v.wf
 have hct := v.count
 refine y3 func151 rfl (fun E hE => ?_); simp only [go_sem, ntmps151]
 repeat' (first | (show z3 ..; first | (refine Qr rfl ?_; try intro _ hK; try simp only [go_sem, *])) | (show Hold ..; first | refine Qh rfl ?_ | (refine z7 rfl ⟨_, rfl, fun hb => ?_, fun hb => ?_⟩ <;> (have hc := hb; try simp only [go_sem] at hc)) | refine z8 rfl ?_) | ((with_reducible refine And.intro ?_ ?_); focus omega) | (refine z6 hK ?_; clear hK; simp only [go_sem, *]) | (simp only [z5, z4, go_sem, *]))
 refine x8 [] [] (zCU v) (by simp) (by simp only [go_sem]) trivial (by simp) (.inl rfl) (by simp [go_sem]) (by simp) ?_
 simp only [go_sem, *]
 repeat' (first | (show z3 ..; first | (refine Qr rfl ?_; try intro _ hK; try simp only [go_sem, *])) | (show Hold ..; first | refine Qh rfl ?_ | (refine z7 rfl ⟨_, rfl, fun hb => ?_, fun hb => ?_⟩ <;> (have hc := hb; try simp only [go_sem] at hc)) | refine z8 rfl ?_) | ((with_reducible refine And.intro ?_ ?_); focus omega) | (refine z6 hK ?_; clear hK; simp only [go_sem, *]) | (simp only [z5, z4, go_sem, *]))
 refine y8 rfl (fun zn zN zenv zAs => ∃ (i : Nat), zn = ((y4 p).length) - i ∧ i ≤ ((y4 p).length) ∧ (NoP i) ∧ zN = 20 ∧ zenv = [(10, iV i), (9, iV (y4 p).length), (8, .own 0 3 0 (y4 p).length), (3, .mp 1)] ∧ zAs = [.row 3 ((y4 p).map House.enc), .mapo (((y4 p).take i).map House.key) (((y4 p).take i).map (zLN fun h => [h]))]) ((y4 p).length) ⟨[some 2, some 1], [], _, _, _, (by (simp only [Weak, go_sem, List.map_append, List.map_set, *] <;> (try simp (disch := omega) only [q9]) <;> (try simp) <;> (try omega))), 0, (by simp), (by simp), (by trivial), rfl, rfl, rfl⟩ ?_; rintro _ _ _ _ ⟨i, rfl, hi, hP, rfl, rfl, rfl⟩
 repeat' (first | (show z3 ..; first | (refine Qr rfl ?_; try intro _ hK; try simp only [go_sem, *])) | (show Hold ..; first | refine Qh rfl ?_ | (refine z7 rfl ⟨_, rfl, fun hb => ?_, fun hb => ?_⟩ <;> (have hc := hb; try simp only [go_sem] at hc)) | refine z8 rfl ?_) | ((with_reducible refine And.intro ?_ ?_); focus omega) | (refine z6 hK ?_; clear hK; simp only [go_sem, *]) | (simp only [z5, z4, go_sem, *]))
 ·refine zBz (h := (y4 p).getD i default) (hs := (y4 p).take i) (xs := ((y4 p).take i).map (zLN fun h => [h])) (by simp only [go_sem, *]) (fun k hk => hw k (List.mem_of_mem_take hk)) (hw _ (w6 (by assumption))) (zFz hn (by assumption)) (by simp only [go_sem, *]) (by simp only [go_sem, *]) ?_
  simp only [go_sem, *]
  repeat' (first | (show z3 ..; first | (refine Qr rfl ?_; try intro _ hK; try simp only [go_sem, *])) | (show Hold ..; first | refine Qh rfl ?_ | (refine z7 rfl ⟨_, rfl, fun hb => ?_, fun hb => ?_⟩ <;> (have hc := hb; try simp only [go_sem] at hc)) | refine z8 rfl ?_) | ((with_reducible refine And.intro ?_ ?_); focus omega) | (refine z6 hK ?_; clear hK; simp only [go_sem, *]) | (simp only [z5, z4, go_sem, *]))
  have e := j0 (l := y4 p) (i := i) (by assumption)
  have hM : zLN (fun h => [h]) ((y4 p).getD i default) = .list [((y4 p).getD i default).enc] := rfl
  refine ⟨_, (by omega), [some 0, some 1], [], _, _, _, (by (simp only [Weak, go_sem, List.map_append, List.map_set, *] <;> (try simp (disch := omega) only [q9]) <;> (try simp) <;> (try omega))), i + 1, rfl, (by omega), (by trivial), rfl, rfl, rfl⟩
 ·refine ⟨[_], [some 1], [], ⟨rfl, trivial⟩, ?_⟩
  have e : (y4 p).take i = y4 p := List.take_of_length_le (by omega)
  simp only [go_sem, *]
theorem zHe (p : zLI) (c : Change) (v : Valid p) (f : Fit p c) (k : c.kind = 2) : zLJ prog 170 [y5 p, c.enc, .mp 0] [.mapo (w5 p) (w4 p fun h => [h])] (iV 0) [.mapo (w5 p) (w4 p (mv p c))] := by
  have hs : c.street.toNat < p.length := by have := f.street; omega
  have hs0 := f.street.1
  have hs1 := f.street.2
  have hr := v.row c.street
  have hl8 := hr.len
  refine y3 func170 rfl (fun E hE => ?_); simp only [go_sem, ntmps170]
  repeat' (first | (show z3 ..; first | (refine Qr rfl ?_; try intro _ hK; try simp only [go_sem, *])) | (show Hold ..; first | refine Qh rfl ?_ | refine q6 rfl mixed (by kernel_rfl) ?_ | (refine z7 rfl ⟨_, rfl, fun hb => ?_, fun hb => ?_⟩ <;> (have hc := hb; try simp only [go_sem] at hc)) | refine z8 rfl ?_) | (refine Qb ?_ ?_; focus kernel_rfl) | ((with_reducible refine And.intro ?_ ?_); focus omega) | (refine z6 hK ?_; clear hK; simp only [go_sem, *]) | (simp only [z5, z4, go_sem, *]))
  refine y8 rfl (fun zn zN zenv zAs => ∃ (i : Nat) (g : House → List House), zn = ((z9 p c.street).length) - i ∧ i ≤ ((z9 p c.street).length) ∧ (Upd p c g ((z9 p c.street).take i)) ∧ zN = 42 ∧ zenv = [(17, iV i), (16, iV (z9 p c.street).length), (15, y6 (z9 p c.street)), (4, .ptr 2 0), (3, .ptr 1 0), (2, .mp 0)] ∧ zAs = [.mapo (w5 p) (w4 p g), zLW p, zLq c]) ((z9 p c.street).length) ⟨[some 0, some 1, some 2], [], _, _, _, (by (simp only [Weak, go_sem, List.map_append, List.map_set, *] <;> (try simp (disch := omega) only [q9]) <;> (try simp) <;> (try omega))), 0, fun h => [h], (by simp), (by simp), (by exact Upd.nil _ _), rfl, rfl, rfl⟩ ?_; rintro _ _ _ _ ⟨i, g, rfl, hi, hP, rfl, rfl, rfl⟩
  have hx : i < (z9 p c.street).length → 1 ≤ ((z9 p c.street).getD i default).number ∧ ((z9 p c.street).getD i default).number ≤ 40 := fun h => ((u0 _).1 (hr.ok _ (w6 h))).1
  have hw1 : i < (z9 p c.street).length → IntKind.i64.wrap (((z9 p c.street).getD i default).number - 1) = ((z9 p c.street).getD i default).number - 1 := fun h => by have := hx h; exact wrap_i64 (by omega) (by omega)
  have hw2 : i < (z9 p c.street).length → IntKind.i64.wrap (((z9 p c.street).getD i default).number + 1) = ((z9 p c.street).getD i default).number + 1 := fun h => by have := hx h; exact wrap_i64 (by omega) (by omega)
  repeat' (first | (show z3 ..; first | (refine Qr rfl ?_; try intro _ hK; try simp only [go_sem, *])) | (show Hold ..; first | refine Qh rfl ?_ | refine q6 rfl mixed (by kernel_rfl) ?_ | (refine z7 rfl ⟨_, rfl, fun hb => ?_, fun hb => ?_⟩ <;> (have hc := hb; try simp only [go_sem] at hc)) | refine z8 rfl ?_) | (refine Qb ?_ ?_; focus kernel_rfl) | (show q7 ..; first | ((first | refine q8 (zAQ _) ?_ ?_ | refine q8 (L6 _ _ _) ?_ ?_); (focus (simp only [go_sem, *]; done)); simp only [go_sem, *])) | ((with_reducible refine And.intro ?_ ?_); focus omega) | (refine z6 hK ?_; clear hK; simp only [go_sem, *]) | (simp only [z5, z4, go_sem, *]))
  · have ho : zLM ((z9 p c.street).getD i default) = true := by
      have := hx (by assumption)
      rw [a9]
      have hc2 : ¬ ((z9 p c.street).getD i default).number.tmod 2 = 0 := by assumption
      rw [P7 (by omega)] at hc2; omega
    refine T1 [⟨c.street, ⟨((z9 p c.street).getD i default).number + 1, ((z9 p c.street).getD i default).letter⟩⟩] (g := g) (x := (z9 p c.street).getD i default) v hs0 hs1 (w6 (by assumption)) (by simp only [go_sem, *]) (by simp only [go_sem, *]) rfl rfl (by rw [U9 k, if_pos ho]) ?_
    simp only [go_sem, *]
    repeat' (first | (show z3 ..; first | (refine Qr rfl ?_; try intro _ hK; try simp only [go_sem, *])) | (show Hold ..; first | refine Qh rfl ?_ | refine q6 rfl mixed (by kernel_rfl) ?_ | (refine z7 rfl ⟨_, rfl, fun hb => ?_, fun hb => ?_⟩ <;> (have hc := hb; try simp only [go_sem] at hc)) | refine z8 rfl ?_) | (refine Qb ?_ ?_; focus kernel_rfl) | ((with_reducible refine And.intro ?_ ?_); focus omega) | (refine z6 hK ?_; clear hK; simp only [go_sem, *]) | (simp only [z5, z4, go_sem, *]))
    have e := j0 (l := z9 p c.street) (i := i) (by assumption)
    refine ⟨_, (by omega), [some 0, some 1, some 2], [], _, _, _, (by (simp only [Weak, go_sem, List.map_append, List.map_set, *] <;> (try simp (disch := omega) only [q9]) <;> (try simp) <;> (try omega))), i + 1, zLd p c g ((z9 p c.street).getD i default), rfl, (by omega), (by rw [e]; exact hP.one _), rfl, rfl, rfl⟩
  · have ho : ¬ zLM ((z9 p c.street).getD i default) = true := by
      have := hx (by assumption)
      rw [a9]
      have hc2 : ((z9 p c.street).getD i default).number.tmod 2 = 0 := by assumption
      rw [P7 (by omega)] at hc2; omega
    refine T1 [⟨c.street, ⟨((z9 p c.street).getD i default).number - 1, ((z9 p c.street).getD i default).letter⟩⟩] (g := g) (x := (z9 p c.street).getD i default) v hs0 hs1 (w6 (by assumption)) (by simp only [go_sem, *]) (by simp only [go_sem, *]) rfl rfl (by rw [U9 k, if_neg ho]) ?_
    simp only [go_sem, *]
    repeat' (first | (show z3 ..; first | (refine Qr rfl ?_; try intro _ hK; try simp only [go_sem, *])) | (show Hold ..; first | refine Qh rfl ?_ | refine q6 rfl mixed (by kernel_rfl) ?_ | (refine z7 rfl ⟨_, rfl, fun hb => ?_, fun hb => ?_⟩ <;> (have hc := hb; try simp only [go_sem] at hc)) | refine z8 rfl ?_) | (refine Qb ?_ ?_; focus kernel_rfl) | ((with_reducible refine And.intro ?_ ?_); focus omega) | (refine z6 hK ?_; clear hK; simp only [go_sem, *]) | (simp only [z5, z4, go_sem, *]))
    have e := j0 (l := z9 p c.street) (i := i) (by assumption)
    refine ⟨_, (by omega), [some 0, some 1, some 2], [], _, _, _, (by (simp only [Weak, go_sem, List.map_append, List.map_set, *] <;> (try simp (disch := omega) only [q9]) <;> (try simp) <;> (try omega))), i + 1, zLd p c g ((z9 p c.street).getD i default), rfl, (by omega), (by rw [e]; exact hP.one _), rfl, rfl, rfl⟩
  · rw [List.take_of_length_le (by omega)] at hP
    have e := hP.fin (fun x hx hn => absurd hx hn)
    simp only [w4] at e
    refine ⟨[_], [some 0], [], ⟨rfl, trivial⟩, ?_⟩
    simp only [go_sem, *]
end Go.Abs

namespace Go.Abs
open Go Go.Proofs Tryz
attribute [local irreducible] z3 Hold q7
def prB (i : Nat) (x : Plate) : Bool := if i = 0 then x.number.tmod 2 != 0 else x.number.tmod 2 == 0
def v9 (l : List Plate) (i : Nat) : List Plate := l.filter (prB i)
theorem zGD {l : List Plate} (h : Sound l) {i : Nat} {x y : Plate} (hy : y ∈ v9 l i) (hx : x ∈ l) : prB i x = (zLM x == zLM y) := by
 obtain ⟨hy1, hy2⟩ := List.mem_filter.1 hy
 have ox := (u0 x).1 (h.ok x hx)
 have oy := (u0 y).1 (h.ok y hy1)
 rw [Bool.eq_iff_iff, H0]
 unfold prB at *
 rw [P7 (by omega)] at *
 split at hy2 <;> simp_all <;> omega
theorem zBR {l : List Plate} (h : Sound l) {i : Nat} {y : Plate} (hy : y ∈ v9 l i) : l.filter (fun z => zLM z == zLM y) = v9 l i :=
 List.filter_congr (fun x hx => (zGD h hy hx).symm)
theorem zEs {l : List Plate} (h : Sound l) {i : Nat} (hi : i < 2) {y : Plate} (hy : y ∈ v9 l i) : y.number % 2 = 1 - i := by
 obtain ⟨hy1, hy2⟩ := List.mem_filter.1 hy
 have oy := (u0 y).1 (h.ok y hy1)
 unfold prB at hy2
 rw [P7 (by omega)] at hy2
 have : i = 0 ∨ i = 1 := by omega
 rcases this with rfl | rfl <;> simp at hy2 <;> omega
theorem zBP {l : List Plate} {x : Plate} (hx : x ∈ l) : x ∈ v9 l 0 ∨ x ∈ v9 l 1 := by
 by_cases h : x.number.tmod 2 = 0
 ·right; exact List.mem_filter.2 ⟨hx, by simp [prB, h]⟩
 ·left; exact List.mem_filter.2 ⟨hx, by simp [prB, h]⟩
theorem zBS {l : List Plate} {i : Nat} {y : Plate} (hy : y ∈ v9 l i) : y ∈ l := (List.mem_filter.1 hy).1
theorem zBQ {l : List Plate} (h : Sound l) {i j : Nat} (hj : j < (v9 l i).length) : (v9 l i).idxOf ((v9 l i).getD j default) = j := by
 have hn : (v9 l i).Nodup := h.nodup.filter _
 have hm := w6 hj
 have h1 := V6 hm
 have h2 : (v9 l i)[j] = (v9 l i).getD j default := by simp [List.getD, hj]
 exact (Q6 hn).1 (h1.trans h2.symm)
theorem zHl (p : zLI) (c : Change) (v : Valid p) (f : Fit p c) (k : c.kind = 1) : zLJ prog 169 [y5 p, c.enc, .mp 0] [.mapo (w5 p) (w4 p fun h => [h])] (iV 0) [.mapo (w5 p) (w4 p (mv p c))] := by
 have hs : c.street.toNat < p.length := by have := f.street; omega
 have hs0 := f.street.1
 have hs1 := f.street.2
 have hr := v.row c.street
 have hl8 := hr.len
 have hbl : ∀ i, (v9 (z9 p c.street) i).length ≤ 8 := fun i => Nat.le_trans (List.length_filter_le _ _) hl8
 have hb0 := hbl 0
 have hb1 := hbl 1
 have spo : zLJ prog 194 [y6 (z9 p c.street), fnV 195] [] (.own 0 2 0 (v9 (z9 p c.street) 0).length) [.row 2 ((v9 (z9 p c.street) 0).map Plate.enc)] :=
  G9 (by kernel_rfl) (fun x => by simpa [prB] using zAQ x) (z9 p c.street) (by omega)
 have spe : zLJ prog 194 [y6 (z9 p c.street), fnV 196] [] (.own 0 2 0 (v9 (z9 p c.street) 1).length) [.row 2 ((v9 (z9 p c.street) 1).map Plate.enc)] :=
  G9 (by kernel_rfl) (fun x => by simpa [prB] using zCS x) (z9 p c.street) (by omega)
 obtain ⟨L, hL⟩ : ∃ L, L = [v9 (z9 p c.street) 0, v9 (z9 p c.street) 1] := ⟨_, rfl⟩
 have hLb : L.map y6 = [y6 (v9 (z9 p c.street) 0), y6 (v9 (z9 p c.street) 1)] := by rw [hL]; rfl
 have hLl : L.length = 2 := by rw [hL]; rfl
 have hLg : ∀ i, i < 2 → L.getD i default = v9 (z9 p c.street) i := fun i hi => by
  have : i = 0 ∨ i = 1 := by omega
  rcases this with rfl | rfl <;> rw [hL] <;> rfl
 have hcov : ∀ x, x ∈ z9 p c.street → x ∈ (L.map id).flatten := fun x hx => by
  rw [hL]
  rcases zBP hx with h | h <;> simp [h]
 clear hL
 refine y3 func169 rfl (fun E hE => ?_); simp only [go_sem, ntmps169]
 repeat' (first | (show z3 ..; first | (refine Qr rfl ?_; try intro _ hK; try simp only [go_sem, *])) | (show Hold ..; first | refine Qh rfl ?_ | refine q6 rfl mixed (by kernel_rfl) ?_ | (refine z7 rfl ⟨_, rfl, fun hb => ?_, fun hb => ?_⟩ <;> (have hc := hb; try simp only [go_sem] at hc)) | refine z8 rfl ?_) | (refine Qb ?_ ?_; focus kernel_rfl) | (show q7 ..; first | (refine v5 (spo) ?_ ?_ ?_ ?_; (focus (simp only [go_sem, *]; done)); (focus (first | (simp; done) | (simp [go_sem]; done))); (focus (first | (simp; done) | (simp [go_sem]; done))); simp only [go_sem, *]) | (refine v5 (spe) ?_ ?_ ?_ ?_; (focus (simp only [go_sem, *]; done)); (focus (first | (simp; done) | (simp [go_sem]; done))); (focus (first | (simp; done) | (simp [go_sem]; done))); simp only [go_sem, *])) | ((with_reducible refine And.intro ?_ ?_); focus omega) | (refine z6 hK ?_; clear hK; simp only [go_sem, *]) | (simp only [z5, z4, go_sem, *]))
 refine y8 rfl (fun zn zN zenv zAs => ∃ (i : Nat) (g : House → List House), zn = (2) - i ∧ i ≤ (2) ∧ (Upd p c g (((L.take i).map id).flatten)) ∧ zN = 57 ∧ zenv = [(27, iV i), (26, iV 2), (25, .own 3 1 0 2), (4, .ptr 2 0), (3, .ptr 1 0), (2, .mp 0)] ∧ zAs = [.mapo (w5 p) (w4 p g), zLW p, zLq c, .box (L.map y6)]) (2) ⟨[some 0, some 1, some 2, some 5], [3, 4], _, _, _, (by (simp only [Weak, go_sem, List.map_append, List.map_set, *] <;> (try simp (disch := omega) only [q9]) <;> (try simp) <;> (try omega))), 0, fun h => [h], (by simp), (by simp), (by exact Upd.nil _ _), rfl, rfl, rfl⟩ ?_; rintro _ _ _ _ ⟨i, g, rfl, hi, hP, rfl, rfl, rfl⟩
 clear hLb
 repeat' (first | (show z3 ..; first | (refine Qr rfl ?_; try intro _ hK; try simp only [go_sem, *])) | (show Hold ..; first | refine Qh rfl ?_ | refine q6 rfl mixed (by kernel_rfl) ?_ | (refine z7 rfl ⟨_, rfl, fun hb => ?_, fun hb => ?_⟩ <;> (have hc := hb; try simp only [go_sem] at hc)) | refine z8 rfl ?_) | (refine Qb ?_ ?_; focus kernel_rfl) | ((with_reducible refine And.intro ?_ ?_); focus omega) | (refine z6 hK ?_; clear hK; simp only [go_sem, *]) | (simp only [z5, z4, go_sem, *]))
 ·have hi2 : i < 2 := by omega
  have hlb := hbl i
  generalize hl : v9 (z9 p c.street) i = l at *
  refine y8 rfl (fun zn zN zenv zAs => ∃ (j : Nat) (g : House → List House), zn = (l.length) - j ∧ j ≤ (l.length) ∧ (Upd p c g (((L.take i).map id).flatten ++ l.take j)) ∧ zN = 57 ∧ zenv = [(33, iV j), (32, iV l.length), (31, y6 l), (8, y6 l), (27, iV i), (26, iV 2), (25, .own 3 1 0 2), (4, .ptr 2 0), (3, .ptr 1 0), (2, .mp 0)] ∧ zAs = [.mapo (w5 p) (w4 p g), zLW p, zLq c, .box (L.map y6)]) (l.length) ⟨[some 0, some 1, some 2, some 3], [], _, _, _, (by (simp only [Weak, go_sem, List.map_append, List.map_set, *] <;> (try simp (disch := omega) only [q9]) <;> (try simp) <;> (try omega))), 0, g, (by simp), (by simp), (by simpa using hP), rfl, rfl, rfl⟩ ?_; rintro _ _ _ _ ⟨j, g, rfl, hj, hQ, rfl, rfl, rfl⟩
  have hw1 : j < l.length → IntKind.i64.wrap ((l.length : Int) - 1) = ((l.length - 1 : Nat) : Int) := fun h => by rw [wrap_i64 (by omega) (by omega)]; omega
  have hw2 : j < l.length → IntKind.i64.wrap (((l.length - 1 : Nat) : Int) - (j : Int)) = ((l.length - 1 - j : Nat) : Int) := fun h => by rw [wrap_i64 (by omega) (by omega)]; omega
  have hw3 : j < l.length → l.length - 1 - j < l.length := fun h => by omega
  repeat' (first | (show z3 ..; first | (refine Qr rfl ?_; try intro _ hK; try simp only [go_sem, *])) | (show Hold ..; first | refine Qh rfl ?_ | refine q6 rfl mixed (by kernel_rfl) ?_ | (refine z7 rfl ⟨_, rfl, fun hb => ?_, fun hb => ?_⟩ <;> (have hc := hb; try simp only [go_sem] at hc)) | refine z8 rfl ?_) | (refine Qb ?_ ?_; focus kernel_rfl) | ((with_reducible refine And.intro ?_ ?_); focus omega) | (refine z6 hK ?_; clear hK; simp only [go_sem, *]) | (simp only [z5, z4, go_sem, *]))
  ·have hmj : l.getD j default ∈ l := w6 (by assumption)
   have hown := zBR hr (i := i) (y := l.getD j default) (by rw [hl]; exact hmj)
   have hjx : l.idxOf (l.getD j default) = j := by have := zBQ hr (i := i) (j := j) (by rw [hl]; assumption); rwa [hl] at this
   refine T1 [⟨c.street, l.getD (l.length - 1 - j) default⟩] (g := g) (x := l.getD j default) v hs0 hs1 (zBS (i := i) (by rw [hl]; exact hmj)) (by simp only [go_sem, *]) (by simp only [go_sem, *]) rfl rfl (by rw [P9 k, hown, hl, hjx]) ?_
   simp only [go_sem, *]
   repeat' (first | (show z3 ..; first | (refine Qr rfl ?_; try intro _ hK; try simp only [go_sem, *])) | (show Hold ..; first | refine Qh rfl ?_ | refine q6 rfl mixed (by kernel_rfl) ?_ | (refine z7 rfl ⟨_, rfl, fun hb => ?_, fun hb => ?_⟩ <;> (have hc := hb; try simp only [go_sem] at hc)) | refine z8 rfl ?_) | (refine Qb ?_ ?_; focus kernel_rfl) | ((with_reducible refine And.intro ?_ ?_); focus omega) | (refine z6 hK ?_; clear hK; simp only [go_sem, *]) | (simp only [z5, z4, go_sem, *]))
   have e := j0 (l := l) (i := j) (by assumption)
   refine ⟨_, (by omega), [some 0, some 1, some 2, some 3], [], _, _, _, (by (simp only [Weak, go_sem, List.map_append, List.map_set, *] <;> (try simp (disch := omega) only [q9]) <;> (try simp) <;> (try omega))), j + 1, zLd p c g (l.getD j default), rfl, (by omega), (by rw [e, ← List.append_assoc]; exact hQ.one _), rfl, rfl, rfl⟩
  ·have e2 : l.take j = l := List.take_of_length_le (by omega)
   rw [e2] at hQ
   have e := j0 (l := L) (i := i) (by omega)
   rw [hLg i hi2, hl] at e
   refine ⟨_, (by omega), [some 0, some 1, some 2, some 3], [], _, _, _, (by (simp only [Weak, go_sem, List.map_append, List.map_set, *] <;> (try simp (disch := omega) only [q9]) <;> (try simp) <;> (try omega))), i + 1, g, rfl, (by omega), (by rw [e]; simpa using hQ), rfl, rfl, rfl⟩
 ·rw [List.take_of_length_le (by omega)] at hP
  have e := hP.fin (fun x hx hn => absurd (hcov x hx) hn)
  simp only [w4] at e
  refine ⟨[_], [some 0], [], ⟨rfl, trivial⟩, ?_⟩
  simp only [go_sem, *]
end Go.Abs

namespace Go.Abs
open Go Go.Proofs Tryz
attribute [local irreducible] z3 Hold q7
theorem zG8 (p : zLI) (c : Change) (v : Valid p) (f : Fit p c) (k : c.kind = 3) : zLJ prog 171 [y5 p, c.enc, .mp 0] [.mapo (w5 p) (w4 p fun h => [h])] (iV 0) [.mapo (w5 p) (w4 p (mv p c))] := by
 have hs : c.street.toNat < p.length := by have := f.street; omega
 have hs0 := f.street.1
 have hs1 := f.street.2
 have hr := v.row c.street
 have hl8 := hr.len
 have hbl : ∀ i, (v9 (z9 p c.street) i).length ≤ 8 := fun i => Nat.le_trans (List.length_filter_le _ _) hl8
 obtain ⟨Fs, hFs⟩ : ∃ Fs : List Nat, Fs = [195, 196] := ⟨_, rfl⟩
 have hFb : Fs.map fnV = [fnV 195, fnV 196] := by rw [hFs]; rfl
 have hFl : Fs.length = 2 := by rw [hFs]; rfl
 have hsp : ∀ i, i < 2 → zLJ prog 194 [y6 (z9 p c.street), fnV (Fs.getD i default)] [] (.own 0 2 0 (v9 (z9 p c.street) i).length) [.row 2 ((v9 (z9 p c.street) i).map Plate.enc)] := fun i hi => by
  have : i = 0 ∨ i = 1 := by omega
  rcases this with rfl | rfl <;> rw [hFs]
  ·exact G9 (by kernel_rfl) (fun x => by simpa [prB] using zAQ x) (z9 p c.street) (by omega)
  ·exact G9 (by kernel_rfl) (fun x => by simpa [prB] using zCS x) (z9 p c.street) (by omega)
 clear hFs
 refine y3 func171 rfl (fun E hE => ?_); simp only [go_sem, ntmps171]
 repeat' (first | (show z3 ..; first | (refine Qr rfl ?_; try intro _ hK; try simp only [go_sem, *])) | (show Hold ..; first | refine Qh rfl ?_ | refine q6 rfl mixed (by kernel_rfl) ?_ | (refine z7 rfl ⟨_, rfl, fun hb => ?_, fun hb => ?_⟩ <;> (have hc := hb; try simp only [go_sem] at hc)) | refine z8 rfl ?_) | (refine Qb ?_ ?_; focus kernel_rfl) | ((with_reducible refine And.intro ?_ ?_); focus omega) | (refine z6 hK ?_; clear hK; simp only [go_sem, *]) | (simp only [z5, z4, go_sem, *]))
 refine y8 rfl (fun zn zN zenv zAs => ∃ (i : Nat) (g : House → List House), zn = (2) - i ∧ i ≤ (2) ∧ (Upd p c g (((List.range i).map (v9 (z9 p c.street))).flatten)) ∧ zN = 48 ∧ zenv = [(13, iV i), (12, iV 2), (11, .own 3 1 0 2), (4, .ptr 2 0), (3, .ptr 1 0), (2, .mp 0)] ∧ zAs = [.mapo (w5 p) (w4 p g), zLW p, zLq c, .row 1 (Fs.map fnV)]) (2) ⟨[some 0, some 1, some 2, some 3], [], _, _, _, (by (simp only [Weak, go_sem, List.map_append, List.map_set, *] <;> (try simp (disch := omega) only [q9]) <;> (try simp) <;> (try omega))), 0, fun h => [h], (by simp), (by simp), (by exact Upd.nil _ _), rfl, rfl, rfl⟩ ?_; rintro _ _ _ _ ⟨i, g, rfl, hi, hP, rfl, rfl, rfl⟩
 clear hFb
 repeat' (first | (show z3 ..; first | (refine Qr rfl ?_; try intro _ hK; try simp only [go_sem, *])) | (show Hold ..; first | refine Qh rfl ?_ | refine q6 rfl mixed (by kernel_rfl) ?_ | (refine z7 rfl ⟨_, rfl, fun hb => ?_, fun hb => ?_⟩ <;> (have hc := hb; try simp only [go_sem] at hc)) | refine z8 rfl ?_) | (refine Qb ?_ ?_; focus kernel_rfl) | (show q7 ..; first | (refine v5 (hsp i (by omega)) ?_ ?_ ?_ ?_; (focus (simp only [go_sem, *]; done)); (focus (first | (simp; done) | (simp [go_sem]; done))); (focus (first | (simp; done) | (simp [go_sem]; done))); simp only [go_sem, *])) | ((with_reducible refine And.intro ?_ ?_); focus omega) | (refine z6 hK ?_; clear hK; simp only [go_sem, *]) | (simp only [z5, z4, go_sem, *]))
 ·have hi2 : i < 2 := by omega
  have hlb := hbl i
  generalize hl : v9 (z9 p c.street) i = l at *
  refine y8 rfl (fun zn zN zenv zAs => ∃ (j : Nat) (g : House → List House), zn = (l.length) - j ∧ j ≤ (l.length) ∧ (Upd p c g (((List.range i).map (v9 (z9 p c.street))).flatten ++ l.take j)) ∧ zN = 48 ∧ zenv = [(27, iV j), (26, iV l.length), (25, .own 4 2 0 l.length), (7, iV i), (13, iV i), (12, iV 2), (11, .own 3 1 0 2), (4, .ptr 2 0), (3, .ptr 1 0), (2, .mp 0)] ∧ zAs = [.mapo (w5 p) (w4 p g), zLW p, zLq c, .row 1 (Fs.map fnV), .row 2 (l.map Plate.enc)]) (l.length) ⟨[some 0, some 1, some 2, some 3, some 4], [], _, _, _, (by (simp only [Weak, go_sem, List.map_append, List.map_set, *] <;> (try simp (disch := omega) only [q9]) <;> (try simp) <;> (try omega))), 0, g, (by simp), (by simp), (by simpa using hP), rfl, rfl, rfl⟩ ?_; rintro _ _ _ _ ⟨j, g, rfl, hj, hQ, rfl, rfl, rfl⟩
  have hw1 : j < l.length → IntKind.i64.wrap (2 * (j : Int)) = 2 * (j : Int) := fun h => wrap_i64 (by omega) (by omega)
  have hw2 : j < l.length → IntKind.i64.wrap (2 * (j : Int) + 1) = 2 * (j : Int) + 1 := fun h => wrap_i64 (by omega) (by omega)
  have hw3 : j < l.length → IntKind.i64.wrap (2 * (j : Int) + 1 + (i : Int)) = 2 * (j : Int) + 1 + (i : Int) := fun h => wrap_i64 (by omega) (by omega)
  repeat' (first | (show z3 ..; first | (refine Qr rfl ?_; try intro _ hK; try simp only [go_sem, *])) | (show Hold ..; first | refine Qh rfl ?_ | refine q6 rfl mixed (by kernel_rfl) ?_ | (refine z7 rfl ⟨_, rfl, fun hb => ?_, fun hb => ?_⟩ <;> (have hc := hb; try simp only [go_sem] at hc)) | refine z8 rfl ?_) | (refine Qb ?_ ?_; focus kernel_rfl) | (show q7 ..; first | (refine q8 (L6 _ _ _) ?_ ?_; (focus (simp only [go_sem, *]; done)); simp only [go_sem, *])) | ((with_reducible refine And.intro ?_ ?_); focus omega) | (refine z6 hK ?_; clear hK; simp only [go_sem, *]) | (simp only [z5, z4, go_sem, *]))
  ·have hmj : l.getD j default ∈ l := w6 (by assumption)
   have hown := zBR hr (i := i) (y := l.getD j default) (by rw [hl]; exact hmj)
   have hjx : l.idxOf (l.getD j default) = j := by have := zBQ hr (i := i) (j := j) (by rw [hl]; assumption); rwa [hl] at this
   have hpar := zEs hr hi2 (y := l.getD j default) (by rw [hl]; exact hmj)
   refine T1 [⟨c.street, ⟨2 * (j : Int) + 1 + (i : Int), 0⟩⟩] (g := g) (x := l.getD j default) v hs0 hs1 (zBS (i := i) (by rw [hl]; exact hmj)) (by simp only [go_sem, *]) (by simp only [go_sem, *]) rfl rfl (by rw [P8 k, hown, hl, hjx, hpar]; congr 3; omega) ?_
   simp only [go_sem, *]
   repeat' (first | (show z3 ..; first | (refine Qr rfl ?_; try intro _ hK; try simp only [go_sem, *])) | (show Hold ..; first | refine Qh rfl ?_ | refine q6 rfl mixed (by kernel_rfl) ?_ | (refine z7 rfl ⟨_, rfl, fun hb => ?_, fun hb => ?_⟩ <;> (have hc := hb; try simp only [go_sem] at hc)) | refine z8 rfl ?_) | (refine Qb ?_ ?_; focus kernel_rfl) | ((with_reducible refine And.intro ?_ ?_); focus omega) | (refine z6 hK ?_; clear hK; simp only [go_sem, *]) | (simp only [z5, z4, go_sem, *]))
   have e := j0 (l := l) (i := j) (by assumption)
   refine ⟨_, (by omega), [some 0, some 1, some 2, some 3, some 4], [], _, _, _, (by (simp only [Weak, go_sem, List.map_append, List.map_set, *] <;> (try simp (disch := omega) only [q9]) <;> (try simp) <;> (try omega))), j + 1, zLd p c g (l.getD j default), rfl, (by omega), (by rw [e, ← List.append_assoc]; exact hQ.one _), rfl, rfl, rfl⟩
  ·have e2 : l.take j = l := List.take_of_length_le (by omega)
   rw [e2] at hQ
   refine ⟨_, (by omega), [some 0, some 1, some 2, some 3], [], _, _, _, (by (simp only [Weak, go_sem, List.map_append, List.map_set, *] <;> (try simp (disch := omega) only [q9]) <;> (try simp) <;> (try omega))), i + 1, g, rfl, (by omega), (by rw [List.range_succ]; simpa [hl] using hQ), rfl, rfl, rfl⟩
 ·have hi2 : i = 2 := by omega
  subst hi2
  have e := hP.fin (fun x hx hn => absurd (by rcases zBP hx with h | h <;> simp [List.range_succ, h]) hn)
  simp only [w4] at e
  refine ⟨[_], [some 0], [], ⟨rfl, trivial⟩, ?_⟩
  simp only [go_sem, *]
end Go.Abs

namespace Go.Abs
open Go Go.Proofs Tryz
attribute [local irreducible] z3 Hold q7
theorem D8 (m : Int) : ∀ (l : List Plate) (n : Int), n ≤ m → (∀ x, x ∈ l → x.number ≤ m) → l.foldl (fun n x => max n x.number) n ≤ m
 | [], n, h, _ => h
 | x :: r, n, h, hx => by
  rw [List.foldl_cons]
  have := hx x (by simp)
  exact D8 m r _ (by omega) (fun y hy => hx y (by simp [hy]))
theorem zBH : ∀ (l : List Plate) (n : Int), n ≤ l.foldl (fun n x => max n x.number) n ∧ ∀ x, x ∈ l → x.number ≤ l.foldl (fun n x => max n x.number) n
  | [], n => by simp
  | y :: r, n => by
    obtain ⟨h1, h2⟩ := zBH r (max n y.number)
    rw [List.foldl_cons]
    exact ⟨by omega, fun x hx => by rcases List.mem_cons.1 hx with rfl | hx; · omega
                                    · exact h2 x hx⟩
theorem zDF {l : List Plate} (h : Sound l) (h0 : 0 < l.length) : base l = (l.getD (l.length - 1) default).number + (l.getD (l.length - 1) default).number.tmod 2 := by
 have hm : l.getD (l.length - 1) default ∈ l := w6 (by omega)
 have hle : ∀ x, x ∈ l → x.number ≤ (l.getD (l.length - 1) default).number := fun x hx => by
  obtain ⟨i, hi, rfl⟩ := List.getElem_of_mem hx
  have hg : l.getD (l.length - 1) default = l[l.length - 1] := by simp [List.getD, show l.length - 1 < l.length by omega]
  rw [hg]
  by_cases e : i = l.length - 1
  ·subst e; omega
  ·have := (List.pairwise_iff_getElem.1 h.sorted) i (l.length - 1) hi (by omega) (by omega)
   rw [Plate.lt_iff] at this; omega
 have ho := (u0 _).1 (h.ok _ hm)
 have h1 := D8 _ l 0 (by omega) hle
 have h2 := (zBH l 0).2 _ hm
 unfold base
 rw [P7 (by omega)]
 simp only
 omega
theorem E1 {l : List Plate} (h : Sound l) : 0 ≤ base l ∧ base l ≤ 41 := by
 have h1 := D8 40 l 0 (by omega) (fun x hx => ((u0 x).1 (h.ok x hx)).1.2)
 have h2 := zAq l
 unfold base at *
 simp only at *
 omega
theorem J4 {p : zLI} {c : Change} (h : c.kind = 4) : y9 p c = if 8 < (z9 p c.street).length + (z9 p c.other).length then 6 else if (z9 p c.street).any (fun x => decide (40 < x.number + base (z9 p c.other))) = true then 1 else 0 := by
 unfold y9; rw [if_pos h]
@[go_sem] theorem zJ7 (n : Nat) : ((8 : Int) < (n : Int)) = (8 < n) := by simp; omega
def JoinP (p : zLI) (c : Change) (g : House → List House) (i : Nat) : Prop := Upd p c g ((z9 p c.street).take i) ∧ ∀ x, x ∈ (z9 p c.street).take i → x.number + base (z9 p c.other) ≤ 40
theorem JoinP.next {p : zLI} {c : Change} {g : House → List House} {i : Nat} (h : JoinP p c g i) (hi : i < (z9 p c.street).length) (hx : ((z9 p c.street).getD i default).number + base (z9 p c.other) ≤ 40) : JoinP p c (zLd p c g ((z9 p c.street).getD i default)) (i + 1) := by
 have e := j0 (l := z9 p c.street) (i := i) hi
 refine ⟨by rw [e]; exact h.1.one _, fun x hm => ?_⟩
 rw [e] at hm
 rcases List.mem_append.1 hm with hm | hm
 ·exact h.2 x hm
 ·simp only [List.mem_cons, List.not_mem_nil, or_false] at hm; subst hm; exact hx
theorem zHK (p : zLI) (c : Change) (v : Valid p) (f : Pre p c) (k : c.kind = 4) : zLJ prog 172 [y5 p, c.enc, .mp 0] [.mapo (w5 p) (w4 p fun h => [h])] (iV (y9 p c)) [zLQ p c] := by
  have hs0 := f.street.1
  have hs1 := f.street.2
  obtain ⟨ht0, ht1, _⟩ := f.other (.inl k)
  have hs : c.street.toNat < p.length := by omega
  have ht : c.other.toNat < p.length := by omega
  have hr := v.row c.street
  have hro := v.row c.other
  have hl8 := hr.len
  have ho8 := hro.len
  have hbb := E1 hro
  have hwl : IntKind.i64.wrap (((z9 p c.street).length : Int) + ((z9 p c.other).length : Int)) = (((z9 p c.street).length + (z9 p c.other).length : Nat) : Int) := by rw [wrap_i64 (by omega) (by omega)]; omega
  have hwn : 0 < (z9 p c.other).length → IntKind.i64.wrap (((z9 p c.other).length : Int) - 1) = (((z9 p c.other).length - 1 : Nat) : Int) := fun h => by rw [wrap_i64 (by omega) (by omega)]; omega
  have hlt : 0 < (z9 p c.other).length → (z9 p c.other).length - 1 < (z9 p c.other).length := fun h => by omega
  have hwb : 0 < (z9 p c.other).length → IntKind.i64.wrap (((z9 p c.other).getD ((z9 p c.other).length - 1) default).number + ((z9 p c.other).getD ((z9 p c.other).length - 1) default).number.tmod 2) = base (z9 p c.other) := fun h => by
    have e := zDF hro h
    rw [← e, wrap_i64 (by omega) (by omega)]
  have hb0 : (z9 p c.other).length ≤ 0 → base (z9 p c.other) = 0 := fun h => by rw [List.eq_nil_of_length_eq_zero (by omega : (z9 p c.other).length = 0)]; rfl
  refine y3 func172 rfl (fun E hE => ?_); simp only [go_sem, ntmps172]
  repeat' (first | (show z3 ..; first | (refine Qr rfl ?_; try intro _ hK; try simp only [go_sem, *])) | (show Hold ..; first | refine Qh rfl ?_ | refine q6 rfl mixed (by kernel_rfl) ?_ | (refine z7 rfl ⟨_, rfl, fun hb => ?_, fun hb => ?_⟩ <;> (have hc := hb; try simp only [go_sem] at hc)) | refine z8 rfl ?_) | (refine Qb ?_ ?_; focus kernel_rfl) | ((with_reducible refine And.intro ?_ ?_); focus omega) | (refine z6 hK ?_; clear hK; simp only [go_sem, *]) | (simp only [z5, z4, go_sem, *]))
  · have e : y9 p c = 6 := by rw [J4 k, if_pos (by omega)]
    have e2 : zLQ p c = .dead := by simp [zLQ, e]
    refine ⟨[_], [some 0], [], ⟨rfl, trivial⟩, ?_⟩
    simp only [go_sem, e, e2]
  all_goals
    have hnb : ¬ 8 < (z9 p c.street).length + (z9 p c.other).length := by omega
    refine y8 rfl (fun zn zN zenv zAs => ∃ (i : Nat) (g : House → List House), zn = ((z9 p c.street).length) - i ∧ i ≤ ((z9 p c.street).length) ∧ (JoinP p c g i) ∧ zN = 76 ∧ zenv = [(51, iV i), (50, iV (z9 p c.street).length), (49, y6 (z9 p c.street)), (9, iV (base (z9 p c.other))), (4, .ptr 2 0), (3, .ptr 1 0), (2, .mp 0)] ∧ zAs = [.mapo (w5 p) (w4 p g), zLW p, zLq c]) ((z9 p c.street).length) ⟨[some 0, some 1, some 2], [], _, _, _, (by (simp only [Weak, go_sem, List.map_append, List.map_set, *] <;> (try simp (disch := omega) only [q9]) <;> (try simp) <;> (try omega))), 0, fun h => [h], (by simp), (by simp), (by exact ⟨Upd.nil _ _, by simp⟩), rfl, rfl, rfl⟩ ?_; rintro _ _ _ _ ⟨i, g, rfl, hi, hP, rfl, rfl, rfl⟩
    clear hb0 hwb hlt hwn hwl
    have hx : i < (z9 p c.street).length → 1 ≤ ((z9 p c.street).getD i default).number ∧ ((z9 p c.street).getD i default).number ≤ 40 := fun h => ((u0 _).1 (hr.ok _ (w6 h))).1
    have hw1 : i < (z9 p c.street).length → IntKind.i64.wrap (((z9 p c.street).getD i default).number + base (z9 p c.other)) = ((z9 p c.street).getD i default).number + base (z9 p c.other) := fun h => by have := hx h; exact wrap_i64 (by omega) (by omega)
    repeat' (first | (show z3 ..; first | (refine Qr rfl ?_; try intro _ hK; try simp only [go_sem, *])) | (show Hold ..; first | refine Qh rfl ?_ | refine q6 rfl mixed (by kernel_rfl) ?_ | (refine z7 rfl ⟨_, rfl, fun hb => ?_, fun hb => ?_⟩ <;> (have hc := hb; try simp only [go_sem] at hc)) | refine z8 rfl ?_) | (refine Qb ?_ ?_; focus kernel_rfl) | (show q7 ..; first | (refine q8 (L6 _ _ _) ?_ ?_; (focus (simp only [go_sem, *]; done)); simp only [go_sem, *])) | ((with_reducible refine And.intro ?_ ?_); focus omega) | (refine z6 hK ?_; clear hK; simp only [go_sem, *]) | (simp only [z5, z4, go_sem, *]))
    · have e : y9 p c = 1 := by
        rw [J4 k, if_neg hnb, if_pos]
        rw [List.any_eq_true]
        exact ⟨_, w6 (by assumption), by simpa using (by assumption : (40 : Int) < ((z9 p c.street).getD i default).number + base (z9 p c.other))⟩
      have e2 : zLQ p c = .dead := by simp [zLQ, e]
      refine ⟨[_], [some 0], [], ⟨rfl, trivial⟩, ?_⟩
      simp only [go_sem, e, e2]
    · refine T1 [⟨c.other, ⟨((z9 p c.street).getD i default).number + base (z9 p c.other), ((z9 p c.street).getD i default).letter⟩⟩] (g := g) (x := (z9 p c.street).getD i default) v hs0 hs1 (w6 (by assumption)) (by simp only [go_sem, *]) (by simp only [go_sem, *]) rfl rfl (by rw [U8 k]) ?_
      simp only [go_sem, *]
      repeat' (first | (show z3 ..; first | (refine Qr rfl ?_; try intro _ hK; try simp only [go_sem, *])) | (show Hold ..; first | refine Qh rfl ?_ | refine q6 rfl mixed (by kernel_rfl) ?_ | (refine z7 rfl ⟨_, rfl, fun hb => ?_, fun hb => ?_⟩ <;> (have hc := hb; try simp only [go_sem] at hc)) | refine z8 rfl ?_) | (refine Qb ?_ ?_; focus kernel_rfl) | ((with_reducible refine And.intro ?_ ?_); focus omega) | (refine z6 hK ?_; clear hK; simp only [go_sem, *]) | (simp only [z5, z4, go_sem, *]))
      refine ⟨_, (by omega), [some 0, some 1, some 2], [], _, _, _, (by (simp only [Weak, go_sem, List.map_append, List.map_set, *] <;> (try simp (disch := omega) only [q9]) <;> (try simp) <;> (try omega))), i + 1, zLd p c g ((z9 p c.street).getD i default), rfl, (by omega), (by exact hP.next (by assumption) (by assumption)), rfl, rfl, rfl⟩
    · unfold JoinP at hP
      rw [List.take_of_length_le (by omega)] at hP
      have e0 := hP.1.fin (fun x hx hn => absurd hx hn)
      have e : y9 p c = 0 := by
        rw [J4 k, if_neg hnb, if_neg]
        rw [List.any_eq_true]
        rintro ⟨x, hx, h⟩
        have := hP.2 x hx
        simp at h; omega
      have e2 : zLQ p c = .mapo (w5 p) (w4 p g) := by rw [e0]; simp [zLQ, e]
      refine ⟨[_], [some 0], [], ⟨rfl, trivial⟩, ?_⟩
      simp only [go_sem, e, e2]
end Go.Abs

namespace Go.Abs
open Go Go.Proofs Tryz
attribute [local irreducible] z3 Hold q7
@[go_sem] theorem zI7 {x : Plate} {l : List Plate} : (decide (x ∈ l) = false) = (x ∉ l) := by simp
theorem zHB (p : zLI) (c : Change) (v : Valid p) (f : Pre p c) (k : c.kind = 6) : zLJ prog 174 [y5 p, c.enc, .mp 0] [.mapo (w5 p) (w4 p fun h => [h])] (iV (y9 p c)) [zLQ p c] := by
 have hs0 := f.street.1
 have hs1 := f.street.2
 have hs : c.street.toNat < p.length := by omega
 have hr := v.row c.street
 have hl8 := hr.len
 refine y3 func174 rfl (fun E hE => ?_); simp only [go_sem, ntmps174]
 repeat' (first | (show z3 ..; first | (refine Qr rfl ?_; try intro _ hK; try simp only [go_sem, *])) | (show Hold ..; first | refine Qh rfl ?_ | refine q6 rfl mixed (by kernel_rfl) ?_ | (refine z7 rfl ⟨_, rfl, fun hb => ?_, fun hb => ?_⟩ <;> (have hc := hb; try simp only [go_sem] at hc)) | refine z8 rfl ?_) | (refine Qb ?_ ?_; focus kernel_rfl) | (show q7 ..; first | (refine q8 (zAK (z9 p c.street) c.src (by omega)) ?_ ?_; (focus (simp only [go_sem, *]; done)); simp only [go_sem, *])) | ((with_reducible refine And.intro ?_ ?_); focus omega) | (refine z6 hK ?_; clear hK; simp only [go_sem, *]) | (simp only [z5, z4, go_sem, *]))
 ·have hm : c.src ∉ z9 p c.street := by assumption
  have e : y9 p c = 3 := by rw [D4 k, if_pos hm]
  have e2 : zLQ p c = .dead := by simp [zLQ, e]
  refine ⟨[_], [some 0], [], ⟨rfl, trivial⟩, ?_⟩
  simp only [go_sem, e, e2]
 ·have hm : c.src ∈ z9 p c.street := by assumption
  refine zH4 (g := fun h => [h]) v hs0 hs1 hm (by simp only [go_sem]) (by rw [U7 k, if_pos rfl]) ?_
  simp only [go_sem, *]
  repeat' (first | (show z3 ..; first | (refine Qr rfl ?_; try intro _ hK; try simp only [go_sem, *])) | (show Hold ..; first | refine Qh rfl ?_ | refine q6 rfl mixed (by kernel_rfl) ?_ | (refine z7 rfl ⟨_, rfl, fun hb => ?_, fun hb => ?_⟩ <;> (have hc := hb; try simp only [go_sem] at hc)) | refine z8 rfl ?_) | (refine Qb ?_ ?_; focus kernel_rfl) | ((with_reducible refine And.intro ?_ ?_); focus omega) | (refine z6 hK ?_; clear hK; simp only [go_sem, *]) | (simp only [z5, z4, go_sem, *]))
  have e : y9 p c = 0 := by rw [D4 k, if_neg (fun h => h hm)]
  have e0 := ((Upd.nil p c).one c.src).fin (fun x hx hn => by
   have : ¬ x = c.src := fun h => hn (by simp [h])
   rw [U7 k, if_neg this])
  have e2 : zLQ p c = .mapo (w5 p) (w4 p (zLd p c (fun h => [h]) c.src)) := by rw [e0]; simp [zLQ, e]
  refine ⟨[_], [some 0], [], ⟨rfl, trivial⟩, ?_⟩
  simp only [go_sem, e, e2]
theorem zFX {l : List Plate} {n : Int} (h : ∀ j : Nat, j < 4 → (⟨n, (j : Int) + 1⟩ : Plate) ∈ l) : letter l n = 0 := by
 have h0 := h 0; have h1 := h 1; have h2 := h 2; have h3 := h 3
 simp_all [letter]
@[go_sem] theorem zJ6 (n : Nat) : ((8 : Int) ≤ (n : Int)) = (8 ≤ n) := by simp; omega
theorem zHA (p : zLI) (c : Change) (v : Valid p) (f : Pre p c) (k : c.kind = 5) : zLJ prog 173 [y5 p, c.enc, .mp 0] [.mapo (w5 p) (w4 p fun h => [h])] (iV (y9 p c)) [zLQ p c] := by
  have hs0 := f.street.1
  have hs1 := f.street.2
  have hs : c.street.toNat < p.length := by omega
  have hr := v.row c.street
  have hl8 := hr.len
  refine y3 func173 rfl (fun E hE => ?_); simp only [go_sem, ntmps173]
  repeat' (first | (show z3 ..; first | (refine Qr rfl ?_; try intro _ hK; try simp only [go_sem, *]) | (refine Qi rfl rfl rfl rfl (fun hb _ hK => ?_) (fun hb => ?_) <;> (have hc := hb; try simp only [go_sem] at hc; simp only [go_sem, *]))) | (show Hold ..; first | refine Qh rfl ?_ | refine q6 rfl mixed (by kernel_rfl) ?_ | (refine z7 rfl ⟨_, rfl, fun hb => ?_, fun hb => ?_⟩ <;> (have hc := hb; try simp only [go_sem] at hc)) | refine z8 rfl ?_) | (refine Qb ?_ ?_; focus kernel_rfl) | (show q7 ..; first | (refine q8 (zAK (z9 p c.street) c.src (by omega)) ?_ ?_; (focus (simp only [go_sem, *]; done)); simp only [go_sem, *])) | ((with_reducible refine And.intro ?_ ?_); focus omega) | (refine z6 hK ?_; clear hK; simp only [go_sem, *]) | (simp only [z5, z4, go_sem, *]))
  · have hm : c.src ∉ z9 p c.street := by assumption
    have e : y9 p c = 3 := by rw [S4 k, if_pos hm]
    have e2 : zLQ p c = .dead := by simp [zLQ, e]
    refine ⟨[_], [some 0], [], ⟨rfl, trivial⟩, ?_⟩
    simp only [go_sem, e, e2]
  · have hm : c.src ∈ z9 p c.street := by assumption
    refine y8 rfl (fun zn zN zenv zAs => ∃ (i : Nat), zn = (4) - i ∧ i ≤ (4) ∧ (∀ j : Nat, j < i → (⟨c.src.number, (j : Int) + 1⟩ : Plate) ∈ z9 p c.street) ∧ zN = 53 ∧ zenv = [(8, iV ((i : Int) + 1)), (7, y6 (z9 p c.street)), (4, .ptr 2 0), (3, .ptr 1 0), (2, .mp 0)] ∧ zAs = [.mapo (w5 p) (w4 p fun h => [h]), zLW p, zLq c]) (4) ⟨[some 0, some 1, some 2], [], _, _, _, (by (simp only [Weak, go_sem, List.map_append, List.map_set, *] <;> (try simp (disch := omega) only [q9]) <;> (try simp) <;> (try omega))), 0, (by simp), (by simp), (by simp), rfl, rfl, rfl⟩ ?_; rintro _ _ _ _ ⟨i, rfl, hi, hP, rfl, rfl, rfl⟩
    have hw : i ≤ 4 → IntKind.i64.wrap ((i : Int) + 1 + 1) = (((i + 1 : Nat) : Int) + 1) := fun h => by rw [wrap_i64 (by omega) (by omega)]; omega
    repeat' (first | (show z3 ..; first | (refine Qr rfl ?_; try intro _ hK; try simp only [go_sem, *]) | (refine Qi rfl rfl rfl rfl (fun hb _ hK => ?_) (fun hb => ?_) <;> (have hc := hb; try simp only [go_sem] at hc; simp only [go_sem, *]))) | (show Hold ..; first | refine Qh rfl ?_ | refine q6 rfl mixed (by kernel_rfl) ?_ | (refine z7 rfl ⟨_, rfl, fun hb => ?_, fun hb => ?_⟩ <;> (have hc := hb; try simp only [go_sem] at hc)) | refine z8 rfl ?_) | (refine Qb ?_ ?_; focus kernel_rfl) | (show q7 ..; first | ((first | refine q8 (zAK (z9 p c.street) ⟨c.src.number, (i : Int) + 1⟩ (by omega)) ?_ ?_ | refine q8 (L6 _ _ _) ?_ ?_); (focus (simp only [go_sem, *]; done)); simp only [go_sem, *])) | ((with_reducible refine And.intro ?_ ?_); focus omega) | (refine z6 hK ?_; clear hK; simp only [go_sem, *]) | (simp only [z5, z4, go_sem, *]))
    · have hx : (⟨c.src.number, (i : Int) + 1⟩ : Plate) ∈ z9 p c.street := by assumption
      have hok := (u0 _).1 (hr.ok _ hx)
      simp only at hok
      have hi4 : i < 4 := by omega
      refine ⟨_, (by omega), [some 0, some 1, some 2], [], _, _, _, (by (simp only [Weak, go_sem, List.map_append, List.map_set, *] <;> (try simp (disch := omega) only [q9]) <;> (try simp) <;> (try omega))), i + 1, rfl, (by omega), (fun j hj => ?_), rfl, rfl, rfl⟩
      rcases Nat.lt_succ_iff_lt_or_eq.1 hj with h | h
      · exact hP j h
      · subst h; exact hx
    · have hn : (⟨c.src.number, (i : Int) + 1⟩ : Plate) ∉ z9 p c.street := by assumption
      have e : y9 p c = 6 := by
        have h4 : i = 4 := by omega
        subst h4
        rw [S4 k, if_neg (fun h => h hm), if_pos (.inr (zFX hP))]
      have e2 : zLQ p c = .dead := by simp [zLQ, e]
      refine ⟨[_], [some 0], [], ⟨rfl, trivial⟩, ?_⟩
      simp only [go_sem, e, e2]
    · have hn : (⟨c.src.number, (i : Int) + 1⟩ : Plate) ∉ z9 p c.street := by assumption
      have hi4 : i < 4 := by omega
      have hlet := zBj hi4 hP hn
      refine T1 [⟨c.street, c.src⟩, ⟨c.street, ⟨c.src.number, (i : Int) + 1⟩⟩] (g := fun h => [h]) v hs0 hs1 hm (by simp only [go_sem]) (by simp only [go_sem]) rfl rfl (by rw [W6 k, if_pos rfl, hlet]) ?_
      simp only [go_sem, *]
      repeat' (first | (show z3 ..; first | (refine Qr rfl ?_; try intro _ hK; try simp only [go_sem, *]) | (refine Qi rfl rfl rfl rfl (fun hb _ hK => ?_) (fun hb => ?_) <;> (have hc := hb; try simp only [go_sem] at hc; simp only [go_sem, *]))) | (show Hold ..; first | refine Qh rfl ?_ | refine q6 rfl mixed (by kernel_rfl) ?_ | (refine z7 rfl ⟨_, rfl, fun hb => ?_, fun hb => ?_⟩ <;> (have hc := hb; try simp only [go_sem] at hc)) | refine z8 rfl ?_) | (refine Qb ?_ ?_; focus kernel_rfl) | ((with_reducible refine And.intro ?_ ?_); focus omega) | (refine z6 hK ?_; clear hK; simp only [go_sem, *]) | (simp only [z5, z4, go_sem, *]))
      have e : y9 p c = 0 := by rw [S4 k, if_neg (fun h => h hm), if_neg (by omega)]
      have e0 := ((Upd.nil p c).one c.src).fin (fun x hx hn => by
        have : ¬ x = c.src := fun h => hn (by simp [h])
        rw [W6 k, if_neg this])
      have e2 : zLQ p c = .mapo (w5 p) (w4 p (zLd p c (fun h => [h]) c.src)) := by rw [e0]; simp [zLQ, e]
      refine ⟨[_], [some 0], [], ⟨rfl, trivial⟩, ?_⟩
      simp only [go_sem, e, e2]
    · have e : y9 p c = 6 := by
        rw [S4 k, if_neg (fun h => h hm), if_pos (.inl (by omega))]
      have e2 : zLQ p c = .dead := by simp [zLQ, e]
      refine ⟨[_], [some 0], [], ⟨rfl, trivial⟩, ?_⟩
      simp only [go_sem, e, e2]
end Go.Abs

namespace Go.Abs
open Go Go.Proofs Tryz
attribute [local irreducible] z3 Hold q7
@[go_sem] theorem zKD (n : Nat) : ((n : Int) < 0) = False := by simp
@[go_sem] theorem zI6 : decide False = false := rfl
@[go_sem] theorem zKG : ((-1 : Int) < 0) = True := by simp
theorem zG9 (p : zLI) (c : Change) (v : Valid p) (f : Pre p c) (k : c.kind = 7) : zLJ prog 175 [y5 p, c.enc, .mp 0] [.mapo (w5 p) (w4 p fun h => [h])] (iV (y9 p c)) [zLQ p c] := by
 have hs0 := f.street.1
 have hs1 := f.street.2
 obtain ⟨ht0, ht1, hne⟩ := f.other (.inr k)
 have hs : c.street.toNat < p.length := by omega
 have ht : c.other.toNat < p.length := by omega
 have hr := v.row c.street
 have hl8 := hr.len
 have ho8 := (v.row c.other).len
 have fail : ∀ n : Int, y9 p c = n → n ≠ 0 → zLQ p c = .dead := fun n e h => by simp [zLQ, e, h]
 by_cases hm : c.src ∈ z9 p c.street
 ·have hA := p5 hm
  have hAl := p6 hm
  by_cases hd : c.dst ∈ z9 p c.street
  ·have hB := p5 hd
   have hBl := p6 hd
   have hcmp := G8 hr.sorted hd hm
   generalize hAe : (z9 p c.street).idxOf c.src = A at *
   generalize hBe : (z9 p c.street).idxOf c.dst = B at *
   have hf := N2 (p := p) k
   rw [if_neg (by simp [hm, hd])] at hf
   have hwB : IntKind.i64.wrap ((B : Int) + 1) = ((B + 1 : Nat) : Int) := q9 (by omega)
   obtain ⟨l', hl'⟩ : ∃ l', l' = ((z9 p c.street).drop A).take (B + 1 - A) := ⟨_, rfl⟩
   have hll : ¬ B < A → l'.length = B + 1 - A := fun h => by rw [hl']; simp; omega
   by_cases hlt : B < A
   ·rw [if_pos (hcmp.2 hlt)] at hf
    have e2 := fail _ hf (by omega)
    refine y3 func175 rfl (fun E hE => ?_); simp only [go_sem, ntmps175]
    repeat' (first | (show z3 ..; first | (refine Qr rfl ?_; try intro _ hK; try simp only [go_sem, *]) | (refine Qi rfl rfl rfl rfl (fun hb _ hK => ?_) (fun hb => ?_) <;> (have hc := hb; try simp only [go_sem] at hc; simp only [go_sem, *]))) | (show Hold ..; first | refine Qh rfl ?_ | refine q6 rfl mixed (by kernel_rfl) ?_ | (refine z7 rfl ⟨_, rfl, fun hb => ?_, fun hb => ?_⟩ <;> (have hc := hb; try simp only [go_sem] at hc)) | refine z8 rfl ?_) | (refine Qb ?_ ?_; focus kernel_rfl) | (show q7 ..; first | ((first | refine q8 (e9 (z9 p c.street) c.src (by omega)) ?_ ?_ | refine q8 (e9 (z9 p c.street) c.dst (by omega)) ?_ ?_); (focus (simp only [go_sem, *]; done)); simp only [go_sem, *])) | ((with_reducible refine And.intro ?_ ?_); focus omega) | (refine z6 hK ?_; clear hK; simp only [go_sem, *]) | (simp only [z5, z4, go_sem, *]))
    all_goals first | (exfalso; omega) | (refine ⟨[_], [some 0], [], ⟨rfl, trivial⟩, ?_⟩; simp only [go_sem, *])
   ·rw [if_neg (fun h => hlt (hcmp.1 h))] at hf
    by_cases ho : 0 < (z9 p c.other).length
    ·rw [if_pos ho] at hf
     have e2 := fail _ hf (by omega)
     refine y3 func175 rfl (fun E hE => ?_); simp only [go_sem, ntmps175]
     repeat' (first | (show z3 ..; first | (refine Qr rfl ?_; try intro _ hK; try simp only [go_sem, *]) | (refine Qi rfl rfl rfl rfl (fun hb _ hK => ?_) (fun hb => ?_) <;> (have hc := hb; try simp only [go_sem] at hc; simp only [go_sem, *]))) | (show Hold ..; first | refine Qh rfl ?_ | refine q6 rfl mixed (by kernel_rfl) ?_ | (refine z7 rfl ⟨_, rfl, fun hb => ?_, fun hb => ?_⟩ <;> (have hc := hb; try simp only [go_sem] at hc)) | refine z8 rfl ?_) | (refine Qb ?_ ?_; focus kernel_rfl) | (show q7 ..; first | ((first | refine q8 (e9 (z9 p c.street) c.src (by omega)) ?_ ?_ | refine q8 (e9 (z9 p c.street) c.dst (by omega)) ?_ ?_); (focus (simp only [go_sem, *]; done)); simp only [go_sem, *])) | ((with_reducible refine And.intro ?_ ?_); focus omega) | (refine z6 hK ?_; clear hK; simp only [go_sem, *]) | (simp only [z5, z4, go_sem, *]))
     all_goals first | (exfalso; omega) | (refine ⟨[_], [some 0], [], ⟨rfl, trivial⟩, ?_⟩; simp only [go_sem, *])
    ·rw [if_neg ho] at hf
     have hAB : A ≤ B + 1 := by omega
     have hll := hll hlt
     have hm' : List.take (B + 1 - A) (List.drop A ((z9 p c.street).map Plate.enc)) = l'.map Plate.enc := by rw [hl', List.map_take, List.map_drop]
     have hget : ∀ i, i < l'.length → ∃ h : A + i < (z9 p c.street).length, l'.getD i default = (z9 p c.street)[A + i] := fun i hi => by
      have h : A + i < (z9 p c.street).length := by omega
      refine ⟨h, ?_⟩
      rw [hl']
      simp only [List.getD_eq_getElem?_getD, List.getElem?_take, List.getElem?_drop]
      rw [if_pos (by omega), List.getElem?_eq_getElem h]; rfl
     have hidx : ∀ i (h : i < (z9 p c.street).length), (z9 p c.street).idxOf (z9 p c.street)[i] = i := fun i h => by
      have := V6 (List.getElem_mem h)
      exact (Q6 hr.nodup).1 this
     have hcond : ∀ x, x ∈ z9 p c.street → ((x.lt c.src = false ∧ c.dst.lt x = false) ↔ A ≤ (z9 p c.street).idxOf x ∧ (z9 p c.street).idxOf x ≤ B) := fun x hx => by
      have h1 := G8 hr.sorted hx hm
      have h2 := G8 hr.sorted hd hx
      rw [hAe] at h1; rw [hBe] at h2
      rw [← Bool.not_eq_true, ← Bool.not_eq_true, h1, h2]; omega
     have htoP : ∀ i, i < l'.length → toP p c (l'.getD i default) = [⟨c.other, ⟨(i : Int) + 1, 0⟩⟩] ∧ l'.getD i default ∈ z9 p c.street := fun i hi => by
      obtain ⟨h, e⟩ := hget i hi
      rw [e]
      have hmx := List.getElem_mem h
      have hix := hidx _ h
      refine ⟨?_, hmx⟩
      rw [U6 k, if_pos ((hcond _ hmx).2 (by rw [hix]; omega)), p5 hmx, hA, hix]
      congr 3; omega
     have hcov : ∀ x, x ∈ z9 p c.street → x ∉ l' → toP p c x = [⟨c.street, x⟩] := fun x hx hn => by
      rw [U6 k, if_neg]
      rw [hcond x hx]
      rintro ⟨h1, h2⟩
      apply hn
      have hi : (z9 p c.street).idxOf x - A < l'.length := by omega
      obtain ⟨h, e⟩ := hget _ hi
      have : (z9 p c.street)[A + ((z9 p c.street).idxOf x - A)] = x := by
       have h4 : A + ((z9 p c.street).idxOf x - A) = (z9 p c.street).idxOf x := by omega
       simp only [h4]; exact V6 hx
      rw [this] at e
      rw [← e]; exact w6 hi
     clear hget hidx hcond hl'
     have hB8 : B + 1 ≤ (z9 p c.street).length := by omega
     refine y3 func175 rfl (fun E hE => ?_); simp only [go_sem, ntmps175]
     repeat' (first | (show z3 ..; first | (refine Qr rfl ?_; try intro _ hK; try simp only [go_sem, *]) | (refine Qi rfl rfl rfl rfl (fun hb _ hK => ?_) (fun hb => ?_) <;> (have hc := hb; try simp only [go_sem] at hc; simp only [go_sem, *]))) | (show Hold ..; first | refine Qh rfl ?_ | refine q6 rfl mixed (by kernel_rfl) ?_ | (refine z7 rfl ⟨_, rfl, fun hb => ?_, fun hb => ?_⟩ <;> (have hc := hb; try simp only [go_sem] at hc)) | refine z8 rfl ?_) | (refine Qb ?_ ?_; focus kernel_rfl) | (show q7 ..; first | ((first | refine q8 (e9 (z9 p c.street) c.src (by omega)) ?_ ?_ | refine q8 (e9 (z9 p c.street) c.dst (by omega)) ?_ ?_); (focus (simp only [go_sem, *]; done)); simp only [go_sem, *])) | ((with_reducible refine And.intro ?_ ?_); focus omega) | (refine z6 hK ?_; clear hK; simp only [go_sem, *]) | (simp only [z5, z4, go_sem, *]))
     all_goals first | (exfalso; omega) | skip
     refine ⟨fun y hy => by obtain ⟨x, _, rfl⟩ := List.mem_map.1 hy; rfl, ?_⟩
     try rw [hm']
     repeat' (first | (show z3 ..; first | (refine Qr rfl ?_; try intro _ hK; try simp only [go_sem, *]) | (refine Qi rfl rfl rfl rfl (fun hb _ hK => ?_) (fun hb => ?_) <;> (have hc := hb; try simp only [go_sem] at hc; simp only [go_sem, *]))) | (show Hold ..; first | refine Qh rfl ?_ | refine q6 rfl mixed (by kernel_rfl) ?_ | (refine z7 rfl ⟨_, rfl, fun hb => ?_, fun hb => ?_⟩ <;> (have hc := hb; try simp only [go_sem] at hc)) | refine z8 rfl ?_) | (refine Qb ?_ ?_; focus kernel_rfl) | ((with_reducible refine And.intro ?_ ?_); focus omega) | (refine z6 hK ?_; clear hK; simp only [go_sem, *]) | (simp only [z5, z4, go_sem, *]))
     refine y8 rfl (fun zn zN zenv zAs => ∃ (i : Nat) (g : House → List House), zn = (l'.length) - i ∧ i ≤ (l'.length) ∧ (Upd p c g (l'.take i)) ∧ zN = 69 ∧ zenv = [(52, iV i), (51, iV l'.length), (50, y6 l'), (4, .ptr 2 0), (3, .ptr 1 0), (2, .mp 0)] ∧ zAs = [.mapo (w5 p) (w4 p g), zLW p, zLq c]) (l'.length) ⟨[some 0, some 1, some 2], [], _, _, _, (by (simp only [Weak, go_sem, List.map_append, List.map_set, *] <;> (try simp (disch := omega) only [q9]) <;> (try simp) <;> (try omega))), 0, fun h => [h], (by simp), (by simp), (by exact Upd.nil _ _), rfl, rfl, rfl⟩ ?_; rintro _ _ _ _ ⟨i, g, rfl, hi, hP, rfl, rfl, rfl⟩
     have hw : i < l'.length → IntKind.i64.wrap ((i : Int) + 1) = (i : Int) + 1 := fun h => wrap_i64 (by omega) (by omega)
     repeat' (first | (show z3 ..; first | (refine Qr rfl ?_; try intro _ hK; try simp only [go_sem, *]) | (refine Qi rfl rfl rfl rfl (fun hb _ hK => ?_) (fun hb => ?_) <;> (have hc := hb; try simp only [go_sem] at hc; simp only [go_sem, *]))) | (show Hold ..; first | refine Qh rfl ?_ | refine q6 rfl mixed (by kernel_rfl) ?_ | (refine z7 rfl ⟨_, rfl, fun hb => ?_, fun hb => ?_⟩ <;> (have hc := hb; try simp only [go_sem] at hc)) | refine z8 rfl ?_) | (refine Qb ?_ ?_; focus kernel_rfl) | (show q7 ..; first | (refine q8 (L6 _ _ _) ?_ ?_; (focus (simp only [go_sem, *]; done)); simp only [go_sem, *])) | ((with_reducible refine And.intro ?_ ?_); focus omega) | (refine z6 hK ?_; clear hK; simp only [go_sem, *]) | (simp only [z5, z4, go_sem, *]))
     ·obtain ⟨q1, q2⟩ := htoP i (by omega)
      refine T1 [⟨c.other, ⟨(i : Int) + 1, 0⟩⟩] (g := g) (x := l'.getD i default) v hs0 hs1 q2 (by simp only [go_sem, *]) (by simp only [go_sem, *]) rfl rfl q1 ?_
      simp only [go_sem, *]
      repeat' (first | (show z3 ..; first | (refine Qr rfl ?_; try intro _ hK; try simp only [go_sem, *]) | (refine Qi rfl rfl rfl rfl (fun hb _ hK => ?_) (fun hb => ?_) <;> (have hc := hb; try simp only [go_sem] at hc; simp only [go_sem, *]))) | (show Hold ..; first | refine Qh rfl ?_ | refine q6 rfl mixed (by kernel_rfl) ?_ | (refine z7 rfl ⟨_, rfl, fun hb => ?_, fun hb => ?_⟩ <;> (have hc := hb; try simp only [go_sem] at hc)) | refine z8 rfl ?_) | (refine Qb ?_ ?_; focus kernel_rfl) | ((with_reducible refine And.intro ?_ ?_); focus omega) | (refine z6 hK ?_; clear hK; simp only [go_sem, *]) | (simp only [z5, z4, go_sem, *]))
      have e := j0 (l := l') (i := i) (by omega)
      refine ⟨_, (by omega), [some 0, some 1, some 2], [], _, _, _, (by (simp only [Weak, go_sem, List.map_append, List.map_set, *] <;> (try simp (disch := omega) only [q9]) <;> (try simp) <;> (try omega))), i + 1, zLd p c g (l'.getD i default), rfl, (by omega), (by rw [e]; exact hP.one _), rfl, rfl, rfl⟩
     ·rw [List.take_of_length_le (by omega)] at hP
      have e0 := hP.fin hcov
      have e2 : zLQ p c = .mapo (w5 p) (w4 p g) := by rw [e0]; simp [zLQ, hf]
      refine ⟨[_], [some 0], [], ⟨rfl, trivial⟩, ?_⟩
      simp only [go_sem, hf, e2]
  ·have hf : y9 p c = 3 := by rw [N2 k, if_pos (.inr hd)]
   have e2 := fail _ hf (by omega)
   have hB := S7 hd
   refine y3 func175 rfl (fun E hE => ?_); simp only [go_sem, ntmps175]
   repeat' (first | (show z3 ..; first | (refine Qr rfl ?_; try intro _ hK; try simp only [go_sem, *]) | (refine Qi rfl rfl rfl rfl (fun hb _ hK => ?_) (fun hb => ?_) <;> (have hc := hb; try simp only [go_sem] at hc; simp only [go_sem, *]))) | (show Hold ..; first | refine Qh rfl ?_ | refine q6 rfl mixed (by kernel_rfl) ?_ | (refine z7 rfl ⟨_, rfl, fun hb => ?_, fun hb => ?_⟩ <;> (have hc := hb; try simp only [go_sem] at hc)) | refine z8 rfl ?_) | (refine Qb ?_ ?_; focus kernel_rfl) | (show q7 ..; first | ((first | refine q8 (e9 (z9 p c.street) c.src (by omega)) ?_ ?_ | refine q8 (e9 (z9 p c.street) c.dst (by omega)) ?_ ?_); (focus (simp only [go_sem, *]; done)); simp only [go_sem, *])) | ((with_reducible refine And.intro ?_ ?_); focus omega) | (refine z6 hK ?_; clear hK; simp only [go_sem, *]) | (simp only [z5, z4, go_sem, *]))
   all_goals first | (exfalso; omega) | (refine ⟨[_], [some 0], [], ⟨rfl, trivial⟩, ?_⟩; simp only [go_sem, *])
 ·have hf : y9 p c = 3 := by rw [N2 k, if_pos (.inl hm)]
  have e2 := fail _ hf (by omega)
  have hA := S7 hm
  refine y3 func175 rfl (fun E hE => ?_); simp only [go_sem, ntmps175]
  repeat' (first | (show z3 ..; first | (refine Qr rfl ?_; try intro _ hK; try simp only [go_sem, *]) | (refine Qi rfl rfl rfl rfl (fun hb _ hK => ?_) (fun hb => ?_) <;> (have hc := hb; try simp only [go_sem] at hc; simp only [go_sem, *]))) | (show Hold ..; first | refine Qh rfl ?_ | refine q6 rfl mixed (by kernel_rfl) ?_ | (refine z7 rfl ⟨_, rfl, fun hb => ?_, fun hb => ?_⟩ <;> (have hc := hb; try simp only [go_sem] at hc)) | refine z8 rfl ?_) | (refine Qb ?_ ?_; focus kernel_rfl) | (show q7 ..; first | ((first | refine q8 (e9 (z9 p c.street) c.src (by omega)) ?_ ?_ | refine q8 (e9 (z9 p c.street) c.dst (by omega)) ?_ ?_); (focus (simp only [go_sem, *]; done)); simp only [go_sem, *])) | ((with_reducible refine And.intro ?_ ?_); focus omega) | (refine z6 hK ?_; clear hK; simp only [go_sem, *]) | (simp only [z5, z4, go_sem, *]))
  all_goals first | (exfalso; omega) | (refine ⟨[_], [some 0], [], ⟨rfl, trivial⟩, ?_⟩; simp only [go_sem, *])
end Go.Abs

namespace Go.Abs
open Go Go.Proofs Tryz
attribute [local irreducible] z3 Hold q7
theorem zDl (p : zLI) (c : Change) (hl : p.length ≤ 1000) (hbk : zLL c.kind 1 7 = false) : zLJ prog 125 [y5 p, c.enc] [] (.tup [.raw (.map none), iV 8]) [] := by
 have hwl : IntKind.i64.wrap ((p.length : Int) - 1) = (p.length : Int) - 1 := wrap_i64 (by omega) (by omega)
 refine y3 func125 rfl (fun E hE => ?_); simp only [go_sem, ntmps125]
 repeat' (first | (show z3 ..; first | (refine Qr rfl ?_; try intro _ hK; try simp only [go_sem, *]) | (refine Qi rfl rfl rfl rfl (fun hb _ hK => ?_) (fun hb => ?_) <;> (have hc := hb; try simp only [go_sem] at hc; simp only [go_sem, *]))) | (show Hold ..; first | refine Qh rfl ?_ | refine q6 rfl mixed (by kernel_rfl) ?_ | (refine z7 rfl ⟨_, rfl, fun hb => ?_, fun hb => ?_⟩ <;> (have hc := hb; try simp only [go_sem] at hc)) | refine z8 rfl ?_) | (refine Qb ?_ ?_; focus kernel_rfl) | (show q7 ..; first | (refine q8 (t7 _ _ _) ?_ ?_; (focus (simp only [go_sem, *]; done)); simp only [go_sem, *])) | ((with_reducible refine And.intro ?_ ?_); focus omega) | (refine z6 hK ?_; clear hK; simp only [go_sem, *]) | (simp only [z5, z4, go_sem, *]))
 all_goals (refine ⟨[_, _], [], [], ⟨rfl, rfl, trivial⟩, ?_⟩; simp only [go_sem, *])
theorem zDq (p : zLI) (c : Change) (hl : p.length ≤ 1000) (hbk : zLL c.kind 1 7 = true) (hbs : zLL c.street 0 ((p.length : Int) - 1) = false) : zLJ prog 125 [y5 p, c.enc] [] (.tup [.raw (.map none), iV 3]) [] := by
 have hwl : IntKind.i64.wrap ((p.length : Int) - 1) = (p.length : Int) - 1 := wrap_i64 (by omega) (by omega)
 refine y3 func125 rfl (fun E hE => ?_); simp only [go_sem, ntmps125]
 repeat' (first | (show z3 ..; first | (refine Qr rfl ?_; try intro _ hK; try simp only [go_sem, *]) | (refine Qi rfl rfl rfl rfl (fun hb _ hK => ?_) (fun hb => ?_) <;> (have hc := hb; try simp only [go_sem] at hc; simp only [go_sem, *]))) | (show Hold ..; first | refine Qh rfl ?_ | refine q6 rfl mixed (by kernel_rfl) ?_ | (refine z7 rfl ⟨_, rfl, fun hb => ?_, fun hb => ?_⟩ <;> (have hc := hb; try simp only [go_sem] at hc)) | refine z8 rfl ?_) | (refine Qb ?_ ?_; focus kernel_rfl) | (show q7 ..; first | (refine q8 (t7 _ _ _) ?_ ?_; (focus (simp only [go_sem, *]; done)); simp only [go_sem, *])) | ((with_reducible refine And.intro ?_ ?_); focus omega) | (refine z6 hK ?_; clear hK; simp only [go_sem, *]) | (simp only [z5, z4, go_sem, *]))
 all_goals (refine ⟨[_, _], [], [], ⟨rfl, rfl, trivial⟩, ?_⟩; simp only [go_sem, *])
theorem zDm (p : zLI) (c : Change) (hl : p.length ≤ 1000) (hbk : zLL c.kind 1 7 = true) (hbs : zLL c.street 0 ((p.length : Int) - 1) = true) (hk4 : (c.kind == 4) = true) (hbo : zLL c.other 0 ((p.length : Int) - 1) = false) : zLJ prog 125 [y5 p, c.enc] [] (.tup [.raw (.map none), iV 3]) [] := by
 have hwl : IntKind.i64.wrap ((p.length : Int) - 1) = (p.length : Int) - 1 := wrap_i64 (by omega) (by omega)
 refine y3 func125 rfl (fun E hE => ?_); simp only [go_sem, ntmps125]
 repeat' (first | (show z3 ..; first | (refine Qr rfl ?_; try intro _ hK; try simp only [go_sem, *]) | (refine Qi rfl rfl rfl rfl (fun hb _ hK => ?_) (fun hb => ?_) <;> (have hc := hb; try simp only [go_sem] at hc; simp only [go_sem, *]))) | (show Hold ..; first | refine Qh rfl ?_ | refine q6 rfl mixed (by kernel_rfl) ?_ | (refine z7 rfl ⟨_, rfl, fun hb => ?_, fun hb => ?_⟩ <;> (have hc := hb; try simp only [go_sem] at hc)) | refine z8 rfl ?_) | (refine Qb ?_ ?_; focus kernel_rfl) | (show q7 ..; first | (refine q8 (t7 _ _ _) ?_ ?_; (focus (simp only [go_sem, *]; done)); simp only [go_sem, *])) | ((with_reducible refine And.intro ?_ ?_); focus omega) | (refine z6 hK ?_; clear hK; simp only [go_sem, *]) | (simp only [z5, z4, go_sem, *]))
 all_goals (refine ⟨[_, _], [], [], ⟨rfl, rfl, trivial⟩, ?_⟩; simp only [go_sem, *])
theorem zDn (p : zLI) (c : Change) (hl : p.length ≤ 1000) (hbk : zLL c.kind 1 7 = true) (hbs : zLL c.street 0 ((p.length : Int) - 1) = true) (hk4 : (c.kind == 4) = false) (hk7 : (c.kind == 7) = true) (hbo : zLL c.other 0 ((p.length : Int) - 1) = false) : zLJ prog 125 [y5 p, c.enc] [] (.tup [.raw (.map none), iV 3]) [] := by
 have hwl : IntKind.i64.wrap ((p.length : Int) - 1) = (p.length : Int) - 1 := wrap_i64 (by omega) (by omega)
 refine y3 func125 rfl (fun E hE => ?_); simp only [go_sem, ntmps125]
 repeat' (first | (show z3 ..; first | (refine Qr rfl ?_; try intro _ hK; try simp only [go_sem, *]) | (refine Qi rfl rfl rfl rfl (fun hb _ hK => ?_) (fun hb => ?_) <;> (have hc := hb; try simp only [go_sem] at hc; simp only [go_sem, *]))) | (show Hold ..; first | refine Qh rfl ?_ | refine q6 rfl mixed (by kernel_rfl) ?_ | (refine z7 rfl ⟨_, rfl, fun hb => ?_, fun hb => ?_⟩ <;> (have hc := hb; try simp only [go_sem] at hc)) | refine z8 rfl ?_) | (refine Qb ?_ ?_; focus kernel_rfl) | (show q7 ..; first | (refine q8 (t7 _ _ _) ?_ ?_; (focus (simp only [go_sem, *]; done)); simp only [go_sem, *])) | ((with_reducible refine And.intro ?_ ?_); focus omega) | (refine z6 hK ?_; clear hK; simp only [go_sem, *]) | (simp only [z5, z4, go_sem, *]))
 all_goals (refine ⟨[_, _], [], [], ⟨rfl, rfl, trivial⟩, ?_⟩; simp only [go_sem, *])
theorem zDo (p : zLI) (c : Change) (hl : p.length ≤ 1000) (hbk : zLL c.kind 1 7 = true) (hbs : zLL c.street 0 ((p.length : Int) - 1) = true) (hk4 : (c.kind == 4) = true) (hbo : zLL c.other 0 ((p.length : Int) - 1) = true) (hrp : (c.other == c.street) = true) : zLJ prog 125 [y5 p, c.enc] [] (.tup [.raw (.map none), iV 4]) [] := by
 have hwl : IntKind.i64.wrap ((p.length : Int) - 1) = (p.length : Int) - 1 := wrap_i64 (by omega) (by omega)
 refine y3 func125 rfl (fun E hE => ?_); simp only [go_sem, ntmps125]
 repeat' (first | (show z3 ..; first | (refine Qr rfl ?_; try intro _ hK; try simp only [go_sem, *]) | (refine Qi rfl rfl rfl rfl (fun hb _ hK => ?_) (fun hb => ?_) <;> (have hc := hb; try simp only [go_sem] at hc; simp only [go_sem, *]))) | (show Hold ..; first | refine Qh rfl ?_ | refine q6 rfl mixed (by kernel_rfl) ?_ | (refine z7 rfl ⟨_, rfl, fun hb => ?_, fun hb => ?_⟩ <;> (have hc := hb; try simp only [go_sem] at hc)) | refine z8 rfl ?_) | (refine Qb ?_ ?_; focus kernel_rfl) | (show q7 ..; first | (refine q8 (t7 _ _ _) ?_ ?_; (focus (simp only [go_sem, *]; done)); simp only [go_sem, *])) | ((with_reducible refine And.intro ?_ ?_); focus omega) | (refine z6 hK ?_; clear hK; simp only [go_sem, *]) | (simp only [z5, z4, go_sem, *]))
 all_goals (refine ⟨[_, _], [], [], ⟨rfl, rfl, trivial⟩, ?_⟩; simp only [go_sem, *])
theorem zDp (p : zLI) (c : Change) (hl : p.length ≤ 1000) (hbk : zLL c.kind 1 7 = true) (hbs : zLL c.street 0 ((p.length : Int) - 1) = true) (hk4 : (c.kind == 4) = false) (hk7 : (c.kind == 7) = true) (hbo : zLL c.other 0 ((p.length : Int) - 1) = true) (hrp : (c.other == c.street) = true) : zLJ prog 125 [y5 p, c.enc] [] (.tup [.raw (.map none), iV 4]) [] := by
 have hwl : IntKind.i64.wrap ((p.length : Int) - 1) = (p.length : Int) - 1 := wrap_i64 (by omega) (by omega)
 refine y3 func125 rfl (fun E hE => ?_); simp only [go_sem, ntmps125]
 repeat' (first | (show z3 ..; first | (refine Qr rfl ?_; try intro _ hK; try simp only [go_sem, *]) | (refine Qi rfl rfl rfl rfl (fun hb _ hK => ?_) (fun hb => ?_) <;> (have hc := hb; try simp only [go_sem] at hc; simp only [go_sem, *]))) | (show Hold ..; first | refine Qh rfl ?_ | refine q6 rfl mixed (by kernel_rfl) ?_ | (refine z7 rfl ⟨_, rfl, fun hb => ?_, fun hb => ?_⟩ <;> (have hc := hb; try simp only [go_sem] at hc)) | refine z8 rfl ?_) | (refine Qb ?_ ?_; focus kernel_rfl) | (show q7 ..; first | (refine q8 (t7 _ _ _) ?_ ?_; (focus (simp only [go_sem, *]; done)); simp only [go_sem, *])) | ((with_reducible refine And.intro ?_ ?_); focus omega) | (refine z6 hK ?_; clear hK; simp only [go_sem, *]) | (simp only [z5, z4, go_sem, *]))
 all_goals (refine ⟨[_, _], [], [], ⟨rfl, rfl, trivial⟩, ?_⟩; simp only [go_sem, *])
theorem zDY (p : zLI) (c : Change) (hl : p.length ≤ 1000) (hbk : zLL c.kind 1 7 = true) (hbs : zLL c.street 0 ((p.length : Int) - 1) = true) (hk4 : (c.kind == 4) = false) (hk7 : (c.kind == 7) = false) (hco : (c.other != 0) = true) : zLJ prog 125 [y5 p, c.enc] [] (.tup [.raw (.map none), iV 1]) [] := by
 have hwl : IntKind.i64.wrap ((p.length : Int) - 1) = (p.length : Int) - 1 := wrap_i64 (by omega) (by omega)
 refine y3 func125 rfl (fun E hE => ?_); simp only [go_sem, ntmps125]
 repeat' (first | (show z3 ..; first | (refine Qr rfl ?_; try intro _ hK; try simp only [go_sem, *]) | (refine Qi rfl rfl rfl rfl (fun hb _ hK => ?_) (fun hb => ?_) <;> (have hc := hb; try simp only [go_sem] at hc; simp only [go_sem, *]))) | (show Hold ..; first | refine Qh rfl ?_ | refine q6 rfl mixed (by kernel_rfl) ?_ | (refine z7 rfl ⟨_, rfl, fun hb => ?_, fun hb => ?_⟩ <;> (have hc := hb; try simp only [go_sem] at hc)) | refine z8 rfl ?_) | (refine Qb ?_ ?_; focus kernel_rfl) | (show q7 ..; first | (refine q8 (t7 _ _ _) ?_ ?_; (focus (simp only [go_sem, *]; done)); simp only [go_sem, *])) | ((with_reducible refine And.intro ?_ ?_); focus omega) | (refine z6 hK ?_; clear hK; simp only [go_sem, *]) | (simp only [z5, z4, go_sem, *]))
 all_goals (refine ⟨[_, _], [], [], ⟨rfl, rfl, trivial⟩, ?_⟩; simp only [go_sem, *])
theorem zDa (p : zLI) (c : Change) (hl : p.length ≤ 1000) (hbk : zLL c.kind 1 7 = true) (hbs : zLL c.street 0 ((p.length : Int) - 1) = true) (hk4 : (c.kind == 4) = true) (hbo : zLL c.other 0 ((p.length : Int) - 1) = true) (hrp : (c.other == c.street) = false) (hk5 : decide (c.kind ≥ 5) = false) (hsz : (c.src.number == 0 && c.src.letter == 0) = false) : zLJ prog 125 [y5 p, c.enc] [] (.tup [.raw (.map none), iV 1]) [] := by
 have hwl : IntKind.i64.wrap ((p.length : Int) - 1) = (p.length : Int) - 1 := wrap_i64 (by omega) (by omega)
 refine y3 func125 rfl (fun E hE => ?_); simp only [go_sem, ntmps125]
 repeat' (first | (show z3 ..; first | (refine Qr rfl ?_; try intro _ hK; try simp only [go_sem, *]) | (refine Qi rfl rfl rfl rfl (fun hb _ hK => ?_) (fun hb => ?_) <;> (have hc := hb; try simp only [go_sem] at hc; simp only [go_sem, *]))) | (show Hold ..; first | refine Qh rfl ?_ | refine q6 rfl mixed (by kernel_rfl) ?_ | (refine z7 rfl ⟨_, rfl, fun hb => ?_, fun hb => ?_⟩ <;> (have hc := hb; try simp only [go_sem] at hc)) | refine z8 rfl ?_) | (refine Qb ?_ ?_; focus kernel_rfl) | (show q7 ..; first | (refine q8 (t7 _ _ _) ?_ ?_; (focus (simp only [go_sem, *]; done)); simp only [go_sem, *])) | ((with_reducible refine And.intro ?_ ?_); focus omega) | (refine z6 hK ?_; clear hK; simp only [go_sem, *]) | (simp only [z5, z4, go_sem, *]))
 all_goals (refine ⟨[_, _], [], [], ⟨rfl, rfl, trivial⟩, ?_⟩; simp only [go_sem, *])
theorem zDZ (p : zLI) (c : Change) (hl : p.length ≤ 1000) (hbk : zLL c.kind 1 7 = true) (hbs : zLL c.street 0 ((p.length : Int) - 1) = true) (hk4 : (c.kind == 4) = false) (hk7 : (c.kind == 7) = false) (hco : (c.other != 0) = false) (hk5 : decide (c.kind ≥ 5) = false) (hsz : (c.src.number == 0 && c.src.letter == 0) = false) : zLJ prog 125 [y5 p, c.enc] [] (.tup [.raw (.map none), iV 1]) [] := by
 have hwl : IntKind.i64.wrap ((p.length : Int) - 1) = (p.length : Int) - 1 := wrap_i64 (by omega) (by omega)
 refine y3 func125 rfl (fun E hE => ?_); simp only [go_sem, ntmps125]
 repeat' (first | (show z3 ..; first | (refine Qr rfl ?_; try intro _ hK; try simp only [go_sem, *]) | (refine Qi rfl rfl rfl rfl (fun hb _ hK => ?_) (fun hb => ?_) <;> (have hc := hb; try simp only [go_sem] at hc; simp only [go_sem, *]))) | (show Hold ..; first | refine Qh rfl ?_ | refine q6 rfl mixed (by kernel_rfl) ?_ | (refine z7 rfl ⟨_, rfl, fun hb => ?_, fun hb => ?_⟩ <;> (have hc := hb; try simp only [go_sem] at hc)) | refine z8 rfl ?_) | (refine Qb ?_ ?_; focus kernel_rfl) | (show q7 ..; first | (refine q8 (t7 _ _ _) ?_ ?_; (focus (simp only [go_sem, *]; done)); simp only [go_sem, *])) | ((with_reducible refine And.intro ?_ ?_); focus omega) | (refine z6 hK ?_; clear hK; simp only [go_sem, *]) | (simp only [z5, z4, go_sem, *]))
 all_goals (refine ⟨[_, _], [], [], ⟨rfl, rfl, trivial⟩, ?_⟩; simp only [go_sem, *])
theorem zDc (p : zLI) (c : Change) (hl : p.length ≤ 1000) (hbk : zLL c.kind 1 7 = true) (hbs : zLL c.street 0 ((p.length : Int) - 1) = true) (hk4 : (c.kind == 4) = true) (hk7 : (c.kind == 7) = false) (hbo : zLL c.other 0 ((p.length : Int) - 1) = true) (hrp : (c.other == c.street) = false) (hk5 : decide (c.kind ≥ 5) = false) (hsz : (c.src.number == 0 && c.src.letter == 0) = true) (hdz : (c.dst.number == 0 && c.dst.letter == 0) = false) : zLJ prog 125 [y5 p, c.enc] [] (.tup [.raw (.map none), iV 1]) [] := by
 have hwl : IntKind.i64.wrap ((p.length : Int) - 1) = (p.length : Int) - 1 := wrap_i64 (by omega) (by omega)
 refine y3 func125 rfl (fun E hE => ?_); simp only [go_sem, ntmps125]
 repeat' (first | (show z3 ..; first | (refine Qr rfl ?_; try intro _ hK; try simp only [go_sem, *]) | (refine Qi rfl rfl rfl rfl (fun hb _ hK => ?_) (fun hb => ?_) <;> (have hc := hb; try simp only [go_sem] at hc; simp only [go_sem, *]))) | (show Hold ..; first | refine Qh rfl ?_ | refine q6 rfl mixed (by kernel_rfl) ?_ | (refine z7 rfl ⟨_, rfl, fun hb => ?_, fun hb => ?_⟩ <;> (have hc := hb; try simp only [go_sem] at hc)) | refine z8 rfl ?_) | (refine Qb ?_ ?_; focus kernel_rfl) | (show q7 ..; first | (refine q8 (t7 _ _ _) ?_ ?_; (focus (simp only [go_sem, *]; done)); simp only [go_sem, *])) | ((with_reducible refine And.intro ?_ ?_); focus omega) | (refine z6 hK ?_; clear hK; simp only [go_sem, *]) | (simp only [z5, z4, go_sem, *]))
 all_goals (refine ⟨[_, _], [], [], ⟨rfl, rfl, trivial⟩, ?_⟩; simp only [go_sem, *])
theorem zDb (p : zLI) (c : Change) (hl : p.length ≤ 1000) (hbk : zLL c.kind 1 7 = true) (hbs : zLL c.street 0 ((p.length : Int) - 1) = true) (hk4 : (c.kind == 4) = false) (hk7 : (c.kind == 7) = false) (hco : (c.other != 0) = false) (hk5 : decide (c.kind ≥ 5) = false) (hsz : (c.src.number == 0 && c.src.letter == 0) = true) (hdz : (c.dst.number == 0 && c.dst.letter == 0) = false) : zLJ prog 125 [y5 p, c.enc] [] (.tup [.raw (.map none), iV 1]) [] := by
 have hwl : IntKind.i64.wrap ((p.length : Int) - 1) = (p.length : Int) - 1 := wrap_i64 (by omega) (by omega)
 refine y3 func125 rfl (fun E hE => ?_); simp only [go_sem, ntmps125]
 repeat' (first | (show z3 ..; first | (refine Qr rfl ?_; try intro _ hK; try simp only [go_sem, *]) | (refine Qi rfl rfl rfl rfl (fun hb _ hK => ?_) (fun hb => ?_) <;> (have hc := hb; try simp only [go_sem] at hc; simp only [go_sem, *]))) | (show Hold ..; first | refine Qh rfl ?_ | refine q6 rfl mixed (by kernel_rfl) ?_ | (refine z7 rfl ⟨_, rfl, fun hb => ?_, fun hb => ?_⟩ <;> (have hc := hb; try simp only [go_sem] at hc)) | refine z8 rfl ?_) | (refine Qb ?_ ?_; focus kernel_rfl) | (show q7 ..; first | (refine q8 (t7 _ _ _) ?_ ?_; (focus (simp only [go_sem, *]; done)); simp only [go_sem, *])) | ((with_reducible refine And.intro ?_ ?_); focus omega) | (refine z6 hK ?_; clear hK; simp only [go_sem, *]) | (simp only [z5, z4, go_sem, *]))
 all_goals (refine ⟨[_, _], [], [], ⟨rfl, rfl, trivial⟩, ?_⟩; simp only [go_sem, *])
theorem zDd (p : zLI) (c : Change) (hl : p.length ≤ 1000) (hbk : zLL c.kind 1 7 = true) (hbs : zLL c.street 0 ((p.length : Int) - 1) = true) (hk4 : (c.kind == 4) = false) (hk7 : (c.kind == 7) = false) (hco : (c.other != 0) = false) (hk5 : decide (c.kind ≥ 5) = true) (hdz : (c.dst.number == 0 && c.dst.letter == 0) = false) : zLJ prog 125 [y5 p, c.enc] [] (.tup [.raw (.map none), iV 1]) [] := by
 have hwl : IntKind.i64.wrap ((p.length : Int) - 1) = (p.length : Int) - 1 := wrap_i64 (by omega) (by omega)
 refine y3 func125 rfl (fun E hE => ?_); simp only [go_sem, ntmps125]
 repeat' (first | (show z3 ..; first | (refine Qr rfl ?_; try intro _ hK; try simp only [go_sem, *]) | (refine Qi rfl rfl rfl rfl (fun hb _ hK => ?_) (fun hb => ?_) <;> (have hc := hb; try simp only [go_sem] at hc; simp only [go_sem, *]))) | (show Hold ..; first | refine Qh rfl ?_ | refine q6 rfl mixed (by kernel_rfl) ?_ | (refine z7 rfl ⟨_, rfl, fun hb => ?_, fun hb => ?_⟩ <;> (have hc := hb; try simp only [go_sem] at hc)) | refine z8 rfl ?_) | (refine Qb ?_ ?_; focus kernel_rfl) | (show q7 ..; first | (refine q8 (t7 _ _ _) ?_ ?_; (focus (simp only [go_sem, *]; done)); simp only [go_sem, *])) | ((with_reducible refine And.intro ?_ ?_); focus omega) | (refine z6 hK ?_; clear hK; simp only [go_sem, *]) | (simp only [z5, z4, go_sem, *]))
 all_goals (refine ⟨[_, _], [], [], ⟨rfl, rfl, trivial⟩, ?_⟩; simp only [go_sem, *])
end Go.Abs

namespace Go.Abs
open Go Go.Proofs Tryz
attribute [local irreducible] z3 Hold q7
attribute [go_sem] ge_iff_le
theorem D5 {p : zLI} {c : Change} (h : c.kind = 1 ∨ c.kind = 2 ∨ c.kind = 3) : y9 p c = 0 := by
 unfold y9; rw [if_neg (by omega), if_neg (by omega), if_neg (by omega), if_neg (by omega)]
theorem Z2 {p : zLI} {c : Change} (h : y9 p c = 0) : zLQ p c = .mapo (w5 p) (w4 p (mv p c)) := by simp [zLQ, h]
def zLP (p : zLI) (c : Change) : AV := if y9 p c = 0 then .tup [.mp 0, iV 0] else .tup [.raw (.map none), iV (y9 p c)]
def zLO (p : zLI) (c : Change) : List AObj := if y9 p c = 0 then [.mapo (w5 p) (w4 p (mv p c))] else []
@[go_sem] theorem zIv : zLL 1 1 7 = true := by decide
@[go_sem] theorem zIw : zLL 2 1 7 = true := by decide
@[go_sem] theorem zIx : zLL 3 1 7 = true := by decide
@[go_sem] theorem zIy : zLL 4 1 7 = true := by decide
@[go_sem] theorem zIz : zLL 5 1 7 = true := by decide
@[go_sem] theorem zI0 : zLL 6 1 7 = true := by decide
@[go_sem] theorem zI1 : zLL 7 1 7 = true := by decide
theorem zHL (p : zLI) (c : Change) (v : Valid p) (f : Pre p c) (k : c.kind = 1) : zLJ prog 169 [y5 p, c.enc, .mp 0] [.mapo (w5 p) (w4 p fun h => [h])] (iV (y9 p c)) [zLQ p c] := by
 have h := D5 (p := p) (c := c) (by omega)
 rw [Z2 h, h]
 exact zHl p c v (f.fit h) k
theorem zHM (p : zLI) (c : Change) (v : Valid p) (f : Pre p c) (k : c.kind = 2) : zLJ prog 170 [y5 p, c.enc, .mp 0] [.mapo (w5 p) (w4 p fun h => [h])] (iV (y9 p c)) [zLQ p c] := by
 have h := D5 (p := p) (c := c) (by omega)
 rw [Z2 h, h]
 exact zHe p c v (f.fit h) k
theorem zHN (p : zLI) (c : Change) (v : Valid p) (f : Pre p c) (k : c.kind = 3) : zLJ prog 171 [y5 p, c.enc, .mp 0] [.mapo (w5 p) (w4 p fun h => [h])] (iV (y9 p c)) [zLQ p c] := by
 have h := D5 (p := p) (c := c) (by omega)
 rw [Z2 h, h]
 exact zG8 p c v (f.fit h) k
theorem zDe (p : zLI) (c : Change) (v : Valid p) (f : Pre p c) (k : c.kind = 1) (hco : (c.other != 0) = false) (hsz : (c.src.number == 0 && c.src.letter == 0) = true) (hdz : (c.dst.number == 0 && c.dst.letter == 0) = true) : zLJ prog 125 [y5 p, c.enc] [] (zLP p c) (zLO p c) := by
 have hwl : IntKind.i64.wrap ((p.length : Int) - 1) = (p.length : Int) - 1 := by have := v.len; exact wrap_i64 (by omega) (by omega)
 have hbs : zLL c.street 0 ((p.length : Int) - 1) = true := betw_iff.2 (by have := f.street; omega)
 refine y3 func125 rfl (fun E hE => ?_); simp only [go_sem, ntmps125]
 repeat' (first | (show z3 ..; first | (refine Qr rfl ?_; try intro _ hK; try simp only [go_sem, *]) | (refine Qi rfl rfl rfl rfl (fun hb _ hK => ?_) (fun hb => ?_) <;> (have hc := hb; try simp only [go_sem] at hc; simp only [go_sem, *]))) | (show Hold ..; first | refine Qh rfl ?_ | refine q6 rfl mixed (by kernel_rfl) ?_ | (refine z7 rfl ⟨_, rfl, fun hb => ?_, fun hb => ?_⟩ <;> (have hc := hb; try simp only [go_sem] at hc)) | refine z8 rfl ?_) | (refine Qb ?_ ?_; focus kernel_rfl) | (show q7 ..; first | ((first | refine q8 (t7 _ _ _) ?_ ?_ | refine q8 (U3) ?_ ?_); (focus (simp only [go_sem, *]; done)); simp only [go_sem, *]) | (refine v5 (W2 p v) ?_ ?_ ?_ ?_; (focus (simp only [go_sem, *]; done)); (focus (first | (simp; done) | (simp [go_sem]; done))); (focus (first | (simp; done) | (simp [go_sem]; done))); simp only [go_sem, *])) | ((with_reducible refine And.intro ?_ ?_); focus omega) | (refine z6 hK ?_; clear hK; simp only [go_sem, *]) | (simp only [z5, z4, go_sem, *]))
 refine x8 [2] [] (zHL p c v f k) (by simp) (by simp only [go_sem, *]) (by simp only [go_sem, AObj.live, *]) (by simp) (.inl rfl) (by simp [go_sem]) (by simp [zLQ]; split <;> simp) ?_
 simp only [go_sem, *]
 repeat' (first | (show z3 ..; first | (refine Qr rfl ?_; try intro _ hK; try simp only [go_sem, *]) | (refine Qi rfl rfl rfl rfl (fun hb _ hK => ?_) (fun hb => ?_) <;> (have hc := hb; try simp only [go_sem] at hc; simp only [go_sem, *]))) | (show Hold ..; first | refine Qh rfl ?_ | refine q6 rfl mixed (by kernel_rfl) ?_ | (refine z7 rfl ⟨_, rfl, fun hb => ?_, fun hb => ?_⟩ <;> (have hc := hb; try simp only [go_sem] at hc)) | refine z8 rfl ?_) | (refine Qb ?_ ?_; focus kernel_rfl) | ((with_reducible refine And.intro ?_ ?_); focus omega) | (refine z6 hK ?_; clear hK; simp only [go_sem, *]) | (simp only [z5, z4, go_sem, *]))
 ·have h : ¬ y9 p c = 0 := by assumption
  have e1 : zLP p c = .tup [.raw (.map none), iV (y9 p c)] := by simp [zLP, h]
  have e2 : zLO p c = [] := by simp [zLO, h]
  refine ⟨[_, _], [], [], ⟨rfl, rfl, trivial⟩, ?_⟩
  simp only [go_sem, e1, e2]
 ·have h : y9 p c = 0 := by assumption
  have e1 : zLP p c = .tup [.mp 0, iV 0] := by simp [zLP, h]
  have e2 : zLO p c = [.mapo (w5 p) (w4 p (mv p c))] := by simp [zLO, h]
  have e3 := Z2 h
  refine ⟨[_, _], [some 2], [], ⟨rfl, rfl, trivial⟩, ?_⟩
  simp only [go_sem, e1, e2, e3, AObj.ren]
theorem zDf (p : zLI) (c : Change) (v : Valid p) (f : Pre p c) (k : c.kind = 2) (hco : (c.other != 0) = false) (hsz : (c.src.number == 0 && c.src.letter == 0) = true) (hdz : (c.dst.number == 0 && c.dst.letter == 0) = true) : zLJ prog 125 [y5 p, c.enc] [] (zLP p c) (zLO p c) := by
 have hwl : IntKind.i64.wrap ((p.length : Int) - 1) = (p.length : Int) - 1 := by have := v.len; exact wrap_i64 (by omega) (by omega)
 have hbs : zLL c.street 0 ((p.length : Int) - 1) = true := betw_iff.2 (by have := f.street; omega)
 refine y3 func125 rfl (fun E hE => ?_); simp only [go_sem, ntmps125]
 repeat' (first | (show z3 ..; first | (refine Qr rfl ?_; try intro _ hK; try simp only [go_sem, *]) | (refine Qi rfl rfl rfl rfl (fun hb _ hK => ?_) (fun hb => ?_) <;> (have hc := hb; try simp only [go_sem] at hc; simp only [go_sem, *]))) | (show Hold ..; first | refine Qh rfl ?_ | refine q6 rfl mixed (by kernel_rfl) ?_ | (refine z7 rfl ⟨_, rfl, fun hb => ?_, fun hb => ?_⟩ <;> (have hc := hb; try simp only [go_sem] at hc)) | refine z8 rfl ?_) | (refine Qb ?_ ?_; focus kernel_rfl) | (show q7 ..; first | ((first | refine q8 (t7 _ _ _) ?_ ?_ | refine q8 (U3) ?_ ?_); (focus (simp only [go_sem, *]; done)); simp only [go_sem, *]) | (refine v5 (W2 p v) ?_ ?_ ?_ ?_; (focus (simp only [go_sem, *]; done)); (focus (first | (simp; done) | (simp [go_sem]; done))); (focus (first | (simp; done) | (simp [go_sem]; done))); simp only [go_sem, *])) | ((with_reducible refine And.intro ?_ ?_); focus omega) | (refine z6 hK ?_; clear hK; simp only [go_sem, *]) | (simp only [z5, z4, go_sem, *]))
 refine x8 [2] [] (zHM p c v f k) (by simp) (by simp only [go_sem, *]) (by simp only [go_sem, AObj.live, *]) (by simp) (.inl rfl) (by simp [go_sem]) (by simp [zLQ]; split <;> simp) ?_
 simp only [go_sem, *]
 repeat' (first | (show z3 ..; first | (refine Qr rfl ?_; try intro _ hK; try simp only [go_sem, *]) | (refine Qi rfl rfl rfl rfl (fun hb _ hK => ?_) (fun hb => ?_) <;> (have hc := hb; try simp only [go_sem] at hc; simp only [go_sem, *]))) | (show Hold ..; first | refine Qh rfl ?_ | refine q6 rfl mixed (by kernel_rfl) ?_ | (refine z7 rfl ⟨_, rfl, fun hb => ?_, fun hb => ?_⟩ <;> (have hc := hb; try simp only [go_sem] at hc)) | refine z8 rfl ?_) | (refine Qb ?_ ?_; focus kernel_rfl) | ((with_reducible refine And.intro ?_ ?_); focus omega) | (refine z6 hK ?_; clear hK; simp only [go_sem, *]) | (simp only [z5, z4, go_sem, *]))
 ·have h : ¬ y9 p c = 0 := by assumption
  have e1 : zLP p c = .tup [.raw (.map none), iV (y9 p c)] := by simp [zLP, h]
  have e2 : zLO p c = [] := by simp [zLO, h]
  refine ⟨[_, _], [], [], ⟨rfl, rfl, trivial⟩, ?_⟩
  simp only [go_sem, e1, e2]
 ·have h : y9 p c = 0 := by assumption
  have e1 : zLP p c = .tup [.mp 0, iV 0] := by simp [zLP, h]
  have e2 : zLO p c = [.mapo (w5 p) (w4 p (mv p c))] := by simp [zLO, h]
  have e3 := Z2 h
  refine ⟨[_, _], [some 2], [], ⟨rfl, rfl, trivial⟩, ?_⟩
  simp only [go_sem, e1, e2, e3, AObj.ren]
theorem zDg (p : zLI) (c : Change) (v : Valid p) (f : Pre p c) (k : c.kind = 3) (hco : (c.other != 0) = false) (hsz : (c.src.number == 0 && c.src.letter == 0) = true) (hdz : (c.dst.number == 0 && c.dst.letter == 0) = true) : zLJ prog 125 [y5 p, c.enc] [] (zLP p c) (zLO p c) := by
 have hwl : IntKind.i64.wrap ((p.length : Int) - 1) = (p.length : Int) - 1 := by have := v.len; exact wrap_i64 (by omega) (by omega)
 have hbs : zLL c.street 0 ((p.length : Int) - 1) = true := betw_iff.2 (by have := f.street; omega)
 refine y3 func125 rfl (fun E hE => ?_); simp only [go_sem, ntmps125]
 repeat' (first | (show z3 ..; first | (refine Qr rfl ?_; try intro _ hK; try simp only [go_sem, *]) | (refine Qi rfl rfl rfl rfl (fun hb _ hK => ?_) (fun hb => ?_) <;> (have hc := hb; try simp only [go_sem] at hc; simp only [go_sem, *]))) | (show Hold ..; first | refine Qh rfl ?_ | refine q6 rfl mixed (by kernel_rfl) ?_ | (refine z7 rfl ⟨_, rfl, fun hb => ?_, fun hb => ?_⟩ <;> (have hc := hb; try simp only [go_sem] at hc)) | refine z8 rfl ?_) | (refine Qb ?_ ?_; focus kernel_rfl) | (show q7 ..; first | ((first | refine q8 (t7 _ _ _) ?_ ?_ | refine q8 (U3) ?_ ?_); (focus (simp only [go_sem, *]; done)); simp only [go_sem, *]) | (refine v5 (W2 p v) ?_ ?_ ?_ ?_; (focus (simp only [go_sem, *]; done)); (focus (first | (simp; done) | (simp [go_sem]; done))); (focus (first | (simp; done) | (simp [go_sem]; done))); simp only [go_sem, *])) | ((with_reducible refine And.intro ?_ ?_); focus omega) | (refine z6 hK ?_; clear hK; simp only [go_sem, *]) | (simp only [z5, z4, go_sem, *]))
 refine x8 [2] [] (zHN p c v f k) (by simp) (by simp only [go_sem, *]) (by simp only [go_sem, AObj.live, *]) (by simp) (.inl rfl) (by simp [go_sem]) (by simp [zLQ]; split <;> simp) ?_
 simp only [go_sem, *]
 repeat' (first | (show z3 ..; first | (refine Qr rfl ?_; try intro _ hK; try simp only [go_sem, *]) | (refine Qi rfl rfl rfl rfl (fun hb _ hK => ?_) (fun hb => ?_) <;> (have hc := hb; try simp only [go_sem] at hc; simp only [go_sem, *]))) | (show Hold ..; first | refine Qh rfl ?_ | refine q6 rfl mixed (by kernel_rfl) ?_ | (refine z7 rfl ⟨_, rfl, fun hb => ?_, fun hb => ?_⟩ <;> (have hc := hb; try simp only [go_sem] at hc)) | refine z8 rfl ?_) | (refine Qb ?_ ?_; focus kernel_rfl) | ((with_reducible refine And.intro ?_ ?_); focus omega) | (refine z6 hK ?_; clear hK; simp only [go_sem, *]) | (simp only [z5, z4, go_sem, *]))
 ·have h : ¬ y9 p c = 0 := by assumption
  have e1 : zLP p c = .tup [.raw (.map none), iV (y9 p c)] := by simp [zLP, h]
  have e2 : zLO p c = [] := by simp [zLO, h]
  refine ⟨[_, _], [], [], ⟨rfl, rfl, trivial⟩, ?_⟩
  simp only [go_sem, e1, e2]
 ·have h : y9 p c = 0 := by assumption
  have e1 : zLP p c = .tup [.mp 0, iV 0] := by simp [zLP, h]
  have e2 : zLO p c = [.mapo (w5 p) (w4 p (mv p c))] := by simp [zLO, h]
  have e3 := Z2 h
  refine ⟨[_, _], [some 2], [], ⟨rfl, rfl, trivial⟩, ?_⟩
  simp only [go_sem, e1, e2, e3, AObj.ren]
theorem zDh (p : zLI) (c : Change) (v : Valid p) (f : Pre p c) (k : c.kind = 4) (hbo : zLL c.other 0 ((p.length : Int) - 1) = true) (hrp : (c.other == c.street) = false) (hsz : (c.src.number == 0 && c.src.letter == 0) = true) (hdz : (c.dst.number == 0 && c.dst.letter == 0) = true) : zLJ prog 125 [y5 p, c.enc] [] (zLP p c) (zLO p c) := by
 have hwl : IntKind.i64.wrap ((p.length : Int) - 1) = (p.length : Int) - 1 := by have := v.len; exact wrap_i64 (by omega) (by omega)
 have hbs : zLL c.street 0 ((p.length : Int) - 1) = true := betw_iff.2 (by have := f.street; omega)
 refine y3 func125 rfl (fun E hE => ?_); simp only [go_sem, ntmps125]
 repeat' (first | (show z3 ..; first | (refine Qr rfl ?_; try intro _ hK; try simp only [go_sem, *]) | (refine Qi rfl rfl rfl rfl (fun hb _ hK => ?_) (fun hb => ?_) <;> (have hc := hb; try simp only [go_sem] at hc; simp only [go_sem, *]))) | (show Hold ..; first | refine Qh rfl ?_ | refine q6 rfl mixed (by kernel_rfl) ?_ | (refine z7 rfl ⟨_, rfl, fun hb => ?_, fun hb => ?_⟩ <;> (have hc := hb; try simp only [go_sem] at hc)) | refine z8 rfl ?_) | (refine Qb ?_ ?_; focus kernel_rfl) | (show q7 ..; first | ((first | refine q8 (t7 _ _ _) ?_ ?_ | refine q8 (U3) ?_ ?_); (focus (simp only [go_sem, *]; done)); simp only [go_sem, *]) | (refine v5 (W2 p v) ?_ ?_ ?_ ?_; (focus (simp only [go_sem, *]; done)); (focus (first | (simp; done) | (simp [go_sem]; done))); (focus (first | (simp; done) | (simp [go_sem]; done))); simp only [go_sem, *])) | ((with_reducible refine And.intro ?_ ?_); focus omega) | (refine z6 hK ?_; clear hK; simp only [go_sem, *]) | (simp only [z5, z4, go_sem, *]))
 refine x8 [2] [] (zHK p c v f k) (by simp) (by simp only [go_sem, *]) (by simp only [go_sem, AObj.live, *]) (by simp) (.inl rfl) (by simp [go_sem]) (by simp [zLQ]; split <;> simp) ?_
 simp only [go_sem, *]
 repeat' (first | (show z3 ..; first | (refine Qr rfl ?_; try intro _ hK; try simp only [go_sem, *]) | (refine Qi rfl rfl rfl rfl (fun hb _ hK => ?_) (fun hb => ?_) <;> (have hc := hb; try simp only [go_sem] at hc; simp only [go_sem, *]))) | (show Hold ..; first | refine Qh rfl ?_ | refine q6 rfl mixed (by kernel_rfl) ?_ | (refine z7 rfl ⟨_, rfl, fun hb => ?_, fun hb => ?_⟩ <;> (have hc := hb; try simp only [go_sem] at hc)) | refine z8 rfl ?_) | (refine Qb ?_ ?_; focus kernel_rfl) | ((with_reducible refine And.intro ?_ ?_); focus omega) | (refine z6 hK ?_; clear hK; simp only [go_sem, *]) | (simp only [z5, z4, go_sem, *]))
 ·have h : ¬ y9 p c = 0 := by assumption
  have e1 : zLP p c = .tup [.raw (.map none), iV (y9 p c)] := by simp [zLP, h]
  have e2 : zLO p c = [] := by simp [zLO, h]
  refine ⟨[_, _], [], [], ⟨rfl, rfl, trivial⟩, ?_⟩
  simp only [go_sem, e1, e2]
 ·have h : y9 p c = 0 := by assumption
  have e1 : zLP p c = .tup [.mp 0, iV 0] := by simp [zLP, h]
  have e2 : zLO p c = [.mapo (w5 p) (w4 p (mv p c))] := by simp [zLO, h]
  have e3 := Z2 h
  refine ⟨[_, _], [some 2], [], ⟨rfl, rfl, trivial⟩, ?_⟩
  simp only [go_sem, e1, e2, e3, AObj.ren]
theorem zDi (p : zLI) (c : Change) (v : Valid p) (f : Pre p c) (k : c.kind = 5) (hco : (c.other != 0) = false) (hdz : (c.dst.number == 0 && c.dst.letter == 0) = true) : zLJ prog 125 [y5 p, c.enc] [] (zLP p c) (zLO p c) := by
 have hwl : IntKind.i64.wrap ((p.length : Int) - 1) = (p.length : Int) - 1 := by have := v.len; exact wrap_i64 (by omega) (by omega)
 have hbs : zLL c.street 0 ((p.length : Int) - 1) = true := betw_iff.2 (by have := f.street; omega)
 refine y3 func125 rfl (fun E hE => ?_); simp only [go_sem, ntmps125]
 repeat' (first | (show z3 ..; first | (refine Qr rfl ?_; try intro _ hK; try simp only [go_sem, *]) | (refine Qi rfl rfl rfl rfl (fun hb _ hK => ?_) (fun hb => ?_) <;> (have hc := hb; try simp only [go_sem] at hc; simp only [go_sem, *]))) | (show Hold ..; first | refine Qh rfl ?_ | refine q6 rfl mixed (by kernel_rfl) ?_ | (refine z7 rfl ⟨_, rfl, fun hb => ?_, fun hb => ?_⟩ <;> (have hc := hb; try simp only [go_sem] at hc)) | refine z8 rfl ?_) | (refine Qb ?_ ?_; focus kernel_rfl) | (show q7 ..; first | ((first | refine q8 (t7 _ _ _) ?_ ?_ | refine q8 (U3) ?_ ?_); (focus (simp only [go_sem, *]; done)); simp only [go_sem, *]) | (refine v5 (W2 p v) ?_ ?_ ?_ ?_; (focus (simp only [go_sem, *]; done)); (focus (first | (simp; done) | (simp [go_sem]; done))); (focus (first | (simp; done) | (simp [go_sem]; done))); simp only [go_sem, *])) | ((with_reducible refine And.intro ?_ ?_); focus omega) | (refine z6 hK ?_; clear hK; simp only [go_sem, *]) | (simp only [z5, z4, go_sem, *]))
 refine x8 [2] [] (zHA p c v f k) (by simp) (by simp only [go_sem, *]) (by simp only [go_sem, AObj.live, *]) (by simp) (.inl rfl) (by simp [go_sem]) (by simp [zLQ]; split <;> simp) ?_
 simp only [go_sem, *]
 repeat' (first | (show z3 ..; first | (refine Qr rfl ?_; try intro _ hK; try simp only [go_sem, *]) | (refine Qi rfl rfl rfl rfl (fun hb _ hK => ?_) (fun hb => ?_) <;> (have hc := hb; try simp only [go_sem] at hc; simp only [go_sem, *]))) | (show Hold ..; first | refine Qh rfl ?_ | refine q6 rfl mixed (by kernel_rfl) ?_ | (refine z7 rfl ⟨_, rfl, fun hb => ?_, fun hb => ?_⟩ <;> (have hc := hb; try simp only [go_sem] at hc)) | refine z8 rfl ?_) | (refine Qb ?_ ?_; focus kernel_rfl) | ((with_reducible refine And.intro ?_ ?_); focus omega) | (refine z6 hK ?_; clear hK; simp only [go_sem, *]) | (simp only [z5, z4, go_sem, *]))
 ·have h : ¬ y9 p c = 0 := by assumption
  have e1 : zLP p c = .tup [.raw (.map none), iV (y9 p c)] := by simp [zLP, h]
  have e2 : zLO p c = [] := by simp [zLO, h]
  refine ⟨[_, _], [], [], ⟨rfl, rfl, trivial⟩, ?_⟩
  simp only [go_sem, e1, e2]
 ·have h : y9 p c = 0 := by assumption
  have e1 : zLP p c = .tup [.mp 0, iV 0] := by simp [zLP, h]
  have e2 : zLO p c = [.mapo (w5 p) (w4 p (mv p c))] := by simp [zLO, h]
  have e3 := Z2 h
  refine ⟨[_, _], [some 2], [], ⟨rfl, rfl, trivial⟩, ?_⟩
  simp only [go_sem, e1, e2, e3, AObj.ren]
theorem zDj (p : zLI) (c : Change) (v : Valid p) (f : Pre p c) (k : c.kind = 6) (hco : (c.other != 0) = false) (hdz : (c.dst.number == 0 && c.dst.letter == 0) = true) : zLJ prog 125 [y5 p, c.enc] [] (zLP p c) (zLO p c) := by
 have hwl : IntKind.i64.wrap ((p.length : Int) - 1) = (p.length : Int) - 1 := by have := v.len; exact wrap_i64 (by omega) (by omega)
 have hbs : zLL c.street 0 ((p.length : Int) - 1) = true := betw_iff.2 (by have := f.street; omega)
 refine y3 func125 rfl (fun E hE => ?_); simp only [go_sem, ntmps125]
 repeat' (first | (show z3 ..; first | (refine Qr rfl ?_; try intro _ hK; try simp only [go_sem, *]) | (refine Qi rfl rfl rfl rfl (fun hb _ hK => ?_) (fun hb => ?_) <;> (have hc := hb; try simp only [go_sem] at hc; simp only [go_sem, *]))) | (show Hold ..; first | refine Qh rfl ?_ | refine q6 rfl mixed (by kernel_rfl) ?_ | (refine z7 rfl ⟨_, rfl, fun hb => ?_, fun hb => ?_⟩ <;> (have hc := hb; try simp only [go_sem] at hc)) | refine z8 rfl ?_) | (refine Qb ?_ ?_; focus kernel_rfl) | (show q7 ..; first | ((first | refine q8 (t7 _ _ _) ?_ ?_ | refine q8 (U3) ?_ ?_); (focus (simp only [go_sem, *]; done)); simp only [go_sem, *]) | (refine v5 (W2 p v) ?_ ?_ ?_ ?_; (focus (simp only [go_sem, *]; done)); (focus (first | (simp; done) | (simp [go_sem]; done))); (focus (first | (simp; done) | (simp [go_sem]; done))); simp only [go_sem, *])) | ((with_reducible refine And.intro ?_ ?_); focus omega) | (refine z6 hK ?_; clear hK; simp only [go_sem, *]) | (simp only [z5, z4, go_sem, *]))
 refine x8 [2] [] (zHB p c v f k) (by simp) (by simp only [go_sem, *]) (by simp only [go_sem, AObj.live, *]) (by simp) (.inl rfl) (by simp [go_sem]) (by simp [zLQ]; split <;> simp) ?_
 simp only [go_sem, *]
 repeat' (first | (show z3 ..; first | (refine Qr rfl ?_; try intro _ hK; try simp only [go_sem, *]) | (refine Qi rfl rfl rfl rfl (fun hb _ hK => ?_) (fun hb => ?_) <;> (have hc := hb; try simp only [go_sem] at hc; simp only [go_sem, *]))) | (show Hold ..; first | refine Qh rfl ?_ | refine q6 rfl mixed (by kernel_rfl) ?_ | (refine z7 rfl ⟨_, rfl, fun hb => ?_, fun hb => ?_⟩ <;> (have hc := hb; try simp only [go_sem] at hc)) | refine z8 rfl ?_) | (refine Qb ?_ ?_; focus kernel_rfl) | ((with_reducible refine And.intro ?_ ?_); focus omega) | (refine z6 hK ?_; clear hK; simp only [go_sem, *]) | (simp only [z5, z4, go_sem, *]))
 ·have h : ¬ y9 p c = 0 := by assumption
  have e1 : zLP p c = .tup [.raw (.map none), iV (y9 p c)] := by simp [zLP, h]
  have e2 : zLO p c = [] := by simp [zLO, h]
  refine ⟨[_, _], [], [], ⟨rfl, rfl, trivial⟩, ?_⟩
  simp only [go_sem, e1, e2]
 ·have h : y9 p c = 0 := by assumption
  have e1 : zLP p c = .tup [.mp 0, iV 0] := by simp [zLP, h]
  have e2 : zLO p c = [.mapo (w5 p) (w4 p (mv p c))] := by simp [zLO, h]
  have e3 := Z2 h
  refine ⟨[_, _], [some 2], [], ⟨rfl, rfl, trivial⟩, ?_⟩
  simp only [go_sem, e1, e2, e3, AObj.ren]
theorem zDk (p : zLI) (c : Change) (v : Valid p) (f : Pre p c) (k : c.kind = 7) (hbo : zLL c.other 0 ((p.length : Int) - 1) = true) (hrp : (c.other == c.street) = false) : zLJ prog 125 [y5 p, c.enc] [] (zLP p c) (zLO p c) := by
 have hwl : IntKind.i64.wrap ((p.length : Int) - 1) = (p.length : Int) - 1 := by have := v.len; exact wrap_i64 (by omega) (by omega)
 have hbs : zLL c.street 0 ((p.length : Int) - 1) = true := betw_iff.2 (by have := f.street; omega)
 refine y3 func125 rfl (fun E hE => ?_); simp only [go_sem, ntmps125]
 repeat' (first | (show z3 ..; first | (refine Qr rfl ?_; try intro _ hK; try simp only [go_sem, *]) | (refine Qi rfl rfl rfl rfl (fun hb _ hK => ?_) (fun hb => ?_) <;> (have hc := hb; try simp only [go_sem] at hc; simp only [go_sem, *]))) | (show Hold ..; first | refine Qh rfl ?_ | refine q6 rfl mixed (by kernel_rfl) ?_ | (refine z7 rfl ⟨_, rfl, fun hb => ?_, fun hb => ?_⟩ <;> (have hc := hb; try simp only [go_sem] at hc)) | refine z8 rfl ?_) | (refine Qb ?_ ?_; focus kernel_rfl) | (show q7 ..; first | ((first | refine q8 (t7 _ _ _) ?_ ?_ | refine q8 (U3) ?_ ?_); (focus (simp only [go_sem, *]; done)); simp only [go_sem, *]) | (refine v5 (W2 p v) ?_ ?_ ?_ ?_; (focus (simp only [go_sem, *]; done)); (focus (first | (simp; done) | (simp [go_sem]; done))); (focus (first | (simp; done) | (simp [go_sem]; done))); simp only [go_sem, *])) | ((with_reducible refine And.intro ?_ ?_); focus omega) | (refine z6 hK ?_; clear hK; simp only [go_sem, *]) | (simp only [z5, z4, go_sem, *]))
 refine x8 [2] [] (zG9 p c v f k) (by simp) (by simp only [go_sem, *]) (by simp only [go_sem, AObj.live, *]) (by simp) (.inl rfl) (by simp [go_sem]) (by simp [zLQ]; split <;> simp) ?_
 simp only [go_sem, *]
 repeat' (first | (show z3 ..; first | (refine Qr rfl ?_; try intro _ hK; try simp only [go_sem, *]) | (refine Qi rfl rfl rfl rfl (fun hb _ hK => ?_) (fun hb => ?_) <;> (have hc := hb; try simp only [go_sem] at hc; simp only [go_sem, *]))) | (show Hold ..; first | refine Qh rfl ?_ | refine q6 rfl mixed (by kernel_rfl) ?_ | (refine z7 rfl ⟨_, rfl, fun hb => ?_, fun hb => ?_⟩ <;> (have hc := hb; try simp only [go_sem] at hc)) | refine z8 rfl ?_) | (refine Qb ?_ ?_; focus kernel_rfl) | ((with_reducible refine And.intro ?_ ?_); focus omega) | (refine z6 hK ?_; clear hK; simp only [go_sem, *]) | (simp only [z5, z4, go_sem, *]))
 ·have h : ¬ y9 p c = 0 := by assumption
  have e1 : zLP p c = .tup [.raw (.map none), iV (y9 p c)] := by simp [zLP, h]
  have e2 : zLO p c = [] := by simp [zLO, h]
  refine ⟨[_, _], [], [], ⟨rfl, rfl, trivial⟩, ?_⟩
  simp only [go_sem, e1, e2]
 ·have h : y9 p c = 0 := by assumption
  have e1 : zLP p c = .tup [.mp 0, iV 0] := by simp [zLP, h]
  have e2 : zLO p c = [.mapo (w5 p) (w4 p (mv p c))] := by simp [zLO, h]
  have e3 := Z2 h
  refine ⟨[_, _], [some 2], [], ⟨rfl, rfl, trivial⟩, ?_⟩
  simp only [go_sem, e1, e2, e3, AObj.ren]
end Go.Abs

namespace Go.Abs
open Go
section
variable {α : Type} (cf : α → α → Int)
def zLk (x : α) : List α → List α
 | [] => [x]
 | y :: r => if cf x y < 0 then y :: zLk x r else x :: y :: r
def zLa (pre : List α) (x : α) : List α := (zLk cf x pre.reverse).reverse
def v6 (xs : List α) : List α := xs.foldl (zLa cf) []
theorem B2 (x : α) : ∀ l : List α, (zLk cf x l).Perm (x :: l)
 | [] => .refl _
 | y :: r => by
  unfold zLk
  split
  ·exact ((B2 x r).cons y).trans (.swap x y r)
  ·exact .refl _
theorem zFD (pre : List α) (x : α) : (zLa cf pre x).Perm (pre ++ [x]) := by
 unfold zLa
 refine (List.reverse_perm _).trans ((B2 cf x _).trans ?_)
 exact ((List.reverse_perm pre).cons x).trans (List.perm_append_comm (l₁ := [x]) (l₂ := pre))
theorem zBc : ∀ (xs pre : List α), (xs.foldl (zLa cf) pre).Perm (pre ++ xs)
 | [], pre => by simp
 | x :: r, pre => by
  rw [List.foldl_cons]
  refine (zBc r _).trans ?_
  refine ((zFD cf pre x).append_right r).trans ?_
  simp
theorem V7 (xs : List α) : (v6 cf xs).Perm xs := by have := zBc cf xs []; simpa [v6] using this
theorem I7 (xs : List α) : (v6 cf xs).length = xs.length := (V7 cf xs).length_eq
theorem zBd (xs : List α) (x : α) : v6 cf (xs ++ [x]) = zLa cf (v6 cf xs) x := by simp [v6, List.foldl_append]
def zLj (S : List α) (x : α) (R : List α) (d : Nat) : List α := S.take (S.length - d) ++ x :: (S.drop (S.length - d) ++ R)
theorem zA1 (S : List α) (x : α) (R : List α) (d : Nat) : (zLj S x R d).length = S.length + 1 + R.length := by simp [zLj]; omega
variable [Inhabited α]
theorem zA2 (S : List α) (x : α) (R : List α) {d : Nat} (h : d ≤ S.length) : (zLj S x R d).getD (S.length - d) default = x := by
 unfold zLj
 simp only [List.getD_eq_getElem?_getD]
 rw [List.getElem?_append_right (by simp)]
 simp [show min (S.length - d) S.length = S.length - d by omega]
theorem zA3 (S : List α) (x : α) (R : List α) {d : Nat} (h : d < S.length) : (zLj S x R d).getD (S.length - d - 1) default = S.getD (S.length - d - 1) default := by
 unfold zLj
 simp only [List.getD_eq_getElem?_getD]
 rw [List.getElem?_append_left (by simp; omega), List.getElem?_take, if_pos (by omega)]
theorem zDW (S : List α) (x : α) (R : List α) {d : Nat} (h : d < S.length) :
  ((zLj S x R d).set (S.length - d) (S.getD (S.length - d - 1) default)).set (S.length - d - 1) x = zLj S x R (d + 1) := by
 obtain ⟨j, hj⟩ : ∃ j, S.length - d = j + 1 := ⟨S.length - d - 1, by omega⟩
 have hj' : S.length - (d + 1) = j := by omega
 have hlt : j < S.length := by omega
 unfold zLj
 rw [hj, hj']
 have e1 : S.take (j + 1) = S.take j ++ [S.getD j default] := by rw [List.take_add_one]; simp [List.getD, hlt]
 have e2 : S.drop j = S.getD j default :: S.drop (j + 1) := v3 hlt
 rw [e1, e2]
 simp only [Nat.add_sub_cancel]
 have hl : (S.take j).length = j := by simp; omega
 rw [List.append_assoc, List.set_append_right _ _ (by omega), hl]
 simp only [Nat.add_sub_cancel_left, List.singleton_append, List.set_cons_succ, List.set_cons_zero]
 rw [List.set_append_right _ _ (by omega), hl]
 simp
theorem zFF (pre : List α) (x y : α) (h : cf x y < 0) : zLa cf (pre ++ [y]) x = zLa cf pre x ++ [y] := by
 have _ := (default : α)
 unfold zLa; simp [zLk, h]
theorem zFE (pre : List α) (x y : α) (h : ¬ cf x y < 0) : zLa cf (pre ++ [y]) x = pre ++ [y] ++ [x] := by
 have _ := (default : α)
 unfold zLa; simp [zLk, h]
theorem zCp {l : List α} {i : Nat} (h : i < l.length) : l.take (i + 1) = l.take i ++ [l.getD i default] := by
 rw [List.take_add_one]; simp [List.getD, h]
def InsP (S : List α) (x : α) (R : List α) (cur : List α) (d : Nat) : Prop := cur = zLj S x R d ∧ zLa cf S x = zLa cf (S.take (S.length - d)) x ++ S.drop (S.length - d)
theorem InsP.start (S : List α) (x : α) (R : List α) : InsP cf S x R (S ++ x :: R) 0 := by simp [InsP, zLj]
theorem InsP.next {S : List α} {x : α} {R cur : List α} {d : Nat} (h : InsP cf S x R cur d) (hd : d < S.length) (hc : cf x (S.getD (S.length - d - 1) default) < 0) :
  InsP cf S x R ((cur.set (S.length - d) (S.getD (S.length - d - 1) default)).set (S.length - d - 1) x) (d + 1) := by
 obtain ⟨h1, h2⟩ := h
 refine ⟨by rw [h1, zDW S x R hd], ?_⟩
 obtain ⟨j, hj⟩ : ∃ j, S.length - d = j + 1 := ⟨S.length - d - 1, by omega⟩
 have hj' : S.length - (d + 1) = j := by omega
 have hlt : j < S.length := by omega
 have e1 : S.take (j + 1) = S.take j ++ [S.getD j default] := by rw [List.take_add_one]; simp [List.getD, hlt]
 have e2 : S.drop j = S.getD j default :: S.drop (j + 1) := v3 hlt
 rw [hj] at h2 hc
 simp only [Nat.add_sub_cancel] at hc
 rw [h2, hj', e1, zFF cf _ _ _ hc, e2, List.append_assoc]; rfl
theorem InsP.stop {S : List α} {x : α} {R cur : List α} {d : Nat} (h : InsP cf S x R cur d) (hd : d ≤ S.length) (hc : d < S.length → ¬ cf x (S.getD (S.length - d - 1) default) < 0) : cur = zLa cf S x ++ R := by
 obtain ⟨h1, h2⟩ := h
 rw [h1, h2]
 unfold zLj
 by_cases e : d = S.length
 ·subst e; simp [zLa, zLk]
 ·obtain ⟨j, hj⟩ : ∃ j, S.length - d = j + 1 := ⟨S.length - d - 1, by omega⟩
  have hlt : j < S.length := by omega
  have e1 : S.take (j + 1) = S.take j ++ [S.getD j default] := by rw [List.take_add_one]; simp [List.getD, hlt]
  have hc' := hc (by omega)
  rw [hj] at hc' ⊢
  simp only [Nat.add_sub_cancel] at hc'
  rw [e1, zFE cf _ _ _ hc']; simp
end
end Go.Abs

namespace Go.Abs
open Go Go.Proofs Tryz
attribute [local irreducible] z3 Hold q7
theorem zF5 (cf : Plate → Plate → Int) (xs : List Plate) : xs = v6 cf (xs.take 1) ++ xs.drop 1 := by
 cases xs with
 | nil => rfl
 | cons x r => simp [v6, zLa, zLk]
def F7 (cf : Plate → Plate → Int) (xs cur : List Plate) (i : Nat) : Prop := cur = v6 cf (xs.take (i + 1)) ++ xs.drop (i + 1)
theorem zHI {f : Nat} {cf : Plate → Plate → Int} (hc : r5 prog f = true) (hf : ∀ a b : Plate, zLJ prog f [a.enc, b.enc] [] (iV (cf a b)) []) (xs : List Plate) (h1 : xs.length ≤ 12) :
  zLJ prog 176 [.own 0 2 0 xs.length, iV 0, iV xs.length, fnV f] [.row 2 (xs.map Plate.enc)] (.tup []) [.row 2 ((v6 cf xs).map Plate.enc)] := by
 refine y3 func176 rfl (fun E hE => ?_); simp only [go_sem, ntmps176]
 have hw0 : IntKind.i64.wrap 1 = (1 : Int) := wrap_i64 (by omega) (by omega)
 repeat' (first | (show z3 ..; first | (refine Qr rfl ?_; try intro _ hK; try simp only [go_sem, *]) | (refine Qi rfl rfl rfl rfl (fun hb _ hK => ?_) (fun hb => ?_) <;> (have hc := hb; try simp only [go_sem] at hc; simp only [go_sem, *]))) | (show Hold ..; first | refine Qh rfl ?_ | refine q6 rfl mixed (by kernel_rfl) ?_ | (refine z7 rfl ⟨_, rfl, fun hb => ?_, fun hb => ?_⟩ <;> (have hc := hb; try simp only [go_sem] at hc)) | refine z8 rfl ?_) | (refine Qb ?_ ?_; focus kernel_rfl) | ((with_reducible refine And.intro ?_ ?_); focus omega) | (refine z6 hK ?_; clear hK; simp only [go_sem, *]) | (simp only [z5, z4, go_sem, *]))
 refine y8 rfl (fun zn zN zenv zAs => ∃ (i : Nat) (cur : List Plate), zn = (xs.length) - i ∧ i ≤ (xs.length) ∧ (F7 cf xs cur i) ∧ zN = 53 ∧ zenv = [(8, iV ((i : Int) + 1)), (0, .own 0 2 0 xs.length), (1, iV 0), (2, iV xs.length), (3, fnV f)] ∧ zAs = [.row 2 (cur.map Plate.enc)]) (xs.length) ⟨[some 0], [], _, _, _, (by (simp only [Weak, go_sem, List.map_append, List.map_set, *] <;> (try simp (disch := omega) only [q9]) <;> (try simp) <;> (try omega))), 0, xs, (by simp), (by simp), (by exact zF5 cf xs), rfl, rfl, rfl⟩ ?_; rintro _ _ _ _ ⟨i, cur, rfl, hi, hP, rfl, rfl, rfl⟩
 have hw : i < xs.length → IntKind.i64.wrap ((i : Int) + 1 + 1) = (((i + 1 : Nat) : Int) + 1) := fun h => by rw [wrap_i64 (by omega) (by omega)]; omega
 have hcm : ((i : Int) + 1 < (xs.length : Int)) = (i + 1 < xs.length) := by simp only [eq_iff_iff]; omega
 repeat' (first | (show z3 ..; first | (refine Qr rfl ?_; try intro _ hK; try simp only [go_sem, *]) | (refine Qi rfl rfl rfl rfl (fun hb _ hK => ?_) (fun hb => ?_) <;> (have hc := hb; try simp only [go_sem] at hc; simp only [go_sem, *]))) | (show Hold ..; first | refine Qh rfl ?_ | refine q6 rfl mixed (by kernel_rfl) ?_ | (refine z7 rfl ⟨_, rfl, fun hb => ?_, fun hb => ?_⟩ <;> (have hc := hb; try simp only [go_sem] at hc)) | refine z8 rfl ?_) | (refine Qb ?_ ?_; focus kernel_rfl) | ((with_reducible refine And.intro ?_ ?_); focus omega) | (refine z6 hK ?_; clear hK; simp only [go_sem, *]) | (simp only [z5, z4, go_sem, *]))
 ·have hlt : i + 1 < xs.length := by assumption
  have hlt' : i < xs.length := by omega
  obtain ⟨S, hS⟩ : ∃ S, S = v6 cf (xs.take (i + 1)) := ⟨_, rfl⟩
  have hSl : S.length = i + 1 := by rw [hS, I7]; simp; try omega
  obtain ⟨x, hx⟩ : ∃ x, x = xs.getD (i + 1) default := ⟨_, rfl⟩
  obtain ⟨R, hR⟩ : ∃ R, R = xs.drop (i + 1 + 1) := ⟨_, rfl⟩
  have hcur : cur = S ++ x :: R := by
   unfold F7 at hP
   rw [hP, hS, hx, hR, v3 hlt]
  have hfin : zLa cf S x ++ R = v6 cf (xs.take (i + 1 + 1)) ++ xs.drop (i + 1 + 1) := by
   rw [hS, hx, hR, zCp hlt, zBd]
  have hst : InsP cf S x R cur 0 := by rw [hcur]; exact InsP.start cf S x R
  have hRl : R.length = xs.length - (i + 2) := by rw [hR]; simp; try omega
  clear hS hx hR hcur hP
  refine y8 rfl (fun zn zN zenv zAs => ∃ (d : Nat) (cur : List Plate), zn = (i + 1) - d ∧ d ≤ (i + 1) ∧ (InsP cf S x R cur d) ∧ zN = 53 ∧ zenv = [(9, iV (((i + 1) - d : Nat) : Int)), (8, iV ((i : Int) + 1)), (0, .own 0 2 0 xs.length), (1, iV 0), (2, iV xs.length), (3, fnV f)] ∧ zAs = [.row 2 (cur.map Plate.enc)]) (i + 1) ⟨[some 0], [], _, _, _, (by (simp only [Weak, go_sem, List.map_append, List.map_set, *] <;> (try simp (disch := omega) only [q9]) <;> (try simp) <;> (try omega))), 0, cur, (by simp), (by simp), (by exact hst), rfl, rfl, rfl⟩ ?_; rintro _ _ _ _ ⟨d, cur, rfl, hd, hQ, rfl, rfl, rfl⟩
  have hcl : cur.length = xs.length := by rw [hQ.1, zA1]; omega
  have gx : cur.getD (i + 1 - d) default = x := by rw [hQ.1, ← hSl]; exact zA2 S x R (by omega)
  have gy : d < i + 1 → cur.getD (i + 1 - d - 1) default = S.getD (i + 1 - d - 1) default := fun h => by rw [hQ.1, ← hSl]; exact zA3 S x R (by omega)
  have hwk : 0 < i + 1 - d → IntKind.i64.wrap (((i + 1 - d : Nat) : Int) - 1) = ((i + 1 - d - 1 : Nat) : Int) := fun h => by rw [wrap_i64 (by omega) (by omega)]; omega
  have hnx : i + 1 - (d + 1) = i + 1 - d - 1 := by omega
  have hkl : i + 1 - d < xs.length := by omega
  have hkl1 : i + 1 - d - 1 < xs.length := by omega
  have hd1 : 0 < i + 1 - d → d < i + 1 := fun h => by omega
  repeat' (first | (show z3 ..; first | (refine Qr rfl ?_; try intro _ hK; try simp only [go_sem, *]) | (refine Qi rfl rfl rfl rfl (fun hb _ hK => ?_) (fun hb => ?_) <;> (have hc := hb; try simp only [go_sem] at hc; simp only [go_sem, *]))) | (show Hold ..; first | refine Qh rfl ?_ | refine q6 rfl mixed (by kernel_rfl) ?_ | (refine z7 rfl ⟨_, rfl, fun hb => ?_, fun hb => ?_⟩ <;> (have hc := hb; try simp only [go_sem] at hc)) | refine z8 rfl ?_) | (refine Qb ?_ ?_; focus kernel_rfl) | (show q7 ..; first | (refine q8 (hf _ _) ?_ ?_; (focus (simp only [go_sem, *]; done)); simp only [go_sem, *])) | ((with_reducible refine And.intro ?_ ?_); focus omega) | (refine z6 hK ?_; clear hK; simp only [go_sem, *]) | (simp only [z5, z4, go_sem, *]))
  ·refine ⟨_, (by omega), [some 0], [], _, _, _, (by (simp only [Weak, go_sem, List.map_append, List.map_set, *] <;> (try simp (disch := omega) only [q9]) <;> (try simp) <;> (try omega))), d + 1, (cur.set (i + 1 - d) (S.getD (i + 1 - d - 1) default)).set (i + 1 - d - 1) x, rfl, (by omega), (by have := InsP.next cf hQ (by omega) (by rw [hSl]; assumption); rwa [hSl] at this), rfl, rfl, rfl⟩
  ·have hs := InsP.stop cf hQ (by omega) (fun _ => by rw [hSl]; omega)
   refine ⟨_, (by omega), [some 0], [], _, _, _, (by (simp only [Weak, go_sem, List.map_append, List.map_set, *] <;> (try simp (disch := omega) only [q9]) <;> (try simp) <;> (try omega))), i + 1, cur, rfl, (by omega), (by rw [hs]; exact hfin), rfl, rfl, rfl⟩
  ·have hs := InsP.stop cf hQ (by omega) (fun h => by omega)
   refine ⟨_, (by omega), [some 0], [], _, _, _, (by (simp only [Weak, go_sem, List.map_append, List.map_set, *] <;> (try simp (disch := omega) only [q9]) <;> (try simp) <;> (try omega))), i + 1, cur, rfl, (by omega), (by rw [hs]; exact hfin), rfl, rfl, rfl⟩
 ·refine ⟨[], [some 0], [], trivial, ?_⟩
  have e1 : xs.take (i + 1) = xs := List.take_of_length_le (by omega)
  have e2 : xs.drop (i + 1) = [] := v4 (by omega)
  unfold F7 at hP
  rw [e1, e2, List.append_nil] at hP
  rw [hP]
  simp only [go_sem, Z3, *]
end Go.Abs

namespace Go.Abs
open Go Go.Proofs Tryz
attribute [local irreducible] z3 Hold q7
theorem zF4 (cf : House → House → Int) (xs : List House) : xs = v6 cf (xs.take 1) ++ xs.drop 1 := by
 cases xs with
 | nil => rfl
 | cons x r => simp [v6, zLa, zLk]
def F6 (cf : House → House → Int) (xs cur : List House) (i : Nat) : Prop := cur = v6 cf (xs.take (i + 1)) ++ xs.drop (i + 1)
theorem zHH {f : Nat} {cf : House → House → Int} (hc : r5 prog f = true) (hf : ∀ a b : House, zLJ prog f [a.enc, b.enc] [] (iV (cf a b)) []) (xs : List House) (h1 : xs.length ≤ 12) :
  zLJ prog 186 [.own 0 3 0 xs.length, iV 0, iV xs.length, fnV f] [.row 3 (xs.map House.enc)] (.tup []) [.row 3 ((v6 cf xs).map House.enc)] := by
 refine y3 func186 rfl (fun E hE => ?_); simp only [go_sem, ntmps186]
 have hw0 : IntKind.i64.wrap 1 = (1 : Int) := wrap_i64 (by omega) (by omega)
 repeat' (first | (show z3 ..; first | (refine Qr rfl ?_; try intro _ hK; try simp only [go_sem, *]) | (refine Qi rfl rfl rfl rfl (fun hb _ hK => ?_) (fun hb => ?_) <;> (have hc := hb; try simp only [go_sem] at hc; simp only [go_sem, *]))) | (show Hold ..; first | refine Qh rfl ?_ | refine q6 rfl mixed (by kernel_rfl) ?_ | (refine z7 rfl ⟨_, rfl, fun hb => ?_, fun hb => ?_⟩ <;> (have hc := hb; try simp only [go_sem] at hc)) | refine z8 rfl ?_) | (refine Qb ?_ ?_; focus kernel_rfl) | ((with_reducible refine And.intro ?_ ?_); focus omega) | (refine z6 hK ?_; clear hK; simp only [go_sem, *]) | (simp only [z5, z4, go_sem, *]))
 refine y8 rfl (fun zn zN zenv zAs => ∃ (i : Nat) (cur : List House), zn = (xs.length) - i ∧ i ≤ (xs.length) ∧ (F6 cf xs cur i) ∧ zN = 53 ∧ zenv = [(8, iV ((i : Int) + 1)), (0, .own 0 3 0 xs.length), (1, iV 0), (2, iV xs.length), (3, fnV f)] ∧ zAs = [.row 3 (cur.map House.enc)]) (xs.length) ⟨[some 0], [], _, _, _, (by (simp only [Weak, go_sem, List.map_append, List.map_set, *] <;> (try simp (disch := omega) only [q9]) <;> (try simp) <;> (try omega))), 0, xs, (by simp), (by simp), (by exact zF4 cf xs), rfl, rfl, rfl⟩ ?_; rintro _ _ _ _ ⟨i, cur, rfl, hi, hP, rfl, rfl, rfl⟩
 have hw : i < xs.length → IntKind.i64.wrap ((i : Int) + 1 + 1) = (((i + 1 : Nat) : Int) + 1) := fun h => by rw [wrap_i64 (by omega) (by omega)]; omega
 have hcm : ((i : Int) + 1 < (xs.length : Int)) = (i + 1 < xs.length) := by simp only [eq_iff_iff]; omega
 repeat' (first | (show z3 ..; first | (refine Qr rfl ?_; try intro _ hK; try simp only [go_sem, *]) | (refine Qi rfl rfl rfl rfl (fun hb _ hK => ?_) (fun hb => ?_) <;> (have hc := hb; try simp only [go_sem] at hc; simp only [go_sem, *]))) | (show Hold ..; first | refine Qh rfl ?_ | refine q6 rfl mixed (by kernel_rfl) ?_ | (refine z7 rfl ⟨_, rfl, fun hb => ?_, fun hb => ?_⟩ <;> (have hc := hb; try simp only [go_sem] at hc)) | refine z8 rfl ?_) | (refine Qb ?_ ?_; focus kernel_rfl) | ((with_reducible refine And.intro ?_ ?_); focus omega) | (refine z6 hK ?_; clear hK; simp only [go_sem, *]) | (simp only [z5, z4, go_sem, *]))
 ·have hlt : i + 1 < xs.length := by assumption
  have hlt' : i < xs.length := by omega
  obtain ⟨S, hS⟩ : ∃ S, S = v6 cf (xs.take (i + 1)) := ⟨_, rfl⟩
  have hSl : S.length = i + 1 := by rw [hS, I7]; simp; try omega
  obtain ⟨x, hx⟩ : ∃ x, x = xs.getD (i + 1) default := ⟨_, rfl⟩
  obtain ⟨R, hR⟩ : ∃ R, R = xs.drop (i + 1 + 1) := ⟨_, rfl⟩
  have hcur : cur = S ++ x :: R := by
   unfold F6 at hP
   rw [hP, hS, hx, hR, v3 hlt]
  have hfin : zLa cf S x ++ R = v6 cf (xs.take (i + 1 + 1)) ++ xs.drop (i + 1 + 1) := by
   rw [hS, hx, hR, zCp hlt, zBd]
  have hst : InsP cf S x R cur 0 := by rw [hcur]; exact InsP.start cf S x R
  have hRl : R.length = xs.length - (i + 2) := by rw [hR]; simp; try omega
  clear hS hx hR hcur hP
  refine y8 rfl (fun zn zN zenv zAs => ∃ (d : Nat) (cur : List House), zn = (i + 1) - d ∧ d ≤ (i + 1) ∧ (InsP cf S x R cur d) ∧ zN = 53 ∧ zenv = [(9, iV (((i + 1) - d : Nat) : Int)), (8, iV ((i : Int) + 1)), (0, .own 0 3 0 xs.length), (1, iV 0), (2, iV xs.length), (3, fnV f)] ∧ zAs = [.row 3 (cur.map House.enc)]) (i + 1) ⟨[some 0], [], _, _, _, (by (simp only [Weak, go_sem, List.map_append, List.map_set, *] <;> (try simp (disch := omega) only [q9]) <;> (try simp) <;> (try omega))), 0, cur, (by simp), (by simp), (by exact hst), rfl, rfl, rfl⟩ ?_; rintro _ _ _ _ ⟨d, cur, rfl, hd, hQ, rfl, rfl, rfl⟩
  have hcl : cur.length = xs.length := by rw [hQ.1, zA1]; omega
  have gx : cur.getD (i + 1 - d) default = x := by rw [hQ.1, ← hSl]; exact zA2 S x R (by omega)
  have gy : d < i + 1 → cur.getD (i + 1 - d - 1) default = S.getD (i + 1 - d - 1) default := fun h => by rw [hQ.1, ← hSl]; exact zA3 S x R (by omega)
  have hwk : 0 < i + 1 - d → IntKind.i64.wrap (((i + 1 - d : Nat) : Int) - 1) = ((i + 1 - d - 1 : Nat) : Int) := fun h => by rw [wrap_i64 (by omega) (by omega)]; omega
  have hnx : i + 1 - (d + 1) = i + 1 - d - 1 := by omega
  have hkl : i + 1 - d < xs.length := by omega
  have hkl1 : i + 1 - d - 1 < xs.length := by omega
  have hd1 : 0 < i + 1 - d → d < i + 1 := fun h => by omega
  repeat' (first | (show z3 ..; first | (refine Qr rfl ?_; try intro _ hK; try simp only [go_sem, *]) | (refine Qi rfl rfl rfl rfl (fun hb _ hK => ?_) (fun hb => ?_) <;> (have hc := hb; try simp only [go_sem] at hc; simp only [go_sem, *]))) | (show Hold ..; first | refine Qh rfl ?_ | refine q6 rfl mixed (by kernel_rfl) ?_ | (refine z7 rfl ⟨_, rfl, fun hb => ?_, fun hb => ?_⟩ <;> (have hc := hb; try simp only [go_sem] at hc)) | refine z8 rfl ?_) | (refine Qb ?_ ?_; focus kernel_rfl) | (show q7 ..; first | (refine q8 (hf _ _) ?_ ?_; (focus (simp only [go_sem, *]; done)); simp only [go_sem, *])) | ((with_reducible refine And.intro ?_ ?_); focus omega) | (refine z6 hK ?_; clear hK; simp only [go_sem, *]) | (simp only [z5, z4, go_sem, *]))
  ·refine ⟨_, (by omega), [some 0], [], _, _, _, (by (simp only [Weak, go_sem, List.map_append, List.map_set, *] <;> (try simp (disch := omega) only [q9]) <;> (try simp) <;> (try omega))), d + 1, (cur.set (i + 1 - d) (S.getD (i + 1 - d - 1) default)).set (i + 1 - d - 1) x, rfl, (by omega), (by have := InsP.next cf hQ (by omega) (by rw [hSl]; assumption); rwa [hSl] at this), rfl, rfl, rfl⟩
  ·have hs := InsP.stop cf hQ (by omega) (fun _ => by rw [hSl]; omega)
   refine ⟨_, (by omega), [some 0], [], _, _, _, (by (simp only [Weak, go_sem, List.map_append, List.map_set, *] <;> (try simp (disch := omega) only [q9]) <;> (try simp) <;> (try omega))), i + 1, cur, rfl, (by omega), (by rw [hs]; exact hfin), rfl, rfl, rfl⟩
  ·have hs := InsP.stop cf hQ (by omega) (fun h => by omega)
   refine ⟨_, (by omega), [some 0], [], _, _, _, (by (simp only [Weak, go_sem, List.map_append, List.map_set, *] <;> (try simp (disch := omega) only [q9]) <;> (try simp) <;> (try omega))), i + 1, cur, rfl, (by omega), (by rw [hs]; exact hfin), rfl, rfl, rfl⟩
 ·refine ⟨[], [some 0], [], trivial, ?_⟩
  have e1 : xs.take (i + 1) = xs := List.take_of_length_le (by omega)
  have e2 : xs.drop (i + 1) = [] := v4 (by omega)
  unfold F6 at hP
  rw [e1, e2, List.append_nil] at hP
  rw [hP]
  simp only [go_sem, Z3, *]
end Go.Abs

namespace Go.Abs
open Go Go.Proofs Tryz
attribute [local irreducible] z3 Hold q7
theorem wrap_u64 {n : Int} (h0 : 0 ≤ n) (h1 : n ≤ 1000) : IntKind.u64.wrap n = n := by
 simp [IntKind.wrap, IntKind.signed, IntKind.bits]; omega
theorem zIE {n : Int} (h0 : 0 ≤ n) (h1 : n ≤ 200) : IntKind.u8.wrap n = n := by
 simp [IntKind.wrap, IntKind.signed, IntKind.bits]; omega
theorem zGy (n : Nat) (h : n ≤ 12) : zLJ prog 185 [.raw (.int .u64 n)] [] .any [] := by
 have hw8 : IntKind.u8.wrap (n : Int) = (n : Int) := zIE (by omega) (by omega)
 have h1 : ((4294967296 : Int) ≤ (n : Int)) = False := by simp only [eq_iff_iff, iff_false]; omega
 have h2 : ((65536 : Int) ≤ (n : Int)) = False := by simp only [eq_iff_iff, iff_false]; omega
 have h3 : ((256 : Int) ≤ (n : Int)) = False := by simp only [eq_iff_iff, iff_false]; omega
 refine y3 func185 rfl (fun E hE => ?_); simp only [go_sem, ntmps185]
 repeat' (first | (show z3 ..; first | (refine Qr rfl ?_; try intro _ hK; try simp only [go_sem, *])) | (show Hold ..; first | refine Qh rfl ?_ | (refine z7 rfl ⟨_, rfl, fun hb => ?_, fun hb => ?_⟩ <;> (have hc := hb; try simp only [go_sem] at hc)) | refine z8 rfl ?_) | ((with_reducible refine And.intro ?_ ?_); focus omega) | (refine z6 hK ?_; clear hK; simp only [go_sem, *]) | (simp only [z5, z4, go_sem, *]))
 refine ⟨Nat.lt_of_le_of_lt h (by decide), ?_⟩
 repeat' (first | (show z3 ..; first | (refine Qr rfl ?_; try intro _ hK; try simp only [go_sem, *])) | (show Hold ..; first | refine Qh rfl ?_ | (refine z7 rfl ⟨_, rfl, fun hb => ?_, fun hb => ?_⟩ <;> (have hc := hb; try simp only [go_sem] at hc)) | refine z8 rfl ?_) | ((with_reducible refine And.intro ?_ ?_); focus omega) | (refine z6 hK ?_; clear hK; simp only [go_sem, *]) | (simp only [z5, z4, go_sem, *]))
 all_goals (refine ⟨[_], [], [], ⟨rfl, trivial⟩, ?_⟩; simp only [go_sem])
theorem zCR (n : Nat) (h : n ≤ 12) : zLJ prog 154 [.raw (.int .u64 n)] [] .any [] := by
 refine y3 func154 rfl (fun E hE => ?_); simp only [go_sem, ntmps154]
 repeat' (first | (show z3 ..; first | (refine Qr rfl ?_; try intro _ hK; try simp only [go_sem, *])) | (show Hold ..; first | refine Qh rfl ?_ | (refine z7 rfl ⟨_, rfl, fun hb => ?_, fun hb => ?_⟩ <;> (have hc := hb; try simp only [go_sem] at hc)) | refine z8 rfl ?_) | (show q7 ..; first | (refine q8 (zGy n h) ?_ ?_; (focus (simp only [go_sem, *]; done)); simp only [go_sem, *])) | ((with_reducible refine And.intro ?_ ?_); focus omega) | (refine z6 hK ?_; clear hK; simp only [go_sem, *]) | (simp only [z5, z4, go_sem, *]))
 all_goals (refine ⟨[_], [], [], ⟨rfl, trivial⟩, ?_⟩; simp only [go_sem])
end Go.Abs

namespace Go.Abs
open Go Go.Proofs Tryz
attribute [local irreducible] z3 Hold q7
theorem zHT {f : Nat} {cf : Plate → Plate → Int} (hcal : r5 prog f = true) (hf : ∀ a b : Plate, zLJ prog f [a.enc, b.enc] [] (iV (cf a b)) []) (xs : List Plate) (h1 : xs.length ≤ 12) :
  zLJ prog 153 [.own 0 2 0 xs.length, iV 0, iV xs.length, .any, fnV f] [.row 2 (xs.map Plate.enc)] (.tup []) [.row 2 ((v6 cf xs).map Plate.enc)] := by
 have hw : IntKind.i64.wrap ((xs.length : Int) - 0) = (xs.length : Int) := by rw [wrap_i64 (by omega) (by omega)]; omega
 have h12 : ((xs.length : Int) ≤ 12) = True := by simp only [eq_iff_iff, iff_true]; omega
 refine y3 func153 rfl (fun E hE => ?_); simp only [go_sem, ntmps153]
 repeat' (first | (show z3 ..; first | (refine Qr rfl ?_; try intro _ hK; try simp only [go_sem, *]) | (refine Qi rfl rfl rfl rfl (fun hb _ hK => ?_) (fun hb => ?_) <;> (have hc := hb; try simp only [go_sem] at hc; simp only [go_sem, *]))) | (show Hold ..; first | refine Qh rfl ?_ | refine q6 rfl mixed (by kernel_rfl) ?_ | (refine z7 rfl ⟨_, rfl, fun hb => ?_, fun hb => ?_⟩ <;> (have hc := hb; try simp only [go_sem] at hc)) | refine z8 rfl ?_) | (refine Qb ?_ ?_; focus kernel_rfl) | ((with_reducible refine And.intro ?_ ?_); focus omega) | (refine z6 hK ?_; clear hK; simp only [go_sem, *]) | (simp only [z5, z4, go_sem, *]))
 refine y8 rfl (fun zn zN zenv zAs => ∃ (i : Nat), zn = (1) - i ∧ i ≤ (1) ∧ (NoP i) ∧ zN = 148 ∧ zenv = [(0, .own 0 2 0 xs.length), (1, iV 0), (2, iV xs.length), (4, fnV f)] ∧ zAs = [.row 2 (xs.map Plate.enc)]) (1) ⟨[some 0], [], _, _, _, (by (simp only [Weak, go_sem, List.map_append, List.map_set, *] <;> (try simp (disch := omega) only [q9]) <;> (try simp) <;> (try omega))), 0, (by simp), (by simp), (by trivial), rfl, rfl, rfl⟩ ?_; rintro _ _ _ _ ⟨i, rfl, hi, hP, rfl, rfl, rfl⟩
 repeat' (first | (show z3 ..; first | (refine Qr rfl ?_; try intro _ hK; try simp only [go_sem, *]) | (refine Qi rfl rfl rfl rfl (fun hb _ hK => ?_) (fun hb => ?_) <;> (have hc := hb; try simp only [go_sem] at hc; simp only [go_sem, *]))) | (show Hold ..; first | refine Qh rfl ?_ | refine q6 rfl mixed (by kernel_rfl) ?_ | (refine z7 rfl ⟨_, rfl, fun hb => ?_, fun hb => ?_⟩ <;> (have hc := hb; try simp only [go_sem] at hc)) | refine z8 rfl ?_) | (refine Qb ?_ ?_; focus kernel_rfl) | ((with_reducible refine And.intro ?_ ?_); focus omega) | (refine z6 hK ?_; clear hK; simp only [go_sem, *]) | (simp only [z5, z4, go_sem, *]))
 refine x8 [0] [] (zHI hcal hf xs h1) (by simp) (by simp only [go_sem, *]) (by simp only [go_sem, AObj.live, *]) (by simp) (.inl rfl) (by simp [go_sem]) (by simp) ?_
 simp only [go_sem, *]
 repeat' (first | (show z3 ..; first | (refine Qr rfl ?_; try intro _ hK; try simp only [go_sem, *]) | (refine Qi rfl rfl rfl rfl (fun hb _ hK => ?_) (fun hb => ?_) <;> (have hc := hb; try simp only [go_sem] at hc; simp only [go_sem, *]))) | (show Hold ..; first | refine Qh rfl ?_ | refine q6 rfl mixed (by kernel_rfl) ?_ | (refine z7 rfl ⟨_, rfl, fun hb => ?_, fun hb => ?_⟩ <;> (have hc := hb; try simp only [go_sem] at hc)) | refine z8 rfl ?_) | (refine Qb ?_ ?_; focus kernel_rfl) | ((with_reducible refine And.intro ?_ ?_); focus omega) | (refine z6 hK ?_; clear hK; simp only [go_sem, *]) | (simp only [z5, z4, go_sem, *]))
 refine ⟨[], [some 0], [], trivial, ?_⟩
 simp only [go_sem, Z3, AObj.ren, *]
theorem P6 {f : Nat} {cf : Plate → Plate → Int} (hcal : r5 prog f = true) (hf : ∀ a b : Plate, zLJ prog f [a.enc, b.enc] [] (iV (cf a b)) []) (xs : List Plate) (h1 : xs.length ≤ 12) :
  zLJ prog 126 [.own 0 2 0 xs.length, fnV f] [.row 2 (xs.map Plate.enc)] (.tup []) [.row 2 ((v6 cf xs).map Plate.enc)] := by
 have hw : IntKind.u64.wrap (xs.length : Int) = (xs.length : Int) := wrap_u64 (by omega) (by omega)
 refine y3 func126 rfl (fun E hE => ?_); simp only [go_sem, ntmps126]
 repeat' (first | (show z3 ..; first | (refine Qr rfl ?_; try intro _ hK; try simp only [go_sem, *])) | (show Hold ..; first | refine Qh rfl ?_ | (refine z7 rfl ⟨_, rfl, fun hb => ?_, fun hb => ?_⟩ <;> (have hc := hb; try simp only [go_sem] at hc)) | refine z8 rfl ?_) | (show q7 ..; first | (refine q8 (zCR xs.length h1) ?_ ?_; (focus (simp only [go_sem, *]; done)); simp only [go_sem, *])) | ((with_reducible refine And.intro ?_ ?_); focus omega) | (refine z6 hK ?_; clear hK; simp only [go_sem, *]) | (simp only [z5, z4, go_sem, *]))
 refine x8 [0] [] (zHT hcal hf xs h1) (by simp) (by simp only [go_sem, *]) (by simp only [go_sem, AObj.live, *]) (by simp) (.inl rfl) (by simp [go_sem]) (by simp) ?_
 simp only [go_sem, *]
 repeat' (first | (show z3 ..; first | (refine Qr rfl ?_; try intro _ hK; try simp only [go_sem, *])) | (show Hold ..; first | refine Qh rfl ?_ | (refine z7 rfl ⟨_, rfl, fun hb => ?_, fun hb => ?_⟩ <;> (have hc := hb; try simp only [go_sem] at hc)) | refine z8 rfl ?_) | ((with_reducible refine And.intro ?_ ?_); focus omega) | (refine z6 hK ?_; clear hK; simp only [go_sem, *]) | (simp only [z5, z4, go_sem, *]))
 refine ⟨[], [some 0], [], trivial, ?_⟩
 simp only [go_sem, Z3, AObj.ren, *]
end Go.Abs

namespace Go.Abs
open Go Go.Proofs Tryz
attribute [local irreducible] z3 Hold q7
theorem zHS {f : Nat} {cf : House → House → Int} (hcal : r5 prog f = true) (hf : ∀ a b : House, zLJ prog f [a.enc, b.enc] [] (iV (cf a b)) []) (xs : List House) (h1 : xs.length ≤ 12) :
  zLJ prog 159 [.own 0 3 0 xs.length, iV 0, iV xs.length, .any, fnV f] [.row 3 (xs.map House.enc)] (.tup []) [.row 3 ((v6 cf xs).map House.enc)] := by
 have hw : IntKind.i64.wrap ((xs.length : Int) - 0) = (xs.length : Int) := by rw [wrap_i64 (by omega) (by omega)]; omega
 have h12 : ((xs.length : Int) ≤ 12) = True := by simp only [eq_iff_iff, iff_true]; omega
 refine y3 func159 rfl (fun E hE => ?_); simp only [go_sem, ntmps159]
 repeat' (first | (show z3 ..; first | (refine Qr rfl ?_; try intro _ hK; try simp only [go_sem, *]) | (refine Qi rfl rfl rfl rfl (fun hb _ hK => ?_) (fun hb => ?_) <;> (have hc := hb; try simp only [go_sem] at hc; simp only [go_sem, *]))) | (show Hold ..; first | refine Qh rfl ?_ | refine q6 rfl mixed (by kernel_rfl) ?_ | (refine z7 rfl ⟨_, rfl, fun hb => ?_, fun hb => ?_⟩ <;> (have hc := hb; try simp only [go_sem] at hc)) | refine z8 rfl ?_) | (refine Qb ?_ ?_; focus kernel_rfl) | ((with_reducible refine And.intro ?_ ?_); focus omega) | (refine z6 hK ?_; clear hK; simp only [go_sem, *]) | (simp only [z5, z4, go_sem, *]))
 refine y8 rfl (fun zn zN zenv zAs => ∃ (i : Nat), zn = (1) - i ∧ i ≤ (1) ∧ (NoP i) ∧ zN = 148 ∧ zenv = [(0, .own 0 3 0 xs.length), (1, iV 0), (2, iV xs.length), (4, fnV f)] ∧ zAs = [.row 3 (xs.map House.enc)]) (1) ⟨[some 0], [], _, _, _, (by (simp only [Weak, go_sem, List.map_append, List.map_set, *] <;> (try simp (disch := omega) only [q9]) <;> (try simp) <;> (try omega))), 0, (by simp), (by simp), (by trivial), rfl, rfl, rfl⟩ ?_; rintro _ _ _ _ ⟨i, rfl, hi, hP, rfl, rfl, rfl⟩
 repeat' (first | (show z3 ..; first | (refine Qr rfl ?_; try intro _ hK; try simp only [go_sem, *]) | (refine Qi rfl rfl rfl rfl (fun hb _ hK => ?_) (fun hb => ?_) <;> (have hc := hb; try simp only [go_sem] at hc; simp only [go_sem, *]))) | (show Hold ..; first | refine Qh rfl ?_ | refine q6 rfl mixed (by kernel_rfl) ?_ | (refine z7 rfl ⟨_, rfl, fun hb => ?_, fun hb => ?_⟩ <;> (have hc := hb; try simp only [go_sem] at hc)) | refine z8 rfl ?_) | (refine Qb ?_ ?_; focus kernel_rfl) | ((with_reducible refine And.intro ?_ ?_); focus omega) | (refine z6 hK ?_; clear hK; simp only [go_sem, *]) | (simp only [z5, z4, go_sem, *]))
 refine x8 [0] [] (zHH hcal hf xs h1) (by simp) (by simp only [go_sem, *]) (by simp only [go_sem, AObj.live, *]) (by simp) (.inl rfl) (by simp [go_sem]) (by simp) ?_
 simp only [go_sem, *]
 repeat' (first | (show z3 ..; first | (refine Qr rfl ?_; try intro _ hK; try simp only [go_sem, *]) | (refine Qi rfl rfl rfl rfl (fun hb _ hK => ?_) (fun hb => ?_) <;> (have hc := hb; try simp only [go_sem] at hc; simp only [go_sem, *]))) | (show Hold ..; first | refine Qh rfl ?_ | refine q6 rfl mixed (by kernel_rfl) ?_ | (refine z7 rfl ⟨_, rfl, fun hb => ?_, fun hb => ?_⟩ <;> (have hc := hb; try simp only [go_sem] at hc)) | refine z8 rfl ?_) | (refine Qb ?_ ?_; focus kernel_rfl) | ((with_reducible refine And.intro ?_ ?_); focus omega) | (refine z6 hK ?_; clear hK; simp only [go_sem, *]) | (simp only [z5, z4, go_sem, *]))
 refine ⟨[], [some 0], [], trivial, ?_⟩
 simp only [go_sem, Z3, AObj.ren, *]
theorem zG0 {f : Nat} {cf : House → House → Int} (hcal : r5 prog f = true) (hf : ∀ a b : House, zLJ prog f [a.enc, b.enc] [] (iV (cf a b)) []) (xs : List House) (h1 : xs.length ≤ 12) :
  zLJ prog 135 [.own 0 3 0 xs.length, fnV f] [.row 3 (xs.map House.enc)] (.tup []) [.row 3 ((v6 cf xs).map House.enc)] := by
 have hw : IntKind.u64.wrap (xs.length : Int) = (xs.length : Int) := wrap_u64 (by omega) (by omega)
 refine y3 func135 rfl (fun E hE => ?_); simp only [go_sem, ntmps135]
 repeat' (first | (show z3 ..; first | (refine Qr rfl ?_; try intro _ hK; try simp only [go_sem, *])) | (show Hold ..; first | refine Qh rfl ?_ | (refine z7 rfl ⟨_, rfl, fun hb => ?_, fun hb => ?_⟩ <;> (have hc := hb; try simp only [go_sem] at hc)) | refine z8 rfl ?_) | (show q7 ..; first | (refine q8 (zCR xs.length h1) ?_ ?_; (focus (simp only [go_sem, *]; done)); simp only [go_sem, *])) | ((with_reducible refine And.intro ?_ ?_); focus omega) | (refine z6 hK ?_; clear hK; simp only [go_sem, *]) | (simp only [z5, z4, go_sem, *]))
 refine x8 [0] [] (zHS hcal hf xs h1) (by simp) (by simp only [go_sem, *]) (by simp only [go_sem, AObj.live, *]) (by simp) (.inl rfl) (by simp [go_sem]) (by simp) ?_
 simp only [go_sem, *]
 repeat' (first | (show z3 ..; first | (refine Qr rfl ?_; try intro _ hK; try simp only [go_sem, *])) | (show Hold ..; first | refine Qh rfl ?_ | (refine z7 rfl ⟨_, rfl, fun hb => ?_, fun hb => ?_⟩ <;> (have hc := hb; try simp only [go_sem] at hc)) | refine z8 rfl ?_) | ((with_reducible refine And.intro ?_ ?_); focus omega) | (refine z6 hK ?_; clear hK; simp only [go_sem, *]) | (simp only [z5, z4, go_sem, *]))
 refine ⟨[], [some 0], [], trivial, ?_⟩
 simp only [go_sem, Z3, AObj.ren, *]
end Go.Abs

namespace Go.Abs
open Go
section
variable {α : Type} (cf : α → α → Int)
structure Ordr : Prop where
 asym : ∀ x y, cf x y < 0 → ¬ cf y x < 0
 trans : ∀ x y z, ¬ cf y x < 0 → ¬ cf z y < 0 → ¬ cf z x < 0
theorem zBa (o : Ordr cf) (x : α) : ∀ l : List α, l.Pairwise (fun a b => ¬ cf a b < 0) → (zLk cf x l).Pairwise (fun a b => ¬ cf a b < 0)
 | [], _ => by simp [zLk]
 | y :: r, h => by
  obtain ⟨h1, h2⟩ := List.pairwise_cons.1 h
  unfold zLk
  split
  ·rename_i hc
   refine List.pairwise_cons.2 ⟨fun z hz => ?_, zBa o x r h2⟩
   rcases List.mem_cons.1 ((B2 cf x r).mem_iff.1 hz) with rfl | hz
   ·exact o.asym _ _ hc
   ·exact h1 z hz
  ·rename_i hc
   refine List.pairwise_cons.2 ⟨fun z hz => ?_, h⟩
   rcases List.mem_cons.1 hz with rfl | hz
   ·exact hc
   ·exact o.trans _ _ _ (h1 z hz) hc
theorem zFG (o : Ordr cf) {pre : List α} (x : α) (h : pre.Pairwise (fun a b => ¬ cf b a < 0)) : (zLa cf pre x).Pairwise (fun a b => ¬ cf b a < 0) := by
 unfold zLa
 rw [List.pairwise_reverse]
 exact zBa cf o x _ (List.pairwise_reverse.2 h)
theorem zBe (o : Ordr cf) (xs : List α) : (v6 cf xs).Pairwise (fun a b => ¬ cf b a < 0) := by
 have key : ∀ (xs pre : List α), pre.Pairwise (fun a b => ¬ cf b a < 0) → (xs.foldl (zLa cf) pre).Pairwise (fun a b => ¬ cf b a < 0) := by
  intro xs
  induction xs with
  | nil => intro pre h; exact h
  | cons x r ih => intro pre h; exact ih _ (zFG cf o x h)
 exact key xs [] List.Pairwise.nil
end
theorem zF3 : Ordr zLV := ⟨fun x y h => by rw [N1, Plate.lt_iff] at *; omega, fun x y z h1 h2 => by rw [N1, Plate.lt_iff] at *; omega⟩
theorem zF2 : Ordr zLi := ⟨fun x y h => by rw [E8, House.lt_iff] at *; omega, fun x y z h1 h2 => by rw [E8, House.lt_iff] at *; omega⟩
theorem zFO {xs : List Plate} (hn : xs.Nodup) : (v6 zLV xs).Pairwise (fun a b => a.lt b = true) := by
 have h1 := zBe zLV zF3 xs
 have h2 : (v6 zLV xs).Nodup := (V7 zLV xs).nodup_iff.2 hn
 refine (h1.and h2).imp (fun {a b} h => ?_)
 rcases Plate.lt_tri a b with h3 | h3 | h3
 ·exact h3
 ·exact absurd h3 h.2
 ·exact absurd ((N1 b a).2 h3) h.1
def zL4 (i s : Nat) (b : List Plate) : List Plate := if s < i then v6 zLV b else b
attribute [go_sem] zL4 I7
@[go_sem] theorem zLB (f : Plate → AV) (b : List Plate) : ((v6 zLV b).map f).take b.length = (v6 zLV b).map f := List.take_of_length_le (by simp [I7])
def Bk (b : List Plate) (s : Nat) (rest tot : List House) : Prop := (b ++ (rest.filter (fun h => h.street == (s : Int))).map House.plate).Perm ((tot.filter (fun h => h.street == (s : Int))).map House.plate)
theorem Bk.start (s : Nat) (tot : List House) : Bk [] s tot tot := by simp [Bk]
theorem Bk.step_in {b : List Plate} {s : Nat} {h : House} {rest tot : List House} (hb : Bk b s (h :: rest) tot) (e : h.street = s) : Bk (b ++ [h.plate]) s rest tot := by
 unfold Bk at *
 rw [List.filter_cons, if_pos (by simp [e])] at hb
 simpa using hb
theorem Bk.step_out {b : List Plate} {s : Nat} {h : House} {rest tot : List House} (hb : Bk b s (h :: rest) tot) (e : h.street ≠ s) : Bk b s rest tot := by
 unfold Bk at *
 rw [List.filter_cons, if_neg (by simpa using e)] at hb
 exact hb
theorem Bk.perm {b : List Plate} {s : Nat} {rest rest' tot : List House} (hb : Bk b s rest tot) (hp : rest.Perm rest') : Bk b s rest' tot :=
 (List.Perm.append_left b ((hp.symm.filter _).map _)).trans hb
theorem E9 {α : Type} : ∀ (l : List α) (i : Nat) (h : i < l.length), l.Perm (l[i] :: l.eraseIdx i)
 | x :: r, 0, _ => by simp
 | x :: r, i + 1, h => by
  simp only [List.getElem_cons_succ, List.eraseIdx_cons_succ]
  exact ((E9 r i (by simpa using h)).cons x).trans (.swap _ _ _)
theorem Bk.pick {b : List Plate} {s : Nat} {rem : List House} {g : House → List House} {tot : List House} (hb : Bk b s (rem.flatMap g) tot) (i : Nat) (h : i < rem.length) : Bk b s (g rem[i] ++ (rem.eraseIdx i).flatMap g) tot := by
 refine hb.perm ?_
 have := (E9 rem i h).flatMap_right g
 simpa using this
theorem Bk.len {b : List Plate} {s : Nat} {rest tot : List House} (hb : Bk b s rest tot) : b.length ≤ (tot.filter (fun h => h.street == (s : Int))).length := by
 have := hb.length_eq
 simp at this; omega
theorem Bk.fin {b : List Plate} {s n : Nat} {tot : List House} (hb : Bk b s [] tot) (hn : tot.Nodup) (hs : s < n) : v6 zLV b = z9 (zLT tot n) s := by
 have hp : b.Perm ((tot.filter (fun h => h.street == (s : Int))).map House.plate) := by simpa [Bk] using hb
 have hnd : ((tot.filter (fun h => h.street == (s : Int))).map House.plate).Nodup := by
  rw [List.nodup_iff_pairwise_ne, List.pairwise_map]
  refine (hn.filter _).imp_of_mem (fun {a b} ha hb' hab e => hab ?_)
  have h1 := (List.mem_filter.1 ha).2
  have h2 := (List.mem_filter.1 hb').2
  simp at h1 h2
  cases a; cases b; simp_all
 refine zB8 (zFO (hp.nodup_iff.2 hnd)) (L3 (by omega) (by omega)) (fun z => ?_)
 rw [(V7 zLV b).mem_iff, hp.mem_iff, V9 (by omega) (by omega)]
 simp only [List.mem_map, List.mem_filter, beq_iff_eq]
 constructor
 ·rintro ⟨h, ⟨h1, h2⟩, rfl⟩
  rw [← h2]; exact h1
 ·intro h; exact ⟨_, ⟨h, rfl⟩, rfl⟩
end Go.Abs

namespace Go.Abs
open Go Go.Proofs Tryz
attribute [local irreducible] z3 Hold q7
def zMO (g : House → List House) (hs rem : List House) (i : Nat) (b0 : List Plate) : Prop := rem.length + i = hs.length ∧ (∀ h, h ∈ rem → h ∈ hs) ∧ Bk b0 0 (rem.flatMap g) (hs.flatMap g)
def zMR (rest tot : List House) (b0 : List Plate) : Prop := Bk b0 0 rest tot ∧ True
theorem zG3 (hs : List House) (g : House → List House) (hst : ∀ z, z ∈ hs.flatMap g → 0 ≤ z.street ∧ z.street < 1) (hnd : (hs.flatMap g).Nodup) (hlen : ∀ s : Nat, s < 1 → ((hs.flatMap g).filter (fun h => h.street == (s : Int))).length ≤ 12) (hsl : hs.length ≤ 1000) (hgl : ∀ h, h ∈ hs → (g h).length ≤ 1000) :
  zLJ prog 89 [.fmap (hs.map House.key) (hs.map (zLN g)), iV 1] [] (y5 (zLT (hs.flatMap g) 1)) [] := by
 have rz : List.replicate 1 (AV.raw (Value.slice none 0 0)) = [AV.raw (Value.slice none 0 0)] := rfl
 have hmt : (zLf prog 121).isSome = true := by kernel_rfl
 have hv1 : IntKind.i64.wrap 1 = (1 : Int) := wrap_i64 (by omega) (by omega)
 have hv2 : IntKind.i64.wrap 2 = (2 : Int) := wrap_i64 (by omega) (by omega)
 have hv3 : IntKind.i64.wrap 3 = (3 : Int) := wrap_i64 (by omega) (by omega)
 refine y3 func89 rfl (fun E hE => ?_); simp only [go_sem, ntmps89]
 repeat' (first | (show z3 ..; first | (refine Qr rfl ?_; try intro _ hK; try simp only [go_sem, *])) | (show Hold ..; first | refine Qh rfl ?_ | refine q6 rfl mixed (by kernel_rfl) ?_ | (refine z7 rfl ⟨_, rfl, fun hb => ?_, fun hb => ?_⟩ <;> (have hc := hb; try simp only [go_sem] at hc)) | refine z8 rfl ?_) | (refine Qb ?_ ?_; focus kernel_rfl) | ((with_reducible refine And.intro ?_ ?_); focus omega) | (refine z6 hK ?_; clear hK; simp only [go_sem, *]) | (simp only [z5, z4, go_sem, *]))
 refine y8 rfl (fun zn zN zenv zAs => ∃ (i : Nat) (cur : Option (Value × AV)) (rem : List House) (b0 : List Plate), zn = (hs.length) - i ∧ i ≤ (hs.length) ∧ (zMO g hs rem i b0) ∧ zN = 54 ∧ zenv = [(4, .ptr 0 0), (5, .ptr 1 0), (16, .ptr 4 0)] ∧ zAs = [.box [zLb], .box [.own 2 1 0 1], .box [.own 3 2 0 b0.length], .row 2 (b0.map Plate.enc), .iter cur (rem.map House.key) (rem.map (zLN g))]) (hs.length) ⟨[some 0, some 2, some 1, none, some 3], [], _, _, _, (by (simp only [Weak, go_sem, List.map_append, List.map_set, *] <;> (try simp (disch := omega) only [q9]) <;> (try simp) <;> (try omega))), 0, none, hs, [], (by simp), (by simp), (by exact ⟨by omega, fun h hh => hh, Bk.start _ _⟩), rfl, rfl, rfl⟩ ?_; rintro _ _ _ _ ⟨i, cur, rem, b0, rfl, hi, hP, rfl, rfl, rfl⟩
 refine P4 rfl ?_
 refine G7 (o := 4) rfl rfl rfl rfl rfl rfl rfl cur (rem.map House.key) (rem.map (zLN g)) (by simp only [go_sem]) (by simp only [go_sem]) (show (17 : Nat) < 54 by decide) (show (18 : Nat) < 54 by decide) (fun hk _ => ?_) (fun r hr1 hr2 => ?_)
 ·simp only [go_sem]
  repeat' (first | (show z3 ..; first | (refine Qr rfl ?_; try intro _ hK; try simp only [go_sem, *])) | (show Hold ..; first | refine Qh rfl ?_ | refine q6 rfl mixed (by kernel_rfl) ?_ | (refine z7 rfl ⟨_, rfl, fun hb => ?_, fun hb => ?_⟩ <;> (have hc := hb; try simp only [go_sem] at hc)) | refine z8 rfl ?_) | (refine Qb ?_ ?_; focus kernel_rfl) | ((with_reducible refine And.intro ?_ ?_); focus omega) | (refine z6 hK ?_; clear hK; simp only [go_sem, *]) | (simp only [z5, z4, go_sem, *]))
  obtain rfl : rem = [] := by simpa using hk
  obtain ⟨hlen0, hsub, p0⟩ := hP
  rw [List.flatMap_nil] at p0
  have hl0 := Nat.le_trans p0.len (hlen 0 (by omega))
  refine y8 rfl (fun zn zN zenv zAs => ∃ (k : Nat), zn = (1) - k ∧ k ≤ (1) ∧ (NoP k) ∧ zN = 54 ∧ zenv = [(46, iV k), (45, iV 1), (44, .own 2 1 0 1), (4, .ptr 0 0), (5, .ptr 1 0)] ∧ zAs = [.box [zLb], .box [.own 2 1 0 1], .box [.own 3 2 0 b0.length], .row 2 ((zL4 k 0 b0).map Plate.enc)]) (1) ⟨[some 0, some 1, some 2, some 3], [], _, _, _, (by (simp only [Weak, go_sem, List.map_append, List.map_set, *] <;> (try simp (disch := omega) only [q9]) <;> (try simp) <;> (try omega))), 0, (by simp), (by simp), (by trivial), rfl, rfl, rfl⟩ ?_; rintro _ _ _ _ ⟨k, rfl, hk, hK, rfl, rfl, rfl⟩
  rcases (by omega : k = 0 ∨ k = 1) with rfl | rfl
  ·repeat' (first | (show z3 ..; first | (refine Qr rfl ?_; try intro _ hK; try simp only [go_sem, *])) | (show Hold ..; first | refine Qh rfl ?_ | refine q6 rfl mixed (by kernel_rfl) ?_ | (refine z7 rfl ⟨_, rfl, fun hb => ?_, fun hb => ?_⟩ <;> (have hc := hb; try simp only [go_sem] at hc)) | refine z8 rfl ?_) | (refine Qb ?_ ?_; focus kernel_rfl) | ((with_reducible refine And.intro ?_ ?_); focus omega) | (refine z6 hK ?_; clear hK; simp only [go_sem, *]) | (simp only [z5, z4, go_sem, *]))
   refine x8 [3] [] (P6 (by kernel_rfl) W1 b0 (by omega)) (by simp) (by simp only [go_sem, *]) (by simp only [go_sem, AObj.live, *]) (by simp) (.inl rfl) (by simp [go_sem]) (by simp) ?_
   simp only [go_sem, AObj.ren, *]
   repeat' (first | (show z3 ..; first | (refine Qr rfl ?_; try intro _ hK; try simp only [go_sem, *])) | (show Hold ..; first | refine Qh rfl ?_ | refine q6 rfl mixed (by kernel_rfl) ?_ | (refine z7 rfl ⟨_, rfl, fun hb => ?_, fun hb => ?_⟩ <;> (have hc := hb; try simp only [go_sem] at hc)) | refine z8 rfl ?_) | (refine Qb ?_ ?_; focus kernel_rfl) | ((with_reducible refine And.intro ?_ ?_); focus omega) | (refine z6 hK ?_; clear hK; simp only [go_sem, *]) | (simp only [z5, z4, go_sem, *]))
   refine ⟨_, (by omega), [some 0, some 1, some 2, some 3], [], _, _, _, (by (simp only [Weak, go_sem, List.map_append, List.map_set, *] <;> (try simp (disch := omega) only [q9]) <;> (try simp) <;> (try omega))), 0 + 1, rfl, (by omega), (by trivial), rfl, rfl, rfl⟩
  ·repeat' (first | (show z3 ..; first | (refine Qr rfl ?_; try intro _ hK; try simp only [go_sem, *])) | (show Hold ..; first | refine Qh rfl ?_ | refine q6 rfl mixed (by kernel_rfl) ?_ | (refine z7 rfl ⟨_, rfl, fun hb => ?_, fun hb => ?_⟩ <;> (have hc := hb; try simp only [go_sem] at hc)) | refine z8 rfl ?_) | (refine Qb ?_ ?_; focus kernel_rfl) | ((with_reducible refine And.intro ?_ ?_); focus omega) | (refine z6 hK ?_; clear hK; simp only [go_sem, *]) | (simp only [z5, z4, go_sem, *]))
   have e : zLT (hs.flatMap g) 1 = [v6 zLV b0] := by
    rw [p0.fin hnd (n := 1) (by omega)]; simp [zLT, z9, List.range_succ]
   refine ⟨[.agg [.own 2 1 0 1]], [], [2, 3], ⟨by simp only [x9, go_sem], trivial⟩, ?_⟩
   simp only [go_sem, e, *]
   exact .inr (by simp)
 ·obtain ⟨hr, hrk, hrx⟩ : ∃ hr : r < rem.length, (rem.map House.key)[r] = (rem[r]).key ∧ (rem.map (zLN g))[r] = .list ((g rem[r]).map House.enc) := ⟨by simpa using hr1, by simp, by simp [zLN]⟩
  rw [hrk, hrx, ← Q5, ← Q5]
  generalize (rem[r]).key = kk at *
  clear hrk
  simp only [go_sem]
  repeat' (first | (show z3 ..; first | (refine Qr rfl ?_; try intro _ hK; try simp only [go_sem, *])) | (show Hold ..; first | refine Qh rfl ?_ | refine q6 rfl mixed (by kernel_rfl) ?_ | (refine z7 rfl ⟨_, rfl, fun hb => ?_, fun hb => ?_⟩ <;> (have hc := hb; try simp only [go_sem] at hc)) | refine z8 rfl ?_) | (refine Qb ?_ ?_; focus kernel_rfl) | ((with_reducible refine And.intro ?_ ?_); focus omega) | (refine z6 hK ?_; clear hK; simp only [go_sem, *]) | (simp only [z5, z4, go_sem, *]))
  obtain ⟨hlen0, hsub, p0⟩ := hP
  have p0 := p0.pick r hr
  have hll : (g rem[r]).length ≤ 1000 := hgl _ (hsub _ (List.getElem_mem hr))
  have hsl2 : ∀ z, z ∈ g rem[r] → 0 ≤ z.street ∧ z.street < 1 := fun z hz => hst z (List.mem_flatMap.2 ⟨_, hsub _ (List.getElem_mem hr), hz⟩)
  clear hrx
  generalize g rem[r] = l at *
  refine y8 rfl (fun zn zN zenv zAs => ∃ (j : Nat) (b0 : List Plate), zn = (l.length) - j ∧ j ≤ (l.length) ∧ (zMR (l.drop j ++ (rem.eraseIdx r).flatMap g) (hs.flatMap g) b0) ∧ zN = 54 ∧ zenv = [(23, iV j), (22, iV l.length), (21, r8 l), (4, .ptr 0 0), (5, .ptr 1 0), (16, .ptr 4 0)] ∧ zAs = [.box [zLb], .box [.own 2 1 0 1], .box [.own 3 2 0 b0.length], .row 2 (b0.map Plate.enc), .iter (some (kk, .list (l.map House.enc))) ((rem.eraseIdx r).map House.key) ((rem.eraseIdx r).map (zLN g))]) (l.length) ⟨[some 0, some 1, some 2, some 3, some 4], [], _, _, _, (by (simp only [Weak, go_sem, List.map_append, List.map_set, *] <;> (try simp (disch := omega) only [q9]) <;> (try simp) <;> (try omega))), 0, b0, (by simp), (by simp), (by exact ⟨p0, trivial⟩), rfl, rfl, rfl⟩ ?_; rintro _ _ _ _ ⟨j, b0, rfl, hj, hQ, rfl, rfl, rfl⟩
  by_cases hj : j < l.length
  ·have hz := hsl2 _ (w6 hj)
   have hdj := v3 hj
   rw [hdj, List.cons_append] at hQ
   obtain ⟨q0, _⟩ := hQ
   have hl0 := Nat.le_trans q0.len (hlen 0 (by omega))
   clear hdj
   rcases (by omega : (l.getD j default).street = 0) with hs0
   ·repeat' (first | (show z3 ..; first | (refine Qr rfl ?_; try intro _ hK; try simp only [go_sem, *])) | (show Hold ..; first | refine Qh rfl ?_ | refine q6 rfl mixed (by kernel_rfl) ?_ | (refine z7 rfl ⟨_, rfl, fun hb => ?_, fun hb => ?_⟩ <;> (have hc := hb; try simp only [go_sem] at hc)) | refine z8 rfl ?_) | (refine Qb ?_ ?_; focus kernel_rfl) | ((with_reducible refine And.intro ?_ ?_); focus omega) | (refine z6 hK ?_; clear hK; simp only [go_sem, *]) | (simp only [z5, z4, go_sem, *]))
    refine ⟨_, (by omega), [some 0, some 1, some 2, some 7, some 4], [], _, _, _, (by (simp only [Weak, go_sem, List.map_append, List.map_set, *] <;> (try simp (disch := omega) only [q9]) <;> (try simp) <;> (try omega))), j + 1, b0 ++ [(l.getD j default).plate], rfl, (by omega), (by exact ⟨q0.step_in (by rw [hs0]; rfl), trivial⟩), rfl, rfl, rfl⟩
  ·repeat' (first | (show z3 ..; first | (refine Qr rfl ?_; try intro _ hK; try simp only [go_sem, *])) | (show Hold ..; first | refine Qh rfl ?_ | refine q6 rfl mixed (by kernel_rfl) ?_ | (refine z7 rfl ⟨_, rfl, fun hb => ?_, fun hb => ?_⟩ <;> (have hc := hb; try simp only [go_sem] at hc)) | refine z8 rfl ?_) | (refine Qb ?_ ?_; focus kernel_rfl) | ((with_reducible refine And.intro ?_ ?_); focus omega) | (refine z6 hK ?_; clear hK; simp only [go_sem, *]) | (simp only [z5, z4, go_sem, *]))
   rw [v4 (by omega), List.nil_append] at hQ
   refine ⟨_, (by omega), [some 0, some 1, some 2, some 3, some 4], [], _, _, _, (by (simp only [Weak, go_sem, List.map_append, List.map_set, *] <;> (try simp (disch := omega) only [q9]) <;> (try simp) <;> (try omega))), i + 1, (some (kk, .list (l.map House.enc))), rem.eraseIdx r, b0, rfl, (by omega), (by exact ⟨by rw [List.length_eraseIdx_of_lt hr]; omega, fun h hh => hsub h ((List.eraseIdx_sublist _ _).subset hh), hQ.1⟩), rfl, rfl, rfl⟩
end Go.Abs

namespace Go.Abs
open Go Go.Proofs Tryz
attribute [local irreducible] z3 Hold q7
def zMP (g : House → List House) (hs rem : List House) (i : Nat) (b0 b1 : List Plate) : Prop := rem.length + i = hs.length ∧ (∀ h, h ∈ rem → h ∈ hs) ∧ Bk b0 0 (rem.flatMap g) (hs.flatMap g) ∧ Bk b1 1 (rem.flatMap g) (hs.flatMap g)
def zMS (rest tot : List House) (b0 b1 : List Plate) : Prop := Bk b0 0 rest tot ∧ Bk b1 1 rest tot
theorem zG4 (hs : List House) (g : House → List House) (hst : ∀ z, z ∈ hs.flatMap g → 0 ≤ z.street ∧ z.street < 2) (hnd : (hs.flatMap g).Nodup) (hlen : ∀ s : Nat, s < 2 → ((hs.flatMap g).filter (fun h => h.street == (s : Int))).length ≤ 12) (hsl : hs.length ≤ 1000) (hgl : ∀ h, h ∈ hs → (g h).length ≤ 1000) :
  zLJ prog 89 [.fmap (hs.map House.key) (hs.map (zLN g)), iV 2] [] (y5 (zLT (hs.flatMap g) 2)) [] := by
 have rz : List.replicate 2 (AV.raw (Value.slice none 0 0)) = [AV.raw (Value.slice none 0 0), AV.raw (Value.slice none 0 0)] := rfl
 have hmt : (zLf prog 121).isSome = true := by kernel_rfl
 have hv1 : IntKind.i64.wrap 1 = (1 : Int) := wrap_i64 (by omega) (by omega)
 have hv2 : IntKind.i64.wrap 2 = (2 : Int) := wrap_i64 (by omega) (by omega)
 have hv3 : IntKind.i64.wrap 3 = (3 : Int) := wrap_i64 (by omega) (by omega)
 refine y3 func89 rfl (fun E hE => ?_); simp only [go_sem, ntmps89]
 repeat' (first | (show z3 ..; first | (refine Qr rfl ?_; try intro _ hK; try simp only [go_sem, *])) | (show Hold ..; first | refine Qh rfl ?_ | refine q6 rfl mixed (by kernel_rfl) ?_ | (refine z7 rfl ⟨_, rfl, fun hb => ?_, fun hb => ?_⟩ <;> (have hc := hb; try simp only [go_sem] at hc)) | refine z8 rfl ?_) | (refine Qb ?_ ?_; focus kernel_rfl) | ((with_reducible refine And.intro ?_ ?_); focus omega) | (refine z6 hK ?_; clear hK; simp only [go_sem, *]) | (simp only [z5, z4, go_sem, *]))
 refine y8 rfl (fun zn zN zenv zAs => ∃ (i : Nat) (cur : Option (Value × AV)) (rem : List House) (b0 : List Plate) (b1 : List Plate), zn = (hs.length) - i ∧ i ≤ (hs.length) ∧ (zMP g hs rem i b0 b1) ∧ zN = 54 ∧ zenv = [(4, .ptr 0 0), (5, .ptr 1 0), (16, .ptr 5 0)] ∧ zAs = [.box [zLb], .box [.own 2 1 0 2], .box [.own 3 2 0 b0.length, .own 4 2 0 b1.length], .row 2 (b0.map Plate.enc), .row 2 (b1.map Plate.enc), .iter cur (rem.map House.key) (rem.map (zLN g))]) (hs.length) ⟨[some 0, some 2, some 1, none, none, some 3], [], _, _, _, (by (simp only [Weak, go_sem, List.map_append, List.map_set, *] <;> (try simp (disch := omega) only [q9]) <;> (try simp) <;> (try omega))), 0, none, hs, [], [], (by simp), (by simp), (by exact ⟨by omega, fun h hh => hh, Bk.start _ _, Bk.start _ _⟩), rfl, rfl, rfl⟩ ?_; rintro _ _ _ _ ⟨i, cur, rem, b0, b1, rfl, hi, hP, rfl, rfl, rfl⟩
 refine P4 rfl ?_
 refine G7 (o := 5) rfl rfl rfl rfl rfl rfl rfl cur (rem.map House.key) (rem.map (zLN g)) (by simp only [go_sem]) (by simp only [go_sem]) (show (17 : Nat) < 54 by decide) (show (18 : Nat) < 54 by decide) (fun hk _ => ?_) (fun r hr1 hr2 => ?_)
 ·simp only [go_sem]
  repeat' (first | (show z3 ..; first | (refine Qr rfl ?_; try intro _ hK; try simp only [go_sem, *])) | (show Hold ..; first | refine Qh rfl ?_ | refine q6 rfl mixed (by kernel_rfl) ?_ | (refine z7 rfl ⟨_, rfl, fun hb => ?_, fun hb => ?_⟩ <;> (have hc := hb; try simp only [go_sem] at hc)) | refine z8 rfl ?_) | (refine Qb ?_ ?_; focus kernel_rfl) | ((with_reducible refine And.intro ?_ ?_); focus omega) | (refine z6 hK ?_; clear hK; simp only [go_sem, *]) | (simp only [z5, z4, go_sem, *]))
  obtain rfl : rem = [] := by simpa using hk
  obtain ⟨hlen0, hsub, p0, p1⟩ := hP
  rw [List.flatMap_nil] at p0 p1
  have hl0 := Nat.le_trans p0.len (hlen 0 (by omega))
  have hl1 := Nat.le_trans p1.len (hlen 1 (by omega))
  refine y8 rfl (fun zn zN zenv zAs => ∃ (k : Nat), zn = (2) - k ∧ k ≤ (2) ∧ (NoP k) ∧ zN = 54 ∧ zenv = [(46, iV k), (45, iV 2), (44, .own 2 1 0 2), (4, .ptr 0 0), (5, .ptr 1 0)] ∧ zAs = [.box [zLb], .box [.own 2 1 0 2], .box [.own 3 2 0 b0.length, .own 4 2 0 b1.length], .row 2 ((zL4 k 0 b0).map Plate.enc), .row 2 ((zL4 k 1 b1).map Plate.enc)]) (2) ⟨[some 0, some 1, some 2, some 3, some 4], [], _, _, _, (by (simp only [Weak, go_sem, List.map_append, List.map_set, *] <;> (try simp (disch := omega) only [q9]) <;> (try simp) <;> (try omega))), 0, (by simp), (by simp), (by trivial), rfl, rfl, rfl⟩ ?_; rintro _ _ _ _ ⟨k, rfl, hk, hK, rfl, rfl, rfl⟩
  rcases (by omega : k = 0 ∨ k = 1 ∨ k = 2) with rfl | rfl | rfl
  ·repeat' (first | (show z3 ..; first | (refine Qr rfl ?_; try intro _ hK; try simp only [go_sem, *])) | (show Hold ..; first | refine Qh rfl ?_ | refine q6 rfl mixed (by kernel_rfl) ?_ | (refine z7 rfl ⟨_, rfl, fun hb => ?_, fun hb => ?_⟩ <;> (have hc := hb; try simp only [go_sem] at hc)) | refine z8 rfl ?_) | (refine Qb ?_ ?_; focus kernel_rfl) | ((with_reducible refine And.intro ?_ ?_); focus omega) | (refine z6 hK ?_; clear hK; simp only [go_sem, *]) | (simp only [z5, z4, go_sem, *]))
   refine x8 [3] [] (P6 (by kernel_rfl) W1 b0 (by omega)) (by simp) (by simp only [go_sem, *]) (by simp only [go_sem, AObj.live, *]) (by simp) (.inl rfl) (by simp [go_sem]) (by simp) ?_
   simp only [go_sem, AObj.ren, *]
   repeat' (first | (show z3 ..; first | (refine Qr rfl ?_; try intro _ hK; try simp only [go_sem, *])) | (show Hold ..; first | refine Qh rfl ?_ | refine q6 rfl mixed (by kernel_rfl) ?_ | (refine z7 rfl ⟨_, rfl, fun hb => ?_, fun hb => ?_⟩ <;> (have hc := hb; try simp only [go_sem] at hc)) | refine z8 rfl ?_) | (refine Qb ?_ ?_; focus kernel_rfl) | ((with_reducible refine And.intro ?_ ?_); focus omega) | (refine z6 hK ?_; clear hK; simp only [go_sem, *]) | (simp only [z5, z4, go_sem, *]))
   refine ⟨_, (by omega), [some 0, some 1, some 2, some 3, some 4], [], _, _, _, (by (simp only [Weak, go_sem, List.map_append, List.map_set, *] <;> (try simp (disch := omega) only [q9]) <;> (try simp) <;> (try omega))), 0 + 1, rfl, (by omega), (by trivial), rfl, rfl, rfl⟩
  ·repeat' (first | (show z3 ..; first | (refine Qr rfl ?_; try intro _ hK; try simp only [go_sem, *])) | (show Hold ..; first | refine Qh rfl ?_ | refine q6 rfl mixed (by kernel_rfl) ?_ | (refine z7 rfl ⟨_, rfl, fun hb => ?_, fun hb => ?_⟩ <;> (have hc := hb; try simp only [go_sem] at hc)) | refine z8 rfl ?_) | (refine Qb ?_ ?_; focus kernel_rfl) | ((with_reducible refine And.intro ?_ ?_); focus omega) | (refine z6 hK ?_; clear hK; simp only [go_sem, *]) | (simp only [z5, z4, go_sem, *]))
   refine x8 [4] [] (P6 (by kernel_rfl) W1 b1 (by omega)) (by simp) (by simp only [go_sem, *]) (by simp only [go_sem, AObj.live, *]) (by simp) (.inl rfl) (by simp [go_sem]) (by simp) ?_
   simp only [go_sem, AObj.ren, *]
   repeat' (first | (show z3 ..; first | (refine Qr rfl ?_; try intro _ hK; try simp only [go_sem, *])) | (show Hold ..; first | refine Qh rfl ?_ | refine q6 rfl mixed (by kernel_rfl) ?_ | (refine z7 rfl ⟨_, rfl, fun hb => ?_, fun hb => ?_⟩ <;> (have hc := hb; try simp only [go_sem] at hc)) | refine z8 rfl ?_) | (refine Qb ?_ ?_; focus kernel_rfl) | ((with_reducible refine And.intro ?_ ?_); focus omega) | (refine z6 hK ?_; clear hK; simp only [go_sem, *]) | (simp only [z5, z4, go_sem, *]))
   refine ⟨_, (by omega), [some 0, some 1, some 2, some 3, some 4], [], _, _, _, (by (simp only [Weak, go_sem, List.map_append, List.map_set, *] <;> (try simp (disch := omega) only [q9]) <;> (try simp) <;> (try omega))), 1 + 1, rfl, (by omega), (by trivial), rfl, rfl, rfl⟩
  ·repeat' (first | (show z3 ..; first | (refine Qr rfl ?_; try intro _ hK; try simp only [go_sem, *])) | (show Hold ..; first | refine Qh rfl ?_ | refine q6 rfl mixed (by kernel_rfl) ?_ | (refine z7 rfl ⟨_, rfl, fun hb => ?_, fun hb => ?_⟩ <;> (have hc := hb; try simp only [go_sem] at hc)) | refine z8 rfl ?_) | (refine Qb ?_ ?_; focus kernel_rfl) | ((with_reducible refine And.intro ?_ ?_); focus omega) | (refine z6 hK ?_; clear hK; simp only [go_sem, *]) | (simp only [z5, z4, go_sem, *]))
   have e : zLT (hs.flatMap g) 2 = [v6 zLV b0, v6 zLV b1] := by
    rw [p0.fin hnd (n := 2) (by omega), p1.fin hnd (n := 2) (by omega)]; simp [zLT, z9, List.range_succ]
   refine ⟨[.agg [.own 2 1 0 2]], [], [2, 3, 4], ⟨by simp only [x9, go_sem], trivial⟩, ?_⟩
   simp only [go_sem, e, *]
   exact .inr (by simp)
 ·obtain ⟨hr, hrk, hrx⟩ : ∃ hr : r < rem.length, (rem.map House.key)[r] = (rem[r]).key ∧ (rem.map (zLN g))[r] = .list ((g rem[r]).map House.enc) := ⟨by simpa using hr1, by simp, by simp [zLN]⟩
  rw [hrk, hrx, ← Q5, ← Q5]
  generalize (rem[r]).key = kk at *
  clear hrk
  simp only [go_sem]
  repeat' (first | (show z3 ..; first | (refine Qr rfl ?_; try intro _ hK; try simp only [go_sem, *])) | (show Hold ..; first | refine Qh rfl ?_ | refine q6 rfl mixed (by kernel_rfl) ?_ | (refine z7 rfl ⟨_, rfl, fun hb => ?_, fun hb => ?_⟩ <;> (have hc := hb; try simp only [go_sem] at hc)) | refine z8 rfl ?_) | (refine Qb ?_ ?_; focus kernel_rfl) | ((with_reducible refine And.intro ?_ ?_); focus omega) | (refine z6 hK ?_; clear hK; simp only [go_sem, *]) | (simp only [z5, z4, go_sem, *]))
  obtain ⟨hlen0, hsub, p0, p1⟩ := hP
  have p0 := p0.pick r hr
  have p1 := p1.pick r hr
  have hll : (g rem[r]).length ≤ 1000 := hgl _ (hsub _ (List.getElem_mem hr))
  have hsl2 : ∀ z, z ∈ g rem[r] → 0 ≤ z.street ∧ z.street < 2 := fun z hz => hst z (List.mem_flatMap.2 ⟨_, hsub _ (List.getElem_mem hr), hz⟩)
  clear hrx
  generalize g rem[r] = l at *
  refine y8 rfl (fun zn zN zenv zAs => ∃ (j : Nat) (b0 : List Plate) (b1 : List Plate), zn = (l.length) - j ∧ j ≤ (l.length) ∧ (zMS (l.drop j ++ (rem.eraseIdx r).flatMap g) (hs.flatMap g) b0 b1) ∧ zN = 54 ∧ zenv = [(23, iV j), (22, iV l.length), (21, r8 l), (4, .ptr 0 0), (5, .ptr 1 0), (16, .ptr 5 0)] ∧ zAs = [.box [zLb], .box [.own 2 1 0 2], .box [.own 3 2 0 b0.length, .own 4 2 0 b1.length], .row 2 (b0.map Plate.enc), .row 2 (b1.map Plate.enc), .iter (some (kk, .list (l.map House.enc))) ((rem.eraseIdx r).map House.key) ((rem.eraseIdx r).map (zLN g))]) (l.length) ⟨[some 0, some 1, some 2, some 3, some 4, some 5], [], _, _, _, (by (simp only [Weak, go_sem, List.map_append, List.map_set, *] <;> (try simp (disch := omega) only [q9]) <;> (try simp) <;> (try omega))), 0, b0, b1, (by simp), (by simp), (by exact ⟨p0, p1⟩), rfl, rfl, rfl⟩ ?_; rintro _ _ _ _ ⟨j, b0, b1, rfl, hj, hQ, rfl, rfl, rfl⟩
  by_cases hj : j < l.length
  ·have hz := hsl2 _ (w6 hj)
   have hdj := v3 hj
   rw [hdj, List.cons_append] at hQ
   obtain ⟨q0, q1⟩ := hQ
   have hl0 := Nat.le_trans q0.len (hlen 0 (by omega))
   have hl1 := Nat.le_trans q1.len (hlen 1 (by omega))
   clear hdj
   rcases (by omega : (l.getD j default).street = 0 ∨ (l.getD j default).street = 1) with hs0 | hs0
   ·repeat' (first | (show z3 ..; first | (refine Qr rfl ?_; try intro _ hK; try simp only [go_sem, *])) | (show Hold ..; first | refine Qh rfl ?_ | refine q6 rfl mixed (by kernel_rfl) ?_ | (refine z7 rfl ⟨_, rfl, fun hb => ?_, fun hb => ?_⟩ <;> (have hc := hb; try simp only [go_sem] at hc)) | refine z8 rfl ?_) | (refine Qb ?_ ?_; focus kernel_rfl) | ((with_reducible refine And.intro ?_ ?_); focus omega) | (refine z6 hK ?_; clear hK; simp only [go_sem, *]) | (simp only [z5, z4, go_sem, *]))
    refine ⟨_, (by omega), [some 0, some 1, some 2, some 8, some 4, some 5], [], _, _, _, (by (simp only [Weak, go_sem, List.map_append, List.map_set, *] <;> (try simp (disch := omega) only [q9]) <;> (try simp) <;> (try omega))), j + 1, b0 ++ [(l.getD j default).plate], b1, rfl, (by omega), (by exact ⟨q0.step_in (by rw [hs0]; rfl), q1.step_out (by rw [hs0]; decide)⟩), rfl, rfl, rfl⟩
   ·repeat' (first | (show z3 ..; first | (refine Qr rfl ?_; try intro _ hK; try simp only [go_sem, *])) | (show Hold ..; first | refine Qh rfl ?_ | refine q6 rfl mixed (by kernel_rfl) ?_ | (refine z7 rfl ⟨_, rfl, fun hb => ?_, fun hb => ?_⟩ <;> (have hc := hb; try simp only [go_sem] at hc)) | refine z8 rfl ?_) | (refine Qb ?_ ?_; focus kernel_rfl) | ((with_reducible refine And.intro ?_ ?_); focus omega) | (refine z6 hK ?_; clear hK; simp only [go_sem, *]) | (simp only [z5, z4, go_sem, *]))
    refine ⟨_, (by omega), [some 0, some 1, some 2, some 3, some 8, some 5], [], _, _, _, (by (simp only [Weak, go_sem, List.map_append, List.map_set, *] <;> (try simp (disch := omega) only [q9]) <;> (try simp) <;> (try omega))), j + 1, b0, b1 ++ [(l.getD j default).plate], rfl, (by omega), (by exact ⟨q0.step_out (by rw [hs0]; decide), q1.step_in (by rw [hs0]; rfl)⟩), rfl, rfl, rfl⟩
  ·repeat' (first | (show z3 ..; first | (refine Qr rfl ?_; try intro _ hK; try simp only [go_sem, *])) | (show Hold ..; first | refine Qh rfl ?_ | refine q6 rfl mixed (by kernel_rfl) ?_ | (refine z7 rfl ⟨_, rfl, fun hb => ?_, fun hb => ?_⟩ <;> (have hc := hb; try simp only [go_sem] at hc)) | refine z8 rfl ?_) | (refine Qb ?_ ?_; focus kernel_rfl) | ((with_reducible refine And.intro ?_ ?_); focus omega) | (refine z6 hK ?_; clear hK; simp only [go_sem, *]) | (simp only [z5, z4, go_sem, *]))
   rw [v4 (by omega), List.nil_append] at hQ
   refine ⟨_, (by omega), [some 0, some 1, some 2, some 3, some 4, some 5], [], _, _, _, (by (simp only [Weak, go_sem, List.map_append, List.map_set, *] <;> (try simp (disch := omega) only [q9]) <;> (try simp) <;> (try omega))), i + 1, (some (kk, .list (l.map House.enc))), rem.eraseIdx r, b0, b1, rfl, (by omega), (by exact ⟨by rw [List.length_eraseIdx_of_lt hr]; omega, fun h hh => hsub h ((List.eraseIdx_sublist _ _).subset hh), hQ⟩), rfl, rfl, rfl⟩
end Go.Abs

namespace Go.Abs
open Go Go.Proofs Tryz
attribute [local irreducible] z3 Hold q7
def zMQ (g : House → List House) (hs rem : List House) (i : Nat) (b0 b1 b2 : List Plate) : Prop := rem.length + i = hs.length ∧ (∀ h, h ∈ rem → h ∈ hs) ∧ Bk b0 0 (rem.flatMap g) (hs.flatMap g) ∧ Bk b1 1 (rem.flatMap g) (hs.flatMap g) ∧ Bk b2 2 (rem.flatMap g) (hs.flatMap g)
def zMT (rest tot : List House) (b0 b1 b2 : List Plate) : Prop := Bk b0 0 rest tot ∧ Bk b1 1 rest tot ∧ Bk b2 2 rest tot
theorem zG5 (hs : List House) (g : House → List House) (hst : ∀ z, z ∈ hs.flatMap g → 0 ≤ z.street ∧ z.street < 3) (hnd : (hs.flatMap g).Nodup) (hlen : ∀ s : Nat, s < 3 → ((hs.flatMap g).filter (fun h => h.street == (s : Int))).length ≤ 12) (hsl : hs.length ≤ 1000) (hgl : ∀ h, h ∈ hs → (g h).length ≤ 1000) :
  zLJ prog 89 [.fmap (hs.map House.key) (hs.map (zLN g)), iV 3] [] (y5 (zLT (hs.flatMap g) 3)) [] := by
 have rz : List.replicate 3 (AV.raw (Value.slice none 0 0)) = [AV.raw (Value.slice none 0 0), AV.raw (Value.slice none 0 0), AV.raw (Value.slice none 0 0)] := rfl
 have hmt : (zLf prog 121).isSome = true := by kernel_rfl
 have hv1 : IntKind.i64.wrap 1 = (1 : Int) := wrap_i64 (by omega) (by omega)
 have hv2 : IntKind.i64.wrap 2 = (2 : Int) := wrap_i64 (by omega) (by omega)
 have hv3 : IntKind.i64.wrap 3 = (3 : Int) := wrap_i64 (by omega) (by omega)
 refine y3 func89 rfl (fun E hE => ?_); simp only [go_sem, ntmps89]
 repeat' (first | (show z3 ..; first | (refine Qr rfl ?_; try intro _ hK; try simp only [go_sem, *])) | (show Hold ..; first | refine Qh rfl ?_ | refine q6 rfl mixed (by kernel_rfl) ?_ | (refine z7 rfl ⟨_, rfl, fun hb => ?_, fun hb => ?_⟩ <;> (have hc := hb; try simp only [go_sem] at hc)) | refine z8 rfl ?_) | (refine Qb ?_ ?_; focus kernel_rfl) | ((with_reducible refine And.intro ?_ ?_); focus omega) | (refine z6 hK ?_; clear hK; simp only [go_sem, *]) | (simp only [z5, z4, go_sem, *]))
 refine y8 rfl (fun zn zN zenv zAs => ∃ (i : Nat) (cur : Option (Value × AV)) (rem : List House) (b0 : List Plate) (b1 : List Plate) (b2 : List Plate), zn = (hs.length) - i ∧ i ≤ (hs.length) ∧ (zMQ g hs rem i b0 b1 b2) ∧ zN = 54 ∧ zenv = [(4, .ptr 0 0), (5, .ptr 1 0), (16, .ptr 6 0)] ∧ zAs = [.box [zLb], .box [.own 2 1 0 3], .box [.own 3 2 0 b0.length, .own 4 2 0 b1.length, .own 5 2 0 b2.length], .row 2 (b0.map Plate.enc), .row 2 (b1.map Plate.enc), .row 2 (b2.map Plate.enc), .iter cur (rem.map House.key) (rem.map (zLN g))]) (hs.length) ⟨[some 0, some 2, some 1, none, none, none, some 3], [], _, _, _, (by (simp only [Weak, go_sem, List.map_append, List.map_set, *] <;> (try simp (disch := omega) only [q9]) <;> (try simp) <;> (try omega))), 0, none, hs, [], [], [], (by simp), (by simp), (by exact ⟨by omega, fun h hh => hh, Bk.start _ _, Bk.start _ _, Bk.start _ _⟩), rfl, rfl, rfl⟩ ?_; rintro _ _ _ _ ⟨i, cur, rem, b0, b1, b2, rfl, hi, hP, rfl, rfl, rfl⟩
 refine P4 rfl ?_
 refine G7 (o := 6) rfl rfl rfl rfl rfl rfl rfl cur (rem.map House.key) (rem.map (zLN g)) (by simp only [go_sem]) (by simp only [go_sem]) (show (17 : Nat) < 54 by decide) (show (18 : Nat) < 54 by decide) (fun hk _ => ?_) (fun r hr1 hr2 => ?_)
 ·simp only [go_sem]
  repeat' (first | (show z3 ..; first | (refine Qr rfl ?_; try intro _ hK; try simp only [go_sem, *])) | (show Hold ..; first | refine Qh rfl ?_ | refine q6 rfl mixed (by kernel_rfl) ?_ | (refine z7 rfl ⟨_, rfl, fun hb => ?_, fun hb => ?_⟩ <;> (have hc := hb; try simp only [go_sem] at hc)) | refine z8 rfl ?_) | (refine Qb ?_ ?_; focus kernel_rfl) | ((with_reducible refine And.intro ?_ ?_); focus omega) | (refine z6 hK ?_; clear hK; simp only [go_sem, *]) | (simp only [z5, z4, go_sem, *]))
  obtain rfl : rem = [] := by simpa using hk
  obtain ⟨hlen0, hsub, p0, p1, p2⟩ := hP
  rw [List.flatMap_nil] at p0 p1 p2
  have hl0 := Nat.le_trans p0.len (hlen 0 (by omega))
  have hl1 := Nat.le_trans p1.len (hlen 1 (by omega))
  have hl2 := Nat.le_trans p2.len (hlen 2 (by omega))
  refine y8 rfl (fun zn zN zenv zAs => ∃ (k : Nat), zn = (3) - k ∧ k ≤ (3) ∧ (NoP k) ∧ zN = 54 ∧ zenv = [(46, iV k), (45, iV 3), (44, .own 2 1 0 3), (4, .ptr 0 0), (5, .ptr 1 0)] ∧ zAs = [.box [zLb], .box [.own 2 1 0 3], .box [.own 3 2 0 b0.length, .own 4 2 0 b1.length, .own 5 2 0 b2.length], .row 2 ((zL4 k 0 b0).map Plate.enc), .row 2 ((zL4 k 1 b1).map Plate.enc), .row 2 ((zL4 k 2 b2).map Plate.enc)]) (3) ⟨[some 0, some 1, some 2, some 3, some 4, some 5], [], _, _, _, (by (simp only [Weak, go_sem, List.map_append, List.map_set, *] <;> (try simp (disch := omega) only [q9]) <;> (try simp) <;> (try omega))), 0, (by simp), (by simp), (by trivial), rfl, rfl, rfl⟩ ?_; rintro _ _ _ _ ⟨k, rfl, hk, hK, rfl, rfl, rfl⟩
  rcases (by omega : k = 0 ∨ k = 1 ∨ k = 2 ∨ k = 3) with rfl | rfl | rfl | rfl
  ·repeat' (first | (show z3 ..; first | (refine Qr rfl ?_; try intro _ hK; try simp only [go_sem, *])) | (show Hold ..; first | refine Qh rfl ?_ | refine q6 rfl mixed (by kernel_rfl) ?_ | (refine z7 rfl ⟨_, rfl, fun hb => ?_, fun hb => ?_⟩ <;> (have hc := hb; try simp only [go_sem] at hc)) | refine z8 rfl ?_) | (refine Qb ?_ ?_; focus kernel_rfl) | ((with_reducible refine And.intro ?_ ?_); focus omega) | (refine z6 hK ?_; clear hK; simp only [go_sem, *]) | (simp only [z5, z4, go_sem, *]))
   refine x8 [3] [] (P6 (by kernel_rfl) W1 b0 (by omega)) (by simp) (by simp only [go_sem, *]) (by simp only [go_sem, AObj.live, *]) (by simp) (.inl rfl) (by simp [go_sem]) (by simp) ?_
   simp only [go_sem, AObj.ren, *]
   repeat' (first | (show z3 ..; first | (refine Qr rfl ?_; try intro _ hK; try simp only [go_sem, *])) | (show Hold ..; first | refine Qh rfl ?_ | refine q6 rfl mixed (by kernel_rfl) ?_ | (refine z7 rfl ⟨_, rfl, fun hb => ?_, fun hb => ?_⟩ <;> (have hc := hb; try simp only [go_sem] at hc)) | refine z8 rfl ?_) | (refine Qb ?_ ?_; focus kernel_rfl) | ((with_reducible refine And.intro ?_ ?_); focus omega) | (refine z6 hK ?_; clear hK; simp only [go_sem, *]) | (simp only [z5, z4, go_sem, *]))
   refine ⟨_, (by omega), [some 0, some 1, some 2, some 3, some 4, some 5], [], _, _, _, (by (simp only [Weak, go_sem, List.map_append, List.map_set, *] <;> (try simp (disch := omega) only [q9]) <;> (try simp) <;> (try omega))), 0 + 1, rfl, (by omega), (by trivial), rfl, rfl, rfl⟩
  ·repeat' (first | (show z3 ..; first | (refine Qr rfl ?_; try intro _ hK; try simp only [go_sem, *])) | (show Hold ..; first | refine Qh rfl ?_ | refine q6 rfl mixed (by kernel_rfl) ?_ | (refine z7 rfl ⟨_, rfl, fun hb => ?_, fun hb => ?_⟩ <;> (have hc := hb; try simp only [go_sem] at hc)) | refine z8 rfl ?_) | (refine Qb ?_ ?_; focus kernel_rfl) | ((with_reducible refine And.intro ?_ ?_); focus omega) | (refine z6 hK ?_; clear hK; simp only [go_sem, *]) | (simp only [z5, z4, go_sem, *]))
   refine x8 [4] [] (P6 (by kernel_rfl) W1 b1 (by omega)) (by simp) (by simp only [go_sem, *]) (by simp only [go_sem, AObj.live, *]) (by simp) (.inl rfl) (by simp [go_sem]) (by simp) ?_
   simp only [go_sem, AObj.ren, *]
   repeat' (first | (show z3 ..; first | (refine Qr rfl ?_; try intro _ hK; try simp only [go_sem, *])) | (show Hold ..; first | refine Qh rfl ?_ | refine q6 rfl mixed (by kernel_rfl) ?_ | (refine z7 rfl ⟨_, rfl, fun hb => ?_, fun hb => ?_⟩ <;> (have hc := hb; try simp only [go_sem] at hc)) | refine z8 rfl ?_) | (refine Qb ?_ ?_; focus kernel_rfl) | ((with_reducible refine And.intro ?_ ?_); focus omega) | (refine z6 hK ?_; clear hK; simp only [go_sem, *]) | (simp only [z5, z4, go_sem, *]))
   refine ⟨_, (by omega), [some 0, some 1, some 2, some 3, some 4, some 5], [], _, _, _, (by (simp only [Weak, go_sem, List.map_append, List.map_set, *] <;> (try simp (disch := omega) only [q9]) <;> (try simp) <;> (try omega))), 1 + 1, rfl, (by omega), (by trivial), rfl, rfl, rfl⟩
  ·repeat' (first | (show z3 ..; first | (refine Qr rfl ?_; try intro _ hK; try simp only [go_sem, *])) | (show Hold ..; first | refine Qh rfl ?_ | refine q6 rfl mixed (by kernel_rfl) ?_ | (refine z7 rfl ⟨_, rfl, fun hb => ?_, fun hb => ?_⟩ <;> (have hc := hb; try simp only [go_sem] at hc)) | refine z8 rfl ?_) | (refine Qb ?_ ?_; focus kernel_rfl) | ((with_reducible refine And.intro ?_ ?_); focus omega) | (refine z6 hK ?_; clear hK; simp only [go_sem, *]) | (simp only [z5, z4, go_sem, *]))
   refine x8 [5] [] (P6 (by kernel_rfl) W1 b2 (by omega)) (by simp) (by simp only [go_sem, *]) (by simp only [go_sem, AObj.live, *]) (by simp) (.inl rfl) (by simp [go_sem]) (by simp) ?_
   simp only [go_sem, AObj.ren, *]
   repeat' (first | (show z3 ..; first | (refine Qr rfl ?_; try intro _ hK; try simp only [go_sem, *])) | (show Hold ..; first | refine Qh rfl ?_ | refine q6 rfl mixed (by kernel_rfl) ?_ | (refine z7 rfl ⟨_, rfl, fun hb => ?_, fun hb => ?_⟩ <;> (have hc := hb; try simp only [go_sem] at hc)) | refine z8 rfl ?_) | (refine Qb ?_ ?_; focus kernel_rfl) | ((with_reducible refine And.intro ?_ ?_); focus omega) | (refine z6 hK ?_; clear hK; simp only [go_sem, *]) | (simp only [z5, z4, go_sem, *]))
   refine ⟨_, (by omega), [some 0, some 1, some 2, some 3, some 4, some 5], [], _, _, _, (by (simp only [Weak, go_sem, List.map_append, List.map_set, *] <;> (try simp (disch := omega) only [q9]) <;> (try simp) <;> (try omega))), 2 + 1, rfl, (by omega), (by trivial), rfl, rfl, rfl⟩
  ·repeat' (first | (show z3 ..; first | (refine Qr rfl ?_; try intro _ hK; try simp only [go_sem, *])) | (show Hold ..; first | refine Qh rfl ?_ | refine q6 rfl mixed (by kernel_rfl) ?_ | (refine z7 rfl ⟨_, rfl, fun hb => ?_, fun hb => ?_⟩ <;> (have hc := hb; try simp only [go_sem] at hc)) | refine z8 rfl ?_) | (refine Qb ?_ ?_; focus kernel_rfl) | ((with_reducible refine And.intro ?_ ?_); focus omega) | (refine z6 hK ?_; clear hK; simp only [go_sem, *]) | (simp only [z5, z4, go_sem, *]))
   have e : zLT (hs.flatMap g) 3 = [v6 zLV b0, v6 zLV b1, v6 zLV b2] := by
    rw [p0.fin hnd (n := 3) (by omega), p1.fin hnd (n := 3) (by omega), p2.fin hnd (n := 3) (by omega)]; simp [zLT, z9, List.range_succ]
   refine ⟨[.agg [.own 2 1 0 3]], [], [2, 3, 4, 5], ⟨by simp only [x9, go_sem], trivial⟩, ?_⟩
   simp only [go_sem, e, *]
   exact .inr (by simp)
 ·obtain ⟨hr, hrk, hrx⟩ : ∃ hr : r < rem.length, (rem.map House.key)[r] = (rem[r]).key ∧ (rem.map (zLN g))[r] = .list ((g rem[r]).map House.enc) := ⟨by simpa using hr1, by simp, by simp [zLN]⟩
  rw [hrk, hrx, ← Q5, ← Q5]
  generalize (rem[r]).key = kk at *
  clear hrk
  simp only [go_sem]
  repeat' (first | (show z3 ..; first | (refine Qr rfl ?_; try intro _ hK; try simp only [go_sem, *])) | (show Hold ..; first | refine Qh rfl ?_ | refine q6 rfl mixed (by kernel_rfl) ?_ | (refine z7 rfl ⟨_, rfl, fun hb => ?_, fun hb => ?_⟩ <;> (have hc := hb; try simp only [go_sem] at hc)) | refine z8 rfl ?_) | (refine Qb ?_ ?_; focus kernel_rfl) | ((with_reducible refine And.intro ?_ ?_); focus omega) | (refine z6 hK ?_; clear hK; simp only [go_sem, *]) | (simp only [z5, z4, go_sem, *]))
  obtain ⟨hlen0, hsub, p0, p1, p2⟩ := hP
  have p0 := p0.pick r hr
  have p1 := p1.pick r hr
  have p2 := p2.pick r hr
  have hll : (g rem[r]).length ≤ 1000 := hgl _ (hsub _ (List.getElem_mem hr))
  have hsl2 : ∀ z, z ∈ g rem[r] → 0 ≤ z.street ∧ z.street < 3 := fun z hz => hst z (List.mem_flatMap.2 ⟨_, hsub _ (List.getElem_mem hr), hz⟩)
  clear hrx
  generalize g rem[r] = l at *
  refine y8 rfl (fun zn zN zenv zAs => ∃ (j : Nat) (b0 : List Plate) (b1 : List Plate) (b2 : List Plate), zn = (l.length) - j ∧ j ≤ (l.length) ∧ (zMT (l.drop j ++ (rem.eraseIdx r).flatMap g) (hs.flatMap g) b0 b1 b2) ∧ zN = 54 ∧ zenv = [(23, iV j), (22, iV l.length), (21, r8 l), (4, .ptr 0 0), (5, .ptr 1 0), (16, .ptr 6 0)] ∧ zAs = [.box [zLb], .box [.own 2 1 0 3], .box [.own 3 2 0 b0.length, .own 4 2 0 b1.length, .own 5 2 0 b2.length], .row 2 (b0.map Plate.enc), .row 2 (b1.map Plate.enc), .row 2 (b2.map Plate.enc), .iter (some (kk, .list (l.map House.enc))) ((rem.eraseIdx r).map House.key) ((rem.eraseIdx r).map (zLN g))]) (l.length) ⟨[some 0, some 1, some 2, some 3, some 4, some 5, some 6], [], _, _, _, (by (simp only [Weak, go_sem, List.map_append, List.map_set, *] <;> (try simp (disch := omega) only [q9]) <;> (try simp) <;> (try omega))), 0, b0, b1, b2, (by simp), (by simp), (by exact ⟨p0, p1, p2⟩), rfl, rfl, rfl⟩ ?_; rintro _ _ _ _ ⟨j, b0, b1, b2, rfl, hj, hQ, rfl, rfl, rfl⟩
  by_cases hj : j < l.length
  ·have hz := hsl2 _ (w6 hj)
   have hdj := v3 hj
   rw [hdj, List.cons_append] at hQ
   obtain ⟨q0, q1, q2⟩ := hQ
   have hl0 := Nat.le_trans q0.len (hlen 0 (by omega))
   have hl1 := Nat.le_trans q1.len (hlen 1 (by omega))
   have hl2 := Nat.le_trans q2.len (hlen 2 (by omega))
   clear hdj
   rcases (by omega : (l.getD j default).street = 0 ∨ (l.getD j default).street = 1 ∨ (l.getD j default).street = 2) with hs0 | hs0 | hs0
   ·repeat' (first | (show z3 ..; first | (refine Qr rfl ?_; try intro _ hK; try simp only [go_sem, *])) | (show Hold ..; first | refine Qh rfl ?_ | refine q6 rfl mixed (by kernel_rfl) ?_ | (refine z7 rfl ⟨_, rfl, fun hb => ?_, fun hb => ?_⟩ <;> (have hc := hb; try simp only [go_sem] at hc)) | refine z8 rfl ?_) | (refine Qb ?_ ?_; focus kernel_rfl) | ((with_reducible refine And.intro ?_ ?_); focus omega) | (refine z6 hK ?_; clear hK; simp only [go_sem, *]) | (simp only [z5, z4, go_sem, *]))
    refine ⟨_, (by omega), [some 0, some 1, some 2, some 9, some 4, some 5, some 6], [], _, _, _, (by (simp only [Weak, go_sem, List.map_append, List.map_set, *] <;> (try simp (disch := omega) only [q9]) <;> (try simp) <;> (try omega))), j + 1, b0 ++ [(l.getD j default).plate], b1, b2, rfl, (by omega), (by exact ⟨q0.step_in (by rw [hs0]; rfl), q1.step_out (by rw [hs0]; decide), q2.step_out (by rw [hs0]; decide)⟩), rfl, rfl, rfl⟩
   ·repeat' (first | (show z3 ..; first | (refine Qr rfl ?_; try intro _ hK; try simp only [go_sem, *])) | (show Hold ..; first | refine Qh rfl ?_ | refine q6 rfl mixed (by kernel_rfl) ?_ | (refine z7 rfl ⟨_, rfl, fun hb => ?_, fun hb => ?_⟩ <;> (have hc := hb; try simp only [go_sem] at hc)) | refine z8 rfl ?_) | (refine Qb ?_ ?_; focus kernel_rfl) | ((with_reducible refine And.intro ?_ ?_); focus omega) | (refine z6 hK ?_; clear hK; simp only [go_sem, *]) | (simp only [z5, z4, go_sem, *]))
    refine ⟨_, (by omega), [some 0, some 1, some 2, some 3, some 9, some 5, some 6], [], _, _, _, (by (simp only [Weak, go_sem, List.map_append, List.map_set, *] <;> (try simp (disch := omega) only [q9]) <;> (try simp) <;> (try omega))), j + 1, b0, b1 ++ [(l.getD j default).plate], b2, rfl, (by omega), (by exact ⟨q0.step_out (by rw [hs0]; decide), q1.step_in (by rw [hs0]; rfl), q2.step_out (by rw [hs0]; decide)⟩), rfl, rfl, rfl⟩
   ·repeat' (first | (show z3 ..; first | (refine Qr rfl ?_; try intro _ hK; try simp only [go_sem, *])) | (show Hold ..; first | refine Qh rfl ?_ | refine q6 rfl mixed (by kernel_rfl) ?_ | (refine z7 rfl ⟨_, rfl, fun hb => ?_, fun hb => ?_⟩ <;> (have hc := hb; try simp only [go_sem] at hc)) | refine z8 rfl ?_) | (refine Qb ?_ ?_; focus kernel_rfl) | ((with_reducible refine And.intro ?_ ?_); focus omega) | (refine z6 hK ?_; clear hK; simp only [go_sem, *]) | (simp only [z5, z4, go_sem, *]))
    refine ⟨_, (by omega), [some 0, some 1, some 2, some 3, some 4, some 9, some 6], [], _, _, _, (by (simp only [Weak, go_sem, List.map_append, List.map_set, *] <;> (try simp (disch := omega) only [q9]) <;> (try simp) <;> (try omega))), j + 1, b0, b1, b2 ++ [(l.getD j default).plate], rfl, (by omega), (by exact ⟨q0.step_out (by rw [hs0]; decide), q1.step_out (by rw [hs0]; decide), q2.step_in (by rw [hs0]; rfl)⟩), rfl, rfl, rfl⟩
  ·repeat' (first | (show z3 ..; first | (refine Qr rfl ?_; try intro _ hK; try simp only [go_sem, *])) | (show Hold ..; first | refine Qh rfl ?_ | refine q6 rfl mixed (by kernel_rfl) ?_ | (refine z7 rfl ⟨_, rfl, fun hb => ?_, fun hb => ?_⟩ <;> (have hc := hb; try simp only [go_sem] at hc)) | refine z8 rfl ?_) | (refine Qb ?_ ?_; focus kernel_rfl) | ((with_reducible refine And.intro ?_ ?_); focus omega) | (refine z6 hK ?_; clear hK; simp only [go_sem, *]) | (simp only [z5, z4, go_sem, *]))
   rw [v4 (by omega), List.nil_append] at hQ
   refine ⟨_, (by omega), [some 0, some 1, some 2, some 3, some 4, some 5, some 6], [], _, _, _, (by (simp only [Weak, go_sem, List.map_append, List.map_set, *] <;> (try simp (disch := omega) only [q9]) <;> (try simp) <;> (try omega))), i + 1, (some (kk, .list (l.map House.enc))), rem.eraseIdx r, b0, b1, b2, rfl, (by omega), (by exact ⟨by rw [List.length_eraseIdx_of_lt hr]; omega, fun h hh => hsub h ((List.eraseIdx_sublist _ _).subset hh), hQ⟩), rfl, rfl, rfl⟩
end Go.Abs

namespace Go.Abs
open Go Go.Proofs Tryz
attribute [local irreducible] z3 Hold q7
theorem Z7 (x : Plate) : (x.number == 0 && x.letter == 0) = decide (x = zeroPlate) := zGA x zeroPlate
theorem bf {a : Bool} (h : ¬ a = true) : a = false := by simpa using h
theorem zAO (p : zLI) (c : Change) (v : Valid p) :
  (can p c ≠ 0 → zLJ prog 125 [y5 p, c.enc] [] (.tup [.raw (.map none), iV (can p c)]) []) ∧
  (can p c = 0 → zLJ prog 125 [y5 p, c.enc] [] (.tup [.mp 0, iV 0]) [.mapo (w5 p) (w4 p (mv p c))]) := by
 have hl : p.length ≤ 1000 := by have := v.len; omega
 unfold can
 by_cases hk : zLL c.kind 1 7 = true
 rotate_left
 ·rw [if_pos (bf hk)]; exact ⟨fun _ => zDl p c hl (bf hk), fun h => absurd h (by omega)⟩
 rw [if_neg (by simp [hk])]
 by_cases hs : zLL c.street 0 ((p.length : Int) - 1) = true
 rotate_left
 ·rw [if_pos (bf hs)]; exact ⟨fun _ => zDq p c hl hk (bf hs), fun h => absurd h (by omega)⟩
 rw [if_neg (by simp [hs])]
 have hk' := betw_iff.1 hk
 have hs' := betw_iff.1 hs
 by_cases h4 : c.kind = 4
 ·have k4 : (c.kind == 4) = true := by simp [h4]
  have k7 : (c.kind == 7) = false := by simp [h4]
  have k5 : decide (c.kind ≥ 5) = false := by simp [h4]
  by_cases ho : zLL c.other 0 ((p.length : Int) - 1) = true
  rotate_left
  ·rw [if_pos ⟨.inl h4, bf ho⟩]; exact ⟨fun _ => zDm p c hl hk hs k4 (bf ho), fun h => absurd h (by omega)⟩
  rw [if_neg (by simp [ho])]
  have ho' := betw_iff.1 ho
  by_cases hr : c.other = c.street
  ·rw [if_pos ⟨.inl h4, hr⟩]; exact ⟨fun _ => zDo p c hl hk hs k4 ho (by simp [hr]), fun h => absurd h (by omega)⟩
  rw [if_neg (by simp [hr])]
  have hr' : (c.other == c.street) = false := by simp [hr]
  by_cases hz : c.src = zeroPlate
  rotate_left
  ·rw [if_pos (.inr (.inl ⟨by omega, hz⟩))]; exact ⟨fun _ => zDa p c hl hk hs k4 ho hr' k5 (by rw [Z7]; simp [hz]), fun h => absurd h (by omega)⟩
  have hz' : (c.src.number == 0 && c.src.letter == 0) = true := by rw [Z7]; simp [hz]
  by_cases hd : c.dst = zeroPlate
  rotate_left
  ·rw [if_pos (.inr (.inr ⟨by omega, hd⟩))]; exact ⟨fun _ => zDc p c hl hk hs k4 k7 ho hr' k5 hz' (by rw [Z7]; simp [hd]), fun h => absurd h (by omega)⟩
  have hd' : (c.dst.number == 0 && c.dst.letter == 0) = true := by rw [Z7]; simp [hd]
  rw [if_neg (by simp [h4, hz, hd])]
  have sp := zDh p c v ⟨hk', by omega, fun _ => by omega⟩ h4 ho hr' hz' hd'
  exact ⟨fun h => by simpa [zLP, zLO, h] using sp, fun h => by simpa [zLP, zLO, h] using sp⟩
 ·by_cases h7 : c.kind = 7
  ·have k4 : (c.kind == 4) = false := by simp [h7]
   have k7 : (c.kind == 7) = true := by simp [h7]
   by_cases ho : zLL c.other 0 ((p.length : Int) - 1) = true
   rotate_left
   ·rw [if_pos ⟨.inr h7, bf ho⟩]; exact ⟨fun _ => zDn p c hl hk hs k4 k7 (bf ho), fun h => absurd h (by omega)⟩
   rw [if_neg (by simp [ho])]
   have ho' := betw_iff.1 ho
   by_cases hr : c.other = c.street
   ·rw [if_pos ⟨.inr h7, hr⟩]; exact ⟨fun _ => zDp p c hl hk hs k4 k7 ho (by simp [hr]), fun h => absurd h (by omega)⟩
   rw [if_neg (by simp [hr])]
   rw [if_neg (by simp [h7])]
   have sp := zDk p c v ⟨hk', by omega, fun _ => by omega⟩ h7 ho (by simp [hr])
   exact ⟨fun h => by simpa [zLP, zLO, h] using sp, fun h => by simpa [zLP, zLO, h] using sp⟩
  ·have k4 : (c.kind == 4) = false := by simp [h4]
   have k7 : (c.kind == 7) = false := by simp [h7]
   rw [if_neg (by simp [h4, h7]), if_neg (by simp [h4, h7])]
   by_cases ho : c.other = 0
   rotate_left
   ·rw [if_pos (.inl ⟨by simp [h4, h7], ho⟩)]; exact ⟨fun _ => zDY p c hl hk hs k4 k7 (by simp [ho]), fun h => absurd h (by omega)⟩
   have ho' : (c.other != 0) = false := by simp [ho]
   by_cases h5 : 5 ≤ c.kind
   ·have k5 : decide (c.kind ≥ 5) = true := by simp; omega
    by_cases hd : c.dst = zeroPlate
    rotate_left
    ·rw [if_pos (.inr (.inr ⟨h7, hd⟩))]; exact ⟨fun _ => zDd p c hl hk hs k4 k7 ho' k5 (by rw [Z7]; simp [hd]), fun h => absurd h (by omega)⟩
    have hd' : (c.dst.number == 0 && c.dst.letter == 0) = true := by rw [Z7]; simp [hd]
    rw [if_neg (by simp [h4, h7, ho, h5, hd])]
    have f : Pre p c := ⟨hk', by omega, fun _ => by omega⟩
    rcases (by omega : c.kind = 5 ∨ c.kind = 6) with k | k
    ·have sp := zDi p c v f k ho' hd'
     exact ⟨fun h => by simpa [zLP, zLO, h] using sp, fun h => by simpa [zLP, zLO, h] using sp⟩
    ·have sp := zDj p c v f k ho' hd'
     exact ⟨fun h => by simpa [zLP, zLO, h] using sp, fun h => by simpa [zLP, zLO, h] using sp⟩
   ·have k5 : decide (c.kind ≥ 5) = false := by simp; omega
    by_cases hz : c.src = zeroPlate
    rotate_left
    ·rw [if_pos (.inr (.inl ⟨h5, hz⟩))]; exact ⟨fun _ => zDZ p c hl hk hs k4 k7 ho' k5 (by rw [Z7]; simp [hz]), fun h => absurd h (by omega)⟩
    have hz' : (c.src.number == 0 && c.src.letter == 0) = true := by rw [Z7]; simp [hz]
    by_cases hd : c.dst = zeroPlate
    rotate_left
    ·rw [if_pos (.inr (.inr ⟨h7, hd⟩))]; exact ⟨fun _ => zDb p c hl hk hs k4 k7 ho' k5 hz' (by rw [Z7]; simp [hd]), fun h => absurd h (by omega)⟩
    have hd' : (c.dst.number == 0 && c.dst.letter == 0) = true := by rw [Z7]; simp [hd]
    rw [if_neg (by simp [h4, h7, ho, hz, hd])]
    have f : Pre p c := ⟨hk', by omega, fun _ => by omega⟩
    rcases (by omega : c.kind = 1 ∨ c.kind = 2 ∨ c.kind = 3) with k | k | k
    ·have sp := zDe p c v f k ho' hz' hd'
     exact ⟨fun h => by simpa [zLP, zLO, h] using sp, fun h => by simpa [zLP, zLO, h] using sp⟩
    ·have sp := zDf p c v f k ho' hz' hd'
     exact ⟨fun h => by simpa [zLP, zLO, h] using sp, fun h => by simpa [zLP, zLO, h] using sp⟩
    ·have sp := zDg p c v f k ho' hz' hd'
     exact ⟨fun h => by simpa [zLP, zLO, h] using sp, fun h => by simpa [zLP, zLO, h] using sp⟩
theorem zHu {p : zLI} {c : Change} (f : Fit p c) (x : Plate) : (toP p c x).length ≤ 2 := by
 rcases V8 f.kind with k | k | k | k | k | k | k
 ·rw [P9 k]; simp
 ·rw [U9 k]; simp
 ·rw [P8 k]; simp
 ·rw [U8 k]; simp
 ·rw [W6 k]; split <;> simp
 ·rw [U7 k]; split <;> simp
 ·rw [U6 k]; split <;> simp
theorem A6 {p : zLI} {c : Change} (f : Fit p c) (h : House) : (mv p c h).length ≤ 2 := by
 unfold mv; split
 ·exact zHu f _
 ·simp
theorem zDJ {p : zLI} {c : Change} (v : Valid p) (f : Fit p c) (s : Nat) (hs : s < p.length) : ((s9 p c).filter (fun h => h.street == (s : Int))).length ≤ 8 := by
 have h := zAk v f (s := s) (by omega) (by omega)
 refine Nat.le_trans ?_ h
 rw [← List.length_map (f := House.plate)]
 have hnd : (((s9 p c).filter (fun h => h.street == (s : Int))).map House.plate).Nodup := by
  rw [List.nodup_iff_pairwise_ne, List.pairwise_map]
  refine ((zBG v f).filter _).imp_of_mem (fun {a b} ha hb' hab e => hab ?_)
  have h1 := (List.mem_filter.1 ha).2
  have h2 := (List.mem_filter.1 hb').2
  simp at h1 h2
  cases a; cases b; simp_all
 refine R8 hnd (fun x hx => ?_)
 obtain ⟨z, hz, rfl⟩ := List.mem_map.1 hx
 obtain ⟨h1, h2⟩ := List.mem_filter.1 hz
 rw [u4, V9 (by omega) (by omega)]
 simp at h2
 rw [← h2]; exact h1
theorem zAM (p : zLI) (c : Change) (v : Valid p) (f : Fit p c) : zLJ prog 89 [.fmap (w5 p) (w4 p (mv p c)), iV p.length] [] (y5 (u4 p c)) [] := by
 have hst : ∀ z, z ∈ (y4 p).flatMap (mv p c) → 0 ≤ z.street ∧ z.street < p.length := fun z hz => by have := N5 v f (z := z) hz; omega
 have hlen : ∀ s : Nat, s < p.length → (((y4 p).flatMap (mv p c)).filter (fun h => h.street == (s : Int))).length ≤ 12 := fun s hs => by have := zDJ v f s hs; unfold s9 at this; omega
 have hsl : (y4 p).length ≤ 1000 := by have := v.count; omega
 have hgl : ∀ h, h ∈ y4 p → (mv p c h).length ≤ 1000 := fun h _ => by have := A6 f h; omega
 have hnd := zBG v f
 have h0 := v.ne
 have h3 := v.len
 unfold u4 s9
 rcases (by omega : p.length = 1 ∨ p.length = 2 ∨ p.length = 3) with e | e | e <;> rw [e] at hst hlen ⊢
 ·exact zG3 _ _ hst hnd hlen hsl hgl
 ·exact zG4 _ _ hst hnd hlen hsl hgl
 ·exact zG5 _ _ hst hnd hlen hsl hgl
theorem zHP (p : zLI) (c : Change) (hp : p.length ≤ 4294967296) :
  (r9 p c ≠ 0 → zLJ prog 88 [y5 p, c.enc] [] (.tup [.raw (.map none), iV (r9 p c)]) []) ∧
  (r9 p c = 0 → zLJ prog 88 [y5 p, c.enc] [] (.tup [.mp 0, iV 0]) [.mapo (w5 p) (w4 p (mv p c))]) := by
 by_cases hc : check p = 0
 ·have v := (T8 p).1 hc
  have e : r9 p c = can p c := by simp [r9, hc]
  rw [e]
  obtain ⟨s1, s2⟩ := zAO p c v
  refine ⟨fun h => ?_, fun h => ?_⟩
  ·have s := s1 h
   refine y3 func88 rfl (fun E hE => ?_); simp only [go_sem, ntmps88]
   repeat' (first | (show z3 ..; first | (refine Qr rfl ?_; try intro _ hK; try simp only [go_sem, *])) | (show Hold ..; first | refine Qh rfl ?_ | (refine z7 rfl ⟨_, rfl, fun hb => ?_, fun hb => ?_⟩ <;> (have hc := hb; try simp only [go_sem] at hc)) | refine z8 rfl ?_) | (show q7 ..; first | ((first | refine q8 (e8 p hp) ?_ ?_ | refine q8 (s) ?_ ?_); (focus (simp only [go_sem, *]; done)); simp only [go_sem, *])) | ((with_reducible refine And.intro ?_ ?_); focus omega) | (refine z6 hK ?_; clear hK; simp only [go_sem, *]) | (simp only [z5, z4, go_sem, *]))
   all_goals (refine ⟨[_, _], [], [], ⟨rfl, rfl, trivial⟩, ?_⟩; simp only [go_sem, *])
  ·have s := s2 h
   refine y3 func88 rfl (fun E hE => ?_); simp only [go_sem, ntmps88]
   repeat' (first | (show z3 ..; first | (refine Qr rfl ?_; try intro _ hK; try simp only [go_sem, *])) | (show Hold ..; first | refine Qh rfl ?_ | (refine z7 rfl ⟨_, rfl, fun hb => ?_, fun hb => ?_⟩ <;> (have hc := hb; try simp only [go_sem] at hc)) | refine z8 rfl ?_) | (show q7 ..; first | (refine q8 (e8 p hp) ?_ ?_; (focus (simp only [go_sem, *]; done)); simp only [go_sem, *]) | (refine v5 (s) ?_ ?_ ?_ ?_; (focus (simp only [go_sem, *]; done)); (focus (first | (simp; done) | (simp [go_sem]; done))); (focus (first | (simp; done) | (simp [go_sem]; done))); simp only [go_sem, *])) | ((with_reducible refine And.intro ?_ ?_); focus omega) | (refine z6 hK ?_; clear hK; simp only [go_sem, *]) | (simp only [z5, z4, go_sem, *]))
   refine ⟨[_, _], [some 2], [], ⟨rfl, rfl, trivial⟩, ?_⟩
   simp only [go_sem]
 ·have e : r9 p c = check p := by simp [r9, hc]
  rw [e]
  refine ⟨fun h => ?_, fun h => absurd h hc⟩
  refine y3 func88 rfl (fun E hE => ?_); simp only [go_sem, ntmps88]
  repeat' (first | (show z3 ..; first | (refine Qr rfl ?_; try intro _ hK; try simp only [go_sem, *])) | (show Hold ..; first | refine Qh rfl ?_ | (refine z7 rfl ⟨_, rfl, fun hb => ?_, fun hb => ?_⟩ <;> (have hc := hb; try simp only [go_sem] at hc)) | refine z8 rfl ?_) | (show q7 ..; first | (refine q8 (e8 p hp) ?_ ?_; (focus (simp only [go_sem, *]; done)); simp only [go_sem, *])) | ((with_reducible refine And.intro ?_ ?_); focus omega) | (refine z6 hK ?_; clear hK; simp only [go_sem, *]) | (simp only [z5, z4, go_sem, *]))
  all_goals first | contradiction | (refine ⟨[_, _], [], [], ⟨rfl, rfl, trivial⟩, ?_⟩; simp only [go_sem, *])
theorem r6 {P : Program} {f : FuncId} {avs args : List AV} {H : Nat → AObj} {nx : Nat} {K : Cont} {r : AV} {out : List AObj} {gone : List Nat} (sp : zLJ P f args [] r out) (ha : (avs.map fun x => (zLK H 3 x).1) = args) (hg : (avs.map fun x => (zLK H 3 x).2).flatten = gone)
  (hx : XpL (fun o => if o ∈ gone then .dead else H o) [] [] args args) (hu : ∀ j, j < out.length → (if nx + j ∈ gone then AObj.dead else H (nx + j)) = .unb) (h7 : ∀ A, A ∈ out → A ≠ .unb)
  (hk : K (r.ren (v7 [] nx)) (gone ++ f7 [] nx out) (w9 gone ++ s8 [] nx out)) : q7 P f avs H nx K := by
 refine zAu ?_
 rw [ha, hg]
 exact E4 [] [] sp (by simp) hx trivial (by simp) (.inl rfl) (fun j hj => hu j (by simpa using hj)) h7 (by simpa using hk)
theorem zGf (p : zLI) (c : Change) (hp : p.length ≤ 4294967296) :
    zLJ prog 25 [y5 p, c.enc] [] (.tup [y5 (if r9 p c = 0 then u4 p c else []), iV (r9 p c)]) [] := by
  obtain ⟨s1, s2⟩ := zHP p c hp
  by_cases e : r9 p c = 0
  · have hc : check p = 0 := by
      unfold r9 at e
      split at e <;> assumption
    have hcan : can p c = 0 := by unfold r9 at e; rw [if_pos hc] at e; exact e
    have v := (T8 p).1 hc
    have f := Fit.of_can hcan
    have s := s2 e
    have sa := zAM p c v f
    rw [if_pos e, e]
    clear s1 s2
    refine y3 func25 rfl (fun E hE => ?_); simp only [go_sem, ntmps25]
    repeat' (first | (show z3 ..; first | (refine Qr rfl ?_; try intro _ hK; try simp only [go_sem, *])) | (show Hold ..; first | refine Qh rfl ?_ | (refine z7 rfl ⟨_, rfl, fun hb => ?_, fun hb => ?_⟩ <;> (have hc := hb; try simp only [go_sem] at hc)) | refine z8 rfl ?_) | (show q7 ..; first | (refine v5 (s) ?_ ?_ ?_ ?_; (focus (simp only [go_sem, *]; done)); (focus (first | (simp; done) | (simp [go_sem]; done))); (focus (first | (simp; done) | (simp [go_sem]; done))); simp only [go_sem, *])) | ((with_reducible refine And.intro ?_ ?_); focus omega) | (refine z6 hK ?_; clear hK; simp only [go_sem, *]) | (simp only [z5, z4, go_sem, *]))
    refine r6 (gone := [3]) sa (by simp only [go_sem]) (by simp only [go_sem]) (by simp only [go_sem]) (by simp) (by simp) ?_
    simp only [go_sem, w9]
    repeat' (first | (show z3 ..; first | (refine Qr rfl ?_; try intro _ hK; try simp only [go_sem, *])) | (show Hold ..; first | refine Qh rfl ?_ | (refine z7 rfl ⟨_, rfl, fun hb => ?_, fun hb => ?_⟩ <;> (have hc := hb; try simp only [go_sem] at hc)) | refine z8 rfl ?_) | ((with_reducible refine And.intro ?_ ?_); focus omega) | (refine z6 hK ?_; clear hK; simp only [go_sem, *]) | (simp only [z5, z4, go_sem, *]))
    refine ⟨[y5 (u4 p c), iV 0], [], [], ⟨(by simp only [x9, go_sem]), rfl, trivial⟩, ?_⟩; simp only [go_sem, *]
  · have s := s1 e
    rw [if_neg e]
    clear s1 s2
    refine y3 func25 rfl (fun E hE => ?_); simp only [go_sem, ntmps25]
    repeat' (first | (show z3 ..; first | (refine Qr rfl ?_; try intro _ hK; try simp only [go_sem, *])) | (show Hold ..; first | refine Qh rfl ?_ | (refine z7 rfl ⟨_, rfl, fun hb => ?_, fun hb => ?_⟩ <;> (have hc := hb; try simp only [go_sem] at hc)) | refine z8 rfl ?_) | (show q7 ..; first | (refine q8 (s) ?_ ?_; (focus (simp only [go_sem, *]; done)); simp only [go_sem, *])) | ((with_reducible refine And.intro ?_ ?_); focus omega) | (refine z6 hK ?_; clear hK; simp only [go_sem, *]) | (simp only [z5, z4, go_sem, *]))
    all_goals try contradiction
    refine ⟨[.agg [zLb], iV (r9 p c)], [], [], ⟨(by simp only [x9, go_sem]), rfl, trivial⟩, ?_⟩; simp only [go_sem, *]
end Go.Abs

namespace Go.Abs
open Go Go.Proofs Tryz
attribute [local irreducible] z3 Hold q7
section
variable {α : Type} {a b : List α} {i : Nat}
theorem Y0 (ha : a.length ≤ i) (hl : a.length = b.length) (h : a.take i = b.take i) : a = b := by
 rwa [List.take_of_length_le ha, List.take_of_length_le (by omega)] at h
variable [Inhabited α]
theorem zCq {l : List α} (h : i < l.length) : l.take (i + 1) = l.take i ++ [l.getD i default] := by
 rw [List.take_add_one]; simp [List.getD, h]
theorem Y1 (ha : i < a.length) (hb : i < b.length) (h : a.take i = b.take i) (e : a.getD i default = b.getD i default) : a.take (i + 1) = b.take (i + 1) := by
 rw [zCq ha, zCq hb, h, e]
theorem Y2 (e : ¬ a.getD i default = b.getD i default) : ¬ a = b := fun h => e (by rw [h])
end
theorem Q2 {α : Type} {a b : List α} (h : ¬ a.length = b.length) : ¬ a = b := fun e => h (by rw [e])
theorem zGu (a b : List Plate) (h1 : a.length ≤ 4294967296) : zLJ prog 146 [y6 a, y6 b] [] (bV (decide (a = b))) [] := by
 refine y3 func146 rfl (fun E hE => ?_); simp only [go_sem, ntmps146]
 repeat' (first | (show z3 ..; first | (refine Qr rfl ?_; try intro _ hK; try simp only [go_sem, *])) | (show Hold ..; first | refine Qh rfl ?_ | refine q6 rfl mixed (by kernel_rfl) ?_ | (refine z7 rfl ⟨_, rfl, fun hb => ?_, fun hb => ?_⟩ <;> (have hc := hb; try simp only [go_sem] at hc)) | refine z8 rfl ?_) | (refine Qb ?_ ?_; focus kernel_rfl) | ((with_reducible refine And.intro ?_ ?_); focus omega) | (refine z6 hK ?_; clear hK; simp only [go_sem, *]) | (simp only [z5, z4, go_sem, *]))
 ·(refine ⟨[_], [], [], ⟨rfl, trivial⟩, ?_⟩; simp only [go_sem, *])
  simp [Q2 (a := a) (b := b) (by assumption)]
 ·have hlb : a.length = b.length := by assumption
  refine y8 rfl (fun zn zN zenv zAs => ∃ (i : Nat), zn = (b.length) - i ∧ i ≤ (b.length) ∧ (a.take i = b.take i) ∧ zN = 26 ∧ zenv = [(13, iV i), (12, iV b.length), (0, y6 a), (1, y6 b)] ∧ zAs = []) (b.length) ⟨[], [], _, _, _, (by (simp only [Weak, go_sem, List.map_append, List.map_set, *] <;> (try simp (disch := omega) only [q9]) <;> (try simp) <;> (try omega))), 0, (by simp), (by simp), (by simp), rfl, rfl, rfl⟩ ?_; rintro _ _ _ _ ⟨i, rfl, hi, hP, rfl, rfl, rfl⟩
  repeat' (first | (show z3 ..; first | (refine Qr rfl ?_; try intro _ hK; try simp only [go_sem, *])) | (show Hold ..; first | refine Qh rfl ?_ | refine q6 rfl mixed (by kernel_rfl) ?_ | (refine z7 rfl ⟨_, rfl, fun hb => ?_, fun hb => ?_⟩ <;> (have hc := hb; try simp only [go_sem] at hc)) | refine z8 rfl ?_) | (refine Qb ?_ ?_; focus kernel_rfl) | ((with_reducible refine And.intro ?_ ?_); focus omega) | (refine z6 hK ?_; clear hK; simp only [go_sem, *]) | (simp only [z5, z4, go_sem, *]))
  ·(refine ⟨[_], [], [], ⟨rfl, trivial⟩, ?_⟩; simp only [go_sem, *])
   simp [Y2 (a := a) (b := b) (i := i) (by assumption)]
  ·refine ⟨_, (by omega), [], [], _, _, _, (by (simp only [Weak, go_sem, List.map_append, List.map_set, *] <;> (try simp (disch := omega) only [q9]) <;> (try simp) <;> (try omega))), i + 1, rfl, (by omega), (by exact Y1 (by omega) (by omega) hP (by assumption)), rfl, rfl, rfl⟩
  ·(refine ⟨[_], [], [], ⟨rfl, trivial⟩, ?_⟩; simp only [go_sem, *])
   simp [Y0 (by omega) hlb hP]
theorem zGs (a b : zLI) (h1 : a.length ≤ 4294967296) (hrl : ∀ l, l ∈ a → l.length ≤ 4294967296) : zLJ prog 145 [.list (a.map y6), .list (b.map y6), fnV 146] [] (bV (decide (a = b))) [] := by
 have hca : r5 prog 146 = true := by kernel_rfl
 refine y3 func145 rfl (fun E hE => ?_); simp only [go_sem, ntmps145]
 repeat' (first | (show z3 ..; first | (refine Qr rfl ?_; try intro _ hK; try simp only [go_sem, *])) | (show Hold ..; first | refine Qh rfl ?_ | (refine z7 rfl ⟨_, rfl, fun hb => ?_, fun hb => ?_⟩ <;> (have hc := hb; try simp only [go_sem] at hc)) | refine z8 rfl ?_) | ((with_reducible refine And.intro ?_ ?_); focus omega) | (refine z6 hK ?_; clear hK; simp only [go_sem, *]) | (simp only [z5, z4, go_sem, *]))
 ·(refine ⟨[_], [], [], ⟨rfl, trivial⟩, ?_⟩; simp only [go_sem, *])
  simp [Q2 (a := a) (b := b) (by assumption)]
 ·have hlb : a.length = b.length := by assumption
  refine y8 rfl (fun zn zN zenv zAs => ∃ (i : Nat), zn = (b.length) - i ∧ i ≤ (b.length) ∧ (a.take i = b.take i) ∧ zN = 32 ∧ zenv = [(17, iV i), (16, iV b.length), (15, .list (a.map y6)), (1, .list (b.map y6)), (2, fnV 146)] ∧ zAs = []) (b.length) ⟨[], [], _, _, _, (by (simp only [Weak, go_sem, List.map_append, List.map_set, *] <;> (try simp (disch := omega) only [q9]) <;> (try simp) <;> (try omega))), 0, (by simp), (by simp), (by simp), rfl, rfl, rfl⟩ ?_; rintro _ _ _ _ ⟨i, rfl, hi, hP, rfl, rfl, rfl⟩
  repeat' (first | (show z3 ..; first | (refine Qr rfl ?_; try intro _ hK; try simp only [go_sem, *])) | (show Hold ..; first | refine Qh rfl ?_ | (refine z7 rfl ⟨_, rfl, fun hb => ?_, fun hb => ?_⟩ <;> (have hc := hb; try simp only [go_sem] at hc)) | refine z8 rfl ?_) | (show q7 ..; first | (refine q8 (zGu (List.getD a i default) (List.getD b i default) (hrl _ (w6 (by omega)))) ?_ ?_; (focus (simp only [go_sem, *]; done)); simp only [go_sem, *])) | ((with_reducible refine And.intro ?_ ?_); focus omega) | (refine z6 hK ?_; clear hK; simp only [go_sem, *]) | (simp only [z5, z4, go_sem, *]))
  ·(refine ⟨[_], [], [], ⟨rfl, trivial⟩, ?_⟩; simp only [go_sem, *])
   simp [Y2 (a := a) (b := b) (i := i) (by assumption)]
  ·refine ⟨_, (by omega), [], [], _, _, _, (by (simp only [Weak, go_sem, List.map_append, List.map_set, *] <;> (try simp (disch := omega) only [q9]) <;> (try simp) <;> (try omega))), i + 1, rfl, (by omega), (by exact Y1 (by omega) (by omega) hP (by assumption)), rfl, rfl, rfl⟩
  ·(refine ⟨[_], [], [], ⟨rfl, trivial⟩, ?_⟩; simp only [go_sem, *])
   simp [Y0 (by omega) hlb hP]
theorem zHc (a b : zLI) (h1 : a.length ≤ 4294967296) (hrl : ∀ l, l ∈ a → l.length ≤ 4294967296) : zLJ prog 111 [y5 a, y5 b] [] (bV (decide (a = b))) [] := by
 refine y3 func111 rfl (fun E hE => ?_); simp only [go_sem, ntmps111]
 repeat' (first | (show z3 ..; first | (refine Qr rfl ?_; try intro _ hK; try simp only [go_sem, *])) | (show Hold ..; first | refine Qh rfl ?_ | (refine z7 rfl ⟨_, rfl, fun hb => ?_, fun hb => ?_⟩ <;> (have hc := hb; try simp only [go_sem] at hc)) | refine z8 rfl ?_) | (show q7 ..; first | (refine q8 (zGs a b h1 hrl) ?_ ?_; (focus (simp only [go_sem, *]; done)); simp only [go_sem, *])) | ((with_reducible refine And.intro ?_ ?_); focus omega) | (refine z6 hK ?_; clear hK; simp only [go_sem, *]) | (simp only [z5, z4, go_sem, *]))
 all_goals (refine ⟨[_], [], [], ⟨rfl, trivial⟩, ?_⟩; simp only [go_sem, *])
end Go.Abs

