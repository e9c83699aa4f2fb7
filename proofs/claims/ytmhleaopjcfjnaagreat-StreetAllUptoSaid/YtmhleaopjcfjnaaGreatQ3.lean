/-
  WHAT THE PROOF STANDS ON, PART 3: contracts of the program's functions and the logic that they are proved in. No condition.
-/
import Derived.Maps.Keyed
import Derived.DeepKeys3
import Derived.Test.YtmhleaopjcfjnaaGreatQ2
set_option maxRecDepth 100000
set_option maxHeartbeats 4000000
set_option linter.unusedVariables false
set_option linter.unusedSimpArgs false
set_option linter.unusedSectionVars false
namespace Go.Abs
open Go Go.Proofs
attribute [local irreducible] zAC Hold zAN
theorem zAd (n a b : Int) : Spec Tryz.prog 128 [iV n, iV a, iV b] [] (bV (betw n a b)) [] := by
 refine zAF Tryz.func128 rfl (fun E hE => ?_); simp only [go_sem, Tryz.ntmps128]
 repeat' (first | (show zAC ..; first | (refine Qr rfl ?_; try intro K' hK; try simp only [go_sem, *]) | (refine Qi rfl rfl rfl rfl (fun hb K' hK => ?_) (fun hb => ?_) <;> (have hc := hb; try simp only [go_sem] at hc; simp only [go_sem, *]))) | (show Hold ..; first | refine Qh rfl ?_ | (refine zAD rfl ⟨_, rfl, fun hb => ?_, fun hb => ?_⟩ <;> (have hc := hb; try simp only [go_sem] at hc)) | refine zAI rfl ?_) | ((with_reducible refine And.intro ?_ ?_); focus omega) | (refine zAB hK ?_; clear hK K'; simp only [go_sem, *]) | (simp only [zAH, zAA, go_sem, *]))
 all_goals (refine ⟨[_], [], [], ⟨rfl, trivial⟩, ?_⟩; simp only [go_sem, *])
 all_goals (refine zDi ?_; simp [betw] at *; omega)
theorem zAb (n a b : Int) : Spec Tryz.prog 114 [iV n, iV a, iV b] [] (bV (betw n a b)) [] := by
 refine zAF Tryz.func114 rfl (fun E hE => ?_); simp only [go_sem, Tryz.ntmps114]
 repeat' (first | (show zAC ..; first | (refine Qr rfl ?_; try intro K' hK; try simp only [go_sem, *]) | (refine Qi rfl rfl rfl rfl (fun hb K' hK => ?_) (fun hb => ?_) <;> (have hc := hb; try simp only [go_sem] at hc; simp only [go_sem, *]))) | (show Hold ..; first | refine Qh rfl ?_ | (refine zAD rfl ⟨_, rfl, fun hb => ?_, fun hb => ?_⟩ <;> (have hc := hb; try simp only [go_sem] at hc)) | refine zAI rfl ?_) | ((with_reducible refine And.intro ?_ ?_); focus omega) | (refine zAB hK ?_; clear hK K'; simp only [go_sem, *]) | (simp only [zAH, zAA, go_sem, *]))
 all_goals (refine ⟨[_], [], [], ⟨rfl, trivial⟩, ?_⟩; simp only [go_sem, *])
 all_goals (refine zDi ?_; simp [betw] at *; omega)
theorem zEJ (x : Plate) : Spec Tryz.prog 92 [x.enc] [] (bV x.ok) [] := by
 refine zAF Tryz.func92 rfl (fun E hE => ?_); simp only [go_sem, Tryz.ntmps92]
 repeat' (first | (show zAC ..; first | (refine Qr rfl ?_; try intro K' hK; try simp only [go_sem, *]) | (refine Qi rfl rfl rfl rfl (fun hb K' hK => ?_) (fun hb => ?_) <;> (have hc := hb; try simp only [go_sem] at hc; simp only [go_sem, *]))) | (show Hold ..; first | refine Qh rfl ?_ | (refine zAD rfl ⟨_, rfl, fun hb => ?_, fun hb => ?_⟩ <;> (have hc := hb; try simp only [go_sem] at hc)) | refine zAI rfl ?_) | (show zAN ..; first | (refine zAK (zAd _ _ _) ?_ ?_; (focus (simp only [go_sem, *]; done)); simp only [go_sem, *])) | ((with_reducible refine And.intro ?_ ?_); focus omega) | (refine zAB hK ?_; clear hK K'; simp only [go_sem, *]) | (simp only [zAH, zAA, go_sem, *]))
 all_goals (refine ⟨[_], [], [], ⟨rfl, trivial⟩, ?_⟩; simp only [go_sem, *])
 all_goals simp_all [Plate.ok]
theorem zLh (x : Plate) : Spec Tryz.prog 59 [x.enc] [] (bV x.ok) [] := by
 refine zAF Tryz.func59 rfl (fun E hE => ?_); simp only [go_sem, Tryz.ntmps59]
 repeat' (first | (show zAC ..; first | (refine Qr rfl ?_; try intro K' hK; try simp only [go_sem, *]) | (refine Qi rfl rfl rfl rfl (fun hb K' hK => ?_) (fun hb => ?_) <;> (have hc := hb; try simp only [go_sem] at hc; simp only [go_sem, *]))) | (show Hold ..; first | refine Qh rfl ?_ | (refine zAD rfl ⟨_, rfl, fun hb => ?_, fun hb => ?_⟩ <;> (have hc := hb; try simp only [go_sem] at hc)) | refine zAI rfl ?_) | (show zAN ..; first | (refine zAK (zAb _ _ _) ?_ ?_; (focus (simp only [go_sem, *]; done)); simp only [go_sem, *])) | ((with_reducible refine And.intro ?_ ?_); focus omega) | (refine zAB hK ?_; clear hK K'; simp only [go_sem, *]) | (simp only [zAH, zAA, go_sem, *]))
 all_goals (refine ⟨[_], [], [], ⟨rfl, trivial⟩, ?_⟩; simp only [go_sem, *])
 all_goals simp_all [Plate.ok]
theorem zMm (n : Int) : Spec Tryz.prog 155 [iV n] [] (bV false) [] := by
 refine zAF Tryz.func155 rfl (fun E hE => ?_); simp only [go_sem, Tryz.ntmps155]
 repeat' (first | (show zAC ..; first | (refine Qr rfl ?_; try intro K' hK; try simp only [go_sem, *])) | (show Hold ..; first | refine Qh rfl ?_ | (refine zAD rfl ⟨_, rfl, fun hb => ?_, fun hb => ?_⟩ <;> (have hc := hb; try simp only [go_sem] at hc)) | refine zAI rfl ?_) | ((with_reducible refine And.intro ?_ ?_); focus omega) | (refine zAB hK ?_; clear hK K'; simp only [go_sem, *]) | (simp only [zAH, zAA, go_sem, *]))
 all_goals (refine ⟨[_], [], [], ⟨rfl, trivial⟩, ?_⟩; simp only [go_sem, *])
 all_goals simp_all
theorem zGg (a b : Int) : Spec Tryz.prog 130 [iV a, iV b] [] (iV (cmpN a b)) [] := by
 refine zAF Tryz.func130 rfl (fun E hE => ?_); simp only [go_sem, Tryz.ntmps130]
 repeat' (first | (show zAC ..; first | (refine Qr rfl ?_; try intro K' hK; try simp only [go_sem, *])) | (show Hold ..; first | refine Qh rfl ?_ | (refine zAD rfl ⟨_, rfl, fun hb => ?_, fun hb => ?_⟩ <;> (have hc := hb; try simp only [go_sem] at hc)) | refine zAI rfl ?_) | (show zAN ..; first | (refine zAK (zMm _) ?_ ?_; (focus (simp only [go_sem, *]; done)); simp only [go_sem, *])) | ((with_reducible refine And.intro ?_ ?_); focus omega) | (refine zAB hK ?_; clear hK K'; simp only [go_sem, *]) | (simp only [zAH, zAA, go_sem, *]))
 all_goals (refine ⟨[_], [], [], ⟨rfl, trivial⟩, ?_⟩; simp only [go_sem, *])
 all_goals (refine zK9 ?_; unfold cmpN; repeat' split)
 all_goals omega
theorem zDG (a b : Plate) : Spec Tryz.prog 94 [a.enc, b.enc] [] (bV (a.lt b)) [] := by
 refine zAF Tryz.func94 rfl (fun E hE => ?_); simp only [go_sem, Tryz.ntmps94]
 repeat' (first | (show zAC ..; first | (refine Qr rfl ?_; try intro K' hK; try simp only [go_sem, *]) | (refine Qi rfl rfl rfl rfl (fun hb K' hK => ?_) (fun hb => ?_) <;> (have hc := hb; try simp only [go_sem] at hc; simp only [go_sem, *]))) | (show Hold ..; first | refine Qh rfl ?_ | (refine zAD rfl ⟨_, rfl, fun hb => ?_, fun hb => ?_⟩ <;> (have hc := hb; try simp only [go_sem] at hc)) | refine zAI rfl ?_) | ((with_reducible refine And.intro ?_ ?_); focus omega) | (refine zAB hK ?_; clear hK K'; simp only [go_sem, *]) | (simp only [zAH, zAA, go_sem, *]))
 all_goals (refine ⟨[_], [], [], ⟨rfl, trivial⟩, ?_⟩; simp only [go_sem, *])
 all_goals (refine zDi ?_; rw [Plate.lt_iff]; simp at *; omega)
theorem zIL (a b : Plate) : Spec Tryz.prog 87 [a.enc, b.enc] [] (bV (a.lt b)) [] := by
 refine zAF Tryz.func87 rfl (fun E hE => ?_); simp only [go_sem, Tryz.ntmps87]
 repeat' (first | (show zAC ..; first | (refine Qr rfl ?_; try intro K' hK; try simp only [go_sem, *]) | (refine Qi rfl rfl rfl rfl (fun hb K' hK => ?_) (fun hb => ?_) <;> (have hc := hb; try simp only [go_sem] at hc; simp only [go_sem, *]))) | (show Hold ..; first | refine Qh rfl ?_ | (refine zAD rfl ⟨_, rfl, fun hb => ?_, fun hb => ?_⟩ <;> (have hc := hb; try simp only [go_sem] at hc)) | refine zAI rfl ?_) | ((with_reducible refine And.intro ?_ ?_); focus omega) | (refine zAB hK ?_; clear hK K'; simp only [go_sem, *]) | (simp only [zAH, zAA, go_sem, *]))
 all_goals (refine ⟨[_], [], [], ⟨rfl, trivial⟩, ?_⟩; simp only [go_sem, *])
 all_goals (refine zDi ?_; rw [Plate.lt_iff]; simp at *; omega)
theorem zMg (a b : House) : Spec Tryz.prog 50 [a.enc, b.enc] [] (bV (a.lt b)) [] := by
 obtain ⟨a1, a2, a3⟩ := a
 obtain ⟨b1, b2, b3⟩ := b
 refine zAF Tryz.func50 rfl (fun E hE => ?_); simp only [go_sem, Tryz.ntmps50]
 repeat' (first | (show zAC ..; first | (refine Qr rfl ?_; try intro K' hK; try simp only [go_sem, *]) | (refine Qi rfl rfl rfl rfl (fun hb K' hK => ?_) (fun hb => ?_) <;> (have hc := hb; try simp only [go_sem] at hc; simp only [go_sem, *]))) | (show Hold ..; first | refine Qh rfl ?_ | (refine zAD rfl ⟨_, rfl, fun hb => ?_, fun hb => ?_⟩ <;> (have hc := hb; try simp only [go_sem] at hc)) | refine zAI rfl ?_) | (show zAN ..; first | (refine zAK (zDG ⟨_, _⟩ ⟨_, _⟩) ?_ ?_; (focus (simp only [go_sem, *]; done)); simp only [go_sem, *])) | ((with_reducible refine And.intro ?_ ?_); focus omega) | (refine zAB hK ?_; clear hK K'; simp only [go_sem, *]) | (simp only [zAH, zAA, go_sem, *]))
 all_goals (refine ⟨[_], [], [], ⟨rfl, trivial⟩, ?_⟩; simp only [go_sem, *])
 all_goals (refine zDi ?_; simp only [House.lt_iff, Plate.lt_iff]; simp at *; try omega)
theorem zLw (a : Plate) : Spec Tryz.prog 195 [a.enc] [] (bV (a.number.tmod 2 != 0)) [] := by
 refine zAF Tryz.func195 rfl (fun E hE => ?_); simp only [go_sem, Tryz.ntmps195]
 repeat' (first | (show zAC ..; first | (refine Qr rfl ?_; try intro K' hK; try simp only [go_sem, *])) | (show Hold ..; first | refine Qh rfl ?_ | (refine zAD rfl ⟨_, rfl, fun hb => ?_, fun hb => ?_⟩ <;> (have hc := hb; try simp only [go_sem] at hc)) | refine zAI rfl ?_) | ((with_reducible refine And.intro ?_ ?_); focus omega) | (refine zAB hK ?_; clear hK K'; simp only [go_sem, *]) | (simp only [zAH, zAA, go_sem, *]))
 all_goals (refine ⟨[_], [], [], ⟨rfl, trivial⟩, ?_⟩; simp only [go_sem, *])
theorem zLp (a : Plate) : Spec Tryz.prog 196 [a.enc] [] (bV (a.number.tmod 2 == 0)) [] := by
 refine zAF Tryz.func196 rfl (fun E hE => ?_); simp only [go_sem, Tryz.ntmps196]
 repeat' (first | (show zAC ..; first | (refine Qr rfl ?_; try intro K' hK; try simp only [go_sem, *])) | (show Hold ..; first | refine Qh rfl ?_ | (refine zAD rfl ⟨_, rfl, fun hb => ?_, fun hb => ?_⟩ <;> (have hc := hb; try simp only [go_sem] at hc)) | refine zAI rfl ?_) | ((with_reducible refine And.intro ?_ ?_); focus omega) | (refine zAB hK ?_; clear hK K'; simp only [go_sem, *]) | (simp only [zAH, zAA, go_sem, *]))
 all_goals (refine ⟨[_], [], [], ⟨rfl, trivial⟩, ?_⟩; simp only [go_sem, *])
def orL : List Int → Int
 | [] => 0
 | x :: r => if x = 0 then orL r else x
theorem zPo (l : List Int) (hl : l.length ≤ 4294967296) : Spec Tryz.prog 129 [.list (l.map iV)] [] (iV (orL l)) [] := by
 refine zAF Tryz.func129 rfl (fun E hE => ?_); simp only [go_sem, Tryz.ntmps129]
 repeat' (first | (show zAC ..; first | (refine Qr rfl ?_; try intro K' hK; try simp only [go_sem, *])) | (show Hold ..; first | refine Qh rfl ?_ | (refine zAD rfl ⟨_, rfl, fun hb => ?_, fun hb => ?_⟩ <;> (have hc := hb; try simp only [go_sem] at hc)) | refine zAI rfl ?_) | ((with_reducible refine And.intro ?_ ?_); focus omega) | (refine zAB hK ?_; clear hK K'; simp only [go_sem, *]) | (simp only [zAH, zAA, go_sem, *]))
 refine zAQ rfl (fun n N env As => ∃ i : Nat, n = l.length - i ∧ i ≤ l.length ∧ orL (l.drop i) = orL l ∧ N = 18 ∧ env = [(8, iV i), (7, iV l.length), (6, .list (l.map iV)), (3, iV 0)] ∧ As = []) l.length ⟨[], [], _, _, _, ?_, 0, by simp, by simp, by simp, rfl, rfl, rfl⟩ ?_
 ·(simp only [Weak, go_sem, List.map_append, List.map_set, *] <;> (try simp (disch := omega) only [zAE]) <;> (try simp) <;> (try omega))
 rintro _ _ _ _ ⟨i, rfl, hi, ho, rfl, rfl, rfl⟩
 repeat' (first | (show zAC ..; first | (refine Qr rfl ?_; try intro K' hK; try simp only [go_sem, *])) | (show Hold ..; first | refine Qh rfl ?_ | (refine zAD rfl ⟨_, rfl, fun hb => ?_, fun hb => ?_⟩ <;> (have hc := hb; try simp only [go_sem] at hc)) | refine zAI rfl ?_) | ((with_reducible refine And.intro ?_ ?_); focus omega) | (refine zAB hK ?_; clear hK K'; simp only [go_sem, *]) | (simp only [zAH, zAA, go_sem, *]))
 ·(refine ⟨[_], [], [], ⟨rfl, trivial⟩, ?_⟩; simp only [go_sem, *])
  rw [← ho, zAS ‹_›, orL, if_neg ‹_›]
 ·refine ⟨_, ?_, [], [], _, _, _, ?_, i + 1, rfl, ?_, ?_, rfl, rfl, rfl⟩
  ·omega
  ·(simp only [Weak, go_sem, List.map_append, List.map_set, *] <;> (try simp (disch := omega) only [zAE]) <;> (try simp) <;> (try omega))
  ·omega
  ·rw [← ho, zAS (i := i) ‹_›, orL, if_pos ‹_›]
 ·(refine ⟨[_], [], [], ⟨rfl, trivial⟩, ?_⟩; simp only [go_sem, *])
  rw [← ho, zAX (by omega), orL]
theorem zLS (a b : Int) : orL [a, b] = orI a b := by
 simp only [orL, orI]; repeat' split
 all_goals omega
theorem zAm (a b : Plate) : Spec Tryz.prog 93 [a.enc, b.enc] [] (iV (cmpP a b)) [] := by
 refine zAF Tryz.func93 rfl (fun E hE => ?_); simp only [go_sem, Tryz.ntmps93]
 repeat' (first | (show zAC ..; first | (refine Qr rfl ?_; try intro K' hK; try simp only [go_sem, *])) | (show Hold ..; first | refine Qh rfl ?_ | refine zAG rfl Tryz.mixed (by kernel_rfl) ?_ | (refine zAD rfl ⟨_, rfl, fun hb => ?_, fun hb => ?_⟩ <;> (have hc := hb; try simp only [go_sem] at hc)) | refine zAI rfl ?_) | (refine Qb ?_ ?_; focus kernel_rfl) | (show zAN ..; first | (refine zAK (zGg _ _) ?_ ?_; (focus (simp only [go_sem, *]; done)); simp only [go_sem, *])) | ((with_reducible refine And.intro ?_ ?_); focus omega) | (refine zAB hK ?_; clear hK K'; simp only [go_sem, *]) | (simp only [zAH, zAA, go_sem, *]))
 (refine zCE [2] (zPo [cmpN a.number b.number, cmpN a.letter b.letter] (by simp)) (by simp only [go_sem, *]) (by first | exact .raw _) ?_; simp only [go_sem, *])
 repeat' (first | (show zAC ..; first | (refine Qr rfl ?_; try intro K' hK; try simp only [go_sem, *])) | (show Hold ..; first | refine Qh rfl ?_ | refine zAG rfl Tryz.mixed (by kernel_rfl) ?_ | (refine zAD rfl ⟨_, rfl, fun hb => ?_, fun hb => ?_⟩ <;> (have hc := hb; try simp only [go_sem] at hc)) | refine zAI rfl ?_) | (refine Qb ?_ ?_; focus kernel_rfl) | ((with_reducible refine And.intro ?_ ?_); focus omega) | (refine zAB hK ?_; clear hK K'; simp only [go_sem, *]) | (simp only [zAH, zAA, go_sem, *]))
 (refine ⟨[_], [], [], ⟨rfl, trivial⟩, ?_⟩; simp only [go_sem, *])
 rw [zLS, cmpP]
theorem zFG (a b : House) : Spec Tryz.prog 136 [a.enc, b.enc] [] (iV (cmpH a b)) [] := by
 refine zAF Tryz.func136 rfl (fun E hE => ?_); simp only [go_sem, Tryz.ntmps136]
 repeat' (first | (show zAC ..; first | (refine Qr rfl ?_; try intro K' hK; try simp only [go_sem, *])) | (show Hold ..; first | refine Qh rfl ?_ | refine zAG rfl Tryz.mixed (by kernel_rfl) ?_ | (refine zAD rfl ⟨_, rfl, fun hb => ?_, fun hb => ?_⟩ <;> (have hc := hb; try simp only [go_sem] at hc)) | refine zAI rfl ?_) | (refine Qb ?_ ?_; focus kernel_rfl) | (show zAN ..; first | ((first | refine zAK (zGg _ _) ?_ ?_ | refine zAK (zAm a.plate b.plate) ?_ ?_); (focus (simp only [go_sem, *]; done)); simp only [go_sem, *])) | ((with_reducible refine And.intro ?_ ?_); focus omega) | (refine zAB hK ?_; clear hK K'; simp only [go_sem, *]) | (simp only [zAH, zAA, go_sem, *]))
 (refine zCE [2] (zPo [cmpN a.street b.street, cmpP a.plate b.plate] (by simp)) (by simp only [go_sem, *]) (by first | exact .raw _) ?_; simp only [go_sem, *])
 repeat' (first | (show zAC ..; first | (refine Qr rfl ?_; try intro K' hK; try simp only [go_sem, *])) | (show Hold ..; first | refine Qh rfl ?_ | refine zAG rfl Tryz.mixed (by kernel_rfl) ?_ | (refine zAD rfl ⟨_, rfl, fun hb => ?_, fun hb => ?_⟩ <;> (have hc := hb; try simp only [go_sem] at hc)) | refine zAI rfl ?_) | (refine Qb ?_ ?_; focus kernel_rfl) | ((with_reducible refine And.intro ?_ ?_); focus omega) | (refine zAB hK ?_; clear hK K'; simp only [go_sem, *]) | (simp only [zAH, zAA, go_sem, *]))
 (refine ⟨[_], [], [], ⟨rfl, trivial⟩, ?_⟩; simp only [go_sem, *])
 rw [zLS, cmpH]
theorem zNA (n m : Int) (h : 0 < m) : n % m = if n.tmod m < 0 then n.tmod m + m else n.tmod m := by
 have h1 := Int.tmod_add_mul_tdiv n m
 have h2 := Int.tmod_lt_of_pos n h
 have h3 := Int.lt_tmod_of_pos n h
 have e : n % m = n.tmod m % m := by
  conv => lhs; rw [← h1]
  rw [Int.add_mul_emod_self_left]
 rw [e]
 split
 ·rw [← Int.emod_eq_of_lt (a := n.tmod m + m) (b := m) (by omega) (by omega), Int.add_emod_right]
 ·exact Int.emod_eq_of_lt (by omega) h2
theorem zNG (n m : Int) (h : 0 < m) (hm : m ≤ 4294967296) : Spec Tryz.prog 65 [iV n, iV m] [] (iV (n % m)) [] := by
 have h2 := Int.tmod_lt_of_pos n h
 have h3 := Int.lt_tmod_of_pos n h
 refine zAF Tryz.func65 rfl (fun E hE => ?_); simp only [go_sem, Tryz.ntmps65]
 repeat' (first | (show zAC ..; first | (refine Qr rfl ?_; try intro K' hK; try simp only [go_sem, *])) | (show Hold ..; first | refine Qh rfl ?_ | (refine zAD rfl ⟨_, rfl, fun hb => ?_, fun hb => ?_⟩ <;> (have hc := hb; try simp only [go_sem] at hc)) | refine zAI rfl ?_) | ((with_reducible refine And.intro ?_ ?_); focus omega) | (refine zAB hK ?_; clear hK K'; simp only [go_sem, *]) | (simp only [zAH, zAA, go_sem, *]))
 ·(refine ⟨[_], [], [], ⟨rfl, trivial⟩, ?_⟩; simp only [go_sem, *])
  rw [zNA n m h, if_pos (by assumption), wrap_i64 (by omega) (by omega)]
 ·(refine ⟨[_], [], [], ⟨rfl, trivial⟩, ?_⟩; simp only [go_sem, *])
  rw [zNA n m h, if_neg (by omega)]
theorem zDz {l : List Plate} {k : Nat} (h : k < l.length) (o : Option Plate) (ho : o = if k = 0 then none else some (l.getD (k - 1) default)) :
  zAj o (l.drop k) = if (l.getD k default).ok = true then (if k = 0 ∨ (l.getD (k - 1) default).lt (l.getD k default) = true then zAj (some (l.getD k default)) (l.drop (k + 1)) else 5) else 1 := by
 rw [zAS h]
 subst ho
 by_cases hk : k = 0
 ·simp [hk, zAj]
 ·simp [hk, zAj]
def zGD (l : List Plate) (k : Nat) : Option Plate := if k = 0 then none else some (l.getD (k - 1) default)
theorem zDX (l : List Plate) (k : Nat) : zGD l (k + 1) = some (l.getD k default) := by simp [zGD]
theorem zEI {p : Plan} {i : Nat} (h : i < p.length) : zAo (p.drop i) = if 8 < (p.getD i default).length then 6 else if zAj none (p.getD i default) = 0 then zAo (p.drop (i + 1)) else zAj none (p.getD i default) := by
 rw [zAS h, zAo]
theorem zBn (p : Plan) (h1 : p.length ≤ 4294967296) : Spec Tryz.prog 27 [zAO p] [] (iV (check p)) [] := by
  have e0 : p.length = 0 → check p = 7 := fun h => by unfold check; rw [if_pos h]
  have e1 : ¬ p.length = 0 → 3 < p.length → check p = 6 := fun h h' => by unfold check; rw [if_neg h, if_pos h']
  have e2 : ¬ p.length = 0 → ¬ 3 < p.length → check p = zAo p := fun h h' => by unfold check; rw [if_neg h, if_neg h']
  refine zAF Tryz.func27 rfl (fun E hE => ?_); simp only [go_sem, Tryz.ntmps27]
  repeat' (first | (show zAC ..; first | (refine Qr rfl ?_; try intro K' hK; try simp only [go_sem, *]) | (refine Qi rfl rfl rfl rfl (fun hb K' hK => ?_) (fun hb => ?_) <;> (have hc := hb; try simp only [go_sem] at hc; simp only [go_sem, *]))) | (show Hold ..; first | refine Qh rfl ?_ | refine zAG rfl Tryz.mixed (by kernel_rfl) ?_ | (refine zAD rfl ⟨_, rfl, fun hb => ?_, fun hb => ?_⟩ <;> (have hc := hb; try simp only [go_sem] at hc)) | refine zAI rfl ?_) | (refine Qb ?_ ?_; focus kernel_rfl) | ((with_reducible refine And.intro ?_ ?_); focus omega) | (refine zAB hK ?_; clear hK K'; simp only [go_sem, *]) | (simp only [zAH, zAA, go_sem, *]))
  · (refine ⟨[_], [], [], ⟨rfl, trivial⟩, ?_⟩; simp only [go_sem, *])
    rw [e0 (by omega)]
  · (refine ⟨[_], [], [], ⟨rfl, trivial⟩, ?_⟩; simp only [go_sem, *])
    rw [e1 (by omega) (by omega)]
  · have e3 := e2 (by omega) (by omega)
    clear e0 e1 e2
    refine zAQ rfl (fun zn zN zenv zAs => ∃ (i : Nat), zn = (p.length) - i ∧ i ≤ (p.length) ∧ (zAo (p.drop i) = zAo p) ∧ zN = 49 ∧ zenv = [(18, iV i), (17, iV p.length), (16, .list (p.map zAM))] ∧ zAs = []) (p.length) ⟨[], [], _, _, _, (by (simp only [Weak, go_sem, List.map_append, List.map_set, *] <;> (try simp (disch := omega) only [zAE]) <;> (try simp) <;> (try omega))), 0, (by simp), (by simp), (by simp), rfl, rfl, rfl⟩ ?_; rintro _ _ _ _ ⟨i, rfl, hi, hP, rfl, rfl, rfl⟩
    repeat' (first | (show zAC ..; first | (refine Qr rfl ?_; try intro K' hK; try simp only [go_sem, *]) | (refine Qi rfl rfl rfl rfl (fun hb K' hK => ?_) (fun hb => ?_) <;> (have hc := hb; try simp only [go_sem] at hc; simp only [go_sem, *]))) | (show Hold ..; first | refine Qh rfl ?_ | refine zAG rfl Tryz.mixed (by kernel_rfl) ?_ | (refine zAD rfl ⟨_, rfl, fun hb => ?_, fun hb => ?_⟩ <;> (have hc := hb; try simp only [go_sem] at hc)) | refine zAI rfl ?_) | (refine Qb ?_ ?_; focus kernel_rfl) | ((with_reducible refine And.intro ?_ ?_); focus omega) | (refine zAB hK ?_; clear hK K'; simp only [go_sem, *]) | (simp only [zAH, zAA, go_sem, *]))
    · (refine ⟨[_], [], [], ⟨rfl, trivial⟩, ?_⟩; simp only [go_sem, *])
      rw [← hP, zEI (by omega), if_pos (by omega)]
    · have hl : (p.getD i default).length ≤ 8 := by omega
      have hi' : i < p.length := by omega
      rw [zEI hi', if_neg (by omega)] at hP
      generalize hll : p.getD i default = l at *
      refine zAQ rfl (fun zn zN zenv zAs => ∃ (k : Nat), zn = (l.length) - k ∧ k ≤ (l.length) ∧ (zAj (zGD l k) (l.drop k) = zAj none l) ∧ zN = 49 ∧ zenv = [(27, iV k), (26, iV l.length), (25, zAM l), (4, zAM l), (18, iV i), (17, iV p.length), (16, .list (p.map zAM))] ∧ zAs = []) (l.length) ⟨[], [], _, _, _, (by (simp only [Weak, go_sem, List.map_append, List.map_set, *] <;> (try simp (disch := omega) only [zAE]) <;> (try simp) <;> (try omega))), 0, (by simp), (by simp), (by simp [zGD]), rfl, rfl, rfl⟩ ?_; rintro _ _ _ _ ⟨k, rfl, hk, hK, rfl, rfl, rfl⟩
      have hw : 0 < k → IntKind.i64.wrap ((k : Int) - 1) = ((k - 1 : Nat) : Int) := fun h => by rw [wrap_i64 (by omega) (by omega)]; omega
      have hk1 : k < l.length → k - 1 < l.length := fun h => by omega
      have hstep : ∀ h : k < l.length, _ := fun h => zDz h (zGD l k) rfl
      repeat' (first | (show zAC ..; first | (refine Qr rfl ?_; try intro K' hK; try simp only [go_sem, *]) | (refine Qi rfl rfl rfl rfl (fun hb K' hK => ?_) (fun hb => ?_) <;> (have hc := hb; try simp only [go_sem] at hc; simp only [go_sem, *]))) | (show Hold ..; first | refine Qh rfl ?_ | refine zAG rfl Tryz.mixed (by kernel_rfl) ?_ | (refine zAD rfl ⟨_, rfl, fun hb => ?_, fun hb => ?_⟩ <;> (have hc := hb; try simp only [go_sem] at hc)) | refine zAI rfl ?_) | (refine Qb ?_ ?_; focus kernel_rfl) | (show zAN ..; first | ((first | refine zAK (zEJ _) ?_ ?_ | refine zAK (zAm _ _) ?_ ?_); (focus (simp only [go_sem, *]; done)); simp only [go_sem, *])) | ((with_reducible refine And.intro ?_ ?_); focus omega) | (refine zAB hK ?_; clear hK K'; simp only [go_sem, *]) | (simp only [zAH, zAA, go_sem, *]))
      · (refine ⟨[_], [], [], ⟨rfl, trivial⟩, ?_⟩; simp only [go_sem, *])
        rw [hstep (by omega), if_neg (by simp_all)] at hK
        rw [← hK, if_neg (by omega)] at hP
        rw [← hP]
      · (refine ⟨[_], [], [], ⟨rfl, trivial⟩, ?_⟩; simp only [go_sem, *])
        have hlt : ¬ (l.getD (k - 1) default).lt (l.getD k default) = true := by rw [← zFU]; omega
        rw [hstep (by omega), if_pos (by assumption), if_neg (by intro h; rcases h with h | h; · omega
                                                                 · exact hlt h)] at hK
        rw [← hK, if_neg (by omega)] at hP
        rw [← hP]
      · have hlt : (l.getD (k - 1) default).lt (l.getD k default) = true := by rw [← zFU]; omega
        refine ⟨_, (by omega), [], [], _, _, _, (by (simp only [Weak, go_sem, List.map_append, List.map_set, *] <;> (try simp (disch := omega) only [zAE]) <;> (try simp) <;> (try omega))), k + 1, rfl, (by omega), (by rw [← hK, hstep (by omega), if_pos (by assumption), if_pos (.inr hlt), zDX]), rfl, rfl, rfl⟩
      · refine ⟨_, (by omega), [], [], _, _, _, (by (simp only [Weak, go_sem, List.map_append, List.map_set, *] <;> (try simp (disch := omega) only [zAE]) <;> (try simp) <;> (try omega))), k + 1, rfl, (by omega), (by rw [← hK, hstep (by omega), if_pos (by assumption), if_pos (.inl (by omega)), zDX]), rfl, rfl, rfl⟩
      · rw [zAX (by omega)] at hK
        have h0 : zAj none l = 0 := by rw [← hK]; cases zGD l k <;> rfl
        rw [if_pos h0] at hP
        refine ⟨_, (by omega), [], [], _, _, _, (by (simp only [Weak, go_sem, List.map_append, List.map_set, *] <;> (try simp (disch := omega) only [zAE]) <;> (try simp) <;> (try omega))), i + 1, rfl, (by omega), (by exact hP), rfl, rfl, rfl⟩
    · (refine ⟨[_], [], [], ⟨rfl, trivial⟩, ?_⟩; simp only [go_sem, *])
      rw [← hP, zAX (by omega), zAo]
end Go.Abs

namespace Go.Abs
open Go Go.Proofs
theorem zDq : Maps.Keyed Tryz.prog 57 := Maps.Keyed.of_law (deep_law (m := 4) (by omega) (by kernel_rfl) (by kernel_rfl) (by kernel_rfl))
structure House.Wf (h : House) : Prop where
 s : (Lit.int .i64 h.street).wf = true
 n : (Lit.int .i64 h.plate.number).wf = true
 l : (Lit.int .i64 h.plate.letter).wf = true
@[reducible] def House.key (h : House) : Value := .agg #[.int .i64 h.street, .int .i64 h.plate.number, .int .i64 h.plate.letter]
theorem zNc (d : Nat) (n : Int) (h : (Lit.int .i64 n).wf = true) : Tryz.prog.keyLits (d + 1) 3 [.int .i64 n] = some [.int .i64 n] := by
 have hu : Tryz.prog.underlying 3 = some (.int .i64) := by kernel_rfl
 unfold Program.keyLits
 rw [hu]; simp [h]
theorem zPM (d : Nat) (n m : Int) (h : (Lit.int .i64 n).wf = true) (h' : (Lit.int .i64 m).wf = true) : Tryz.prog.keyLits (d + 2) 26 [.int .i64 n, .int .i64 m] = some [.int .i64 n, .int .i64 m] := by
 have hu : Tryz.prog.underlying 26 = some (.struct (Tryz.prog.fieldsOf 26)) := by kernel_rfl
 have hl : (Tryz.prog.fieldsOf 26).toList = [(Tryz.prog.fieldsOf 26).toList.getD 0 default, (Tryz.prog.fieldsOf 26).toList.getD 1 default] := by kernel_rfl
 have t0 : ((Tryz.prog.fieldsOf 26).toList.getD 0 default).type = 3 := by kernel_rfl
 have t1 : ((Tryz.prog.fieldsOf 26).toList.getD 1 default).type = 3 := by kernel_rfl
 have o0 : ((Tryz.prog.fieldsOf 26).toList.getD 0 default).offset = 0 := by kernel_rfl
 have o1 : ((Tryz.prog.fieldsOf 26).toList.getD 1 default).offset = 1 := by kernel_rfl
 have c3 : Tryz.prog.cellsOf 3 = 1 := by kernel_rfl
 have c26 : Tryz.prog.cellsOf 26 = 2 := by kernel_rfl
 have hn : (Tryz.prog.fieldsOf 26).all (·.name != "_") = true := by kernel_rfl
 unfold Program.keyLits
 rw [hu]
 simp only [hn, c26, List.length_cons, List.length_nil, and_self, if_true]
 rw [hl]
 generalize (Tryz.prog.fieldsOf 26).toList.getD 0 default = f0 at *
 generalize (Tryz.prog.fieldsOf 26).toList.getD 1 default = f1 at *
 simp [List.mapM_cons, t0, t1, o0, o1, c3, zNc d _ h, zNc d _ h']
theorem zPN (d : Nat) (a n m : Int) (h0 : (Lit.int .i64 a).wf = true) (h : (Lit.int .i64 n).wf = true) (h' : (Lit.int .i64 m).wf = true) : Tryz.prog.keyLits (d + 3) 57 [.int .i64 a, .int .i64 n, .int .i64 m] = some [.int .i64 a, .int .i64 n, .int .i64 m] := by
 have hu : Tryz.prog.underlying 57 = some (.struct (Tryz.prog.fieldsOf 57)) := by kernel_rfl
 have hl : (Tryz.prog.fieldsOf 57).toList = [(Tryz.prog.fieldsOf 57).toList.getD 0 default, (Tryz.prog.fieldsOf 57).toList.getD 1 default] := by kernel_rfl
 have t0 : ((Tryz.prog.fieldsOf 57).toList.getD 0 default).type = 3 := by kernel_rfl
 have t1 : ((Tryz.prog.fieldsOf 57).toList.getD 1 default).type = 26 := by kernel_rfl
 have o0 : ((Tryz.prog.fieldsOf 57).toList.getD 0 default).offset = 0 := by kernel_rfl
 have o1 : ((Tryz.prog.fieldsOf 57).toList.getD 1 default).offset = 1 := by kernel_rfl
 have c3 : Tryz.prog.cellsOf 3 = 1 := by kernel_rfl
 have c26 : Tryz.prog.cellsOf 26 = 2 := by kernel_rfl
 have c57 : Tryz.prog.cellsOf 57 = 3 := by kernel_rfl
 have hn : (Tryz.prog.fieldsOf 57).all (·.name != "_") = true := by kernel_rfl
 unfold Program.keyLits
 rw [hu]
 simp only [hn, c57, List.length_cons, List.length_nil, and_self, if_true]
 rw [hl]
 generalize (Tryz.prog.fieldsOf 57).toList.getD 0 default = f0 at *
 generalize (Tryz.prog.fieldsOf 57).toList.getD 1 default = f1 at *
 simp [List.mapM_cons, t0, t1, o0, o1, c3, c26, zNc (d + 1) _ h0, zPM d _ _ h h']
theorem zCH (h : House) (hw : h.Wf) : keyB Tryz.prog 57 h.key := by
 have hu : Tryz.prog.underlying 57 = some (.struct (Tryz.prog.fieldsOf 57)) := by kernel_rfl
 have hk : Tryz.prog.keyType 57 = true := by kernel_rfl
 have hs : ∃ d, Tryz.prog.types.size + 1 = d + 3 := ⟨Tryz.prog.types.size - 2, by kernel_rfl⟩
 have hf : h.key.formed Tryz.prog 57 = true := by
  have : Tryz.prog.cellsOf 57 = 3 := by kernel_rfl
  simp [House.key, Value.formed, hu, this]
 obtain ⟨d, hd⟩ := hs
 unfold keyB keyOf
 rw [hu]
 simp only [hk, hf, Bool.and_self, if_true, hd]
 rw [show h.key.cells.toList = [.int .i64 h.street, .int .i64 h.plate.number, .int .i64 h.plate.letter] from rfl, zPN d _ _ _ hw.s hw.n hw.l]
 exact ⟨_, rfl⟩
end Go.Abs

namespace Go.Abs
open Go Go.Proofs
theorem House.key_inj {a b : House} : a.key = b.key ↔ a = b := by
 rw [House.eq_iff]
 simp [House.key]
theorem zCp (h : House) : ∀ hs : List House, idxV h.key (hs.map House.key) = if h ∈ hs then some (hs.idxOf h) else none
 | [] => by simp [idxV]
 | x :: r => by
  have ih := zCp h r
  rw [List.map_cons]
  unfold idxV
  by_cases e : x = h
  ·subst e; simp
  ·have e' : ¬ x.key = h.key := fun k => e (House.key_inj.1 k)
   rw [if_neg e', ih]
   by_cases hm : h ∈ r
   ·rw [if_pos hm, if_pos (by simp [hm])]
    have hb : (x == h) = false := by simpa using e
    simp [List.idxOf_cons, hb]
   ·rw [if_neg hm, if_neg (by simp only [List.mem_cons, not_or]; exact ⟨fun k => e k.symm, hm⟩)]; rfl
theorem zQM (hs : List House) (h : House) : hasA (hs.map House.key) h.key = decide (h ∈ hs) := by
 unfold hasA; rw [zCp]; by_cases hm : h ∈ hs <;> simp [hm]
theorem zLF {hs : List House} {h : House} (F : House → AV) (z : AV) : zFk (hs.map House.key) (hs.map F) h.key z = if h ∈ hs then F h else z := by
 unfold zFk; rw [zCp]
 by_cases hm : h ∈ hs
 ·rw [if_pos hm, if_pos hm]
  have hlt := List.idxOf_lt_length_of_mem hm
  simp [hlt, List.getElem_idxOf]
 ·rw [if_neg hm, if_neg hm]
theorem zMa {hs : List House} {h : House} (hm : h ∈ hs) : putK (hs.map House.key) h.key = hs.map House.key := by
 unfold putK; rw [zCp, if_pos hm]
theorem zMZ {hs : List House} {h : House} (hm : h ∉ hs) : putK (hs.map House.key) h.key = (hs ++ [h]).map House.key := by
 unfold putK; rw [zCp, if_neg hm]; simp
theorem zMb {hs : List House} {h : House} (xs : List AV) (v : AV) (hm : h ∉ hs) : putX (hs.map House.key) xs h.key v = xs ++ [v] := by
 unfold putX; rw [zCp, if_neg hm]
theorem zMc {hs : List House} {h : House} (hn : hs.Nodup) (F : House → AV) (v : AV) (hm : h ∈ hs) : putX (hs.map House.key) (hs.map F) h.key v = hs.map (fun k => if k = h then v else F k) := by
 unfold putX; rw [zCp, if_pos hm]
 apply List.ext_getElem (by simp)
 intro i h1 h2
 simp only [List.getElem_set, List.getElem_map]
 simp at h2
 have hlt := List.idxOf_lt_length_of_mem hm
 have hg : hs[hs.idxOf h] = h := by simp [List.getElem_idxOf]
 by_cases e : hs.idxOf h = i
 ·subst e; simp [hg]
 ·rw [if_neg e, if_neg]
  intro e2
  apply e
  have : hs[hs.idxOf h] = hs[i] := by rw [hg, e2]
  exact (zBi hn).1 this
theorem zEd : ∃ et, mapT Tryz.prog 121 = some (57, et) ∧ zeroT Tryz.prog et = some (.slice none 0 0) := by
 have h : ((mapT Tryz.prog 121).map (·.1)) = some 57 := by kernel_rfl
 have h2 : ((mapT Tryz.prog 121).bind fun x => zeroT Tryz.prog x.2) = some (.slice none 0 0) := by kernel_rfl
 cases hm : mapT Tryz.prog 121 with
 | none => rw [hm] at h; cases h
 | some x => rw [hm] at h h2; obtain ⟨k, e⟩ := x; simp at h; subst h; exact ⟨e, rfl, by simpa using h2⟩
theorem zEc (h : House) : keyA h.enc = some h.key := by simp [House.enc, keyA, zCW, House.key]
theorem zIX {h : House} {hs : List House} {F : House → AV} {x : AV} {o : Nat} {H : Nat → AObj} {K : Cont} (ho : H o = .mapo (hs.map House.key) (hs.map F)) (hw : ∀ k, k ∈ hs → k.Wf) (hn : hs.Nodup) (hm : h ∈ hs)
  (hp : Pure (frzV H 3 x).1) (hc : (frzV H 3 x).2.contains o = false)
  (hk : K (.tup []) (o :: (frzV H 3 x).2) (zA9 (frzV H 3 x).2 ++ [(o, .mapo (hs.map House.key) (hs.map fun k => if k = h then (frzV H 3 x).1 else F k))])) : zAt Tryz.prog 121 (.mp o) h.enc x H K := by
 obtain ⟨et, h1, _⟩ := zEd
 unfold zAt
 rw [h1, zEc]
 simp only [ho]
 refine ⟨zDq, zCH h (hw h hm), fun q hq => ?_, hp, hc, ?_⟩
 ·obtain ⟨k, hk, rfl⟩ := List.mem_map.1 hq; exact zCH k (hw k hk)
 ·rw [zMa hm, zMc hn F _ hm]; exact hk
theorem zIB {h : House} {hs : List House} {xs : List AV} {x : AV} {o : Nat} {H : Nat → AObj} {K : Cont} (ho : H o = .mapo (hs.map House.key) xs) (hw : ∀ k, k ∈ hs → k.Wf) (hh : h.Wf) (hm : h ∉ hs)
  (hp : Pure (frzV H 3 x).1) (hc : (frzV H 3 x).2.contains o = false)
  (hk : K (.tup []) (o :: (frzV H 3 x).2) (zA9 (frzV H 3 x).2 ++ [(o, .mapo ((hs ++ [h]).map House.key) (xs ++ [(frzV H 3 x).1]))])) : zAt Tryz.prog 121 (.mp o) h.enc x H K := by
 obtain ⟨et, h1, _⟩ := zEd
 unfold zAt
 rw [h1, zEc]
 simp only [ho]
 refine ⟨zDq, zCH h hh, fun q hq => ?_, hp, hc, ?_⟩
 ·obtain ⟨k, hk, rfl⟩ := List.mem_map.1 hq; exact zCH k (hw k hk)
 ·rw [zMZ hm, zMb xs _ hm]; exact hk
theorem zJy {H : Nat → AObj} {q n : Nat} {hl : List House} {rows : List AV} (h : H q = .row 3 rows) (hr : rows = hl.map House.enc) (hn : n = hl.length) : frzV H 3 (.own q 3 0 n) = (.list (hl.map House.enc), [q]) := by
 subst hr; subst hn
 simp [frzV, h, List.take_of_length_le]
theorem zBM {h : House} {hs : List House} {F : House → AV} {H : Nat → AObj} {K : Cont} (hw : ∀ k, k ∈ hs → k.Wf) (hh : h.Wf)
  (hk : K (if h ∈ hs then F h else .list []) [] []) : zCr Tryz.prog 121 (.fmap (hs.map House.key) (hs.map F)) h.enc false H K := by
 obtain ⟨et, h1, h2⟩ := zEd
 unfold zCr
 rw [h1, zEc]
 simp only [h2]
 refine ⟨zDq, zCH h hh, by simp [Value.cells, Value.oneCell'], fun q hq => ?_, ?_⟩
 ·obtain ⟨k, hk, rfl⟩ := List.mem_map.1 hq; exact zCH k (hw k hk)
 ·rw [zLF]; simpa [zAV] using hk
def MapV (g : House → List House) (h : House) : AV := .list ((g h).map House.enc)
@[reducible] def zAv (p : Plan) : List Value := (zAJ p).map House.key
@[reducible] def zAZ (p : Plan) (g : House → List House) : List AV := (zAJ p).map (MapV g)
theorem zH8 {p : Plan} {g g' : House → List House} (h : ∀ k, k ∈ zAJ p → g k = g' k) : zAZ p g = zAZ p g' := List.map_congr_left (fun k hk => by simp [MapV, h k hk])
def Upd (p : Plan) (c : Change) (g : House → List House) (done : List Plate) : Prop := ∀ h, h ∈ zAJ p → g h = if h.street = c.street ∧ h.plate ∈ done then mv p c h else [h]
theorem Upd.nil (p : Plan) (c : Change) : Upd p c (fun h => [h]) [] := fun h _ => by simp
theorem Upd.step {p : Plan} {c : Change} {g : House → List House} {done : List Plate} (h : Upd p c g done) (x : Plate) : Upd p c (fun k => if k = ⟨c.street, x⟩ then mv p c ⟨c.street, x⟩ else g k) (done ++ [x]) := fun k hk => by
 simp only
 by_cases e : k = ⟨c.street, x⟩
 ·subst e; simp
 ·rw [if_neg e, h k hk]
  have : (k.street = c.street ∧ k.plate ∈ done ++ [x]) ↔ (k.street = c.street ∧ k.plate ∈ done) := by
   constructor
   ·rintro ⟨h1, h2⟩
    rcases List.mem_append.1 h2 with h2 | h2
    ·exact ⟨h1, h2⟩
    ·simp at h2; exact absurd (by cases k; simp_all) e
   ·rintro ⟨h1, h2⟩; exact ⟨h1, by simp [h2]⟩
  simp only [this]
theorem Upd.fin {p : Plan} {c : Change} {g : House → List House} {done : List Plate} (h : Upd p c g done) (hd : ∀ x, x ∈ zAL p c.street → x ∉ done → toP p c x = [⟨c.street, x⟩]) : zAZ p g = zAZ p (mv p c) := zH8 fun k hk => by
 rw [h k hk]
 by_cases e : k.street = c.street
 ·by_cases hm : k.plate ∈ done
  ·rw [if_pos ⟨e, hm⟩]
  ·rw [if_neg (fun x => hm x.2)]
   have hr := (mem_houses.1 hk).2.2
   rw [e] at hr
   rw [mv, if_pos e, hd _ hr hm]; cases k; simp_all
 ·rw [if_neg (fun x => e x.1), mv, if_neg e]
theorem zFJ {n : Int} (h0 : -9223372036854775808 ≤ n) (h1 : n ≤ 9223372036854775807) : (Lit.int .i64 n).wf = true := by
 simp [Lit.wf, IntKind.min, IntKind.max, IntKind.signed, IntKind.bits]; omega
theorem Valid.wf {p : Plan} (v : Valid p) : ∀ h, h ∈ zAJ p → h.Wf := fun h hh => by
 obtain ⟨h0, h1, h2⟩ := mem_houses.1 hh
 have := (zA6 _).1 ((v.row h.street).ok _ h2)
 have := v.len
 exact ⟨zFJ (by omega) (by omega), zFJ (by omega) (by omega), zFJ (by omega) (by omega)⟩
theorem Valid.nodup {p : Plan} (v : Valid p) : (zAJ p).Nodup := (zEL v).nodup
theorem Valid.count {p : Plan} (v : Valid p) : (zAJ p).length ≤ 24 := by
 have key : ∀ n, n ≤ p.length → ((List.range n).flatMap fun s => (p.getD s default).map fun x => (⟨(s : Nat), x⟩ : House)).length ≤ n * 8 := by
  intro n
  induction n with
  | zero => intro _; simp
  | succ n ih =>
   intro hn
   have := (v.rows _ (zAT (l := p) (i := n) (by omega))).len
   have := ih (by omega)
   rw [List.range_succ, List.flatMap_append]
   simp only [List.length_append, List.flatMap_cons, List.flatMap_nil, List.append_nil, List.length_map]
   omega
 rw [zCo]
 have := key p.length (Nat.le_refl _)
 have := v.len
 omega
end Go.Abs

namespace Go.Abs
open Go Go.Proofs
@[go_sem] theorem zPj (p : Plan) (s : Int) : List.getD p s.toNat default = zAL p s := rfl
theorem zAl {P : Program} {f : FuncId} {avs : List AV} {H : Nat → AObj} {nx : Nat} {K : Cont} {r : AV} {out : List AObj} (sp : Spec P f avs [] r out) (h : XpL H [] [] avs avs) (hu : ∀ j, j < out.length → H (nx + j) = .unb) (h7 : ∀ A, A ∈ out → A ≠ .unb)
  (hk : K (r.ren (zAq [] nx)) (zDB [] nx out) (zAr [] nx out)) : zAN P f avs H nx K :=
 zAR [] [] sp (by simp) h trivial (by simp) (.inl rfl) (fun j hj => hu j (by simpa using hj)) h7 (by simpa using hk)
attribute [go_sem] Nat.mul_one List.length_set
@[go_sem] theorem zNh (n : Nat) : ((n : Int) < 2) = (n < 2) := by simp; omega
@[go_sem] theorem zPQ : ((0 : Nat) : Int) = 0 := rfl
@[go_sem] theorem zPR : ((1 : Nat) : Int) = 1 := rfl
@[go_sem] theorem zPS : ((2 : Nat) : Int) = 2 := rfl
@[go_sem] theorem zPT : ((3 : Nat) : Int) = 3 := rfl
@[go_sem] theorem zPU : ((4 : Nat) : Int) = 4 := rfl
@[go_sem] theorem zPV : ((5 : Nat) : Int) = 5 := rfl
@[go_sem] theorem zPW : ((6 : Nat) : Int) = 6 := rfl
@[go_sem] theorem zPX : ((7 : Nat) : Int) = 7 := rfl
@[go_sem] theorem zPY : ((8 : Nat) : Int) = 8 := rfl
@[go_sem] theorem zNI {α β : Type} (f : α → β) (l : List α) : (l.map f).take l.length = l.map f := List.take_of_length_le (by simp)
theorem zEp {H : Nat → AObj} {m : List (Option Nat)} {ex : List Nat} {α : Type} {f : α → AV} (hf : ∀ x, XpF H m ex (f x) (f x)) : ∀ l : List α, XpL H m ex (l.map f) (l.map f)
 | [] => by simp [zKc]
 | x :: r => by simp only [List.map_cons, zGm]; exact ⟨hf x, zEp hf r⟩
@[go_sem] theorem zNM (H : Nat → AObj) (m : List (Option Nat)) (ex : List Nat) (l : List (List Plate)) : XpL H m ex (l.map zAM) (l.map zAM) ↔ True := ⟨fun _ => trivial, fun _ => zEp (fun x => by simp only [XpF]) l⟩
@[go_sem] theorem zPC (H : Nat → AObj) (n : Nat) (f : Fn) (a b : Array Value) : frzV H (n + 1) (.raw (.func f a b)) = (.raw (.func f a b), []) := rfl
def NoP (_ : Nat) : Prop := True
def updG (p : Plan) (c : Change) (g : House → List House) (x : Plate) : House → List House := fun k => if k = ⟨c.street, x⟩ then mv p c ⟨c.street, x⟩ else g k
theorem Upd.one {p : Plan} {c : Change} {g : House → List House} {done : List Plate} (h : Upd p c g done) (x : Plate) : Upd p c (updG p c g x) (done ++ [x]) := h.step x
theorem zPP (p : Plan) (c : Change) (x : Plate) : mv p c ⟨c.street, x⟩ = toP p c x := by simp [mv]
theorem zJV {p : Plan} {c : Change} (hs0 : 0 ≤ c.street) (hs1 : c.street < p.length) {x : Plate} (hx : x ∈ zAL p c.street) : (⟨c.street, x⟩ : House) ∈ zAJ p := mem_houses.2 ⟨hs0, hs1, hx⟩
theorem zFy {p : Plan} {c : Change} {g : House → List House} {x : Plate} {o q n : Nat} {H : Nat → AObj} {K : Cont} (hl : List House) (v : Valid p) (hs0 : 0 ≤ c.street) (hs1 : c.street < p.length) (hx : x ∈ zAL p c.street)
  (ho : H o = .mapo (zAv p) (zAZ p g)) (hq : H q = .row 3 (hl.map House.enc)) (hn : n = hl.length) (hoq : (q == o) = false) (e : toP p c x = hl)
  (hk : K (.tup []) [o, q] [(q, .dead), (o, .mapo (zAv p) (zAZ p (updG p c g x)))]) : zAt Tryz.prog 121 (.mp o) (.agg [iV c.street, iV x.number, iV x.letter]) (.own q 3 0 n) H K := by
 have hf := zJy hq rfl hn
 refine zIX (h := ⟨c.street, x⟩) (hs := zAJ p) (F := MapV g) ho v.wf v.nodup (zJV hs0 hs1 hx) (by rw [hf]; exact .list _) (by rw [hf]; simpa using fun e => by simp [e] at hoq) ?_
 rw [hf]
 have : (zAJ p).map (fun k => if k = ⟨c.street, x⟩ then AV.list (hl.map House.enc) else MapV g k) = zAZ p (updG p c g x) := by
  refine List.map_congr_left (fun k _ => ?_)
  unfold MapV updG
  rw [zPP, e]
  split <;> rfl
 rw [this]
 exact hk
theorem zKU {p : Plan} {c : Change} {g : House → List House} {x : Plate} {o : Nat} {H : Nat → AObj} {K : Cont} (v : Valid p) (hs0 : 0 ≤ c.street) (hs1 : c.street < p.length) (hx : x ∈ zAL p c.street)
  (ho : H o = .mapo (zAv p) (zAZ p g)) (e : toP p c x = [])
  (hk : K (.tup []) [o] [(o, .mapo (zAv p) (zAZ p (updG p c g x)))]) : zAt Tryz.prog 121 (.mp o) (.agg [iV c.street, iV x.number, iV x.letter]) nilV H K := by
 have hf : frzV H 3 nilV = (.list [], []) := rfl
 refine zIX (h := ⟨c.street, x⟩) (hs := zAJ p) (F := MapV g) ho v.wf v.nodup (zJV hs0 hs1 hx) (by rw [hf]; exact .list _) (by rw [hf]; rfl) ?_
 rw [hf]
 have : (zAJ p).map (fun k => if k = ⟨c.street, x⟩ then AV.list [] else MapV g k) = zAZ p (updG p c g x) := by
  refine List.map_congr_left (fun k _ => ?_)
  unfold MapV updG
  rw [zPP, e]
  split <;> rfl
 rw [this]
 exact hk
@[reducible] def cBox (c : Change) : AObj := .box [iV c.kind, iV c.street, iV c.other, iV c.src.number, iV c.src.letter, iV c.dst.number, iV c.dst.letter]
@[reducible] def pBox (p : Plan) : AObj := .box [.list (p.map zAM)]
attribute [go_sem] cBox pBox zAv zAZ
structure Pre (p : Plan) (c : Change) : Prop where
 kind : 1 ≤ c.kind ∧ c.kind ≤ 7
 street : 0 ≤ c.street ∧ c.street < p.length
 other : c.kind = 4 ∨ c.kind = 7 → 0 ≤ c.other ∧ c.other < p.length ∧ c.other ≠ c.street
theorem Pre.fit {p : Plan} {c : Change} (h : Pre p c) (hf : zAe p c = 0) : Fit p c := ⟨h.kind, h.street, h.other, hf⟩
def outM (p : Plan) (c : Change) : AObj := if zAe p c = 0 then .mapo (zAv p) (zAZ p (mv p c)) else .dead
end Go.Abs

namespace Go.Abs
open Go
@[go_sem] theorem zNB (m n : Nat) : ((m : Int) = (n : Int)) = (m = n) := by simp only [eq_iff_iff]; omega
@[go_sem] theorem zI3 (m n : Nat) : ((m : Int) == (n : Int)) = decide (m = n) := by rw [Bool.eq_iff_iff]; simp only [beq_iff_eq, decide_eq_true_eq]; omega
@[go_sem] theorem zNd (m n : Nat) : ((m : Int) != (n : Int)) = !decide (m = n) := by simp [bne, zI3]
@[go_sem] theorem zOH : zeroPlate.number = 0 := rfl
@[go_sem] theorem zOG : zeroPlate.letter = 0 := rfl
end Go.Abs

namespace Go.Abs
open Go Go.Proofs
attribute [local irreducible] zAC Hold zAN
theorem zLy (p : Plan) (h1 : p.length ≤ 4294967296) : Spec Tryz.prog 28 [zAO p] [] (iV (check p)) [] := by
  have e0 : p.length = 0 → check p = 7 := fun h => by unfold check; rw [if_pos h]
  have e1 : ¬ p.length = 0 → 3 < p.length → check p = 6 := fun h h' => by unfold check; rw [if_neg h, if_pos h']
  have e2 : ¬ p.length = 0 → ¬ 3 < p.length → check p = zAo p := fun h h' => by unfold check; rw [if_neg h, if_neg h']
  refine zAF Tryz.func28 rfl (fun E hE => ?_); simp only [go_sem, Tryz.ntmps28]
  repeat' (first | (show zAC ..; first | (refine Qr rfl ?_; try intro K' hK; try simp only [go_sem, *]) | (refine Qi rfl rfl rfl rfl (fun hb K' hK => ?_) (fun hb => ?_) <;> (have hc := hb; try simp only [go_sem] at hc; simp only [go_sem, *]))) | (show Hold ..; first | refine Qh rfl ?_ | refine zAG rfl Tryz.mixed (by kernel_rfl) ?_ | (refine zAD rfl ⟨_, rfl, fun hb => ?_, fun hb => ?_⟩ <;> (have hc := hb; try simp only [go_sem] at hc)) | refine zAI rfl ?_) | (refine Qb ?_ ?_; focus kernel_rfl) | ((with_reducible refine And.intro ?_ ?_); focus omega) | (refine zAB hK ?_; clear hK K'; simp only [go_sem, *]) | (simp only [zAH, zAA, go_sem, *]))
  · (refine ⟨[_], [], [], ⟨rfl, trivial⟩, ?_⟩; simp only [go_sem, *])
    rw [e0 (by omega)]
  · (refine ⟨[_], [], [], ⟨rfl, trivial⟩, ?_⟩; simp only [go_sem, *])
    rw [e1 (by omega) (by omega)]
  · have e3 := e2 (by omega) (by omega)
    clear e0 e1 e2
    refine zAQ rfl (fun zn zN zenv zAs => ∃ (i : Nat), zn = (p.length) - i ∧ i ≤ (p.length) ∧ (zAo (p.drop i) = zAo p) ∧ zN = 56 ∧ zenv = [(3, iV i), (1, .ptr 0 0)] ∧ zAs = [.box [.list (p.map zAM)]]) (p.length) ⟨[some 0], [], _, _, _, (by (simp only [Weak, go_sem, List.map_append, List.map_set, *] <;> (try simp (disch := omega) only [zAE]) <;> (try simp) <;> (try omega))), 0, (by simp), (by simp), (by simp), rfl, rfl, rfl⟩ ?_; rintro _ _ _ _ ⟨i, rfl, hi, hP, rfl, rfl, rfl⟩
    repeat' (first | (show zAC ..; first | (refine Qr rfl ?_; try intro K' hK; try simp only [go_sem, *]) | (refine Qi rfl rfl rfl rfl (fun hb K' hK => ?_) (fun hb => ?_) <;> (have hc := hb; try simp only [go_sem] at hc; simp only [go_sem, *]))) | (show Hold ..; first | refine Qh rfl ?_ | refine zAG rfl Tryz.mixed (by kernel_rfl) ?_ | (refine zAD rfl ⟨_, rfl, fun hb => ?_, fun hb => ?_⟩ <;> (have hc := hb; try simp only [go_sem] at hc)) | refine zAI rfl ?_) | (refine Qb ?_ ?_; focus kernel_rfl) | ((with_reducible refine And.intro ?_ ?_); focus omega) | (refine zAB hK ?_; clear hK K'; simp only [go_sem, *]) | (simp only [zAH, zAA, go_sem, *]))
    · (refine ⟨[_], [], [], ⟨rfl, trivial⟩, ?_⟩; simp only [go_sem, *])
      rw [← hP, zEI (by omega), if_pos (by omega)]
    · have hl : (p.getD i default).length ≤ 8 := by omega
      have hi' : i < p.length := by omega
      rw [zEI hi', if_neg (by omega)] at hP
      generalize hll : p.getD i default = l at *
      refine zAQ rfl (fun zn zN zenv zAs => ∃ (k : Nat), zn = (l.length) - k ∧ k ≤ (l.length) ∧ (zAj (zGD l k) (l.drop k) = zAj none l) ∧ zN = 56 ∧ zenv = [(5, iV k), (4, zAM l), (3, iV i), (1, .ptr 0 0)] ∧ zAs = [.box [.list (p.map zAM)]]) (l.length) ⟨[some 0], [], _, _, _, (by (simp only [Weak, go_sem, List.map_append, List.map_set, *] <;> (try simp (disch := omega) only [zAE]) <;> (try simp) <;> (try omega))), 0, (by simp), (by simp), (by simp [zGD]), rfl, rfl, rfl⟩ ?_; rintro _ _ _ _ ⟨k, rfl, hk, hK, rfl, rfl, rfl⟩
      have hw : 0 < k → IntKind.i64.wrap ((k : Int) - 1) = ((k - 1 : Nat) : Int) := fun h => by rw [wrap_i64 (by omega) (by omega)]; omega
      have hk1 : k < l.length → k - 1 < l.length := fun h => by omega
      have hstep : ∀ h : k < l.length, _ := fun h => zDz h (zGD l k) rfl
      repeat' (first | (show zAC ..; first | (refine Qr rfl ?_; try intro K' hK; try simp only [go_sem, *]) | (refine Qi rfl rfl rfl rfl (fun hb K' hK => ?_) (fun hb => ?_) <;> (have hc := hb; try simp only [go_sem] at hc; simp only [go_sem, *]))) | (show Hold ..; first | refine Qh rfl ?_ | refine zAG rfl Tryz.mixed (by kernel_rfl) ?_ | (refine zAD rfl ⟨_, rfl, fun hb => ?_, fun hb => ?_⟩ <;> (have hc := hb; try simp only [go_sem] at hc)) | refine zAI rfl ?_) | (refine Qb ?_ ?_; focus kernel_rfl) | (show zAN ..; first | ((first | refine zAK (zLh _) ?_ ?_ | refine zAK (zDG _ _) ?_ ?_); (focus (simp only [go_sem, *]; done)); simp only [go_sem, *])) | ((with_reducible refine And.intro ?_ ?_); focus omega) | (refine zAB hK ?_; clear hK K'; simp only [go_sem, *]) | (simp only [zAH, zAA, go_sem, *]))
      · (refine ⟨[_], [], [], ⟨rfl, trivial⟩, ?_⟩; simp only [go_sem, *])
        rw [hstep (by omega), if_neg (by simp_all)] at hK
        rw [← hK, if_neg (by omega)] at hP
        rw [← hP]
      · (refine ⟨[_], [], [], ⟨rfl, trivial⟩, ?_⟩; simp only [go_sem, *])
        rw [hstep (by omega), if_pos (by assumption), if_neg (by intro h; rcases h with h | h; · omega
                                                                 · simp_all)] at hK
        rw [← hK, if_neg (by omega)] at hP
        rw [← hP]
      · refine ⟨_, (by omega), [some 0], [], _, _, _, (by (simp only [Weak, go_sem, List.map_append, List.map_set, *] <;> (try simp (disch := omega) only [zAE]) <;> (try simp) <;> (try omega))), k + 1, rfl, (by omega), (by rw [← hK, hstep (by omega), if_pos (by assumption), if_pos (.inr (by assumption)), zDX]), rfl, rfl, rfl⟩
      · refine ⟨_, (by omega), [some 0], [], _, _, _, (by (simp only [Weak, go_sem, List.map_append, List.map_set, *] <;> (try simp (disch := omega) only [zAE]) <;> (try simp) <;> (try omega))), k + 1, rfl, (by omega), (by rw [← hK, hstep (by omega), if_pos (by assumption), if_pos (.inl (by omega)), zDX]), rfl, rfl, rfl⟩
      · rw [zAX (by omega)] at hK
        have h0 : zAj none l = 0 := by rw [← hK]; cases zGD l k <;> rfl
        rw [if_pos h0] at hP
        refine ⟨_, (by omega), [some 0], [], _, _, _, (by (simp only [Weak, go_sem, List.map_append, List.map_set, *] <;> (try simp (disch := omega) only [zAE]) <;> (try simp) <;> (try omega))), i + 1, rfl, (by omega), (by exact hP), rfl, rfl, rfl⟩
    · (refine ⟨[_], [], [], ⟨rfl, trivial⟩, ?_⟩; simp only [go_sem, *])
      rw [← hP, zAX (by omega), zAo]
end Go.Abs

namespace Go.Abs
open Go Go.Proofs
attribute [local irreducible] zAC Hold zAN
theorem zDl {p : Plan} {i : Nat} (h : i < p.length) : zAf i (p.drop i) = (p.getD i default).map (fun x => (⟨(i : Nat), x⟩ : House)) ++ zAf (i + 1) (p.drop (i + 1)) := by
 rw [zAS h, zAf]
theorem zHB {l : List Plate} {k : Nat} (h : k < l.length) (i : Int) : (l.drop k).map (fun x => (⟨i, x⟩ : House)) = ⟨i, l.getD k default⟩ :: (l.drop (k + 1)).map (fun x => (⟨i, x⟩ : House)) := by
 rw [zAS h, List.map_cons]
theorem zNy (p : Plan) (h1 : p.length ≤ 4294967296) (h2 : ∀ l, l ∈ p → l.length ≤ 4294967296) (h3 : (zAJ p).length ≤ 4294967296) : Spec Tryz.prog 34 [zAO p] [] (.own 0 3 0 (zAJ p).length) [.row 3 ((zAJ p).map House.enc)] := by
 refine zAF Tryz.func34 rfl (fun E hE => ?_); simp only [go_sem, Tryz.ntmps34]
 repeat' (first | (show zAC ..; first | (refine Qr rfl ?_; try intro K' hK; try simp only [go_sem, *])) | (show Hold ..; first | refine Qh rfl ?_ | (refine zAD rfl ⟨_, rfl, fun hb => ?_, fun hb => ?_⟩ <;> (have hc := hb; try simp only [go_sem] at hc)) | refine zAI rfl ?_) | ((with_reducible refine And.intro ?_ ?_); focus omega) | (refine zAB hK ?_; clear hK K'; simp only [go_sem, *]) | (simp only [zAH, zAA, go_sem, *]))
 refine zAQ rfl (fun zn zN zenv zAs => ∃ (i : Nat) (acc : List House), zn = (p.length) - i ∧ i ≤ (p.length) ∧ (acc ++ zAf i (p.drop i) = zAJ p) ∧ zN = 37 ∧ zenv = [(4, iV i), (3, .own 1 3 0 acc.length), (1, .ptr 0 0)] ∧ zAs = [.box [AV.list (p.map zAM)], .row 3 (acc.map House.enc)]) (p.length) ⟨[some 0, none], [], _, _, _, (by (simp only [Weak, go_sem, List.map_append, List.map_set, *] <;> (try simp (disch := omega) only [zAE]) <;> (try simp) <;> (try omega))), 0, [], (by simp), (by simp), (by simp [zAJ]), rfl, rfl, rfl⟩ ?_; rintro _ _ _ _ ⟨i, acc, rfl, hi, hP, rfl, rfl, rfl⟩
 repeat' (first | (show zAC ..; first | (refine Qr rfl ?_; try intro K' hK; try simp only [go_sem, *])) | (show Hold ..; first | refine Qh rfl ?_ | (refine zAD rfl ⟨_, rfl, fun hb => ?_, fun hb => ?_⟩ <;> (have hc := hb; try simp only [go_sem] at hc)) | refine zAI rfl ?_) | ((with_reducible refine And.intro ?_ ?_); focus omega) | (refine zAB hK ?_; clear hK K'; simp only [go_sem, *]) | (simp only [zAH, zAA, go_sem, *]))
 ·have hl := h2 _ (zAT ‹_›)
  rw [zDl ‹_›] at hP
  generalize hll : p.getD i default = l at *
  refine zAQ rfl (fun zn zN zenv zAs => ∃ (k : Nat) (acc : List House), zn = (l.length) - k ∧ k ≤ (l.length) ∧ (acc ++ ((l.drop k).map (fun x => (⟨(i : Nat), x⟩ : House)) ++ zAf (i + 1) (p.drop (i + 1))) = zAJ p) ∧ zN = 37 ∧ zenv = [(5, iV k), (4, iV i), (3, .own 1 3 0 acc.length), (1, .ptr 0 0)] ∧ zAs = [.box [AV.list (p.map zAM)], .row 3 (acc.map House.enc)]) (l.length) ⟨[some 0, some 1], [], _, _, _, (by (simp only [Weak, go_sem, List.map_append, List.map_set, *] <;> (try simp (disch := omega) only [zAE]) <;> (try simp) <;> (try omega))), 0, acc, (by simp), (by simp), (by simpa using hP), rfl, rfl, rfl⟩ ?_; rintro _ _ _ _ ⟨k, acc, rfl, hk, hK, rfl, rfl, rfl⟩
  have hlen := congrArg List.length hK
  simp only [List.length_append, List.length_map, List.length_drop] at hlen
  repeat' (first | (show zAC ..; first | (refine Qr rfl ?_; try intro K' hK; try simp only [go_sem, *])) | (show Hold ..; first | refine Qh rfl ?_ | (refine zAD rfl ⟨_, rfl, fun hb => ?_, fun hb => ?_⟩ <;> (have hc := hb; try simp only [go_sem] at hc)) | refine zAI rfl ?_) | ((with_reducible refine And.intro ?_ ?_); focus omega) | (refine zAB hK ?_; clear hK K'; simp only [go_sem, *]) | (simp only [zAH, zAA, go_sem, *]))
  ·refine ⟨_, (by omega), [some 0, some 3], [], _, _, _, (by (simp only [Weak, go_sem, List.map_append, List.map_set, *] <;> (try simp (disch := omega) only [zAE]) <;> (try simp) <;> (try omega))), k + 1, acc ++ [⟨(i : Nat), l.getD k default⟩], rfl, (by omega), (by rw [← hK, zHB (k := k) (by assumption)]; simp), rfl, rfl, rfl⟩
  ·rw [zAX (by omega)] at hK
   refine ⟨_, (by omega), [some 0, some 1], [], _, _, _, (by (simp only [Weak, go_sem, List.map_append, List.map_set, *] <;> (try simp (disch := omega) only [zAE]) <;> (try simp) <;> (try omega))), i + 1, acc, rfl, (by omega), (by simpa using hK), rfl, rfl, rfl⟩
 ·refine ⟨[_], [some 1], [], ⟨rfl, trivial⟩, ?_⟩
  rw [zAX (by omega), zAf, List.append_nil] at hP
  simp only [go_sem, hP, *]
theorem zKQ (p : Plan) (h1 : p.length ≤ 4294967296) (h2 : ∀ l, l ∈ p → l.length ≤ 4294967296) (h3 : (zAJ p).length ≤ 4294967296) : Spec Tryz.prog 116 [zAO p] [] (.own 0 3 0 (zAJ p).length) [.row 3 ((zAJ p).map House.enc)] := by
 refine zAF Tryz.func116 rfl (fun E hE => ?_); simp only [go_sem, Tryz.ntmps116]
 repeat' (first | (show zAC ..; first | (refine Qr rfl ?_; try intro K' hK; try simp only [go_sem, *])) | (show Hold ..; first | refine Qh rfl ?_ | (refine zAD rfl ⟨_, rfl, fun hb => ?_, fun hb => ?_⟩ <;> (have hc := hb; try simp only [go_sem] at hc)) | refine zAI rfl ?_) | ((with_reducible refine And.intro ?_ ?_); focus omega) | (refine zAB hK ?_; clear hK K'; simp only [go_sem, *]) | (simp only [zAH, zAA, go_sem, *]))
 refine zAQ rfl (fun zn zN zenv zAs => ∃ (i : Nat) (acc : List House), zn = (p.length) - i ∧ i ≤ (p.length) ∧ (acc ++ zAf i (p.drop i) = zAJ p) ∧ zN = 37 ∧ zenv = [(4, iV i), (3, .own 1 3 0 acc.length), (1, .ptr 0 0)] ∧ zAs = [.box [AV.list (p.map zAM)], .row 3 (acc.map House.enc)]) (p.length) ⟨[some 0, none], [], _, _, _, (by (simp only [Weak, go_sem, List.map_append, List.map_set, *] <;> (try simp (disch := omega) only [zAE]) <;> (try simp) <;> (try omega))), 0, [], (by simp), (by simp), (by simp [zAJ]), rfl, rfl, rfl⟩ ?_; rintro _ _ _ _ ⟨i, acc, rfl, hi, hP, rfl, rfl, rfl⟩
 repeat' (first | (show zAC ..; first | (refine Qr rfl ?_; try intro K' hK; try simp only [go_sem, *])) | (show Hold ..; first | refine Qh rfl ?_ | (refine zAD rfl ⟨_, rfl, fun hb => ?_, fun hb => ?_⟩ <;> (have hc := hb; try simp only [go_sem] at hc)) | refine zAI rfl ?_) | ((with_reducible refine And.intro ?_ ?_); focus omega) | (refine zAB hK ?_; clear hK K'; simp only [go_sem, *]) | (simp only [zAH, zAA, go_sem, *]))
 ·have hl := h2 _ (zAT ‹_›)
  rw [zDl ‹_›] at hP
  generalize hll : p.getD i default = l at *
  refine zAQ rfl (fun zn zN zenv zAs => ∃ (k : Nat) (acc : List House), zn = (l.length) - k ∧ k ≤ (l.length) ∧ (acc ++ ((l.drop k).map (fun x => (⟨(i : Nat), x⟩ : House)) ++ zAf (i + 1) (p.drop (i + 1))) = zAJ p) ∧ zN = 37 ∧ zenv = [(5, iV k), (4, iV i), (3, .own 1 3 0 acc.length), (1, .ptr 0 0)] ∧ zAs = [.box [AV.list (p.map zAM)], .row 3 (acc.map House.enc)]) (l.length) ⟨[some 0, some 1], [], _, _, _, (by (simp only [Weak, go_sem, List.map_append, List.map_set, *] <;> (try simp (disch := omega) only [zAE]) <;> (try simp) <;> (try omega))), 0, acc, (by simp), (by simp), (by simpa using hP), rfl, rfl, rfl⟩ ?_; rintro _ _ _ _ ⟨k, acc, rfl, hk, hK, rfl, rfl, rfl⟩
  have hlen := congrArg List.length hK
  simp only [List.length_append, List.length_map, List.length_drop] at hlen
  repeat' (first | (show zAC ..; first | (refine Qr rfl ?_; try intro K' hK; try simp only [go_sem, *])) | (show Hold ..; first | refine Qh rfl ?_ | (refine zAD rfl ⟨_, rfl, fun hb => ?_, fun hb => ?_⟩ <;> (have hc := hb; try simp only [go_sem] at hc)) | refine zAI rfl ?_) | ((with_reducible refine And.intro ?_ ?_); focus omega) | (refine zAB hK ?_; clear hK K'; simp only [go_sem, *]) | (simp only [zAH, zAA, go_sem, *]))
  ·refine ⟨_, (by omega), [some 0, some 3], [], _, _, _, (by (simp only [Weak, go_sem, List.map_append, List.map_set, *] <;> (try simp (disch := omega) only [zAE]) <;> (try simp) <;> (try omega))), k + 1, acc ++ [⟨(i : Nat), l.getD k default⟩], rfl, (by omega), (by rw [← hK, zHB (k := k) (by assumption)]; simp), rfl, rfl, rfl⟩
  ·rw [zAX (by omega)] at hK
   refine ⟨_, (by omega), [some 0, some 1], [], _, _, _, (by (simp only [Weak, go_sem, List.map_append, List.map_set, *] <;> (try simp (disch := omega) only [zAE]) <;> (try simp) <;> (try omega))), i + 1, acc, rfl, (by omega), (by simpa using hK), rfl, rfl, rfl⟩
 ·refine ⟨[_], [some 1], [], ⟨rfl, trivial⟩, ?_⟩
  rw [zAX (by omega), zAf, List.append_nil] at hP
  simp only [go_sem, hP, *]
theorem zLs (p : Plan) (h1 : p.length ≤ 4294967296) (h2 : ∀ l, l ∈ p → l.length ≤ 4294967296) (h3 : (zAJ p).length ≤ 4294967296) : Spec Tryz.prog 160 [zAO p] [] (.own 0 3 0 (zAJ p).length) [.row 3 ((zAJ p).map House.enc)] := by
 refine zAF Tryz.func160 rfl (fun E hE => ?_); simp only [go_sem, Tryz.ntmps160]
 repeat' (first | (show zAC ..; first | (refine Qr rfl ?_; try intro K' hK; try simp only [go_sem, *])) | (show Hold ..; first | refine Qh rfl ?_ | (refine zAD rfl ⟨_, rfl, fun hb => ?_, fun hb => ?_⟩ <;> (have hc := hb; try simp only [go_sem] at hc)) | refine zAI rfl ?_) | ((with_reducible refine And.intro ?_ ?_); focus omega) | (refine zAB hK ?_; clear hK K'; simp only [go_sem, *]) | (simp only [zAH, zAA, go_sem, *]))
 refine zAQ rfl (fun zn zN zenv zAs => ∃ (i : Nat) (acc : List House), zn = (p.length) - i ∧ i ≤ (p.length) ∧ (acc ++ zAf i (p.drop i) = zAJ p) ∧ zN = 31 ∧ zenv = [(11, iV i), (10, iV p.length), (9, .list (p.map zAM)), (3, .own 0 3 0 acc.length)] ∧ zAs = [.row 3 (acc.map House.enc)]) (p.length) ⟨[none], [], _, _, _, (by (simp only [Weak, go_sem, List.map_append, List.map_set, *] <;> (try simp (disch := omega) only [zAE]) <;> (try simp) <;> (try omega))), 0, [], (by simp), (by simp), (by simp [zAJ]), rfl, rfl, rfl⟩ ?_; rintro _ _ _ _ ⟨i, acc, rfl, hi, hP, rfl, rfl, rfl⟩
 repeat' (first | (show zAC ..; first | (refine Qr rfl ?_; try intro K' hK; try simp only [go_sem, *])) | (show Hold ..; first | refine Qh rfl ?_ | (refine zAD rfl ⟨_, rfl, fun hb => ?_, fun hb => ?_⟩ <;> (have hc := hb; try simp only [go_sem] at hc)) | refine zAI rfl ?_) | ((with_reducible refine And.intro ?_ ?_); focus omega) | (refine zAB hK ?_; clear hK K'; simp only [go_sem, *]) | (simp only [zAH, zAA, go_sem, *]))
 ·have hl := h2 _ (zAT ‹_›)
  rw [zDl ‹_›] at hP
  generalize hll : p.getD i default = l at *
  refine zAQ rfl (fun zn zN zenv zAs => ∃ (k : Nat) (acc : List House), zn = (l.length) - k ∧ k ≤ (l.length) ∧ (acc ++ ((l.drop k).map (fun x => (⟨(i : Nat), x⟩ : House)) ++ zAf (i + 1) (p.drop (i + 1))) = zAJ p) ∧ zN = 31 ∧ zenv = [(18, iV k), (17, iV l.length), (16, zAM l), (4, iV i), (11, iV i), (10, iV p.length), (9, .list (p.map zAM)), (3, .own 0 3 0 acc.length)] ∧ zAs = [.row 3 (acc.map House.enc)]) (l.length) ⟨[some 0], [], _, _, _, (by (simp only [Weak, go_sem, List.map_append, List.map_set, *] <;> (try simp (disch := omega) only [zAE]) <;> (try simp) <;> (try omega))), 0, acc, (by simp), (by simp), (by simpa using hP), rfl, rfl, rfl⟩ ?_; rintro _ _ _ _ ⟨k, acc, rfl, hk, hK, rfl, rfl, rfl⟩
  have hlen := congrArg List.length hK
  simp only [List.length_append, List.length_map, List.length_drop] at hlen
  repeat' (first | (show zAC ..; first | (refine Qr rfl ?_; try intro K' hK; try simp only [go_sem, *])) | (show Hold ..; first | refine Qh rfl ?_ | (refine zAD rfl ⟨_, rfl, fun hb => ?_, fun hb => ?_⟩ <;> (have hc := hb; try simp only [go_sem] at hc)) | refine zAI rfl ?_) | ((with_reducible refine And.intro ?_ ?_); focus omega) | (refine zAB hK ?_; clear hK K'; simp only [go_sem, *]) | (simp only [zAH, zAA, go_sem, *]))
  ·refine ⟨_, (by omega), [some 3], [], _, _, _, (by (simp only [Weak, go_sem, List.map_append, List.map_set, *] <;> (try simp (disch := omega) only [zAE]) <;> (try simp) <;> (try omega))), k + 1, acc ++ [⟨(i : Nat), l.getD k default⟩], rfl, (by omega), (by rw [← hK, zHB (k := k) (by assumption)]; simp), rfl, rfl, rfl⟩
  ·rw [zAX (by omega)] at hK
   refine ⟨_, (by omega), [some 0], [], _, _, _, (by (simp only [Weak, go_sem, List.map_append, List.map_set, *] <;> (try simp (disch := omega) only [zAE]) <;> (try simp) <;> (try omega))), i + 1, acc, rfl, (by omega), (by simpa using hK), rfl, rfl, rfl⟩
 ·refine ⟨[_], [some 0], [], ⟨rfl, trivial⟩, ?_⟩
  rw [zAX (by omega), zAf, List.append_nil] at hP
  simp only [go_sem, hP, *]
end Go.Abs

namespace Go.Abs
open Go Go.Proofs
attribute [local irreducible] zAC Hold zAN
theorem zGj {l : List Plate} {i : Nat} {x : Plate} (h : i < l.length) (hn : x ∉ l.take i) (hx : ¬ l.getD i default = x) : x ∉ l.take (i + 1) := by
 rw [List.take_add_one]
 simp only [List.getD_eq_getElem?_getD, List.getElem?_eq_getElem h, Option.getD_some] at hx
 simp only [List.getElem?_eq_getElem h, Option.toList_some, List.mem_append, List.mem_singleton, not_or]
 exact ⟨hn, fun e => hx e.symm⟩
theorem zHp {l : List Plate} {i : Nat} {x : Plate} (h : i < l.length) (hn : x ∉ l.take i) (hx : l.getD i default = x) : idxP l x = i := by
 have hg : l.drop i = x :: l.drop (i + 1) := by rw [zAS h, hx]
 have hl : l = l.take i ++ x :: l.drop (i + 1) := by rw [← hg, List.take_append_drop]
 have hm : x ∈ l := by rw [hl]; simp
 rw [zBI hm]
 conv => lhs; rw [hl]
 rw [List.idxOf_append, if_neg hn]
 simp; omega
theorem zDU {l : List Plate} {x : Plate} (hn : x ∉ l) : idxP l x = -1 := by simp [idxP, hn]
theorem zBK (l : List Plate) (x : Plate) (h1 : l.length ≤ 4294967296) : Spec Tryz.prog 157 [zAM l, x.enc] [] (iV (idxP l x)) [] := by
 refine zAF Tryz.func157 rfl (fun E hE => ?_); simp only [go_sem, Tryz.ntmps157]
 repeat' (first | (show zAC ..; first | (refine Qr rfl ?_; try intro K' hK; try simp only [go_sem, *])) | (show Hold ..; first | refine Qh rfl ?_ | refine zAG rfl Tryz.mixed (by kernel_rfl) ?_ | (refine zAD rfl ⟨_, rfl, fun hb => ?_, fun hb => ?_⟩ <;> (have hc := hb; try simp only [go_sem] at hc)) | refine zAI rfl ?_) | (refine Qb ?_ ?_; focus kernel_rfl) | ((with_reducible refine And.intro ?_ ?_); focus omega) | (refine zAB hK ?_; clear hK K'; simp only [go_sem, *]) | (simp only [zAH, zAA, go_sem, *]))
 refine zAQ rfl (fun zn zN zenv zAs => ∃ (i : Nat), zn = (l.length) - i ∧ i ≤ (l.length) ∧ (x ∉ l.take i) ∧ zN = 19 ∧ zenv = [(5, iV i), (3, .ptr 0 0), (0, zAM l)] ∧ zAs = [.box [iV x.number, iV x.letter]]) (l.length) ⟨[some 0], [], _, _, _, (by (simp only [Weak, go_sem, List.map_append, List.map_set, *] <;> (try simp (disch := omega) only [zAE]) <;> (try simp) <;> (try omega))), 0, (by simp), (by simp), (by simp), rfl, rfl, rfl⟩ ?_; rintro _ _ _ _ ⟨i, rfl, hi, hP, rfl, rfl, rfl⟩
 repeat' (first | (show zAC ..; first | (refine Qr rfl ?_; try intro K' hK; try simp only [go_sem, *])) | (show Hold ..; first | refine Qh rfl ?_ | refine zAG rfl Tryz.mixed (by kernel_rfl) ?_ | (refine zAD rfl ⟨_, rfl, fun hb => ?_, fun hb => ?_⟩ <;> (have hc := hb; try simp only [go_sem] at hc)) | refine zAI rfl ?_) | (refine Qb ?_ ?_; focus kernel_rfl) | ((with_reducible refine And.intro ?_ ?_); focus omega) | (refine zAB hK ?_; clear hK K'; simp only [go_sem, *]) | (simp only [zAH, zAA, go_sem, *]))
 ·(refine ⟨[_], [], [], ⟨rfl, trivial⟩, ?_⟩; simp only [go_sem, *])
  rw [zHp (by assumption) hP (by assumption)]
 ·refine ⟨_, (by omega), [some 0], [], _, _, _, (by (simp only [Weak, go_sem, List.map_append, List.map_set, *] <;> (try simp (disch := omega) only [zAE]) <;> (try simp) <;> (try omega))), i + 1, rfl, (by omega), (by exact zGj (by assumption) hP (by assumption)), rfl, rfl, rfl⟩
 ·(refine ⟨[_], [], [], ⟨rfl, trivial⟩, ?_⟩; simp only [go_sem, *])
  rw [List.take_of_length_le (by omega)] at hP
  rw [zDU hP]
def zHN (b : Bool) (y : Plate) : Bool := (y.number.tmod 2 == 1) == b
theorem zCS (l : List Plate) (b : Bool) (h1 : l.length ≤ 4294967296) : Spec Tryz.prog 166 [zAM l, bV b] [] (.own 0 2 0 (l.filter (zHN b)).length) [.row 2 ((l.filter (zHN b)).map Plate.enc)] := by
 refine zAF Tryz.func166 rfl (fun E hE => ?_); simp only [go_sem, Tryz.ntmps166]
 repeat' (first | (show zAC ..; first | (refine Qr rfl ?_; try intro K' hK; try simp only [go_sem, *])) | (show Hold ..; first | refine Qh rfl ?_ | (refine zAD rfl ⟨_, rfl, fun hb => ?_, fun hb => ?_⟩ <;> (have hc := hb; try simp only [go_sem] at hc)) | refine zAI rfl ?_) | ((with_reducible refine And.intro ?_ ?_); focus omega) | (refine zAB hK ?_; clear hK K'; simp only [go_sem, *]) | (simp only [zAH, zAA, go_sem, *]))
 refine zAQ rfl (fun zn zN zenv zAs => ∃ (i : Nat) (acc : List Plate), zn = (l.length) - i ∧ i ≤ (l.length) ∧ (acc ++ (l.drop i).filter (zHN b) = l.filter (zHN b)) ∧ zN = 30 ∧ zenv = [(6, iV i), (5, .own 0 2 0 acc.length), (0, zAM l), (1, bV b)] ∧ zAs = [.row 2 (acc.map Plate.enc)]) (l.length) ⟨[none], [], _, _, _, (by (simp only [Weak, go_sem, List.map_append, List.map_set, *] <;> (try simp (disch := omega) only [zAE]) <;> (try simp) <;> (try omega))), 0, [], (by simp), (by simp), (by simp), rfl, rfl, rfl⟩ ?_; rintro _ _ _ _ ⟨i, acc, rfl, hi, hP, rfl, rfl, rfl⟩
 have hlen := congrArg List.length hP
 have hfl := List.length_filter_le (zHN b) l
 simp only [List.length_append] at hlen
 repeat' (first | (show zAC ..; first | (refine Qr rfl ?_; try intro K' hK; try simp only [go_sem, *])) | (show Hold ..; first | refine Qh rfl ?_ | (refine zAD rfl ⟨_, rfl, fun hb => ?_, fun hb => ?_⟩ <;> (have hc := hb; try simp only [go_sem] at hc)) | refine zAI rfl ?_) | ((with_reducible refine And.intro ?_ ?_); focus omega) | (refine zAB hK ?_; clear hK K'; simp only [go_sem, *]) | (simp only [zAH, zAA, go_sem, *]))
 ·refine ⟨_, (by omega), [some 2], [], _, _, _, (by (simp only [Weak, go_sem, List.map_append, List.map_set, *] <;> (try simp (disch := omega) only [zAE]) <;> (try simp) <;> (try omega))), i + 1, acc ++ [l.getD i default], rfl, (by omega), (by rw [← hP, zAS (i := i) (by assumption), List.filter_cons, if_pos (by unfold zHN; assumption)]; simp), rfl, rfl, rfl⟩
 ·refine ⟨_, (by omega), [some 0], [], _, _, _, (by (simp only [Weak, go_sem, List.map_append, List.map_set, *] <;> (try simp (disch := omega) only [zAE]) <;> (try simp) <;> (try omega))), i + 1, acc, rfl, (by omega), (by rw [← hP, zAS (i := i) (by assumption), List.filter_cons, if_neg (by unfold zHN; rw [Bool.not_eq_true]; assumption)]), rfl, rfl, rfl⟩
 ·refine ⟨[_], [some 0], [], ⟨rfl, trivial⟩, ?_⟩
  rw [zAX (by omega), List.filter_nil, List.append_nil] at hP
  simp only [go_sem, hP, *]
theorem zH3 {l : List Plate} {n : Int} {i : Nat} (hi : i < 4) (h : ∀ j : Nat, j < i → (⟨n, (j : Int) + 1⟩ : Plate) ∈ l) (hn : (⟨n, (i : Int) + 1⟩ : Plate) ∉ l) : letter l n = i + 1 := by
 have h0 := h 0; have h1 := h 1; have h2 := h 2
 have : i = 0 ∨ i = 1 ∨ i = 2 ∨ i = 3 := by omega
 rcases this with rfl | rfl | rfl | rfl <;> simp_all [letter]
theorem zIO (l : List Plate) (n : Int) (h1 : l.length ≤ 4294967296) : Spec Tryz.prog 158 [zAM l, iV n] [] (iV (letter l n)) [] := by
 refine zAF Tryz.func158 rfl (fun E hE => ?_); simp only [go_sem, Tryz.ntmps158]
 repeat' (first | (show zAC ..; first | (refine Qr rfl ?_; try intro K' hK; try simp only [go_sem, *])) | (show Hold ..; first | refine Qh rfl ?_ | (refine zAD rfl ⟨_, rfl, fun hb => ?_, fun hb => ?_⟩ <;> (have hc := hb; try simp only [go_sem] at hc)) | refine zAI rfl ?_) | ((with_reducible refine And.intro ?_ ?_); focus omega) | (refine zAB hK ?_; clear hK K'; simp only [go_sem, *]) | (simp only [zAH, zAA, go_sem, *]))
 refine zAQ rfl (fun zn zN zenv zAs => ∃ (i : Nat), zn = (4) - i ∧ i ≤ (4) ∧ (∀ j : Nat, j < i → (⟨n, (j : Int) + 1⟩ : Plate) ∈ l) ∧ zN = 17 ∧ zenv = [(5, iV ((i : Int) + 1)), (0, zAM l), (1, iV n)] ∧ zAs = []) (4) ⟨[], [], _, _, _, (by (simp only [Weak, go_sem, List.map_append, List.map_set, *] <;> (try simp (disch := omega) only [zAE]) <;> (try simp) <;> (try omega))), 0, (by simp), (by simp), (by simp), rfl, rfl, rfl⟩ ?_; rintro _ _ _ _ ⟨i, rfl, hi, hP, rfl, rfl, rfl⟩
 have hw : i < 4 → IntKind.i64.wrap ((i : Int) + 1 + 1) = (((i + 1 : Nat) : Int) + 1) := fun h => by rw [wrap_i64 (by omega) (by omega)]; omega
 repeat' (first | (show zAC ..; first | (refine Qr rfl ?_; try intro K' hK; try simp only [go_sem, *])) | (show Hold ..; first | refine Qh rfl ?_ | (refine zAD rfl ⟨_, rfl, fun hb => ?_, fun hb => ?_⟩ <;> (have hc := hb; try simp only [go_sem] at hc)) | refine zAI rfl ?_) | (show zAN ..; first | (refine zAK (zBK l ⟨n, (i : Int) + 1⟩ h1) ?_ ?_; (focus (simp only [go_sem, *]; done)); simp only [go_sem, *])) | ((with_reducible refine And.intro ?_ ?_); focus omega) | (refine zAB hK ?_; clear hK K'; simp only [go_sem, *]) | (simp only [zAH, zAA, go_sem, *]))
 ·(refine ⟨[_], [], [], ⟨rfl, trivial⟩, ?_⟩; simp only [go_sem, *])
  rw [zH3 (by omega) hP (fun hm => by rw [zBI hm] at *; omega)]
 ·have hi4 : i < 4 := by omega
  refine ⟨_, (by omega), [], [], _, _, _, (by (simp only [Weak, go_sem, List.map_append, List.map_set, *] <;> (try simp (disch := omega) only [zAE]) <;> (try simp) <;> (try omega))), i + 1, rfl, (by omega), (fun j hj => ?_), rfl, rfl, rfl⟩
  rcases Nat.lt_succ_iff_lt_or_eq.1 hj with h | h
  ·exact hP j h
  ·subst h
   exact Decidable.byContradiction fun hm => by rw [zDU hm] at *; omega
 ·(refine ⟨[_], [], [], ⟨rfl, trivial⟩, ?_⟩; simp only [go_sem, *])
  have : i = 4 := by omega
  subst this
  have h0 := hP 0; have h1 := hP 1; have h2 := hP 2; have h3 := hP 3
  simp_all [letter]
theorem zDa {v : Int} (h : 0 ≤ v) : v.tmod 2 = v % 2 := by rw [Int.tmod_eq_emod_of_nonneg h]
theorem zLn (l : List Plate) (h1 : l.length ≤ 4294967296) (h2 : ∀ x, x ∈ l → x.ok = true) : Spec Tryz.prog 156 [zAM l] [] (iV (base l)) [] := by
 refine zAF Tryz.func156 rfl (fun E hE => ?_); simp only [go_sem, Tryz.ntmps156]
 repeat' (first | (show zAC ..; first | (refine Qr rfl ?_; try intro K' hK; try simp only [go_sem, *])) | (show Hold ..; first | refine Qh rfl ?_ | (refine zAD rfl ⟨_, rfl, fun hb => ?_, fun hb => ?_⟩ <;> (have hc := hb; try simp only [go_sem] at hc)) | refine zAI rfl ?_) | ((with_reducible refine And.intro ?_ ?_); focus omega) | (refine zAB hK ?_; clear hK K'; simp only [go_sem, *]) | (simp only [zAH, zAA, go_sem, *]))
 refine zAQ rfl (fun zn zN zenv zAs => ∃ (i : Nat) (v : Int), zn = (l.length) - i ∧ i ≤ (l.length) ∧ (0 ≤ v ∧ v ≤ 40 ∧ (l.drop i).foldl (fun n x => max n x.number) v = l.foldl (fun n x => max n x.number) 0) ∧ zN = 22 ∧ zenv = [(4, iV i), (3, iV v), (0, zAM l)] ∧ zAs = []) (l.length) ⟨[], [], _, _, _, (by (simp only [Weak, go_sem, List.map_append, List.map_set, *] <;> (try simp (disch := omega) only [zAE]) <;> (try simp) <;> (try omega))), 0, 0, (by simp), (by simp), (by simp), rfl, rfl, rfl⟩ ?_; rintro _ _ _ _ ⟨i, v, rfl, hi, hP, rfl, rfl, rfl⟩
 repeat' (first | (show zAC ..; first | (refine Qr rfl ?_; try intro K' hK; try simp only [go_sem, *])) | (show Hold ..; first | refine Qh rfl ?_ | (refine zAD rfl ⟨_, rfl, fun hb => ?_, fun hb => ?_⟩ <;> (have hc := hb; try simp only [go_sem] at hc)) | refine zAI rfl ?_) | ((with_reducible refine And.intro ?_ ?_); focus omega) | (refine zAB hK ?_; clear hK K'; simp only [go_sem, *]) | (simp only [zAH, zAA, go_sem, *]))
 ·have hx := (zA6 _).1 (h2 _ (zAT (by assumption)))
  have hm : maxI v (l.getD i default).number = max v (l.getD i default).number := by unfold maxI; split <;> omega
  obtain ⟨p1, p2, p3⟩ := hP
  refine ⟨_, (by omega), [], [], _, _, _, (by (simp only [Weak, go_sem, List.map_append, List.map_set, *] <;> (try simp (disch := omega) only [zAE]) <;> (try simp) <;> (try omega))), i + 1, max v (l.getD i default).number, rfl, (by omega), (by refine ⟨by omega, by omega, ?_⟩; rw [← p3, zAS (i := i) (by assumption), List.foldl_cons]), rfl, rfl, rfl⟩
 ·(refine ⟨[_], [], [], ⟨rfl, trivial⟩, ?_⟩; simp only [go_sem, *])
  obtain ⟨p1, p2, p3⟩ := hP
  rw [zAX (by omega), List.foldl_nil] at p3
  rw [base, ← p3, zDa p1, wrap_i64 (by omega) (by omega)]
end Go.Abs

namespace Go.Abs
open Go Go.Proofs
attribute [local irreducible] zAC Hold zAN
theorem zAh (l : List Plate) (x : Plate) (h1 : l.length ≤ 4294967296) : Spec Tryz.prog 199 [zAM l, x.enc] [] (iV (idxP l x)) [] := by
 refine zAF Tryz.func199 rfl (fun E hE => ?_); simp only [go_sem, Tryz.ntmps199]
 repeat' (first | (show zAC ..; first | (refine Qr rfl ?_; try intro K' hK; try simp only [go_sem, *])) | (show Hold ..; first | refine Qh rfl ?_ | refine zAG rfl Tryz.mixed (by kernel_rfl) ?_ | (refine zAD rfl ⟨_, rfl, fun hb => ?_, fun hb => ?_⟩ <;> (have hc := hb; try simp only [go_sem] at hc)) | refine zAI rfl ?_) | (refine Qb ?_ ?_; focus kernel_rfl) | ((with_reducible refine And.intro ?_ ?_); focus omega) | (refine zAB hK ?_; clear hK K'; simp only [go_sem, *]) | (simp only [zAH, zAA, go_sem, *]))
 refine zAQ rfl (fun zn zN zenv zAs => ∃ (i : Nat), zn = (l.length) - i ∧ i ≤ (l.length) ∧ (x ∉ l.take i) ∧ zN = 19 ∧ zenv = [(8, iV i), (7, iV l.length), (3, .ptr 0 0), (0, zAM l)] ∧ zAs = [.box [iV x.number, iV x.letter]]) (l.length) ⟨[some 0], [], _, _, _, (by (simp only [Weak, go_sem, List.map_append, List.map_set, *] <;> (try simp (disch := omega) only [zAE]) <;> (try simp) <;> (try omega))), 0, (by simp), (by simp), (by simp), rfl, rfl, rfl⟩ ?_; rintro _ _ _ _ ⟨i, rfl, hi, hP, rfl, rfl, rfl⟩
 repeat' (first | (show zAC ..; first | (refine Qr rfl ?_; try intro K' hK; try simp only [go_sem, *])) | (show Hold ..; first | refine Qh rfl ?_ | refine zAG rfl Tryz.mixed (by kernel_rfl) ?_ | (refine zAD rfl ⟨_, rfl, fun hb => ?_, fun hb => ?_⟩ <;> (have hc := hb; try simp only [go_sem] at hc)) | refine zAI rfl ?_) | (refine Qb ?_ ?_; focus kernel_rfl) | ((with_reducible refine And.intro ?_ ?_); focus omega) | (refine zAB hK ?_; clear hK K'; simp only [go_sem, *]) | (simp only [zAH, zAA, go_sem, *]))
 ·(refine ⟨[_], [], [], ⟨rfl, trivial⟩, ?_⟩; simp only [go_sem, *])
  have e : x = l.getD i default := by assumption
  rw [← e]
  exact zK9 (zHp (by assumption) hP e.symm)
 ·refine ⟨_, (by omega), [some 0], [], _, _, _, (by (simp only [Weak, go_sem, List.map_append, List.map_set, *] <;> (try simp (disch := omega) only [zAE]) <;> (try simp) <;> (try omega))), i + 1, rfl, (by omega), (by exact zGj (by assumption) hP (fun e => absurd e.symm (by assumption))), rfl, rfl, rfl⟩
 ·(refine ⟨[_], [], [], ⟨rfl, trivial⟩, ?_⟩; simp only [go_sem, *])
  rw [List.take_of_length_le (by omega)] at hP
  rw [zDU hP]
theorem zB1 (l : List Plate) (x : Plate) (h1 : l.length ≤ 4294967296) : Spec Tryz.prog 198 [zAM l, x.enc] [] (bV (decide (x ∈ l))) [] := by
 refine zAF Tryz.func198 rfl (fun E hE => ?_); simp only [go_sem, Tryz.ntmps198]
 repeat' (first | (show zAC ..; first | (refine Qr rfl ?_; try intro K' hK; try simp only [go_sem, *])) | (show Hold ..; first | refine Qh rfl ?_ | (refine zAD rfl ⟨_, rfl, fun hb => ?_, fun hb => ?_⟩ <;> (have hc := hb; try simp only [go_sem] at hc)) | refine zAI rfl ?_) | (show zAN ..; first | (refine zAK (zAh l x h1) ?_ ?_; (focus (simp only [go_sem, *]; done)); simp only [go_sem, *])) | ((with_reducible refine And.intro ?_ ?_); focus omega) | (refine zAB hK ?_; clear hK K'; simp only [go_sem, *]) | (simp only [zAH, zAA, go_sem, *]))
 (refine ⟨[_], [], [], ⟨rfl, trivial⟩, ?_⟩; simp only [go_sem, *])
 refine zDi ?_
 by_cases hm : x ∈ l
 ·simp [zBI hm, hm]
 ·simp [zDU hm, hm]
theorem zLm (s n k : Int) : Spec Tryz.prog 197 [iV s, iV n, iV k] [] (.agg [iV s, iV n, iV k]) [] := by
 refine zAF Tryz.func197 rfl (fun E hE => ?_); simp only [go_sem, Tryz.ntmps197]
 repeat' (first | (show zAC ..; first | (refine Qr rfl ?_; try intro K' hK; try simp only [go_sem, *])) | (show Hold ..; first | refine Qh rfl ?_ | (refine zAD rfl ⟨_, rfl, fun hb => ?_, fun hb => ?_⟩ <;> (have hc := hb; try simp only [go_sem] at hc)) | refine zAI rfl ?_) | ((with_reducible refine And.intro ?_ ?_); focus omega) | (refine zAB hK ?_; clear hK K'; simp only [go_sem, *]) | (simp only [zAH, zAA, go_sem, *]))
 refine ⟨[.agg [iV s, iV n, iV k]], [], [], ⟨(by simp only [zAY, go_sem]), trivial⟩, ?_⟩; simp only [go_sem, *]
abbrev fnV (f : Nat) : AV := .raw (.func (.func f) #[] #[])
theorem zHJ {f : Nat} {pr : Plate → Bool} (hc : zAw Tryz.prog f = true) (hf : ∀ x : Plate, Spec Tryz.prog f [x.enc] [] (bV (pr x)) []) (l : List Plate) (h1 : l.length ≤ 4294967296) :
  Spec Tryz.prog 194 [zAM l, fnV f] [] (.own 0 2 0 (l.filter pr).length) [.row 2 ((l.filter pr).map Plate.enc)] := by
 refine zAF Tryz.func194 rfl (fun E hE => ?_); simp only [go_sem, Tryz.ntmps194]
 repeat' (first | (show zAC ..; first | (refine Qr rfl ?_; try intro K' hK; try simp only [go_sem, *])) | (show Hold ..; first | refine Qh rfl ?_ | (refine zAD rfl ⟨_, rfl, fun hb => ?_, fun hb => ?_⟩ <;> (have hc := hb; try simp only [go_sem] at hc)) | refine zAI rfl ?_) | ((with_reducible refine And.intro ?_ ?_); focus omega) | (refine zAB hK ?_; clear hK K'; simp only [go_sem, *]) | (simp only [zAH, zAA, go_sem, *]))
 refine zAQ rfl (fun zn zN zenv zAs => ∃ (i : Nat) (acc : List Plate), zn = (l.length) - i ∧ i ≤ (l.length) ∧ (acc ++ (l.drop i).filter pr = l.filter pr) ∧ zN = 23 ∧ zenv = [(10, iV i), (9, iV l.length), (8, zAM l), (5, .own 0 2 0 acc.length), (1, fnV f)] ∧ zAs = [.row 2 (acc.map Plate.enc)]) (l.length) ⟨[none], [], _, _, _, (by (simp only [Weak, go_sem, List.map_append, List.map_set, *] <;> (try simp (disch := omega) only [zAE]) <;> (try simp) <;> (try omega))), 0, [], (by simp), (by simp), (by simp), rfl, rfl, rfl⟩ ?_; rintro _ _ _ _ ⟨i, acc, rfl, hi, hP, rfl, rfl, rfl⟩
 have hlen := congrArg List.length hP
 have hfl := List.length_filter_le pr l
 simp only [List.length_append] at hlen
 repeat' (first | (show zAC ..; first | (refine Qr rfl ?_; try intro K' hK; try simp only [go_sem, *])) | (show Hold ..; first | refine Qh rfl ?_ | (refine zAD rfl ⟨_, rfl, fun hb => ?_, fun hb => ?_⟩ <;> (have hc := hb; try simp only [go_sem] at hc)) | refine zAI rfl ?_) | (show zAN ..; first | (refine zAK (hf (l.getD i default)) ?_ ?_; (focus (simp only [go_sem, *]; done)); simp only [go_sem, *])) | ((with_reducible refine And.intro ?_ ?_); focus omega) | (refine zAB hK ?_; clear hK K'; simp only [go_sem, *]) | (simp only [zAH, zAA, go_sem, *]))
 ·refine ⟨_, (by omega), [some 3], [], _, _, _, (by (simp only [Weak, go_sem, List.map_append, List.map_set, *] <;> (try simp (disch := omega) only [zAE]) <;> (try simp) <;> (try omega))), i + 1, acc ++ [l.getD i default], rfl, (by omega), (by rw [← hP, zAS (i := i) (by assumption), List.filter_cons, if_pos (by assumption)]; simp), rfl, rfl, rfl⟩
 ·refine ⟨_, (by omega), [some 0], [], _, _, _, (by (simp only [Weak, go_sem, List.map_append, List.map_set, *] <;> (try simp (disch := omega) only [zAE]) <;> (try simp) <;> (try omega))), i + 1, acc, rfl, (by omega), (by rw [← hP, zAS (i := i) (by assumption), List.filter_cons, if_neg (by rw [Bool.not_eq_true]; assumption)]), rfl, rfl, rfl⟩
 ·refine ⟨[_], [some 0], [], ⟨rfl, trivial⟩, ?_⟩
  rw [zAX (by omega), List.filter_nil, List.append_nil] at hP
  simp only [go_sem, hP, *]
theorem zB2 : Spec Tryz.prog 152 [] [] (.agg [.raw .nilFunc, fnV 169, fnV 170, fnV 171, fnV 172, fnV 173, fnV 174, fnV 175]) [] := by
 refine zAF Tryz.func152 rfl (fun E hE => ?_); simp only [go_sem, Tryz.ntmps152]
 repeat' (first | (show zAC ..; first | (refine Qr rfl ?_; try intro K' hK; try simp only [go_sem, *])) | (show Hold ..; first | refine Qh rfl ?_ | (refine zAD rfl ⟨_, rfl, fun hb => ?_, fun hb => ?_⟩ <;> (have hc := hb; try simp only [go_sem] at hc)) | refine zAI rfl ?_) | ((with_reducible refine And.intro ?_ ?_); focus omega) | (refine zAB hK ?_; clear hK K'; simp only [go_sem, *]) | (simp only [zAH, zAA, go_sem, *]))
 refine ⟨[.agg [.raw .nilFunc, fnV 169, fnV 170, fnV 171, fnV 172, fnV 173, fnV 174, fnV 175]], [], [], ⟨(by simp only [zAY, go_sem]), trivial⟩, ?_⟩; simp only [go_sem, *]
end Go.Abs

namespace Go.Abs
open Go Go.Proofs
attribute [local irreducible] zAC Hold zAN
theorem zGi {p : Plan} (v : Valid p) : Spec Tryz.prog 160 [zAO p] [] (.own 0 3 0 (zAJ p).length) [.row 3 ((zAJ p).map House.enc)] := zLs p (by have := v.len; omega) (fun l hl => by have := (v.rows l hl).len; omega) (by have := v.count; omega)
theorem zKD {α : Type} [Inhabited α] {l : List α} (hn : l.Nodup) {i : Nat} (h : i < l.length) : l.getD i default ∉ l.take i := fun hm => by
 obtain ⟨j, hj, e⟩ := List.getElem_of_mem hm
 simp at hj e
 rw [List.getElem?_eq_getElem h] at e
 simp only [Option.getD_some] at e
 have := (zBi hn).1 e
 omega
theorem zAa {α : Type} [Inhabited α] {l : List α} {i : Nat} (h : i < l.length) : l.take (i + 1) = l.take i ++ [l.getD i default] := by
 rw [List.take_add_one]; simp [List.getD, h]
theorem zDI (p : Plan) (v : Valid p) : Spec Tryz.prog 151 [zAO p] [] (.mp 0) [.mapo (zAv p) (zAZ p fun h => [h])] := by
 have hn := v.nodup
 have hw := v.wf
 have hct := v.count
 refine zAF Tryz.func151 rfl (fun E hE => ?_); simp only [go_sem, Tryz.ntmps151]
 repeat' (first | (show zAC ..; first | (refine Qr rfl ?_; try intro K' hK; try simp only [go_sem, *])) | (show Hold ..; first | refine Qh rfl ?_ | (refine zAD rfl ⟨_, rfl, fun hb => ?_, fun hb => ?_⟩ <;> (have hc := hb; try simp only [go_sem] at hc)) | refine zAI rfl ?_) | ((with_reducible refine And.intro ?_ ?_); focus omega) | (refine zAB hK ?_; clear hK K'; simp only [go_sem, *]) | (simp only [zAH, zAA, go_sem, *]))
 refine zAR [] [] (zGi v) (by simp) (by simp only [go_sem]) trivial (by simp) (.inl rfl) (by simp [go_sem]) (by simp) ?_
 simp only [go_sem, *]
 repeat' (first | (show zAC ..; first | (refine Qr rfl ?_; try intro K' hK; try simp only [go_sem, *])) | (show Hold ..; first | refine Qh rfl ?_ | (refine zAD rfl ⟨_, rfl, fun hb => ?_, fun hb => ?_⟩ <;> (have hc := hb; try simp only [go_sem] at hc)) | refine zAI rfl ?_) | ((with_reducible refine And.intro ?_ ?_); focus omega) | (refine zAB hK ?_; clear hK K'; simp only [go_sem, *]) | (simp only [zAH, zAA, go_sem, *]))
 refine zAQ rfl (fun zn zN zenv zAs => ∃ (i : Nat), zn = ((zAJ p).length) - i ∧ i ≤ ((zAJ p).length) ∧ (NoP i) ∧ zN = 20 ∧ zenv = [(10, iV i), (9, iV (zAJ p).length), (8, .own 0 3 0 (zAJ p).length), (3, .mp 1)] ∧ zAs = [.row 3 ((zAJ p).map House.enc), .mapo (((zAJ p).take i).map House.key) (((zAJ p).take i).map (MapV fun h => [h]))]) ((zAJ p).length) ⟨[some 2, some 1], [], _, _, _, (by (simp only [Weak, go_sem, List.map_append, List.map_set, *] <;> (try simp (disch := omega) only [zAE]) <;> (try simp) <;> (try omega))), 0, (by simp), (by simp), (by trivial), rfl, rfl, rfl⟩ ?_; rintro _ _ _ _ ⟨i, rfl, hi, hP, rfl, rfl, rfl⟩
 repeat' (first | (show zAC ..; first | (refine Qr rfl ?_; try intro K' hK; try simp only [go_sem, *])) | (show Hold ..; first | refine Qh rfl ?_ | (refine zAD rfl ⟨_, rfl, fun hb => ?_, fun hb => ?_⟩ <;> (have hc := hb; try simp only [go_sem] at hc)) | refine zAI rfl ?_) | ((with_reducible refine And.intro ?_ ?_); focus omega) | (refine zAB hK ?_; clear hK K'; simp only [go_sem, *]) | (simp only [zAH, zAA, go_sem, *]))
 ·refine zIB (h := (zAJ p).getD i default) (hs := (zAJ p).take i) (xs := ((zAJ p).take i).map (MapV fun h => [h])) (by simp only [go_sem, *]) (fun k hk => hw k (List.mem_of_mem_take hk)) (hw _ (zAT (by assumption))) (zKD hn (by assumption)) (by simp only [go_sem, *]) (by simp only [go_sem, *]) ?_
  simp only [go_sem, *]
  repeat' (first | (show zAC ..; first | (refine Qr rfl ?_; try intro K' hK; try simp only [go_sem, *])) | (show Hold ..; first | refine Qh rfl ?_ | (refine zAD rfl ⟨_, rfl, fun hb => ?_, fun hb => ?_⟩ <;> (have hc := hb; try simp only [go_sem] at hc)) | refine zAI rfl ?_) | ((with_reducible refine And.intro ?_ ?_); focus omega) | (refine zAB hK ?_; clear hK K'; simp only [go_sem, *]) | (simp only [zAH, zAA, go_sem, *]))
  have e := zAa (l := zAJ p) (i := i) (by assumption)
  have hM : MapV (fun h => [h]) ((zAJ p).getD i default) = .list [((zAJ p).getD i default).enc] := rfl
  refine ⟨_, (by omega), [some 0, some 1], [], _, _, _, (by (simp only [Weak, go_sem, List.map_append, List.map_set, *] <;> (try simp (disch := omega) only [zAE]) <;> (try simp) <;> (try omega))), i + 1, rfl, (by omega), (by trivial), rfl, rfl, rfl⟩
 ·refine ⟨[_], [some 1], [], ⟨rfl, trivial⟩, ?_⟩
  have e : (zAJ p).take i = zAJ p := List.take_of_length_le (by omega)
  simp only [go_sem, *]
theorem zKR (p : Plan) (c : Change) (v : Valid p) (f : Fit p c) (k : c.kind = 2) : Spec Tryz.prog 170 [zAO p, c.enc, .mp 0] [.mapo (zAv p) (zAZ p fun h => [h])] (iV 0) [.mapo (zAv p) (zAZ p (mv p c))] := by
  have hs : c.street.toNat < p.length := by have := f.street; omega
  have hs0 := f.street.1
  have hs1 := f.street.2
  have hr := v.row c.street
  have hl8 := hr.len
  refine zAF Tryz.func170 rfl (fun E hE => ?_); simp only [go_sem, Tryz.ntmps170]
  repeat' (first | (show zAC ..; first | (refine Qr rfl ?_; try intro K' hK; try simp only [go_sem, *])) | (show Hold ..; first | refine Qh rfl ?_ | refine zAG rfl Tryz.mixed (by kernel_rfl) ?_ | (refine zAD rfl ⟨_, rfl, fun hb => ?_, fun hb => ?_⟩ <;> (have hc := hb; try simp only [go_sem] at hc)) | refine zAI rfl ?_) | (refine Qb ?_ ?_; focus kernel_rfl) | ((with_reducible refine And.intro ?_ ?_); focus omega) | (refine zAB hK ?_; clear hK K'; simp only [go_sem, *]) | (simp only [zAH, zAA, go_sem, *]))
  refine zAQ rfl (fun zn zN zenv zAs => ∃ (i : Nat) (g : House → List House), zn = ((zAL p c.street).length) - i ∧ i ≤ ((zAL p c.street).length) ∧ (Upd p c g ((zAL p c.street).take i)) ∧ zN = 42 ∧ zenv = [(17, iV i), (16, iV (zAL p c.street).length), (15, zAM (zAL p c.street)), (4, .ptr 2 0), (3, .ptr 1 0), (2, .mp 0)] ∧ zAs = [.mapo (zAv p) (zAZ p g), pBox p, cBox c]) ((zAL p c.street).length) ⟨[some 0, some 1, some 2], [], _, _, _, (by (simp only [Weak, go_sem, List.map_append, List.map_set, *] <;> (try simp (disch := omega) only [zAE]) <;> (try simp) <;> (try omega))), 0, fun h => [h], (by simp), (by simp), (by exact Upd.nil _ _), rfl, rfl, rfl⟩ ?_; rintro _ _ _ _ ⟨i, g, rfl, hi, hP, rfl, rfl, rfl⟩
  have hx : i < (zAL p c.street).length → 1 ≤ ((zAL p c.street).getD i default).number ∧ ((zAL p c.street).getD i default).number ≤ 40 := fun h => ((zA6 _).1 (hr.ok _ (zAT h))).1
  have hw1 : i < (zAL p c.street).length → IntKind.i64.wrap (((zAL p c.street).getD i default).number - 1) = ((zAL p c.street).getD i default).number - 1 := fun h => by have := hx h; exact wrap_i64 (by omega) (by omega)
  have hw2 : i < (zAL p c.street).length → IntKind.i64.wrap (((zAL p c.street).getD i default).number + 1) = ((zAL p c.street).getD i default).number + 1 := fun h => by have := hx h; exact wrap_i64 (by omega) (by omega)
  repeat' (first | (show zAC ..; first | (refine Qr rfl ?_; try intro K' hK; try simp only [go_sem, *])) | (show Hold ..; first | refine Qh rfl ?_ | refine zAG rfl Tryz.mixed (by kernel_rfl) ?_ | (refine zAD rfl ⟨_, rfl, fun hb => ?_, fun hb => ?_⟩ <;> (have hc := hb; try simp only [go_sem] at hc)) | refine zAI rfl ?_) | (refine Qb ?_ ?_; focus kernel_rfl) | (show zAN ..; first | ((first | refine zAK (zLw _) ?_ ?_ | refine zAK (zLm _ _ _) ?_ ?_); (focus (simp only [go_sem, *]; done)); simp only [go_sem, *])) | ((with_reducible refine And.intro ?_ ?_); focus omega) | (refine zAB hK ?_; clear hK K'; simp only [go_sem, *]) | (simp only [zAH, zAA, go_sem, *]))
  · have ho : oddB ((zAL p c.street).getD i default) = true := by
      have := hx (by assumption)
      rw [zB5]
      have hc2 : ¬ ((zAL p c.street).getD i default).number.tmod 2 = 0 := by assumption
      rw [zDa (by omega)] at hc2; omega
    refine zFy [⟨c.street, ⟨((zAL p c.street).getD i default).number + 1, ((zAL p c.street).getD i default).letter⟩⟩] (g := g) (x := (zAL p c.street).getD i default) v hs0 hs1 (zAT (by assumption)) (by simp only [go_sem, *]) (by simp only [go_sem, *]) rfl rfl (by rw [zDL k, if_pos ho]) ?_
    simp only [go_sem, *]
    repeat' (first | (show zAC ..; first | (refine Qr rfl ?_; try intro K' hK; try simp only [go_sem, *])) | (show Hold ..; first | refine Qh rfl ?_ | refine zAG rfl Tryz.mixed (by kernel_rfl) ?_ | (refine zAD rfl ⟨_, rfl, fun hb => ?_, fun hb => ?_⟩ <;> (have hc := hb; try simp only [go_sem] at hc)) | refine zAI rfl ?_) | (refine Qb ?_ ?_; focus kernel_rfl) | ((with_reducible refine And.intro ?_ ?_); focus omega) | (refine zAB hK ?_; clear hK K'; simp only [go_sem, *]) | (simp only [zAH, zAA, go_sem, *]))
    have e := zAa (l := zAL p c.street) (i := i) (by assumption)
    refine ⟨_, (by omega), [some 0, some 1, some 2], [], _, _, _, (by (simp only [Weak, go_sem, List.map_append, List.map_set, *] <;> (try simp (disch := omega) only [zAE]) <;> (try simp) <;> (try omega))), i + 1, updG p c g ((zAL p c.street).getD i default), rfl, (by omega), (by rw [e]; exact hP.one _), rfl, rfl, rfl⟩
  · have ho : ¬ oddB ((zAL p c.street).getD i default) = true := by
      have := hx (by assumption)
      rw [zB5]
      have hc2 : ((zAL p c.street).getD i default).number.tmod 2 = 0 := by assumption
      rw [zDa (by omega)] at hc2; omega
    refine zFy [⟨c.street, ⟨((zAL p c.street).getD i default).number - 1, ((zAL p c.street).getD i default).letter⟩⟩] (g := g) (x := (zAL p c.street).getD i default) v hs0 hs1 (zAT (by assumption)) (by simp only [go_sem, *]) (by simp only [go_sem, *]) rfl rfl (by rw [zDL k, if_neg ho]) ?_
    simp only [go_sem, *]
    repeat' (first | (show zAC ..; first | (refine Qr rfl ?_; try intro K' hK; try simp only [go_sem, *])) | (show Hold ..; first | refine Qh rfl ?_ | refine zAG rfl Tryz.mixed (by kernel_rfl) ?_ | (refine zAD rfl ⟨_, rfl, fun hb => ?_, fun hb => ?_⟩ <;> (have hc := hb; try simp only [go_sem] at hc)) | refine zAI rfl ?_) | (refine Qb ?_ ?_; focus kernel_rfl) | ((with_reducible refine And.intro ?_ ?_); focus omega) | (refine zAB hK ?_; clear hK K'; simp only [go_sem, *]) | (simp only [zAH, zAA, go_sem, *]))
    have e := zAa (l := zAL p c.street) (i := i) (by assumption)
    refine ⟨_, (by omega), [some 0, some 1, some 2], [], _, _, _, (by (simp only [Weak, go_sem, List.map_append, List.map_set, *] <;> (try simp (disch := omega) only [zAE]) <;> (try simp) <;> (try omega))), i + 1, updG p c g ((zAL p c.street).getD i default), rfl, (by omega), (by rw [e]; exact hP.one _), rfl, rfl, rfl⟩
  · rw [List.take_of_length_le (by omega)] at hP
    have e := hP.fin (fun x hx hn => absurd hx hn)
    simp only [zAZ] at e
    refine ⟨[_], [some 0], [], ⟨rfl, trivial⟩, ?_⟩
    simp only [go_sem, *]
end Go.Abs

namespace Go.Abs
open Go Go.Proofs
attribute [local irreducible] zAC Hold zAN
def prB (i : Nat) (x : Plate) : Bool := if i = 0 then x.number.tmod 2 != 0 else x.number.tmod 2 == 0
def zBc (l : List Plate) (i : Nat) : List Plate := l.filter (prB i)
theorem zPg {l : List Plate} (h : Sound l) {i : Nat} {x y : Plate} (hy : y ∈ zBc l i) (hx : x ∈ l) : prB i x = (oddB x == oddB y) := by
 obtain ⟨hy1, hy2⟩ := List.mem_filter.1 hy
 have ox := (zA6 x).1 (h.ok x hx)
 have oy := (zA6 y).1 (h.ok y hy1)
 rw [Bool.eq_iff_iff, zHD]
 unfold prB at *
 rw [zDa (by omega)] at *
 split at hy2 <;> simp_all <;> omega
theorem zHk {l : List Plate} (h : Sound l) {i : Nat} {y : Plate} (hy : y ∈ zBc l i) : l.filter (fun z => oddB z == oddB y) = zBc l i :=
 List.filter_congr (fun x hx => (zPg h hy hx).symm)
theorem zK0 {l : List Plate} (h : Sound l) {i : Nat} (hi : i < 2) {y : Plate} (hy : y ∈ zBc l i) : y.number % 2 = 1 - i := by
 obtain ⟨hy1, hy2⟩ := List.mem_filter.1 hy
 have oy := (zA6 y).1 (h.ok y hy1)
 unfold prB at hy2
 rw [zDa (by omega)] at hy2
 have : i = 0 ∨ i = 1 := by omega
 rcases this with rfl | rfl <;> simp at hy2 <;> omega
theorem zHi {l : List Plate} {x : Plate} (hx : x ∈ l) : x ∈ zBc l 0 ∨ x ∈ zBc l 1 := by
 by_cases h : x.number.tmod 2 = 0
 ·right; exact List.mem_filter.2 ⟨hx, by simp [prB, h]⟩
 ·left; exact List.mem_filter.2 ⟨hx, by simp [prB, h]⟩
theorem zHl {l : List Plate} {i : Nat} {y : Plate} (hy : y ∈ zBc l i) : y ∈ l := (List.mem_filter.1 hy).1
theorem zHj {l : List Plate} (h : Sound l) {i j : Nat} (hj : j < (zBc l i).length) : (zBc l i).idxOf ((zBc l i).getD j default) = j := by
 have hn : (zBc l i).Nodup := h.nodup.filter _
 have hm := zAT hj
 have h1 := zDm hm
 have h2 : (zBc l i)[j] = (zBc l i).getD j default := by simp [List.getD, hj]
 exact (zBi hn).1 (h1.trans h2.symm)
theorem zL5 (p : Plan) (c : Change) (v : Valid p) (f : Fit p c) (k : c.kind = 1) : Spec Tryz.prog 169 [zAO p, c.enc, .mp 0] [.mapo (zAv p) (zAZ p fun h => [h])] (iV 0) [.mapo (zAv p) (zAZ p (mv p c))] := by
 have hs : c.street.toNat < p.length := by have := f.street; omega
 have hs0 := f.street.1
 have hs1 := f.street.2
 have hr := v.row c.street
 have hl8 := hr.len
 have hbl : ∀ i, (zBc (zAL p c.street) i).length ≤ 8 := fun i => Nat.le_trans (List.length_filter_le _ _) hl8
 have hb0 := hbl 0
 have hb1 := hbl 1
 have spo : Spec Tryz.prog 194 [zAM (zAL p c.street), fnV 195] [] (.own 0 2 0 (zBc (zAL p c.street) 0).length) [.row 2 ((zBc (zAL p c.street) 0).map Plate.enc)] :=
  zHJ (by kernel_rfl) (fun x => by simpa [prB] using zLw x) (zAL p c.street) (by omega)
 have spe : Spec Tryz.prog 194 [zAM (zAL p c.street), fnV 196] [] (.own 0 2 0 (zBc (zAL p c.street) 1).length) [.row 2 ((zBc (zAL p c.street) 1).map Plate.enc)] :=
  zHJ (by kernel_rfl) (fun x => by simpa [prB] using zLp x) (zAL p c.street) (by omega)
 obtain ⟨L, hL⟩ : ∃ L, L = [zBc (zAL p c.street) 0, zBc (zAL p c.street) 1] := ⟨_, rfl⟩
 have hLb : L.map zAM = [zAM (zBc (zAL p c.street) 0), zAM (zBc (zAL p c.street) 1)] := by rw [hL]; rfl
 have hLl : L.length = 2 := by rw [hL]; rfl
 have hLg : ∀ i, i < 2 → L.getD i default = zBc (zAL p c.street) i := fun i hi => by
  have : i = 0 ∨ i = 1 := by omega
  rcases this with rfl | rfl <;> rw [hL] <;> rfl
 have hcov : ∀ x, x ∈ zAL p c.street → x ∈ (L.map id).flatten := fun x hx => by
  rw [hL]
  rcases zHi hx with h | h <;> simp [h]
 clear hL
 refine zAF Tryz.func169 rfl (fun E hE => ?_); simp only [go_sem, Tryz.ntmps169]
 repeat' (first | (show zAC ..; first | (refine Qr rfl ?_; try intro K' hK; try simp only [go_sem, *])) | (show Hold ..; first | refine Qh rfl ?_ | refine zAG rfl Tryz.mixed (by kernel_rfl) ?_ | (refine zAD rfl ⟨_, rfl, fun hb => ?_, fun hb => ?_⟩ <;> (have hc := hb; try simp only [go_sem] at hc)) | refine zAI rfl ?_) | (refine Qb ?_ ?_; focus kernel_rfl) | (show zAN ..; first | (refine zAl (spo) ?_ ?_ ?_ ?_; (focus (simp only [go_sem, *]; done)); (focus (first | (simp; done) | (simp [go_sem]; done))); (focus (first | (simp; done) | (simp [go_sem]; done))); simp only [go_sem, *]) | (refine zAl (spe) ?_ ?_ ?_ ?_; (focus (simp only [go_sem, *]; done)); (focus (first | (simp; done) | (simp [go_sem]; done))); (focus (first | (simp; done) | (simp [go_sem]; done))); simp only [go_sem, *])) | ((with_reducible refine And.intro ?_ ?_); focus omega) | (refine zAB hK ?_; clear hK K'; simp only [go_sem, *]) | (simp only [zAH, zAA, go_sem, *]))
 refine zAQ rfl (fun zn zN zenv zAs => ∃ (i : Nat) (g : House → List House), zn = (2) - i ∧ i ≤ (2) ∧ (Upd p c g (((L.take i).map id).flatten)) ∧ zN = 57 ∧ zenv = [(27, iV i), (26, iV 2), (25, .own 3 1 0 2), (4, .ptr 2 0), (3, .ptr 1 0), (2, .mp 0)] ∧ zAs = [.mapo (zAv p) (zAZ p g), pBox p, cBox c, .box (L.map zAM)]) (2) ⟨[some 0, some 1, some 2, some 5], [3, 4], _, _, _, (by (simp only [Weak, go_sem, List.map_append, List.map_set, *] <;> (try simp (disch := omega) only [zAE]) <;> (try simp) <;> (try omega))), 0, fun h => [h], (by simp), (by simp), (by exact Upd.nil _ _), rfl, rfl, rfl⟩ ?_; rintro _ _ _ _ ⟨i, g, rfl, hi, hP, rfl, rfl, rfl⟩
 clear hLb
 repeat' (first | (show zAC ..; first | (refine Qr rfl ?_; try intro K' hK; try simp only [go_sem, *])) | (show Hold ..; first | refine Qh rfl ?_ | refine zAG rfl Tryz.mixed (by kernel_rfl) ?_ | (refine zAD rfl ⟨_, rfl, fun hb => ?_, fun hb => ?_⟩ <;> (have hc := hb; try simp only [go_sem] at hc)) | refine zAI rfl ?_) | (refine Qb ?_ ?_; focus kernel_rfl) | ((with_reducible refine And.intro ?_ ?_); focus omega) | (refine zAB hK ?_; clear hK K'; simp only [go_sem, *]) | (simp only [zAH, zAA, go_sem, *]))
 ·have hi2 : i < 2 := by omega
  have hlb := hbl i
  generalize hl : zBc (zAL p c.street) i = l at *
  refine zAQ rfl (fun zn zN zenv zAs => ∃ (j : Nat) (g : House → List House), zn = (l.length) - j ∧ j ≤ (l.length) ∧ (Upd p c g (((L.take i).map id).flatten ++ l.take j)) ∧ zN = 57 ∧ zenv = [(33, iV j), (32, iV l.length), (31, zAM l), (8, zAM l), (27, iV i), (26, iV 2), (25, .own 3 1 0 2), (4, .ptr 2 0), (3, .ptr 1 0), (2, .mp 0)] ∧ zAs = [.mapo (zAv p) (zAZ p g), pBox p, cBox c, .box (L.map zAM)]) (l.length) ⟨[some 0, some 1, some 2, some 3], [], _, _, _, (by (simp only [Weak, go_sem, List.map_append, List.map_set, *] <;> (try simp (disch := omega) only [zAE]) <;> (try simp) <;> (try omega))), 0, g, (by simp), (by simp), (by simpa using hP), rfl, rfl, rfl⟩ ?_; rintro _ _ _ _ ⟨j, g, rfl, hj, hQ, rfl, rfl, rfl⟩
  have hw1 : j < l.length → IntKind.i64.wrap ((l.length : Int) - 1) = ((l.length - 1 : Nat) : Int) := fun h => by rw [wrap_i64 (by omega) (by omega)]; omega
  have hw2 : j < l.length → IntKind.i64.wrap (((l.length - 1 : Nat) : Int) - (j : Int)) = ((l.length - 1 - j : Nat) : Int) := fun h => by rw [wrap_i64 (by omega) (by omega)]; omega
  have hw3 : j < l.length → l.length - 1 - j < l.length := fun h => by omega
  repeat' (first | (show zAC ..; first | (refine Qr rfl ?_; try intro K' hK; try simp only [go_sem, *])) | (show Hold ..; first | refine Qh rfl ?_ | refine zAG rfl Tryz.mixed (by kernel_rfl) ?_ | (refine zAD rfl ⟨_, rfl, fun hb => ?_, fun hb => ?_⟩ <;> (have hc := hb; try simp only [go_sem] at hc)) | refine zAI rfl ?_) | (refine Qb ?_ ?_; focus kernel_rfl) | ((with_reducible refine And.intro ?_ ?_); focus omega) | (refine zAB hK ?_; clear hK K'; simp only [go_sem, *]) | (simp only [zAH, zAA, go_sem, *]))
  ·have hmj : l.getD j default ∈ l := zAT (by assumption)
   have hown := zHk hr (i := i) (y := l.getD j default) (by rw [hl]; exact hmj)
   have hjx : l.idxOf (l.getD j default) = j := by have := zHj hr (i := i) (j := j) (by rw [hl]; assumption); rwa [hl] at this
   refine zFy [⟨c.street, l.getD (l.length - 1 - j) default⟩] (g := g) (x := l.getD j default) v hs0 hs1 (zHl (i := i) (by rw [hl]; exact hmj)) (by simp only [go_sem, *]) (by simp only [go_sem, *]) rfl rfl (by rw [zDu k, hown, hl, hjx]) ?_
   simp only [go_sem, *]
   repeat' (first | (show zAC ..; first | (refine Qr rfl ?_; try intro K' hK; try simp only [go_sem, *])) | (show Hold ..; first | refine Qh rfl ?_ | refine zAG rfl Tryz.mixed (by kernel_rfl) ?_ | (refine zAD rfl ⟨_, rfl, fun hb => ?_, fun hb => ?_⟩ <;> (have hc := hb; try simp only [go_sem] at hc)) | refine zAI rfl ?_) | (refine Qb ?_ ?_; focus kernel_rfl) | ((with_reducible refine And.intro ?_ ?_); focus omega) | (refine zAB hK ?_; clear hK K'; simp only [go_sem, *]) | (simp only [zAH, zAA, go_sem, *]))
   have e := zAa (l := l) (i := j) (by assumption)
   refine ⟨_, (by omega), [some 0, some 1, some 2, some 3], [], _, _, _, (by (simp only [Weak, go_sem, List.map_append, List.map_set, *] <;> (try simp (disch := omega) only [zAE]) <;> (try simp) <;> (try omega))), j + 1, updG p c g (l.getD j default), rfl, (by omega), (by rw [e, ← List.append_assoc]; exact hQ.one _), rfl, rfl, rfl⟩
  ·have e2 : l.take j = l := List.take_of_length_le (by omega)
   rw [e2] at hQ
   have e := zAa (l := L) (i := i) (by omega)
   rw [hLg i hi2, hl] at e
   refine ⟨_, (by omega), [some 0, some 1, some 2, some 3], [], _, _, _, (by (simp only [Weak, go_sem, List.map_append, List.map_set, *] <;> (try simp (disch := omega) only [zAE]) <;> (try simp) <;> (try omega))), i + 1, g, rfl, (by omega), (by rw [e]; simpa using hQ), rfl, rfl, rfl⟩
 ·rw [List.take_of_length_le (by omega)] at hP
  have e := hP.fin (fun x hx hn => absurd (hcov x hx) hn)
  simp only [zAZ] at e
  refine ⟨[_], [some 0], [], ⟨rfl, trivial⟩, ?_⟩
  simp only [go_sem, *]
end Go.Abs

namespace Go.Abs
open Go Go.Proofs
attribute [local irreducible] zAC Hold zAN
theorem zKM (p : Plan) (c : Change) (v : Valid p) (f : Fit p c) (k : c.kind = 3) : Spec Tryz.prog 171 [zAO p, c.enc, .mp 0] [.mapo (zAv p) (zAZ p fun h => [h])] (iV 0) [.mapo (zAv p) (zAZ p (mv p c))] := by
 have hs : c.street.toNat < p.length := by have := f.street; omega
 have hs0 := f.street.1
 have hs1 := f.street.2
 have hr := v.row c.street
 have hl8 := hr.len
 have hbl : ∀ i, (zBc (zAL p c.street) i).length ≤ 8 := fun i => Nat.le_trans (List.length_filter_le _ _) hl8
 obtain ⟨Fs, hFs⟩ : ∃ Fs : List Nat, Fs = [195, 196] := ⟨_, rfl⟩
 have hFb : Fs.map fnV = [fnV 195, fnV 196] := by rw [hFs]; rfl
 have hFl : Fs.length = 2 := by rw [hFs]; rfl
 have hsp : ∀ i, i < 2 → Spec Tryz.prog 194 [zAM (zAL p c.street), fnV (Fs.getD i default)] [] (.own 0 2 0 (zBc (zAL p c.street) i).length) [.row 2 ((zBc (zAL p c.street) i).map Plate.enc)] := fun i hi => by
  have : i = 0 ∨ i = 1 := by omega
  rcases this with rfl | rfl <;> rw [hFs]
  ·exact zHJ (by kernel_rfl) (fun x => by simpa [prB] using zLw x) (zAL p c.street) (by omega)
  ·exact zHJ (by kernel_rfl) (fun x => by simpa [prB] using zLp x) (zAL p c.street) (by omega)
 clear hFs
 refine zAF Tryz.func171 rfl (fun E hE => ?_); simp only [go_sem, Tryz.ntmps171]
 repeat' (first | (show zAC ..; first | (refine Qr rfl ?_; try intro K' hK; try simp only [go_sem, *])) | (show Hold ..; first | refine Qh rfl ?_ | refine zAG rfl Tryz.mixed (by kernel_rfl) ?_ | (refine zAD rfl ⟨_, rfl, fun hb => ?_, fun hb => ?_⟩ <;> (have hc := hb; try simp only [go_sem] at hc)) | refine zAI rfl ?_) | (refine Qb ?_ ?_; focus kernel_rfl) | ((with_reducible refine And.intro ?_ ?_); focus omega) | (refine zAB hK ?_; clear hK K'; simp only [go_sem, *]) | (simp only [zAH, zAA, go_sem, *]))
 refine zAQ rfl (fun zn zN zenv zAs => ∃ (i : Nat) (g : House → List House), zn = (2) - i ∧ i ≤ (2) ∧ (Upd p c g (((List.range i).map (zBc (zAL p c.street))).flatten)) ∧ zN = 48 ∧ zenv = [(13, iV i), (12, iV 2), (11, .own 3 1 0 2), (4, .ptr 2 0), (3, .ptr 1 0), (2, .mp 0)] ∧ zAs = [.mapo (zAv p) (zAZ p g), pBox p, cBox c, .row 1 (Fs.map fnV)]) (2) ⟨[some 0, some 1, some 2, some 3], [], _, _, _, (by (simp only [Weak, go_sem, List.map_append, List.map_set, *] <;> (try simp (disch := omega) only [zAE]) <;> (try simp) <;> (try omega))), 0, fun h => [h], (by simp), (by simp), (by exact Upd.nil _ _), rfl, rfl, rfl⟩ ?_; rintro _ _ _ _ ⟨i, g, rfl, hi, hP, rfl, rfl, rfl⟩
 clear hFb
 repeat' (first | (show zAC ..; first | (refine Qr rfl ?_; try intro K' hK; try simp only [go_sem, *])) | (show Hold ..; first | refine Qh rfl ?_ | refine zAG rfl Tryz.mixed (by kernel_rfl) ?_ | (refine zAD rfl ⟨_, rfl, fun hb => ?_, fun hb => ?_⟩ <;> (have hc := hb; try simp only [go_sem] at hc)) | refine zAI rfl ?_) | (refine Qb ?_ ?_; focus kernel_rfl) | (show zAN ..; first | (refine zAl (hsp i (by omega)) ?_ ?_ ?_ ?_; (focus (simp only [go_sem, *]; done)); (focus (first | (simp; done) | (simp [go_sem]; done))); (focus (first | (simp; done) | (simp [go_sem]; done))); simp only [go_sem, *])) | ((with_reducible refine And.intro ?_ ?_); focus omega) | (refine zAB hK ?_; clear hK K'; simp only [go_sem, *]) | (simp only [zAH, zAA, go_sem, *]))
 ·have hi2 : i < 2 := by omega
  have hlb := hbl i
  generalize hl : zBc (zAL p c.street) i = l at *
  refine zAQ rfl (fun zn zN zenv zAs => ∃ (j : Nat) (g : House → List House), zn = (l.length) - j ∧ j ≤ (l.length) ∧ (Upd p c g (((List.range i).map (zBc (zAL p c.street))).flatten ++ l.take j)) ∧ zN = 48 ∧ zenv = [(27, iV j), (26, iV l.length), (25, .own 4 2 0 l.length), (7, iV i), (13, iV i), (12, iV 2), (11, .own 3 1 0 2), (4, .ptr 2 0), (3, .ptr 1 0), (2, .mp 0)] ∧ zAs = [.mapo (zAv p) (zAZ p g), pBox p, cBox c, .row 1 (Fs.map fnV), .row 2 (l.map Plate.enc)]) (l.length) ⟨[some 0, some 1, some 2, some 3, some 4], [], _, _, _, (by (simp only [Weak, go_sem, List.map_append, List.map_set, *] <;> (try simp (disch := omega) only [zAE]) <;> (try simp) <;> (try omega))), 0, g, (by simp), (by simp), (by simpa using hP), rfl, rfl, rfl⟩ ?_; rintro _ _ _ _ ⟨j, g, rfl, hj, hQ, rfl, rfl, rfl⟩
  have hw1 : j < l.length → IntKind.i64.wrap (2 * (j : Int)) = 2 * (j : Int) := fun h => wrap_i64 (by omega) (by omega)
  have hw2 : j < l.length → IntKind.i64.wrap (2 * (j : Int) + 1) = 2 * (j : Int) + 1 := fun h => wrap_i64 (by omega) (by omega)
  have hw3 : j < l.length → IntKind.i64.wrap (2 * (j : Int) + 1 + (i : Int)) = 2 * (j : Int) + 1 + (i : Int) := fun h => wrap_i64 (by omega) (by omega)
  repeat' (first | (show zAC ..; first | (refine Qr rfl ?_; try intro K' hK; try simp only [go_sem, *])) | (show Hold ..; first | refine Qh rfl ?_ | refine zAG rfl Tryz.mixed (by kernel_rfl) ?_ | (refine zAD rfl ⟨_, rfl, fun hb => ?_, fun hb => ?_⟩ <;> (have hc := hb; try simp only [go_sem] at hc)) | refine zAI rfl ?_) | (refine Qb ?_ ?_; focus kernel_rfl) | (show zAN ..; first | (refine zAK (zLm _ _ _) ?_ ?_; (focus (simp only [go_sem, *]; done)); simp only [go_sem, *])) | ((with_reducible refine And.intro ?_ ?_); focus omega) | (refine zAB hK ?_; clear hK K'; simp only [go_sem, *]) | (simp only [zAH, zAA, go_sem, *]))
  ·have hmj : l.getD j default ∈ l := zAT (by assumption)
   have hown := zHk hr (i := i) (y := l.getD j default) (by rw [hl]; exact hmj)
   have hjx : l.idxOf (l.getD j default) = j := by have := zHj hr (i := i) (j := j) (by rw [hl]; assumption); rwa [hl] at this
   have hpar := zK0 hr hi2 (y := l.getD j default) (by rw [hl]; exact hmj)
   refine zFy [⟨c.street, ⟨2 * (j : Int) + 1 + (i : Int), 0⟩⟩] (g := g) (x := l.getD j default) v hs0 hs1 (zHl (i := i) (by rw [hl]; exact hmj)) (by simp only [go_sem, *]) (by simp only [go_sem, *]) rfl rfl (by rw [zCx k, hown, hl, hjx, hpar]; congr 3; omega) ?_
   simp only [go_sem, *]
   repeat' (first | (show zAC ..; first | (refine Qr rfl ?_; try intro K' hK; try simp only [go_sem, *])) | (show Hold ..; first | refine Qh rfl ?_ | refine zAG rfl Tryz.mixed (by kernel_rfl) ?_ | (refine zAD rfl ⟨_, rfl, fun hb => ?_, fun hb => ?_⟩ <;> (have hc := hb; try simp only [go_sem] at hc)) | refine zAI rfl ?_) | (refine Qb ?_ ?_; focus kernel_rfl) | ((with_reducible refine And.intro ?_ ?_); focus omega) | (refine zAB hK ?_; clear hK K'; simp only [go_sem, *]) | (simp only [zAH, zAA, go_sem, *]))
   have e := zAa (l := l) (i := j) (by assumption)
   refine ⟨_, (by omega), [some 0, some 1, some 2, some 3, some 4], [], _, _, _, (by (simp only [Weak, go_sem, List.map_append, List.map_set, *] <;> (try simp (disch := omega) only [zAE]) <;> (try simp) <;> (try omega))), j + 1, updG p c g (l.getD j default), rfl, (by omega), (by rw [e, ← List.append_assoc]; exact hQ.one _), rfl, rfl, rfl⟩
  ·have e2 : l.take j = l := List.take_of_length_le (by omega)
   rw [e2] at hQ
   refine ⟨_, (by omega), [some 0, some 1, some 2, some 3], [], _, _, _, (by (simp only [Weak, go_sem, List.map_append, List.map_set, *] <;> (try simp (disch := omega) only [zAE]) <;> (try simp) <;> (try omega))), i + 1, g, rfl, (by omega), (by rw [List.range_succ]; simpa [hl] using hQ), rfl, rfl, rfl⟩
 ·have hi2 : i = 2 := by omega
  subst hi2
  have e := hP.fin (fun x hx hn => absurd (by rcases zHi hx with h | h <;> simp [List.range_succ, h]) hn)
  simp only [zAZ] at e
  refine ⟨[_], [some 0], [], ⟨rfl, trivial⟩, ?_⟩
  simp only [go_sem, *]
end Go.Abs

namespace Go.Abs
open Go Go.Proofs
attribute [local irreducible] zAC Hold zAN
theorem zC8 (m : Int) : ∀ (l : List Plate) (n : Int), n ≤ m → (∀ x, x ∈ l → x.number ≤ m) → l.foldl (fun n x => max n x.number) n ≤ m
 | [], n, h, _ => h
 | x :: r, n, h, hx => by
  rw [List.foldl_cons]
  have := hx x (by simp)
  exact zC8 m r _ (by omega) (fun y hy => hx y (by simp [hy]))
theorem zEv : ∀ (l : List Plate) (n : Int), n ≤ l.foldl (fun n x => max n x.number) n ∧ ∀ x, x ∈ l → x.number ≤ l.foldl (fun n x => max n x.number) n
  | [], n => by simp
  | y :: r, n => by
    obtain ⟨h1, h2⟩ := zEv r (max n y.number)
    rw [List.foldl_cons]
    exact ⟨by omega, fun x hx => by rcases List.mem_cons.1 hx with rfl | hx; · omega
                                    · exact h2 x hx⟩
theorem zKe {l : List Plate} (h : Sound l) (h0 : 0 < l.length) : base l = (l.getD (l.length - 1) default).number + (l.getD (l.length - 1) default).number.tmod 2 := by
 have hm : l.getD (l.length - 1) default ∈ l := zAT (by omega)
 have hle : ∀ x, x ∈ l → x.number ≤ (l.getD (l.length - 1) default).number := fun x hx => by
  obtain ⟨i, hi, rfl⟩ := List.getElem_of_mem hx
  have hg : l.getD (l.length - 1) default = l[l.length - 1] := by simp [List.getD, show l.length - 1 < l.length by omega]
  rw [hg]
  by_cases e : i = l.length - 1
  ·subst e; omega
  ·have := (List.pairwise_iff_getElem.1 h.sorted) i (l.length - 1) hi (by omega) (by omega)
   rw [Plate.lt_iff] at this; omega
 have ho := (zA6 _).1 (h.ok _ hm)
 have h1 := zC8 _ l 0 (by omega) hle
 have h2 := (zEv l 0).2 _ hm
 unfold base
 rw [zDa (by omega)]
 simp only
 omega
theorem zId {l : List Plate} (h : Sound l) : 0 ≤ base l ∧ base l ≤ 41 := by
 have h1 := zC8 40 l 0 (by omega) (fun x hx => ((zA6 x).1 (h.ok x hx)).1.2)
 have h2 := zFP l
 unfold base at *
 simp only at *
 omega
theorem zDS {p : Plan} {c : Change} (h : c.kind = 4) : zAe p c = if 8 < (zAL p c.street).length + (zAL p c.other).length then 6 else if (zAL p c.street).any (fun x => decide (40 < x.number + base (zAL p c.other))) = true then 1 else 0 := by
 unfold zAe; rw [if_pos h]
@[go_sem] theorem zNf (n : Nat) : ((8 : Int) < (n : Int)) = (8 < n) := by simp; omega
def JoinP (p : Plan) (c : Change) (g : House → List House) (i : Nat) : Prop := Upd p c g ((zAL p c.street).take i) ∧ ∀ x, x ∈ (zAL p c.street).take i → x.number + base (zAL p c.other) ≤ 40
theorem JoinP.next {p : Plan} {c : Change} {g : House → List House} {i : Nat} (h : JoinP p c g i) (hi : i < (zAL p c.street).length) (hx : ((zAL p c.street).getD i default).number + base (zAL p c.other) ≤ 40) : JoinP p c (updG p c g ((zAL p c.street).getD i default)) (i + 1) := by
 have e := zAa (l := zAL p c.street) (i := i) hi
 refine ⟨by rw [e]; exact h.1.one _, fun x hm => ?_⟩
 rw [e] at hm
 rcases List.mem_append.1 hm with hm | hm
 ·exact h.2 x hm
 ·simp only [List.mem_cons, List.not_mem_nil, or_false] at hm; subst hm; exact hx
theorem zLu (p : Plan) (c : Change) (v : Valid p) (f : Pre p c) (k : c.kind = 4) : Spec Tryz.prog 172 [zAO p, c.enc, .mp 0] [.mapo (zAv p) (zAZ p fun h => [h])] (iV (zAe p c)) [outM p c] := by
  have hs0 := f.street.1
  have hs1 := f.street.2
  obtain ⟨ht0, ht1, _⟩ := f.other (.inl k)
  have hs : c.street.toNat < p.length := by omega
  have ht : c.other.toNat < p.length := by omega
  have hr := v.row c.street
  have hro := v.row c.other
  have hl8 := hr.len
  have ho8 := hro.len
  have hbb := zId hro
  have hwl : IntKind.i64.wrap (((zAL p c.street).length : Int) + ((zAL p c.other).length : Int)) = (((zAL p c.street).length + (zAL p c.other).length : Nat) : Int) := by rw [wrap_i64 (by omega) (by omega)]; omega
  have hwn : 0 < (zAL p c.other).length → IntKind.i64.wrap (((zAL p c.other).length : Int) - 1) = (((zAL p c.other).length - 1 : Nat) : Int) := fun h => by rw [wrap_i64 (by omega) (by omega)]; omega
  have hlt : 0 < (zAL p c.other).length → (zAL p c.other).length - 1 < (zAL p c.other).length := fun h => by omega
  have hwb : 0 < (zAL p c.other).length → IntKind.i64.wrap (((zAL p c.other).getD ((zAL p c.other).length - 1) default).number + ((zAL p c.other).getD ((zAL p c.other).length - 1) default).number.tmod 2) = base (zAL p c.other) := fun h => by
    have e := zKe hro h
    rw [← e, wrap_i64 (by omega) (by omega)]
  have hb0 : (zAL p c.other).length ≤ 0 → base (zAL p c.other) = 0 := fun h => by rw [List.eq_nil_of_length_eq_zero (by omega : (zAL p c.other).length = 0)]; rfl
  refine zAF Tryz.func172 rfl (fun E hE => ?_); simp only [go_sem, Tryz.ntmps172]
  repeat' (first | (show zAC ..; first | (refine Qr rfl ?_; try intro K' hK; try simp only [go_sem, *])) | (show Hold ..; first | refine Qh rfl ?_ | refine zAG rfl Tryz.mixed (by kernel_rfl) ?_ | (refine zAD rfl ⟨_, rfl, fun hb => ?_, fun hb => ?_⟩ <;> (have hc := hb; try simp only [go_sem] at hc)) | refine zAI rfl ?_) | (refine Qb ?_ ?_; focus kernel_rfl) | ((with_reducible refine And.intro ?_ ?_); focus omega) | (refine zAB hK ?_; clear hK K'; simp only [go_sem, *]) | (simp only [zAH, zAA, go_sem, *]))
  · have e : zAe p c = 6 := by rw [zDS k, if_pos (by omega)]
    have e2 : outM p c = .dead := by simp [outM, e]
    refine ⟨[_], [some 0], [], ⟨rfl, trivial⟩, ?_⟩
    simp only [go_sem, e, e2]
  all_goals
    have hnb : ¬ 8 < (zAL p c.street).length + (zAL p c.other).length := by omega
    refine zAQ rfl (fun zn zN zenv zAs => ∃ (i : Nat) (g : House → List House), zn = ((zAL p c.street).length) - i ∧ i ≤ ((zAL p c.street).length) ∧ (JoinP p c g i) ∧ zN = 76 ∧ zenv = [(51, iV i), (50, iV (zAL p c.street).length), (49, zAM (zAL p c.street)), (9, iV (base (zAL p c.other))), (4, .ptr 2 0), (3, .ptr 1 0), (2, .mp 0)] ∧ zAs = [.mapo (zAv p) (zAZ p g), pBox p, cBox c]) ((zAL p c.street).length) ⟨[some 0, some 1, some 2], [], _, _, _, (by (simp only [Weak, go_sem, List.map_append, List.map_set, *] <;> (try simp (disch := omega) only [zAE]) <;> (try simp) <;> (try omega))), 0, fun h => [h], (by simp), (by simp), (by exact ⟨Upd.nil _ _, by simp⟩), rfl, rfl, rfl⟩ ?_; rintro _ _ _ _ ⟨i, g, rfl, hi, hP, rfl, rfl, rfl⟩
    clear hb0 hwb hlt hwn hwl
    have hx : i < (zAL p c.street).length → 1 ≤ ((zAL p c.street).getD i default).number ∧ ((zAL p c.street).getD i default).number ≤ 40 := fun h => ((zA6 _).1 (hr.ok _ (zAT h))).1
    have hw1 : i < (zAL p c.street).length → IntKind.i64.wrap (((zAL p c.street).getD i default).number + base (zAL p c.other)) = ((zAL p c.street).getD i default).number + base (zAL p c.other) := fun h => by have := hx h; exact wrap_i64 (by omega) (by omega)
    repeat' (first | (show zAC ..; first | (refine Qr rfl ?_; try intro K' hK; try simp only [go_sem, *])) | (show Hold ..; first | refine Qh rfl ?_ | refine zAG rfl Tryz.mixed (by kernel_rfl) ?_ | (refine zAD rfl ⟨_, rfl, fun hb => ?_, fun hb => ?_⟩ <;> (have hc := hb; try simp only [go_sem] at hc)) | refine zAI rfl ?_) | (refine Qb ?_ ?_; focus kernel_rfl) | (show zAN ..; first | (refine zAK (zLm _ _ _) ?_ ?_; (focus (simp only [go_sem, *]; done)); simp only [go_sem, *])) | ((with_reducible refine And.intro ?_ ?_); focus omega) | (refine zAB hK ?_; clear hK K'; simp only [go_sem, *]) | (simp only [zAH, zAA, go_sem, *]))
    · have e : zAe p c = 1 := by
        rw [zDS k, if_neg hnb, if_pos]
        rw [List.any_eq_true]
        exact ⟨_, zAT (by assumption), by simpa using (by assumption : (40 : Int) < ((zAL p c.street).getD i default).number + base (zAL p c.other))⟩
      have e2 : outM p c = .dead := by simp [outM, e]
      refine ⟨[_], [some 0], [], ⟨rfl, trivial⟩, ?_⟩
      simp only [go_sem, e, e2]
    · refine zFy [⟨c.other, ⟨((zAL p c.street).getD i default).number + base (zAL p c.other), ((zAL p c.street).getD i default).letter⟩⟩] (g := g) (x := (zAL p c.street).getD i default) v hs0 hs1 (zAT (by assumption)) (by simp only [go_sem, *]) (by simp only [go_sem, *]) rfl rfl (by rw [zDK k]) ?_
      simp only [go_sem, *]
      repeat' (first | (show zAC ..; first | (refine Qr rfl ?_; try intro K' hK; try simp only [go_sem, *])) | (show Hold ..; first | refine Qh rfl ?_ | refine zAG rfl Tryz.mixed (by kernel_rfl) ?_ | (refine zAD rfl ⟨_, rfl, fun hb => ?_, fun hb => ?_⟩ <;> (have hc := hb; try simp only [go_sem] at hc)) | refine zAI rfl ?_) | (refine Qb ?_ ?_; focus kernel_rfl) | ((with_reducible refine And.intro ?_ ?_); focus omega) | (refine zAB hK ?_; clear hK K'; simp only [go_sem, *]) | (simp only [zAH, zAA, go_sem, *]))
      refine ⟨_, (by omega), [some 0, some 1, some 2], [], _, _, _, (by (simp only [Weak, go_sem, List.map_append, List.map_set, *] <;> (try simp (disch := omega) only [zAE]) <;> (try simp) <;> (try omega))), i + 1, updG p c g ((zAL p c.street).getD i default), rfl, (by omega), (by exact hP.next (by assumption) (by assumption)), rfl, rfl, rfl⟩
    · unfold JoinP at hP
      rw [List.take_of_length_le (by omega)] at hP
      have e0 := hP.1.fin (fun x hx hn => absurd hx hn)
      have e : zAe p c = 0 := by
        rw [zDS k, if_neg hnb, if_neg]
        rw [List.any_eq_true]
        rintro ⟨x, hx, h⟩
        have := hP.2 x hx
        simp at h; omega
      have e2 : outM p c = .mapo (zAv p) (zAZ p g) := by rw [e0]; simp [outM, e]
      refine ⟨[_], [some 0], [], ⟨rfl, trivial⟩, ?_⟩
      simp only [go_sem, e, e2]
end Go.Abs

namespace Go.Abs
open Go Go.Proofs
attribute [local irreducible] zAC Hold zAN
@[go_sem] theorem zMD {x : Plate} {l : List Plate} : (decide (x ∈ l) = false) = (x ∉ l) := by simp
theorem zLq (p : Plan) (c : Change) (v : Valid p) (f : Pre p c) (k : c.kind = 6) : Spec Tryz.prog 174 [zAO p, c.enc, .mp 0] [.mapo (zAv p) (zAZ p fun h => [h])] (iV (zAe p c)) [outM p c] := by
 have hs0 := f.street.1
 have hs1 := f.street.2
 have hs : c.street.toNat < p.length := by omega
 have hr := v.row c.street
 have hl8 := hr.len
 refine zAF Tryz.func174 rfl (fun E hE => ?_); simp only [go_sem, Tryz.ntmps174]
 repeat' (first | (show zAC ..; first | (refine Qr rfl ?_; try intro K' hK; try simp only [go_sem, *])) | (show Hold ..; first | refine Qh rfl ?_ | refine zAG rfl Tryz.mixed (by kernel_rfl) ?_ | (refine zAD rfl ⟨_, rfl, fun hb => ?_, fun hb => ?_⟩ <;> (have hc := hb; try simp only [go_sem] at hc)) | refine zAI rfl ?_) | (refine Qb ?_ ?_; focus kernel_rfl) | (show zAN ..; first | (refine zAK (zB1 (zAL p c.street) c.src (by omega)) ?_ ?_; (focus (simp only [go_sem, *]; done)); simp only [go_sem, *])) | ((with_reducible refine And.intro ?_ ?_); focus omega) | (refine zAB hK ?_; clear hK K'; simp only [go_sem, *]) | (simp only [zAH, zAA, go_sem, *]))
 ·have hm : c.src ∉ zAL p c.street := by assumption
  have e : zAe p c = 3 := by rw [zDR k, if_pos hm]
  have e2 : outM p c = .dead := by simp [outM, e]
  refine ⟨[_], [some 0], [], ⟨rfl, trivial⟩, ?_⟩
  simp only [go_sem, e, e2]
 ·have hm : c.src ∈ zAL p c.street := by assumption
  refine zKU (g := fun h => [h]) v hs0 hs1 hm (by simp only [go_sem]) (by rw [zCy k, if_pos rfl]) ?_
  simp only [go_sem, *]
  repeat' (first | (show zAC ..; first | (refine Qr rfl ?_; try intro K' hK; try simp only [go_sem, *])) | (show Hold ..; first | refine Qh rfl ?_ | refine zAG rfl Tryz.mixed (by kernel_rfl) ?_ | (refine zAD rfl ⟨_, rfl, fun hb => ?_, fun hb => ?_⟩ <;> (have hc := hb; try simp only [go_sem] at hc)) | refine zAI rfl ?_) | (refine Qb ?_ ?_; focus kernel_rfl) | ((with_reducible refine And.intro ?_ ?_); focus omega) | (refine zAB hK ?_; clear hK K'; simp only [go_sem, *]) | (simp only [zAH, zAA, go_sem, *]))
  have e : zAe p c = 0 := by rw [zDR k, if_neg (fun h => h hm)]
  have e0 := ((Upd.nil p c).one c.src).fin (fun x hx hn => by
   have : ¬ x = c.src := fun h => hn (by simp [h])
   rw [zCy k, if_neg this])
  have e2 : outM p c = .mapo (zAv p) (zAZ p (updG p c (fun h => [h]) c.src)) := by rw [e0]; simp [outM, e]
  refine ⟨[_], [some 0], [], ⟨rfl, trivial⟩, ?_⟩
  simp only [go_sem, e, e2]
theorem zIz {l : List Plate} {n : Int} (h : ∀ j : Nat, j < 4 → (⟨n, (j : Int) + 1⟩ : Plate) ∈ l) : letter l n = 0 := by
 have h0 := h 0; have h1 := h 1; have h2 := h 2; have h3 := h 3
 simp_all [letter]
@[go_sem] theorem zNe (n : Nat) : ((8 : Int) ≤ (n : Int)) = (8 ≤ n) := by simp; omega
theorem zKO (p : Plan) (c : Change) (v : Valid p) (f : Pre p c) (k : c.kind = 5) : Spec Tryz.prog 173 [zAO p, c.enc, .mp 0] [.mapo (zAv p) (zAZ p fun h => [h])] (iV (zAe p c)) [outM p c] := by
  have hs0 := f.street.1
  have hs1 := f.street.2
  have hs : c.street.toNat < p.length := by omega
  have hr := v.row c.street
  have hl8 := hr.len
  refine zAF Tryz.func173 rfl (fun E hE => ?_); simp only [go_sem, Tryz.ntmps173]
  repeat' (first | (show zAC ..; first | (refine Qr rfl ?_; try intro K' hK; try simp only [go_sem, *]) | (refine Qi rfl rfl rfl rfl (fun hb K' hK => ?_) (fun hb => ?_) <;> (have hc := hb; try simp only [go_sem] at hc; simp only [go_sem, *]))) | (show Hold ..; first | refine Qh rfl ?_ | refine zAG rfl Tryz.mixed (by kernel_rfl) ?_ | (refine zAD rfl ⟨_, rfl, fun hb => ?_, fun hb => ?_⟩ <;> (have hc := hb; try simp only [go_sem] at hc)) | refine zAI rfl ?_) | (refine Qb ?_ ?_; focus kernel_rfl) | (show zAN ..; first | (refine zAK (zB1 (zAL p c.street) c.src (by omega)) ?_ ?_; (focus (simp only [go_sem, *]; done)); simp only [go_sem, *])) | ((with_reducible refine And.intro ?_ ?_); focus omega) | (refine zAB hK ?_; clear hK K'; simp only [go_sem, *]) | (simp only [zAH, zAA, go_sem, *]))
  · have hm : c.src ∉ zAL p c.street := by assumption
    have e : zAe p c = 3 := by rw [zBa k, if_pos hm]
    have e2 : outM p c = .dead := by simp [outM, e]
    refine ⟨[_], [some 0], [], ⟨rfl, trivial⟩, ?_⟩
    simp only [go_sem, e, e2]
  · have hm : c.src ∈ zAL p c.street := by assumption
    refine zAQ rfl (fun zn zN zenv zAs => ∃ (i : Nat), zn = (4) - i ∧ i ≤ (4) ∧ (∀ j : Nat, j < i → (⟨c.src.number, (j : Int) + 1⟩ : Plate) ∈ zAL p c.street) ∧ zN = 53 ∧ zenv = [(8, iV ((i : Int) + 1)), (7, zAM (zAL p c.street)), (4, .ptr 2 0), (3, .ptr 1 0), (2, .mp 0)] ∧ zAs = [.mapo (zAv p) (zAZ p fun h => [h]), pBox p, cBox c]) (4) ⟨[some 0, some 1, some 2], [], _, _, _, (by (simp only [Weak, go_sem, List.map_append, List.map_set, *] <;> (try simp (disch := omega) only [zAE]) <;> (try simp) <;> (try omega))), 0, (by simp), (by simp), (by simp), rfl, rfl, rfl⟩ ?_; rintro _ _ _ _ ⟨i, rfl, hi, hP, rfl, rfl, rfl⟩
    have hw : i ≤ 4 → IntKind.i64.wrap ((i : Int) + 1 + 1) = (((i + 1 : Nat) : Int) + 1) := fun h => by rw [wrap_i64 (by omega) (by omega)]; omega
    repeat' (first | (show zAC ..; first | (refine Qr rfl ?_; try intro K' hK; try simp only [go_sem, *]) | (refine Qi rfl rfl rfl rfl (fun hb K' hK => ?_) (fun hb => ?_) <;> (have hc := hb; try simp only [go_sem] at hc; simp only [go_sem, *]))) | (show Hold ..; first | refine Qh rfl ?_ | refine zAG rfl Tryz.mixed (by kernel_rfl) ?_ | (refine zAD rfl ⟨_, rfl, fun hb => ?_, fun hb => ?_⟩ <;> (have hc := hb; try simp only [go_sem] at hc)) | refine zAI rfl ?_) | (refine Qb ?_ ?_; focus kernel_rfl) | (show zAN ..; first | ((first | refine zAK (zB1 (zAL p c.street) ⟨c.src.number, (i : Int) + 1⟩ (by omega)) ?_ ?_ | refine zAK (zLm _ _ _) ?_ ?_); (focus (simp only [go_sem, *]; done)); simp only [go_sem, *])) | ((with_reducible refine And.intro ?_ ?_); focus omega) | (refine zAB hK ?_; clear hK K'; simp only [go_sem, *]) | (simp only [zAH, zAA, go_sem, *]))
    · have hx : (⟨c.src.number, (i : Int) + 1⟩ : Plate) ∈ zAL p c.street := by assumption
      have hok := (zA6 _).1 (hr.ok _ hx)
      simp only at hok
      have hi4 : i < 4 := by omega
      refine ⟨_, (by omega), [some 0, some 1, some 2], [], _, _, _, (by (simp only [Weak, go_sem, List.map_append, List.map_set, *] <;> (try simp (disch := omega) only [zAE]) <;> (try simp) <;> (try omega))), i + 1, rfl, (by omega), (fun j hj => ?_), rfl, rfl, rfl⟩
      rcases Nat.lt_succ_iff_lt_or_eq.1 hj with h | h
      · exact hP j h
      · subst h; exact hx
    · have hn : (⟨c.src.number, (i : Int) + 1⟩ : Plate) ∉ zAL p c.street := by assumption
      have e : zAe p c = 6 := by
        have h4 : i = 4 := by omega
        subst h4
        rw [zBa k, if_neg (fun h => h hm), if_pos (.inr (zIz hP))]
      have e2 : outM p c = .dead := by simp [outM, e]
      refine ⟨[_], [some 0], [], ⟨rfl, trivial⟩, ?_⟩
      simp only [go_sem, e, e2]
    · have hn : (⟨c.src.number, (i : Int) + 1⟩ : Plate) ∉ zAL p c.street := by assumption
      have hi4 : i < 4 := by omega
      have hlet := zH3 hi4 hP hn
      refine zFy [⟨c.street, c.src⟩, ⟨c.street, ⟨c.src.number, (i : Int) + 1⟩⟩] (g := fun h => [h]) v hs0 hs1 hm (by simp only [go_sem]) (by simp only [go_sem]) rfl rfl (by rw [zBV k, if_pos rfl, hlet]) ?_
      simp only [go_sem, *]
      repeat' (first | (show zAC ..; first | (refine Qr rfl ?_; try intro K' hK; try simp only [go_sem, *]) | (refine Qi rfl rfl rfl rfl (fun hb K' hK => ?_) (fun hb => ?_) <;> (have hc := hb; try simp only [go_sem] at hc; simp only [go_sem, *]))) | (show Hold ..; first | refine Qh rfl ?_ | refine zAG rfl Tryz.mixed (by kernel_rfl) ?_ | (refine zAD rfl ⟨_, rfl, fun hb => ?_, fun hb => ?_⟩ <;> (have hc := hb; try simp only [go_sem] at hc)) | refine zAI rfl ?_) | (refine Qb ?_ ?_; focus kernel_rfl) | ((with_reducible refine And.intro ?_ ?_); focus omega) | (refine zAB hK ?_; clear hK K'; simp only [go_sem, *]) | (simp only [zAH, zAA, go_sem, *]))
      have e : zAe p c = 0 := by rw [zBa k, if_neg (fun h => h hm), if_neg (by omega)]
      have e0 := ((Upd.nil p c).one c.src).fin (fun x hx hn => by
        have : ¬ x = c.src := fun h => hn (by simp [h])
        rw [zBV k, if_neg this])
      have e2 : outM p c = .mapo (zAv p) (zAZ p (updG p c (fun h => [h]) c.src)) := by rw [e0]; simp [outM, e]
      refine ⟨[_], [some 0], [], ⟨rfl, trivial⟩, ?_⟩
      simp only [go_sem, e, e2]
    · have e : zAe p c = 6 := by
        rw [zBa k, if_neg (fun h => h hm), if_pos (.inl (by omega))]
      have e2 : outM p c = .dead := by simp [outM, e]
      refine ⟨[_], [some 0], [], ⟨rfl, trivial⟩, ?_⟩
      simp only [go_sem, e, e2]
end Go.Abs

namespace Go.Abs
open Go Go.Proofs
attribute [local irreducible] zAC Hold zAN
@[go_sem] theorem zNi (n : Nat) : ((n : Int) < 0) = False := by simp
@[go_sem] theorem zM7 : decide False = false := rfl
@[go_sem] theorem zQw : ((-1 : Int) < 0) = True := by simp
theorem zKN (p : Plan) (c : Change) (v : Valid p) (f : Pre p c) (k : c.kind = 7) : Spec Tryz.prog 175 [zAO p, c.enc, .mp 0] [.mapo (zAv p) (zAZ p fun h => [h])] (iV (zAe p c)) [outM p c] := by
 have hs0 := f.street.1
 have hs1 := f.street.2
 obtain ⟨ht0, ht1, hne⟩ := f.other (.inr k)
 have hs : c.street.toNat < p.length := by omega
 have ht : c.other.toNat < p.length := by omega
 have hr := v.row c.street
 have hl8 := hr.len
 have ho8 := (v.row c.other).len
 have fail : ∀ n : Int, zAe p c = n → n ≠ 0 → outM p c = .dead := fun n e h => by simp [outM, e, h]
 by_cases hm : c.src ∈ zAL p c.street
 ·have hA := zBI hm
  have hAl := zBt hm
  by_cases hd : c.dst ∈ zAL p c.street
  ·have hB := zBI hd
   have hBl := zBt hd
   have hcmp := zCF hr.sorted hd hm
   generalize hAe : (zAL p c.street).idxOf c.src = A at *
   generalize hBe : (zAL p c.street).idxOf c.dst = B at *
   have hf := zCK (p := p) k
   rw [if_neg (by simp [hm, hd])] at hf
   have hwB : IntKind.i64.wrap ((B : Int) + 1) = ((B + 1 : Nat) : Int) := zAE (by omega)
   obtain ⟨l', hl'⟩ : ∃ l', l' = ((zAL p c.street).drop A).take (B + 1 - A) := ⟨_, rfl⟩
   have hll : ¬ B < A → l'.length = B + 1 - A := fun h => by rw [hl']; simp; omega
   by_cases hlt : B < A
   ·rw [if_pos (hcmp.2 hlt)] at hf
    have e2 := fail _ hf (by omega)
    refine zAF Tryz.func175 rfl (fun E hE => ?_); simp only [go_sem, Tryz.ntmps175]
    repeat' (first | (show zAC ..; first | (refine Qr rfl ?_; try intro K' hK; try simp only [go_sem, *]) | (refine Qi rfl rfl rfl rfl (fun hb K' hK => ?_) (fun hb => ?_) <;> (have hc := hb; try simp only [go_sem] at hc; simp only [go_sem, *]))) | (show Hold ..; first | refine Qh rfl ?_ | refine zAG rfl Tryz.mixed (by kernel_rfl) ?_ | (refine zAD rfl ⟨_, rfl, fun hb => ?_, fun hb => ?_⟩ <;> (have hc := hb; try simp only [go_sem] at hc)) | refine zAI rfl ?_) | (refine Qb ?_ ?_; focus kernel_rfl) | (show zAN ..; first | ((first | refine zAK (zAh (zAL p c.street) c.src (by omega)) ?_ ?_ | refine zAK (zAh (zAL p c.street) c.dst (by omega)) ?_ ?_); (focus (simp only [go_sem, *]; done)); simp only [go_sem, *])) | ((with_reducible refine And.intro ?_ ?_); focus omega) | (refine zAB hK ?_; clear hK K'; simp only [go_sem, *]) | (simp only [zAH, zAA, go_sem, *]))
    all_goals first | (exfalso; omega) | (refine ⟨[_], [some 0], [], ⟨rfl, trivial⟩, ?_⟩; simp only [go_sem, *])
   ·rw [if_neg (fun h => hlt (hcmp.1 h))] at hf
    by_cases ho : 0 < (zAL p c.other).length
    ·rw [if_pos ho] at hf
     have e2 := fail _ hf (by omega)
     refine zAF Tryz.func175 rfl (fun E hE => ?_); simp only [go_sem, Tryz.ntmps175]
     repeat' (first | (show zAC ..; first | (refine Qr rfl ?_; try intro K' hK; try simp only [go_sem, *]) | (refine Qi rfl rfl rfl rfl (fun hb K' hK => ?_) (fun hb => ?_) <;> (have hc := hb; try simp only [go_sem] at hc; simp only [go_sem, *]))) | (show Hold ..; first | refine Qh rfl ?_ | refine zAG rfl Tryz.mixed (by kernel_rfl) ?_ | (refine zAD rfl ⟨_, rfl, fun hb => ?_, fun hb => ?_⟩ <;> (have hc := hb; try simp only [go_sem] at hc)) | refine zAI rfl ?_) | (refine Qb ?_ ?_; focus kernel_rfl) | (show zAN ..; first | ((first | refine zAK (zAh (zAL p c.street) c.src (by omega)) ?_ ?_ | refine zAK (zAh (zAL p c.street) c.dst (by omega)) ?_ ?_); (focus (simp only [go_sem, *]; done)); simp only [go_sem, *])) | ((with_reducible refine And.intro ?_ ?_); focus omega) | (refine zAB hK ?_; clear hK K'; simp only [go_sem, *]) | (simp only [zAH, zAA, go_sem, *]))
     all_goals first | (exfalso; omega) | (refine ⟨[_], [some 0], [], ⟨rfl, trivial⟩, ?_⟩; simp only [go_sem, *])
    ·rw [if_neg ho] at hf
     have hAB : A ≤ B + 1 := by omega
     have hll := hll hlt
     have hm' : List.take (B + 1 - A) (List.drop A ((zAL p c.street).map Plate.enc)) = l'.map Plate.enc := by rw [hl', List.map_take, List.map_drop]
     have hget : ∀ i, i < l'.length → ∃ h : A + i < (zAL p c.street).length, l'.getD i default = (zAL p c.street)[A + i] := fun i hi => by
      have h : A + i < (zAL p c.street).length := by omega
      refine ⟨h, ?_⟩
      rw [hl']
      simp only [List.getD_eq_getElem?_getD, List.getElem?_take, List.getElem?_drop]
      rw [if_pos (by omega), List.getElem?_eq_getElem h]; rfl
     have hidx : ∀ i (h : i < (zAL p c.street).length), (zAL p c.street).idxOf (zAL p c.street)[i] = i := fun i h => by
      have := zDm (List.getElem_mem h)
      exact (zBi hr.nodup).1 this
     have hcond : ∀ x, x ∈ zAL p c.street → ((x.lt c.src = false ∧ c.dst.lt x = false) ↔ A ≤ (zAL p c.street).idxOf x ∧ (zAL p c.street).idxOf x ≤ B) := fun x hx => by
      have h1 := zCF hr.sorted hx hm
      have h2 := zCF hr.sorted hd hx
      rw [hAe] at h1; rw [hBe] at h2
      rw [← Bool.not_eq_true, ← Bool.not_eq_true, h1, h2]; omega
     have htoP : ∀ i, i < l'.length → toP p c (l'.getD i default) = [⟨c.other, ⟨(i : Int) + 1, 0⟩⟩] ∧ l'.getD i default ∈ zAL p c.street := fun i hi => by
      obtain ⟨h, e⟩ := hget i hi
      rw [e]
      have hmx := List.getElem_mem h
      have hix := hidx _ h
      refine ⟨?_, hmx⟩
      rw [zCX k, if_pos ((hcond _ hmx).2 (by rw [hix]; omega)), zBI hmx, hA, hix]
      congr 3; omega
     have hcov : ∀ x, x ∈ zAL p c.street → x ∉ l' → toP p c x = [⟨c.street, x⟩] := fun x hx hn => by
      rw [zCX k, if_neg]
      rw [hcond x hx]
      rintro ⟨h1, h2⟩
      apply hn
      have hi : (zAL p c.street).idxOf x - A < l'.length := by omega
      obtain ⟨h, e⟩ := hget _ hi
      have : (zAL p c.street)[A + ((zAL p c.street).idxOf x - A)] = x := by
       have h4 : A + ((zAL p c.street).idxOf x - A) = (zAL p c.street).idxOf x := by omega
       simp only [h4]; exact zDm hx
      rw [this] at e
      rw [← e]; exact zAT hi
     clear hget hidx hcond hl'
     have hB8 : B + 1 ≤ (zAL p c.street).length := by omega
     refine zAF Tryz.func175 rfl (fun E hE => ?_); simp only [go_sem, Tryz.ntmps175]
     repeat' (first | (show zAC ..; first | (refine Qr rfl ?_; try intro K' hK; try simp only [go_sem, *]) | (refine Qi rfl rfl rfl rfl (fun hb K' hK => ?_) (fun hb => ?_) <;> (have hc := hb; try simp only [go_sem] at hc; simp only [go_sem, *]))) | (show Hold ..; first | refine Qh rfl ?_ | refine zAG rfl Tryz.mixed (by kernel_rfl) ?_ | (refine zAD rfl ⟨_, rfl, fun hb => ?_, fun hb => ?_⟩ <;> (have hc := hb; try simp only [go_sem] at hc)) | refine zAI rfl ?_) | (refine Qb ?_ ?_; focus kernel_rfl) | (show zAN ..; first | ((first | refine zAK (zAh (zAL p c.street) c.src (by omega)) ?_ ?_ | refine zAK (zAh (zAL p c.street) c.dst (by omega)) ?_ ?_); (focus (simp only [go_sem, *]; done)); simp only [go_sem, *])) | ((with_reducible refine And.intro ?_ ?_); focus omega) | (refine zAB hK ?_; clear hK K'; simp only [go_sem, *]) | (simp only [zAH, zAA, go_sem, *]))
     all_goals first | (exfalso; omega) | skip
     refine ⟨fun y hy => by obtain ⟨x, _, rfl⟩ := List.mem_map.1 hy; rfl, ?_⟩
     try rw [hm']
     repeat' (first | (show zAC ..; first | (refine Qr rfl ?_; try intro K' hK; try simp only [go_sem, *]) | (refine Qi rfl rfl rfl rfl (fun hb K' hK => ?_) (fun hb => ?_) <;> (have hc := hb; try simp only [go_sem] at hc; simp only [go_sem, *]))) | (show Hold ..; first | refine Qh rfl ?_ | refine zAG rfl Tryz.mixed (by kernel_rfl) ?_ | (refine zAD rfl ⟨_, rfl, fun hb => ?_, fun hb => ?_⟩ <;> (have hc := hb; try simp only [go_sem] at hc)) | refine zAI rfl ?_) | (refine Qb ?_ ?_; focus kernel_rfl) | ((with_reducible refine And.intro ?_ ?_); focus omega) | (refine zAB hK ?_; clear hK K'; simp only [go_sem, *]) | (simp only [zAH, zAA, go_sem, *]))
     refine zAQ rfl (fun zn zN zenv zAs => ∃ (i : Nat) (g : House → List House), zn = (l'.length) - i ∧ i ≤ (l'.length) ∧ (Upd p c g (l'.take i)) ∧ zN = 69 ∧ zenv = [(52, iV i), (51, iV l'.length), (50, zAM l'), (4, .ptr 2 0), (3, .ptr 1 0), (2, .mp 0)] ∧ zAs = [.mapo (zAv p) (zAZ p g), pBox p, cBox c]) (l'.length) ⟨[some 0, some 1, some 2], [], _, _, _, (by (simp only [Weak, go_sem, List.map_append, List.map_set, *] <;> (try simp (disch := omega) only [zAE]) <;> (try simp) <;> (try omega))), 0, fun h => [h], (by simp), (by simp), (by exact Upd.nil _ _), rfl, rfl, rfl⟩ ?_; rintro _ _ _ _ ⟨i, g, rfl, hi, hP, rfl, rfl, rfl⟩
     have hw : i < l'.length → IntKind.i64.wrap ((i : Int) + 1) = (i : Int) + 1 := fun h => wrap_i64 (by omega) (by omega)
     repeat' (first | (show zAC ..; first | (refine Qr rfl ?_; try intro K' hK; try simp only [go_sem, *]) | (refine Qi rfl rfl rfl rfl (fun hb K' hK => ?_) (fun hb => ?_) <;> (have hc := hb; try simp only [go_sem] at hc; simp only [go_sem, *]))) | (show Hold ..; first | refine Qh rfl ?_ | refine zAG rfl Tryz.mixed (by kernel_rfl) ?_ | (refine zAD rfl ⟨_, rfl, fun hb => ?_, fun hb => ?_⟩ <;> (have hc := hb; try simp only [go_sem] at hc)) | refine zAI rfl ?_) | (refine Qb ?_ ?_; focus kernel_rfl) | (show zAN ..; first | (refine zAK (zLm _ _ _) ?_ ?_; (focus (simp only [go_sem, *]; done)); simp only [go_sem, *])) | ((with_reducible refine And.intro ?_ ?_); focus omega) | (refine zAB hK ?_; clear hK K'; simp only [go_sem, *]) | (simp only [zAH, zAA, go_sem, *]))
     ·obtain ⟨q1, q2⟩ := htoP i (by omega)
      refine zFy [⟨c.other, ⟨(i : Int) + 1, 0⟩⟩] (g := g) (x := l'.getD i default) v hs0 hs1 q2 (by simp only [go_sem, *]) (by simp only [go_sem, *]) rfl rfl q1 ?_
      simp only [go_sem, *]
      repeat' (first | (show zAC ..; first | (refine Qr rfl ?_; try intro K' hK; try simp only [go_sem, *]) | (refine Qi rfl rfl rfl rfl (fun hb K' hK => ?_) (fun hb => ?_) <;> (have hc := hb; try simp only [go_sem] at hc; simp only [go_sem, *]))) | (show Hold ..; first | refine Qh rfl ?_ | refine zAG rfl Tryz.mixed (by kernel_rfl) ?_ | (refine zAD rfl ⟨_, rfl, fun hb => ?_, fun hb => ?_⟩ <;> (have hc := hb; try simp only [go_sem] at hc)) | refine zAI rfl ?_) | (refine Qb ?_ ?_; focus kernel_rfl) | ((with_reducible refine And.intro ?_ ?_); focus omega) | (refine zAB hK ?_; clear hK K'; simp only [go_sem, *]) | (simp only [zAH, zAA, go_sem, *]))
      have e := zAa (l := l') (i := i) (by omega)
      refine ⟨_, (by omega), [some 0, some 1, some 2], [], _, _, _, (by (simp only [Weak, go_sem, List.map_append, List.map_set, *] <;> (try simp (disch := omega) only [zAE]) <;> (try simp) <;> (try omega))), i + 1, updG p c g (l'.getD i default), rfl, (by omega), (by rw [e]; exact hP.one _), rfl, rfl, rfl⟩
     ·rw [List.take_of_length_le (by omega)] at hP
      have e0 := hP.fin hcov
      have e2 : outM p c = .mapo (zAv p) (zAZ p g) := by rw [e0]; simp [outM, hf]
      refine ⟨[_], [some 0], [], ⟨rfl, trivial⟩, ?_⟩
      simp only [go_sem, hf, e2]
  ·have hf : zAe p c = 3 := by rw [zCK k, if_pos (.inr hd)]
   have e2 := fail _ hf (by omega)
   have hB := zDU hd
   refine zAF Tryz.func175 rfl (fun E hE => ?_); simp only [go_sem, Tryz.ntmps175]
   repeat' (first | (show zAC ..; first | (refine Qr rfl ?_; try intro K' hK; try simp only [go_sem, *]) | (refine Qi rfl rfl rfl rfl (fun hb K' hK => ?_) (fun hb => ?_) <;> (have hc := hb; try simp only [go_sem] at hc; simp only [go_sem, *]))) | (show Hold ..; first | refine Qh rfl ?_ | refine zAG rfl Tryz.mixed (by kernel_rfl) ?_ | (refine zAD rfl ⟨_, rfl, fun hb => ?_, fun hb => ?_⟩ <;> (have hc := hb; try simp only [go_sem] at hc)) | refine zAI rfl ?_) | (refine Qb ?_ ?_; focus kernel_rfl) | (show zAN ..; first | ((first | refine zAK (zAh (zAL p c.street) c.src (by omega)) ?_ ?_ | refine zAK (zAh (zAL p c.street) c.dst (by omega)) ?_ ?_); (focus (simp only [go_sem, *]; done)); simp only [go_sem, *])) | ((with_reducible refine And.intro ?_ ?_); focus omega) | (refine zAB hK ?_; clear hK K'; simp only [go_sem, *]) | (simp only [zAH, zAA, go_sem, *]))
   all_goals first | (exfalso; omega) | (refine ⟨[_], [some 0], [], ⟨rfl, trivial⟩, ?_⟩; simp only [go_sem, *])
 ·have hf : zAe p c = 3 := by rw [zCK k, if_pos (.inl hm)]
  have e2 := fail _ hf (by omega)
  have hA := zDU hm
  refine zAF Tryz.func175 rfl (fun E hE => ?_); simp only [go_sem, Tryz.ntmps175]
  repeat' (first | (show zAC ..; first | (refine Qr rfl ?_; try intro K' hK; try simp only [go_sem, *]) | (refine Qi rfl rfl rfl rfl (fun hb K' hK => ?_) (fun hb => ?_) <;> (have hc := hb; try simp only [go_sem] at hc; simp only [go_sem, *]))) | (show Hold ..; first | refine Qh rfl ?_ | refine zAG rfl Tryz.mixed (by kernel_rfl) ?_ | (refine zAD rfl ⟨_, rfl, fun hb => ?_, fun hb => ?_⟩ <;> (have hc := hb; try simp only [go_sem] at hc)) | refine zAI rfl ?_) | (refine Qb ?_ ?_; focus kernel_rfl) | (show zAN ..; first | ((first | refine zAK (zAh (zAL p c.street) c.src (by omega)) ?_ ?_ | refine zAK (zAh (zAL p c.street) c.dst (by omega)) ?_ ?_); (focus (simp only [go_sem, *]; done)); simp only [go_sem, *])) | ((with_reducible refine And.intro ?_ ?_); focus omega) | (refine zAB hK ?_; clear hK K'; simp only [go_sem, *]) | (simp only [zAH, zAA, go_sem, *]))
  all_goals first | (exfalso; omega) | (refine ⟨[_], [some 0], [], ⟨rfl, trivial⟩, ?_⟩; simp only [go_sem, *])
end Go.Abs

namespace Go.Abs
open Go Go.Proofs
attribute [local irreducible] zAC Hold zAN
theorem zMJ (p : Plan) (c : Change) (hl : p.length ≤ 1000) (hbk : betw c.kind 1 7 = false) : Spec Tryz.prog 125 [zAO p, c.enc] [] (.tup [.raw (.map none), iV 8]) [] := by
 have hwl : IntKind.i64.wrap ((p.length : Int) - 1) = (p.length : Int) - 1 := wrap_i64 (by omega) (by omega)
 refine zAF Tryz.func125 rfl (fun E hE => ?_); simp only [go_sem, Tryz.ntmps125]
 repeat' (first | (show zAC ..; first | (refine Qr rfl ?_; try intro K' hK; try simp only [go_sem, *]) | (refine Qi rfl rfl rfl rfl (fun hb K' hK => ?_) (fun hb => ?_) <;> (have hc := hb; try simp only [go_sem] at hc; simp only [go_sem, *]))) | (show Hold ..; first | refine Qh rfl ?_ | refine zAG rfl Tryz.mixed (by kernel_rfl) ?_ | (refine zAD rfl ⟨_, rfl, fun hb => ?_, fun hb => ?_⟩ <;> (have hc := hb; try simp only [go_sem] at hc)) | refine zAI rfl ?_) | (refine Qb ?_ ?_; focus kernel_rfl) | (show zAN ..; first | (refine zAK (zAd _ _ _) ?_ ?_; (focus (simp only [go_sem, *]; done)); simp only [go_sem, *])) | ((with_reducible refine And.intro ?_ ?_); focus omega) | (refine zAB hK ?_; clear hK K'; simp only [go_sem, *]) | (simp only [zAH, zAA, go_sem, *]))
 all_goals (refine ⟨[_, _], [], [], ⟨rfl, rfl, trivial⟩, ?_⟩; simp only [go_sem, *])
theorem zJr (p : Plan) (c : Change) (hl : p.length ≤ 1000) (hbk : betw c.kind 1 7 = true) (hbs : betw c.street 0 ((p.length : Int) - 1) = false) : Spec Tryz.prog 125 [zAO p, c.enc] [] (.tup [.raw (.map none), iV 3]) [] := by
 have hwl : IntKind.i64.wrap ((p.length : Int) - 1) = (p.length : Int) - 1 := wrap_i64 (by omega) (by omega)
 refine zAF Tryz.func125 rfl (fun E hE => ?_); simp only [go_sem, Tryz.ntmps125]
 repeat' (first | (show zAC ..; first | (refine Qr rfl ?_; try intro K' hK; try simp only [go_sem, *]) | (refine Qi rfl rfl rfl rfl (fun hb K' hK => ?_) (fun hb => ?_) <;> (have hc := hb; try simp only [go_sem] at hc; simp only [go_sem, *]))) | (show Hold ..; first | refine Qh rfl ?_ | refine zAG rfl Tryz.mixed (by kernel_rfl) ?_ | (refine zAD rfl ⟨_, rfl, fun hb => ?_, fun hb => ?_⟩ <;> (have hc := hb; try simp only [go_sem] at hc)) | refine zAI rfl ?_) | (refine Qb ?_ ?_; focus kernel_rfl) | (show zAN ..; first | (refine zAK (zAd _ _ _) ?_ ?_; (focus (simp only [go_sem, *]; done)); simp only [go_sem, *])) | ((with_reducible refine And.intro ?_ ?_); focus omega) | (refine zAB hK ?_; clear hK K'; simp only [go_sem, *]) | (simp only [zAH, zAA, go_sem, *]))
 all_goals (refine ⟨[_, _], [], [], ⟨rfl, rfl, trivial⟩, ?_⟩; simp only [go_sem, *])
theorem zOu (p : Plan) (c : Change) (hl : p.length ≤ 1000) (hbk : betw c.kind 1 7 = true) (hbs : betw c.street 0 ((p.length : Int) - 1) = true) (hk4 : (c.kind == 4) = true) (hbo : betw c.other 0 ((p.length : Int) - 1) = false) : Spec Tryz.prog 125 [zAO p, c.enc] [] (.tup [.raw (.map none), iV 3]) [] := by
 have hwl : IntKind.i64.wrap ((p.length : Int) - 1) = (p.length : Int) - 1 := wrap_i64 (by omega) (by omega)
 refine zAF Tryz.func125 rfl (fun E hE => ?_); simp only [go_sem, Tryz.ntmps125]
 repeat' (first | (show zAC ..; first | (refine Qr rfl ?_; try intro K' hK; try simp only [go_sem, *]) | (refine Qi rfl rfl rfl rfl (fun hb K' hK => ?_) (fun hb => ?_) <;> (have hc := hb; try simp only [go_sem] at hc; simp only [go_sem, *]))) | (show Hold ..; first | refine Qh rfl ?_ | refine zAG rfl Tryz.mixed (by kernel_rfl) ?_ | (refine zAD rfl ⟨_, rfl, fun hb => ?_, fun hb => ?_⟩ <;> (have hc := hb; try simp only [go_sem] at hc)) | refine zAI rfl ?_) | (refine Qb ?_ ?_; focus kernel_rfl) | (show zAN ..; first | (refine zAK (zAd _ _ _) ?_ ?_; (focus (simp only [go_sem, *]; done)); simp only [go_sem, *])) | ((with_reducible refine And.intro ?_ ?_); focus omega) | (refine zAB hK ?_; clear hK K'; simp only [go_sem, *]) | (simp only [zAH, zAA, go_sem, *]))
 all_goals (refine ⟨[_, _], [], [], ⟨rfl, rfl, trivial⟩, ?_⟩; simp only [go_sem, *])
theorem zOv (p : Plan) (c : Change) (hl : p.length ≤ 1000) (hbk : betw c.kind 1 7 = true) (hbs : betw c.street 0 ((p.length : Int) - 1) = true) (hk4 : (c.kind == 4) = false) (hk7 : (c.kind == 7) = true) (hbo : betw c.other 0 ((p.length : Int) - 1) = false) : Spec Tryz.prog 125 [zAO p, c.enc] [] (.tup [.raw (.map none), iV 3]) [] := by
 have hwl : IntKind.i64.wrap ((p.length : Int) - 1) = (p.length : Int) - 1 := wrap_i64 (by omega) (by omega)
 refine zAF Tryz.func125 rfl (fun E hE => ?_); simp only [go_sem, Tryz.ntmps125]
 repeat' (first | (show zAC ..; first | (refine Qr rfl ?_; try intro K' hK; try simp only [go_sem, *]) | (refine Qi rfl rfl rfl rfl (fun hb K' hK => ?_) (fun hb => ?_) <;> (have hc := hb; try simp only [go_sem] at hc; simp only [go_sem, *]))) | (show Hold ..; first | refine Qh rfl ?_ | refine zAG rfl Tryz.mixed (by kernel_rfl) ?_ | (refine zAD rfl ⟨_, rfl, fun hb => ?_, fun hb => ?_⟩ <;> (have hc := hb; try simp only [go_sem] at hc)) | refine zAI rfl ?_) | (refine Qb ?_ ?_; focus kernel_rfl) | (show zAN ..; first | (refine zAK (zAd _ _ _) ?_ ?_; (focus (simp only [go_sem, *]; done)); simp only [go_sem, *])) | ((with_reducible refine And.intro ?_ ?_); focus omega) | (refine zAB hK ?_; clear hK K'; simp only [go_sem, *]) | (simp only [zAH, zAA, go_sem, *]))
 all_goals (refine ⟨[_, _], [], [], ⟨rfl, rfl, trivial⟩, ?_⟩; simp only [go_sem, *])
theorem zOw (p : Plan) (c : Change) (hl : p.length ≤ 1000) (hbk : betw c.kind 1 7 = true) (hbs : betw c.street 0 ((p.length : Int) - 1) = true) (hk4 : (c.kind == 4) = true) (hbo : betw c.other 0 ((p.length : Int) - 1) = true) (hrp : (c.other == c.street) = true) : Spec Tryz.prog 125 [zAO p, c.enc] [] (.tup [.raw (.map none), iV 4]) [] := by
 have hwl : IntKind.i64.wrap ((p.length : Int) - 1) = (p.length : Int) - 1 := wrap_i64 (by omega) (by omega)
 refine zAF Tryz.func125 rfl (fun E hE => ?_); simp only [go_sem, Tryz.ntmps125]
 repeat' (first | (show zAC ..; first | (refine Qr rfl ?_; try intro K' hK; try simp only [go_sem, *]) | (refine Qi rfl rfl rfl rfl (fun hb K' hK => ?_) (fun hb => ?_) <;> (have hc := hb; try simp only [go_sem] at hc; simp only [go_sem, *]))) | (show Hold ..; first | refine Qh rfl ?_ | refine zAG rfl Tryz.mixed (by kernel_rfl) ?_ | (refine zAD rfl ⟨_, rfl, fun hb => ?_, fun hb => ?_⟩ <;> (have hc := hb; try simp only [go_sem] at hc)) | refine zAI rfl ?_) | (refine Qb ?_ ?_; focus kernel_rfl) | (show zAN ..; first | (refine zAK (zAd _ _ _) ?_ ?_; (focus (simp only [go_sem, *]; done)); simp only [go_sem, *])) | ((with_reducible refine And.intro ?_ ?_); focus omega) | (refine zAB hK ?_; clear hK K'; simp only [go_sem, *]) | (simp only [zAH, zAA, go_sem, *]))
 all_goals (refine ⟨[_, _], [], [], ⟨rfl, rfl, trivial⟩, ?_⟩; simp only [go_sem, *])
theorem zOx (p : Plan) (c : Change) (hl : p.length ≤ 1000) (hbk : betw c.kind 1 7 = true) (hbs : betw c.street 0 ((p.length : Int) - 1) = true) (hk4 : (c.kind == 4) = false) (hk7 : (c.kind == 7) = true) (hbo : betw c.other 0 ((p.length : Int) - 1) = true) (hrp : (c.other == c.street) = true) : Spec Tryz.prog 125 [zAO p, c.enc] [] (.tup [.raw (.map none), iV 4]) [] := by
 have hwl : IntKind.i64.wrap ((p.length : Int) - 1) = (p.length : Int) - 1 := wrap_i64 (by omega) (by omega)
 refine zAF Tryz.func125 rfl (fun E hE => ?_); simp only [go_sem, Tryz.ntmps125]
 repeat' (first | (show zAC ..; first | (refine Qr rfl ?_; try intro K' hK; try simp only [go_sem, *]) | (refine Qi rfl rfl rfl rfl (fun hb K' hK => ?_) (fun hb => ?_) <;> (have hc := hb; try simp only [go_sem] at hc; simp only [go_sem, *]))) | (show Hold ..; first | refine Qh rfl ?_ | refine zAG rfl Tryz.mixed (by kernel_rfl) ?_ | (refine zAD rfl ⟨_, rfl, fun hb => ?_, fun hb => ?_⟩ <;> (have hc := hb; try simp only [go_sem] at hc)) | refine zAI rfl ?_) | (refine Qb ?_ ?_; focus kernel_rfl) | (show zAN ..; first | (refine zAK (zAd _ _ _) ?_ ?_; (focus (simp only [go_sem, *]; done)); simp only [go_sem, *])) | ((with_reducible refine And.intro ?_ ?_); focus omega) | (refine zAB hK ?_; clear hK K'; simp only [go_sem, *]) | (simp only [zAH, zAA, go_sem, *]))
 all_goals (refine ⟨[_, _], [], [], ⟨rfl, rfl, trivial⟩, ?_⟩; simp only [go_sem, *])
theorem zQp (p : Plan) (c : Change) (hl : p.length ≤ 1000) (hbk : betw c.kind 1 7 = true) (hbs : betw c.street 0 ((p.length : Int) - 1) = true) (hk4 : (c.kind == 4) = false) (hk7 : (c.kind == 7) = false) (hco : (c.other != 0) = true) : Spec Tryz.prog 125 [zAO p, c.enc] [] (.tup [.raw (.map none), iV 1]) [] := by
 have hwl : IntKind.i64.wrap ((p.length : Int) - 1) = (p.length : Int) - 1 := wrap_i64 (by omega) (by omega)
 refine zAF Tryz.func125 rfl (fun E hE => ?_); simp only [go_sem, Tryz.ntmps125]
 repeat' (first | (show zAC ..; first | (refine Qr rfl ?_; try intro K' hK; try simp only [go_sem, *]) | (refine Qi rfl rfl rfl rfl (fun hb K' hK => ?_) (fun hb => ?_) <;> (have hc := hb; try simp only [go_sem] at hc; simp only [go_sem, *]))) | (show Hold ..; first | refine Qh rfl ?_ | refine zAG rfl Tryz.mixed (by kernel_rfl) ?_ | (refine zAD rfl ⟨_, rfl, fun hb => ?_, fun hb => ?_⟩ <;> (have hc := hb; try simp only [go_sem] at hc)) | refine zAI rfl ?_) | (refine Qb ?_ ?_; focus kernel_rfl) | (show zAN ..; first | (refine zAK (zAd _ _ _) ?_ ?_; (focus (simp only [go_sem, *]; done)); simp only [go_sem, *])) | ((with_reducible refine And.intro ?_ ?_); focus omega) | (refine zAB hK ?_; clear hK K'; simp only [go_sem, *]) | (simp only [zAH, zAA, go_sem, *]))
 all_goals (refine ⟨[_, _], [], [], ⟨rfl, rfl, trivial⟩, ?_⟩; simp only [go_sem, *])
theorem zOk (p : Plan) (c : Change) (hl : p.length ≤ 1000) (hbk : betw c.kind 1 7 = true) (hbs : betw c.street 0 ((p.length : Int) - 1) = true) (hk4 : (c.kind == 4) = true) (hbo : betw c.other 0 ((p.length : Int) - 1) = true) (hrp : (c.other == c.street) = false) (hk5 : decide (c.kind ≥ 5) = false) (hsz : (c.src.number == 0 && c.src.letter == 0) = false) : Spec Tryz.prog 125 [zAO p, c.enc] [] (.tup [.raw (.map none), iV 1]) [] := by
 have hwl : IntKind.i64.wrap ((p.length : Int) - 1) = (p.length : Int) - 1 := wrap_i64 (by omega) (by omega)
 refine zAF Tryz.func125 rfl (fun E hE => ?_); simp only [go_sem, Tryz.ntmps125]
 repeat' (first | (show zAC ..; first | (refine Qr rfl ?_; try intro K' hK; try simp only [go_sem, *]) | (refine Qi rfl rfl rfl rfl (fun hb K' hK => ?_) (fun hb => ?_) <;> (have hc := hb; try simp only [go_sem] at hc; simp only [go_sem, *]))) | (show Hold ..; first | refine Qh rfl ?_ | refine zAG rfl Tryz.mixed (by kernel_rfl) ?_ | (refine zAD rfl ⟨_, rfl, fun hb => ?_, fun hb => ?_⟩ <;> (have hc := hb; try simp only [go_sem] at hc)) | refine zAI rfl ?_) | (refine Qb ?_ ?_; focus kernel_rfl) | (show zAN ..; first | (refine zAK (zAd _ _ _) ?_ ?_; (focus (simp only [go_sem, *]; done)); simp only [go_sem, *])) | ((with_reducible refine And.intro ?_ ?_); focus omega) | (refine zAB hK ?_; clear hK K'; simp only [go_sem, *]) | (simp only [zAH, zAA, go_sem, *]))
 all_goals (refine ⟨[_, _], [], [], ⟨rfl, rfl, trivial⟩, ?_⟩; simp only [go_sem, *])
theorem zQq (p : Plan) (c : Change) (hl : p.length ≤ 1000) (hbk : betw c.kind 1 7 = true) (hbs : betw c.street 0 ((p.length : Int) - 1) = true) (hk4 : (c.kind == 4) = false) (hk7 : (c.kind == 7) = false) (hco : (c.other != 0) = false) (hk5 : decide (c.kind ≥ 5) = false) (hsz : (c.src.number == 0 && c.src.letter == 0) = false) : Spec Tryz.prog 125 [zAO p, c.enc] [] (.tup [.raw (.map none), iV 1]) [] := by
 have hwl : IntKind.i64.wrap ((p.length : Int) - 1) = (p.length : Int) - 1 := wrap_i64 (by omega) (by omega)
 refine zAF Tryz.func125 rfl (fun E hE => ?_); simp only [go_sem, Tryz.ntmps125]
 repeat' (first | (show zAC ..; first | (refine Qr rfl ?_; try intro K' hK; try simp only [go_sem, *]) | (refine Qi rfl rfl rfl rfl (fun hb K' hK => ?_) (fun hb => ?_) <;> (have hc := hb; try simp only [go_sem] at hc; simp only [go_sem, *]))) | (show Hold ..; first | refine Qh rfl ?_ | refine zAG rfl Tryz.mixed (by kernel_rfl) ?_ | (refine zAD rfl ⟨_, rfl, fun hb => ?_, fun hb => ?_⟩ <;> (have hc := hb; try simp only [go_sem] at hc)) | refine zAI rfl ?_) | (refine Qb ?_ ?_; focus kernel_rfl) | (show zAN ..; first | (refine zAK (zAd _ _ _) ?_ ?_; (focus (simp only [go_sem, *]; done)); simp only [go_sem, *])) | ((with_reducible refine And.intro ?_ ?_); focus omega) | (refine zAB hK ?_; clear hK K'; simp only [go_sem, *]) | (simp only [zAH, zAA, go_sem, *]))
 all_goals (refine ⟨[_, _], [], [], ⟨rfl, rfl, trivial⟩, ?_⟩; simp only [go_sem, *])
theorem zOl (p : Plan) (c : Change) (hl : p.length ≤ 1000) (hbk : betw c.kind 1 7 = true) (hbs : betw c.street 0 ((p.length : Int) - 1) = true) (hk4 : (c.kind == 4) = true) (hk7 : (c.kind == 7) = false) (hbo : betw c.other 0 ((p.length : Int) - 1) = true) (hrp : (c.other == c.street) = false) (hk5 : decide (c.kind ≥ 5) = false) (hsz : (c.src.number == 0 && c.src.letter == 0) = true) (hdz : (c.dst.number == 0 && c.dst.letter == 0) = false) : Spec Tryz.prog 125 [zAO p, c.enc] [] (.tup [.raw (.map none), iV 1]) [] := by
 have hwl : IntKind.i64.wrap ((p.length : Int) - 1) = (p.length : Int) - 1 := wrap_i64 (by omega) (by omega)
 refine zAF Tryz.func125 rfl (fun E hE => ?_); simp only [go_sem, Tryz.ntmps125]
 repeat' (first | (show zAC ..; first | (refine Qr rfl ?_; try intro K' hK; try simp only [go_sem, *]) | (refine Qi rfl rfl rfl rfl (fun hb K' hK => ?_) (fun hb => ?_) <;> (have hc := hb; try simp only [go_sem] at hc; simp only [go_sem, *]))) | (show Hold ..; first | refine Qh rfl ?_ | refine zAG rfl Tryz.mixed (by kernel_rfl) ?_ | (refine zAD rfl ⟨_, rfl, fun hb => ?_, fun hb => ?_⟩ <;> (have hc := hb; try simp only [go_sem] at hc)) | refine zAI rfl ?_) | (refine Qb ?_ ?_; focus kernel_rfl) | (show zAN ..; first | (refine zAK (zAd _ _ _) ?_ ?_; (focus (simp only [go_sem, *]; done)); simp only [go_sem, *])) | ((with_reducible refine And.intro ?_ ?_); focus omega) | (refine zAB hK ?_; clear hK K'; simp only [go_sem, *]) | (simp only [zAH, zAA, go_sem, *]))
 all_goals (refine ⟨[_, _], [], [], ⟨rfl, rfl, trivial⟩, ?_⟩; simp only [go_sem, *])
theorem zQr (p : Plan) (c : Change) (hl : p.length ≤ 1000) (hbk : betw c.kind 1 7 = true) (hbs : betw c.street 0 ((p.length : Int) - 1) = true) (hk4 : (c.kind == 4) = false) (hk7 : (c.kind == 7) = false) (hco : (c.other != 0) = false) (hk5 : decide (c.kind ≥ 5) = false) (hsz : (c.src.number == 0 && c.src.letter == 0) = true) (hdz : (c.dst.number == 0 && c.dst.letter == 0) = false) : Spec Tryz.prog 125 [zAO p, c.enc] [] (.tup [.raw (.map none), iV 1]) [] := by
 have hwl : IntKind.i64.wrap ((p.length : Int) - 1) = (p.length : Int) - 1 := wrap_i64 (by omega) (by omega)
 refine zAF Tryz.func125 rfl (fun E hE => ?_); simp only [go_sem, Tryz.ntmps125]
 repeat' (first | (show zAC ..; first | (refine Qr rfl ?_; try intro K' hK; try simp only [go_sem, *]) | (refine Qi rfl rfl rfl rfl (fun hb K' hK => ?_) (fun hb => ?_) <;> (have hc := hb; try simp only [go_sem] at hc; simp only [go_sem, *]))) | (show Hold ..; first | refine Qh rfl ?_ | refine zAG rfl Tryz.mixed (by kernel_rfl) ?_ | (refine zAD rfl ⟨_, rfl, fun hb => ?_, fun hb => ?_⟩ <;> (have hc := hb; try simp only [go_sem] at hc)) | refine zAI rfl ?_) | (refine Qb ?_ ?_; focus kernel_rfl) | (show zAN ..; first | (refine zAK (zAd _ _ _) ?_ ?_; (focus (simp only [go_sem, *]; done)); simp only [go_sem, *])) | ((with_reducible refine And.intro ?_ ?_); focus omega) | (refine zAB hK ?_; clear hK K'; simp only [go_sem, *]) | (simp only [zAH, zAA, go_sem, *]))
 all_goals (refine ⟨[_, _], [], [], ⟨rfl, rfl, trivial⟩, ?_⟩; simp only [go_sem, *])
theorem zOm (p : Plan) (c : Change) (hl : p.length ≤ 1000) (hbk : betw c.kind 1 7 = true) (hbs : betw c.street 0 ((p.length : Int) - 1) = true) (hk4 : (c.kind == 4) = false) (hk7 : (c.kind == 7) = false) (hco : (c.other != 0) = false) (hk5 : decide (c.kind ≥ 5) = true) (hdz : (c.dst.number == 0 && c.dst.letter == 0) = false) : Spec Tryz.prog 125 [zAO p, c.enc] [] (.tup [.raw (.map none), iV 1]) [] := by
 have hwl : IntKind.i64.wrap ((p.length : Int) - 1) = (p.length : Int) - 1 := wrap_i64 (by omega) (by omega)
 refine zAF Tryz.func125 rfl (fun E hE => ?_); simp only [go_sem, Tryz.ntmps125]
 repeat' (first | (show zAC ..; first | (refine Qr rfl ?_; try intro K' hK; try simp only [go_sem, *]) | (refine Qi rfl rfl rfl rfl (fun hb K' hK => ?_) (fun hb => ?_) <;> (have hc := hb; try simp only [go_sem] at hc; simp only [go_sem, *]))) | (show Hold ..; first | refine Qh rfl ?_ | refine zAG rfl Tryz.mixed (by kernel_rfl) ?_ | (refine zAD rfl ⟨_, rfl, fun hb => ?_, fun hb => ?_⟩ <;> (have hc := hb; try simp only [go_sem] at hc)) | refine zAI rfl ?_) | (refine Qb ?_ ?_; focus kernel_rfl) | (show zAN ..; first | (refine zAK (zAd _ _ _) ?_ ?_; (focus (simp only [go_sem, *]; done)); simp only [go_sem, *])) | ((with_reducible refine And.intro ?_ ?_); focus omega) | (refine zAB hK ?_; clear hK K'; simp only [go_sem, *]) | (simp only [zAH, zAA, go_sem, *]))
 all_goals (refine ⟨[_, _], [], [], ⟨rfl, rfl, trivial⟩, ?_⟩; simp only [go_sem, *])
end Go.Abs

namespace Go.Abs
open Go Go.Proofs
attribute [local irreducible] zAC Hold zAN
attribute [go_sem] ge_iff_le
theorem zFa {p : Plan} {c : Change} (h : c.kind = 1 ∨ c.kind = 2 ∨ c.kind = 3) : zAe p c = 0 := by
 unfold zAe; rw [if_neg (by omega), if_neg (by omega), if_neg (by omega), if_neg (by omega)]
theorem zB6 {p : Plan} {c : Change} (h : zAe p c = 0) : outM p c = .mapo (zAv p) (zAZ p (mv p c)) := by simp [outM, h]
def effR (p : Plan) (c : Change) : AV := if zAe p c = 0 then .tup [.mp 0, iV 0] else .tup [.raw (.map none), iV (zAe p c)]
def effO (p : Plan) (c : Change) : List AObj := if zAe p c = 0 then [.mapo (zAv p) (zAZ p (mv p c))] else []
@[go_sem] theorem zQi : betw 1 1 7 = true := by decide
@[go_sem] theorem zQj : betw 2 1 7 = true := by decide
@[go_sem] theorem zQk : betw 3 1 7 = true := by decide
@[go_sem] theorem zQl : betw 4 1 7 = true := by decide
@[go_sem] theorem zQm : betw 5 1 7 = true := by decide
@[go_sem] theorem zQn : betw 6 1 7 = true := by decide
@[go_sem] theorem zQo : betw 7 1 7 = true := by decide
theorem zMn (p : Plan) (c : Change) (v : Valid p) (f : Pre p c) (k : c.kind = 1) : Spec Tryz.prog 169 [zAO p, c.enc, .mp 0] [.mapo (zAv p) (zAZ p fun h => [h])] (iV (zAe p c)) [outM p c] := by
 have h := zFa (p := p) (c := c) (by omega)
 rw [zB6 h, h]
 exact zL5 p c v (f.fit h) k
theorem zMo (p : Plan) (c : Change) (v : Valid p) (f : Pre p c) (k : c.kind = 2) : Spec Tryz.prog 170 [zAO p, c.enc, .mp 0] [.mapo (zAv p) (zAZ p fun h => [h])] (iV (zAe p c)) [outM p c] := by
 have h := zFa (p := p) (c := c) (by omega)
 rw [zB6 h, h]
 exact zKR p c v (f.fit h) k
theorem zMp (p : Plan) (c : Change) (v : Valid p) (f : Pre p c) (k : c.kind = 3) : Spec Tryz.prog 171 [zAO p, c.enc, .mp 0] [.mapo (zAv p) (zAZ p fun h => [h])] (iV (zAe p c)) [outM p c] := by
 have h := zFa (p := p) (c := c) (by omega)
 rw [zB6 h, h]
 exact zKM p c v (f.fit h) k
theorem zOn (p : Plan) (c : Change) (v : Valid p) (f : Pre p c) (k : c.kind = 1) (hco : (c.other != 0) = false) (hsz : (c.src.number == 0 && c.src.letter == 0) = true) (hdz : (c.dst.number == 0 && c.dst.letter == 0) = true) : Spec Tryz.prog 125 [zAO p, c.enc] [] (effR p c) (effO p c) := by
 have hwl : IntKind.i64.wrap ((p.length : Int) - 1) = (p.length : Int) - 1 := by have := v.len; exact wrap_i64 (by omega) (by omega)
 have hbs : betw c.street 0 ((p.length : Int) - 1) = true := betw_iff.2 (by have := f.street; omega)
 refine zAF Tryz.func125 rfl (fun E hE => ?_); simp only [go_sem, Tryz.ntmps125]
 repeat' (first | (show zAC ..; first | (refine Qr rfl ?_; try intro K' hK; try simp only [go_sem, *]) | (refine Qi rfl rfl rfl rfl (fun hb K' hK => ?_) (fun hb => ?_) <;> (have hc := hb; try simp only [go_sem] at hc; simp only [go_sem, *]))) | (show Hold ..; first | refine Qh rfl ?_ | refine zAG rfl Tryz.mixed (by kernel_rfl) ?_ | (refine zAD rfl ⟨_, rfl, fun hb => ?_, fun hb => ?_⟩ <;> (have hc := hb; try simp only [go_sem] at hc)) | refine zAI rfl ?_) | (refine Qb ?_ ?_; focus kernel_rfl) | (show zAN ..; first | ((first | refine zAK (zAd _ _ _) ?_ ?_ | refine zAK (zB2) ?_ ?_); (focus (simp only [go_sem, *]; done)); simp only [go_sem, *]) | (refine zAl (zDI p v) ?_ ?_ ?_ ?_; (focus (simp only [go_sem, *]; done)); (focus (first | (simp; done) | (simp [go_sem]; done))); (focus (first | (simp; done) | (simp [go_sem]; done))); simp only [go_sem, *])) | ((with_reducible refine And.intro ?_ ?_); focus omega) | (refine zAB hK ?_; clear hK K'; simp only [go_sem, *]) | (simp only [zAH, zAA, go_sem, *]))
 refine zAR [2] [] (zMn p c v f k) (by simp) (by simp only [go_sem, *]) (by simp only [go_sem, AObj.live, *]) (by simp) (.inl rfl) (by simp [go_sem]) (by simp [outM]; split <;> simp) ?_
 simp only [go_sem, *]
 repeat' (first | (show zAC ..; first | (refine Qr rfl ?_; try intro K' hK; try simp only [go_sem, *]) | (refine Qi rfl rfl rfl rfl (fun hb K' hK => ?_) (fun hb => ?_) <;> (have hc := hb; try simp only [go_sem] at hc; simp only [go_sem, *]))) | (show Hold ..; first | refine Qh rfl ?_ | refine zAG rfl Tryz.mixed (by kernel_rfl) ?_ | (refine zAD rfl ⟨_, rfl, fun hb => ?_, fun hb => ?_⟩ <;> (have hc := hb; try simp only [go_sem] at hc)) | refine zAI rfl ?_) | (refine Qb ?_ ?_; focus kernel_rfl) | ((with_reducible refine And.intro ?_ ?_); focus omega) | (refine zAB hK ?_; clear hK K'; simp only [go_sem, *]) | (simp only [zAH, zAA, go_sem, *]))
 ·have h : ¬ zAe p c = 0 := by assumption
  have e1 : effR p c = .tup [.raw (.map none), iV (zAe p c)] := by simp [effR, h]
  have e2 : effO p c = [] := by simp [effO, h]
  refine ⟨[_, _], [], [], ⟨rfl, rfl, trivial⟩, ?_⟩
  simp only [go_sem, e1, e2]
 ·have h : zAe p c = 0 := by assumption
  have e1 : effR p c = .tup [.mp 0, iV 0] := by simp [effR, h]
  have e2 : effO p c = [.mapo (zAv p) (zAZ p (mv p c))] := by simp [effO, h]
  have e3 := zB6 h
  refine ⟨[_, _], [some 2], [], ⟨rfl, rfl, trivial⟩, ?_⟩
  simp only [go_sem, e1, e2, e3, AObj.ren]
theorem zOo (p : Plan) (c : Change) (v : Valid p) (f : Pre p c) (k : c.kind = 2) (hco : (c.other != 0) = false) (hsz : (c.src.number == 0 && c.src.letter == 0) = true) (hdz : (c.dst.number == 0 && c.dst.letter == 0) = true) : Spec Tryz.prog 125 [zAO p, c.enc] [] (effR p c) (effO p c) := by
 have hwl : IntKind.i64.wrap ((p.length : Int) - 1) = (p.length : Int) - 1 := by have := v.len; exact wrap_i64 (by omega) (by omega)
 have hbs : betw c.street 0 ((p.length : Int) - 1) = true := betw_iff.2 (by have := f.street; omega)
 refine zAF Tryz.func125 rfl (fun E hE => ?_); simp only [go_sem, Tryz.ntmps125]
 repeat' (first | (show zAC ..; first | (refine Qr rfl ?_; try intro K' hK; try simp only [go_sem, *]) | (refine Qi rfl rfl rfl rfl (fun hb K' hK => ?_) (fun hb => ?_) <;> (have hc := hb; try simp only [go_sem] at hc; simp only [go_sem, *]))) | (show Hold ..; first | refine Qh rfl ?_ | refine zAG rfl Tryz.mixed (by kernel_rfl) ?_ | (refine zAD rfl ⟨_, rfl, fun hb => ?_, fun hb => ?_⟩ <;> (have hc := hb; try simp only [go_sem] at hc)) | refine zAI rfl ?_) | (refine Qb ?_ ?_; focus kernel_rfl) | (show zAN ..; first | ((first | refine zAK (zAd _ _ _) ?_ ?_ | refine zAK (zB2) ?_ ?_); (focus (simp only [go_sem, *]; done)); simp only [go_sem, *]) | (refine zAl (zDI p v) ?_ ?_ ?_ ?_; (focus (simp only [go_sem, *]; done)); (focus (first | (simp; done) | (simp [go_sem]; done))); (focus (first | (simp; done) | (simp [go_sem]; done))); simp only [go_sem, *])) | ((with_reducible refine And.intro ?_ ?_); focus omega) | (refine zAB hK ?_; clear hK K'; simp only [go_sem, *]) | (simp only [zAH, zAA, go_sem, *]))
 refine zAR [2] [] (zMo p c v f k) (by simp) (by simp only [go_sem, *]) (by simp only [go_sem, AObj.live, *]) (by simp) (.inl rfl) (by simp [go_sem]) (by simp [outM]; split <;> simp) ?_
 simp only [go_sem, *]
 repeat' (first | (show zAC ..; first | (refine Qr rfl ?_; try intro K' hK; try simp only [go_sem, *]) | (refine Qi rfl rfl rfl rfl (fun hb K' hK => ?_) (fun hb => ?_) <;> (have hc := hb; try simp only [go_sem] at hc; simp only [go_sem, *]))) | (show Hold ..; first | refine Qh rfl ?_ | refine zAG rfl Tryz.mixed (by kernel_rfl) ?_ | (refine zAD rfl ⟨_, rfl, fun hb => ?_, fun hb => ?_⟩ <;> (have hc := hb; try simp only [go_sem] at hc)) | refine zAI rfl ?_) | (refine Qb ?_ ?_; focus kernel_rfl) | ((with_reducible refine And.intro ?_ ?_); focus omega) | (refine zAB hK ?_; clear hK K'; simp only [go_sem, *]) | (simp only [zAH, zAA, go_sem, *]))
 ·have h : ¬ zAe p c = 0 := by assumption
  have e1 : effR p c = .tup [.raw (.map none), iV (zAe p c)] := by simp [effR, h]
  have e2 : effO p c = [] := by simp [effO, h]
  refine ⟨[_, _], [], [], ⟨rfl, rfl, trivial⟩, ?_⟩
  simp only [go_sem, e1, e2]
 ·have h : zAe p c = 0 := by assumption
  have e1 : effR p c = .tup [.mp 0, iV 0] := by simp [effR, h]
  have e2 : effO p c = [.mapo (zAv p) (zAZ p (mv p c))] := by simp [effO, h]
  have e3 := zB6 h
  refine ⟨[_, _], [some 2], [], ⟨rfl, rfl, trivial⟩, ?_⟩
  simp only [go_sem, e1, e2, e3, AObj.ren]
theorem zOp (p : Plan) (c : Change) (v : Valid p) (f : Pre p c) (k : c.kind = 3) (hco : (c.other != 0) = false) (hsz : (c.src.number == 0 && c.src.letter == 0) = true) (hdz : (c.dst.number == 0 && c.dst.letter == 0) = true) : Spec Tryz.prog 125 [zAO p, c.enc] [] (effR p c) (effO p c) := by
 have hwl : IntKind.i64.wrap ((p.length : Int) - 1) = (p.length : Int) - 1 := by have := v.len; exact wrap_i64 (by omega) (by omega)
 have hbs : betw c.street 0 ((p.length : Int) - 1) = true := betw_iff.2 (by have := f.street; omega)
 refine zAF Tryz.func125 rfl (fun E hE => ?_); simp only [go_sem, Tryz.ntmps125]
 repeat' (first | (show zAC ..; first | (refine Qr rfl ?_; try intro K' hK; try simp only [go_sem, *]) | (refine Qi rfl rfl rfl rfl (fun hb K' hK => ?_) (fun hb => ?_) <;> (have hc := hb; try simp only [go_sem] at hc; simp only [go_sem, *]))) | (show Hold ..; first | refine Qh rfl ?_ | refine zAG rfl Tryz.mixed (by kernel_rfl) ?_ | (refine zAD rfl ⟨_, rfl, fun hb => ?_, fun hb => ?_⟩ <;> (have hc := hb; try simp only [go_sem] at hc)) | refine zAI rfl ?_) | (refine Qb ?_ ?_; focus kernel_rfl) | (show zAN ..; first | ((first | refine zAK (zAd _ _ _) ?_ ?_ | refine zAK (zB2) ?_ ?_); (focus (simp only [go_sem, *]; done)); simp only [go_sem, *]) | (refine zAl (zDI p v) ?_ ?_ ?_ ?_; (focus (simp only [go_sem, *]; done)); (focus (first | (simp; done) | (simp [go_sem]; done))); (focus (first | (simp; done) | (simp [go_sem]; done))); simp only [go_sem, *])) | ((with_reducible refine And.intro ?_ ?_); focus omega) | (refine zAB hK ?_; clear hK K'; simp only [go_sem, *]) | (simp only [zAH, zAA, go_sem, *]))
 refine zAR [2] [] (zMp p c v f k) (by simp) (by simp only [go_sem, *]) (by simp only [go_sem, AObj.live, *]) (by simp) (.inl rfl) (by simp [go_sem]) (by simp [outM]; split <;> simp) ?_
 simp only [go_sem, *]
 repeat' (first | (show zAC ..; first | (refine Qr rfl ?_; try intro K' hK; try simp only [go_sem, *]) | (refine Qi rfl rfl rfl rfl (fun hb K' hK => ?_) (fun hb => ?_) <;> (have hc := hb; try simp only [go_sem] at hc; simp only [go_sem, *]))) | (show Hold ..; first | refine Qh rfl ?_ | refine zAG rfl Tryz.mixed (by kernel_rfl) ?_ | (refine zAD rfl ⟨_, rfl, fun hb => ?_, fun hb => ?_⟩ <;> (have hc := hb; try simp only [go_sem] at hc)) | refine zAI rfl ?_) | (refine Qb ?_ ?_; focus kernel_rfl) | ((with_reducible refine And.intro ?_ ?_); focus omega) | (refine zAB hK ?_; clear hK K'; simp only [go_sem, *]) | (simp only [zAH, zAA, go_sem, *]))
 ·have h : ¬ zAe p c = 0 := by assumption
  have e1 : effR p c = .tup [.raw (.map none), iV (zAe p c)] := by simp [effR, h]
  have e2 : effO p c = [] := by simp [effO, h]
  refine ⟨[_, _], [], [], ⟨rfl, rfl, trivial⟩, ?_⟩
  simp only [go_sem, e1, e2]
 ·have h : zAe p c = 0 := by assumption
  have e1 : effR p c = .tup [.mp 0, iV 0] := by simp [effR, h]
  have e2 : effO p c = [.mapo (zAv p) (zAZ p (mv p c))] := by simp [effO, h]
  have e3 := zB6 h
  refine ⟨[_, _], [some 2], [], ⟨rfl, rfl, trivial⟩, ?_⟩
  simp only [go_sem, e1, e2, e3, AObj.ren]
theorem zOq (p : Plan) (c : Change) (v : Valid p) (f : Pre p c) (k : c.kind = 4) (hbo : betw c.other 0 ((p.length : Int) - 1) = true) (hrp : (c.other == c.street) = false) (hsz : (c.src.number == 0 && c.src.letter == 0) = true) (hdz : (c.dst.number == 0 && c.dst.letter == 0) = true) : Spec Tryz.prog 125 [zAO p, c.enc] [] (effR p c) (effO p c) := by
 have hwl : IntKind.i64.wrap ((p.length : Int) - 1) = (p.length : Int) - 1 := by have := v.len; exact wrap_i64 (by omega) (by omega)
 have hbs : betw c.street 0 ((p.length : Int) - 1) = true := betw_iff.2 (by have := f.street; omega)
 refine zAF Tryz.func125 rfl (fun E hE => ?_); simp only [go_sem, Tryz.ntmps125]
 repeat' (first | (show zAC ..; first | (refine Qr rfl ?_; try intro K' hK; try simp only [go_sem, *]) | (refine Qi rfl rfl rfl rfl (fun hb K' hK => ?_) (fun hb => ?_) <;> (have hc := hb; try simp only [go_sem] at hc; simp only [go_sem, *]))) | (show Hold ..; first | refine Qh rfl ?_ | refine zAG rfl Tryz.mixed (by kernel_rfl) ?_ | (refine zAD rfl ⟨_, rfl, fun hb => ?_, fun hb => ?_⟩ <;> (have hc := hb; try simp only [go_sem] at hc)) | refine zAI rfl ?_) | (refine Qb ?_ ?_; focus kernel_rfl) | (show zAN ..; first | ((first | refine zAK (zAd _ _ _) ?_ ?_ | refine zAK (zB2) ?_ ?_); (focus (simp only [go_sem, *]; done)); simp only [go_sem, *]) | (refine zAl (zDI p v) ?_ ?_ ?_ ?_; (focus (simp only [go_sem, *]; done)); (focus (first | (simp; done) | (simp [go_sem]; done))); (focus (first | (simp; done) | (simp [go_sem]; done))); simp only [go_sem, *])) | ((with_reducible refine And.intro ?_ ?_); focus omega) | (refine zAB hK ?_; clear hK K'; simp only [go_sem, *]) | (simp only [zAH, zAA, go_sem, *]))
 refine zAR [2] [] (zLu p c v f k) (by simp) (by simp only [go_sem, *]) (by simp only [go_sem, AObj.live, *]) (by simp) (.inl rfl) (by simp [go_sem]) (by simp [outM]; split <;> simp) ?_
 simp only [go_sem, *]
 repeat' (first | (show zAC ..; first | (refine Qr rfl ?_; try intro K' hK; try simp only [go_sem, *]) | (refine Qi rfl rfl rfl rfl (fun hb K' hK => ?_) (fun hb => ?_) <;> (have hc := hb; try simp only [go_sem] at hc; simp only [go_sem, *]))) | (show Hold ..; first | refine Qh rfl ?_ | refine zAG rfl Tryz.mixed (by kernel_rfl) ?_ | (refine zAD rfl ⟨_, rfl, fun hb => ?_, fun hb => ?_⟩ <;> (have hc := hb; try simp only [go_sem] at hc)) | refine zAI rfl ?_) | (refine Qb ?_ ?_; focus kernel_rfl) | ((with_reducible refine And.intro ?_ ?_); focus omega) | (refine zAB hK ?_; clear hK K'; simp only [go_sem, *]) | (simp only [zAH, zAA, go_sem, *]))
 ·have h : ¬ zAe p c = 0 := by assumption
  have e1 : effR p c = .tup [.raw (.map none), iV (zAe p c)] := by simp [effR, h]
  have e2 : effO p c = [] := by simp [effO, h]
  refine ⟨[_, _], [], [], ⟨rfl, rfl, trivial⟩, ?_⟩
  simp only [go_sem, e1, e2]
 ·have h : zAe p c = 0 := by assumption
  have e1 : effR p c = .tup [.mp 0, iV 0] := by simp [effR, h]
  have e2 : effO p c = [.mapo (zAv p) (zAZ p (mv p c))] := by simp [effO, h]
  have e3 := zB6 h
  refine ⟨[_, _], [some 2], [], ⟨rfl, rfl, trivial⟩, ?_⟩
  simp only [go_sem, e1, e2, e3, AObj.ren]
theorem zOr (p : Plan) (c : Change) (v : Valid p) (f : Pre p c) (k : c.kind = 5) (hco : (c.other != 0) = false) (hdz : (c.dst.number == 0 && c.dst.letter == 0) = true) : Spec Tryz.prog 125 [zAO p, c.enc] [] (effR p c) (effO p c) := by
 have hwl : IntKind.i64.wrap ((p.length : Int) - 1) = (p.length : Int) - 1 := by have := v.len; exact wrap_i64 (by omega) (by omega)
 have hbs : betw c.street 0 ((p.length : Int) - 1) = true := betw_iff.2 (by have := f.street; omega)
 refine zAF Tryz.func125 rfl (fun E hE => ?_); simp only [go_sem, Tryz.ntmps125]
 repeat' (first | (show zAC ..; first | (refine Qr rfl ?_; try intro K' hK; try simp only [go_sem, *]) | (refine Qi rfl rfl rfl rfl (fun hb K' hK => ?_) (fun hb => ?_) <;> (have hc := hb; try simp only [go_sem] at hc; simp only [go_sem, *]))) | (show Hold ..; first | refine Qh rfl ?_ | refine zAG rfl Tryz.mixed (by kernel_rfl) ?_ | (refine zAD rfl ⟨_, rfl, fun hb => ?_, fun hb => ?_⟩ <;> (have hc := hb; try simp only [go_sem] at hc)) | refine zAI rfl ?_) | (refine Qb ?_ ?_; focus kernel_rfl) | (show zAN ..; first | ((first | refine zAK (zAd _ _ _) ?_ ?_ | refine zAK (zB2) ?_ ?_); (focus (simp only [go_sem, *]; done)); simp only [go_sem, *]) | (refine zAl (zDI p v) ?_ ?_ ?_ ?_; (focus (simp only [go_sem, *]; done)); (focus (first | (simp; done) | (simp [go_sem]; done))); (focus (first | (simp; done) | (simp [go_sem]; done))); simp only [go_sem, *])) | ((with_reducible refine And.intro ?_ ?_); focus omega) | (refine zAB hK ?_; clear hK K'; simp only [go_sem, *]) | (simp only [zAH, zAA, go_sem, *]))
 refine zAR [2] [] (zKO p c v f k) (by simp) (by simp only [go_sem, *]) (by simp only [go_sem, AObj.live, *]) (by simp) (.inl rfl) (by simp [go_sem]) (by simp [outM]; split <;> simp) ?_
 simp only [go_sem, *]
 repeat' (first | (show zAC ..; first | (refine Qr rfl ?_; try intro K' hK; try simp only [go_sem, *]) | (refine Qi rfl rfl rfl rfl (fun hb K' hK => ?_) (fun hb => ?_) <;> (have hc := hb; try simp only [go_sem] at hc; simp only [go_sem, *]))) | (show Hold ..; first | refine Qh rfl ?_ | refine zAG rfl Tryz.mixed (by kernel_rfl) ?_ | (refine zAD rfl ⟨_, rfl, fun hb => ?_, fun hb => ?_⟩ <;> (have hc := hb; try simp only [go_sem] at hc)) | refine zAI rfl ?_) | (refine Qb ?_ ?_; focus kernel_rfl) | ((with_reducible refine And.intro ?_ ?_); focus omega) | (refine zAB hK ?_; clear hK K'; simp only [go_sem, *]) | (simp only [zAH, zAA, go_sem, *]))
 ·have h : ¬ zAe p c = 0 := by assumption
  have e1 : effR p c = .tup [.raw (.map none), iV (zAe p c)] := by simp [effR, h]
  have e2 : effO p c = [] := by simp [effO, h]
  refine ⟨[_, _], [], [], ⟨rfl, rfl, trivial⟩, ?_⟩
  simp only [go_sem, e1, e2]
 ·have h : zAe p c = 0 := by assumption
  have e1 : effR p c = .tup [.mp 0, iV 0] := by simp [effR, h]
  have e2 : effO p c = [.mapo (zAv p) (zAZ p (mv p c))] := by simp [effO, h]
  have e3 := zB6 h
  refine ⟨[_, _], [some 2], [], ⟨rfl, rfl, trivial⟩, ?_⟩
  simp only [go_sem, e1, e2, e3, AObj.ren]
theorem zOs (p : Plan) (c : Change) (v : Valid p) (f : Pre p c) (k : c.kind = 6) (hco : (c.other != 0) = false) (hdz : (c.dst.number == 0 && c.dst.letter == 0) = true) : Spec Tryz.prog 125 [zAO p, c.enc] [] (effR p c) (effO p c) := by
 have hwl : IntKind.i64.wrap ((p.length : Int) - 1) = (p.length : Int) - 1 := by have := v.len; exact wrap_i64 (by omega) (by omega)
 have hbs : betw c.street 0 ((p.length : Int) - 1) = true := betw_iff.2 (by have := f.street; omega)
 refine zAF Tryz.func125 rfl (fun E hE => ?_); simp only [go_sem, Tryz.ntmps125]
 repeat' (first | (show zAC ..; first | (refine Qr rfl ?_; try intro K' hK; try simp only [go_sem, *]) | (refine Qi rfl rfl rfl rfl (fun hb K' hK => ?_) (fun hb => ?_) <;> (have hc := hb; try simp only [go_sem] at hc; simp only [go_sem, *]))) | (show Hold ..; first | refine Qh rfl ?_ | refine zAG rfl Tryz.mixed (by kernel_rfl) ?_ | (refine zAD rfl ⟨_, rfl, fun hb => ?_, fun hb => ?_⟩ <;> (have hc := hb; try simp only [go_sem] at hc)) | refine zAI rfl ?_) | (refine Qb ?_ ?_; focus kernel_rfl) | (show zAN ..; first | ((first | refine zAK (zAd _ _ _) ?_ ?_ | refine zAK (zB2) ?_ ?_); (focus (simp only [go_sem, *]; done)); simp only [go_sem, *]) | (refine zAl (zDI p v) ?_ ?_ ?_ ?_; (focus (simp only [go_sem, *]; done)); (focus (first | (simp; done) | (simp [go_sem]; done))); (focus (first | (simp; done) | (simp [go_sem]; done))); simp only [go_sem, *])) | ((with_reducible refine And.intro ?_ ?_); focus omega) | (refine zAB hK ?_; clear hK K'; simp only [go_sem, *]) | (simp only [zAH, zAA, go_sem, *]))
 refine zAR [2] [] (zLq p c v f k) (by simp) (by simp only [go_sem, *]) (by simp only [go_sem, AObj.live, *]) (by simp) (.inl rfl) (by simp [go_sem]) (by simp [outM]; split <;> simp) ?_
 simp only [go_sem, *]
 repeat' (first | (show zAC ..; first | (refine Qr rfl ?_; try intro K' hK; try simp only [go_sem, *]) | (refine Qi rfl rfl rfl rfl (fun hb K' hK => ?_) (fun hb => ?_) <;> (have hc := hb; try simp only [go_sem] at hc; simp only [go_sem, *]))) | (show Hold ..; first | refine Qh rfl ?_ | refine zAG rfl Tryz.mixed (by kernel_rfl) ?_ | (refine zAD rfl ⟨_, rfl, fun hb => ?_, fun hb => ?_⟩ <;> (have hc := hb; try simp only [go_sem] at hc)) | refine zAI rfl ?_) | (refine Qb ?_ ?_; focus kernel_rfl) | ((with_reducible refine And.intro ?_ ?_); focus omega) | (refine zAB hK ?_; clear hK K'; simp only [go_sem, *]) | (simp only [zAH, zAA, go_sem, *]))
 ·have h : ¬ zAe p c = 0 := by assumption
  have e1 : effR p c = .tup [.raw (.map none), iV (zAe p c)] := by simp [effR, h]
  have e2 : effO p c = [] := by simp [effO, h]
  refine ⟨[_, _], [], [], ⟨rfl, rfl, trivial⟩, ?_⟩
  simp only [go_sem, e1, e2]
 ·have h : zAe p c = 0 := by assumption
  have e1 : effR p c = .tup [.mp 0, iV 0] := by simp [effR, h]
  have e2 : effO p c = [.mapo (zAv p) (zAZ p (mv p c))] := by simp [effO, h]
  have e3 := zB6 h
  refine ⟨[_, _], [some 2], [], ⟨rfl, rfl, trivial⟩, ?_⟩
  simp only [go_sem, e1, e2, e3, AObj.ren]
theorem zOt (p : Plan) (c : Change) (v : Valid p) (f : Pre p c) (k : c.kind = 7) (hbo : betw c.other 0 ((p.length : Int) - 1) = true) (hrp : (c.other == c.street) = false) : Spec Tryz.prog 125 [zAO p, c.enc] [] (effR p c) (effO p c) := by
 have hwl : IntKind.i64.wrap ((p.length : Int) - 1) = (p.length : Int) - 1 := by have := v.len; exact wrap_i64 (by omega) (by omega)
 have hbs : betw c.street 0 ((p.length : Int) - 1) = true := betw_iff.2 (by have := f.street; omega)
 refine zAF Tryz.func125 rfl (fun E hE => ?_); simp only [go_sem, Tryz.ntmps125]
 repeat' (first | (show zAC ..; first | (refine Qr rfl ?_; try intro K' hK; try simp only [go_sem, *]) | (refine Qi rfl rfl rfl rfl (fun hb K' hK => ?_) (fun hb => ?_) <;> (have hc := hb; try simp only [go_sem] at hc; simp only [go_sem, *]))) | (show Hold ..; first | refine Qh rfl ?_ | refine zAG rfl Tryz.mixed (by kernel_rfl) ?_ | (refine zAD rfl ⟨_, rfl, fun hb => ?_, fun hb => ?_⟩ <;> (have hc := hb; try simp only [go_sem] at hc)) | refine zAI rfl ?_) | (refine Qb ?_ ?_; focus kernel_rfl) | (show zAN ..; first | ((first | refine zAK (zAd _ _ _) ?_ ?_ | refine zAK (zB2) ?_ ?_); (focus (simp only [go_sem, *]; done)); simp only [go_sem, *]) | (refine zAl (zDI p v) ?_ ?_ ?_ ?_; (focus (simp only [go_sem, *]; done)); (focus (first | (simp; done) | (simp [go_sem]; done))); (focus (first | (simp; done) | (simp [go_sem]; done))); simp only [go_sem, *])) | ((with_reducible refine And.intro ?_ ?_); focus omega) | (refine zAB hK ?_; clear hK K'; simp only [go_sem, *]) | (simp only [zAH, zAA, go_sem, *]))
 refine zAR [2] [] (zKN p c v f k) (by simp) (by simp only [go_sem, *]) (by simp only [go_sem, AObj.live, *]) (by simp) (.inl rfl) (by simp [go_sem]) (by simp [outM]; split <;> simp) ?_
 simp only [go_sem, *]
 repeat' (first | (show zAC ..; first | (refine Qr rfl ?_; try intro K' hK; try simp only [go_sem, *]) | (refine Qi rfl rfl rfl rfl (fun hb K' hK => ?_) (fun hb => ?_) <;> (have hc := hb; try simp only [go_sem] at hc; simp only [go_sem, *]))) | (show Hold ..; first | refine Qh rfl ?_ | refine zAG rfl Tryz.mixed (by kernel_rfl) ?_ | (refine zAD rfl ⟨_, rfl, fun hb => ?_, fun hb => ?_⟩ <;> (have hc := hb; try simp only [go_sem] at hc)) | refine zAI rfl ?_) | (refine Qb ?_ ?_; focus kernel_rfl) | ((with_reducible refine And.intro ?_ ?_); focus omega) | (refine zAB hK ?_; clear hK K'; simp only [go_sem, *]) | (simp only [zAH, zAA, go_sem, *]))
 ·have h : ¬ zAe p c = 0 := by assumption
  have e1 : effR p c = .tup [.raw (.map none), iV (zAe p c)] := by simp [effR, h]
  have e2 : effO p c = [] := by simp [effO, h]
  refine ⟨[_, _], [], [], ⟨rfl, rfl, trivial⟩, ?_⟩
  simp only [go_sem, e1, e2]
 ·have h : zAe p c = 0 := by assumption
  have e1 : effR p c = .tup [.mp 0, iV 0] := by simp [effR, h]
  have e2 : effO p c = [.mapo (zAv p) (zAZ p (mv p c))] := by simp [effO, h]
  have e3 := zB6 h
  refine ⟨[_, _], [some 2], [], ⟨rfl, rfl, trivial⟩, ?_⟩
  simp only [go_sem, e1, e2, e3, AObj.ren]
end Go.Abs

namespace Go.Abs
open Go
section
variable {α : Type} (cf : α → α → Int)
def insR (x : α) : List α → List α
 | [] => [x]
 | y :: r => if cf x y < 0 then y :: insR x r else x :: y :: r
def insI (pre : List α) (x : α) : List α := (insR cf x pre.reverse).reverse
def zBE (xs : List α) : List α := xs.foldl (insI cf) []
theorem zFf (x : α) : ∀ l : List α, (insR cf x l).Perm (x :: l)
 | [] => .refl _
 | y :: r => by
  unfold insR
  split
  ·exact ((zFf x r).cons y).trans (.swap x y r)
  ·exact .refl _
theorem zK7 (pre : List α) (x : α) : (insI cf pre x).Perm (pre ++ [x]) := by
 unfold insI
 refine (List.reverse_perm _).trans ((zFf cf x _).trans ?_)
 exact ((List.reverse_perm pre).cons x).trans (List.perm_append_comm (l₁ := [x]) (l₂ := pre))
theorem zHt : ∀ (xs pre : List α), (xs.foldl (insI cf) pre).Perm (pre ++ xs)
 | [], pre => by simp
 | x :: r, pre => by
  rw [List.foldl_cons]
  refine (zHt r _).trans ?_
  refine ((zK7 cf pre x).append_right r).trans ?_
  simp
theorem zBw (xs : List α) : (zBE cf xs).Perm xs := by have := zHt cf xs []; simpa [zBE] using this
theorem zCV (xs : List α) : (zBE cf xs).length = xs.length := (zBw cf xs).length_eq
theorem zGW (xs : List α) (x : α) : zBE cf (xs ++ [x]) = insI cf (zBE cf xs) x := by simp [zBE, List.foldl_append]
def curL (S : List α) (x : α) (R : List α) (d : Nat) : List α := S.take (S.length - d) ++ x :: (S.drop (S.length - d) ++ R)
theorem zFV (S : List α) (x : α) (R : List α) (d : Nat) : (curL S x R d).length = S.length + 1 + R.length := by simp [curL]; omega
variable [Inhabited α]
theorem zM5 (S : List α) (x : α) (R : List α) {d : Nat} (h : d ≤ S.length) : (curL S x R d).getD (S.length - d) default = x := by
 unfold curL
 simp only [List.getD_eq_getElem?_getD]
 rw [List.getElem?_append_right (by simp)]
 simp [show min (S.length - d) S.length = S.length - d by omega]
theorem zM6 (S : List α) (x : α) (R : List α) {d : Nat} (h : d < S.length) : (curL S x R d).getD (S.length - d - 1) default = S.getD (S.length - d - 1) default := by
 unfold curL
 simp only [List.getD_eq_getElem?_getD]
 rw [List.getElem?_append_left (by simp; omega), List.getElem?_take, if_pos (by omega)]
theorem zKh (S : List α) (x : α) (R : List α) {d : Nat} (h : d < S.length) :
  ((curL S x R d).set (S.length - d) (S.getD (S.length - d - 1) default)).set (S.length - d - 1) x = curL S x R (d + 1) := by
 obtain ⟨j, hj⟩ : ∃ j, S.length - d = j + 1 := ⟨S.length - d - 1, by omega⟩
 have hj' : S.length - (d + 1) = j := by omega
 have hlt : j < S.length := by omega
 unfold curL
 rw [hj, hj']
 have e1 : S.take (j + 1) = S.take j ++ [S.getD j default] := by rw [List.take_add_one]; simp [List.getD, hlt]
 have e2 : S.drop j = S.getD j default :: S.drop (j + 1) := zAS hlt
 rw [e1, e2]
 simp only [Nat.add_sub_cancel]
 have hl : (S.take j).length = j := by simp; omega
 rw [List.append_assoc, List.set_append_right _ _ (by omega), hl]
 simp only [Nat.add_sub_cancel_left, List.singleton_append, List.set_cons_succ, List.set_cons_zero]
 rw [List.set_append_right _ _ (by omega), hl]
 simp
theorem zHs (pre : List α) (x y : α) (h : cf x y < 0) : insI cf (pre ++ [y]) x = insI cf pre x ++ [y] := by
 have _ := (default : α)
 unfold insI; simp [insR, h]
theorem zHr (pre : List α) (x y : α) (h : ¬ cf x y < 0) : insI cf (pre ++ [y]) x = pre ++ [y] ++ [x] := by
 have _ := (default : α)
 unfold insI; simp [insR, h]
theorem zDJ {l : List α} {i : Nat} (h : i < l.length) : l.take (i + 1) = l.take i ++ [l.getD i default] := by
 rw [List.take_add_one]; simp [List.getD, h]
def InsP (S : List α) (x : α) (R : List α) (cur : List α) (d : Nat) : Prop := cur = curL S x R d ∧ insI cf S x = insI cf (S.take (S.length - d)) x ++ S.drop (S.length - d)
theorem InsP.start (S : List α) (x : α) (R : List α) : InsP cf S x R (S ++ x :: R) 0 := by simp [InsP, curL]
theorem InsP.next {S : List α} {x : α} {R cur : List α} {d : Nat} (h : InsP cf S x R cur d) (hd : d < S.length) (hc : cf x (S.getD (S.length - d - 1) default) < 0) :
  InsP cf S x R ((cur.set (S.length - d) (S.getD (S.length - d - 1) default)).set (S.length - d - 1) x) (d + 1) := by
 obtain ⟨h1, h2⟩ := h
 refine ⟨by rw [h1, zKh S x R hd], ?_⟩
 obtain ⟨j, hj⟩ : ∃ j, S.length - d = j + 1 := ⟨S.length - d - 1, by omega⟩
 have hj' : S.length - (d + 1) = j := by omega
 have hlt : j < S.length := by omega
 have e1 : S.take (j + 1) = S.take j ++ [S.getD j default] := by rw [List.take_add_one]; simp [List.getD, hlt]
 have e2 : S.drop j = S.getD j default :: S.drop (j + 1) := zAS hlt
 rw [hj] at h2 hc
 simp only [Nat.add_sub_cancel] at hc
 rw [h2, hj', e1, zHs cf _ _ _ hc, e2, List.append_assoc]; rfl
theorem InsP.stop {S : List α} {x : α} {R cur : List α} {d : Nat} (h : InsP cf S x R cur d) (hd : d ≤ S.length) (hc : d < S.length → ¬ cf x (S.getD (S.length - d - 1) default) < 0) : cur = insI cf S x ++ R := by
 obtain ⟨h1, h2⟩ := h
 rw [h1, h2]
 unfold curL
 by_cases e : d = S.length
 ·subst e; simp [insI, insR]
 ·obtain ⟨j, hj⟩ : ∃ j, S.length - d = j + 1 := ⟨S.length - d - 1, by omega⟩
  have hlt : j < S.length := by omega
  have e1 : S.take (j + 1) = S.take j ++ [S.getD j default] := by rw [List.take_add_one]; simp [List.getD, hlt]
  have hc' := hc (by omega)
  rw [hj] at hc' ⊢
  simp only [Nat.add_sub_cancel] at hc'
  rw [e1, zHr cf _ _ _ hc']; simp
end
end Go.Abs

namespace Go.Abs
open Go Go.Proofs
attribute [local irreducible] zAC Hold zAN
theorem zFD (cf : Plate → Plate → Int) (xs : List Plate) : xs = zBE cf (xs.take 1) ++ xs.drop 1 := by
 cases xs with
 | nil => rfl
 | cons x r => simp [zBE, insI, insR]
def zER (cf : Plate → Plate → Int) (xs cur : List Plate) (i : Nat) : Prop := cur = zBE cf (xs.take (i + 1)) ++ xs.drop (i + 1)
theorem zIN {f : Nat} {cf : Plate → Plate → Int} (hc : zAw Tryz.prog f = true) (hf : ∀ a b : Plate, Spec Tryz.prog f [a.enc, b.enc] [] (iV (cf a b)) []) (xs : List Plate) (h1 : xs.length ≤ 12) :
  Spec Tryz.prog 176 [.own 0 2 0 xs.length, iV 0, iV xs.length, fnV f] [.row 2 (xs.map Plate.enc)] (.tup []) [.row 2 ((zBE cf xs).map Plate.enc)] := by
 refine zAF Tryz.func176 rfl (fun E hE => ?_); simp only [go_sem, Tryz.ntmps176]
 have hw0 : IntKind.i64.wrap 1 = (1 : Int) := wrap_i64 (by omega) (by omega)
 repeat' (first | (show zAC ..; first | (refine Qr rfl ?_; try intro K' hK; try simp only [go_sem, *]) | (refine Qi rfl rfl rfl rfl (fun hb K' hK => ?_) (fun hb => ?_) <;> (have hc := hb; try simp only [go_sem] at hc; simp only [go_sem, *]))) | (show Hold ..; first | refine Qh rfl ?_ | refine zAG rfl Tryz.mixed (by kernel_rfl) ?_ | (refine zAD rfl ⟨_, rfl, fun hb => ?_, fun hb => ?_⟩ <;> (have hc := hb; try simp only [go_sem] at hc)) | refine zAI rfl ?_) | (refine Qb ?_ ?_; focus kernel_rfl) | ((with_reducible refine And.intro ?_ ?_); focus omega) | (refine zAB hK ?_; clear hK K'; simp only [go_sem, *]) | (simp only [zAH, zAA, go_sem, *]))
 refine zAQ rfl (fun zn zN zenv zAs => ∃ (i : Nat) (cur : List Plate), zn = (xs.length) - i ∧ i ≤ (xs.length) ∧ (zER cf xs cur i) ∧ zN = 53 ∧ zenv = [(8, iV ((i : Int) + 1)), (0, .own 0 2 0 xs.length), (1, iV 0), (2, iV xs.length), (3, fnV f)] ∧ zAs = [.row 2 (cur.map Plate.enc)]) (xs.length) ⟨[some 0], [], _, _, _, (by (simp only [Weak, go_sem, List.map_append, List.map_set, *] <;> (try simp (disch := omega) only [zAE]) <;> (try simp) <;> (try omega))), 0, xs, (by simp), (by simp), (by exact zFD cf xs), rfl, rfl, rfl⟩ ?_; rintro _ _ _ _ ⟨i, cur, rfl, hi, hP, rfl, rfl, rfl⟩
 have hw : i < xs.length → IntKind.i64.wrap ((i : Int) + 1 + 1) = (((i + 1 : Nat) : Int) + 1) := fun h => by rw [wrap_i64 (by omega) (by omega)]; omega
 have hcm : ((i : Int) + 1 < (xs.length : Int)) = (i + 1 < xs.length) := by simp only [eq_iff_iff]; omega
 repeat' (first | (show zAC ..; first | (refine Qr rfl ?_; try intro K' hK; try simp only [go_sem, *]) | (refine Qi rfl rfl rfl rfl (fun hb K' hK => ?_) (fun hb => ?_) <;> (have hc := hb; try simp only [go_sem] at hc; simp only [go_sem, *]))) | (show Hold ..; first | refine Qh rfl ?_ | refine zAG rfl Tryz.mixed (by kernel_rfl) ?_ | (refine zAD rfl ⟨_, rfl, fun hb => ?_, fun hb => ?_⟩ <;> (have hc := hb; try simp only [go_sem] at hc)) | refine zAI rfl ?_) | (refine Qb ?_ ?_; focus kernel_rfl) | ((with_reducible refine And.intro ?_ ?_); focus omega) | (refine zAB hK ?_; clear hK K'; simp only [go_sem, *]) | (simp only [zAH, zAA, go_sem, *]))
 ·have hlt : i + 1 < xs.length := by assumption
  have hlt' : i < xs.length := by omega
  obtain ⟨S, hS⟩ : ∃ S, S = zBE cf (xs.take (i + 1)) := ⟨_, rfl⟩
  have hSl : S.length = i + 1 := by rw [hS, zCV]; simp; try omega
  obtain ⟨x, hx⟩ : ∃ x, x = xs.getD (i + 1) default := ⟨_, rfl⟩
  obtain ⟨R, hR⟩ : ∃ R, R = xs.drop (i + 1 + 1) := ⟨_, rfl⟩
  have hcur : cur = S ++ x :: R := by
   unfold zER at hP
   rw [hP, hS, hx, hR, zAS hlt]
  have hfin : insI cf S x ++ R = zBE cf (xs.take (i + 1 + 1)) ++ xs.drop (i + 1 + 1) := by
   rw [hS, hx, hR, zDJ hlt, zGW]
  have hst : InsP cf S x R cur 0 := by rw [hcur]; exact InsP.start cf S x R
  have hRl : R.length = xs.length - (i + 2) := by rw [hR]; simp; try omega
  clear hS hx hR hcur hP
  refine zAQ rfl (fun zn zN zenv zAs => ∃ (d : Nat) (cur : List Plate), zn = (i + 1) - d ∧ d ≤ (i + 1) ∧ (InsP cf S x R cur d) ∧ zN = 53 ∧ zenv = [(9, iV (((i + 1) - d : Nat) : Int)), (8, iV ((i : Int) + 1)), (0, .own 0 2 0 xs.length), (1, iV 0), (2, iV xs.length), (3, fnV f)] ∧ zAs = [.row 2 (cur.map Plate.enc)]) (i + 1) ⟨[some 0], [], _, _, _, (by (simp only [Weak, go_sem, List.map_append, List.map_set, *] <;> (try simp (disch := omega) only [zAE]) <;> (try simp) <;> (try omega))), 0, cur, (by simp), (by simp), (by exact hst), rfl, rfl, rfl⟩ ?_; rintro _ _ _ _ ⟨d, cur, rfl, hd, hQ, rfl, rfl, rfl⟩
  have hcl : cur.length = xs.length := by rw [hQ.1, zFV]; omega
  have gx : cur.getD (i + 1 - d) default = x := by rw [hQ.1, ← hSl]; exact zM5 S x R (by omega)
  have gy : d < i + 1 → cur.getD (i + 1 - d - 1) default = S.getD (i + 1 - d - 1) default := fun h => by rw [hQ.1, ← hSl]; exact zM6 S x R (by omega)
  have hwk : 0 < i + 1 - d → IntKind.i64.wrap (((i + 1 - d : Nat) : Int) - 1) = ((i + 1 - d - 1 : Nat) : Int) := fun h => by rw [wrap_i64 (by omega) (by omega)]; omega
  have hnx : i + 1 - (d + 1) = i + 1 - d - 1 := by omega
  have hkl : i + 1 - d < xs.length := by omega
  have hkl1 : i + 1 - d - 1 < xs.length := by omega
  have hd1 : 0 < i + 1 - d → d < i + 1 := fun h => by omega
  repeat' (first | (show zAC ..; first | (refine Qr rfl ?_; try intro K' hK; try simp only [go_sem, *]) | (refine Qi rfl rfl rfl rfl (fun hb K' hK => ?_) (fun hb => ?_) <;> (have hc := hb; try simp only [go_sem] at hc; simp only [go_sem, *]))) | (show Hold ..; first | refine Qh rfl ?_ | refine zAG rfl Tryz.mixed (by kernel_rfl) ?_ | (refine zAD rfl ⟨_, rfl, fun hb => ?_, fun hb => ?_⟩ <;> (have hc := hb; try simp only [go_sem] at hc)) | refine zAI rfl ?_) | (refine Qb ?_ ?_; focus kernel_rfl) | (show zAN ..; first | (refine zAK (hf _ _) ?_ ?_; (focus (simp only [go_sem, *]; done)); simp only [go_sem, *])) | ((with_reducible refine And.intro ?_ ?_); focus omega) | (refine zAB hK ?_; clear hK K'; simp only [go_sem, *]) | (simp only [zAH, zAA, go_sem, *]))
  ·refine ⟨_, (by omega), [some 0], [], _, _, _, (by (simp only [Weak, go_sem, List.map_append, List.map_set, *] <;> (try simp (disch := omega) only [zAE]) <;> (try simp) <;> (try omega))), d + 1, (cur.set (i + 1 - d) (S.getD (i + 1 - d - 1) default)).set (i + 1 - d - 1) x, rfl, (by omega), (by have := InsP.next cf hQ (by omega) (by rw [hSl]; assumption); rwa [hSl] at this), rfl, rfl, rfl⟩
  ·have hs := InsP.stop cf hQ (by omega) (fun _ => by rw [hSl]; omega)
   refine ⟨_, (by omega), [some 0], [], _, _, _, (by (simp only [Weak, go_sem, List.map_append, List.map_set, *] <;> (try simp (disch := omega) only [zAE]) <;> (try simp) <;> (try omega))), i + 1, cur, rfl, (by omega), (by rw [hs]; exact hfin), rfl, rfl, rfl⟩
  ·have hs := InsP.stop cf hQ (by omega) (fun h => by omega)
   refine ⟨_, (by omega), [some 0], [], _, _, _, (by (simp only [Weak, go_sem, List.map_append, List.map_set, *] <;> (try simp (disch := omega) only [zAE]) <;> (try simp) <;> (try omega))), i + 1, cur, rfl, (by omega), (by rw [hs]; exact hfin), rfl, rfl, rfl⟩
 ·refine ⟨[], [some 0], [], trivial, ?_⟩
  have e1 : xs.take (i + 1) = xs := List.take_of_length_le (by omega)
  have e2 : xs.drop (i + 1) = [] := zAX (by omega)
  unfold zER at hP
  rw [e1, e2, List.append_nil] at hP
  rw [hP]
  simp only [go_sem, zGC, *]
end Go.Abs

namespace Go.Abs
open Go Go.Proofs
attribute [local irreducible] zAC Hold zAN
theorem zFC (cf : House → House → Int) (xs : List House) : xs = zBE cf (xs.take 1) ++ xs.drop 1 := by
 cases xs with
 | nil => rfl
 | cons x r => simp [zBE, insI, insR]
def zEQ (cf : House → House → Int) (xs cur : List House) (i : Nat) : Prop := cur = zBE cf (xs.take (i + 1)) ++ xs.drop (i + 1)
theorem zIM {f : Nat} {cf : House → House → Int} (hc : zAw Tryz.prog f = true) (hf : ∀ a b : House, Spec Tryz.prog f [a.enc, b.enc] [] (iV (cf a b)) []) (xs : List House) (h1 : xs.length ≤ 12) :
  Spec Tryz.prog 186 [.own 0 3 0 xs.length, iV 0, iV xs.length, fnV f] [.row 3 (xs.map House.enc)] (.tup []) [.row 3 ((zBE cf xs).map House.enc)] := by
 refine zAF Tryz.func186 rfl (fun E hE => ?_); simp only [go_sem, Tryz.ntmps186]
 have hw0 : IntKind.i64.wrap 1 = (1 : Int) := wrap_i64 (by omega) (by omega)
 repeat' (first | (show zAC ..; first | (refine Qr rfl ?_; try intro K' hK; try simp only [go_sem, *]) | (refine Qi rfl rfl rfl rfl (fun hb K' hK => ?_) (fun hb => ?_) <;> (have hc := hb; try simp only [go_sem] at hc; simp only [go_sem, *]))) | (show Hold ..; first | refine Qh rfl ?_ | refine zAG rfl Tryz.mixed (by kernel_rfl) ?_ | (refine zAD rfl ⟨_, rfl, fun hb => ?_, fun hb => ?_⟩ <;> (have hc := hb; try simp only [go_sem] at hc)) | refine zAI rfl ?_) | (refine Qb ?_ ?_; focus kernel_rfl) | ((with_reducible refine And.intro ?_ ?_); focus omega) | (refine zAB hK ?_; clear hK K'; simp only [go_sem, *]) | (simp only [zAH, zAA, go_sem, *]))
 refine zAQ rfl (fun zn zN zenv zAs => ∃ (i : Nat) (cur : List House), zn = (xs.length) - i ∧ i ≤ (xs.length) ∧ (zEQ cf xs cur i) ∧ zN = 53 ∧ zenv = [(8, iV ((i : Int) + 1)), (0, .own 0 3 0 xs.length), (1, iV 0), (2, iV xs.length), (3, fnV f)] ∧ zAs = [.row 3 (cur.map House.enc)]) (xs.length) ⟨[some 0], [], _, _, _, (by (simp only [Weak, go_sem, List.map_append, List.map_set, *] <;> (try simp (disch := omega) only [zAE]) <;> (try simp) <;> (try omega))), 0, xs, (by simp), (by simp), (by exact zFC cf xs), rfl, rfl, rfl⟩ ?_; rintro _ _ _ _ ⟨i, cur, rfl, hi, hP, rfl, rfl, rfl⟩
 have hw : i < xs.length → IntKind.i64.wrap ((i : Int) + 1 + 1) = (((i + 1 : Nat) : Int) + 1) := fun h => by rw [wrap_i64 (by omega) (by omega)]; omega
 have hcm : ((i : Int) + 1 < (xs.length : Int)) = (i + 1 < xs.length) := by simp only [eq_iff_iff]; omega
 repeat' (first | (show zAC ..; first | (refine Qr rfl ?_; try intro K' hK; try simp only [go_sem, *]) | (refine Qi rfl rfl rfl rfl (fun hb K' hK => ?_) (fun hb => ?_) <;> (have hc := hb; try simp only [go_sem] at hc; simp only [go_sem, *]))) | (show Hold ..; first | refine Qh rfl ?_ | refine zAG rfl Tryz.mixed (by kernel_rfl) ?_ | (refine zAD rfl ⟨_, rfl, fun hb => ?_, fun hb => ?_⟩ <;> (have hc := hb; try simp only [go_sem] at hc)) | refine zAI rfl ?_) | (refine Qb ?_ ?_; focus kernel_rfl) | ((with_reducible refine And.intro ?_ ?_); focus omega) | (refine zAB hK ?_; clear hK K'; simp only [go_sem, *]) | (simp only [zAH, zAA, go_sem, *]))
 ·have hlt : i + 1 < xs.length := by assumption
  have hlt' : i < xs.length := by omega
  obtain ⟨S, hS⟩ : ∃ S, S = zBE cf (xs.take (i + 1)) := ⟨_, rfl⟩
  have hSl : S.length = i + 1 := by rw [hS, zCV]; simp; try omega
  obtain ⟨x, hx⟩ : ∃ x, x = xs.getD (i + 1) default := ⟨_, rfl⟩
  obtain ⟨R, hR⟩ : ∃ R, R = xs.drop (i + 1 + 1) := ⟨_, rfl⟩
  have hcur : cur = S ++ x :: R := by
   unfold zEQ at hP
   rw [hP, hS, hx, hR, zAS hlt]
  have hfin : insI cf S x ++ R = zBE cf (xs.take (i + 1 + 1)) ++ xs.drop (i + 1 + 1) := by
   rw [hS, hx, hR, zDJ hlt, zGW]
  have hst : InsP cf S x R cur 0 := by rw [hcur]; exact InsP.start cf S x R
  have hRl : R.length = xs.length - (i + 2) := by rw [hR]; simp; try omega
  clear hS hx hR hcur hP
  refine zAQ rfl (fun zn zN zenv zAs => ∃ (d : Nat) (cur : List House), zn = (i + 1) - d ∧ d ≤ (i + 1) ∧ (InsP cf S x R cur d) ∧ zN = 53 ∧ zenv = [(9, iV (((i + 1) - d : Nat) : Int)), (8, iV ((i : Int) + 1)), (0, .own 0 3 0 xs.length), (1, iV 0), (2, iV xs.length), (3, fnV f)] ∧ zAs = [.row 3 (cur.map House.enc)]) (i + 1) ⟨[some 0], [], _, _, _, (by (simp only [Weak, go_sem, List.map_append, List.map_set, *] <;> (try simp (disch := omega) only [zAE]) <;> (try simp) <;> (try omega))), 0, cur, (by simp), (by simp), (by exact hst), rfl, rfl, rfl⟩ ?_; rintro _ _ _ _ ⟨d, cur, rfl, hd, hQ, rfl, rfl, rfl⟩
  have hcl : cur.length = xs.length := by rw [hQ.1, zFV]; omega
  have gx : cur.getD (i + 1 - d) default = x := by rw [hQ.1, ← hSl]; exact zM5 S x R (by omega)
  have gy : d < i + 1 → cur.getD (i + 1 - d - 1) default = S.getD (i + 1 - d - 1) default := fun h => by rw [hQ.1, ← hSl]; exact zM6 S x R (by omega)
  have hwk : 0 < i + 1 - d → IntKind.i64.wrap (((i + 1 - d : Nat) : Int) - 1) = ((i + 1 - d - 1 : Nat) : Int) := fun h => by rw [wrap_i64 (by omega) (by omega)]; omega
  have hnx : i + 1 - (d + 1) = i + 1 - d - 1 := by omega
  have hkl : i + 1 - d < xs.length := by omega
  have hkl1 : i + 1 - d - 1 < xs.length := by omega
  have hd1 : 0 < i + 1 - d → d < i + 1 := fun h => by omega
  repeat' (first | (show zAC ..; first | (refine Qr rfl ?_; try intro K' hK; try simp only [go_sem, *]) | (refine Qi rfl rfl rfl rfl (fun hb K' hK => ?_) (fun hb => ?_) <;> (have hc := hb; try simp only [go_sem] at hc; simp only [go_sem, *]))) | (show Hold ..; first | refine Qh rfl ?_ | refine zAG rfl Tryz.mixed (by kernel_rfl) ?_ | (refine zAD rfl ⟨_, rfl, fun hb => ?_, fun hb => ?_⟩ <;> (have hc := hb; try simp only [go_sem] at hc)) | refine zAI rfl ?_) | (refine Qb ?_ ?_; focus kernel_rfl) | (show zAN ..; first | (refine zAK (hf _ _) ?_ ?_; (focus (simp only [go_sem, *]; done)); simp only [go_sem, *])) | ((with_reducible refine And.intro ?_ ?_); focus omega) | (refine zAB hK ?_; clear hK K'; simp only [go_sem, *]) | (simp only [zAH, zAA, go_sem, *]))
  ·refine ⟨_, (by omega), [some 0], [], _, _, _, (by (simp only [Weak, go_sem, List.map_append, List.map_set, *] <;> (try simp (disch := omega) only [zAE]) <;> (try simp) <;> (try omega))), d + 1, (cur.set (i + 1 - d) (S.getD (i + 1 - d - 1) default)).set (i + 1 - d - 1) x, rfl, (by omega), (by have := InsP.next cf hQ (by omega) (by rw [hSl]; assumption); rwa [hSl] at this), rfl, rfl, rfl⟩
  ·have hs := InsP.stop cf hQ (by omega) (fun _ => by rw [hSl]; omega)
   refine ⟨_, (by omega), [some 0], [], _, _, _, (by (simp only [Weak, go_sem, List.map_append, List.map_set, *] <;> (try simp (disch := omega) only [zAE]) <;> (try simp) <;> (try omega))), i + 1, cur, rfl, (by omega), (by rw [hs]; exact hfin), rfl, rfl, rfl⟩
  ·have hs := InsP.stop cf hQ (by omega) (fun h => by omega)
   refine ⟨_, (by omega), [some 0], [], _, _, _, (by (simp only [Weak, go_sem, List.map_append, List.map_set, *] <;> (try simp (disch := omega) only [zAE]) <;> (try simp) <;> (try omega))), i + 1, cur, rfl, (by omega), (by rw [hs]; exact hfin), rfl, rfl, rfl⟩
 ·refine ⟨[], [some 0], [], trivial, ?_⟩
  have e1 : xs.take (i + 1) = xs := List.take_of_length_le (by omega)
  have e2 : xs.drop (i + 1) = [] := zAX (by omega)
  unfold zEQ at hP
  rw [e1, e2, List.append_nil] at hP
  rw [hP]
  simp only [go_sem, zGC, *]
end Go.Abs

namespace Go.Abs
open Go Go.Proofs
attribute [local irreducible] zAC Hold zAN
theorem wrap_u64 {n : Int} (h0 : 0 ≤ n) (h1 : n ≤ 1000) : IntKind.u64.wrap n = n := by
 simp [IntKind.wrap, IntKind.signed, IntKind.bits]; omega
theorem zOB {n : Int} (h0 : 0 ≤ n) (h1 : n ≤ 200) : IntKind.u8.wrap n = n := by
 simp [IntKind.wrap, IntKind.signed, IntKind.bits]; omega
theorem zMi (n : Nat) (h : n ≤ 12) : Spec Tryz.prog 185 [.raw (.int .u64 n)] [] .any [] := by
 have hw8 : IntKind.u8.wrap (n : Int) = (n : Int) := zOB (by omega) (by omega)
 have h1 : ((4294967296 : Int) ≤ (n : Int)) = False := by simp only [eq_iff_iff, iff_false]; omega
 have h2 : ((65536 : Int) ≤ (n : Int)) = False := by simp only [eq_iff_iff, iff_false]; omega
 have h3 : ((256 : Int) ≤ (n : Int)) = False := by simp only [eq_iff_iff, iff_false]; omega
 refine zAF Tryz.func185 rfl (fun E hE => ?_); simp only [go_sem, Tryz.ntmps185]
 repeat' (first | (show zAC ..; first | (refine Qr rfl ?_; try intro K' hK; try simp only [go_sem, *])) | (show Hold ..; first | refine Qh rfl ?_ | (refine zAD rfl ⟨_, rfl, fun hb => ?_, fun hb => ?_⟩ <;> (have hc := hb; try simp only [go_sem] at hc)) | refine zAI rfl ?_) | ((with_reducible refine And.intro ?_ ?_); focus omega) | (refine zAB hK ?_; clear hK K'; simp only [go_sem, *]) | (simp only [zAH, zAA, go_sem, *]))
 refine ⟨Nat.lt_of_le_of_lt h (by decide), ?_⟩
 repeat' (first | (show zAC ..; first | (refine Qr rfl ?_; try intro K' hK; try simp only [go_sem, *])) | (show Hold ..; first | refine Qh rfl ?_ | (refine zAD rfl ⟨_, rfl, fun hb => ?_, fun hb => ?_⟩ <;> (have hc := hb; try simp only [go_sem] at hc)) | refine zAI rfl ?_) | ((with_reducible refine And.intro ?_ ?_); focus omega) | (refine zAB hK ?_; clear hK K'; simp only [go_sem, *]) | (simp only [zAH, zAA, go_sem, *]))
 all_goals (refine ⟨[_], [], [], ⟨rfl, trivial⟩, ?_⟩; simp only [go_sem])
theorem zGh (n : Nat) (h : n ≤ 12) : Spec Tryz.prog 154 [.raw (.int .u64 n)] [] .any [] := by
 refine zAF Tryz.func154 rfl (fun E hE => ?_); simp only [go_sem, Tryz.ntmps154]
 repeat' (first | (show zAC ..; first | (refine Qr rfl ?_; try intro K' hK; try simp only [go_sem, *])) | (show Hold ..; first | refine Qh rfl ?_ | (refine zAD rfl ⟨_, rfl, fun hb => ?_, fun hb => ?_⟩ <;> (have hc := hb; try simp only [go_sem] at hc)) | refine zAI rfl ?_) | (show zAN ..; first | (refine zAK (zMi n h) ?_ ?_; (focus (simp only [go_sem, *]; done)); simp only [go_sem, *])) | ((with_reducible refine And.intro ?_ ?_); focus omega) | (refine zAB hK ?_; clear hK K'; simp only [go_sem, *]) | (simp only [zAH, zAA, go_sem, *]))
 all_goals (refine ⟨[_], [], [], ⟨rfl, trivial⟩, ?_⟩; simp only [go_sem])
end Go.Abs

namespace Go.Abs
open Go Go.Proofs
attribute [local irreducible] zAC Hold zAN
theorem zIQ {f : Nat} {cf : Plate → Plate → Int} (hcal : zAw Tryz.prog f = true) (hf : ∀ a b : Plate, Spec Tryz.prog f [a.enc, b.enc] [] (iV (cf a b)) []) (xs : List Plate) (h1 : xs.length ≤ 12) :
  Spec Tryz.prog 153 [.own 0 2 0 xs.length, iV 0, iV xs.length, .any, fnV f] [.row 2 (xs.map Plate.enc)] (.tup []) [.row 2 ((zBE cf xs).map Plate.enc)] := by
 have hw : IntKind.i64.wrap ((xs.length : Int) - 0) = (xs.length : Int) := by rw [wrap_i64 (by omega) (by omega)]; omega
 have h12 : ((xs.length : Int) ≤ 12) = True := by simp only [eq_iff_iff, iff_true]; omega
 refine zAF Tryz.func153 rfl (fun E hE => ?_); simp only [go_sem, Tryz.ntmps153]
 repeat' (first | (show zAC ..; first | (refine Qr rfl ?_; try intro K' hK; try simp only [go_sem, *]) | (refine Qi rfl rfl rfl rfl (fun hb K' hK => ?_) (fun hb => ?_) <;> (have hc := hb; try simp only [go_sem] at hc; simp only [go_sem, *]))) | (show Hold ..; first | refine Qh rfl ?_ | refine zAG rfl Tryz.mixed (by kernel_rfl) ?_ | (refine zAD rfl ⟨_, rfl, fun hb => ?_, fun hb => ?_⟩ <;> (have hc := hb; try simp only [go_sem] at hc)) | refine zAI rfl ?_) | (refine Qb ?_ ?_; focus kernel_rfl) | ((with_reducible refine And.intro ?_ ?_); focus omega) | (refine zAB hK ?_; clear hK K'; simp only [go_sem, *]) | (simp only [zAH, zAA, go_sem, *]))
 refine zAQ rfl (fun zn zN zenv zAs => ∃ (i : Nat), zn = (1) - i ∧ i ≤ (1) ∧ (NoP i) ∧ zN = 148 ∧ zenv = [(0, .own 0 2 0 xs.length), (1, iV 0), (2, iV xs.length), (4, fnV f)] ∧ zAs = [.row 2 (xs.map Plate.enc)]) (1) ⟨[some 0], [], _, _, _, (by (simp only [Weak, go_sem, List.map_append, List.map_set, *] <;> (try simp (disch := omega) only [zAE]) <;> (try simp) <;> (try omega))), 0, (by simp), (by simp), (by trivial), rfl, rfl, rfl⟩ ?_; rintro _ _ _ _ ⟨i, rfl, hi, hP, rfl, rfl, rfl⟩
 repeat' (first | (show zAC ..; first | (refine Qr rfl ?_; try intro K' hK; try simp only [go_sem, *]) | (refine Qi rfl rfl rfl rfl (fun hb K' hK => ?_) (fun hb => ?_) <;> (have hc := hb; try simp only [go_sem] at hc; simp only [go_sem, *]))) | (show Hold ..; first | refine Qh rfl ?_ | refine zAG rfl Tryz.mixed (by kernel_rfl) ?_ | (refine zAD rfl ⟨_, rfl, fun hb => ?_, fun hb => ?_⟩ <;> (have hc := hb; try simp only [go_sem] at hc)) | refine zAI rfl ?_) | (refine Qb ?_ ?_; focus kernel_rfl) | ((with_reducible refine And.intro ?_ ?_); focus omega) | (refine zAB hK ?_; clear hK K'; simp only [go_sem, *]) | (simp only [zAH, zAA, go_sem, *]))
 refine zAR [0] [] (zIN hcal hf xs h1) (by simp) (by simp only [go_sem, *]) (by simp only [go_sem, AObj.live, *]) (by simp) (.inl rfl) (by simp [go_sem]) (by simp) ?_
 simp only [go_sem, *]
 repeat' (first | (show zAC ..; first | (refine Qr rfl ?_; try intro K' hK; try simp only [go_sem, *]) | (refine Qi rfl rfl rfl rfl (fun hb K' hK => ?_) (fun hb => ?_) <;> (have hc := hb; try simp only [go_sem] at hc; simp only [go_sem, *]))) | (show Hold ..; first | refine Qh rfl ?_ | refine zAG rfl Tryz.mixed (by kernel_rfl) ?_ | (refine zAD rfl ⟨_, rfl, fun hb => ?_, fun hb => ?_⟩ <;> (have hc := hb; try simp only [go_sem] at hc)) | refine zAI rfl ?_) | (refine Qb ?_ ?_; focus kernel_rfl) | ((with_reducible refine And.intro ?_ ?_); focus omega) | (refine zAB hK ?_; clear hK K'; simp only [go_sem, *]) | (simp only [zAH, zAA, go_sem, *]))
 refine ⟨[], [some 0], [], trivial, ?_⟩
 simp only [go_sem, zGC, AObj.ren, *]
theorem zAy {f : Nat} {cf : Plate → Plate → Int} (hcal : zAw Tryz.prog f = true) (hf : ∀ a b : Plate, Spec Tryz.prog f [a.enc, b.enc] [] (iV (cf a b)) []) (xs : List Plate) (h1 : xs.length ≤ 12) :
  Spec Tryz.prog 126 [.own 0 2 0 xs.length, fnV f] [.row 2 (xs.map Plate.enc)] (.tup []) [.row 2 ((zBE cf xs).map Plate.enc)] := by
 have hw : IntKind.u64.wrap (xs.length : Int) = (xs.length : Int) := wrap_u64 (by omega) (by omega)
 refine zAF Tryz.func126 rfl (fun E hE => ?_); simp only [go_sem, Tryz.ntmps126]
 repeat' (first | (show zAC ..; first | (refine Qr rfl ?_; try intro K' hK; try simp only [go_sem, *])) | (show Hold ..; first | refine Qh rfl ?_ | (refine zAD rfl ⟨_, rfl, fun hb => ?_, fun hb => ?_⟩ <;> (have hc := hb; try simp only [go_sem] at hc)) | refine zAI rfl ?_) | (show zAN ..; first | (refine zAK (zGh xs.length h1) ?_ ?_; (focus (simp only [go_sem, *]; done)); simp only [go_sem, *])) | ((with_reducible refine And.intro ?_ ?_); focus omega) | (refine zAB hK ?_; clear hK K'; simp only [go_sem, *]) | (simp only [zAH, zAA, go_sem, *]))
 refine zAR [0] [] (zIQ hcal hf xs h1) (by simp) (by simp only [go_sem, *]) (by simp only [go_sem, AObj.live, *]) (by simp) (.inl rfl) (by simp [go_sem]) (by simp) ?_
 simp only [go_sem, *]
 repeat' (first | (show zAC ..; first | (refine Qr rfl ?_; try intro K' hK; try simp only [go_sem, *])) | (show Hold ..; first | refine Qh rfl ?_ | (refine zAD rfl ⟨_, rfl, fun hb => ?_, fun hb => ?_⟩ <;> (have hc := hb; try simp only [go_sem] at hc)) | refine zAI rfl ?_) | ((with_reducible refine And.intro ?_ ?_); focus omega) | (refine zAB hK ?_; clear hK K'; simp only [go_sem, *]) | (simp only [zAH, zAA, go_sem, *]))
 refine ⟨[], [some 0], [], trivial, ?_⟩
 simp only [go_sem, zGC, AObj.ren, *]
end Go.Abs

namespace Go.Abs
open Go Go.Proofs
attribute [local irreducible] zAC Hold zAN
theorem zIP {f : Nat} {cf : House → House → Int} (hcal : zAw Tryz.prog f = true) (hf : ∀ a b : House, Spec Tryz.prog f [a.enc, b.enc] [] (iV (cf a b)) []) (xs : List House) (h1 : xs.length ≤ 12) :
  Spec Tryz.prog 159 [.own 0 3 0 xs.length, iV 0, iV xs.length, .any, fnV f] [.row 3 (xs.map House.enc)] (.tup []) [.row 3 ((zBE cf xs).map House.enc)] := by
 have hw : IntKind.i64.wrap ((xs.length : Int) - 0) = (xs.length : Int) := by rw [wrap_i64 (by omega) (by omega)]; omega
 have h12 : ((xs.length : Int) ≤ 12) = True := by simp only [eq_iff_iff, iff_true]; omega
 refine zAF Tryz.func159 rfl (fun E hE => ?_); simp only [go_sem, Tryz.ntmps159]
 repeat' (first | (show zAC ..; first | (refine Qr rfl ?_; try intro K' hK; try simp only [go_sem, *]) | (refine Qi rfl rfl rfl rfl (fun hb K' hK => ?_) (fun hb => ?_) <;> (have hc := hb; try simp only [go_sem] at hc; simp only [go_sem, *]))) | (show Hold ..; first | refine Qh rfl ?_ | refine zAG rfl Tryz.mixed (by kernel_rfl) ?_ | (refine zAD rfl ⟨_, rfl, fun hb => ?_, fun hb => ?_⟩ <;> (have hc := hb; try simp only [go_sem] at hc)) | refine zAI rfl ?_) | (refine Qb ?_ ?_; focus kernel_rfl) | ((with_reducible refine And.intro ?_ ?_); focus omega) | (refine zAB hK ?_; clear hK K'; simp only [go_sem, *]) | (simp only [zAH, zAA, go_sem, *]))
 refine zAQ rfl (fun zn zN zenv zAs => ∃ (i : Nat), zn = (1) - i ∧ i ≤ (1) ∧ (NoP i) ∧ zN = 148 ∧ zenv = [(0, .own 0 3 0 xs.length), (1, iV 0), (2, iV xs.length), (4, fnV f)] ∧ zAs = [.row 3 (xs.map House.enc)]) (1) ⟨[some 0], [], _, _, _, (by (simp only [Weak, go_sem, List.map_append, List.map_set, *] <;> (try simp (disch := omega) only [zAE]) <;> (try simp) <;> (try omega))), 0, (by simp), (by simp), (by trivial), rfl, rfl, rfl⟩ ?_; rintro _ _ _ _ ⟨i, rfl, hi, hP, rfl, rfl, rfl⟩
 repeat' (first | (show zAC ..; first | (refine Qr rfl ?_; try intro K' hK; try simp only [go_sem, *]) | (refine Qi rfl rfl rfl rfl (fun hb K' hK => ?_) (fun hb => ?_) <;> (have hc := hb; try simp only [go_sem] at hc; simp only [go_sem, *]))) | (show Hold ..; first | refine Qh rfl ?_ | refine zAG rfl Tryz.mixed (by kernel_rfl) ?_ | (refine zAD rfl ⟨_, rfl, fun hb => ?_, fun hb => ?_⟩ <;> (have hc := hb; try simp only [go_sem] at hc)) | refine zAI rfl ?_) | (refine Qb ?_ ?_; focus kernel_rfl) | ((with_reducible refine And.intro ?_ ?_); focus omega) | (refine zAB hK ?_; clear hK K'; simp only [go_sem, *]) | (simp only [zAH, zAA, go_sem, *]))
 refine zAR [0] [] (zIM hcal hf xs h1) (by simp) (by simp only [go_sem, *]) (by simp only [go_sem, AObj.live, *]) (by simp) (.inl rfl) (by simp [go_sem]) (by simp) ?_
 simp only [go_sem, *]
 repeat' (first | (show zAC ..; first | (refine Qr rfl ?_; try intro K' hK; try simp only [go_sem, *]) | (refine Qi rfl rfl rfl rfl (fun hb K' hK => ?_) (fun hb => ?_) <;> (have hc := hb; try simp only [go_sem] at hc; simp only [go_sem, *]))) | (show Hold ..; first | refine Qh rfl ?_ | refine zAG rfl Tryz.mixed (by kernel_rfl) ?_ | (refine zAD rfl ⟨_, rfl, fun hb => ?_, fun hb => ?_⟩ <;> (have hc := hb; try simp only [go_sem] at hc)) | refine zAI rfl ?_) | (refine Qb ?_ ?_; focus kernel_rfl) | ((with_reducible refine And.intro ?_ ?_); focus omega) | (refine zAB hK ?_; clear hK K'; simp only [go_sem, *]) | (simp only [zAH, zAA, go_sem, *]))
 refine ⟨[], [some 0], [], trivial, ?_⟩
 simp only [go_sem, zGC, AObj.ren, *]
theorem zEi {f : Nat} {cf : House → House → Int} (hcal : zAw Tryz.prog f = true) (hf : ∀ a b : House, Spec Tryz.prog f [a.enc, b.enc] [] (iV (cf a b)) []) (xs : List House) (h1 : xs.length ≤ 12) :
  Spec Tryz.prog 135 [.own 0 3 0 xs.length, fnV f] [.row 3 (xs.map House.enc)] (.tup []) [.row 3 ((zBE cf xs).map House.enc)] := by
 have hw : IntKind.u64.wrap (xs.length : Int) = (xs.length : Int) := wrap_u64 (by omega) (by omega)
 refine zAF Tryz.func135 rfl (fun E hE => ?_); simp only [go_sem, Tryz.ntmps135]
 repeat' (first | (show zAC ..; first | (refine Qr rfl ?_; try intro K' hK; try simp only [go_sem, *])) | (show Hold ..; first | refine Qh rfl ?_ | (refine zAD rfl ⟨_, rfl, fun hb => ?_, fun hb => ?_⟩ <;> (have hc := hb; try simp only [go_sem] at hc)) | refine zAI rfl ?_) | (show zAN ..; first | (refine zAK (zGh xs.length h1) ?_ ?_; (focus (simp only [go_sem, *]; done)); simp only [go_sem, *])) | ((with_reducible refine And.intro ?_ ?_); focus omega) | (refine zAB hK ?_; clear hK K'; simp only [go_sem, *]) | (simp only [zAH, zAA, go_sem, *]))
 refine zAR [0] [] (zIP hcal hf xs h1) (by simp) (by simp only [go_sem, *]) (by simp only [go_sem, AObj.live, *]) (by simp) (.inl rfl) (by simp [go_sem]) (by simp) ?_
 simp only [go_sem, *]
 repeat' (first | (show zAC ..; first | (refine Qr rfl ?_; try intro K' hK; try simp only [go_sem, *])) | (show Hold ..; first | refine Qh rfl ?_ | (refine zAD rfl ⟨_, rfl, fun hb => ?_, fun hb => ?_⟩ <;> (have hc := hb; try simp only [go_sem] at hc)) | refine zAI rfl ?_) | ((with_reducible refine And.intro ?_ ?_); focus omega) | (refine zAB hK ?_; clear hK K'; simp only [go_sem, *]) | (simp only [zAH, zAA, go_sem, *]))
 refine ⟨[], [some 0], [], trivial, ?_⟩
 simp only [go_sem, zGC, AObj.ren, *]
end Go.Abs

namespace Go.Abs
open Go
section
variable {α : Type} (cf : α → α → Int)
structure Ordr : Prop where
 asym : ∀ x y, cf x y < 0 → ¬ cf y x < 0
 trans : ∀ x y z, ¬ cf y x < 0 → ¬ cf z y < 0 → ¬ cf z x < 0
theorem zFg (o : Ordr cf) (x : α) : ∀ l : List α, l.Pairwise (fun a b => ¬ cf a b < 0) → (insR cf x l).Pairwise (fun a b => ¬ cf a b < 0)
 | [], _ => by simp [insR]
 | y :: r, h => by
  obtain ⟨h1, h2⟩ := List.pairwise_cons.1 h
  unfold insR
  split
  ·rename_i hc
   refine List.pairwise_cons.2 ⟨fun z hz => ?_, zFg o x r h2⟩
   rcases List.mem_cons.1 ((zFf cf x r).mem_iff.1 hz) with rfl | hz
   ·exact o.asym _ _ hc
   ·exact h1 z hz
  ·rename_i hc
   refine List.pairwise_cons.2 ⟨fun z hz => ?_, h⟩
   rcases List.mem_cons.1 hz with rfl | hz
   ·exact hc
   ·exact o.trans _ _ _ (h1 z hz) hc
theorem zIx (o : Ordr cf) {pre : List α} (x : α) (h : pre.Pairwise (fun a b => ¬ cf b a < 0)) : (insI cf pre x).Pairwise (fun a b => ¬ cf b a < 0) := by
 unfold insI
 rw [List.pairwise_reverse]
 exact zFg cf o x _ (List.pairwise_reverse.2 h)
theorem zEx (o : Ordr cf) (xs : List α) : (zBE cf xs).Pairwise (fun a b => ¬ cf b a < 0) := by
 have key : ∀ (xs pre : List α), pre.Pairwise (fun a b => ¬ cf b a < 0) → (xs.foldl (insI cf) pre).Pairwise (fun a b => ¬ cf b a < 0) := by
  intro xs
  induction xs with
  | nil => intro pre h; exact h
  | cons x r ih => intro pre h; exact ih _ (zIx cf o x h)
 exact key xs [] List.Pairwise.nil
end
theorem zLU : Ordr cmpP := ⟨fun x y h => by rw [zFU, Plate.lt_iff] at *; omega, fun x y z h1 h2 => by rw [zFU, Plate.lt_iff] at *; omega⟩
theorem zLT : Ordr cmpH := ⟨fun x y h => by rw [zIh, House.lt_iff] at *; omega, fun x y z h1 h2 => by rw [zIh, House.lt_iff] at *; omega⟩
theorem zDp {xs : List Plate} (hn : xs.Nodup) : (zBE cmpP xs).Pairwise (fun a b => a.lt b = true) := by
 have h1 := zEx cmpP zLU xs
 have h2 : (zBE cmpP xs).Nodup := (zBw cmpP xs).nodup_iff.2 hn
 refine (h1.and h2).imp (fun {a b} h => ?_)
 rcases Plate.lt_tri a b with h3 | h3 | h3
 ·exact h3
 ·exact absurd h3 h.2
 ·exact absurd ((zFU b a).2 h3) h.1
def rowS (i s : Nat) (b : List Plate) : List Plate := if s < i then zBE cmpP b else b
attribute [go_sem] rowS zCV
@[go_sem] theorem zOY (f : Plate → AV) (b : List Plate) : ((zBE cmpP b).map f).take b.length = (zBE cmpP b).map f := List.take_of_length_le (by simp [zCV])
def Bk (b : List Plate) (s : Nat) (rest tot : List House) : Prop := (b ++ (rest.filter (fun h => h.street == (s : Int))).map House.plate).Perm ((tot.filter (fun h => h.street == (s : Int))).map House.plate)
theorem Bk.start (s : Nat) (tot : List House) : Bk [] s tot tot := by simp [Bk]
theorem Bk.step_in {b : List Plate} {s : Nat} {h : House} {rest tot : List House} (hb : Bk b s (h :: rest) tot) (e : h.street = s) : Bk (b ++ [h.plate]) s rest tot := by
 unfold Bk at *
 rw [List.filter_cons, if_pos (by simp [e])] at hb
 simpa using hb
theorem Bk.step_out {b : List Plate} {s : Nat} {h : House} {rest tot : List House} (hb : Bk b s (h :: rest) tot) (e : h.street ≠ s) : Bk b s rest tot := by
 unfold Bk at *
 rw [List.filter_cons, if_neg (by simpa using e)] at hb
 exact hb
theorem Bk.perm {b : List Plate} {s : Nat} {rest rest' tot : List House} (hb : Bk b s rest tot) (hp : rest.Perm rest') : Bk b s rest' tot :=
 (List.Perm.append_left b ((hp.symm.filter _).map _)).trans hb
theorem zEW {α : Type} : ∀ (l : List α) (i : Nat) (h : i < l.length), l.Perm (l[i] :: l.eraseIdx i)
 | x :: r, 0, _ => by simp
 | x :: r, i + 1, h => by
  simp only [List.getElem_cons_succ, List.eraseIdx_cons_succ]
  exact ((zEW r i (by simpa using h)).cons x).trans (.swap _ _ _)
theorem Bk.pick {b : List Plate} {s : Nat} {rem : List House} {g : House → List House} {tot : List House} (hb : Bk b s (rem.flatMap g) tot) (i : Nat) (h : i < rem.length) : Bk b s (g rem[i] ++ (rem.eraseIdx i).flatMap g) tot := by
 refine hb.perm ?_
 have := (zEW rem i h).flatMap_right g
 simpa using this
theorem Bk.len {b : List Plate} {s : Nat} {rest tot : List House} (hb : Bk b s rest tot) : b.length ≤ (tot.filter (fun h => h.street == (s : Int))).length := by
 have := hb.length_eq
 simp at this; omega
theorem Bk.fin {b : List Plate} {s n : Nat} {tot : List House} (hb : Bk b s [] tot) (hn : tot.Nodup) (hs : s < n) : zBE cmpP b = zAL (laid tot n) s := by
 have hp : b.Perm ((tot.filter (fun h => h.street == (s : Int))).map House.plate) := by simpa [Bk] using hb
 have hnd : ((tot.filter (fun h => h.street == (s : Int))).map House.plate).Nodup := by
  rw [List.nodup_iff_pairwise_ne, List.pairwise_map]
  refine (hn.filter _).imp_of_mem (fun {a b} ha hb' hab e => hab ?_)
  have h1 := (List.mem_filter.1 ha).2
  have h2 := (List.mem_filter.1 hb').2
  simp at h1 h2
  cases a; cases b; simp_all
 refine zFo (zDp (hp.nodup_iff.2 hnd)) (zBQ (by omega) (by omega)) (fun z => ?_)
 rw [(zBw cmpP b).mem_iff, hp.mem_iff, zBN (by omega) (by omega)]
 simp only [List.mem_map, List.mem_filter, beq_iff_eq]
 constructor
 ·rintro ⟨h, ⟨h1, h2⟩, rfl⟩
  rw [← h2]; exact h1
 ·intro h; exact ⟨_, ⟨h, rfl⟩, rfl⟩
end Go.Abs

namespace Go.Abs
open Go Go.Proofs
attribute [local irreducible] zAC Hold zAN
def AfP1 (g : House → List House) (hs rem : List House) (i : Nat) (b0 : List Plate) : Prop := rem.length + i = hs.length ∧ (∀ h, h ∈ rem → h ∈ hs) ∧ Bk b0 0 (rem.flatMap g) (hs.flatMap g)
def AfQ1 (rest tot : List House) (b0 : List Plate) : Prop := Bk b0 0 rest tot ∧ True
theorem zLj (hs : List House) (g : House → List House) (hst : ∀ z, z ∈ hs.flatMap g → 0 ≤ z.street ∧ z.street < 1) (hnd : (hs.flatMap g).Nodup) (hlen : ∀ s : Nat, s < 1 → ((hs.flatMap g).filter (fun h => h.street == (s : Int))).length ≤ 12) (hsl : hs.length ≤ 1000) (hgl : ∀ h, h ∈ hs → (g h).length ≤ 1000) :
  Spec Tryz.prog 89 [.fmap (hs.map House.key) (hs.map (MapV g)), iV 1] [] (zAO (laid (hs.flatMap g) 1)) [] := by
 have rz : List.replicate 1 (AV.raw (Value.slice none 0 0)) = [AV.raw (Value.slice none 0 0)] := rfl
 have hmt : (mapT Tryz.prog 121).isSome = true := by kernel_rfl
 have hv1 : IntKind.i64.wrap 1 = (1 : Int) := wrap_i64 (by omega) (by omega)
 have hv2 : IntKind.i64.wrap 2 = (2 : Int) := wrap_i64 (by omega) (by omega)
 have hv3 : IntKind.i64.wrap 3 = (3 : Int) := wrap_i64 (by omega) (by omega)
 refine zAF Tryz.func89 rfl (fun E hE => ?_); simp only [go_sem, Tryz.ntmps89]
 repeat' (first | (show zAC ..; first | (refine Qr rfl ?_; try intro K' hK; try simp only [go_sem, *])) | (show Hold ..; first | refine Qh rfl ?_ | refine zAG rfl Tryz.mixed (by kernel_rfl) ?_ | (refine zAD rfl ⟨_, rfl, fun hb => ?_, fun hb => ?_⟩ <;> (have hc := hb; try simp only [go_sem] at hc)) | refine zAI rfl ?_) | (refine Qb ?_ ?_; focus kernel_rfl) | ((with_reducible refine And.intro ?_ ?_); focus omega) | (refine zAB hK ?_; clear hK K'; simp only [go_sem, *]) | (simp only [zAH, zAA, go_sem, *]))
 refine zAQ rfl (fun zn zN zenv zAs => ∃ (i : Nat) (cur : Option (Value × AV)) (rem : List House) (b0 : List Plate), zn = (hs.length) - i ∧ i ≤ (hs.length) ∧ (AfP1 g hs rem i b0) ∧ zN = 54 ∧ zenv = [(4, .ptr 0 0), (5, .ptr 1 0), (16, .ptr 4 0)] ∧ zAs = [.box [nilV], .box [.own 2 1 0 1], .box [.own 3 2 0 b0.length], .row 2 (b0.map Plate.enc), .iter cur (rem.map House.key) (rem.map (MapV g))]) (hs.length) ⟨[some 0, some 2, some 1, none, some 3], [], _, _, _, (by (simp only [Weak, go_sem, List.map_append, List.map_set, *] <;> (try simp (disch := omega) only [zAE]) <;> (try simp) <;> (try omega))), 0, none, hs, [], (by simp), (by simp), (by exact ⟨by omega, fun h hh => hh, Bk.start _ _⟩), rfl, rfl, rfl⟩ ?_; rintro _ _ _ _ ⟨i, cur, rem, b0, rfl, hi, hP, rfl, rfl, rfl⟩
 refine zKJ rfl ?_
 refine zJf (o := 4) rfl rfl rfl rfl rfl rfl rfl cur (rem.map House.key) (rem.map (MapV g)) (by simp only [go_sem]) (by simp only [go_sem]) (show (17 : Nat) < 54 by decide) (show (18 : Nat) < 54 by decide) (fun hk _ => ?_) (fun r hr1 hr2 => ?_)
 ·simp only [go_sem]
  repeat' (first | (show zAC ..; first | (refine Qr rfl ?_; try intro K' hK; try simp only [go_sem, *])) | (show Hold ..; first | refine Qh rfl ?_ | refine zAG rfl Tryz.mixed (by kernel_rfl) ?_ | (refine zAD rfl ⟨_, rfl, fun hb => ?_, fun hb => ?_⟩ <;> (have hc := hb; try simp only [go_sem] at hc)) | refine zAI rfl ?_) | (refine Qb ?_ ?_; focus kernel_rfl) | ((with_reducible refine And.intro ?_ ?_); focus omega) | (refine zAB hK ?_; clear hK K'; simp only [go_sem, *]) | (simp only [zAH, zAA, go_sem, *]))
  obtain rfl : rem = [] := by simpa using hk
  obtain ⟨hlen0, hsub, p0⟩ := hP
  rw [List.flatMap_nil] at p0
  have hl0 := Nat.le_trans p0.len (hlen 0 (by omega))
  refine zAQ rfl (fun zn zN zenv zAs => ∃ (k : Nat), zn = (1) - k ∧ k ≤ (1) ∧ (NoP k) ∧ zN = 54 ∧ zenv = [(46, iV k), (45, iV 1), (44, .own 2 1 0 1), (4, .ptr 0 0), (5, .ptr 1 0)] ∧ zAs = [.box [nilV], .box [.own 2 1 0 1], .box [.own 3 2 0 b0.length], .row 2 ((rowS k 0 b0).map Plate.enc)]) (1) ⟨[some 0, some 1, some 2, some 3], [], _, _, _, (by (simp only [Weak, go_sem, List.map_append, List.map_set, *] <;> (try simp (disch := omega) only [zAE]) <;> (try simp) <;> (try omega))), 0, (by simp), (by simp), (by trivial), rfl, rfl, rfl⟩ ?_; rintro _ _ _ _ ⟨k, rfl, hk, hK, rfl, rfl, rfl⟩
  rcases (by omega : k = 0 ∨ k = 1) with rfl | rfl
  ·repeat' (first | (show zAC ..; first | (refine Qr rfl ?_; try intro K' hK; try simp only [go_sem, *])) | (show Hold ..; first | refine Qh rfl ?_ | refine zAG rfl Tryz.mixed (by kernel_rfl) ?_ | (refine zAD rfl ⟨_, rfl, fun hb => ?_, fun hb => ?_⟩ <;> (have hc := hb; try simp only [go_sem] at hc)) | refine zAI rfl ?_) | (refine Qb ?_ ?_; focus kernel_rfl) | ((with_reducible refine And.intro ?_ ?_); focus omega) | (refine zAB hK ?_; clear hK K'; simp only [go_sem, *]) | (simp only [zAH, zAA, go_sem, *]))
   refine zAR [3] [] (zAy (by kernel_rfl) zAm b0 (by omega)) (by simp) (by simp only [go_sem, *]) (by simp only [go_sem, AObj.live, *]) (by simp) (.inl rfl) (by simp [go_sem]) (by simp) ?_
   simp only [go_sem, AObj.ren, *]
   repeat' (first | (show zAC ..; first | (refine Qr rfl ?_; try intro K' hK; try simp only [go_sem, *])) | (show Hold ..; first | refine Qh rfl ?_ | refine zAG rfl Tryz.mixed (by kernel_rfl) ?_ | (refine zAD rfl ⟨_, rfl, fun hb => ?_, fun hb => ?_⟩ <;> (have hc := hb; try simp only [go_sem] at hc)) | refine zAI rfl ?_) | (refine Qb ?_ ?_; focus kernel_rfl) | ((with_reducible refine And.intro ?_ ?_); focus omega) | (refine zAB hK ?_; clear hK K'; simp only [go_sem, *]) | (simp only [zAH, zAA, go_sem, *]))
   refine ⟨_, (by omega), [some 0, some 1, some 2, some 3], [], _, _, _, (by (simp only [Weak, go_sem, List.map_append, List.map_set, *] <;> (try simp (disch := omega) only [zAE]) <;> (try simp) <;> (try omega))), 0 + 1, rfl, (by omega), (by trivial), rfl, rfl, rfl⟩
  ·repeat' (first | (show zAC ..; first | (refine Qr rfl ?_; try intro K' hK; try simp only [go_sem, *])) | (show Hold ..; first | refine Qh rfl ?_ | refine zAG rfl Tryz.mixed (by kernel_rfl) ?_ | (refine zAD rfl ⟨_, rfl, fun hb => ?_, fun hb => ?_⟩ <;> (have hc := hb; try simp only [go_sem] at hc)) | refine zAI rfl ?_) | (refine Qb ?_ ?_; focus kernel_rfl) | ((with_reducible refine And.intro ?_ ?_); focus omega) | (refine zAB hK ?_; clear hK K'; simp only [go_sem, *]) | (simp only [zAH, zAA, go_sem, *]))
   have e : laid (hs.flatMap g) 1 = [zBE cmpP b0] := by
    rw [p0.fin hnd (n := 1) (by omega)]; simp [laid, zAL, List.range_succ]
   refine ⟨[.agg [.own 2 1 0 1]], [], [2, 3], ⟨by simp only [zAY, go_sem], trivial⟩, ?_⟩
   simp only [go_sem, e, *]
   exact .inr (by simp)
 ·obtain ⟨hr, hrk, hrx⟩ : ∃ hr : r < rem.length, (rem.map House.key)[r] = (rem[r]).key ∧ (rem.map (MapV g))[r] = .list ((g rem[r]).map House.enc) := ⟨by simpa using hr1, by simp, by simp [MapV]⟩
  rw [hrk, hrx, ← zAx, ← zAx]
  generalize (rem[r]).key = kk at *
  clear hrk
  simp only [go_sem]
  repeat' (first | (show zAC ..; first | (refine Qr rfl ?_; try intro K' hK; try simp only [go_sem, *])) | (show Hold ..; first | refine Qh rfl ?_ | refine zAG rfl Tryz.mixed (by kernel_rfl) ?_ | (refine zAD rfl ⟨_, rfl, fun hb => ?_, fun hb => ?_⟩ <;> (have hc := hb; try simp only [go_sem] at hc)) | refine zAI rfl ?_) | (refine Qb ?_ ?_; focus kernel_rfl) | ((with_reducible refine And.intro ?_ ?_); focus omega) | (refine zAB hK ?_; clear hK K'; simp only [go_sem, *]) | (simp only [zAH, zAA, go_sem, *]))
  obtain ⟨hlen0, hsub, p0⟩ := hP
  have p0 := p0.pick r hr
  have hll : (g rem[r]).length ≤ 1000 := hgl _ (hsub _ (List.getElem_mem hr))
  have hsl2 : ∀ z, z ∈ g rem[r] → 0 ≤ z.street ∧ z.street < 1 := fun z hz => hst z (List.mem_flatMap.2 ⟨_, hsub _ (List.getElem_mem hr), hz⟩)
  clear hrx
  generalize g rem[r] = l at *
  refine zAQ rfl (fun zn zN zenv zAs => ∃ (j : Nat) (b0 : List Plate), zn = (l.length) - j ∧ j ≤ (l.length) ∧ (AfQ1 (l.drop j ++ (rem.eraseIdx r).flatMap g) (hs.flatMap g) b0) ∧ zN = 54 ∧ zenv = [(23, iV j), (22, iV l.length), (21, zAi l), (4, .ptr 0 0), (5, .ptr 1 0), (16, .ptr 4 0)] ∧ zAs = [.box [nilV], .box [.own 2 1 0 1], .box [.own 3 2 0 b0.length], .row 2 (b0.map Plate.enc), .iter (some (kk, .list (l.map House.enc))) ((rem.eraseIdx r).map House.key) ((rem.eraseIdx r).map (MapV g))]) (l.length) ⟨[some 0, some 1, some 2, some 3, some 4], [], _, _, _, (by (simp only [Weak, go_sem, List.map_append, List.map_set, *] <;> (try simp (disch := omega) only [zAE]) <;> (try simp) <;> (try omega))), 0, b0, (by simp), (by simp), (by exact ⟨p0, trivial⟩), rfl, rfl, rfl⟩ ?_; rintro _ _ _ _ ⟨j, b0, rfl, hj, hQ, rfl, rfl, rfl⟩
  by_cases hj : j < l.length
  ·have hz := hsl2 _ (zAT hj)
   have hdj := zAS hj
   rw [hdj, List.cons_append] at hQ
   obtain ⟨q0, _⟩ := hQ
   have hl0 := Nat.le_trans q0.len (hlen 0 (by omega))
   clear hdj
   rcases (by omega : (l.getD j default).street = 0) with hs0
   ·repeat' (first | (show zAC ..; first | (refine Qr rfl ?_; try intro K' hK; try simp only [go_sem, *])) | (show Hold ..; first | refine Qh rfl ?_ | refine zAG rfl Tryz.mixed (by kernel_rfl) ?_ | (refine zAD rfl ⟨_, rfl, fun hb => ?_, fun hb => ?_⟩ <;> (have hc := hb; try simp only [go_sem] at hc)) | refine zAI rfl ?_) | (refine Qb ?_ ?_; focus kernel_rfl) | ((with_reducible refine And.intro ?_ ?_); focus omega) | (refine zAB hK ?_; clear hK K'; simp only [go_sem, *]) | (simp only [zAH, zAA, go_sem, *]))
    refine ⟨_, (by omega), [some 0, some 1, some 2, some 7, some 4], [], _, _, _, (by (simp only [Weak, go_sem, List.map_append, List.map_set, *] <;> (try simp (disch := omega) only [zAE]) <;> (try simp) <;> (try omega))), j + 1, b0 ++ [(l.getD j default).plate], rfl, (by omega), (by exact ⟨q0.step_in (by rw [hs0]; rfl), trivial⟩), rfl, rfl, rfl⟩
  ·repeat' (first | (show zAC ..; first | (refine Qr rfl ?_; try intro K' hK; try simp only [go_sem, *])) | (show Hold ..; first | refine Qh rfl ?_ | refine zAG rfl Tryz.mixed (by kernel_rfl) ?_ | (refine zAD rfl ⟨_, rfl, fun hb => ?_, fun hb => ?_⟩ <;> (have hc := hb; try simp only [go_sem] at hc)) | refine zAI rfl ?_) | (refine Qb ?_ ?_; focus kernel_rfl) | ((with_reducible refine And.intro ?_ ?_); focus omega) | (refine zAB hK ?_; clear hK K'; simp only [go_sem, *]) | (simp only [zAH, zAA, go_sem, *]))
   rw [zAX (by omega), List.nil_append] at hQ
   refine ⟨_, (by omega), [some 0, some 1, some 2, some 3, some 4], [], _, _, _, (by (simp only [Weak, go_sem, List.map_append, List.map_set, *] <;> (try simp (disch := omega) only [zAE]) <;> (try simp) <;> (try omega))), i + 1, (some (kk, .list (l.map House.enc))), rem.eraseIdx r, b0, rfl, (by omega), (by exact ⟨by rw [List.length_eraseIdx_of_lt hr]; omega, fun h hh => hsub h ((List.eraseIdx_sublist _ _).subset hh), hQ.1⟩), rfl, rfl, rfl⟩
end Go.Abs

namespace Go.Abs
open Go Go.Proofs
attribute [local irreducible] zAC Hold zAN
def AfP2 (g : House → List House) (hs rem : List House) (i : Nat) (b0 b1 : List Plate) : Prop := rem.length + i = hs.length ∧ (∀ h, h ∈ rem → h ∈ hs) ∧ Bk b0 0 (rem.flatMap g) (hs.flatMap g) ∧ Bk b1 1 (rem.flatMap g) (hs.flatMap g)
def AfQ2 (rest tot : List House) (b0 b1 : List Plate) : Prop := Bk b0 0 rest tot ∧ Bk b1 1 rest tot
theorem zLk (hs : List House) (g : House → List House) (hst : ∀ z, z ∈ hs.flatMap g → 0 ≤ z.street ∧ z.street < 2) (hnd : (hs.flatMap g).Nodup) (hlen : ∀ s : Nat, s < 2 → ((hs.flatMap g).filter (fun h => h.street == (s : Int))).length ≤ 12) (hsl : hs.length ≤ 1000) (hgl : ∀ h, h ∈ hs → (g h).length ≤ 1000) :
  Spec Tryz.prog 89 [.fmap (hs.map House.key) (hs.map (MapV g)), iV 2] [] (zAO (laid (hs.flatMap g) 2)) [] := by
 have rz : List.replicate 2 (AV.raw (Value.slice none 0 0)) = [AV.raw (Value.slice none 0 0), AV.raw (Value.slice none 0 0)] := rfl
 have hmt : (mapT Tryz.prog 121).isSome = true := by kernel_rfl
 have hv1 : IntKind.i64.wrap 1 = (1 : Int) := wrap_i64 (by omega) (by omega)
 have hv2 : IntKind.i64.wrap 2 = (2 : Int) := wrap_i64 (by omega) (by omega)
 have hv3 : IntKind.i64.wrap 3 = (3 : Int) := wrap_i64 (by omega) (by omega)
 refine zAF Tryz.func89 rfl (fun E hE => ?_); simp only [go_sem, Tryz.ntmps89]
 repeat' (first | (show zAC ..; first | (refine Qr rfl ?_; try intro K' hK; try simp only [go_sem, *])) | (show Hold ..; first | refine Qh rfl ?_ | refine zAG rfl Tryz.mixed (by kernel_rfl) ?_ | (refine zAD rfl ⟨_, rfl, fun hb => ?_, fun hb => ?_⟩ <;> (have hc := hb; try simp only [go_sem] at hc)) | refine zAI rfl ?_) | (refine Qb ?_ ?_; focus kernel_rfl) | ((with_reducible refine And.intro ?_ ?_); focus omega) | (refine zAB hK ?_; clear hK K'; simp only [go_sem, *]) | (simp only [zAH, zAA, go_sem, *]))
 refine zAQ rfl (fun zn zN zenv zAs => ∃ (i : Nat) (cur : Option (Value × AV)) (rem : List House) (b0 : List Plate) (b1 : List Plate), zn = (hs.length) - i ∧ i ≤ (hs.length) ∧ (AfP2 g hs rem i b0 b1) ∧ zN = 54 ∧ zenv = [(4, .ptr 0 0), (5, .ptr 1 0), (16, .ptr 5 0)] ∧ zAs = [.box [nilV], .box [.own 2 1 0 2], .box [.own 3 2 0 b0.length, .own 4 2 0 b1.length], .row 2 (b0.map Plate.enc), .row 2 (b1.map Plate.enc), .iter cur (rem.map House.key) (rem.map (MapV g))]) (hs.length) ⟨[some 0, some 2, some 1, none, none, some 3], [], _, _, _, (by (simp only [Weak, go_sem, List.map_append, List.map_set, *] <;> (try simp (disch := omega) only [zAE]) <;> (try simp) <;> (try omega))), 0, none, hs, [], [], (by simp), (by simp), (by exact ⟨by omega, fun h hh => hh, Bk.start _ _, Bk.start _ _⟩), rfl, rfl, rfl⟩ ?_; rintro _ _ _ _ ⟨i, cur, rem, b0, b1, rfl, hi, hP, rfl, rfl, rfl⟩
 refine zKJ rfl ?_
 refine zJf (o := 5) rfl rfl rfl rfl rfl rfl rfl cur (rem.map House.key) (rem.map (MapV g)) (by simp only [go_sem]) (by simp only [go_sem]) (show (17 : Nat) < 54 by decide) (show (18 : Nat) < 54 by decide) (fun hk _ => ?_) (fun r hr1 hr2 => ?_)
 ·simp only [go_sem]
  repeat' (first | (show zAC ..; first | (refine Qr rfl ?_; try intro K' hK; try simp only [go_sem, *])) | (show Hold ..; first | refine Qh rfl ?_ | refine zAG rfl Tryz.mixed (by kernel_rfl) ?_ | (refine zAD rfl ⟨_, rfl, fun hb => ?_, fun hb => ?_⟩ <;> (have hc := hb; try simp only [go_sem] at hc)) | refine zAI rfl ?_) | (refine Qb ?_ ?_; focus kernel_rfl) | ((with_reducible refine And.intro ?_ ?_); focus omega) | (refine zAB hK ?_; clear hK K'; simp only [go_sem, *]) | (simp only [zAH, zAA, go_sem, *]))
  obtain rfl : rem = [] := by simpa using hk
  obtain ⟨hlen0, hsub, p0, p1⟩ := hP
  rw [List.flatMap_nil] at p0 p1
  have hl0 := Nat.le_trans p0.len (hlen 0 (by omega))
  have hl1 := Nat.le_trans p1.len (hlen 1 (by omega))
  refine zAQ rfl (fun zn zN zenv zAs => ∃ (k : Nat), zn = (2) - k ∧ k ≤ (2) ∧ (NoP k) ∧ zN = 54 ∧ zenv = [(46, iV k), (45, iV 2), (44, .own 2 1 0 2), (4, .ptr 0 0), (5, .ptr 1 0)] ∧ zAs = [.box [nilV], .box [.own 2 1 0 2], .box [.own 3 2 0 b0.length, .own 4 2 0 b1.length], .row 2 ((rowS k 0 b0).map Plate.enc), .row 2 ((rowS k 1 b1).map Plate.enc)]) (2) ⟨[some 0, some 1, some 2, some 3, some 4], [], _, _, _, (by (simp only [Weak, go_sem, List.map_append, List.map_set, *] <;> (try simp (disch := omega) only [zAE]) <;> (try simp) <;> (try omega))), 0, (by simp), (by simp), (by trivial), rfl, rfl, rfl⟩ ?_; rintro _ _ _ _ ⟨k, rfl, hk, hK, rfl, rfl, rfl⟩
  rcases (by omega : k = 0 ∨ k = 1 ∨ k = 2) with rfl | rfl | rfl
  ·repeat' (first | (show zAC ..; first | (refine Qr rfl ?_; try intro K' hK; try simp only [go_sem, *])) | (show Hold ..; first | refine Qh rfl ?_ | refine zAG rfl Tryz.mixed (by kernel_rfl) ?_ | (refine zAD rfl ⟨_, rfl, fun hb => ?_, fun hb => ?_⟩ <;> (have hc := hb; try simp only [go_sem] at hc)) | refine zAI rfl ?_) | (refine Qb ?_ ?_; focus kernel_rfl) | ((with_reducible refine And.intro ?_ ?_); focus omega) | (refine zAB hK ?_; clear hK K'; simp only [go_sem, *]) | (simp only [zAH, zAA, go_sem, *]))
   refine zAR [3] [] (zAy (by kernel_rfl) zAm b0 (by omega)) (by simp) (by simp only [go_sem, *]) (by simp only [go_sem, AObj.live, *]) (by simp) (.inl rfl) (by simp [go_sem]) (by simp) ?_
   simp only [go_sem, AObj.ren, *]
   repeat' (first | (show zAC ..; first | (refine Qr rfl ?_; try intro K' hK; try simp only [go_sem, *])) | (show Hold ..; first | refine Qh rfl ?_ | refine zAG rfl Tryz.mixed (by kernel_rfl) ?_ | (refine zAD rfl ⟨_, rfl, fun hb => ?_, fun hb => ?_⟩ <;> (have hc := hb; try simp only [go_sem] at hc)) | refine zAI rfl ?_) | (refine Qb ?_ ?_; focus kernel_rfl) | ((with_reducible refine And.intro ?_ ?_); focus omega) | (refine zAB hK ?_; clear hK K'; simp only [go_sem, *]) | (simp only [zAH, zAA, go_sem, *]))
   refine ⟨_, (by omega), [some 0, some 1, some 2, some 3, some 4], [], _, _, _, (by (simp only [Weak, go_sem, List.map_append, List.map_set, *] <;> (try simp (disch := omega) only [zAE]) <;> (try simp) <;> (try omega))), 0 + 1, rfl, (by omega), (by trivial), rfl, rfl, rfl⟩
  ·repeat' (first | (show zAC ..; first | (refine Qr rfl ?_; try intro K' hK; try simp only [go_sem, *])) | (show Hold ..; first | refine Qh rfl ?_ | refine zAG rfl Tryz.mixed (by kernel_rfl) ?_ | (refine zAD rfl ⟨_, rfl, fun hb => ?_, fun hb => ?_⟩ <;> (have hc := hb; try simp only [go_sem] at hc)) | refine zAI rfl ?_) | (refine Qb ?_ ?_; focus kernel_rfl) | ((with_reducible refine And.intro ?_ ?_); focus omega) | (refine zAB hK ?_; clear hK K'; simp only [go_sem, *]) | (simp only [zAH, zAA, go_sem, *]))
   refine zAR [4] [] (zAy (by kernel_rfl) zAm b1 (by omega)) (by simp) (by simp only [go_sem, *]) (by simp only [go_sem, AObj.live, *]) (by simp) (.inl rfl) (by simp [go_sem]) (by simp) ?_
   simp only [go_sem, AObj.ren, *]
   repeat' (first | (show zAC ..; first | (refine Qr rfl ?_; try intro K' hK; try simp only [go_sem, *])) | (show Hold ..; first | refine Qh rfl ?_ | refine zAG rfl Tryz.mixed (by kernel_rfl) ?_ | (refine zAD rfl ⟨_, rfl, fun hb => ?_, fun hb => ?_⟩ <;> (have hc := hb; try simp only [go_sem] at hc)) | refine zAI rfl ?_) | (refine Qb ?_ ?_; focus kernel_rfl) | ((with_reducible refine And.intro ?_ ?_); focus omega) | (refine zAB hK ?_; clear hK K'; simp only [go_sem, *]) | (simp only [zAH, zAA, go_sem, *]))
   refine ⟨_, (by omega), [some 0, some 1, some 2, some 3, some 4], [], _, _, _, (by (simp only [Weak, go_sem, List.map_append, List.map_set, *] <;> (try simp (disch := omega) only [zAE]) <;> (try simp) <;> (try omega))), 1 + 1, rfl, (by omega), (by trivial), rfl, rfl, rfl⟩
  ·repeat' (first | (show zAC ..; first | (refine Qr rfl ?_; try intro K' hK; try simp only [go_sem, *])) | (show Hold ..; first | refine Qh rfl ?_ | refine zAG rfl Tryz.mixed (by kernel_rfl) ?_ | (refine zAD rfl ⟨_, rfl, fun hb => ?_, fun hb => ?_⟩ <;> (have hc := hb; try simp only [go_sem] at hc)) | refine zAI rfl ?_) | (refine Qb ?_ ?_; focus kernel_rfl) | ((with_reducible refine And.intro ?_ ?_); focus omega) | (refine zAB hK ?_; clear hK K'; simp only [go_sem, *]) | (simp only [zAH, zAA, go_sem, *]))
   have e : laid (hs.flatMap g) 2 = [zBE cmpP b0, zBE cmpP b1] := by
    rw [p0.fin hnd (n := 2) (by omega), p1.fin hnd (n := 2) (by omega)]; simp [laid, zAL, List.range_succ]
   refine ⟨[.agg [.own 2 1 0 2]], [], [2, 3, 4], ⟨by simp only [zAY, go_sem], trivial⟩, ?_⟩
   simp only [go_sem, e, *]
   exact .inr (by simp)
 ·obtain ⟨hr, hrk, hrx⟩ : ∃ hr : r < rem.length, (rem.map House.key)[r] = (rem[r]).key ∧ (rem.map (MapV g))[r] = .list ((g rem[r]).map House.enc) := ⟨by simpa using hr1, by simp, by simp [MapV]⟩
  rw [hrk, hrx, ← zAx, ← zAx]
  generalize (rem[r]).key = kk at *
  clear hrk
  simp only [go_sem]
  repeat' (first | (show zAC ..; first | (refine Qr rfl ?_; try intro K' hK; try simp only [go_sem, *])) | (show Hold ..; first | refine Qh rfl ?_ | refine zAG rfl Tryz.mixed (by kernel_rfl) ?_ | (refine zAD rfl ⟨_, rfl, fun hb => ?_, fun hb => ?_⟩ <;> (have hc := hb; try simp only [go_sem] at hc)) | refine zAI rfl ?_) | (refine Qb ?_ ?_; focus kernel_rfl) | ((with_reducible refine And.intro ?_ ?_); focus omega) | (refine zAB hK ?_; clear hK K'; simp only [go_sem, *]) | (simp only [zAH, zAA, go_sem, *]))
  obtain ⟨hlen0, hsub, p0, p1⟩ := hP
  have p0 := p0.pick r hr
  have p1 := p1.pick r hr
  have hll : (g rem[r]).length ≤ 1000 := hgl _ (hsub _ (List.getElem_mem hr))
  have hsl2 : ∀ z, z ∈ g rem[r] → 0 ≤ z.street ∧ z.street < 2 := fun z hz => hst z (List.mem_flatMap.2 ⟨_, hsub _ (List.getElem_mem hr), hz⟩)
  clear hrx
  generalize g rem[r] = l at *
  refine zAQ rfl (fun zn zN zenv zAs => ∃ (j : Nat) (b0 : List Plate) (b1 : List Plate), zn = (l.length) - j ∧ j ≤ (l.length) ∧ (AfQ2 (l.drop j ++ (rem.eraseIdx r).flatMap g) (hs.flatMap g) b0 b1) ∧ zN = 54 ∧ zenv = [(23, iV j), (22, iV l.length), (21, zAi l), (4, .ptr 0 0), (5, .ptr 1 0), (16, .ptr 5 0)] ∧ zAs = [.box [nilV], .box [.own 2 1 0 2], .box [.own 3 2 0 b0.length, .own 4 2 0 b1.length], .row 2 (b0.map Plate.enc), .row 2 (b1.map Plate.enc), .iter (some (kk, .list (l.map House.enc))) ((rem.eraseIdx r).map House.key) ((rem.eraseIdx r).map (MapV g))]) (l.length) ⟨[some 0, some 1, some 2, some 3, some 4, some 5], [], _, _, _, (by (simp only [Weak, go_sem, List.map_append, List.map_set, *] <;> (try simp (disch := omega) only [zAE]) <;> (try simp) <;> (try omega))), 0, b0, b1, (by simp), (by simp), (by exact ⟨p0, p1⟩), rfl, rfl, rfl⟩ ?_; rintro _ _ _ _ ⟨j, b0, b1, rfl, hj, hQ, rfl, rfl, rfl⟩
  by_cases hj : j < l.length
  ·have hz := hsl2 _ (zAT hj)
   have hdj := zAS hj
   rw [hdj, List.cons_append] at hQ
   obtain ⟨q0, q1⟩ := hQ
   have hl0 := Nat.le_trans q0.len (hlen 0 (by omega))
   have hl1 := Nat.le_trans q1.len (hlen 1 (by omega))
   clear hdj
   rcases (by omega : (l.getD j default).street = 0 ∨ (l.getD j default).street = 1) with hs0 | hs0
   ·repeat' (first | (show zAC ..; first | (refine Qr rfl ?_; try intro K' hK; try simp only [go_sem, *])) | (show Hold ..; first | refine Qh rfl ?_ | refine zAG rfl Tryz.mixed (by kernel_rfl) ?_ | (refine zAD rfl ⟨_, rfl, fun hb => ?_, fun hb => ?_⟩ <;> (have hc := hb; try simp only [go_sem] at hc)) | refine zAI rfl ?_) | (refine Qb ?_ ?_; focus kernel_rfl) | ((with_reducible refine And.intro ?_ ?_); focus omega) | (refine zAB hK ?_; clear hK K'; simp only [go_sem, *]) | (simp only [zAH, zAA, go_sem, *]))
    refine ⟨_, (by omega), [some 0, some 1, some 2, some 8, some 4, some 5], [], _, _, _, (by (simp only [Weak, go_sem, List.map_append, List.map_set, *] <;> (try simp (disch := omega) only [zAE]) <;> (try simp) <;> (try omega))), j + 1, b0 ++ [(l.getD j default).plate], b1, rfl, (by omega), (by exact ⟨q0.step_in (by rw [hs0]; rfl), q1.step_out (by rw [hs0]; decide)⟩), rfl, rfl, rfl⟩
   ·repeat' (first | (show zAC ..; first | (refine Qr rfl ?_; try intro K' hK; try simp only [go_sem, *])) | (show Hold ..; first | refine Qh rfl ?_ | refine zAG rfl Tryz.mixed (by kernel_rfl) ?_ | (refine zAD rfl ⟨_, rfl, fun hb => ?_, fun hb => ?_⟩ <;> (have hc := hb; try simp only [go_sem] at hc)) | refine zAI rfl ?_) | (refine Qb ?_ ?_; focus kernel_rfl) | ((with_reducible refine And.intro ?_ ?_); focus omega) | (refine zAB hK ?_; clear hK K'; simp only [go_sem, *]) | (simp only [zAH, zAA, go_sem, *]))
    refine ⟨_, (by omega), [some 0, some 1, some 2, some 3, some 8, some 5], [], _, _, _, (by (simp only [Weak, go_sem, List.map_append, List.map_set, *] <;> (try simp (disch := omega) only [zAE]) <;> (try simp) <;> (try omega))), j + 1, b0, b1 ++ [(l.getD j default).plate], rfl, (by omega), (by exact ⟨q0.step_out (by rw [hs0]; decide), q1.step_in (by rw [hs0]; rfl)⟩), rfl, rfl, rfl⟩
  ·repeat' (first | (show zAC ..; first | (refine Qr rfl ?_; try intro K' hK; try simp only [go_sem, *])) | (show Hold ..; first | refine Qh rfl ?_ | refine zAG rfl Tryz.mixed (by kernel_rfl) ?_ | (refine zAD rfl ⟨_, rfl, fun hb => ?_, fun hb => ?_⟩ <;> (have hc := hb; try simp only [go_sem] at hc)) | refine zAI rfl ?_) | (refine Qb ?_ ?_; focus kernel_rfl) | ((with_reducible refine And.intro ?_ ?_); focus omega) | (refine zAB hK ?_; clear hK K'; simp only [go_sem, *]) | (simp only [zAH, zAA, go_sem, *]))
   rw [zAX (by omega), List.nil_append] at hQ
   refine ⟨_, (by omega), [some 0, some 1, some 2, some 3, some 4, some 5], [], _, _, _, (by (simp only [Weak, go_sem, List.map_append, List.map_set, *] <;> (try simp (disch := omega) only [zAE]) <;> (try simp) <;> (try omega))), i + 1, (some (kk, .list (l.map House.enc))), rem.eraseIdx r, b0, b1, rfl, (by omega), (by exact ⟨by rw [List.length_eraseIdx_of_lt hr]; omega, fun h hh => hsub h ((List.eraseIdx_sublist _ _).subset hh), hQ⟩), rfl, rfl, rfl⟩
end Go.Abs

namespace Go.Abs
open Go Go.Proofs
attribute [local irreducible] zAC Hold zAN
def AfP3 (g : House → List House) (hs rem : List House) (i : Nat) (b0 b1 b2 : List Plate) : Prop := rem.length + i = hs.length ∧ (∀ h, h ∈ rem → h ∈ hs) ∧ Bk b0 0 (rem.flatMap g) (hs.flatMap g) ∧ Bk b1 1 (rem.flatMap g) (hs.flatMap g) ∧ Bk b2 2 (rem.flatMap g) (hs.flatMap g)
def AfQ3 (rest tot : List House) (b0 b1 b2 : List Plate) : Prop := Bk b0 0 rest tot ∧ Bk b1 1 rest tot ∧ Bk b2 2 rest tot
theorem zLl (hs : List House) (g : House → List House) (hst : ∀ z, z ∈ hs.flatMap g → 0 ≤ z.street ∧ z.street < 3) (hnd : (hs.flatMap g).Nodup) (hlen : ∀ s : Nat, s < 3 → ((hs.flatMap g).filter (fun h => h.street == (s : Int))).length ≤ 12) (hsl : hs.length ≤ 1000) (hgl : ∀ h, h ∈ hs → (g h).length ≤ 1000) :
  Spec Tryz.prog 89 [.fmap (hs.map House.key) (hs.map (MapV g)), iV 3] [] (zAO (laid (hs.flatMap g) 3)) [] := by
 have rz : List.replicate 3 (AV.raw (Value.slice none 0 0)) = [AV.raw (Value.slice none 0 0), AV.raw (Value.slice none 0 0), AV.raw (Value.slice none 0 0)] := rfl
 have hmt : (mapT Tryz.prog 121).isSome = true := by kernel_rfl
 have hv1 : IntKind.i64.wrap 1 = (1 : Int) := wrap_i64 (by omega) (by omega)
 have hv2 : IntKind.i64.wrap 2 = (2 : Int) := wrap_i64 (by omega) (by omega)
 have hv3 : IntKind.i64.wrap 3 = (3 : Int) := wrap_i64 (by omega) (by omega)
 refine zAF Tryz.func89 rfl (fun E hE => ?_); simp only [go_sem, Tryz.ntmps89]
 repeat' (first | (show zAC ..; first | (refine Qr rfl ?_; try intro K' hK; try simp only [go_sem, *])) | (show Hold ..; first | refine Qh rfl ?_ | refine zAG rfl Tryz.mixed (by kernel_rfl) ?_ | (refine zAD rfl ⟨_, rfl, fun hb => ?_, fun hb => ?_⟩ <;> (have hc := hb; try simp only [go_sem] at hc)) | refine zAI rfl ?_) | (refine Qb ?_ ?_; focus kernel_rfl) | ((with_reducible refine And.intro ?_ ?_); focus omega) | (refine zAB hK ?_; clear hK K'; simp only [go_sem, *]) | (simp only [zAH, zAA, go_sem, *]))
 refine zAQ rfl (fun zn zN zenv zAs => ∃ (i : Nat) (cur : Option (Value × AV)) (rem : List House) (b0 : List Plate) (b1 : List Plate) (b2 : List Plate), zn = (hs.length) - i ∧ i ≤ (hs.length) ∧ (AfP3 g hs rem i b0 b1 b2) ∧ zN = 54 ∧ zenv = [(4, .ptr 0 0), (5, .ptr 1 0), (16, .ptr 6 0)] ∧ zAs = [.box [nilV], .box [.own 2 1 0 3], .box [.own 3 2 0 b0.length, .own 4 2 0 b1.length, .own 5 2 0 b2.length], .row 2 (b0.map Plate.enc), .row 2 (b1.map Plate.enc), .row 2 (b2.map Plate.enc), .iter cur (rem.map House.key) (rem.map (MapV g))]) (hs.length) ⟨[some 0, some 2, some 1, none, none, none, some 3], [], _, _, _, (by (simp only [Weak, go_sem, List.map_append, List.map_set, *] <;> (try simp (disch := omega) only [zAE]) <;> (try simp) <;> (try omega))), 0, none, hs, [], [], [], (by simp), (by simp), (by exact ⟨by omega, fun h hh => hh, Bk.start _ _, Bk.start _ _, Bk.start _ _⟩), rfl, rfl, rfl⟩ ?_; rintro _ _ _ _ ⟨i, cur, rem, b0, b1, b2, rfl, hi, hP, rfl, rfl, rfl⟩
 refine zKJ rfl ?_
 refine zJf (o := 6) rfl rfl rfl rfl rfl rfl rfl cur (rem.map House.key) (rem.map (MapV g)) (by simp only [go_sem]) (by simp only [go_sem]) (show (17 : Nat) < 54 by decide) (show (18 : Nat) < 54 by decide) (fun hk _ => ?_) (fun r hr1 hr2 => ?_)
 ·simp only [go_sem]
  repeat' (first | (show zAC ..; first | (refine Qr rfl ?_; try intro K' hK; try simp only [go_sem, *])) | (show Hold ..; first | refine Qh rfl ?_ | refine zAG rfl Tryz.mixed (by kernel_rfl) ?_ | (refine zAD rfl ⟨_, rfl, fun hb => ?_, fun hb => ?_⟩ <;> (have hc := hb; try simp only [go_sem] at hc)) | refine zAI rfl ?_) | (refine Qb ?_ ?_; focus kernel_rfl) | ((with_reducible refine And.intro ?_ ?_); focus omega) | (refine zAB hK ?_; clear hK K'; simp only [go_sem, *]) | (simp only [zAH, zAA, go_sem, *]))
  obtain rfl : rem = [] := by simpa using hk
  obtain ⟨hlen0, hsub, p0, p1, p2⟩ := hP
  rw [List.flatMap_nil] at p0 p1 p2
  have hl0 := Nat.le_trans p0.len (hlen 0 (by omega))
  have hl1 := Nat.le_trans p1.len (hlen 1 (by omega))
  have hl2 := Nat.le_trans p2.len (hlen 2 (by omega))
  refine zAQ rfl (fun zn zN zenv zAs => ∃ (k : Nat), zn = (3) - k ∧ k ≤ (3) ∧ (NoP k) ∧ zN = 54 ∧ zenv = [(46, iV k), (45, iV 3), (44, .own 2 1 0 3), (4, .ptr 0 0), (5, .ptr 1 0)] ∧ zAs = [.box [nilV], .box [.own 2 1 0 3], .box [.own 3 2 0 b0.length, .own 4 2 0 b1.length, .own 5 2 0 b2.length], .row 2 ((rowS k 0 b0).map Plate.enc), .row 2 ((rowS k 1 b1).map Plate.enc), .row 2 ((rowS k 2 b2).map Plate.enc)]) (3) ⟨[some 0, some 1, some 2, some 3, some 4, some 5], [], _, _, _, (by (simp only [Weak, go_sem, List.map_append, List.map_set, *] <;> (try simp (disch := omega) only [zAE]) <;> (try simp) <;> (try omega))), 0, (by simp), (by simp), (by trivial), rfl, rfl, rfl⟩ ?_; rintro _ _ _ _ ⟨k, rfl, hk, hK, rfl, rfl, rfl⟩
  rcases (by omega : k = 0 ∨ k = 1 ∨ k = 2 ∨ k = 3) with rfl | rfl | rfl | rfl
  ·repeat' (first | (show zAC ..; first | (refine Qr rfl ?_; try intro K' hK; try simp only [go_sem, *])) | (show Hold ..; first | refine Qh rfl ?_ | refine zAG rfl Tryz.mixed (by kernel_rfl) ?_ | (refine zAD rfl ⟨_, rfl, fun hb => ?_, fun hb => ?_⟩ <;> (have hc := hb; try simp only [go_sem] at hc)) | refine zAI rfl ?_) | (refine Qb ?_ ?_; focus kernel_rfl) | ((with_reducible refine And.intro ?_ ?_); focus omega) | (refine zAB hK ?_; clear hK K'; simp only [go_sem, *]) | (simp only [zAH, zAA, go_sem, *]))
   refine zAR [3] [] (zAy (by kernel_rfl) zAm b0 (by omega)) (by simp) (by simp only [go_sem, *]) (by simp only [go_sem, AObj.live, *]) (by simp) (.inl rfl) (by simp [go_sem]) (by simp) ?_
   simp only [go_sem, AObj.ren, *]
   repeat' (first | (show zAC ..; first | (refine Qr rfl ?_; try intro K' hK; try simp only [go_sem, *])) | (show Hold ..; first | refine Qh rfl ?_ | refine zAG rfl Tryz.mixed (by kernel_rfl) ?_ | (refine zAD rfl ⟨_, rfl, fun hb => ?_, fun hb => ?_⟩ <;> (have hc := hb; try simp only [go_sem] at hc)) | refine zAI rfl ?_) | (refine Qb ?_ ?_; focus kernel_rfl) | ((with_reducible refine And.intro ?_ ?_); focus omega) | (refine zAB hK ?_; clear hK K'; simp only [go_sem, *]) | (simp only [zAH, zAA, go_sem, *]))
   refine ⟨_, (by omega), [some 0, some 1, some 2, some 3, some 4, some 5], [], _, _, _, (by (simp only [Weak, go_sem, List.map_append, List.map_set, *] <;> (try simp (disch := omega) only [zAE]) <;> (try simp) <;> (try omega))), 0 + 1, rfl, (by omega), (by trivial), rfl, rfl, rfl⟩
  ·repeat' (first | (show zAC ..; first | (refine Qr rfl ?_; try intro K' hK; try simp only [go_sem, *])) | (show Hold ..; first | refine Qh rfl ?_ | refine zAG rfl Tryz.mixed (by kernel_rfl) ?_ | (refine zAD rfl ⟨_, rfl, fun hb => ?_, fun hb => ?_⟩ <;> (have hc := hb; try simp only [go_sem] at hc)) | refine zAI rfl ?_) | (refine Qb ?_ ?_; focus kernel_rfl) | ((with_reducible refine And.intro ?_ ?_); focus omega) | (refine zAB hK ?_; clear hK K'; simp only [go_sem, *]) | (simp only [zAH, zAA, go_sem, *]))
   refine zAR [4] [] (zAy (by kernel_rfl) zAm b1 (by omega)) (by simp) (by simp only [go_sem, *]) (by simp only [go_sem, AObj.live, *]) (by simp) (.inl rfl) (by simp [go_sem]) (by simp) ?_
   simp only [go_sem, AObj.ren, *]
   repeat' (first | (show zAC ..; first | (refine Qr rfl ?_; try intro K' hK; try simp only [go_sem, *])) | (show Hold ..; first | refine Qh rfl ?_ | refine zAG rfl Tryz.mixed (by kernel_rfl) ?_ | (refine zAD rfl ⟨_, rfl, fun hb => ?_, fun hb => ?_⟩ <;> (have hc := hb; try simp only [go_sem] at hc)) | refine zAI rfl ?_) | (refine Qb ?_ ?_; focus kernel_rfl) | ((with_reducible refine And.intro ?_ ?_); focus omega) | (refine zAB hK ?_; clear hK K'; simp only [go_sem, *]) | (simp only [zAH, zAA, go_sem, *]))
   refine ⟨_, (by omega), [some 0, some 1, some 2, some 3, some 4, some 5], [], _, _, _, (by (simp only [Weak, go_sem, List.map_append, List.map_set, *] <;> (try simp (disch := omega) only [zAE]) <;> (try simp) <;> (try omega))), 1 + 1, rfl, (by omega), (by trivial), rfl, rfl, rfl⟩
  ·repeat' (first | (show zAC ..; first | (refine Qr rfl ?_; try intro K' hK; try simp only [go_sem, *])) | (show Hold ..; first | refine Qh rfl ?_ | refine zAG rfl Tryz.mixed (by kernel_rfl) ?_ | (refine zAD rfl ⟨_, rfl, fun hb => ?_, fun hb => ?_⟩ <;> (have hc := hb; try simp only [go_sem] at hc)) | refine zAI rfl ?_) | (refine Qb ?_ ?_; focus kernel_rfl) | ((with_reducible refine And.intro ?_ ?_); focus omega) | (refine zAB hK ?_; clear hK K'; simp only [go_sem, *]) | (simp only [zAH, zAA, go_sem, *]))
   refine zAR [5] [] (zAy (by kernel_rfl) zAm b2 (by omega)) (by simp) (by simp only [go_sem, *]) (by simp only [go_sem, AObj.live, *]) (by simp) (.inl rfl) (by simp [go_sem]) (by simp) ?_
   simp only [go_sem, AObj.ren, *]
   repeat' (first | (show zAC ..; first | (refine Qr rfl ?_; try intro K' hK; try simp only [go_sem, *])) | (show Hold ..; first | refine Qh rfl ?_ | refine zAG rfl Tryz.mixed (by kernel_rfl) ?_ | (refine zAD rfl ⟨_, rfl, fun hb => ?_, fun hb => ?_⟩ <;> (have hc := hb; try simp only [go_sem] at hc)) | refine zAI rfl ?_) | (refine Qb ?_ ?_; focus kernel_rfl) | ((with_reducible refine And.intro ?_ ?_); focus omega) | (refine zAB hK ?_; clear hK K'; simp only [go_sem, *]) | (simp only [zAH, zAA, go_sem, *]))
   refine ⟨_, (by omega), [some 0, some 1, some 2, some 3, some 4, some 5], [], _, _, _, (by (simp only [Weak, go_sem, List.map_append, List.map_set, *] <;> (try simp (disch := omega) only [zAE]) <;> (try simp) <;> (try omega))), 2 + 1, rfl, (by omega), (by trivial), rfl, rfl, rfl⟩
  ·repeat' (first | (show zAC ..; first | (refine Qr rfl ?_; try intro K' hK; try simp only [go_sem, *])) | (show Hold ..; first | refine Qh rfl ?_ | refine zAG rfl Tryz.mixed (by kernel_rfl) ?_ | (refine zAD rfl ⟨_, rfl, fun hb => ?_, fun hb => ?_⟩ <;> (have hc := hb; try simp only [go_sem] at hc)) | refine zAI rfl ?_) | (refine Qb ?_ ?_; focus kernel_rfl) | ((with_reducible refine And.intro ?_ ?_); focus omega) | (refine zAB hK ?_; clear hK K'; simp only [go_sem, *]) | (simp only [zAH, zAA, go_sem, *]))
   have e : laid (hs.flatMap g) 3 = [zBE cmpP b0, zBE cmpP b1, zBE cmpP b2] := by
    rw [p0.fin hnd (n := 3) (by omega), p1.fin hnd (n := 3) (by omega), p2.fin hnd (n := 3) (by omega)]; simp [laid, zAL, List.range_succ]
   refine ⟨[.agg [.own 2 1 0 3]], [], [2, 3, 4, 5], ⟨by simp only [zAY, go_sem], trivial⟩, ?_⟩
   simp only [go_sem, e, *]
   exact .inr (by simp)
 ·obtain ⟨hr, hrk, hrx⟩ : ∃ hr : r < rem.length, (rem.map House.key)[r] = (rem[r]).key ∧ (rem.map (MapV g))[r] = .list ((g rem[r]).map House.enc) := ⟨by simpa using hr1, by simp, by simp [MapV]⟩
  rw [hrk, hrx, ← zAx, ← zAx]
  generalize (rem[r]).key = kk at *
  clear hrk
  simp only [go_sem]
  repeat' (first | (show zAC ..; first | (refine Qr rfl ?_; try intro K' hK; try simp only [go_sem, *])) | (show Hold ..; first | refine Qh rfl ?_ | refine zAG rfl Tryz.mixed (by kernel_rfl) ?_ | (refine zAD rfl ⟨_, rfl, fun hb => ?_, fun hb => ?_⟩ <;> (have hc := hb; try simp only [go_sem] at hc)) | refine zAI rfl ?_) | (refine Qb ?_ ?_; focus kernel_rfl) | ((with_reducible refine And.intro ?_ ?_); focus omega) | (refine zAB hK ?_; clear hK K'; simp only [go_sem, *]) | (simp only [zAH, zAA, go_sem, *]))
  obtain ⟨hlen0, hsub, p0, p1, p2⟩ := hP
  have p0 := p0.pick r hr
  have p1 := p1.pick r hr
  have p2 := p2.pick r hr
  have hll : (g rem[r]).length ≤ 1000 := hgl _ (hsub _ (List.getElem_mem hr))
  have hsl2 : ∀ z, z ∈ g rem[r] → 0 ≤ z.street ∧ z.street < 3 := fun z hz => hst z (List.mem_flatMap.2 ⟨_, hsub _ (List.getElem_mem hr), hz⟩)
  clear hrx
  generalize g rem[r] = l at *
  refine zAQ rfl (fun zn zN zenv zAs => ∃ (j : Nat) (b0 : List Plate) (b1 : List Plate) (b2 : List Plate), zn = (l.length) - j ∧ j ≤ (l.length) ∧ (AfQ3 (l.drop j ++ (rem.eraseIdx r).flatMap g) (hs.flatMap g) b0 b1 b2) ∧ zN = 54 ∧ zenv = [(23, iV j), (22, iV l.length), (21, zAi l), (4, .ptr 0 0), (5, .ptr 1 0), (16, .ptr 6 0)] ∧ zAs = [.box [nilV], .box [.own 2 1 0 3], .box [.own 3 2 0 b0.length, .own 4 2 0 b1.length, .own 5 2 0 b2.length], .row 2 (b0.map Plate.enc), .row 2 (b1.map Plate.enc), .row 2 (b2.map Plate.enc), .iter (some (kk, .list (l.map House.enc))) ((rem.eraseIdx r).map House.key) ((rem.eraseIdx r).map (MapV g))]) (l.length) ⟨[some 0, some 1, some 2, some 3, some 4, some 5, some 6], [], _, _, _, (by (simp only [Weak, go_sem, List.map_append, List.map_set, *] <;> (try simp (disch := omega) only [zAE]) <;> (try simp) <;> (try omega))), 0, b0, b1, b2, (by simp), (by simp), (by exact ⟨p0, p1, p2⟩), rfl, rfl, rfl⟩ ?_; rintro _ _ _ _ ⟨j, b0, b1, b2, rfl, hj, hQ, rfl, rfl, rfl⟩
  by_cases hj : j < l.length
  ·have hz := hsl2 _ (zAT hj)
   have hdj := zAS hj
   rw [hdj, List.cons_append] at hQ
   obtain ⟨q0, q1, q2⟩ := hQ
   have hl0 := Nat.le_trans q0.len (hlen 0 (by omega))
   have hl1 := Nat.le_trans q1.len (hlen 1 (by omega))
   have hl2 := Nat.le_trans q2.len (hlen 2 (by omega))
   clear hdj
   rcases (by omega : (l.getD j default).street = 0 ∨ (l.getD j default).street = 1 ∨ (l.getD j default).street = 2) with hs0 | hs0 | hs0
   ·repeat' (first | (show zAC ..; first | (refine Qr rfl ?_; try intro K' hK; try simp only [go_sem, *])) | (show Hold ..; first | refine Qh rfl ?_ | refine zAG rfl Tryz.mixed (by kernel_rfl) ?_ | (refine zAD rfl ⟨_, rfl, fun hb => ?_, fun hb => ?_⟩ <;> (have hc := hb; try simp only [go_sem] at hc)) | refine zAI rfl ?_) | (refine Qb ?_ ?_; focus kernel_rfl) | ((with_reducible refine And.intro ?_ ?_); focus omega) | (refine zAB hK ?_; clear hK K'; simp only [go_sem, *]) | (simp only [zAH, zAA, go_sem, *]))
    refine ⟨_, (by omega), [some 0, some 1, some 2, some 9, some 4, some 5, some 6], [], _, _, _, (by (simp only [Weak, go_sem, List.map_append, List.map_set, *] <;> (try simp (disch := omega) only [zAE]) <;> (try simp) <;> (try omega))), j + 1, b0 ++ [(l.getD j default).plate], b1, b2, rfl, (by omega), (by exact ⟨q0.step_in (by rw [hs0]; rfl), q1.step_out (by rw [hs0]; decide), q2.step_out (by rw [hs0]; decide)⟩), rfl, rfl, rfl⟩
   ·repeat' (first | (show zAC ..; first | (refine Qr rfl ?_; try intro K' hK; try simp only [go_sem, *])) | (show Hold ..; first | refine Qh rfl ?_ | refine zAG rfl Tryz.mixed (by kernel_rfl) ?_ | (refine zAD rfl ⟨_, rfl, fun hb => ?_, fun hb => ?_⟩ <;> (have hc := hb; try simp only [go_sem] at hc)) | refine zAI rfl ?_) | (refine Qb ?_ ?_; focus kernel_rfl) | ((with_reducible refine And.intro ?_ ?_); focus omega) | (refine zAB hK ?_; clear hK K'; simp only [go_sem, *]) | (simp only [zAH, zAA, go_sem, *]))
    refine ⟨_, (by omega), [some 0, some 1, some 2, some 3, some 9, some 5, some 6], [], _, _, _, (by (simp only [Weak, go_sem, List.map_append, List.map_set, *] <;> (try simp (disch := omega) only [zAE]) <;> (try simp) <;> (try omega))), j + 1, b0, b1 ++ [(l.getD j default).plate], b2, rfl, (by omega), (by exact ⟨q0.step_out (by rw [hs0]; decide), q1.step_in (by rw [hs0]; rfl), q2.step_out (by rw [hs0]; decide)⟩), rfl, rfl, rfl⟩
   ·repeat' (first | (show zAC ..; first | (refine Qr rfl ?_; try intro K' hK; try simp only [go_sem, *])) | (show Hold ..; first | refine Qh rfl ?_ | refine zAG rfl Tryz.mixed (by kernel_rfl) ?_ | (refine zAD rfl ⟨_, rfl, fun hb => ?_, fun hb => ?_⟩ <;> (have hc := hb; try simp only [go_sem] at hc)) | refine zAI rfl ?_) | (refine Qb ?_ ?_; focus kernel_rfl) | ((with_reducible refine And.intro ?_ ?_); focus omega) | (refine zAB hK ?_; clear hK K'; simp only [go_sem, *]) | (simp only [zAH, zAA, go_sem, *]))
    refine ⟨_, (by omega), [some 0, some 1, some 2, some 3, some 4, some 9, some 6], [], _, _, _, (by (simp only [Weak, go_sem, List.map_append, List.map_set, *] <;> (try simp (disch := omega) only [zAE]) <;> (try simp) <;> (try omega))), j + 1, b0, b1, b2 ++ [(l.getD j default).plate], rfl, (by omega), (by exact ⟨q0.step_out (by rw [hs0]; decide), q1.step_out (by rw [hs0]; decide), q2.step_in (by rw [hs0]; rfl)⟩), rfl, rfl, rfl⟩
  ·repeat' (first | (show zAC ..; first | (refine Qr rfl ?_; try intro K' hK; try simp only [go_sem, *])) | (show Hold ..; first | refine Qh rfl ?_ | refine zAG rfl Tryz.mixed (by kernel_rfl) ?_ | (refine zAD rfl ⟨_, rfl, fun hb => ?_, fun hb => ?_⟩ <;> (have hc := hb; try simp only [go_sem] at hc)) | refine zAI rfl ?_) | (refine Qb ?_ ?_; focus kernel_rfl) | ((with_reducible refine And.intro ?_ ?_); focus omega) | (refine zAB hK ?_; clear hK K'; simp only [go_sem, *]) | (simp only [zAH, zAA, go_sem, *]))
   rw [zAX (by omega), List.nil_append] at hQ
   refine ⟨_, (by omega), [some 0, some 1, some 2, some 3, some 4, some 5, some 6], [], _, _, _, (by (simp only [Weak, go_sem, List.map_append, List.map_set, *] <;> (try simp (disch := omega) only [zAE]) <;> (try simp) <;> (try omega))), i + 1, (some (kk, .list (l.map House.enc))), rem.eraseIdx r, b0, b1, b2, rfl, (by omega), (by exact ⟨by rw [List.length_eraseIdx_of_lt hr]; omega, fun h hh => hsub h ((List.eraseIdx_sublist _ _).subset hh), hQ⟩), rfl, rfl, rfl⟩
end Go.Abs

namespace Go.Abs
open Go Go.Proofs
attribute [local irreducible] zAC Hold zAN
theorem zBF (x : Plate) : (x.number == 0 && x.letter == 0) = decide (x = zeroPlate) := zLY x zeroPlate
theorem bf {a : Bool} (h : ¬ a = true) : a = false := by simpa using h
theorem zCv (p : Plan) (c : Change) (v : Valid p) :
  (can p c ≠ 0 → Spec Tryz.prog 125 [zAO p, c.enc] [] (.tup [.raw (.map none), iV (can p c)]) []) ∧
  (can p c = 0 → Spec Tryz.prog 125 [zAO p, c.enc] [] (.tup [.mp 0, iV 0]) [.mapo (zAv p) (zAZ p (mv p c))]) := by
 have hl : p.length ≤ 1000 := by have := v.len; omega
 unfold can
 by_cases hk : betw c.kind 1 7 = true
 rotate_left
 ·rw [if_pos (bf hk)]; exact ⟨fun _ => zMJ p c hl (bf hk), fun h => absurd h (by omega)⟩
 rw [if_neg (by simp [hk])]
 by_cases hs : betw c.street 0 ((p.length : Int) - 1) = true
 rotate_left
 ·rw [if_pos (bf hs)]; exact ⟨fun _ => zJr p c hl hk (bf hs), fun h => absurd h (by omega)⟩
 rw [if_neg (by simp [hs])]
 have hk' := betw_iff.1 hk
 have hs' := betw_iff.1 hs
 by_cases h4 : c.kind = 4
 ·have k4 : (c.kind == 4) = true := by simp [h4]
  have k7 : (c.kind == 7) = false := by simp [h4]
  have k5 : decide (c.kind ≥ 5) = false := by simp [h4]
  by_cases ho : betw c.other 0 ((p.length : Int) - 1) = true
  rotate_left
  ·rw [if_pos ⟨.inl h4, bf ho⟩]; exact ⟨fun _ => zOu p c hl hk hs k4 (bf ho), fun h => absurd h (by omega)⟩
  rw [if_neg (by simp [ho])]
  have ho' := betw_iff.1 ho
  by_cases hr : c.other = c.street
  ·rw [if_pos ⟨.inl h4, hr⟩]; exact ⟨fun _ => zOw p c hl hk hs k4 ho (by simp [hr]), fun h => absurd h (by omega)⟩
  rw [if_neg (by simp [hr])]
  have hr' : (c.other == c.street) = false := by simp [hr]
  by_cases hz : c.src = zeroPlate
  rotate_left
  ·rw [if_pos (.inr (.inl ⟨by omega, hz⟩))]; exact ⟨fun _ => zOk p c hl hk hs k4 ho hr' k5 (by rw [zBF]; simp [hz]), fun h => absurd h (by omega)⟩
  have hz' : (c.src.number == 0 && c.src.letter == 0) = true := by rw [zBF]; simp [hz]
  by_cases hd : c.dst = zeroPlate
  rotate_left
  ·rw [if_pos (.inr (.inr ⟨by omega, hd⟩))]; exact ⟨fun _ => zOl p c hl hk hs k4 k7 ho hr' k5 hz' (by rw [zBF]; simp [hd]), fun h => absurd h (by omega)⟩
  have hd' : (c.dst.number == 0 && c.dst.letter == 0) = true := by rw [zBF]; simp [hd]
  rw [if_neg (by simp [h4, hz, hd])]
  have sp := zOq p c v ⟨hk', by omega, fun _ => by omega⟩ h4 ho hr' hz' hd'
  exact ⟨fun h => by simpa [effR, effO, h] using sp, fun h => by simpa [effR, effO, h] using sp⟩
 ·by_cases h7 : c.kind = 7
  ·have k4 : (c.kind == 4) = false := by simp [h7]
   have k7 : (c.kind == 7) = true := by simp [h7]
   by_cases ho : betw c.other 0 ((p.length : Int) - 1) = true
   rotate_left
   ·rw [if_pos ⟨.inr h7, bf ho⟩]; exact ⟨fun _ => zOv p c hl hk hs k4 k7 (bf ho), fun h => absurd h (by omega)⟩
   rw [if_neg (by simp [ho])]
   have ho' := betw_iff.1 ho
   by_cases hr : c.other = c.street
   ·rw [if_pos ⟨.inr h7, hr⟩]; exact ⟨fun _ => zOx p c hl hk hs k4 k7 ho (by simp [hr]), fun h => absurd h (by omega)⟩
   rw [if_neg (by simp [hr])]
   rw [if_neg (by simp [h7])]
   have sp := zOt p c v ⟨hk', by omega, fun _ => by omega⟩ h7 ho (by simp [hr])
   exact ⟨fun h => by simpa [effR, effO, h] using sp, fun h => by simpa [effR, effO, h] using sp⟩
  ·have k4 : (c.kind == 4) = false := by simp [h4]
   have k7 : (c.kind == 7) = false := by simp [h7]
   rw [if_neg (by simp [h4, h7]), if_neg (by simp [h4, h7])]
   by_cases ho : c.other = 0
   rotate_left
   ·rw [if_pos (.inl ⟨by simp [h4, h7], ho⟩)]; exact ⟨fun _ => zQp p c hl hk hs k4 k7 (by simp [ho]), fun h => absurd h (by omega)⟩
   have ho' : (c.other != 0) = false := by simp [ho]
   by_cases h5 : 5 ≤ c.kind
   ·have k5 : decide (c.kind ≥ 5) = true := by simp; omega
    by_cases hd : c.dst = zeroPlate
    rotate_left
    ·rw [if_pos (.inr (.inr ⟨h7, hd⟩))]; exact ⟨fun _ => zOm p c hl hk hs k4 k7 ho' k5 (by rw [zBF]; simp [hd]), fun h => absurd h (by omega)⟩
    have hd' : (c.dst.number == 0 && c.dst.letter == 0) = true := by rw [zBF]; simp [hd]
    rw [if_neg (by simp [h4, h7, ho, h5, hd])]
    have f : Pre p c := ⟨hk', by omega, fun _ => by omega⟩
    rcases (by omega : c.kind = 5 ∨ c.kind = 6) with k | k
    ·have sp := zOr p c v f k ho' hd'
     exact ⟨fun h => by simpa [effR, effO, h] using sp, fun h => by simpa [effR, effO, h] using sp⟩
    ·have sp := zOs p c v f k ho' hd'
     exact ⟨fun h => by simpa [effR, effO, h] using sp, fun h => by simpa [effR, effO, h] using sp⟩
   ·have k5 : decide (c.kind ≥ 5) = false := by simp; omega
    by_cases hz : c.src = zeroPlate
    rotate_left
    ·rw [if_pos (.inr (.inl ⟨h5, hz⟩))]; exact ⟨fun _ => zQq p c hl hk hs k4 k7 ho' k5 (by rw [zBF]; simp [hz]), fun h => absurd h (by omega)⟩
    have hz' : (c.src.number == 0 && c.src.letter == 0) = true := by rw [zBF]; simp [hz]
    by_cases hd : c.dst = zeroPlate
    rotate_left
    ·rw [if_pos (.inr (.inr ⟨h7, hd⟩))]; exact ⟨fun _ => zQr p c hl hk hs k4 k7 ho' k5 hz' (by rw [zBF]; simp [hd]), fun h => absurd h (by omega)⟩
    have hd' : (c.dst.number == 0 && c.dst.letter == 0) = true := by rw [zBF]; simp [hd]
    rw [if_neg (by simp [h4, h7, ho, hz, hd])]
    have f : Pre p c := ⟨hk', by omega, fun _ => by omega⟩
    rcases (by omega : c.kind = 1 ∨ c.kind = 2 ∨ c.kind = 3) with k | k | k
    ·have sp := zOn p c v f k ho' hz' hd'
     exact ⟨fun h => by simpa [effR, effO, h] using sp, fun h => by simpa [effR, effO, h] using sp⟩
    ·have sp := zOo p c v f k ho' hz' hd'
     exact ⟨fun h => by simpa [effR, effO, h] using sp, fun h => by simpa [effR, effO, h] using sp⟩
    ·have sp := zOp p c v f k ho' hz' hd'
     exact ⟨fun h => by simpa [effR, effO, h] using sp, fun h => by simpa [effR, effO, h] using sp⟩
theorem zN9 {p : Plan} {c : Change} (f : Fit p c) (x : Plate) : (toP p c x).length ≤ 2 := by
 rcases zHy f.kind with k | k | k | k | k | k | k
 ·rw [zDu k]; simp
 ·rw [zDL k]; simp
 ·rw [zCx k]; simp
 ·rw [zDK k]; simp
 ·rw [zBV k]; split <;> simp
 ·rw [zCy k]; split <;> simp
 ·rw [zCX k]; split <;> simp
theorem zLJ {p : Plan} {c : Change} (f : Fit p c) (h : House) : (mv p c h).length ≤ 2 := by
 unfold mv; split
 ·exact zN9 f _
 ·simp
theorem zJn {p : Plan} {c : Change} (v : Valid p) (f : Fit p c) (s : Nat) (hs : s < p.length) : ((zBT p c).filter (fun h => h.street == (s : Int))).length ≤ 8 := by
 have h := zDv v f (s := s) (by omega) (by omega)
 refine Nat.le_trans ?_ h
 rw [← List.length_map (f := House.plate)]
 have hnd : (((zBT p c).filter (fun h => h.street == (s : Int))).map House.plate).Nodup := by
  rw [List.nodup_iff_pairwise_ne, List.pairwise_map]
  refine ((zC7 v f).filter _).imp_of_mem (fun {a b} ha hb' hab e => hab ?_)
  have h1 := (List.mem_filter.1 ha).2
  have h2 := (List.mem_filter.1 hb').2
  simp at h1 h2
  cases a; cases b; simp_all
 refine zCA hnd (fun x hx => ?_)
 obtain ⟨z, hz, rfl⟩ := List.mem_map.1 hx
 obtain ⟨h1, h2⟩ := List.mem_filter.1 hz
 rw [zAk, zBN (by omega) (by omega)]
 simp at h2
 rw [← h2]; exact h1
theorem zHI (p : Plan) (c : Change) (v : Valid p) (f : Fit p c) : Spec Tryz.prog 89 [.fmap (zAv p) (zAZ p (mv p c)), iV p.length] [] (zAO (zAk p c)) [] := by
 have hst : ∀ z, z ∈ (zAJ p).flatMap (mv p c) → 0 ≤ z.street ∧ z.street < p.length := fun z hz => by have := zC6 v f (z := z) hz; omega
 have hlen : ∀ s : Nat, s < p.length → (((zAJ p).flatMap (mv p c)).filter (fun h => h.street == (s : Int))).length ≤ 12 := fun s hs => by have := zJn v f s hs; unfold zBT at this; omega
 have hsl : (zAJ p).length ≤ 1000 := by have := v.count; omega
 have hgl : ∀ h, h ∈ zAJ p → (mv p c h).length ≤ 1000 := fun h _ => by have := zLJ f h; omega
 have hnd := zC7 v f
 have h0 := v.ne
 have h3 := v.len
 unfold zAk zBT
 rcases (by omega : p.length = 1 ∨ p.length = 2 ∨ p.length = 3) with e | e | e <;> rw [e] at hst hlen ⊢
 ·exact zLj _ _ hst hnd hlen hsl hgl
 ·exact zLk _ _ hst hnd hlen hsl hgl
 ·exact zLl _ _ hst hnd hlen hsl hgl
theorem zN0 (p : Plan) (c : Change) (hp : p.length ≤ 4294967296) :
  (zBH p c ≠ 0 → Spec Tryz.prog 88 [zAO p, c.enc] [] (.tup [.raw (.map none), iV (zBH p c)]) []) ∧
  (zBH p c = 0 → Spec Tryz.prog 88 [zAO p, c.enc] [] (.tup [.mp 0, iV 0]) [.mapo (zAv p) (zAZ p (mv p c))]) := by
 by_cases hc : check p = 0
 ·have v := (zBY p).1 hc
  have e : zBH p c = can p c := by simp [zBH, hc]
  rw [e]
  obtain ⟨s1, s2⟩ := zCv p c v
  refine ⟨fun h => ?_, fun h => ?_⟩
  ·have s := s1 h
   refine zAF Tryz.func88 rfl (fun E hE => ?_); simp only [go_sem, Tryz.ntmps88]
   repeat' (first | (show zAC ..; first | (refine Qr rfl ?_; try intro K' hK; try simp only [go_sem, *])) | (show Hold ..; first | refine Qh rfl ?_ | (refine zAD rfl ⟨_, rfl, fun hb => ?_, fun hb => ?_⟩ <;> (have hc := hb; try simp only [go_sem] at hc)) | refine zAI rfl ?_) | (show zAN ..; first | ((first | refine zAK (zBn p hp) ?_ ?_ | refine zAK (s) ?_ ?_); (focus (simp only [go_sem, *]; done)); simp only [go_sem, *])) | ((with_reducible refine And.intro ?_ ?_); focus omega) | (refine zAB hK ?_; clear hK K'; simp only [go_sem, *]) | (simp only [zAH, zAA, go_sem, *]))
   all_goals (refine ⟨[_, _], [], [], ⟨rfl, rfl, trivial⟩, ?_⟩; simp only [go_sem, *])
  ·have s := s2 h
   refine zAF Tryz.func88 rfl (fun E hE => ?_); simp only [go_sem, Tryz.ntmps88]
   repeat' (first | (show zAC ..; first | (refine Qr rfl ?_; try intro K' hK; try simp only [go_sem, *])) | (show Hold ..; first | refine Qh rfl ?_ | (refine zAD rfl ⟨_, rfl, fun hb => ?_, fun hb => ?_⟩ <;> (have hc := hb; try simp only [go_sem] at hc)) | refine zAI rfl ?_) | (show zAN ..; first | (refine zAK (zBn p hp) ?_ ?_; (focus (simp only [go_sem, *]; done)); simp only [go_sem, *]) | (refine zAl (s) ?_ ?_ ?_ ?_; (focus (simp only [go_sem, *]; done)); (focus (first | (simp; done) | (simp [go_sem]; done))); (focus (first | (simp; done) | (simp [go_sem]; done))); simp only [go_sem, *])) | ((with_reducible refine And.intro ?_ ?_); focus omega) | (refine zAB hK ?_; clear hK K'; simp only [go_sem, *]) | (simp only [zAH, zAA, go_sem, *]))
   refine ⟨[_, _], [some 2], [], ⟨rfl, rfl, trivial⟩, ?_⟩
   simp only [go_sem]
 ·have e : zBH p c = check p := by simp [zBH, hc]
  rw [e]
  refine ⟨fun h => ?_, fun h => absurd h hc⟩
  refine zAF Tryz.func88 rfl (fun E hE => ?_); simp only [go_sem, Tryz.ntmps88]
  repeat' (first | (show zAC ..; first | (refine Qr rfl ?_; try intro K' hK; try simp only [go_sem, *])) | (show Hold ..; first | refine Qh rfl ?_ | (refine zAD rfl ⟨_, rfl, fun hb => ?_, fun hb => ?_⟩ <;> (have hc := hb; try simp only [go_sem] at hc)) | refine zAI rfl ?_) | (show zAN ..; first | (refine zAK (zBn p hp) ?_ ?_; (focus (simp only [go_sem, *]; done)); simp only [go_sem, *])) | ((with_reducible refine And.intro ?_ ?_); focus omega) | (refine zAB hK ?_; clear hK K'; simp only [go_sem, *]) | (simp only [zAH, zAA, go_sem, *]))
  all_goals first | contradiction | (refine ⟨[_, _], [], [], ⟨rfl, rfl, trivial⟩, ?_⟩; simp only [go_sem, *])
theorem zBG {P : Program} {f : FuncId} {avs args : List AV} {H : Nat → AObj} {nx : Nat} {K : Cont} {r : AV} {out : List AObj} {gone : List Nat} (sp : Spec P f args [] r out) (ha : (avs.map fun x => (frzV H 3 x).1) = args) (hg : (avs.map fun x => (frzV H 3 x).2).flatten = gone)
  (hx : XpL (fun o => if o ∈ gone then .dead else H o) [] [] args args) (hu : ∀ j, j < out.length → (if nx + j ∈ gone then AObj.dead else H (nx + j)) = .unb) (h7 : ∀ A, A ∈ out → A ≠ .unb)
  (hk : K (r.ren (zAq [] nx)) (gone ++ zDB [] nx out) (zA9 gone ++ zAr [] nx out)) : zAN P f avs H nx K := by
 refine zJP ?_
 rw [ha, hg]
 exact zGp [] [] sp (by simp) hx trivial (by simp) (.inl rfl) (fun j hj => hu j (by simpa using hj)) h7 (by simpa using hk)
theorem zMf (p : Plan) (c : Change) (hp : p.length ≤ 4294967296) :
    Spec Tryz.prog 25 [zAO p, c.enc] [] (.tup [zAO (if zBH p c = 0 then zAk p c else []), iV (zBH p c)]) [] := by
  obtain ⟨s1, s2⟩ := zN0 p c hp
  by_cases e : zBH p c = 0
  · have hc : check p = 0 := by
      unfold zBH at e
      split at e <;> assumption
    have hcan : can p c = 0 := by unfold zBH at e; rw [if_pos hc] at e; exact e
    have v := (zBY p).1 hc
    have f := Fit.of_can hcan
    have s := s2 e
    have sa := zHI p c v f
    rw [if_pos e, e]
    clear s1 s2
    refine zAF Tryz.func25 rfl (fun E hE => ?_); simp only [go_sem, Tryz.ntmps25]
    repeat' (first | (show zAC ..; first | (refine Qr rfl ?_; try intro K' hK; try simp only [go_sem, *])) | (show Hold ..; first | refine Qh rfl ?_ | (refine zAD rfl ⟨_, rfl, fun hb => ?_, fun hb => ?_⟩ <;> (have hc := hb; try simp only [go_sem] at hc)) | refine zAI rfl ?_) | (show zAN ..; first | (refine zAl (s) ?_ ?_ ?_ ?_; (focus (simp only [go_sem, *]; done)); (focus (first | (simp; done) | (simp [go_sem]; done))); (focus (first | (simp; done) | (simp [go_sem]; done))); simp only [go_sem, *])) | ((with_reducible refine And.intro ?_ ?_); focus omega) | (refine zAB hK ?_; clear hK K'; simp only [go_sem, *]) | (simp only [zAH, zAA, go_sem, *]))
    refine zBG (gone := [3]) sa (by simp only [go_sem]) (by simp only [go_sem]) (by simp only [go_sem]) (by simp) (by simp) ?_
    simp only [go_sem, zA9]
    repeat' (first | (show zAC ..; first | (refine Qr rfl ?_; try intro K' hK; try simp only [go_sem, *])) | (show Hold ..; first | refine Qh rfl ?_ | (refine zAD rfl ⟨_, rfl, fun hb => ?_, fun hb => ?_⟩ <;> (have hc := hb; try simp only [go_sem] at hc)) | refine zAI rfl ?_) | ((with_reducible refine And.intro ?_ ?_); focus omega) | (refine zAB hK ?_; clear hK K'; simp only [go_sem, *]) | (simp only [zAH, zAA, go_sem, *]))
    refine ⟨[zAO (zAk p c), iV 0], [], [], ⟨(by simp only [zAY, go_sem]), rfl, trivial⟩, ?_⟩; simp only [go_sem, *]
  · have s := s1 e
    rw [if_neg e]
    clear s1 s2
    refine zAF Tryz.func25 rfl (fun E hE => ?_); simp only [go_sem, Tryz.ntmps25]
    repeat' (first | (show zAC ..; first | (refine Qr rfl ?_; try intro K' hK; try simp only [go_sem, *])) | (show Hold ..; first | refine Qh rfl ?_ | (refine zAD rfl ⟨_, rfl, fun hb => ?_, fun hb => ?_⟩ <;> (have hc := hb; try simp only [go_sem] at hc)) | refine zAI rfl ?_) | (show zAN ..; first | (refine zAK (s) ?_ ?_; (focus (simp only [go_sem, *]; done)); simp only [go_sem, *])) | ((with_reducible refine And.intro ?_ ?_); focus omega) | (refine zAB hK ?_; clear hK K'; simp only [go_sem, *]) | (simp only [zAH, zAA, go_sem, *]))
    all_goals first | contradiction | skip
    refine ⟨[.agg [nilV], iV (zBH p c)], [], [], ⟨(by simp only [zAY, go_sem]), rfl, trivial⟩, ?_⟩; simp only [go_sem, *]
end Go.Abs

