/-
  WHAT THE PROOF STANDS ON, PART 5: contracts of the program's functions and the logic that they are proved in. No condition.
-/
import Derived.Test.YteehcinnfiaklaaGreatDoorQ4
set_option maxRecDepth 100000
set_option maxHeartbeats 4000000
set_option linter.unusedVariables false
set_option linter.unusedSimpArgs false
set_option linter.unusedSectionVars false
namespace Go.Abs
open Go Go.Proofs Tryz
attribute [local irreducible] y3 Hold y7
theorem zNE (r : List Rule) (s : Str) (l : List Str) : ∀ (c i : Nat), l.length - i = c → (i8 r s l 0 i).length + (i8 r s l 1 i).length + (i8 r s l 2 i).length ≤ c
 | 0, i, h => by rw [zFy (by omega), zFy (by omega), zFy (by omega)]; simp
 | c + 1, i, h => by
  have ih := zNE r s l c (i + 1) (by omega)
  have hi : i < l.length := by omega
  rw [zFz (n := 0) hi, zFz (n := 1) hi, zFz (n := 2) hi]
  simp only [List.length_append]
  generalize f6 r s (l.getD i default) = u
  generalize u0 r s (l.getD i default) = e
  by_cases h0 : e = 0 ∧ u = 0
  ·rw [if_pos h0, if_neg (by omega), if_neg (by omega)]; simp; omega
  ·rw [if_neg h0]
   by_cases h1 : e = 0 ∧ u = 1
   ·rw [if_pos h1, if_neg (by omega)]; simp; omega
   ·rw [if_neg h1]
    split <;> simp <;> omega
theorem zNI (r : List Rule) (s : Str) (l : List Str) : (P8 r s l).length ≤ l.length := by
 have := zNE r s l l.length 0 (by omega)
 unfold P8
 simp only [List.length_append]
 exact this
theorem zNH {r : List Rule} {a b : Str} (hr : u7 r = 0) (va : ValidN a) (vb : ValidN b) {n : Int} (hn : n ≤ 2) : (u0 r a b = 0 ∧ f6 r a b = n) ↔ zLs r a b = n := by
 rcases zDg hr va vb with ⟨h1, h2, _, _⟩ | ⟨h1, h2, h3⟩
 ·rw [h1, h2]; simp
 ·rw [h1, h3]
  constructor
  ·rintro ⟨h, _⟩; cases h
  ·intro h; omega
theorem zNJ (r : List Rule) (s : Str) (l : List Str) (hr : u7 r = 0) (vs : ValidN s) (hv : ∀ x, x ∈ l → ValidN x) (h5 : l.length ≤ 5) (E : Env) (hE : E.n = 0) :
    Hold prog E (sub [0, 1, 1, 1, 1] (X8 Tryz.f10)) (z7 (Hold prog E (sub [1, 1, 1, 1, 1] (X8 Tryz.f10)) fun e σ' => (e = .normal ∨ e = .ret) ∧ I5 prog Tryz.f10 0 (bV true) [] σ') fun e σ' => (e = .normal ∨ e = .ret) ∧ I5 prog Tryz.f10 0 (bV true) [] σ') ⟨94, [(4, x4 r), (5, y4 l), (6, sV s)], zLu 0 []⟩ := by
  have sn := zLY r s l (by unfold zCA; rw [if_pos hr, if_pos vs.check]; exact zKG hv (by omega))
  have hnl := zNI r s l
  have h0 : [] ++ i7 r s l 0 = P8 r s l := zFx r s l
  have sS := zHt
  generalize P8 r s l = N at *
  have hnl2 : ¬ (N.length : Int) > (l.length : Int) := by omega
  repeat' (first | (refine Qr rfl ?_; try intro _ hK; try simp only [go_sem, *]) | (refine Qi rfl rfl rfl rfl ?_ ?_ <;> (intro hb; (try intro _ hK); have hc := hb; try simp only [go_sem] at hc; simp only [go_sem, *])) | refine Qh rfl ?_ | refine Qd rfl (by kernel_rfl) ?_ | (refine Qc rfl rfl ?_ ?_ <;> (intro hb; have hc := hb; try simp only [go_sem] at hc)) | refine q6 rfl ?_ | (refine Qb ?_ ?_; focus kernel_rfl) | (refine o9 (sn) ?_; simp only [go_sem, *]) | ((with_reducible apply And.intro); focus omega) | (refine z8 hK ?_; clear hK; simp only [go_sem, *]) | simp only [z7, z6, go_sem, *])
  all_goals first | contradiction | omega | skip
  refine b6 rfl (3) (fun n (pre : List Int) => pre ++ i7 r s l n = N) 94 (fun n pre => [(10, iV n), (9, iV pre.length), (7, .own 0 1 0 N.length), (4, x4 r), (5, y4 l), (6, sV s)]) (fun n pre => [.row 1 (N.map iV)]) [some 0] [] ([]) (by exact h0) ?_; intro n pre hn hP
  clear h0 sn
  have hwn : IntKind.i64.wrap ((n : Int) + 1) = ((n + 1 : Nat) : Int) := r6 (by omega)
  by_cases hn2 : n < 3
  · have hn3 : (n : Int) ≤ 2 := by omega
    rw [zFw hn2] at hP
    clear sS
    repeat' (first | (refine Qr rfl ?_; try intro _ hK; try simp only [go_sem, *]) | (refine Qi rfl rfl rfl rfl ?_ ?_ <;> (intro hb; (try intro _ hK); have hc := hb; try simp only [go_sem] at hc; simp only [go_sem, *])) | refine Qh rfl ?_ | refine Qd rfl (by kernel_rfl) ?_ | (refine Qc rfl rfl ?_ ?_ <;> (intro hb; have hc := hb; try simp only [go_sem] at hc)) | refine q6 rfl ?_ | (refine Qb ?_ ?_; focus kernel_rfl) | ((with_reducible apply And.intro); focus omega) | (refine z8 hK ?_; clear hK; simp only [go_sem, *]) | simp only [z7, z6, go_sem, *])
    all_goals first | contradiction | omega | skip
    refine b6 rfl (l.length) (fun i (pr : List Int) => pr ++ (i8 r s l n i ++ i7 r s l (n + 1)) = N) 94 (fun i pr => [(11, iV i), (10, iV n), (9, iV pr.length), (7, .own 0 1 0 N.length), (4, x4 r), (5, y4 l), (6, sV s)]) (fun i pr => [.row 1 (N.map iV)]) [some 0] [] (pre) (by exact hP) ?_; intro i pr hi hQ
    clear hP
    by_cases hi2 : i < l.length
    · have vi := hv _ (l4 hi2)
      have u1 := E2 r s _ hr vs vi
      have hif := zNH hr vs vi hn3
      have hwi : IntKind.i64.wrap ((i : Int) + 1) = ((i + 1 : Nat) : Int) := r6 (by omega)
      rw [zFz hi2] at hQ
      generalize zLs r s (l.getD i default) = m at *
      by_cases q : m = (n : Int)
      · rw [if_pos (hif.2 q)] at hQ
        have hl0 := congrArg List.length hQ
        simp only [List.length_append, List.length_cons, List.length_nil] at hl0
        have hpl : pr.length < N.length := by omega
        have hel : N.getD pr.length default = (i : Int) := by rw [← hQ]; simp [List.getD]
        have hge : ¬ (pr.length : Int) ≥ (N.length : Int) := by omega
        have hwp : IntKind.i64.wrap ((pr.length : Int) + 1) = ((pr.length + 1 : Nat) : Int) := r6 (by omega)
        have hQ2 : (pr ++ [(i : Int)]) ++ (i8 r s l n (i + 1) ++ i7 r s l (n + 1)) = N := by rw [← hQ]; simp
        have hpl2 : (pr ++ [(i : Int)]).length = pr.length + 1 := by simp
        subst q
        clear hif hQ hl0
        repeat' (first | (refine Qr rfl ?_; try intro _ hK; try simp only [go_sem, *]) | (refine Qi rfl rfl rfl rfl ?_ ?_ <;> (intro hb; (try intro _ hK); have hc := hb; try simp only [go_sem] at hc; simp only [go_sem, *])) | refine Qh rfl ?_ | refine Qd rfl (by kernel_rfl) ?_ | (refine Qc rfl rfl ?_ ?_ <;> (intro hb; have hc := hb; try simp only [go_sem] at hc)) | refine q6 rfl ?_ | (refine Qb ?_ ?_; focus kernel_rfl) | (refine q9 (u1) ?_; simp only [go_sem, *]) | ((with_reducible apply And.intro); focus omega) | (refine z8 hK ?_; clear hK; simp only [go_sem, *]) | simp only [z7, z6, go_sem, *])
        all_goals first | contradiction | omega | skip
        exact o3 (i' := i + 1) [some 0] [] (pr ++ [(i : Int)]) (by exact hQ2)
      · rw [if_neg (fun h => q (hif.1 h))] at hQ
        have hQ2 : pr ++ (i8 r s l n (i + 1) ++ i7 r s l (n + 1)) = N := hQ
        have hb1 : (m == (n : Int)) = false := by simpa using q
        clear hif hQ
        repeat' (first | (refine Qr rfl ?_; try intro _ hK; try simp only [go_sem, *]) | (refine Qi rfl rfl rfl rfl ?_ ?_ <;> (intro hb; (try intro _ hK); have hc := hb; try simp only [go_sem] at hc; simp only [go_sem, *])) | refine Qh rfl ?_ | refine Qd rfl (by kernel_rfl) ?_ | (refine Qc rfl rfl ?_ ?_ <;> (intro hb; have hc := hb; try simp only [go_sem] at hc)) | refine q6 rfl ?_ | (refine Qb ?_ ?_; focus kernel_rfl) | (refine q9 (u1) ?_; simp only [go_sem, *]) | ((with_reducible apply And.intro); focus omega) | (refine z8 hK ?_; clear hK; simp only [go_sem, *]) | simp only [z7, z6, go_sem, *])
        all_goals first | contradiction | omega | skip
        exact o3 (i' := i + 1) [some 0] [] (pr) (by exact hQ2)
    · rw [zFy (by omega)] at hQ
      have hQ2 : pr ++ i7 r s l (n + 1) = N := hQ
      clear hQ
      repeat' (first | (refine Qr rfl ?_; try intro _ hK; try simp only [go_sem, *]) | (refine Qi rfl rfl rfl rfl ?_ ?_ <;> (intro hb; (try intro _ hK); have hc := hb; try simp only [go_sem] at hc; simp only [go_sem, *])) | refine Qh rfl ?_ | refine Qd rfl (by kernel_rfl) ?_ | (refine Qc rfl rfl ?_ ?_ <;> (intro hb; have hc := hb; try simp only [go_sem] at hc)) | refine q6 rfl ?_ | (refine Qb ?_ ?_; focus kernel_rfl) | ((with_reducible apply And.intro); focus omega) | (refine z8 hK ?_; clear hK; simp only [go_sem, *]) | simp only [z7, z6, go_sem, *])
      all_goals first | contradiction | omega | skip
      exact o3 (i' := n + 1) [some 0] [] (pr) (by exact hQ2)
  · have e : i7 r s l n = [] := by
      unfold i7
      rw [show 3 - n = 0 by omega]; rfl
    rw [e, List.append_nil] at hP
    subst hP
    have hn3 : ¬ (n : Int) ≤ 2 := by omega
    clear e
    repeat' (first | (refine Qr rfl ?_; try intro _ hK; try simp only [go_sem, *]) | (refine Qi rfl rfl rfl rfl ?_ ?_ <;> (intro hb; (try intro _ hK); have hc := hb; try simp only [go_sem] at hc; simp only [go_sem, *])) | refine Qh rfl ?_ | refine Qd rfl (by kernel_rfl) ?_ | (refine Qc rfl rfl ?_ ?_ <;> (intro hb; have hc := hb; try simp only [go_sem] at hc)) | refine q6 rfl ?_ | (refine Qb ?_ ?_; focus kernel_rfl) | (refine q9 (sS) ?_; simp only [go_sem, *]) | ((with_reducible apply And.intro); focus omega) | (refine z8 hK ?_; clear hK; simp only [go_sem, *]) | simp only [z7, z6, go_sem, *])
    all_goals first | contradiction | omega | skip
    (refine ⟨[_], [], [], ⟨rfl, trivial⟩, ?_⟩; simp only [go_sem, *])
theorem zNM (nums : List Int) (h : nums.length ≤ 4294967296) : zLn prog 10 [W4 nums] [] (bV true) [] := by
 obtain ⟨d0, s0, hd0⟩ := zD0 nums h
 obtain ⟨r, d1, s1, hr, hr4, hd1⟩ := zGZ d0 3 hd0 (by omega)
 obtain ⟨l, d2, s2, hv, hl, hd2⟩ := zFv d1 5 3 hd1 (by omega) (by omega)
 obtain ⟨x, d3, s3, vx, hd3⟩ := zFr d2 3 hd2 (by omega)
 obtain ⟨t, d4, s4, hd4⟩ := zKr d3 2 hd3 (by omega)
 have hl5 : l.length ≤ 5 := by omega
 have tl := fun s vs E hE => zNJ r s l hr vs hv hl5 E hE
 clear hd0 hd1 hd2 hd3 hd4 h
 refine q7 func10 rfl (fun E hE => ?_); simp only [go_sem, ntmps10]
 repeat' (first | (refine Qr rfl ?_; try intro _ hK; try simp only [go_sem, *]) | (refine Qi rfl rfl rfl rfl ?_ ?_ <;> (intro hb; (try intro _ hK); have hc := hb; try simp only [go_sem] at hc; simp only [go_sem, *])) | refine Qh rfl ?_ | (refine Qc rfl rfl ?_ ?_ <;> (intro hb; have hc := hb; try simp only [go_sem] at hc)) | refine q6 rfl ?_ | (refine o9 (s0) ?_; simp only [go_sem, *]) | ((with_reducible apply And.intro); focus omega) | (refine z8 hK ?_; clear hK; simp only [go_sem, *]) | simp only [z7, z6, go_sem, *])
 refine w5 [0] s1 ?_
 simp only [go_sem, *]
 repeat' (first | (refine Qr rfl ?_; try intro _ hK; try simp only [go_sem, *]) | (refine Qi rfl rfl rfl rfl ?_ ?_ <;> (intro hb; (try intro _ hK); have hc := hb; try simp only [go_sem] at hc; simp only [go_sem, *])) | refine Qh rfl ?_ | (refine Qc rfl rfl ?_ ?_ <;> (intro hb; have hc := hb; try simp only [go_sem] at hc)) | refine q6 rfl ?_ | ((with_reducible apply And.intro); focus omega) | (refine z8 hK ?_; clear hK; simp only [go_sem, *]) | simp only [z7, z6, go_sem, *])
 refine w5 [0] s2 ?_
 simp only [go_sem, *]
 repeat' (first | (refine Qr rfl ?_; try intro _ hK; try simp only [go_sem, *]) | (refine Qi rfl rfl rfl rfl ?_ ?_ <;> (intro hb; (try intro _ hK); have hc := hb; try simp only [go_sem] at hc; simp only [go_sem, *])) | refine Qh rfl ?_ | (refine Qc rfl rfl ?_ ?_ <;> (intro hb; have hc := hb; try simp only [go_sem] at hc)) | refine q6 rfl ?_ | ((with_reducible apply And.intro); focus omega) | (refine z8 hK ?_; clear hK; simp only [go_sem, *]) | simp only [z7, z6, go_sem, *])
 refine w5 [0] s3 ?_
 simp only [go_sem, *]
 by_cases hl0 : 0 < l.length
 ·have hl0i : (0 : Int) < (l.length : Int) := by omega
  have v0 := hv _ (l4 hl0)
  cases t
  ·repeat' (first | ((with_reducible refine zLc [0, 1, 1, 1, 1] ?_)) | (refine Qr rfl ?_; try intro _ hK; try simp only [go_sem, *]) | (refine Qi rfl rfl rfl rfl ?_ ?_ <;> (intro hb; (try intro _ hK); have hc := hb; try simp only [go_sem] at hc; simp only [go_sem, *])) | refine Qh rfl ?_ | (refine Qc rfl rfl ?_ ?_ <;> (intro hb; have hc := hb; try simp only [go_sem] at hc)) | refine q6 rfl ?_ | (refine w5 [0] (s4) ?_; simp only [go_sem, *]) | ((with_reducible apply And.intro); focus omega) | (refine z8 hK ?_; clear hK; simp only [go_sem, *]) | simp only [z7, z6, go_sem, *])
   all_goals first | contradiction | omega | skip
   refine ⟨?_⟩
   refine T0 (N := 94) (env := [(4, x4 r), (5, y4 l), (6, sV x)]) (As := []) [] [1, 2] (by (simp only [Weak, go_sem, List.map_append, List.map_set, *] <;> (try simp (disch := omega) only [r6]) <;> (try simp) <;> (try omega))) ?_
   exact tl x vx E hE
  ·repeat' (first | ((with_reducible refine zLc [0, 1, 1, 1, 1] ?_)) | (refine Qr rfl ?_; try intro _ hK; try simp only [go_sem, *]) | (refine Qi rfl rfl rfl rfl ?_ ?_ <;> (intro hb; (try intro _ hK); have hc := hb; try simp only [go_sem] at hc; simp only [go_sem, *])) | refine Qh rfl ?_ | (refine Qc rfl rfl ?_ ?_ <;> (intro hb; have hc := hb; try simp only [go_sem] at hc)) | refine q6 rfl ?_ | (refine w5 [0] (s4) ?_; simp only [go_sem, *]) | ((with_reducible apply And.intro); focus omega) | (refine z8 hK ?_; clear hK; simp only [go_sem, *]) | simp only [z7, z6, go_sem, *])
   all_goals first | contradiction | omega | skip
   refine ⟨?_⟩
   refine T0 (N := 94) (env := [(4, x4 r), (5, y4 l), (6, sV (l.getD 0 default))]) (As := []) [] [1, 2] (by (simp only [Weak, go_sem, List.map_append, List.map_set, *] <;> (try simp (disch := omega) only [r6]) <;> (try simp) <;> (try omega))) ?_
   exact tl _ v0 E hE
 ·have hl0i : ¬ (0 : Int) < (l.length : Int) := by omega
  repeat' (first | ((with_reducible refine zLc [0, 1, 1, 1, 1] ?_)) | (refine Qr rfl ?_; try intro _ hK; try simp only [go_sem, *]) | (refine Qi rfl rfl rfl rfl ?_ ?_ <;> (intro hb; (try intro _ hK); have hc := hb; try simp only [go_sem] at hc; simp only [go_sem, *])) | refine Qh rfl ?_ | (refine Qc rfl rfl ?_ ?_ <;> (intro hb; have hc := hb; try simp only [go_sem] at hc)) | refine q6 rfl ?_ | (refine w5 [0] (s4) ?_; simp only [go_sem, *]) | ((with_reducible apply And.intro); focus omega) | (refine z8 hK ?_; clear hK; simp only [go_sem, *]) | simp only [z7, z6, go_sem, *])
  all_goals first | contradiction | omega | skip
  refine ⟨?_⟩
  refine T0 (N := 94) (env := [(4, x4 r), (5, y4 l), (6, sV x)]) (As := []) [] [1, 2] (by (simp only [Weak, go_sem, List.map_append, List.map_set, *] <;> (try simp (disch := omega) only [r6]) <;> (try simp) <;> (try omega))) ?_
  exact tl x vx E hE
end Go.Abs

