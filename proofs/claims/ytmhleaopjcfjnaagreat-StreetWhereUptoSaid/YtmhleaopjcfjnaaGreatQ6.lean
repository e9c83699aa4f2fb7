/-
  WHAT THE PROOF STANDS ON, PART 6: contracts of the program's functions and the logic that they are proved in. No condition.
-/
import Derived.Test.YtmhleaopjcfjnaaGreatQ5
set_option maxRecDepth 100000
set_option maxHeartbeats 4000000
set_option linter.unusedVariables false
set_option linter.unusedSimpArgs false
set_option linter.unusedSectionVars false
namespace Go.Abs
open Go Go.Proofs Tryz
attribute [local irreducible] y6 Hold x8
theorem zQx (s : Story) (h : House) (hb : Bound 1048576 s) :
  zLp prog 66 [s.enc, h.enc] [] (.tup [.list ((zNP s h).map House.enc), iV (M6 s h)]) [] := by
 have s1 := zNX s (by have := hb.steps; omega) (fun w hw => by have := hb.ways w hw; omega) (by have := hb.facts; omega) (by have := hb.first.len; omega) (r9 s) rfl
 have s2 := zOI s.first h hb.first.len hb.first.rows
 unfold zNP M6
 by_cases e : r9 s = 0
 ·have o := C2 e
  have s3 := zNW s o
  have hl := H0 o.steps (fun w hw => (o.ways w hw).2.1)
  have h3 := o.steps
  have ht := zDU o.first
  rw [if_pos e]
  rw [e] at s1
  by_cases hh : h ∈ q9 s.first
  ·rw [if_pos hh]
   rw [decide_eq_true hh] at s2
   by_cases hne : r5 s = []
   ·rw [if_pos hne]
    rw [hne] at s3
    clear e hb hh
    refine q8 func66 rfl (fun E hE => ?_); simp only [go_sem, ntmps66]
    repeat' (first | (refine Qr rfl ?_; try intro _ hK; try simp only [go_sem, *]) | refine Qh rfl ?_ | refine Qd rfl (by kernel_rfl) ?_ | (refine Qc rfl rfl ?_ ?_ <;> (intro hb; have hc := hb; try simp only [go_sem] at hc)) | refine q6 rfl ?_ | (refine Qb ?_ ?_; focus kernel_rfl) | ((first | refine y4 (s1) ?_ | refine y4 (s2) ?_ | refine y4 (s3) ?_); simp only [go_sem, *]) | ((with_reducible apply And.intro); focus omega) | (refine z8 hK ?_; clear hK; simp only [go_sem, *]) | simp only [z6, z7, go_sem, *])
    all_goals try contradiction
    (refine ⟨[_, _], [], [], ⟨rfl, rfl, trivial⟩, ?_⟩; simp only [go_sem, *])
   ·rw [if_neg hne, if_pos rfl]
    have hWl := zOP h o hh
    have ss := zLb (P0 s h) (by omega)
    have sA := fun (t : Truth) => zOF s t h o.first hh
    have hsm : ∀ t, t ∈ r5 s → (t.now h).length ≤ 8 := fun t hm => (ht t hm).small h3 hh
    unfold zA0
    have hwl : ([] : List House) ++ ((r5 s).drop 0).flatMap (fun t => t.now h) = P0 s h := rfl
    have hl0 : (((r5 s).length : Int) == 0) = false := by
     have := List.length_pos_iff.2 hne
     rw [beq_eq_false_iff_ne]; omega
    generalize P0 s h = W at *
    generalize r5 s = L at *
    clear e hb hh hne ht
    refine q8 func66 rfl (fun E hE => ?_); simp only [go_sem, ntmps66]
    repeat' (first | (refine Qr rfl ?_; try intro _ hK; try simp only [go_sem, *]) | refine Qh rfl ?_ | refine Qd rfl (by kernel_rfl) ?_ | (refine Qc rfl rfl ?_ ?_ <;> (intro hb; have hc := hb; try simp only [go_sem] at hc)) | refine q6 rfl ?_ | (refine Qb ?_ ?_; focus kernel_rfl) | ((first | refine y4 (s1) ?_ | refine y4 (s2) ?_ | refine y4 (s3) ?_); simp only [go_sem, *]) | ((with_reducible apply And.intro); focus omega) | (refine z8 hK ?_; clear hK; simp only [go_sem, *]) | simp only [z6, z7, go_sem, *])
    all_goals try contradiction
    clear s1 s2 s3 hl0
    refine u4 rfl (L.length) (fun i (acc : List House) => acc ++ (L.drop i).flatMap (fun t => t.now h) = W) 42 (fun i acc => [(9, iV i), (8, .own 2 3 0 acc.length), (7, .list (L.map (Truth.encR s.first))), (3, .ptr 1 0), (2, .ptr 0 0)]) (fun i acc => [zNG s, .box [iV h.street, iV h.plate.number, iV h.plate.letter], .row 3 (acc.map House.enc)]) [some 0, some 1, none] [] ([]) (by exact hwl) ?_; intro i acc hi hP
    clear hwl
    have hql := congrArg List.length hP
    simp only [List.length_append] at hql
    by_cases hi : i < L.length
    ·have hi3 : (i : Int) < L.length := by omega
     have hti := hsm _ (w8 hi)
     have sA1 := sA (L.getD i default)
     rw [u0 hi, List.flatMap_cons] at hP
     clear sA hsm
     repeat' (first | (refine Qr rfl ?_; try intro _ hK; try simp only [go_sem, *]) | refine Qh rfl ?_ | refine Qd rfl (by kernel_rfl) ?_ | (refine Qc rfl rfl ?_ ?_ <;> (intro hb; have hc := hb; try simp only [go_sem] at hc)) | refine q6 rfl ?_ | (with_reducible (show (∀ _ : AV, _ → _) ∧ _); refine And.intro ?_ ?_; (focus (intro y hy; first | (obtain ⟨z, _, rfl⟩ := List.mem_map.1 (hy); simp [go_sem]; done) | (obtain ⟨z, _, rfl⟩ := List.mem_map.1 (List.mem_of_mem_take hy); simp [go_sem]; done) | (obtain ⟨z, _, rfl⟩ := List.mem_map.1 (List.mem_of_mem_drop hy); simp [go_sem]; done) | (obtain ⟨z, _, rfl⟩ := List.mem_map.1 (List.mem_of_mem_drop (List.mem_of_mem_take hy)); simp [go_sem]; done)))) | (refine Qb ?_ ?_; focus kernel_rfl) | (refine y4 (sA1) ?_; simp only [go_sem, *]) | ((with_reducible apply And.intro); focus omega) | (refine z8 hK ?_; clear hK; simp only [go_sem, *]) | simp only [z6, z7, go_sem, *])
     all_goals try contradiction
     exact w6 (i' := i + 1) [some 0, some 1, some 3] [] (acc ++ (L.getD i default).now h) (by rw [← hP]; simp)
    ·have hi3 : ¬ (i : Int) < L.length := by omega
     rw [u7 (by omega), List.flatMap_nil, List.append_nil] at hP
     subst hP
     clear sA hsm
     repeat' (first | (refine Qr rfl ?_; try intro _ hK; try simp only [go_sem, *]) | refine Qh rfl ?_ | refine Qd rfl (by kernel_rfl) ?_ | (refine Qc rfl rfl ?_ ?_ <;> (intro hb; have hc := hb; try simp only [go_sem] at hc)) | refine q6 rfl ?_ | (refine Qb ?_ ?_; focus kernel_rfl) | (refine o7 (ss) ?_ rfl ?_ ?_ ?_ ?_; (iterate 2 (focus (simp only [go_sem, *]; done))); (iterate 2 (focus (first | (simp; done) | (simp [go_sem]; done)))); simp only [go_sem, v6, *]) | ((with_reducible apply And.intro); focus omega) | (refine z8 hK ?_; clear hK; simp only [go_sem, *]) | simp only [z6, z7, go_sem, *])
     all_goals try contradiction
     (refine ⟨[_, _], [], [], ⟨rfl, rfl, trivial⟩, ?_⟩; simp only [go_sem, *])
  ·rw [if_neg hh]
   rw [decide_eq_false hh] at s2
   clear e hb hh
   refine q8 func66 rfl (fun E hE => ?_); simp only [go_sem, ntmps66]
   repeat' (first | (refine Qr rfl ?_; try intro _ hK; try simp only [go_sem, *]) | refine Qh rfl ?_ | refine Qd rfl (by kernel_rfl) ?_ | (refine Qc rfl rfl ?_ ?_ <;> (intro hb; have hc := hb; try simp only [go_sem] at hc)) | refine q6 rfl ?_ | (refine Qb ?_ ?_; focus kernel_rfl) | ((first | refine y4 (s1) ?_ | refine y4 (s2) ?_); simp only [go_sem, *]) | ((with_reducible apply And.intro); focus omega) | (refine z8 hK ?_; clear hK; simp only [go_sem, *]) | simp only [z6, z7, go_sem, *])
   all_goals try contradiction
   (refine ⟨[_, _], [], [], ⟨rfl, rfl, trivial⟩, ?_⟩; simp only [go_sem, *])
 ·rw [if_neg e, if_neg e]
  have e2 : (r9 s != 0) = true := by simpa using e
  clear e s2
  generalize r9 s = k at *
  refine q8 func66 rfl (fun E hE => ?_); simp only [go_sem, ntmps66]
  repeat' (first | (refine Qr rfl ?_; try intro _ hK; try simp only [go_sem, *]) | refine Qh rfl ?_ | refine Qd rfl (by kernel_rfl) ?_ | (refine Qc rfl rfl ?_ ?_ <;> (intro hb; have hc := hb; try simp only [go_sem] at hc)) | refine q6 rfl ?_ | (refine Qb ?_ ?_; focus kernel_rfl) | (refine y4 (s1) ?_; simp only [go_sem, *]) | ((with_reducible apply And.intro); focus omega) | (refine z8 hK ?_; clear hK; simp only [go_sem, *]) | simp only [z6, z7, go_sem, *])
  all_goals try contradiction
  (refine ⟨[_, _], [], [], ⟨rfl, rfl, trivial⟩, ?_⟩; simp only [go_sem, *])
theorem zQv (s : Story) (h to : House) (hb : Bound 1048576 s) :
  zLp prog 68 [s.enc, h.enc, to.enc] [] (.tup [iV (zNl s h to), iV (M6 s h)]) [] := by
 have s1 := zNX s (by have := hb.steps; omega) (fun w hw => by have := hb.ways w hw; omega) (by have := hb.facts; omega) (by have := hb.first.len; omega) (r9 s) rfl
 have s2 := zOI s.first h hb.first.len hb.first.rows
 unfold zNl M6
 by_cases e : r9 s = 0
 ·have o := C2 e
  have s3 := zNW s o
  have hl := H0 o.steps (fun w hw => (o.ways w hw).2.1)
  have h3 := o.steps
  have ht := zDU o.first
  rw [if_pos e]
  rw [e] at s1
  by_cases hh : h ∈ q9 s.first
  ·rw [if_pos hh]
   rw [decide_eq_true hh] at s2
   by_cases hne : r5 s = []
   ·rw [if_pos hne]
    rw [hne] at s3
    clear e hb hh
    refine q8 func68 rfl (fun E hE => ?_); simp only [go_sem, ntmps68]
    repeat' (first | (refine Qr rfl ?_; try intro _ hK; try simp only [go_sem, *]) | refine Qh rfl ?_ | refine Qd rfl (by kernel_rfl) ?_ | (refine Qc rfl rfl ?_ ?_ <;> (intro hb; have hc := hb; try simp only [go_sem] at hc)) | refine q6 rfl ?_ | (refine Qb ?_ ?_; focus kernel_rfl) | ((first | refine y4 (s1) ?_ | refine y4 (s2) ?_ | refine y4 (s3) ?_); simp only [go_sem, *]) | ((with_reducible apply And.intro); focus omega) | (refine z8 hK ?_; clear hK; simp only [go_sem, *]) | simp only [z6, z7, go_sem, *])
    all_goals try contradiction
    (refine ⟨[_, _], [], [], ⟨rfl, rfl, trivial⟩, ?_⟩; simp only [go_sem, *])
   ·rw [if_neg hne, if_pos rfl]
    have sA := fun (t : Truth) => zOF s t h o.first hh
    have sC := fun (t : Truth) (hm : t ∈ r5 s) => zNy (t.now h) to (by have := (ht t hm).small h3 hh; omega)
    have h0 : 0 + ((r5 s).drop 0).countP (fun t => decide (to ∈ t.now h)) = zNH s h to := by rw [Nat.zero_add]; rfl
    have hvl : zNH s h to ≤ (r5 s).length := List.countP_le_length
    have hlp := List.length_pos_iff.2 hne
    have hl0 : (((r5 s).length : Int) == 0) = false := by
     rw [beq_eq_false_iff_ne]; omega
    generalize zNH s h to = V at *
    generalize r5 s = L at *
    clear e hb hh hne ht
    refine q8 func68 rfl (fun E hE => ?_); simp only [go_sem, ntmps68]
    repeat' (first | (refine Qr rfl ?_; try intro _ hK; try simp only [go_sem, *]) | refine Qh rfl ?_ | refine Qd rfl (by kernel_rfl) ?_ | (refine Qc rfl rfl ?_ ?_ <;> (intro hb; have hc := hb; try simp only [go_sem] at hc)) | refine q6 rfl ?_ | (refine Qb ?_ ?_; focus kernel_rfl) | ((first | refine y4 (s1) ?_ | refine y4 (s2) ?_ | refine y4 (s3) ?_); simp only [go_sem, *]) | ((with_reducible apply And.intro); focus omega) | (refine z8 hK ?_; clear hK; simp only [go_sem, *]) | simp only [z6, z7, go_sem, *])
    all_goals try contradiction
    clear s1 s2 s3 hl0
    refine u4 rfl (L.length) (fun i (n : Nat) => n + (L.drop i).countP (fun t => decide (to ∈ t.now h)) = V) 51 (fun i n => [(11, iV i), (10, iV n), (9, .list (L.map (Truth.encR s.first))), (5, .ptr 2 0), (4, .ptr 1 0), (3, .ptr 0 0)]) (fun i n => [zNG s, .box [iV h.street, iV h.plate.number, iV h.plate.letter], .box [iV to.street, iV to.plate.number, iV to.plate.letter]]) [some 0, some 1, some 2] [] (0) (by exact h0) ?_; intro i n hi hP
    clear h0
    by_cases hi : i < L.length
    ·have hi3 : (i : Int) < L.length := by omega
     rw [zEE hi] at hP
     have sC1 := sC _ (w8 hi)
     have sA1 := sA (L.getD i default)
     clear sC sA
     cases hd : decide (to ∈ (L.getD i default).now h) with
     | true =>
      rw [hd] at sC1 hP
      clear hd
      repeat' (first | (refine Qr rfl ?_; try intro _ hK; try simp only [go_sem, *]) | refine Qh rfl ?_ | refine Qd rfl (by kernel_rfl) ?_ | (refine Qc rfl rfl ?_ ?_ <;> (intro hb; have hc := hb; try simp only [go_sem] at hc)) | refine q6 rfl ?_ | (refine Qb ?_ ?_; focus kernel_rfl) | ((first | refine y4 (sA1) ?_ | refine y4 (sC1) ?_); simp only [go_sem, *]) | ((with_reducible apply And.intro); focus omega) | (refine z8 hK ?_; clear hK; simp only [go_sem, *]) | simp only [z6, z7, go_sem, *])
      all_goals try contradiction
      exact w6 (i' := i + 1) [some 0, some 1, some 2] [] (n + 1) (by rw [← hP]; simp; omega)
     | false =>
      rw [hd] at sC1 hP
      clear hd
      repeat' (first | (refine Qr rfl ?_; try intro _ hK; try simp only [go_sem, *]) | refine Qh rfl ?_ | refine Qd rfl (by kernel_rfl) ?_ | (refine Qc rfl rfl ?_ ?_ <;> (intro hb; have hc := hb; try simp only [go_sem] at hc)) | refine q6 rfl ?_ | (refine Qb ?_ ?_; focus kernel_rfl) | ((first | refine y4 (sA1) ?_ | refine y4 (sC1) ?_); simp only [go_sem, *]) | ((with_reducible apply And.intro); focus omega) | (refine z8 hK ?_; clear hK; simp only [go_sem, *]) | simp only [z6, z7, go_sem, *])
      all_goals try contradiction
      exact w6 (i' := i + 1) [some 0, some 1, some 2] [] (n) (by rw [← hP]; simp)
    ·have hi3 : ¬ (i : Int) < L.length := by omega
     rw [u7 (by omega)] at hP
     have hn : n = V := by simpa using hP
     subst hn
     clear sC sA hP
     unfold zNk
     by_cases c : n = 0
     ·have c1 : ((n : Int) == 0) = true := by simpa using c
      have d1 : ((n : Int) == (L.length : Int)) = false := by rw [beq_eq_false_iff_ne]; omega
      rw [if_pos c]
      clear c
      repeat' (first | (refine Qr rfl ?_; try intro _ hK; try simp only [go_sem, *]) | refine Qh rfl ?_ | refine Qd rfl (by kernel_rfl) ?_ | (refine Qc rfl rfl ?_ ?_ <;> (intro hb; have hc := hb; try simp only [go_sem] at hc)) | refine q6 rfl ?_ | (refine Qb ?_ ?_; focus kernel_rfl) | ((with_reducible apply And.intro); focus omega) | (refine z8 hK ?_; clear hK; simp only [go_sem, *]) | simp only [z6, z7, go_sem, *])
      all_goals try contradiction
      (refine ⟨[_, _], [], [], ⟨rfl, rfl, trivial⟩, ?_⟩; simp only [go_sem, *])
     ·have c1 : ((n : Int) == 0) = false := by rw [beq_eq_false_iff_ne]; omega
      rw [if_neg c]
      by_cases d : n = L.length
      ·have d1 : ((n : Int) == (L.length : Int)) = true := by rw [beq_iff_eq]; omega
       rw [if_pos d]
       clear c d
       repeat' (first | (refine Qr rfl ?_; try intro _ hK; try simp only [go_sem, *]) | refine Qh rfl ?_ | refine Qd rfl (by kernel_rfl) ?_ | (refine Qc rfl rfl ?_ ?_ <;> (intro hb; have hc := hb; try simp only [go_sem] at hc)) | refine q6 rfl ?_ | (refine Qb ?_ ?_; focus kernel_rfl) | ((with_reducible apply And.intro); focus omega) | (refine z8 hK ?_; clear hK; simp only [go_sem, *]) | simp only [z6, z7, go_sem, *])
       all_goals try contradiction
       (refine ⟨[_, _], [], [], ⟨rfl, rfl, trivial⟩, ?_⟩; simp only [go_sem, *])
      ·have d1 : ((n : Int) == (L.length : Int)) = false := by rw [beq_eq_false_iff_ne]; omega
       rw [if_neg d]
       clear c d
       repeat' (first | (refine Qr rfl ?_; try intro _ hK; try simp only [go_sem, *]) | refine Qh rfl ?_ | refine Qd rfl (by kernel_rfl) ?_ | (refine Qc rfl rfl ?_ ?_ <;> (intro hb; have hc := hb; try simp only [go_sem] at hc)) | refine q6 rfl ?_ | (refine Qb ?_ ?_; focus kernel_rfl) | ((with_reducible apply And.intro); focus omega) | (refine z8 hK ?_; clear hK; simp only [go_sem, *]) | simp only [z6, z7, go_sem, *])
       all_goals try contradiction
       (refine ⟨[_, _], [], [], ⟨rfl, rfl, trivial⟩, ?_⟩; simp only [go_sem, *])
  ·rw [if_neg hh]
   rw [decide_eq_false hh] at s2
   clear e hb hh
   refine q8 func68 rfl (fun E hE => ?_); simp only [go_sem, ntmps68]
   repeat' (first | (refine Qr rfl ?_; try intro _ hK; try simp only [go_sem, *]) | refine Qh rfl ?_ | refine Qd rfl (by kernel_rfl) ?_ | (refine Qc rfl rfl ?_ ?_ <;> (intro hb; have hc := hb; try simp only [go_sem] at hc)) | refine q6 rfl ?_ | (refine Qb ?_ ?_; focus kernel_rfl) | ((first | refine y4 (s1) ?_ | refine y4 (s2) ?_); simp only [go_sem, *]) | ((with_reducible apply And.intro); focus omega) | (refine z8 hK ?_; clear hK; simp only [go_sem, *]) | simp only [z6, z7, go_sem, *])
   all_goals try contradiction
   (refine ⟨[_, _], [], [], ⟨rfl, rfl, trivial⟩, ?_⟩; simp only [go_sem, *])
 ·rw [if_neg e, if_neg e]
  have e2 : (r9 s != 0) = true := by simpa using e
  clear e s2
  generalize r9 s = k at *
  refine q8 func68 rfl (fun E hE => ?_); simp only [go_sem, ntmps68]
  repeat' (first | (refine Qr rfl ?_; try intro _ hK; try simp only [go_sem, *]) | refine Qh rfl ?_ | refine Qd rfl (by kernel_rfl) ?_ | (refine Qc rfl rfl ?_ ?_ <;> (intro hb; have hc := hb; try simp only [go_sem] at hc)) | refine q6 rfl ?_ | (refine Qb ?_ ?_; focus kernel_rfl) | (refine y4 (s1) ?_; simp only [go_sem, *]) | ((with_reducible apply And.intro); focus omega) | (refine z8 hK ?_; clear hK; simp only [go_sem, *]) | simp only [z6, z7, go_sem, *])
  all_goals try contradiction
  (refine ⟨[_, _], [], [], ⟨rfl, rfl, trivial⟩, ?_⟩; simp only [go_sem, *])
theorem zQw (s : Story) (h : House) (hb : Bound 1048576 s) :
  zLp prog 67 [s.enc, h.enc] [] (.tup [.list ((zNO s h).map House.enc), iV (zNZ s h)]) [] := by
 have s1 := zNX s (by have := hb.steps; omega) (fun w hw => by have := hb.ways w hw; omega) (by have := hb.facts; omega) (by have := hb.first.len; omega) (r9 s) rfl
 unfold zNO zNZ
 by_cases e : r9 s = 0
 ·have o := C2 e
  have v := o.first
  have hct := v.count
  have s3 := zNW s o
  have sO := zLa s.first (by have := v.len; omega) (fun l hl => by have := (v.rows l hl).len; omega) (by omega)
  have hl := H0 o.steps (fun w hw => (o.ways w hw).2.1)
  have h3 := o.steps
  rw [if_pos e, if_pos e]
  rw [e] at s1
  by_cases hne : r5 s = []
  ·rw [if_pos hne, if_pos hne]
   rw [hne] at s3
   clear e hb
   refine q8 func67 rfl (fun E hE => ?_); simp only [go_sem, ntmps67]
   repeat' (first | (refine Qr rfl ?_; try intro _ hK; try simp only [go_sem, *]) | refine Qh rfl ?_ | refine Qd rfl (by kernel_rfl) ?_ | (refine Qc rfl rfl ?_ ?_ <;> (intro hb; have hc := hb; try simp only [go_sem] at hc)) | refine q6 rfl ?_ | (refine Qb ?_ ?_; focus kernel_rfl) | ((first | refine y4 (s1) ?_ | refine y4 (s3) ?_); simp only [go_sem, *]) | ((with_reducible apply And.intro); focus omega) | (refine z8 hK ?_; clear hK; simp only [go_sem, *]) | simp only [z6, z7, go_sem, *])
   all_goals try contradiction
   (refine ⟨[_, _], [], [], ⟨rfl, rfl, trivial⟩, ?_⟩; simp only [go_sem, *])
  rw [if_neg hne, if_neg hne]
  have sC := fun (t : Truth) (ht : t ∈ r5 s) x (hx : x ∈ q9 s.first) => zNy (t.now x) h (by have := ((zDU v) t ht).small h3 hx; omega)
  have hWl := zN0 h o
  have ss := zLb (zNE s h) (by omega)
  have h0 : ([] : List House) ++ ((r5 s).drop 0).flatMap (fun t => (q9 s.first).filter fun x => decide (h ∈ t.now x)) = zNE s h := rfl
  have hl0 : (((r5 s).length : Int) == 0) = false := by
   have := List.length_pos_iff.2 hne
   rw [beq_eq_false_iff_ne]; omega
  generalize zNE s h = W at *
  generalize r5 s = L at *
  generalize hHd : q9 s.first = H at *
  clear e hb hne
  refine q8 func67 rfl (fun E hE => ?_); simp only [go_sem, ntmps67]
  repeat' (first | (refine Qr rfl ?_; try intro _ hK; try simp only [go_sem, *]) | refine Qh rfl ?_ | refine Qd rfl (by kernel_rfl) ?_ | (refine Qc rfl rfl ?_ ?_ <;> (intro hb; have hc := hb; try simp only [go_sem] at hc)) | refine q6 rfl ?_ | (refine Qb ?_ ?_; focus kernel_rfl) | ((first | refine y4 (s1) ?_ | refine y4 (s3) ?_); simp only [go_sem, *]) | (refine s8 (sO) ?_; simp only [go_sem, *]) | ((with_reducible apply And.intro); focus omega) | (refine z8 hK ?_; clear hK; simp only [go_sem, *]) | simp only [z6, z7, go_sem, *])
  all_goals try contradiction
  clear s1 s3 sO hl0
  refine u4 rfl (L.length) (fun i (acc : List House) => acc ++ (L.drop i).flatMap (fun t => H.filter fun x => decide (h ∈ t.now x)) = W) 59 (fun i acc => [(10, iV i), (9, Q3 H), (8, .own 1 3 0 acc.length), (7, .list (L.map (Truth.encR s.first))), (3, .ptr 0 0)]) (fun i acc => [.box [iV h.street, iV h.plate.number, iV h.plate.letter], .row 3 (acc.map House.enc)]) [some 1, none] [2] ([]) (by exact h0) ?_; intro i acc hi hP
  clear h0
  by_cases hi : i < L.length
  ·have hi3 : (i : Int) < L.length := by omega
   have sC1 := sC _ (w8 hi)
   rw [u0 hi, List.flatMap_cons] at hP
   have h0 : acc ++ ((H.drop 0).filter (fun x => decide (h ∈ (L.getD i default).now x)) ++ (L.drop (i + 1)).flatMap (fun t => H.filter fun x => decide (h ∈ t.now x))) = W := hP
   clear sC hP
   generalize hT : (L.drop (i + 1)).flatMap (fun t => H.filter fun x => decide (h ∈ t.now x)) = T at *
   have hql := congrArg List.length h0
   simp only [List.length_append] at hql
   have hal : acc.length ≤ 648 := by omega
   clear hql
   repeat' (first | (refine Qr rfl ?_; try intro _ hK; try simp only [go_sem, *]) | refine Qh rfl ?_ | refine Qd rfl (by kernel_rfl) ?_ | (refine Qc rfl rfl ?_ ?_ <;> (intro hb; have hc := hb; try simp only [go_sem] at hc)) | refine q6 rfl ?_ | (refine Qb ?_ ?_; focus kernel_rfl) | ((with_reducible apply And.intro); focus omega) | (refine z8 hK ?_; clear hK; simp only [go_sem, *]) | simp only [z6, z7, go_sem, *])
   all_goals try contradiction
   refine u4 rfl (H.length) (fun k (ac : List House) => ac ++ ((H.drop k).filter (fun x => decide (h ∈ (L.getD i default).now x)) ++ T) = W) 59 (fun k ac => [(11, iV k), (10, iV i), (9, Q3 H), (8, .own 1 3 0 ac.length), (7, .list (L.map (Truth.encR s.first))), (3, .ptr 0 0)]) (fun k ac => [.box [iV h.street, iV h.plate.number, iV h.plate.letter], .row 3 (ac.map House.enc)]) [some 0, some 1] [] (acc) (by exact h0) ?_; intro k ac hk hQ
   clear h0 hal
   have hql := congrArg List.length hQ
   simp only [List.length_append] at hql
   have hal : ac.length ≤ 648 := by omega
   clear hql
   by_cases hk : k < H.length
   ·have hk3 : (k : Int) < H.length := by omega
    have sC2 := sC1 _ (w8 hk)
    rw [u0 hk] at hQ
    clear sC1
    cases hd : decide (h ∈ (L.getD i default).now (H.getD k default)) with
    | true =>
     rw [hd] at sC2
     rw [List.filter_cons_of_pos (by exact hd)] at hQ
     clear hd
     repeat' (first | (refine Qr rfl ?_; try intro _ hK; try simp only [go_sem, *]) | refine Qh rfl ?_ | refine Qd rfl (by kernel_rfl) ?_ | (refine Qc rfl rfl ?_ ?_ <;> (intro hb; have hc := hb; try simp only [go_sem] at hc)) | refine q6 rfl ?_ | (refine Qb ?_ ?_; focus kernel_rfl) | (refine y4 (sC2) ?_; simp only [go_sem, *]) | ((with_reducible apply And.intro); focus omega) | (refine z8 hK ?_; clear hK; simp only [go_sem, *]) | simp only [z6, z7, go_sem, *])
     all_goals try contradiction
     exact w6 (i' := k + 1) [some 0, some 3] [] (ac ++ [H.getD k default]) (by rw [← hQ]; simp)
    | false =>
     rw [hd] at sC2
     rw [List.filter_cons_of_neg (by rw [hd]; simp)] at hQ
     clear hd
     repeat' (first | (refine Qr rfl ?_; try intro _ hK; try simp only [go_sem, *]) | refine Qh rfl ?_ | refine Qd rfl (by kernel_rfl) ?_ | (refine Qc rfl rfl ?_ ?_ <;> (intro hb; have hc := hb; try simp only [go_sem] at hc)) | refine q6 rfl ?_ | (refine Qb ?_ ?_; focus kernel_rfl) | (refine y4 (sC2) ?_; simp only [go_sem, *]) | ((with_reducible apply And.intro); focus omega) | (refine z8 hK ?_; clear hK; simp only [go_sem, *]) | simp only [z6, z7, go_sem, *])
     all_goals try contradiction
     exact w6 (i' := k + 1) [some 0, some 1] [] (ac) (by exact hQ)
   ·have hk3 : ¬ (k : Int) < H.length := by omega
    rw [u7 (by omega), List.filter_nil, List.nil_append] at hQ
    clear sC1
    repeat' (first | (refine Qr rfl ?_; try intro _ hK; try simp only [go_sem, *]) | refine Qh rfl ?_ | refine Qd rfl (by kernel_rfl) ?_ | (refine Qc rfl rfl ?_ ?_ <;> (intro hb; have hc := hb; try simp only [go_sem] at hc)) | refine q6 rfl ?_ | (refine Qb ?_ ?_; focus kernel_rfl) | ((with_reducible apply And.intro); focus omega) | (refine z8 hK ?_; clear hK; simp only [go_sem, *]) | simp only [z6, z7, go_sem, *])
    all_goals try contradiction
    exact w6 (i' := i + 1) [some 0, some 1] [] (ac) (by rw [hT]; exact hQ)
  ·have hi3 : ¬ (i : Int) < L.length := by omega
   rw [u7 (by omega), List.flatMap_nil, List.append_nil] at hP
   subst hP
   clear sC
   by_cases hz : acc = []
   ·rw [if_pos hz]
    subst hz
    repeat' (first | (refine Qr rfl ?_; try intro _ hK; try simp only [go_sem, *]) | refine Qh rfl ?_ | refine Qd rfl (by kernel_rfl) ?_ | (refine Qc rfl rfl ?_ ?_ <;> (intro hb; have hc := hb; try simp only [go_sem] at hc)) | refine q6 rfl ?_ | (refine Qb ?_ ?_; focus kernel_rfl) | ((with_reducible apply And.intro); focus omega) | (refine z8 hK ?_; clear hK; simp only [go_sem, *]) | simp only [z6, z7, go_sem, *])
    all_goals try contradiction
    rw [zO4]
    (refine ⟨[_, _], [], [], ⟨rfl, rfl, trivial⟩, ?_⟩; simp only [go_sem, *])
   ·rw [if_neg hz]
    have hz1 : ((acc.length : Int) == 0) = false := by
     have := List.length_pos_iff.2 hz
     rw [beq_eq_false_iff_ne]; omega
    clear hz
    repeat' (first | (refine Qr rfl ?_; try intro _ hK; try simp only [go_sem, *]) | refine Qh rfl ?_ | refine Qd rfl (by kernel_rfl) ?_ | (refine Qc rfl rfl ?_ ?_ <;> (intro hb; have hc := hb; try simp only [go_sem] at hc)) | refine q6 rfl ?_ | (refine Qb ?_ ?_; focus kernel_rfl) | (refine o7 (ss) ?_ rfl ?_ ?_ ?_ ?_; (iterate 2 (focus (simp only [go_sem, *]; done))); (iterate 2 (focus (first | (simp; done) | (simp [go_sem]; done)))); simp only [go_sem, v6, *]) | ((with_reducible apply And.intro); focus omega) | (refine z8 hK ?_; clear hK; simp only [go_sem, *]) | simp only [z6, z7, go_sem, *])
    all_goals try contradiction
    (refine ⟨[_, _], [], [], ⟨rfl, rfl, trivial⟩, ?_⟩; simp only [go_sem, *])
 ·rw [if_neg e, if_neg e]
  have e2 : (r9 s != 0) = true := by simpa using e
  clear e
  generalize r9 s = k at *
  refine q8 func67 rfl (fun E hE => ?_); simp only [go_sem, ntmps67]
  repeat' (first | (refine Qr rfl ?_; try intro _ hK; try simp only [go_sem, *]) | refine Qh rfl ?_ | refine Qd rfl (by kernel_rfl) ?_ | (refine Qc rfl rfl ?_ ?_ <;> (intro hb; have hc := hb; try simp only [go_sem] at hc)) | refine q6 rfl ?_ | (refine Qb ?_ ?_; focus kernel_rfl) | (refine y4 (s1) ?_; simp only [go_sem, *]) | ((with_reducible apply And.intro); focus omega) | (refine z8 hK ?_; clear hK; simp only [go_sem, *]) | simp only [z6, z7, go_sem, *])
  all_goals try contradiction
  (refine ⟨[_, _], [], [], ⟨rfl, rfl, trivial⟩, ?_⟩; simp only [go_sem, *])
end Go.Abs

namespace Go.Abs
open Go Go.Proofs Tryz
attribute [local irreducible] y6 Hold x8
theorem zRL (s : Story) (h : House) : (zNP s h).length ≤ 216 := by
 unfold zNP
 split
 ·rename_i e
  obtain ⟨hs, hh, _⟩ := zOQ e
  exact Nat.le_trans (zNh _) (zOP h (C2 hs) hh)
 ·exact Nat.zero_le _
theorem zRK (s : Story) (h : House) : (zNO s h).length ≤ 648 := by
 unfold zNO
 split
 ·rename_i e
  split
  ·exact Nat.zero_le _
  ·exact Nat.le_trans (zNh _) (zN0 h (C2 e))
 ·exact Nat.zero_le _
theorem zRN {p : zLo} (h : zNR p = false) : p.length ≤ 20 ∧ ∀ l, l ∈ p → l.length ≤ 20 := by
 unfold zNR zNa at h
 rw [Bool.or_eq_false_iff, List.any_eq_false] at h
 refine ⟨by simpa using h.1, fun l hl => ?_⟩
 have := h.2 l hl
 simpa using this
structure Asked1 (s : Story) : Prop where
 bound : Bound 1048576 s
 len : s.first.length ≤ 20
 rows : ∀ l, l ∈ s.first → l.length ≤ 20
theorem zPZ {s : Story} (o : Told s) : Asked1 s := ⟨zOM o, by have := o.first.len; omega, fun l hl => by have := (o.first.rows l hl).len; omega⟩
theorem zRi (s : Story) (a b : House) (nums : List Int) (hb : Bound 1048576 s) (_ : a.Wf) (_ : b.Wf) (h : nums.length ≤ 1048576) : zLp prog 15 [s.enc, a.enc, b.enc, j4 nums] [] (bV true) [] := by
 have sw := zLc
 have s0 := zPI s (by have := hb.first.len; omega) (zNM s) rfl
 by_cases hwd : zNM s = true
 ·rw [hwd] at s0
  clear hwd
  refine q8 func15 rfl (fun E hE => ?_); simp only [go_sem, ntmps15]
  repeat' (first | (refine Qr rfl ?_; try intro _ hK; try simp only [go_sem, *]) | (refine Qi rfl rfl rfl rfl ?_ ?_ <;> (intro hb; (try intro _ hK); have hc := hb; try simp only [go_sem] at hc; simp only [go_sem, *])) | refine Qh rfl ?_ | refine Qd rfl (by kernel_rfl) ?_ | (refine Qc rfl rfl ?_ ?_ <;> (intro hb; have hc := hb; try simp only [go_sem] at hc)) | refine q6 rfl ?_ | (refine Qb ?_ ?_; focus kernel_rfl) | ((first | refine y4 (s0) ?_ | refine y4 (sw) ?_); simp only [go_sem, *]) | ((with_reducible apply And.intro); focus omega) | (refine z8 hK ?_; clear hK; simp only [go_sem, *]) | simp only [z6, z7, go_sem, *])
  all_goals try contradiction
  (refine ⟨[_], [], [], ⟨rfl, trivial⟩, ?_⟩; simp only [go_sem, *])
 have hwd : zNM s = false := by simpa using hwd
 rw [hwd] at s0
 have hwb : zNR s.first = false := by
  unfold zNM at hwd
  rw [Bool.or_eq_false_iff] at hwd
  exact hwd.1
 obtain ⟨q1, q2⟩ := zRN hwb
 clear hwd hwb
 have s1 := zLT nums
 have s2 := zLV (zCU nums) 5 3 2 1 (show nums.length ≤ 4294967296 by omega) (by omega) (by omega) (by omega) (by omega)
 have sm := zLf (d := zCU nums) (houses := 5) (steps := 3) (ways := 2) (facts := 1) (by omega) (by omega) (by omega) (by omega)
 generalize R0 (zCU nums) 5 3 2 1 = S at *
 obtain ⟨m, d1⟩ := S
 simp only at s2 sm
 obtain ⟨SS, hSS⟩ : ∃ SS : List Story, SS = [s, m] := ⟨_, rfl⟩
 have hSl : SS.length = 2 := by rw [hSS]; rfl
 have hSa : ∀ x, x ∈ SS → Asked1 x := fun x hx => by
  rw [hSS] at hx
  simp only [List.mem_cons, List.not_mem_nil, or_false] at hx
  rcases hx with rfl | rfl
  ·exact ⟨hb, q1, q2⟩
  ·exact zPZ sm.told
 clear hb h sm q1 q2
 refine q8 func15 rfl (fun E hE => ?_); simp only [go_sem, ntmps15]
 repeat' (first | (refine Qr rfl ?_; try intro _ hK; try simp only [go_sem, *]) | (refine Qi rfl rfl rfl rfl ?_ ?_ <;> (intro hb; (try intro _ hK); have hc := hb; try simp only [go_sem] at hc; simp only [go_sem, *])) | refine Qh rfl ?_ | refine Qd rfl (by kernel_rfl) ?_ | (refine Qc rfl rfl ?_ ?_ <;> (intro hb; have hc := hb; try simp only [go_sem] at hc)) | refine q6 rfl ?_ | (with_reducible (show (∀ _ : AV, _ → _) ∧ _); refine And.intro ?_ ?_; (focus (intro y hy; first | (obtain ⟨z, _, rfl⟩ := List.mem_map.1 (hy); simp [go_sem]; done) | (obtain ⟨z, _, rfl⟩ := List.mem_map.1 (List.mem_of_mem_take hy); simp [go_sem]; done) | (obtain ⟨z, _, rfl⟩ := List.mem_map.1 (List.mem_of_mem_drop hy); simp [go_sem]; done) | (obtain ⟨z, _, rfl⟩ := List.mem_map.1 (List.mem_of_mem_drop (List.mem_of_mem_take hy)); simp [go_sem]; done)))) | (refine Qb ?_ ?_; focus kernel_rfl) | (refine y4 (s0) ?_; simp only [go_sem, *]) | (refine s8 (s1) ?_; simp only [go_sem, *]) | (refine Y6 [3] (s2) ?_; simp only [go_sem, *]) | ((with_reducible apply And.intro); focus omega) | (refine z8 hK ?_; clear hK; simp only [go_sem, *]) | simp only [z6, z7, go_sem, *])
 all_goals try contradiction
 clear s0 s1 s2
 refine u3 rfl (2) (fun i => NoP i) 213 (fun i => [(12, iV i), (11, .list (SS.map Story.enc)), (6, .ptr 1 0), (5, .ptr 0 0)]) (fun i => [.box [iV a.street, iV a.plate.number, iV a.plate.letter], .box [iV b.street, iV b.plate.number, iV b.plate.letter]]) [some 1, some 2] [5] (by trivial) ?_; intro i hi hP
 clear hSS
 by_cases hi : i < 2
 ·have hi3 : (i : Int) < 2 := by omega
  obtain ⟨bx, q1, q2⟩ := hSa _ (w8 (l := SS) (i := i) (by omega))
  generalize hsd : SS.getD i default = x at *
  have b1 : x.steps.length ≤ 4294967296 := by have := bx.steps; omega
  have b2 : ∀ w, w ∈ x.steps → w.length ≤ 4294967296 := fun w hw => by have := bx.ways w hw; omega
  have b3 : x.facts.length ≤ 4294967296 := by have := bx.facts; omega
  have b4 : x.first.length ≤ 4294967296 := by omega
  have sU := zO6 x bx.first.len bx.first.rows bx.ways bx.steps bx.facts
  have n1 : (q9 x.first).length ≤ 400 := Nat.le_trans (zKH q2) (by omega)
  have sO := zHU x.first b4 (fun l hl => by have := q2 l hl; omega) (by omega)
  have sA := fun z => zOE x z b1 b2 b3 b4
  have sB := fun z => zQx x z bx
  have sC := fun z => zOD x z b1 b2 b3 b4
  have sD := fun z => zQw x z bx
  have sE := fun z y => zPC x z y b1 b2 b3 b4
  have sG := fun z y => zQv x z y bx
  have lA := zRL x
  have lC := zRK x
  have q3 := zO7 x b4 (fun l hl => by have := q2 l hl; omega) b2 b1 b3
  clear bx q1 q2 b1 b2 b3 b4 hSa
  generalize zNP x = WA at *
  generalize M6 x = WE at *
  generalize zNO x = NA at *
  generalize zNZ x = NE at *
  generalize zNl x = VA at *
  generalize q9 x.first = H at *
  repeat' (first | (refine Qr rfl ?_; try intro _ hK; try simp only [go_sem, *]) | (refine Qi rfl rfl rfl rfl ?_ ?_ <;> (intro hb; (try intro _ hK); have hc := hb; try simp only [go_sem] at hc; simp only [go_sem, *])) | refine Qh rfl ?_ | refine Qd rfl (by kernel_rfl) ?_ | (refine Qc rfl rfl ?_ ?_ <;> (intro hb; have hc := hb; try simp only [go_sem] at hc)) | refine q6 rfl ?_ | (with_reducible (show (∀ _ : AV, _ → _) ∧ _); refine And.intro ?_ ?_; (focus (intro y hy; first | (obtain ⟨z, _, rfl⟩ := List.mem_map.1 (hy); simp [go_sem]; done) | (obtain ⟨z, _, rfl⟩ := List.mem_map.1 (List.mem_of_mem_take hy); simp [go_sem]; done) | (obtain ⟨z, _, rfl⟩ := List.mem_map.1 (List.mem_of_mem_drop hy); simp [go_sem]; done) | (obtain ⟨z, _, rfl⟩ := List.mem_map.1 (List.mem_of_mem_drop (List.mem_of_mem_take hy)); simp [go_sem]; done)))) | (refine Qb ?_ ?_; focus kernel_rfl) | (refine y4 (sU) ?_; simp only [go_sem, *]) | (refine s8 (sO) ?_; simp only [go_sem, *]) | ((with_reducible apply And.intro); focus omega) | (refine z8 hK ?_; clear hK; simp only [go_sem, *]) | simp only [z6, z7, go_sem, *])
  all_goals try contradiction
  clear sU sO
  obtain ⟨L, hL⟩ : ∃ L, L = H ++ [a, b] := ⟨_, rfl⟩
  have hLl : L.length = H.length + 2 := by rw [hL]; simp
  have ht : ∀ u v : AV, List.take (H.length + 2) (List.map House.enc H ++ [u, v]) = List.map House.enc H ++ [u, v] := fun u v => List.take_of_length_le (by simp)
  refine u3 rfl (min L.length 10) (fun k => NoP k) 213 (fun k => [(15, iV k), (14, Q3 L), (13, .ptr 2 0), (12, iV i), (11, .list (SS.map Story.enc)), (6, .ptr 1 0), (5, .ptr 0 0)]) (fun k => [.box [iV a.street, iV a.plate.number, iV a.plate.letter], .box [iV b.street, iV b.plate.number, iV b.plate.letter], zNG x]) [some 0, some 1, some 2] [5] (by trivial) ?_; intro k hk hK2
  have hL2 : 2 ≤ L.length ∧ L.length ≤ 402 := by omega
  clear hL ht hLl
  by_cases hk : k < min L.length 10
  ·have hk3 : (k : Int) < L.length := by omega
   have hk4 : (k : Int) < 10 := by omega
   have hk5 : k < L.length := by omega
   have hw3 : IntKind.i64.wrap ((k : Int) * 3) = (k : Int) * 3 := wrap_i64 (by omega) (by omega)
   have hw4 : IntKind.i64.wrap ((k : Int) * 3 + 1) = (k : Int) * 3 + 1 := wrap_i64 (by omega) (by omega)
   have sM := zCw ((k : Int) * 3 + 1) L.length (by omega) (by omega)
   obtain ⟨j, hj⟩ : ∃ j : Nat, ((k : Int) * 3 + 1) % (L.length : Int) = j := ⟨(((k : Int) * 3 + 1) % (L.length : Int)).toNat, by have := Int.emod_nonneg ((k : Int) * 3 + 1) (b := (L.length : Int)) (by omega); omega⟩
   have hjl : j < L.length := by have := Int.emod_lt_of_pos ((k : Int) * 3 + 1) (b := (L.length : Int)) (by omega); omega
   rw [hj] at sM
   clear hj
   have A1 := sA (L.getD k default)
   have B1 := sB (L.getD k default)
   have C1 := sC (L.getD k default)
   have D1 := sD (L.getD k default)
   have E1 := sE (L.getD k default) (L.getD j default)
   have G1 := sG (L.getD k default) (L.getD j default)
   have Q1 := zHN (WA (L.getD k default)) (WA (L.getD k default)) (by have := lA (L.getD k default); omega)
   have Q2 := zHN (NA (L.getD k default)) (NA (L.getD k default)) (by have := lC (L.getD k default); omega)
   simp only [decide_true] at Q1 Q2
   have e1 : (WE (L.getD k default) != WE (L.getD k default)) = false := by simp
   have e2 : (NE (L.getD k default) != NE (L.getD k default)) = false := by simp
   have e3 : (VA (L.getD k default) (L.getD j default) != VA (L.getD k default) (L.getD j default)) = false := by simp
   clear sA sB sC sD sE sG lA lC
   generalize WA (L.getD k default) = wa at *
   generalize WE (L.getD k default) = we at *
   generalize NA (L.getD k default) = na at *
   generalize NE (L.getD k default) = ne at *
   generalize VA (L.getD k default) (L.getD j default) = va at *
   repeat' (first | (refine Qr rfl ?_; try intro _ hK; try simp only [go_sem, *]) | (refine Qi rfl rfl rfl rfl ?_ ?_ <;> (intro hb; (try intro _ hK); have hc := hb; try simp only [go_sem] at hc; simp only [go_sem, *])) | refine Qh rfl ?_ | refine Qd rfl (by kernel_rfl) ?_ | (refine Qc rfl rfl ?_ ?_ <;> (intro hb; have hc := hb; try simp only [go_sem] at hc)) | refine q6 rfl ?_ | (refine Qb ?_ ?_; focus kernel_rfl) | ((first | refine y4 (sM) ?_ | refine y4 (A1) ?_ | refine y4 (B1) ?_ | refine y4 (C1) ?_ | refine y4 (D1) ?_ | refine y4 (E1) ?_ | refine y4 (G1) ?_ | refine y4 (q3) ?_); simp only [go_sem, *]) | (refine zD5 (Q1) ?_ ?_; (focus (simp only [go_sem, *]; done)); simp only [go_sem, *]) | (refine zD5 (Q2) ?_ ?_; (focus (simp only [go_sem, *]; done)); simp only [go_sem, *]) | ((with_reducible apply And.intro); focus omega) | (refine z8 hK ?_; clear hK; simp only [go_sem, *]) | simp only [z6, z7, go_sem, *])
   all_goals try contradiction
   exact u2 (i' := k + 1) [some 0, some 1, some 2] [] (by trivial)
  ·have E1 := sE a b
   have G1 := sG a b
   have e3 : (VA a b != VA a b) = false := by simp
   have e4 : (WE a != WE a) = false := by simp
   clear sA sB sC sD sE sG lA lC
   generalize VA a b = va at *
   generalize WE a = we at *
   by_cases hk2 : k < L.length
   ·have hk3 : (k : Int) < L.length := by omega
    have hk4 : ¬ (k : Int) < 10 := by omega
    repeat' (first | (refine Qr rfl ?_; try intro _ hK; try simp only [go_sem, *]) | (refine Qi rfl rfl rfl rfl ?_ ?_ <;> (intro hb; (try intro _ hK); have hc := hb; try simp only [go_sem] at hc; simp only [go_sem, *])) | refine Qh rfl ?_ | refine Qd rfl (by kernel_rfl) ?_ | (refine Qc rfl rfl ?_ ?_ <;> (intro hb; have hc := hb; try simp only [go_sem] at hc)) | refine q6 rfl ?_ | (refine Qb ?_ ?_; focus kernel_rfl) | ((first | refine y4 (E1) ?_ | refine y4 (G1) ?_); simp only [go_sem, *]) | ((with_reducible apply And.intro); focus omega) | (refine z8 hK ?_; clear hK; simp only [go_sem, *]) | simp only [z6, z7, go_sem, *])
    all_goals try contradiction
    exact u2 (i' := i + 1) [some 0, some 1] [] (by trivial)
   ·have hk3 : ¬ (k : Int) < L.length := by omega
    repeat' (first | (refine Qr rfl ?_; try intro _ hK; try simp only [go_sem, *]) | (refine Qi rfl rfl rfl rfl ?_ ?_ <;> (intro hb; (try intro _ hK); have hc := hb; try simp only [go_sem] at hc; simp only [go_sem, *])) | refine Qh rfl ?_ | refine Qd rfl (by kernel_rfl) ?_ | (refine Qc rfl rfl ?_ ?_ <;> (intro hb; have hc := hb; try simp only [go_sem] at hc)) | refine q6 rfl ?_ | (refine Qb ?_ ?_; focus kernel_rfl) | ((first | refine y4 (E1) ?_ | refine y4 (G1) ?_); simp only [go_sem, *]) | ((with_reducible apply And.intro); focus omega) | (refine z8 hK ?_; clear hK; simp only [go_sem, *]) | simp only [z6, z7, go_sem, *])
    all_goals try contradiction
    exact u2 (i' := i + 1) [some 0, some 1] [] (by trivial)
 ·have hi3 : ¬ (i : Int) < 2 := by omega
  repeat' (first | (refine Qr rfl ?_; try intro _ hK; try simp only [go_sem, *]) | (refine Qi rfl rfl rfl rfl ?_ ?_ <;> (intro hb; (try intro _ hK); have hc := hb; try simp only [go_sem] at hc; simp only [go_sem, *])) | refine Qh rfl ?_ | refine Qd rfl (by kernel_rfl) ?_ | (refine Qc rfl rfl ?_ ?_ <;> (intro hb; have hc := hb; try simp only [go_sem] at hc)) | refine q6 rfl ?_ | (refine Qb ?_ ?_; focus kernel_rfl) | (refine y4 (sw) ?_; simp only [go_sem, *]) | ((with_reducible apply And.intro); focus omega) | (refine z8 hK ?_; clear hK; simp only [go_sem, *]) | simp only [z6, z7, go_sem, *])
  all_goals try contradiction
  (refine ⟨[_], [], [], ⟨rfl, trivial⟩, ?_⟩; simp only [go_sem, *])
end Go.Abs

