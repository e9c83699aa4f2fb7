/-
  WHAT THE PROOF STANDS ON, PART 12: contracts of the program's functions. No condition.
-/
import Derived.Test.YtcbpjojhfgadlaaGreatDoorQZJZL7
set_option maxRecDepth 100000
set_option maxHeartbeats 16000000
set_option linter.unusedVariables false
set_option linter.unusedSimpArgs false
set_option linter.unusedSectionVars false
namespace Go.Abs
open Go Go.Proofs Go.RowKit
attribute [local irreducible] q8 Hold y4
set_option maxRecDepth 10000
set_option maxHeartbeats 4000000

theorem sp_rWrite_err (p : zNU) (hl : p.length ≤ 4294967296) (h : ¬ check p = 0) : zNV Tryz.prog 11 [y3 p] [] (.tup [sV [], iV (check p)]) [] := by
 have sc := sp_rCheck p hl
 generalize check p = e at *
 refine z9 Tryz.func11 rfl (fun E hE => ?_); simp only [go_sem, Tryz.ntmps11]
 repeat' (first | (refine Qr rfl ?_; try intro _ hK; try simp only [go_sem, *]) | refine Qh rfl ?_ | refine Qd rfl (by kernel_rfl) ?_ | (refine Qc rfl rfl ?_ ?_ <;> (intro hb; have hc := hb; try simp only [go_sem] at hc)) | refine z6 rfl ?_ | (refine Qb ?_ ?_; focus kernel_rfl) | (refine z8 (sc) ?_; simp only [go_sem, *]) | ((with_reducible apply And.intro); focus omega) | (refine z5 hK ?_; clear hK; simp only [go_sem, *]) | simp only [z3, z4, go_sem, *])
 all_goals first | contradiction | omega | skip
 (refine ⟨[_, _], [], [], ⟨rfl, rfl, trivial⟩, ?_⟩; simp only [go_sem, *])
theorem sp_rWrite_ok (p : zNU) (v : Valid p) : zNV Tryz.prog 11 [y3 p] [] (.tup [sV (n0 p), iV 0]) [] := by
 have sc := sp_rCheck p (by have := v.len; omega)
 rw [(Q1 p).2 v] at sc
 have hB := zAa v
 have h3 := v.len
 have hrow : ∀ l, l ∈ p → l.length ≤ 8 := fun l hl => (v.rows l hl).len
 have hpl : ∀ l, l ∈ p → ∀ x, x ∈ l → 1 ≤ x.number ∧ x.number ≤ 40 ∧ 0 ≤ x.letter ∧ x.letter ≤ 4 := fun l hl x hx => zCe ((v.rows l hl).ok x hx)
 have h0 : [] ++ V3 p 0 = n0 p := rfl
 generalize n0 p = T at *
 clear v
 refine z9 Tryz.func11 rfl (fun E hE => ?_); simp only [go_sem, Tryz.ntmps11]
 repeat' (first | (refine Qr rfl ?_; try intro _ hK; try simp only [go_sem, *]) | refine Qh rfl ?_ | refine Qd rfl (by kernel_rfl) ?_ | (refine Qc rfl rfl ?_ ?_ <;> (intro hb; have hc := hb; try simp only [go_sem] at hc)) | refine z6 rfl ?_ | (refine Qb ?_ ?_; focus kernel_rfl) | (refine z8 (sc) ?_; simp only [go_sem, *]) | ((with_reducible apply And.intro); focus omega) | (refine z5 hK ?_; clear hK; simp only [go_sem, *]) | simp only [z3, z4, go_sem, *])
 all_goals try contradiction
 refine v9 rfl (p.length) (fun i (acc : Str) => acc ++ V3 p i = T) 69 (fun i acc => [(6, iV i), (5, sV acc), (1, .ptr 0 0)]) (fun i acc => [zNi p]) [some 0] [] ([]) (by exact h0) ?_; intro i acc hi hP
 clear h0 sc
 have hwi : IntKind.i64.wrap ((i : Int) + 1) = ((i + 1 : Nat) : Int) := y8 (by omega)
 by_cases hi2 : i < p.length
 ·rw [zH3 hi2] at hP
  have hl8 := hrow _ (w5 hi2)
  have hlp := hpl _ (w5 hi2)
  clear hrow hpl
  have hii : (i : Int) < (p.length : Int) := by omega
  generalize hl : p.getD i default = l at *
  generalize hR : V3 p (i + 1) = R at *
  have hal : acc.length ≤ 103 := by rw [← hP] at hB; simp at hB; omega
  repeat' (first | (refine Qr rfl ?_; try intro _ hK; try simp only [go_sem, *]) | refine Qh rfl ?_ | refine Qd rfl (by kernel_rfl) ?_ | (refine Qc rfl rfl ?_ ?_ <;> (intro hb; have hc := hb; try simp only [go_sem] at hc)) | refine z6 rfl ?_ | (refine Qb ?_ ?_; focus kernel_rfl) | ((with_reducible apply And.intro); focus omega) | (refine z5 hK ?_; clear hK; simp only [go_sem, *]) | simp only [z3, z4, go_sem, *])
  all_goals try contradiction
  have hP : (acc ++ [91]) ++ (Z6 l 0 ++ ([93] ++ R)) = T := by rw [← hP]; simp
  refine v9 rfl (l.length) (fun k (a2 : Str) => a2 ++ (Z6 l k ++ ([93] ++ R)) = T) 69 (fun k a2 => [(7, iV k), (6, iV i), (5, sV a2), (1, .ptr 0 0)]) (fun k a2 => [zNi p]) [some 0] [] (acc ++ [91]) (by exact hP) ?_; intro k a2 hk hP2
  have hwk : IntKind.i64.wrap ((k : Int) + 1) = ((k + 1 : Nat) : Int) := y8 (by omega)
  clear hP
  by_cases hk2 : k < l.length
  ·have hkk : (k : Int) < (l.length : Int) := by omega
   rw [zH5 hk2] at hP2
   obtain ⟨g1, g2, g3, g4⟩ := hlp _ (w5 hk2)
   generalize hS : Z6 l (k + 1) = S at *
   generalize hx : l.getD k default = x at *
   obtain ⟨⟨n, hn⟩, ⟨m, hm⟩⟩ : (∃ n : Nat, x.number = n) ∧ (∃ m : Nat, x.letter = m) := ⟨⟨x.number.toNat, by omega⟩, ⟨x.letter.toNat, by omega⟩⟩
   obtain ⟨xn, xl⟩ := x
   dsimp only at hn hm g1 g2 g3 g4 hP2
   subst hn
   subst hm
   have s2 := zIm n (by omega)
   generalize zNl n = N at *
   have hlen : a2.length ≤ 103 ∧ N.length ≤ 103 := by rw [← hP2] at hB; simp at hB; omega
   have q : ∃ J : Str, J = (if k = 0 then [] else [32]) ∧ J.length ≤ 1 := ⟨_, rfl, by split <;> simp⟩
   obtain ⟨J, hJ, hJl⟩ := q
   rw [← hJ] at hP2
   have hm5 : m = 0 ∨ m = 1 ∨ m = 2 ∨ m = 3 ∨ m = 4 := by omega
   have w1 : IntKind.i64.wrap 1 = 1 := rfl
   have w2 : IntKind.i64.wrap 2 = 2 := rfl
   have w3 : IntKind.i64.wrap 3 = 3 := rfl
   have w4 : IntKind.i64.wrap 4 = 4 := rfl
   have lw5l : IntKind.i64.wrap 5 = 5 := rfl
   rcases hm5 with rfl | hm5
   ·by_cases hk0 : k = 0
    ·have hk0i : ¬ (k : Int) > 0 := by omega
     have hw : IntKind.i64.wrap (((a2.length + N.length + 1 : Nat) : Int) - 1) = ((a2.length + N.length : Nat) : Int) := by rw [wrap_i64 (by omega) (by omega)]; omega
     have ht : List.take (a2.length + N.length) (a2 ++ N ++ [32]) = a2 ++ N := by
      have e : a2.length + N.length = (a2 ++ N).length := by simp
      rw [e]; exact List.take_left
     rw [if_pos hk0] at hJ
     subst hJ
     clear hk0
     repeat' (first | (refine Qr rfl ?_; try intro _ hK; try simp only [go_sem, *]) | refine Qh rfl ?_ | refine Qd rfl (by kernel_rfl) ?_ | (refine Qc rfl rfl ?_ ?_ <;> (intro hb; have hc := hb; try simp only [go_sem] at hc)) | refine z6 rfl ?_ | (refine Qb ?_ ?_; focus kernel_rfl) | (refine z8 (s2) ?_; simp only [go_sem, *]) | ((with_reducible apply And.intro); focus omega) | (refine z5 hK ?_; clear hK; simp only [go_sem, *]) | simp only [z3, z4, go_sem, *])
     all_goals first | contradiction | omega | skip
     exact x9 (i' := k + 1) [some 0] [] (a2 ++ N) (by exact by rw [hS, ← hP2]; simp [i6])
    ·have hk0i : (k : Int) > 0 := by omega
     have hw : IntKind.i64.wrap (((a2.length + 1 + N.length + 1 : Nat) : Int) - 1) = ((a2.length + 1 + N.length : Nat) : Int) := by rw [wrap_i64 (by omega) (by omega)]; omega
     have ht : List.take (a2.length + 1 + N.length) (a2 ++ [32] ++ N ++ [32]) = a2 ++ [32] ++ N := by
      have e : a2.length + 1 + N.length = (a2 ++ [32] ++ N).length := by simp; omega
      rw [e]; exact List.take_left
     rw [if_neg hk0] at hJ
     subst hJ
     clear hk0
     repeat' (first | (refine Qr rfl ?_; try intro _ hK; try simp only [go_sem, *]) | refine Qh rfl ?_ | refine Qd rfl (by kernel_rfl) ?_ | (refine Qc rfl rfl ?_ ?_ <;> (intro hb; have hc := hb; try simp only [go_sem] at hc)) | refine z6 rfl ?_ | (refine Qb ?_ ?_; focus kernel_rfl) | (refine z8 (s2) ?_; simp only [go_sem, *]) | ((with_reducible apply And.intro); focus omega) | (refine z5 hK ?_; clear hK; simp only [go_sem, *]) | simp only [z3, z4, go_sem, *])
     all_goals first | contradiction | omega | skip
     exact x9 (i' := k + 1) [some 0] [] (a2 ++ [32] ++ N) (by exact by (rw [hS, ← hP2]; simp [i6]) <;> omega)
   ·by_cases hk0 : k = 0
    ·have hk0i : ¬ (k : Int) > 0 := by omega
     rw [if_pos hk0] at hJ
     subst hJ
     clear hk0
     rcases hm5 with rfl | rfl | rfl | rfl
     all_goals (repeat' (first | (refine Qr rfl ?_; try intro _ hK; try simp only [go_sem, *]) | refine Qh rfl ?_ | refine Qd rfl (by kernel_rfl) ?_ | (refine Qc rfl rfl ?_ ?_ <;> (intro hb; have hc := hb; try simp only [go_sem] at hc)) | refine z6 rfl ?_ | (refine Qb ?_ ?_; focus kernel_rfl) | (refine z8 (s2) ?_; simp only [go_sem, *]) | ((with_reducible apply And.intro); focus omega) | (refine z5 hK ?_; clear hK; simp only [go_sem, *]) | simp only [z3, z4, go_sem, *]))
     all_goals first | contradiction | omega | skip
     ·exact x9 (i' := k + 1) [some 0] [] (a2 ++ N ++ [97]) (by exact by rw [hS, ← hP2]; simp [i6])
     ·exact x9 (i' := k + 1) [some 0] [] (a2 ++ N ++ [98]) (by exact by rw [hS, ← hP2]; simp [i6])
     ·exact x9 (i' := k + 1) [some 0] [] (a2 ++ N ++ [99]) (by exact by rw [hS, ← hP2]; simp [i6])
     ·exact x9 (i' := k + 1) [some 0] [] (a2 ++ N ++ [100]) (by exact by rw [hS, ← hP2]; simp [i6])
    ·have hk0i : (k : Int) > 0 := by omega
     rw [if_neg hk0] at hJ
     subst hJ
     clear hk0
     rcases hm5 with rfl | rfl | rfl | rfl
     all_goals (repeat' (first | (refine Qr rfl ?_; try intro _ hK; try simp only [go_sem, *]) | refine Qh rfl ?_ | refine Qd rfl (by kernel_rfl) ?_ | (refine Qc rfl rfl ?_ ?_ <;> (intro hb; have hc := hb; try simp only [go_sem] at hc)) | refine z6 rfl ?_ | (refine Qb ?_ ?_; focus kernel_rfl) | (refine z8 (s2) ?_; simp only [go_sem, *]) | ((with_reducible apply And.intro); focus omega) | (refine z5 hK ?_; clear hK; simp only [go_sem, *]) | simp only [z3, z4, go_sem, *]))
     all_goals first | contradiction | omega | skip
     ·exact x9 (i' := k + 1) [some 0] [] (a2 ++ [32] ++ N ++ [97]) (by exact by rw [hS, ← hP2]; simp [i6])
     ·exact x9 (i' := k + 1) [some 0] [] (a2 ++ [32] ++ N ++ [98]) (by exact by rw [hS, ← hP2]; simp [i6])
     ·exact x9 (i' := k + 1) [some 0] [] (a2 ++ [32] ++ N ++ [99]) (by exact by rw [hS, ← hP2]; simp [i6])
     ·exact x9 (i' := k + 1) [some 0] [] (a2 ++ [32] ++ N ++ [100]) (by exact by rw [hS, ← hP2]; simp [i6])
  ·have hkk : ¬ (k : Int) < (l.length : Int) := by omega
   rw [zH4 hk2, List.nil_append] at hP2
   have hlen : a2.length ≤ 103 := by rw [← hP2] at hB; simp at hB; omega
   repeat' (first | (refine Qr rfl ?_; try intro _ hK; try simp only [go_sem, *]) | refine Qh rfl ?_ | refine Qd rfl (by kernel_rfl) ?_ | (refine Qc rfl rfl ?_ ?_ <;> (intro hb; have hc := hb; try simp only [go_sem] at hc)) | refine z6 rfl ?_ | (refine Qb ?_ ?_; focus kernel_rfl) | ((with_reducible apply And.intro); focus omega) | (refine z5 hK ?_; clear hK; simp only [go_sem, *]) | simp only [z3, z4, go_sem, *])
   all_goals first | contradiction | omega | skip
   exact x9 (i' := i + 1) [some 0] [] (a2 ++ [93]) (by exact by rw [hR, ← hP2]; simp)
 ·have hii : ¬ (i : Int) < (p.length : Int) := by omega
  rw [zH2 hi2] at hP
  subst hP
  have hlen : acc.length ≤ 103 := by simp at hB; omega
  repeat' (first | (refine Qr rfl ?_; try intro _ hK; try simp only [go_sem, *]) | refine Qh rfl ?_ | refine Qd rfl (by kernel_rfl) ?_ | (refine Qc rfl rfl ?_ ?_ <;> (intro hb; have hc := hb; try simp only [go_sem] at hc)) | refine z6 rfl ?_ | (refine Qb ?_ ?_; focus kernel_rfl) | ((with_reducible apply And.intro); focus omega) | (refine z5 hK ?_; clear hK; simp only [go_sem, *]) | simp only [z3, z4, go_sem, *])
  all_goals first | contradiction | omega | skip
  (refine ⟨[_, _], [], [], ⟨rfl, rfl, trivial⟩, ?_⟩; simp only [go_sem, *])
end Go.Abs

