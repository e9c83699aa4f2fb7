/-
  WHAT THE PROOF STANDS ON, PART 14: contracts of the program's functions. No condition.
-/
import Derived.Test.YtcbpjojhfgadlaaGreatDoorQZJZL8
import Derived.Test.YtcbpjojhfgadlaaGreatDoorQZJZL9
import Derived.Test.YtcbpjojhfgadlaaGreatDoorQZJZL10
import Derived.Test.YtcbpjojhfgadlaaGreatDoorQZJZL11
import Derived.Test.YtcbpjojhfgadlaaGreatDoorQZJZL12
set_option maxRecDepth 100000
set_option maxHeartbeats 16000000
set_option linter.unusedVariables false
set_option linter.unusedSimpArgs false
set_option linter.unusedSectionVars false
namespace Go.Abs
open Go Go.Proofs Go.RowKit
attribute [local irreducible] q8 Hold y4
set_option maxRecDepth 10000
set_option maxHeartbeats 4000000

def smudge (s : Str) (at_ how : Int) (c : UInt8) : Str :=
 if s.length = 0 then [c] else if how % 3 = 0 then s.take (at_ % s.length).toNat ++ [c] ++ s.drop ((at_ % s.length).toNat + 1) else if how % 3 = 1 then s.take (at_ % s.length).toNat ++ s.drop ((at_ % s.length).toNat + 1)
 else s.take (at_ % s.length).toNat ++ [c] ++ s.drop (at_ % s.length).toNat
theorem smudge_len (s : Str) (at_ how : Int) (c : UInt8) : (smudge s at_ how c).length ≤ s.length + 2 := by
 unfold smudge
 repeat' split
 all_goals simp
 all_goals omega
theorem sp_Smudged (s : Str) (hs : s.length ≤ 4294967290) (at_ how n : Int) (hn : 0 ≤ n ∧ n < 256) : zNV Tryz.prog 12 [sV s, iV at_, iV how, .raw (.int .u8 n)] [] (sV (smudge s at_ how (UInt8.ofNat n.toNat))) [] := by
 obtain ⟨hn0, hn1⟩ := hn
 unfold smudge
 by_cases h0 : s.length = 0
 ·rw [if_pos h0]
  obtain rfl := List.length_eq_zero_iff.1 h0
  clear h0
  generalize hc : UInt8.ofNat n.toNat = c at *
  refine z9 Tryz.func12 rfl (fun E hE => ?_); simp only [go_sem, Tryz.ntmps12]
  repeat' (first | (refine Qr rfl ?_; try intro _ hK; try simp only [go_sem, *]) | refine Qh rfl ?_ | refine Qd rfl (by kernel_rfl) ?_ | (refine Qc rfl rfl ?_ ?_ <;> (intro hb; have hc := hb; try simp only [go_sem] at hc)) | refine z6 rfl ?_ | (refine Qb ?_ ?_; focus kernel_rfl) | ((with_reducible apply And.intro); focus omega) | (refine z5 hK ?_; clear hK; simp only [go_sem, *]) | simp only [z3, z4, go_sem, *])
  all_goals first | contradiction | omega | skip
  (refine ⟨[_], [], [], ⟨rfl, trivial⟩, ?_⟩; simp only [go_sem, *])
 rw [if_neg h0]
 have h0i : ¬ (s.length : Int) = 0 := by omega
 have s1 := sp_Mod at_ s.length (by omega) (by omega)
 have s2 := sp_Mod how 3 (by omega) (by omega)
 have z0 := Int.emod_nonneg at_ h0i
 have z1 := Int.emod_lt_of_pos at_ (show (0 : Int) < s.length by omega)
 generalize at_ % (s.length : Int) = z at *
 obtain ⟨i, rfl⟩ : ∃ i : Nat, z = i := ⟨z.toNat, by omega⟩
 have hil : i < s.length := by omega
 rw [Int.toNat_natCast]
 have hw : IntKind.i64.wrap ((i : Int) + 1) = ((i + 1 : Nat) : Int) := y8 (by omega)
 have hil' : (i : Int) ≤ (s.length : Int) := by omega
 have hil2 : i + 1 ≤ s.length := by omega
 have hil3 : i ≤ s.length := by omega
 have hts : List.take s.length s = s := List.take_length
 have hld : ∀ k, (List.drop k s).length = s.length - k := fun k => List.length_drop
 have hmi : min i s.length = i := by omega
 have hm : how % 3 = 0 ∨ how % 3 = 1 ∨ how % 3 = 2 := by omega
 generalize hc : UInt8.ofNat n.toNat = c at *
 generalize how % 3 = m at *
 rcases hm with rfl | rfl | rfl
 ·rw [if_pos rfl]
  refine z9 Tryz.func12 rfl (fun E hE => ?_); simp only [go_sem, Tryz.ntmps12]
  repeat' (first | (refine Qr rfl ?_; try intro _ hK; try simp only [go_sem, *]) | refine Qh rfl ?_ | refine Qd rfl (by kernel_rfl) ?_ | (refine Qc rfl rfl ?_ ?_ <;> (intro hb; have hc := hb; try simp only [go_sem] at hc)) | refine z6 rfl ?_ | (refine Qb ?_ ?_; focus kernel_rfl) | ((first | refine z8 (s1) ?_ | refine z8 (s2) ?_); simp only [go_sem, *]) | ((with_reducible apply And.intro); focus omega) | (refine z5 hK ?_; clear hK; simp only [go_sem, *]) | simp only [z3, z4, go_sem, *])
  all_goals first | contradiction | omega | skip
  (refine ⟨[_], [], [], ⟨rfl, trivial⟩, ?_⟩; simp only [go_sem, *])
 ·rw [if_neg (by decide), if_pos rfl]
  refine z9 Tryz.func12 rfl (fun E hE => ?_); simp only [go_sem, Tryz.ntmps12]
  repeat' (first | (refine Qr rfl ?_; try intro _ hK; try simp only [go_sem, *]) | refine Qh rfl ?_ | refine Qd rfl (by kernel_rfl) ?_ | (refine Qc rfl rfl ?_ ?_ <;> (intro hb; have hc := hb; try simp only [go_sem] at hc)) | refine z6 rfl ?_ | (refine Qb ?_ ?_; focus kernel_rfl) | ((first | refine z8 (s1) ?_ | refine z8 (s2) ?_); simp only [go_sem, *]) | ((with_reducible apply And.intro); focus omega) | (refine z5 hK ?_; clear hK; simp only [go_sem, *]) | simp only [z3, z4, go_sem, *])
  all_goals first | contradiction | omega | skip
  (refine ⟨[_], [], [], ⟨rfl, trivial⟩, ?_⟩; simp only [go_sem, *])
 ·rw [if_neg (by decide), if_neg (by decide)]
  refine z9 Tryz.func12 rfl (fun E hE => ?_); simp only [go_sem, Tryz.ntmps12]
  repeat' (first | (refine Qr rfl ?_; try intro _ hK; try simp only [go_sem, *]) | refine Qh rfl ?_ | refine Qd rfl (by kernel_rfl) ?_ | (refine Qc rfl rfl ?_ ?_ <;> (intro hb; have hc := hb; try simp only [go_sem] at hc)) | refine z6 rfl ?_ | (refine Qb ?_ ?_; focus kernel_rfl) | ((first | refine z8 (s1) ?_ | refine z8 (s2) ?_); simp only [go_sem, *]) | ((with_reducible apply And.intro); focus omega) | (refine z5 hK ?_; clear hK; simp only [go_sem, *]) | simp only [z3, z4, go_sem, *])
  all_goals first | contradiction | omega | skip
  (refine ⟨[_], [], [], ⟨rfl, trivial⟩, ?_⟩; simp only [go_sem, *])
end Go.Abs

namespace Go.Abs
open Go Go.Proofs Tryz
attribute [local irreducible] q8 Hold y4
set_option maxRecDepth 10000
set_option maxHeartbeats 4000000

def wideL (p : zNU) : Bool := p.any fun l => decide (20 < l.length)
def wideB (p : zNU) : Bool := decide (20 < p.length) || wideL p
theorem wideL_drop {p : zNU} {i : Nat} (h : i < p.length) : wideL (p.drop i) = (decide (20 < (p.getD i default).length) || wideL (p.drop (i + 1))) := by
 unfold wideL; rw [v3 h, List.any_cons]
theorem sp_wide (p : zNU) (h1 : p.length ≤ 4294967296) (W : Bool) (hW : wideB p = W) : zNV prog 6 [y3 p] [] (bV W) [] := by
 unfold wideB at hW
 by_cases q : 20 < p.length
 ·have q2 : (p.length : Int) > 20 := by omega
  have e : decide (20 < p.length) = true := by simpa using q
  rw [e, Bool.true_or] at hW
  subst hW
  clear e q
  refine z9 func6 rfl (fun E hE => ?_); simp only [go_sem, ntmps6]
  repeat' (first | (refine Qr rfl ?_; try intro _ hK; try simp only [go_sem, *]) | refine Qh rfl ?_ | (refine Qc rfl rfl ?_ ?_ <;> (intro hb; have hc := hb; try simp only [go_sem] at hc)) | refine z6 rfl ?_ | ((with_reducible apply And.intro); focus omega) | (refine z5 hK ?_; clear hK; simp only [go_sem, *]) | simp only [z3, z4, go_sem, *])
  all_goals first | contradiction | omega | skip
  (refine ⟨[_], [], [], ⟨rfl, trivial⟩, ?_⟩; simp only [go_sem, *])
 ·have q2 : ¬ (p.length : Int) > 20 := by omega
  have e : decide (20 < p.length) = false := by simpa using q
  rw [e, Bool.false_or] at hW
  have hW0 : wideL (p.drop 0) = W := hW
  clear e hW
  refine z9 func6 rfl (fun E hE => ?_); simp only [go_sem, ntmps6]
  repeat' (first | (refine Qr rfl ?_; try intro _ hK; try simp only [go_sem, *]) | refine Qh rfl ?_ | (refine Qc rfl rfl ?_ ?_ <;> (intro hb; have hc := hb; try simp only [go_sem] at hc)) | refine z6 rfl ?_ | ((with_reducible apply And.intro); focus omega) | (refine z5 hK ?_; clear hK; simp only [go_sem, *]) | simp only [z3, z4, go_sem, *])
  all_goals first | contradiction | omega | skip
  refine v5 rfl (p.length) (fun i => wideL (p.drop i) = W) 22 (fun i => [(3, iV i), (1, .ptr 0 0)]) (fun i => [zNi p]) [some 0] [] (by exact hW0) ?_; intro i hi hP
  by_cases hi2 : i < p.length
  ·rw [wideL_drop hi2] at hP
   by_cases r : 20 < (p.getD i default).length
   ·have r2 : ((p.getD i default).length : Int) > 20 := by omega
    have e : decide (20 < (p.getD i default).length) = true := by simpa using r
    rw [e, Bool.true_or] at hP
    subst hP
    clear e r
    repeat' (first | (refine Qr rfl ?_; try intro _ hK; try simp only [go_sem, *]) | refine Qh rfl ?_ | (refine Qc rfl rfl ?_ ?_ <;> (intro hb; have hc := hb; try simp only [go_sem] at hc)) | refine z6 rfl ?_ | ((with_reducible apply And.intro); focus omega) | (refine z5 hK ?_; clear hK; simp only [go_sem, *]) | simp only [z3, z4, go_sem, *])
    all_goals first | contradiction | omega | skip
    (refine ⟨[_], [], [], ⟨rfl, trivial⟩, ?_⟩; simp only [go_sem, *])
   ·have r2 : ¬ ((p.getD i default).length : Int) > 20 := by omega
    have e : decide (20 < (p.getD i default).length) = false := by simpa using r
    rw [e, Bool.false_or] at hP
    clear e r
    repeat' (first | (refine Qr rfl ?_; try intro _ hK; try simp only [go_sem, *]) | refine Qh rfl ?_ | (refine Qc rfl rfl ?_ ?_ <;> (intro hb; have hc := hb; try simp only [go_sem] at hc)) | refine z6 rfl ?_ | ((with_reducible apply And.intro); focus omega) | (refine z5 hK ?_; clear hK; simp only [go_sem, *]) | simp only [z3, z4, go_sem, *])
    all_goals first | contradiction | omega | skip
    exact v4 (i' := i + 1) [some 0] [] (by exact hP)
  ·rw [u0 (by omega)] at hP
   have hP2 : false = W := hP
   subst hP2
   repeat' (first | (refine Qr rfl ?_; try intro _ hK; try simp only [go_sem, *]) | refine Qh rfl ?_ | (refine Qc rfl rfl ?_ ?_ <;> (intro hb; have hc := hb; try simp only [go_sem] at hc)) | refine z6 rfl ?_ | ((with_reducible apply And.intro); focus omega) | (refine z5 hK ?_; clear hK; simp only [go_sem, *]) | simp only [z3, z4, go_sem, *])
   (refine ⟨[_], [], [], ⟨rfl, trivial⟩, ?_⟩; simp only [go_sem, *])
end Go.Abs

