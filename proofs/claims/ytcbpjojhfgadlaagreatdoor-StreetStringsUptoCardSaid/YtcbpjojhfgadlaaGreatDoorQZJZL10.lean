/-
  WHAT THE PROOF STANDS ON, PART 10: contracts of the program's functions. No condition.
-/
import Derived.Test.YtcbpjojhfgadlaaGreatDoorQZJZL7
set_option maxRecDepth 100000
set_option maxHeartbeats 16000000
set_option linter.unusedVariables false
set_option linter.unusedSimpArgs false
set_option linter.unusedSectionVars false
namespace Go.Abs
open Go Go.Proofs Go.RowKit
attribute [local irreducible] q8 Hold y4
set_option maxRecDepth 10000
set_option maxHeartbeats 8000000

theorem rnext4 (cn : Nat) : zNV Tryz.prog 53 [iV (refSt 4), .raw (.int .u8 (cn : Int))] [] (iV (refSt (zNd 4 cn))) [] := by
 rcases (by omega : cn = 91 ∨ cn = 10 ∨ cn = 32 ∨ cn = 93 ∨ cn = 48 ∨ (49 ≤ cn ∧ cn ≤ 57) ∨ (97 ≤ cn ∧ cn ≤ 100) ∨ (cn < 48 ∧ cn ≠ 10 ∧ cn ≠ 32) ∨ (57 < cn ∧ cn < 97 ∧ cn ≠ 91 ∧ cn ≠ 93) ∨ 100 < cn) with rfl | rfl | rfl | rfl | rfl | hx | hx | hx | hx | hx
 ·rw [show zNd 4 91 = 8 from by decide]
  simp only [refSt]
  refine z9 Tryz.func53 rfl (fun E hE => ?_); simp only [go_sem, Tryz.ntmps53]
  repeat' (first | (refine Qr rfl ?_; try intro _ hK; try simp only [go_sem, *]) | (refine Qi rfl rfl rfl rfl ?_ ?_ <;> (intro hb; (try intro _ hK); have hc := hb; try simp only [go_sem] at hc; simp only [go_sem, *])) | refine Qh rfl ?_ | (refine Qc rfl rfl ?_ ?_ <;> (intro hb; have hc := hb; try simp only [go_sem] at hc)) | refine z6 rfl ?_ | ((with_reducible apply And.intro); focus omega) | (refine z5 hK ?_; clear hK; simp only [go_sem, *]) | simp only [z3, z4, go_sem, *])
  all_goals first | contradiction | omega | skip
  (refine ⟨[_], [], [], ⟨rfl, trivial⟩, ?_⟩; simp only [go_sem, *])
 ·rw [show zNd 4 10 = 8 from by decide]
  simp only [refSt]
  refine z9 Tryz.func53 rfl (fun E hE => ?_); simp only [go_sem, Tryz.ntmps53]
  repeat' (first | (refine Qr rfl ?_; try intro _ hK; try simp only [go_sem, *]) | (refine Qi rfl rfl rfl rfl ?_ ?_ <;> (intro hb; (try intro _ hK); have hc := hb; try simp only [go_sem] at hc; simp only [go_sem, *])) | refine Qh rfl ?_ | (refine Qc rfl rfl ?_ ?_ <;> (intro hb; have hc := hb; try simp only [go_sem] at hc)) | refine z6 rfl ?_ | ((with_reducible apply And.intro); focus omega) | (refine z5 hK ?_; clear hK; simp only [go_sem, *]) | simp only [z3, z4, go_sem, *])
  all_goals first | contradiction | omega | skip
  (refine ⟨[_], [], [], ⟨rfl, trivial⟩, ?_⟩; simp only [go_sem, *])
 ·rw [show zNd 4 32 = 2 from by decide]
  simp only [refSt]
  refine z9 Tryz.func53 rfl (fun E hE => ?_); simp only [go_sem, Tryz.ntmps53]
  repeat' (first | (refine Qr rfl ?_; try intro _ hK; try simp only [go_sem, *]) | (refine Qi rfl rfl rfl rfl ?_ ?_ <;> (intro hb; (try intro _ hK); have hc := hb; try simp only [go_sem] at hc; simp only [go_sem, *])) | refine Qh rfl ?_ | (refine Qc rfl rfl ?_ ?_ <;> (intro hb; have hc := hb; try simp only [go_sem] at hc)) | refine z6 rfl ?_ | ((with_reducible apply And.intro); focus omega) | (refine z5 hK ?_; clear hK; simp only [go_sem, *]) | simp only [z3, z4, go_sem, *])
  all_goals first | contradiction | omega | skip
  (refine ⟨[_], [], [], ⟨rfl, trivial⟩, ?_⟩; simp only [go_sem, *])
 ·rw [show zNd 4 93 = 6 from by decide]
  simp only [refSt]
  refine z9 Tryz.func53 rfl (fun E hE => ?_); simp only [go_sem, Tryz.ntmps53]
  repeat' (first | (refine Qr rfl ?_; try intro _ hK; try simp only [go_sem, *]) | (refine Qi rfl rfl rfl rfl ?_ ?_ <;> (intro hb; (try intro _ hK); have hc := hb; try simp only [go_sem] at hc; simp only [go_sem, *])) | refine Qh rfl ?_ | (refine Qc rfl rfl ?_ ?_ <;> (intro hb; have hc := hb; try simp only [go_sem] at hc)) | refine z6 rfl ?_ | ((with_reducible apply And.intro); focus omega) | (refine z5 hK ?_; clear hK; simp only [go_sem, *]) | simp only [z3, z4, go_sem, *])
  all_goals first | contradiction | omega | skip
  (refine ⟨[_], [], [], ⟨rfl, trivial⟩, ?_⟩; simp only [go_sem, *])
 ·rw [show zNd 4 48 = 8 from by decide]
  simp only [refSt]
  refine z9 Tryz.func53 rfl (fun E hE => ?_); simp only [go_sem, Tryz.ntmps53]
  repeat' (first | (refine Qr rfl ?_; try intro _ hK; try simp only [go_sem, *]) | (refine Qi rfl rfl rfl rfl ?_ ?_ <;> (intro hb; (try intro _ hK); have hc := hb; try simp only [go_sem] at hc; simp only [go_sem, *])) | refine Qh rfl ?_ | (refine Qc rfl rfl ?_ ?_ <;> (intro hb; have hc := hb; try simp only [go_sem] at hc)) | refine z6 rfl ?_ | ((with_reducible apply And.intro); focus omega) | (refine z5 hK ?_; clear hK; simp only [go_sem, *]) | simp only [z3, z4, go_sem, *])
  all_goals first | contradiction | omega | skip
  (refine ⟨[_], [], [], ⟨rfl, trivial⟩, ?_⟩; simp only [go_sem, *])
 ·have e91 : ¬ (cn : Int) = 91 := by omega
  have e10 : ¬ (cn : Int) = 10 := by omega
  have e32 : ¬ (cn : Int) = 32 := by omega
  have e93 : ¬ (cn : Int) = 93 := by omega
  have e48 : ¬ (cn : Int) = 48 := by omega
  have f1 : 48 ≤ (cn : Int) := by omega
  have f2 : (cn : Int) ≤ 57 := by omega
  have lf3l : ¬ 97 ≤ (cn : Int) := by omega
  have f4 : (cn : Int) ≤ 100 := by omega
  rw [show zNd 4 cn = 8 from by unfold zNd; (repeat' split) <;> omega]
  clear hx
  simp only [refSt]
  refine z9 Tryz.func53 rfl (fun E hE => ?_); simp only [go_sem, Tryz.ntmps53]
  repeat' (first | (refine Qr rfl ?_; try intro _ hK; try simp only [go_sem, *]) | (refine Qi rfl rfl rfl rfl ?_ ?_ <;> (intro hb; (try intro _ hK); have hc := hb; try simp only [go_sem] at hc; simp only [go_sem, *])) | refine Qh rfl ?_ | (refine Qc rfl rfl ?_ ?_ <;> (intro hb; have hc := hb; try simp only [go_sem] at hc)) | refine z6 rfl ?_ | ((with_reducible apply And.intro); focus omega) | (refine z5 hK ?_; clear hK; simp only [go_sem, *]) | simp only [z3, z4, go_sem, *])
  all_goals first | contradiction | omega | skip
  (refine ⟨[_], [], [], ⟨rfl, trivial⟩, ?_⟩; simp only [go_sem, *])
 ·have e91 : ¬ (cn : Int) = 91 := by omega
  have e10 : ¬ (cn : Int) = 10 := by omega
  have e32 : ¬ (cn : Int) = 32 := by omega
  have e93 : ¬ (cn : Int) = 93 := by omega
  have e48 : ¬ (cn : Int) = 48 := by omega
  have f1 : 48 ≤ (cn : Int) := by omega
  have f2 : ¬ (cn : Int) ≤ 57 := by omega
  have lf3l : 97 ≤ (cn : Int) := by omega
  have f4 : (cn : Int) ≤ 100 := by omega
  rw [show zNd 4 cn = 5 from by unfold zNd; (repeat' split) <;> omega]
  clear hx
  simp only [refSt]
  refine z9 Tryz.func53 rfl (fun E hE => ?_); simp only [go_sem, Tryz.ntmps53]
  repeat' (first | (refine Qr rfl ?_; try intro _ hK; try simp only [go_sem, *]) | (refine Qi rfl rfl rfl rfl ?_ ?_ <;> (intro hb; (try intro _ hK); have hc := hb; try simp only [go_sem] at hc; simp only [go_sem, *])) | refine Qh rfl ?_ | (refine Qc rfl rfl ?_ ?_ <;> (intro hb; have hc := hb; try simp only [go_sem] at hc)) | refine z6 rfl ?_ | ((with_reducible apply And.intro); focus omega) | (refine z5 hK ?_; clear hK; simp only [go_sem, *]) | simp only [z3, z4, go_sem, *])
  all_goals first | contradiction | omega | skip
  (refine ⟨[_], [], [], ⟨rfl, trivial⟩, ?_⟩; simp only [go_sem, *])
 ·have e91 : ¬ (cn : Int) = 91 := by omega
  have e10 : ¬ (cn : Int) = 10 := by omega
  have e32 : ¬ (cn : Int) = 32 := by omega
  have e93 : ¬ (cn : Int) = 93 := by omega
  have e48 : ¬ (cn : Int) = 48 := by omega
  have f1 : ¬ 48 ≤ (cn : Int) := by omega
  have f2 : (cn : Int) ≤ 57 := by omega
  have lf3l : ¬ 97 ≤ (cn : Int) := by omega
  have f4 : (cn : Int) ≤ 100 := by omega
  rw [show zNd 4 cn = 8 from by unfold zNd; (repeat' split) <;> omega]
  clear hx
  simp only [refSt]
  refine z9 Tryz.func53 rfl (fun E hE => ?_); simp only [go_sem, Tryz.ntmps53]
  repeat' (first | (refine Qr rfl ?_; try intro _ hK; try simp only [go_sem, *]) | (refine Qi rfl rfl rfl rfl ?_ ?_ <;> (intro hb; (try intro _ hK); have hc := hb; try simp only [go_sem] at hc; simp only [go_sem, *])) | refine Qh rfl ?_ | (refine Qc rfl rfl ?_ ?_ <;> (intro hb; have hc := hb; try simp only [go_sem] at hc)) | refine z6 rfl ?_ | ((with_reducible apply And.intro); focus omega) | (refine z5 hK ?_; clear hK; simp only [go_sem, *]) | simp only [z3, z4, go_sem, *])
  all_goals first | contradiction | omega | skip
  (refine ⟨[_], [], [], ⟨rfl, trivial⟩, ?_⟩; simp only [go_sem, *])
 ·have e91 : ¬ (cn : Int) = 91 := by omega
  have e10 : ¬ (cn : Int) = 10 := by omega
  have e32 : ¬ (cn : Int) = 32 := by omega
  have e93 : ¬ (cn : Int) = 93 := by omega
  have e48 : ¬ (cn : Int) = 48 := by omega
  have f1 : 48 ≤ (cn : Int) := by omega
  have f2 : ¬ (cn : Int) ≤ 57 := by omega
  have lf3l : ¬ 97 ≤ (cn : Int) := by omega
  have f4 : (cn : Int) ≤ 100 := by omega
  rw [show zNd 4 cn = 8 from by unfold zNd; (repeat' split) <;> omega]
  clear hx
  simp only [refSt]
  refine z9 Tryz.func53 rfl (fun E hE => ?_); simp only [go_sem, Tryz.ntmps53]
  repeat' (first | (refine Qr rfl ?_; try intro _ hK; try simp only [go_sem, *]) | (refine Qi rfl rfl rfl rfl ?_ ?_ <;> (intro hb; (try intro _ hK); have hc := hb; try simp only [go_sem] at hc; simp only [go_sem, *])) | refine Qh rfl ?_ | (refine Qc rfl rfl ?_ ?_ <;> (intro hb; have hc := hb; try simp only [go_sem] at hc)) | refine z6 rfl ?_ | ((with_reducible apply And.intro); focus omega) | (refine z5 hK ?_; clear hK; simp only [go_sem, *]) | simp only [z3, z4, go_sem, *])
  all_goals first | contradiction | omega | skip
  (refine ⟨[_], [], [], ⟨rfl, trivial⟩, ?_⟩; simp only [go_sem, *])
 ·have e91 : ¬ (cn : Int) = 91 := by omega
  have e10 : ¬ (cn : Int) = 10 := by omega
  have e32 : ¬ (cn : Int) = 32 := by omega
  have e93 : ¬ (cn : Int) = 93 := by omega
  have e48 : ¬ (cn : Int) = 48 := by omega
  have f1 : 48 ≤ (cn : Int) := by omega
  have f2 : ¬ (cn : Int) ≤ 57 := by omega
  have lf3l : 97 ≤ (cn : Int) := by omega
  have f4 : ¬ (cn : Int) ≤ 100 := by omega
  rw [show zNd 4 cn = 8 from by unfold zNd; (repeat' split) <;> omega]
  clear hx
  simp only [refSt]
  refine z9 Tryz.func53 rfl (fun E hE => ?_); simp only [go_sem, Tryz.ntmps53]
  repeat' (first | (refine Qr rfl ?_; try intro _ hK; try simp only [go_sem, *]) | (refine Qi rfl rfl rfl rfl ?_ ?_ <;> (intro hb; (try intro _ hK); have hc := hb; try simp only [go_sem] at hc; simp only [go_sem, *])) | refine Qh rfl ?_ | (refine Qc rfl rfl ?_ ?_ <;> (intro hb; have hc := hb; try simp only [go_sem] at hc)) | refine z6 rfl ?_ | ((with_reducible apply And.intro); focus omega) | (refine z5 hK ?_; clear hK; simp only [go_sem, *]) | simp only [z3, z4, go_sem, *])
  all_goals first | contradiction | omega | skip
  (refine ⟨[_], [], [], ⟨rfl, trivial⟩, ?_⟩; simp only [go_sem, *])
end Go.Abs

namespace Go.Abs
open Go Go.Proofs Go.RowKit
attribute [local irreducible] q8 Hold y4
set_option maxRecDepth 10000
set_option maxHeartbeats 8000000

theorem rnext5 (cn : Nat) : zNV Tryz.prog 53 [iV (refSt 5), .raw (.int .u8 (cn : Int))] [] (iV (refSt (zNd 5 cn))) [] := by
 rcases (by omega : cn = 91 ∨ cn = 10 ∨ cn = 32 ∨ cn = 93 ∨ cn = 48 ∨ (49 ≤ cn ∧ cn ≤ 57) ∨ (97 ≤ cn ∧ cn ≤ 100) ∨ (cn < 48 ∧ cn ≠ 10 ∧ cn ≠ 32) ∨ (57 < cn ∧ cn < 97 ∧ cn ≠ 91 ∧ cn ≠ 93) ∨ 100 < cn) with rfl | rfl | rfl | rfl | rfl | hx | hx | hx | hx | hx
 ·rw [show zNd 5 91 = 8 from by decide]
  simp only [refSt]
  refine z9 Tryz.func53 rfl (fun E hE => ?_); simp only [go_sem, Tryz.ntmps53]
  repeat' (first | (refine Qr rfl ?_; try intro _ hK; try simp only [go_sem, *]) | (refine Qi rfl rfl rfl rfl ?_ ?_ <;> (intro hb; (try intro _ hK); have hc := hb; try simp only [go_sem] at hc; simp only [go_sem, *])) | refine Qh rfl ?_ | (refine Qc rfl rfl ?_ ?_ <;> (intro hb; have hc := hb; try simp only [go_sem] at hc)) | refine z6 rfl ?_ | ((with_reducible apply And.intro); focus omega) | (refine z5 hK ?_; clear hK; simp only [go_sem, *]) | simp only [z3, z4, go_sem, *])
  all_goals first | contradiction | omega | skip
  (refine ⟨[_], [], [], ⟨rfl, trivial⟩, ?_⟩; simp only [go_sem, *])
 ·rw [show zNd 5 10 = 8 from by decide]
  simp only [refSt]
  refine z9 Tryz.func53 rfl (fun E hE => ?_); simp only [go_sem, Tryz.ntmps53]
  repeat' (first | (refine Qr rfl ?_; try intro _ hK; try simp only [go_sem, *]) | (refine Qi rfl rfl rfl rfl ?_ ?_ <;> (intro hb; (try intro _ hK); have hc := hb; try simp only [go_sem] at hc; simp only [go_sem, *])) | refine Qh rfl ?_ | (refine Qc rfl rfl ?_ ?_ <;> (intro hb; have hc := hb; try simp only [go_sem] at hc)) | refine z6 rfl ?_ | ((with_reducible apply And.intro); focus omega) | (refine z5 hK ?_; clear hK; simp only [go_sem, *]) | simp only [z3, z4, go_sem, *])
  all_goals first | contradiction | omega | skip
  (refine ⟨[_], [], [], ⟨rfl, trivial⟩, ?_⟩; simp only [go_sem, *])
 ·rw [show zNd 5 32 = 2 from by decide]
  simp only [refSt]
  refine z9 Tryz.func53 rfl (fun E hE => ?_); simp only [go_sem, Tryz.ntmps53]
  repeat' (first | (refine Qr rfl ?_; try intro _ hK; try simp only [go_sem, *]) | (refine Qi rfl rfl rfl rfl ?_ ?_ <;> (intro hb; (try intro _ hK); have hc := hb; try simp only [go_sem] at hc; simp only [go_sem, *])) | refine Qh rfl ?_ | (refine Qc rfl rfl ?_ ?_ <;> (intro hb; have hc := hb; try simp only [go_sem] at hc)) | refine z6 rfl ?_ | ((with_reducible apply And.intro); focus omega) | (refine z5 hK ?_; clear hK; simp only [go_sem, *]) | simp only [z3, z4, go_sem, *])
  all_goals first | contradiction | omega | skip
  (refine ⟨[_], [], [], ⟨rfl, trivial⟩, ?_⟩; simp only [go_sem, *])
 ·rw [show zNd 5 93 = 6 from by decide]
  simp only [refSt]
  refine z9 Tryz.func53 rfl (fun E hE => ?_); simp only [go_sem, Tryz.ntmps53]
  repeat' (first | (refine Qr rfl ?_; try intro _ hK; try simp only [go_sem, *]) | (refine Qi rfl rfl rfl rfl ?_ ?_ <;> (intro hb; (try intro _ hK); have hc := hb; try simp only [go_sem] at hc; simp only [go_sem, *])) | refine Qh rfl ?_ | (refine Qc rfl rfl ?_ ?_ <;> (intro hb; have hc := hb; try simp only [go_sem] at hc)) | refine z6 rfl ?_ | ((with_reducible apply And.intro); focus omega) | (refine z5 hK ?_; clear hK; simp only [go_sem, *]) | simp only [z3, z4, go_sem, *])
  all_goals first | contradiction | omega | skip
  (refine ⟨[_], [], [], ⟨rfl, trivial⟩, ?_⟩; simp only [go_sem, *])
 ·rw [show zNd 5 48 = 8 from by decide]
  simp only [refSt]
  refine z9 Tryz.func53 rfl (fun E hE => ?_); simp only [go_sem, Tryz.ntmps53]
  repeat' (first | (refine Qr rfl ?_; try intro _ hK; try simp only [go_sem, *]) | (refine Qi rfl rfl rfl rfl ?_ ?_ <;> (intro hb; (try intro _ hK); have hc := hb; try simp only [go_sem] at hc; simp only [go_sem, *])) | refine Qh rfl ?_ | (refine Qc rfl rfl ?_ ?_ <;> (intro hb; have hc := hb; try simp only [go_sem] at hc)) | refine z6 rfl ?_ | ((with_reducible apply And.intro); focus omega) | (refine z5 hK ?_; clear hK; simp only [go_sem, *]) | simp only [z3, z4, go_sem, *])
  all_goals first | contradiction | omega | skip
  (refine ⟨[_], [], [], ⟨rfl, trivial⟩, ?_⟩; simp only [go_sem, *])
 ·have e91 : ¬ (cn : Int) = 91 := by omega
  have e10 : ¬ (cn : Int) = 10 := by omega
  have e32 : ¬ (cn : Int) = 32 := by omega
  have e93 : ¬ (cn : Int) = 93 := by omega
  have e48 : ¬ (cn : Int) = 48 := by omega
  have f1 : 48 ≤ (cn : Int) := by omega
  have f2 : (cn : Int) ≤ 57 := by omega
  have lf3l : ¬ 97 ≤ (cn : Int) := by omega
  have f4 : (cn : Int) ≤ 100 := by omega
  rw [show zNd 5 cn = 8 from by unfold zNd; (repeat' split) <;> omega]
  clear hx
  simp only [refSt]
  refine z9 Tryz.func53 rfl (fun E hE => ?_); simp only [go_sem, Tryz.ntmps53]
  repeat' (first | (refine Qr rfl ?_; try intro _ hK; try simp only [go_sem, *]) | (refine Qi rfl rfl rfl rfl ?_ ?_ <;> (intro hb; (try intro _ hK); have hc := hb; try simp only [go_sem] at hc; simp only [go_sem, *])) | refine Qh rfl ?_ | (refine Qc rfl rfl ?_ ?_ <;> (intro hb; have hc := hb; try simp only [go_sem] at hc)) | refine z6 rfl ?_ | ((with_reducible apply And.intro); focus omega) | (refine z5 hK ?_; clear hK; simp only [go_sem, *]) | simp only [z3, z4, go_sem, *])
  all_goals first | contradiction | omega | skip
  (refine ⟨[_], [], [], ⟨rfl, trivial⟩, ?_⟩; simp only [go_sem, *])
 ·have e91 : ¬ (cn : Int) = 91 := by omega
  have e10 : ¬ (cn : Int) = 10 := by omega
  have e32 : ¬ (cn : Int) = 32 := by omega
  have e93 : ¬ (cn : Int) = 93 := by omega
  have e48 : ¬ (cn : Int) = 48 := by omega
  have f1 : 48 ≤ (cn : Int) := by omega
  have f2 : ¬ (cn : Int) ≤ 57 := by omega
  have lf3l : 97 ≤ (cn : Int) := by omega
  have f4 : (cn : Int) ≤ 100 := by omega
  rw [show zNd 5 cn = 8 from by unfold zNd; (repeat' split) <;> omega]
  clear hx
  simp only [refSt]
  refine z9 Tryz.func53 rfl (fun E hE => ?_); simp only [go_sem, Tryz.ntmps53]
  repeat' (first | (refine Qr rfl ?_; try intro _ hK; try simp only [go_sem, *]) | (refine Qi rfl rfl rfl rfl ?_ ?_ <;> (intro hb; (try intro _ hK); have hc := hb; try simp only [go_sem] at hc; simp only [go_sem, *])) | refine Qh rfl ?_ | (refine Qc rfl rfl ?_ ?_ <;> (intro hb; have hc := hb; try simp only [go_sem] at hc)) | refine z6 rfl ?_ | ((with_reducible apply And.intro); focus omega) | (refine z5 hK ?_; clear hK; simp only [go_sem, *]) | simp only [z3, z4, go_sem, *])
  all_goals first | contradiction | omega | skip
  (refine ⟨[_], [], [], ⟨rfl, trivial⟩, ?_⟩; simp only [go_sem, *])
 ·have e91 : ¬ (cn : Int) = 91 := by omega
  have e10 : ¬ (cn : Int) = 10 := by omega
  have e32 : ¬ (cn : Int) = 32 := by omega
  have e93 : ¬ (cn : Int) = 93 := by omega
  have e48 : ¬ (cn : Int) = 48 := by omega
  have f1 : ¬ 48 ≤ (cn : Int) := by omega
  have f2 : (cn : Int) ≤ 57 := by omega
  have lf3l : ¬ 97 ≤ (cn : Int) := by omega
  have f4 : (cn : Int) ≤ 100 := by omega
  rw [show zNd 5 cn = 8 from by unfold zNd; (repeat' split) <;> omega]
  clear hx
  simp only [refSt]
  refine z9 Tryz.func53 rfl (fun E hE => ?_); simp only [go_sem, Tryz.ntmps53]
  repeat' (first | (refine Qr rfl ?_; try intro _ hK; try simp only [go_sem, *]) | (refine Qi rfl rfl rfl rfl ?_ ?_ <;> (intro hb; (try intro _ hK); have hc := hb; try simp only [go_sem] at hc; simp only [go_sem, *])) | refine Qh rfl ?_ | (refine Qc rfl rfl ?_ ?_ <;> (intro hb; have hc := hb; try simp only [go_sem] at hc)) | refine z6 rfl ?_ | ((with_reducible apply And.intro); focus omega) | (refine z5 hK ?_; clear hK; simp only [go_sem, *]) | simp only [z3, z4, go_sem, *])
  all_goals first | contradiction | omega | skip
  (refine ⟨[_], [], [], ⟨rfl, trivial⟩, ?_⟩; simp only [go_sem, *])
 ·have e91 : ¬ (cn : Int) = 91 := by omega
  have e10 : ¬ (cn : Int) = 10 := by omega
  have e32 : ¬ (cn : Int) = 32 := by omega
  have e93 : ¬ (cn : Int) = 93 := by omega
  have e48 : ¬ (cn : Int) = 48 := by omega
  have f1 : 48 ≤ (cn : Int) := by omega
  have f2 : ¬ (cn : Int) ≤ 57 := by omega
  have lf3l : ¬ 97 ≤ (cn : Int) := by omega
  have f4 : (cn : Int) ≤ 100 := by omega
  rw [show zNd 5 cn = 8 from by unfold zNd; (repeat' split) <;> omega]
  clear hx
  simp only [refSt]
  refine z9 Tryz.func53 rfl (fun E hE => ?_); simp only [go_sem, Tryz.ntmps53]
  repeat' (first | (refine Qr rfl ?_; try intro _ hK; try simp only [go_sem, *]) | (refine Qi rfl rfl rfl rfl ?_ ?_ <;> (intro hb; (try intro _ hK); have hc := hb; try simp only [go_sem] at hc; simp only [go_sem, *])) | refine Qh rfl ?_ | (refine Qc rfl rfl ?_ ?_ <;> (intro hb; have hc := hb; try simp only [go_sem] at hc)) | refine z6 rfl ?_ | ((with_reducible apply And.intro); focus omega) | (refine z5 hK ?_; clear hK; simp only [go_sem, *]) | simp only [z3, z4, go_sem, *])
  all_goals first | contradiction | omega | skip
  (refine ⟨[_], [], [], ⟨rfl, trivial⟩, ?_⟩; simp only [go_sem, *])
 ·have e91 : ¬ (cn : Int) = 91 := by omega
  have e10 : ¬ (cn : Int) = 10 := by omega
  have e32 : ¬ (cn : Int) = 32 := by omega
  have e93 : ¬ (cn : Int) = 93 := by omega
  have e48 : ¬ (cn : Int) = 48 := by omega
  have f1 : 48 ≤ (cn : Int) := by omega
  have f2 : ¬ (cn : Int) ≤ 57 := by omega
  have lf3l : 97 ≤ (cn : Int) := by omega
  have f4 : ¬ (cn : Int) ≤ 100 := by omega
  rw [show zNd 5 cn = 8 from by unfold zNd; (repeat' split) <;> omega]
  clear hx
  simp only [refSt]
  refine z9 Tryz.func53 rfl (fun E hE => ?_); simp only [go_sem, Tryz.ntmps53]
  repeat' (first | (refine Qr rfl ?_; try intro _ hK; try simp only [go_sem, *]) | (refine Qi rfl rfl rfl rfl ?_ ?_ <;> (intro hb; (try intro _ hK); have hc := hb; try simp only [go_sem] at hc; simp only [go_sem, *])) | refine Qh rfl ?_ | (refine Qc rfl rfl ?_ ?_ <;> (intro hb; have hc := hb; try simp only [go_sem] at hc)) | refine z6 rfl ?_ | ((with_reducible apply And.intro); focus omega) | (refine z5 hK ?_; clear hK; simp only [go_sem, *]) | simp only [z3, z4, go_sem, *])
  all_goals first | contradiction | omega | skip
  (refine ⟨[_], [], [], ⟨rfl, trivial⟩, ?_⟩; simp only [go_sem, *])
end Go.Abs

