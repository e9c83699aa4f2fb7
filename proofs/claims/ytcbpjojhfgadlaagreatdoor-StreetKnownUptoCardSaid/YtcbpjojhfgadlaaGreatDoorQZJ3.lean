/-
  WHAT THE PROOF STANDS ON, PART 3: contracts of the program's functions and the logic that they are proved in. No condition.
-/
import Derived.Test.YtcbpjojhfgadlaaGreatDoorProg
import Derived.KernelRfl
import Derived.WalkKit
import Derived.LaidEql
import Derived.Stop.Asserts
import Derived.RowKitTokens
import Derived.Test.YtcbpjojhfgadlaaGreatDoorQZJ2
set_option maxRecDepth 100000
set_option maxHeartbeats 4000000
set_option linter.unusedVariables false
set_option linter.unusedSimpArgs false
set_option linter.unusedSectionVars false
namespace Go.Proofs
@[go_sem] theorem Tryz.sz3 : Abs.sizeT prog 3 = some 1 := by kernel_rfl
@[go_sem] theorem Tryz.by3 : Abs.bytesT prog 3 = some 8 := by kernel_rfl
@[go_sem] theorem Tryz.ze3 : Abs.zeroT prog 3 = some (.int .i64 0) := by kernel_rfl
@[go_sem] theorem Tryz.sz5 : Abs.sizeT prog 5 = some 1 := by kernel_rfl
@[go_sem] theorem Tryz.by5 : Abs.bytesT prog 5 = some 1 := by kernel_rfl
@[go_sem] theorem Tryz.ze5 : Abs.zeroT prog 5 = some (.int .u8 0) := by kernel_rfl
@[go_sem] theorem Tryz.sl22 : Abs.sliceT prog 22 = some 47 := by kernel_rfl
@[go_sem] theorem Tryz.sz24 : Abs.sizeT prog 24 = some 1 := by kernel_rfl
@[go_sem] theorem Tryz.by24 : Abs.bytesT prog 24 = some 24 := by kernel_rfl
@[go_sem] theorem Tryz.ze24 : Abs.zeroT prog 24 = some (.agg #[.slice none 0 0]) := by kernel_rfl
@[go_sem] theorem Tryz.sz25 : Abs.sizeT prog 25 = some 1 := by kernel_rfl
@[go_sem] theorem Tryz.by25 : Abs.bytesT prog 25 = some 24 := by kernel_rfl
@[go_sem] theorem Tryz.ze25 : Abs.zeroT prog 25 = some (.slice none 0 0) := by kernel_rfl
@[go_sem] theorem Tryz.sl25 : Abs.sliceT prog 25 = some 3 := by kernel_rfl
@[go_sem] theorem Tryz.sl31 : Abs.sliceT prog 31 = some 24 := by kernel_rfl
@[go_sem] theorem Tryz.sl37 : Abs.sliceT prog 37 = some 5 := by kernel_rfl
@[go_sem] theorem Tryz.sz47 : Abs.sizeT prog 47 = some 1 := by kernel_rfl
@[go_sem] theorem Tryz.by47 : Abs.bytesT prog 47 = some 24 := by kernel_rfl
@[go_sem] theorem Tryz.ze47 : Abs.zeroT prog 47 = some (.slice none 0 0) := by kernel_rfl
@[go_sem] theorem Tryz.sl47 : Abs.sliceT prog 47 = some 50 := by kernel_rfl
@[go_sem] theorem Tryz.sz50 : Abs.sizeT prog 50 = some 2 := by kernel_rfl
@[go_sem] theorem Tryz.by50 : Abs.bytesT prog 50 = some 16 := by kernel_rfl
@[go_sem] theorem Tryz.ze50 : Abs.zeroT prog 50 = some (.agg #[.int .i64 0, .int .i64 0]) := by kernel_rfl
@[go_sem] theorem Tryz.sz52 : Abs.sizeT prog 52 = some 7 := by kernel_rfl
@[go_sem] theorem Tryz.by52 : Abs.bytesT prog 52 = some 56 := by kernel_rfl
@[go_sem] theorem Tryz.ze52 : Abs.zeroT prog 52 = some (.agg #[.int .i64 0, .int .i64 0, .int .i64 0, .int .i64 0, .int .i64 0, .int .i64 0, .int .i64 0]) := by kernel_rfl
@[go_sem] theorem Tryz.sl55 : Abs.sliceT prog 55 = some 52 := by kernel_rfl
@[go_sem] theorem Tryz.sz60 : Abs.sizeT prog 60 = some 3 := by kernel_rfl
@[go_sem] theorem Tryz.by60 : Abs.bytesT prog 60 = some 24 := by kernel_rfl
@[go_sem] theorem Tryz.ze60 : Abs.zeroT prog 60 = some (.agg #[.int .i64 0, .int .i64 0, .int .i64 0]) := by kernel_rfl
@[go_sem] theorem Tryz.sl62 : Abs.sliceT prog 62 = some 60 := by kernel_rfl
@[go_sem] theorem Tryz.sl68 : Abs.sliceT prog 68 = some 25 := by kernel_rfl
@[go_sem] theorem Tryz.sl71 : Abs.sliceT prog 71 = some 87 := by kernel_rfl
@[go_sem] theorem Tryz.sl72 : Abs.sliceT prog 72 = some 77 := by kernel_rfl
@[go_sem] theorem Tryz.sz77 : Abs.sizeT prog 77 = some 6 := by kernel_rfl
@[go_sem] theorem Tryz.by77 : Abs.bytesT prog 77 = some 48 := by kernel_rfl
@[go_sem] theorem Tryz.ze77 : Abs.zeroT prog 77 = some (.agg #[.int .i64 0, .int .i64 0, .int .i64 0, .int .i64 0, .int .i64 0, .int .i64 0]) := by kernel_rfl
@[go_sem] theorem Tryz.sz87 : Abs.sizeT prog 87 = some 1 := by kernel_rfl
@[go_sem] theorem Tryz.by87 : Abs.bytesT prog 87 = some 24 := by kernel_rfl
@[go_sem] theorem Tryz.ze87 : Abs.zeroT prog 87 = some (.agg #[.slice none 0 0]) := by kernel_rfl
@[go_sem] theorem Tryz.sl125 : Abs.sliceT prog 125 = some 129 := by kernel_rfl
@[go_sem] theorem Tryz.sz129 : Abs.sizeT prog 129 = some 3 := by kernel_rfl
@[go_sem] theorem Tryz.by129 : Abs.bytesT prog 129 = some 56 := by kernel_rfl
@[go_sem] theorem Tryz.ze129 : Abs.zeroT prog 129 = some (.agg #[.slice none 0 0, .slice none 0 0, .map none]) := by kernel_rfl
@[go_sem] theorem Tryz.ze194 : Abs.zeroT prog 194 = some (.agg #[.nilFunc, .nilFunc, .nilFunc, .nilFunc, .nilFunc, .nilFunc, .nilFunc, .nilFunc]) := by kernel_rfl
@[go_sem] theorem Tryz.ba194 (ps : List (Nat × Abs.AV)) (K : Abs.Cont) : Abs.buildA prog 194 ps K = Abs.baC (.agg #[.nilFunc, .nilFunc, .nilFunc, .nilFunc, .nilFunc, .nilFunc, .nilFunc, .nilFunc]) 1 ps K := Abs.buildA_array (e := 193) (n := 8) (by kernel_rfl) Tryz.ze194 (by kernel_rfl) ps K
@[go_sem] theorem Tryz.ze204 : Abs.zeroT prog 204 = some (.agg #[.int .u8 0, .int .u8 0, .int .u8 0, .int .u8 0, .int .u8 0, .int .u8 0, .int .u8 0, .int .u8 0, .int .u8 0, .int .u8 0, .int .u8 0, .int .u8 0, .int .u8 0, .int .u8 0, .int .u8 0, .int .u8 0, .int .u8 0, .int .u8 0, .int .u8 0, .int .u8 0, .int .u8 0, .int .u8 0, .int .u8 0, .int .u8 0]) := by kernel_rfl
@[go_sem] theorem Tryz.ba204 (ps : List (Nat × Abs.AV)) (K : Abs.Cont) : Abs.buildA prog 204 ps K = Abs.baC (.agg #[.int .u8 0, .int .u8 0, .int .u8 0, .int .u8 0, .int .u8 0, .int .u8 0, .int .u8 0, .int .u8 0, .int .u8 0, .int .u8 0, .int .u8 0, .int .u8 0, .int .u8 0, .int .u8 0, .int .u8 0, .int .u8 0, .int .u8 0, .int .u8 0, .int .u8 0, .int .u8 0, .int .u8 0, .int .u8 0, .int .u8 0, .int .u8 0]) 1 ps K := Abs.buildA_array (e := 5) (n := 24) (by kernel_rfl) Tryz.ze204 (by kernel_rfl) ps K
@[go_sem] theorem Tryz.ze225 : Abs.zeroT prog 225 = some (.agg #[.int .u64 0, .int .u64 0, .int .u64 0, .int .u64 0, .int .u64 0, .int .u64 0, .int .u64 0, .int .u64 0, .int .u64 0, .int .u64 0, .int .u64 0, .int .u64 0, .int .u64 0, .int .u64 0, .int .u64 0, .int .u64 0, .int .u64 0, .int .u64 0, .int .u64 0, .int .u64 0]) := by kernel_rfl
@[go_sem] theorem Tryz.ba225 (ps : List (Nat × Abs.AV)) (K : Abs.Cont) : Abs.buildA prog 225 ps K = Abs.baC (.agg #[.int .u64 0, .int .u64 0, .int .u64 0, .int .u64 0, .int .u64 0, .int .u64 0, .int .u64 0, .int .u64 0, .int .u64 0, .int .u64 0, .int .u64 0, .int .u64 0, .int .u64 0, .int .u64 0, .int .u64 0, .int .u64 0, .int .u64 0, .int .u64 0, .int .u64 0, .int .u64 0]) 1 ps K := Abs.buildA_array (e := 95) (n := 20) (by kernel_rfl) Tryz.ze225 (by kernel_rfl) ps K
@[go_sem] theorem Tryz.sz228 : Abs.sizeT prog 228 = some 1 := by kernel_rfl
@[go_sem] theorem Tryz.by228 : Abs.bytesT prog 228 = some 8 := by kernel_rfl
@[go_sem] theorem Tryz.ze228 : Abs.zeroT prog 228 = some (.nilFunc) := by kernel_rfl
@[go_sem] theorem Tryz.sl231 : Abs.sliceT prog 231 = some 228 := by kernel_rfl
@[go_sem] theorem Tryz.ze245 : Abs.zeroT prog 245 = some (.agg #[.int .u8 0, .int .u8 0, .int .u8 0, .int .u8 0, .int .u8 0, .int .u8 0, .int .u8 0, .int .u8 0, .int .u8 0, .int .u8 0, .int .u8 0, .int .u8 0, .int .u8 0, .int .u8 0, .int .u8 0, .int .u8 0, .int .u8 0, .int .u8 0, .int .u8 0, .int .u8 0, .int .u8 0, .int .u8 0, .int .u8 0, .int .u8 0, .int .u8 0, .int .u8 0, .int .u8 0, .int .u8 0, .int .u8 0, .int .u8 0, .int .u8 0, .int .u8 0]) := by kernel_rfl
@[go_sem] theorem Tryz.ba245 (ps : List (Nat × Abs.AV)) (K : Abs.Cont) : Abs.buildA prog 245 ps K = Abs.baC (.agg #[.int .u8 0, .int .u8 0, .int .u8 0, .int .u8 0, .int .u8 0, .int .u8 0, .int .u8 0, .int .u8 0, .int .u8 0, .int .u8 0, .int .u8 0, .int .u8 0, .int .u8 0, .int .u8 0, .int .u8 0, .int .u8 0, .int .u8 0, .int .u8 0, .int .u8 0, .int .u8 0, .int .u8 0, .int .u8 0, .int .u8 0, .int .u8 0, .int .u8 0, .int .u8 0, .int .u8 0, .int .u8 0, .int .u8 0, .int .u8 0, .int .u8 0, .int .u8 0]) 1 ps K := Abs.buildA_array (e := 5) (n := 32) (by kernel_rfl) Tryz.ze245 (by kernel_rfl) ps K
@[go_sem] theorem Tryz.ze249 : Abs.zeroT prog 249 = some (.agg #[]) := by kernel_rfl
@[go_sem] theorem Tryz.ba249 (ps : List (Nat × Abs.AV)) (K : Abs.Cont) : Abs.buildA prog 249 ps K = Abs.baC (.agg #[]) 1 ps K := Abs.buildA_array (e := 16) (n := 0) (by kernel_rfl) Tryz.ze249 (by kernel_rfl) ps K
@[go_sem] theorem Tryz.ap22 (s x : Abs.AV) (H : Nat → Abs.AObj) (nx : Nat) (K : Abs.Cont) : Abs.appendA prog 22 s x H nx K = Abs.appC 24 s x H nx K := Abs.appendA_box Tryz.sl22 Tryz.sz47 Tryz.by47 Tryz.ze47 rfl rfl s x H nx K
@[go_sem] theorem Tryz.bs22 (n : Nat) (ps : List (Nat × Abs.AV)) (H : Nat → Abs.AObj) (nx : Nat) (K : Abs.Cont) : Abs.buildSliceA prog 22 n ps H nx K = Abs.bsC n ps H nx K := Abs.buildSliceA_box Tryz.sl22 Tryz.sz47 Tryz.ze47 rfl rfl n ps H nx K
@[go_sem] theorem Tryz.bs25 (n : Nat) (ps : List (Nat × Abs.AV)) (H : Nat → Abs.AObj) (nx : Nat) (K : Abs.Cont) : Abs.buildSliceA prog 25 n ps H nx K = Abs.bsR 1 n ps H nx K := Abs.buildSliceA_row Tryz.sl25 Tryz.sz3 Tryz.ze3 rfl (by decide) rfl n ps H nx K
@[go_sem] theorem Tryz.ap25 (s x : Abs.AV) (H : Nat → Abs.AObj) (nx : Nat) (K : Abs.Cont) : Abs.appendA prog 25 s x H nx K = Abs.appR 1 8 s x H nx K := Abs.appendA_row Tryz.sl25 Tryz.sz3 Tryz.by3 Tryz.ze3 rfl (by decide) rfl s x H nx K
@[go_sem] theorem Tryz.bs31 (n : Nat) (ps : List (Nat × Abs.AV)) (H : Nat → Abs.AObj) (nx : Nat) (K : Abs.Cont) : Abs.buildSliceA prog 31 n ps H nx K = Abs.bsR 1 n ps H nx K := Abs.buildSliceA_row Tryz.sl31 Tryz.sz24 Tryz.ze24 rfl (by decide) rfl n ps H nx K
@[go_sem] theorem Tryz.ap31 (s x : Abs.AV) (H : Nat → Abs.AObj) (nx : Nat) (K : Abs.Cont) : Abs.appendA prog 31 s x H nx K = Abs.appR 1 24 s x H nx K := Abs.appendA_row Tryz.sl31 Tryz.sz24 Tryz.by24 Tryz.ze24 rfl (by decide) rfl s x H nx K
@[go_sem] theorem Tryz.bs37 (n : Nat) (ps : List (Nat × Abs.AV)) (H : Nat → Abs.AObj) (nx : Nat) (K : Abs.Cont) : Abs.buildSliceA prog 37 n ps H nx K = Abs.bsR 1 n ps H nx K := Abs.buildSliceA_row Tryz.sl37 Tryz.sz5 Tryz.ze5 rfl (by decide) rfl n ps H nx K
@[go_sem] theorem Tryz.ap37 (s x : Abs.AV) (H : Nat → Abs.AObj) (nx : Nat) (K : Abs.Cont) : Abs.appendA prog 37 s x H nx K = Abs.appR 1 1 s x H nx K := Abs.appendA_row Tryz.sl37 Tryz.sz5 Tryz.by5 Tryz.ze5 rfl (by decide) rfl s x H nx K
@[go_sem] theorem Tryz.bs47 (n : Nat) (ps : List (Nat × Abs.AV)) (H : Nat → Abs.AObj) (nx : Nat) (K : Abs.Cont) : Abs.buildSliceA prog 47 n ps H nx K = Abs.bsR 2 n ps H nx K := Abs.buildSliceA_row Tryz.sl47 Tryz.sz50 Tryz.ze50 rfl (by decide) rfl n ps H nx K
@[go_sem] theorem Tryz.ap47 (s x : Abs.AV) (H : Nat → Abs.AObj) (nx : Nat) (K : Abs.Cont) : Abs.appendA prog 47 s x H nx K = Abs.appR 2 16 s x H nx K := Abs.appendA_row Tryz.sl47 Tryz.sz50 Tryz.by50 Tryz.ze50 rfl (by decide) rfl s x H nx K
@[go_sem] theorem Tryz.bs55 (n : Nat) (ps : List (Nat × Abs.AV)) (H : Nat → Abs.AObj) (nx : Nat) (K : Abs.Cont) : Abs.buildSliceA prog 55 n ps H nx K = Abs.bsR 7 n ps H nx K := Abs.buildSliceA_row Tryz.sl55 Tryz.sz52 Tryz.ze52 rfl (by decide) rfl n ps H nx K
@[go_sem] theorem Tryz.ap55 (s x : Abs.AV) (H : Nat → Abs.AObj) (nx : Nat) (K : Abs.Cont) : Abs.appendA prog 55 s x H nx K = Abs.appR 7 56 s x H nx K := Abs.appendA_row Tryz.sl55 Tryz.sz52 Tryz.by52 Tryz.ze52 rfl (by decide) rfl s x H nx K
@[go_sem] theorem Tryz.bs62 (n : Nat) (ps : List (Nat × Abs.AV)) (H : Nat → Abs.AObj) (nx : Nat) (K : Abs.Cont) : Abs.buildSliceA prog 62 n ps H nx K = Abs.bsR 3 n ps H nx K := Abs.buildSliceA_row Tryz.sl62 Tryz.sz60 Tryz.ze60 rfl (by decide) rfl n ps H nx K
@[go_sem] theorem Tryz.ap62 (s x : Abs.AV) (H : Nat → Abs.AObj) (nx : Nat) (K : Abs.Cont) : Abs.appendA prog 62 s x H nx K = Abs.appR 3 24 s x H nx K := Abs.appendA_row Tryz.sl62 Tryz.sz60 Tryz.by60 Tryz.ze60 rfl (by decide) rfl s x H nx K
@[go_sem] theorem Tryz.ap68 (s x : Abs.AV) (H : Nat → Abs.AObj) (nx : Nat) (K : Abs.Cont) : Abs.appendA prog 68 s x H nx K = Abs.appC 24 s x H nx K := Abs.appendA_box Tryz.sl68 Tryz.sz25 Tryz.by25 Tryz.ze25 rfl rfl s x H nx K
@[go_sem] theorem Tryz.bs68 (n : Nat) (ps : List (Nat × Abs.AV)) (H : Nat → Abs.AObj) (nx : Nat) (K : Abs.Cont) : Abs.buildSliceA prog 68 n ps H nx K = Abs.bsC n ps H nx K := Abs.buildSliceA_box Tryz.sl68 Tryz.sz25 Tryz.ze25 rfl rfl n ps H nx K
@[go_sem] theorem Tryz.bs71 (n : Nat) (ps : List (Nat × Abs.AV)) (H : Nat → Abs.AObj) (nx : Nat) (K : Abs.Cont) : Abs.buildSliceA prog 71 n ps H nx K = Abs.bsR 1 n ps H nx K := Abs.buildSliceA_row Tryz.sl71 Tryz.sz87 Tryz.ze87 rfl (by decide) rfl n ps H nx K
@[go_sem] theorem Tryz.ap71 (s x : Abs.AV) (H : Nat → Abs.AObj) (nx : Nat) (K : Abs.Cont) : Abs.appendA prog 71 s x H nx K = Abs.appR 1 24 s x H nx K := Abs.appendA_row Tryz.sl71 Tryz.sz87 Tryz.by87 Tryz.ze87 rfl (by decide) rfl s x H nx K
@[go_sem] theorem Tryz.bs72 (n : Nat) (ps : List (Nat × Abs.AV)) (H : Nat → Abs.AObj) (nx : Nat) (K : Abs.Cont) : Abs.buildSliceA prog 72 n ps H nx K = Abs.bsR 6 n ps H nx K := Abs.buildSliceA_row Tryz.sl72 Tryz.sz77 Tryz.ze77 rfl (by decide) rfl n ps H nx K
@[go_sem] theorem Tryz.ap72 (s x : Abs.AV) (H : Nat → Abs.AObj) (nx : Nat) (K : Abs.Cont) : Abs.appendA prog 72 s x H nx K = Abs.appR 6 48 s x H nx K := Abs.appendA_row Tryz.sl72 Tryz.sz77 Tryz.by77 Tryz.ze77 rfl (by decide) rfl s x H nx K
@[go_sem] theorem Tryz.bs125 (n : Nat) (ps : List (Nat × Abs.AV)) (H : Nat → Abs.AObj) (nx : Nat) (K : Abs.Cont) : Abs.buildSliceA prog 125 n ps H nx K = Abs.bsR 3 n ps H nx K := Abs.buildSliceA_row Tryz.sl125 Tryz.sz129 Tryz.ze129 rfl (by decide) rfl n ps H nx K
@[go_sem] theorem Tryz.ap125 (s x : Abs.AV) (H : Nat → Abs.AObj) (nx : Nat) (K : Abs.Cont) : Abs.appendA prog 125 s x H nx K = Abs.appR 3 56 s x H nx K := Abs.appendA_row Tryz.sl125 Tryz.sz129 Tryz.by129 Tryz.ze129 rfl (by decide) rfl s x H nx K
@[go_sem] theorem Tryz.bs231 (n : Nat) (ps : List (Nat × Abs.AV)) (H : Nat → Abs.AObj) (nx : Nat) (K : Abs.Cont) : Abs.buildSliceA prog 231 n ps H nx K = Abs.bsR 1 n ps H nx K := Abs.buildSliceA_row Tryz.sl231 Tryz.sz228 Tryz.ze228 rfl (by decide) rfl n ps H nx K
@[go_sem] theorem Tryz.ap231 (s x : Abs.AV) (H : Nat → Abs.AObj) (nx : Nat) (K : Abs.Cont) : Abs.appendA prog 231 s x H nx K = Abs.appR 1 8 s x H nx K := Abs.appendA_row Tryz.sl231 Tryz.sz228 Tryz.by228 Tryz.ze228 rfl (by decide) rfl s x H nx K
@[go_sem] theorem Tryz.eq50 (a0 b0 : Int) (a1 b1 : Int) : Abs.eqC prog 50 [.int .i64 a0, .int .i64 a1] [.int .i64 b0, .int .i64 b1] = some (a0 == b0 && a1 == b1) := by
 refine Abs.eqC_V (by kernel_rfl) ?_
 have h : Abs.eqV prog 5 50 [.int .i64 a0, .int .i64 a1] [.int .i64 b0, .int .i64 b1] = Abs.andO (some (a0 == b0)) (Abs.andO (some (a1 == b1)) (some true)) := by kernel_rfl
 rw [h]; generalize (a0 == b0) = x0; generalize (a1 == b1) = x1; revert x0 x1; decide
@[go_sem] theorem Tryz.eq52 (a0 b0 : Int) (a1 b1 : Int) (a2 b2 : Int) (a3 b3 : Int) (a4 b4 : Int) (a5 b5 : Int) (a6 b6 : Int) : Abs.eqC prog 52 [.int .i64 a0, .int .i64 a1, .int .i64 a2, .int .i64 a3, .int .i64 a4, .int .i64 a5, .int .i64 a6] [.int .i64 b0, .int .i64 b1, .int .i64 b2, .int .i64 b3, .int .i64 b4, .int .i64 b5, .int .i64 b6] = some (a0 == b0 && a1 == b1 && a2 == b2 && a3 == b3 && a4 == b4 && a5 == b5 && a6 == b6) := by
 refine Abs.eqC_V (by kernel_rfl) ?_
 have h : Abs.eqV prog 5 52 [.int .i64 a0, .int .i64 a1, .int .i64 a2, .int .i64 a3, .int .i64 a4, .int .i64 a5, .int .i64 a6] [.int .i64 b0, .int .i64 b1, .int .i64 b2, .int .i64 b3, .int .i64 b4, .int .i64 b5, .int .i64 b6] = Abs.andO (some (a0 == b0)) (Abs.andO (some (a1 == b1)) (Abs.andO (some (a2 == b2)) (Abs.andO (Abs.andO (some (a3 == b3)) (Abs.andO (some (a4 == b4)) (some true))) (Abs.andO (Abs.andO (some (a5 == b5)) (Abs.andO (some (a6 == b6)) (some true))) (some true))))) := by kernel_rfl
 rw [h]; generalize (a0 == b0) = x0; generalize (a1 == b1) = x1; generalize (a2 == b2) = x2; generalize (a3 == b3) = x3; generalize (a4 == b4) = x4; generalize (a5 == b5) = x5; generalize (a6 == b6) = x6; revert x0 x1 x2 x3 x4 x5 x6; decide
@[go_sem] theorem Tryz.eq60 (a0 b0 : Int) (a1 b1 : Int) (a2 b2 : Int) : Abs.eqC prog 60 [.int .i64 a0, .int .i64 a1, .int .i64 a2] [.int .i64 b0, .int .i64 b1, .int .i64 b2] = some (a0 == b0 && a1 == b1 && a2 == b2) := by
 refine Abs.eqC_V (by kernel_rfl) ?_
 have h : Abs.eqV prog 5 60 [.int .i64 a0, .int .i64 a1, .int .i64 a2] [.int .i64 b0, .int .i64 b1, .int .i64 b2] = Abs.andO (some (a0 == b0)) (Abs.andO (Abs.andO (some (a1 == b1)) (Abs.andO (some (a2 == b2)) (some true))) (some true)) := by kernel_rfl
 rw [h]; generalize (a0 == b0) = x0; generalize (a1 == b1) = x1; generalize (a2 == b2) = x2; revert x0 x1 x2; decide
@[go_sem] theorem Tryz.eq77 (a0 b0 : Int) (a1 b1 : Int) (a2 b2 : Int) (a3 b3 : Int) (a4 b4 : Int) (a5 b5 : Int) : Abs.eqC prog 77 [.int .i64 a0, .int .i64 a1, .int .i64 a2, .int .i64 a3, .int .i64 a4, .int .i64 a5] [.int .i64 b0, .int .i64 b1, .int .i64 b2, .int .i64 b3, .int .i64 b4, .int .i64 b5] = some (a0 == b0 && a1 == b1 && a2 == b2 && a3 == b3 && a4 == b4 && a5 == b5) := by
 refine Abs.eqC_V (by kernel_rfl) ?_
 have h : Abs.eqV prog 5 77 [.int .i64 a0, .int .i64 a1, .int .i64 a2, .int .i64 a3, .int .i64 a4, .int .i64 a5] [.int .i64 b0, .int .i64 b1, .int .i64 b2, .int .i64 b3, .int .i64 b4, .int .i64 b5] = Abs.andO (Abs.andO (some (a0 == b0)) (Abs.andO (Abs.andO (some (a1 == b1)) (Abs.andO (some (a2 == b2)) (some true))) (some true))) (Abs.andO (Abs.andO (some (a3 == b3)) (Abs.andO (Abs.andO (some (a4 == b4)) (Abs.andO (some (a5 == b5)) (some true))) (some true))) (some true)) := by kernel_rfl
 rw [h]; generalize (a0 == b0) = x0; generalize (a1 == b1) = x1; generalize (a2 == b2) = x2; generalize (a3 == b3) = x3; generalize (a4 == b4) = x4; generalize (a5 == b5) = x5; revert x0 x1 x2 x3 x4 x5; decide
@[go_sem] theorem Tryz.eq229 (a0 b0 : Int) (a1 b1 : Int) : Abs.eqC prog 229 [.int .i64 a0, .int .i64 a1] [.int .i64 b0, .int .i64 b1] = some (a0 == b0 && a1 == b1) := by
 refine Abs.eqC_V (by kernel_rfl) ?_
 have h : Abs.eqV prog 5 229 [.int .i64 a0, .int .i64 a1] [.int .i64 b0, .int .i64 b1] = Abs.andO (some (a0 == b0)) (Abs.andO (some (a1 == b1)) (some true)) := by kernel_rfl
 rw [h]; generalize (a0 == b0) = x0; generalize (a1 == b1) = x1; revert x0 x1; decide
theorem Tryz.mixed : prog.follows .mixedOrders = true := by kernel_rfl
end Go.Proofs
namespace Go.Abs
open Go Go.Proofs Tryz
noncomputable abbrev zza := U3 prog
noncomputable abbrev zzb := bytesT prog
noncomputable abbrev zzc := r8 prog
noncomputable abbrev zzd := B3 prog
noncomputable abbrev zze := zOP prog
noncomputable abbrev zzf := v8 prog
noncomputable abbrev zzg := sizeT prog
noncomputable abbrev zzh := sliceT prog
noncomputable abbrev zzi := b8 prog
noncomputable abbrev zzj := J4 prog
noncomputable abbrev zzk := zeroT prog
@[go_sem] theorem Tryz.facts0 : zzf 1 = some false ∧ zzg 1 = some 1 ∧ zzb 1 = some 8 ∧ zzk 1 = some (.nilFunc) ∧ zzh 1 = none ∧ zzf 2 = some false ∧ zzg 2 = some 1 ∧ zzb 2 = some 8 ∧ zzk 2 = some (.int .i64 0) ∧ zzh 2 = none ∧ zze 2 = some .i64 ∧ prog.underlying 2 = some (.int .i64) ∧ zzf 3 = some false ∧ zzh 3 = none ∧ zze 3 = some .i64 ∧ prog.underlying 3 = some (.int .i64) ∧ zzf 4 = some false ∧ zzg 4 = some 1 ∧ zzb 4 = some 1 ∧ zzk 4 = some (.bool false) := by (repeat' apply And.intro) <;> kernel_rfl
@[go_sem] theorem Tryz.facts1 : zzh 4 = none ∧ prog.underlying 4 = some (.bool) ∧ zzf 5 = some false ∧ zzh 5 = none ∧ zze 5 = some .u8 ∧ prog.underlying 5 = some (.int .u8) ∧ zzf 6 = some false ∧ zzg 6 = some 1 ∧ zzb 6 = some 1 ∧ zzk 6 = some (.int .u8 0) ∧ zzh 6 = none ∧ zze 6 = some .u8 ∧ prog.underlying 6 = some (.int .u8) ∧ zzf 7 = some true ∧ zzg 7 = some 4 ∧ zzb 7 = some 24 ∧ zzk 7 = some (.agg #[.int .i64 0, .int .i64 0, .bool false, .int .u8 0]) ∧ zzh 7 = none ∧ zzj 7 = true ∧ y2 prog 7 0 = some (2, 0) := by (repeat' apply And.intro) <;> kernel_rfl
@[go_sem] theorem Tryz.facts2 : y2 prog 7 1 = some (3, 1) ∧ y2 prog 7 2 = some (4, 2) ∧ y2 prog 7 3 = some (6, 3) ∧ zzf 8 = some true ∧ zzg 8 = some 4 ∧ zzb 8 = some 24 ∧ zzk 8 = some (.agg #[.int .i64 0, .int .i64 0, .bool false, .int .u8 0]) ∧ zzh 8 = none ∧ zzj 8 = true ∧ y2 prog 8 0 = some (2, 0) ∧ y2 prog 8 1 = some (3, 1) ∧ y2 prog 8 2 = some (4, 2) ∧ y2 prog 8 3 = some (6, 3) ∧ zzf 9 = some false ∧ zzg 9 = some 1 ∧ zzb 9 = some 16 ∧ zzk 9 = some (.string ⟨#[]⟩) ∧ zzh 9 = none ∧ zzi 9 = true ∧ zze 9 = none := by (repeat' apply And.intro) <;> kernel_rfl
@[go_sem] theorem Tryz.facts3 : prog.underlying 9 = some (.string) ∧ zzf 10 = some false ∧ zzg 10 = some 1 ∧ zzb 10 = some 16 ∧ zzk 10 = some (.string ⟨#[]⟩) ∧ zzh 10 = none ∧ zzi 10 = true ∧ zze 10 = none ∧ prog.underlying 10 = some (.string) ∧ zzi 11 = true ∧ zze 11 = none ∧ zze 12 = some .u64 ∧ zzf 13 = some true ∧ zzg 13 = some 2 ∧ zzb 13 = some 24 ∧ zzk 13 = some (.agg #[.string ⟨#[]⟩, .int .u64 0]) ∧ zzh 13 = none ∧ zzj 13 = true ∧ y2 prog 13 0 = some (9, 0) ∧ y2 prog 13 1 = some (12, 1) := by (repeat' apply And.intro) <;> kernel_rfl
@[go_sem] theorem Tryz.facts4 : zzf 14 = some true ∧ zzg 14 = some 2 ∧ zzb 14 = some 24 ∧ zzk 14 = some (.agg #[.string ⟨#[]⟩, .int .u64 0]) ∧ zzh 14 = none ∧ zzj 14 = true ∧ y2 prog 14 0 = some (9, 0) ∧ y2 prog 14 1 = some (12, 1) ∧ zzd 15 = true ∧ zzf 16 = some false ∧ zzg 16 = some 1 ∧ zzb 16 = some 8 ∧ zzk 16 = some (.pointer none) ∧ zzh 16 = none ∧ zzd 16 = true ∧ zzf 17 = some false ∧ zzg 17 = some 1 ∧ zzb 17 = some 8 ∧ zzk 17 = some (.pointer none) ∧ zzh 17 = none := by (repeat' apply And.intro) <;> kernel_rfl
@[go_sem] theorem Tryz.facts5 : zzd 17 = true ∧ zzf 18 = some true ∧ zzg 18 = some 1 ∧ zzb 18 = some 8 ∧ zzk 18 = some (.agg #[.pointer none]) ∧ zzh 18 = none ∧ zzj 18 = true ∧ y2 prog 18 0 = some (17, 0) ∧ zzf 19 = some true ∧ zzg 19 = some 1 ∧ zzb 19 = some 8 ∧ zzk 19 = some (.agg #[.pointer none]) ∧ zzh 19 = none ∧ zzj 19 = true ∧ y2 prog 19 0 = some (17, 0) ∧ zzf 20 = some false ∧ zzg 20 = some 1 ∧ zzb 20 = some 16 ∧ zzk 20 = some (.nilIface) ∧ zzh 20 = none := by (repeat' apply And.intro) <;> kernel_rfl
@[go_sem] theorem Tryz.facts6 : zzf 21 = some false ∧ zzg 21 = some 1 ∧ zzb 21 = some 4 ∧ zzk 21 = some (.int .i32 0) ∧ zzh 21 = none ∧ zze 21 = some .i32 ∧ prog.underlying 21 = some (.int .i32) ∧ zzf 22 = some false ∧ zzg 22 = some 1 ∧ zzb 22 = some 24 ∧ zzk 22 = some (.slice none 0 0) ∧ prog.underlying 22 = some (.slice 47) ∧ zzf 23 = some true ∧ zzg 23 = some 1 ∧ zzb 23 = some 24 ∧ zzk 23 = some (.agg #[.slice none 0 0]) ∧ zzh 23 = none ∧ zzj 23 = true ∧ y2 prog 23 0 = some (22, 0) ∧ zzf 24 = some true := by (repeat' apply And.intro) <;> kernel_rfl
@[go_sem] theorem Tryz.facts7 : zzh 24 = none ∧ zzd 24 = true ∧ zzj 24 = true ∧ y2 prog 24 0 = some (22, 0) ∧ zzf 25 = some false ∧ prog.underlying 25 = some (.slice 3) ∧ zzf 27 = some false ∧ zzg 27 = some 1 ∧ zzb 27 = some 8 ∧ zzk 27 = some (.nilFunc) ∧ zzh 27 = none ∧ zzf 28 = some false ∧ zzg 28 = some 1 ∧ zzb 28 = some 8 ∧ zzk 28 = some (.nilFunc) ∧ zzh 28 = none ∧ zzf 29 = some false ∧ zzg 29 = some 1 ∧ zzb 29 = some 8 ∧ zzk 29 = some (.pointer none) := by (repeat' apply And.intro) <;> kernel_rfl
@[go_sem] theorem Tryz.facts8 : zzh 29 = none ∧ zzd 29 = true ∧ zzf 30 = some false ∧ zzg 30 = some 1 ∧ zzb 30 = some 8 ∧ zzk 30 = some (.nilFunc) ∧ zzh 30 = none ∧ zzf 31 = some false ∧ zzg 31 = some 1 ∧ zzb 31 = some 24 ∧ zzk 31 = some (.slice none 0 0) ∧ prog.underlying 31 = some (.slice 24) ∧ zzf 33 = some false ∧ zzg 33 = some 1 ∧ zzb 33 = some 8 ∧ zzk 33 = some (.int .i64 0) ∧ zzh 33 = none ∧ zze 33 = some .i64 ∧ prog.underlying 33 = some (.int .i64) ∧ zzd 33 = true := by (repeat' apply And.intro) <;> kernel_rfl
@[go_sem] theorem Tryz.facts9 : zzf 35 = some false ∧ zzg 35 = some 1 ∧ zzb 35 = some 8 ∧ zzk 35 = some (.nilFunc) ∧ zzh 35 = none ∧ zzf 37 = some false ∧ zzg 37 = some 1 ∧ zzb 37 = some 24 ∧ zzk 37 = some (.slice none 0 0) ∧ prog.underlying 37 = some (.slice 5) ∧ zzf 38 = some false ∧ zzg 38 = some 1 ∧ zzb 38 = some 8 ∧ zzk 38 = some (.nilFunc) ∧ zzh 38 = none ∧ zzf 41 = some false ∧ zzg 41 = some 1 ∧ zzb 41 = some 8 ∧ zzk 41 = some (.nilFunc) ∧ zzh 41 = none := by (repeat' apply And.intro) <;> kernel_rfl
@[go_sem] theorem Tryz.facts10 : zzf 42 = some false ∧ zzg 42 = some 1 ∧ zzb 42 = some 8 ∧ zzk 42 = some (.nilFunc) ∧ zzh 42 = none ∧ zzf 43 = some false ∧ zzg 43 = some 1 ∧ zzb 43 = some 8 ∧ zzk 43 = some (.nilFunc) ∧ zzh 43 = none ∧ zzf 44 = some false ∧ zzg 44 = some 1 ∧ zzb 44 = some 8 ∧ zzk 44 = some (.nilFunc) ∧ zzh 44 = none ∧ zzf 45 = some false ∧ zzg 45 = some 1 ∧ zzb 45 = some 8 ∧ zzk 45 = some (.nilFunc) ∧ zzh 45 = none := by (repeat' apply And.intro) <;> kernel_rfl
@[go_sem] theorem Tryz.facts11 : zzf 46 = some false ∧ zzg 46 = some 1 ∧ zzb 46 = some 8 ∧ zzk 46 = some (.nilFunc) ∧ zzh 46 = none ∧ zzf 47 = some false ∧ prog.underlying 47 = some (.slice 50) ∧ zzf 48 = some false ∧ zzg 48 = some 1 ∧ zzb 48 = some 8 ∧ zzk 48 = some (.nilFunc) ∧ zzh 48 = none ∧ zzf 49 = some true ∧ zzg 49 = some 2 ∧ zzb 49 = some 16 ∧ zzk 49 = some (.agg #[.int .i64 0, .int .i64 0]) ∧ zzh 49 = none ∧ zzj 49 = true ∧ y2 prog 49 0 = some (3, 0) ∧ y2 prog 49 1 = some (3, 1) := by (repeat' apply And.intro) <;> kernel_rfl
@[go_sem] theorem Tryz.facts12 : zzf 50 = some true ∧ zzh 50 = none ∧ zzd 50 = true ∧ zzj 50 = true ∧ y2 prog 50 0 = some (3, 0) ∧ y2 prog 50 1 = some (3, 1) ∧ zzf 51 = some true ∧ zzg 51 = some 7 ∧ zzb 51 = some 56 ∧ zzk 51 = some (.agg #[.int .i64 0, .int .i64 0, .int .i64 0, .int .i64 0, .int .i64 0, .int .i64 0, .int .i64 0]) ∧ zzh 51 = none ∧ zzj 51 = true ∧ y2 prog 51 0 = some (3, 0) ∧ y2 prog 51 1 = some (3, 1) ∧ y2 prog 51 2 = some (3, 2) ∧ y2 prog 51 3 = some (50, 3) ∧ y2 prog 51 4 = some (50, 5) ∧ zzf 52 = some true ∧ zzh 52 = none ∧ zzd 52 = true := by (repeat' apply And.intro) <;> kernel_rfl
@[go_sem] theorem Tryz.facts13 : zzj 52 = true ∧ y2 prog 52 0 = some (3, 0) ∧ y2 prog 52 1 = some (3, 1) ∧ y2 prog 52 2 = some (3, 2) ∧ y2 prog 52 3 = some (50, 3) ∧ y2 prog 52 4 = some (50, 5) ∧ zzf 54 = some false ∧ zzg 54 = some 1 ∧ zzb 54 = some 8 ∧ zzk 54 = some (.nilFunc) ∧ zzh 54 = none ∧ zzf 55 = some false ∧ zzg 55 = some 1 ∧ zzb 55 = some 24 ∧ zzk 55 = some (.slice none 0 0) ∧ prog.underlying 55 = some (.slice 52) ∧ zzf 57 = some false ∧ zzg 57 = some 1 ∧ zzb 57 = some 8 ∧ zzk 57 = some (.nilFunc) := by (repeat' apply And.intro) <;> kernel_rfl
@[go_sem] theorem Tryz.facts14 : zzh 57 = none ∧ zzf 58 = some false ∧ zzg 58 = some 1 ∧ zzb 58 = some 8 ∧ zzk 58 = some (.nilFunc) ∧ zzh 58 = none ∧ zzf 59 = some true ∧ zzg 59 = some 3 ∧ zzb 59 = some 24 ∧ zzk 59 = some (.agg #[.int .i64 0, .int .i64 0, .int .i64 0]) ∧ zzh 59 = none ∧ zzj 59 = true ∧ y2 prog 59 0 = some (3, 0) ∧ y2 prog 59 1 = some (50, 1) ∧ zzf 60 = some true ∧ zzh 60 = none ∧ zzd 60 = true ∧ zzj 60 = true ∧ y2 prog 60 0 = some (3, 0) ∧ y2 prog 60 1 = some (50, 1) := by (repeat' apply And.intro) <;> kernel_rfl
@[go_sem] theorem Tryz.facts15 : zzf 62 = some false ∧ zzg 62 = some 1 ∧ zzb 62 = some 24 ∧ zzk 62 = some (.slice none 0 0) ∧ prog.underlying 62 = some (.slice 60) ∧ zzf 64 = some false ∧ zzg 64 = some 1 ∧ zzb 64 = some 8 ∧ zzk 64 = some (.nilFunc) ∧ zzh 64 = none ∧ zzf 65 = some false ∧ zzg 65 = some 1 ∧ zzb 65 = some 8 ∧ zzk 65 = some (.nilFunc) ∧ zzh 65 = none ∧ zzf 67 = some false ∧ zzg 67 = some 1 ∧ zzb 67 = some 8 ∧ zzk 67 = some (.nilFunc) ∧ zzh 67 = none := by (repeat' apply And.intro) <;> kernel_rfl
@[go_sem] theorem Tryz.facts16 : zzf 68 = some false ∧ zzg 68 = some 1 ∧ zzb 68 = some 24 ∧ zzk 68 = some (.slice none 0 0) ∧ prog.underlying 68 = some (.slice 25) ∧ zzf 70 = some false ∧ zzg 70 = some 1 ∧ zzb 70 = some 8 ∧ zzk 70 = some (.nilFunc) ∧ zzh 70 = none ∧ zzf 71 = some false ∧ zzg 71 = some 1 ∧ zzb 71 = some 24 ∧ zzk 71 = some (.slice none 0 0) ∧ prog.underlying 71 = some (.slice 87) ∧ zzf 72 = some false ∧ zzg 72 = some 1 ∧ zzb 72 = some 24 ∧ zzk 72 = some (.slice none 0 0) ∧ prog.underlying 72 = some (.slice 77) := by (repeat' apply And.intro) <;> kernel_rfl
@[go_sem] theorem Tryz.facts17 : zzf 73 = some true ∧ zzg 73 = some 3 ∧ zzb 73 = some 72 ∧ zzk 73 = some (.agg #[.slice none 0 0, .slice none 0 0, .slice none 0 0]) ∧ zzh 73 = none ∧ zzj 73 = true ∧ y2 prog 73 0 = some (24, 0) ∧ y2 prog 73 1 = some (71, 1) ∧ y2 prog 73 2 = some (72, 2) ∧ zzf 74 = some true ∧ zzg 74 = some 3 ∧ zzb 74 = some 72 ∧ zzk 74 = some (.agg #[.slice none 0 0, .slice none 0 0, .slice none 0 0]) ∧ zzh 74 = none ∧ zzd 74 = true ∧ zzj 74 = true ∧ y2 prog 74 0 = some (24, 0) ∧ y2 prog 74 1 = some (71, 1) ∧ y2 prog 74 2 = some (72, 2) ∧ zzf 75 = some false := by (repeat' apply And.intro) <;> kernel_rfl
@[go_sem] theorem Tryz.facts18 : zzg 75 = some 1 ∧ zzb 75 = some 8 ∧ zzk 75 = some (.nilFunc) ∧ zzh 75 = none ∧ zzf 76 = some true ∧ zzg 76 = some 6 ∧ zzb 76 = some 48 ∧ zzk 76 = some (.agg #[.int .i64 0, .int .i64 0, .int .i64 0, .int .i64 0, .int .i64 0, .int .i64 0]) ∧ zzh 76 = none ∧ zzj 76 = true ∧ y2 prog 76 0 = some (60, 0) ∧ y2 prog 76 1 = some (60, 3) ∧ zzf 77 = some true ∧ zzh 77 = none ∧ zzd 77 = true ∧ zzj 77 = true ∧ y2 prog 77 0 = some (60, 0) ∧ y2 prog 77 1 = some (60, 3) ∧ zzf 79 = some false ∧ zzg 79 = some 1 := by (repeat' apply And.intro) <;> kernel_rfl
@[go_sem] theorem Tryz.facts19 : zzb 79 = some 8 ∧ zzk 79 = some (.nilFunc) ∧ zzh 79 = none ∧ zzf 81 = some false ∧ zzg 81 = some 1 ∧ zzb 81 = some 8 ∧ zzk 81 = some (.nilFunc) ∧ zzh 81 = none ∧ zzf 82 = some false ∧ zzg 82 = some 1 ∧ zzb 82 = some 8 ∧ zzk 82 = some (.nilFunc) ∧ zzh 82 = none ∧ zzf 84 = some false ∧ zzg 84 = some 1 ∧ zzb 84 = some 8 ∧ zzk 84 = some (.nilFunc) ∧ zzh 84 = none ∧ zzf 85 = some false ∧ zzg 85 = some 1 := by (repeat' apply And.intro) <;> kernel_rfl
@[go_sem] theorem Tryz.facts20 : zzb 85 = some 8 ∧ zzk 85 = some (.nilFunc) ∧ zzh 85 = none ∧ zzf 86 = some true ∧ zzg 86 = some 1 ∧ zzb 86 = some 24 ∧ zzk 86 = some (.agg #[.slice none 0 0]) ∧ zzh 86 = none ∧ zzj 86 = true ∧ y2 prog 86 0 = some (55, 0) ∧ zzf 87 = some true ∧ zzh 87 = none ∧ zzd 87 = true ∧ zzj 87 = true ∧ y2 prog 87 0 = some (55, 0) ∧ zzf 89 = some false ∧ zzg 89 = some 1 ∧ zzb 89 = some 8 ∧ zzk 89 = some (.nilFunc) ∧ zzh 89 = none := by (repeat' apply And.intro) <;> kernel_rfl
@[go_sem] theorem Tryz.facts21 : zzf 91 = some false ∧ zzg 91 = some 1 ∧ zzb 91 = some 8 ∧ zzk 91 = some (.nilFunc) ∧ zzh 91 = none ∧ zzf 92 = some false ∧ zzg 92 = some 1 ∧ zzb 92 = some 8 ∧ zzk 92 = some (.nilFunc) ∧ zzh 92 = none ∧ zzf 94 = some false ∧ zzg 94 = some 1 ∧ zzb 94 = some 8 ∧ zzk 94 = some (.nilFunc) ∧ zzh 94 = none ∧ zzf 95 = some false ∧ zzg 95 = some 1 ∧ zzb 95 = some 8 ∧ zzk 95 = some (.int .u64 0) ∧ zzh 95 = none := by (repeat' apply And.intro) <;> kernel_rfl
@[go_sem] theorem Tryz.facts22 : zze 95 = some .u64 ∧ prog.underlying 95 = some (.int .u64) ∧ zzf 96 = some true ∧ zzg 96 = some 3 ∧ zzb 96 = some 40 ∧ zzk 96 = some (.agg #[.slice none 0 0, .int .i64 0, .int .u64 0]) ∧ zzh 96 = none ∧ zzj 96 = true ∧ y2 prog 96 0 = some (25, 0) ∧ y2 prog 96 1 = some (3, 1) ∧ y2 prog 96 2 = some (95, 2) ∧ zzf 97 = some true ∧ zzg 97 = some 3 ∧ zzb 97 = some 40 ∧ zzk 97 = some (.agg #[.slice none 0 0, .int .i64 0, .int .u64 0]) ∧ zzh 97 = none ∧ zzd 97 = true ∧ zzj 97 = true ∧ y2 prog 97 0 = some (25, 0) ∧ y2 prog 97 1 = some (3, 1) := by (repeat' apply And.intro) <;> kernel_rfl
@[go_sem] theorem Tryz.facts23 : y2 prog 97 2 = some (95, 2) ∧ zzf 98 = some false ∧ zzg 98 = some 1 ∧ zzb 98 = some 8 ∧ zzk 98 = some (.pointer none) ∧ zzh 98 = none ∧ zzd 98 = true ∧ zzf 99 = some true ∧ zzg 99 = some 2 ∧ zzb 99 = some 32 ∧ zzk 99 = some (.agg #[.pointer none, .slice none 0 0]) ∧ zzh 99 = none ∧ zzj 99 = true ∧ y2 prog 99 0 = some (98, 0) ∧ y2 prog 99 1 = some (37, 1) ∧ zzf 100 = some true ∧ zzg 100 = some 2 ∧ zzb 100 = some 32 ∧ zzk 100 = some (.agg #[.pointer none, .slice none 0 0]) ∧ zzh 100 = none := by (repeat' apply And.intro) <;> kernel_rfl
@[go_sem] theorem Tryz.facts24 : zzj 100 = true ∧ y2 prog 100 0 = some (98, 0) ∧ y2 prog 100 1 = some (37, 1) ∧ zzf 102 = some false ∧ zzg 102 = some 1 ∧ zzb 102 = some 16 ∧ zzk 102 = some (.nilIface) ∧ zzh 102 = none ∧ zzf 104 = some false ∧ zzg 104 = some 1 ∧ zzb 104 = some 8 ∧ zzk 104 = some (.nilFunc) ∧ zzh 104 = none ∧ zzf 105 = some false ∧ zzg 105 = some 1 ∧ zzb 105 = some 8 ∧ zzk 105 = some (.nilFunc) ∧ zzh 105 = none ∧ zzf 106 = some false ∧ zzg 106 = some 1 := by (repeat' apply And.intro) <;> kernel_rfl
@[go_sem] theorem Tryz.facts25 : zzb 106 = some 8 ∧ zzk 106 = some (.nilFunc) ∧ zzh 106 = none ∧ zzf 107 = some false ∧ zzg 107 = some 1 ∧ zzb 107 = some 8 ∧ zzk 107 = some (.nilFunc) ∧ zzh 107 = none ∧ zzf 109 = some false ∧ zzg 109 = some 1 ∧ zzb 109 = some 8 ∧ zzk 109 = some (.nilFunc) ∧ zzh 109 = none ∧ zzf 110 = some false ∧ zzg 110 = some 1 ∧ zzb 110 = some 8 ∧ zzk 110 = some (.int .i64 0) ∧ zzh 110 = none ∧ zze 110 = some .i64 ∧ prog.underlying 110 = some (.int .i64) := by (repeat' apply And.intro) <;> kernel_rfl
@[go_sem] theorem Tryz.facts26 : zzd 110 = true ∧ zzf 111 = some false ∧ zzg 111 = some 1 ∧ zzb 111 = some 8 ∧ zzk 111 = some (.nilFunc) ∧ zzh 111 = none ∧ zzf 112 = some false ∧ zzg 112 = some 1 ∧ zzb 112 = some 8 ∧ zzk 112 = some (.pointer none) ∧ zzh 112 = none ∧ zzd 112 = true ∧ zzf 113 = some false ∧ zzg 113 = some 1 ∧ zzb 113 = some 8 ∧ zzk 113 = some (.nilFunc) ∧ zzh 113 = none ∧ zzf 114 = some false ∧ zzg 114 = some 1 ∧ zzb 114 = some 8 := by (repeat' apply And.intro) <;> kernel_rfl
@[go_sem] theorem Tryz.facts27 : zzk 114 = some (.nilFunc) ∧ zzh 114 = none ∧ zzf 115 = some false ∧ zzg 115 = some 1 ∧ zzb 115 = some 8 ∧ zzk 115 = some (.nilFunc) ∧ zzh 115 = none ∧ zzf 116 = some false ∧ zzg 116 = some 1 ∧ zzb 116 = some 8 ∧ zzk 116 = some (.map none) ∧ zzh 116 = none ∧ zzf 117 = some false ∧ zzg 117 = some 1 ∧ zzb 117 = some 8 ∧ zzk 117 = some (.map none) ∧ zzh 117 = none ∧ zzd 117 = true ∧ zzf 120 = some false ∧ zzg 120 = some 1 := by (repeat' apply And.intro) <;> kernel_rfl
@[go_sem] theorem Tryz.facts28 : zzb 120 = some 8 ∧ zzk 120 = some (.nilFunc) ∧ zzh 120 = none ∧ zzf 124 = some false ∧ zzg 124 = some 1 ∧ zzb 124 = some 8 ∧ zzk 124 = some (.pointer none) ∧ zzh 124 = none ∧ zzd 124 = true ∧ zzf 125 = some false ∧ zzg 125 = some 1 ∧ zzb 125 = some 24 ∧ zzk 125 = some (.slice none 0 0) ∧ prog.underlying 125 = some (.slice 129) ∧ zzf 127 = some false ∧ zzg 127 = some 1 ∧ zzb 127 = some 8 ∧ zzk 127 = some (.nilFunc) ∧ zzh 127 = none ∧ zzf 128 = some true := by (repeat' apply And.intro) <;> kernel_rfl
@[go_sem] theorem Tryz.facts29 : zzg 128 = some 3 ∧ zzb 128 = some 56 ∧ zzk 128 = some (.agg #[.slice none 0 0, .slice none 0 0, .map none]) ∧ zzh 128 = none ∧ zzj 128 = true ∧ y2 prog 128 0 = some (25, 0) ∧ y2 prog 128 1 = some (24, 1) ∧ y2 prog 128 2 = some (117, 2) ∧ zzf 129 = some true ∧ zzh 129 = none ∧ zzd 129 = true ∧ zzj 129 = true ∧ y2 prog 129 0 = some (25, 0) ∧ y2 prog 129 1 = some (24, 1) ∧ y2 prog 129 2 = some (117, 2) ∧ zzf 130 = some false ∧ zzg 130 = some 1 ∧ zzb 130 = some 8 ∧ zzk 130 = some (.nilFunc) ∧ zzh 130 = none := by (repeat' apply And.intro) <;> kernel_rfl
@[go_sem] theorem Tryz.facts30 : zzf 131 = some false ∧ zzg 131 = some 1 ∧ zzb 131 = some 8 ∧ zzk 131 = some (.nilFunc) ∧ zzh 131 = none ∧ zzj 133 = true ∧ zzf 134 = some true ∧ zzg 134 = some 4 ∧ zzb 134 = some 96 ∧ zzk 134 = some (.agg #[.slice none 0 0, .slice none 0 0, .slice none 0 0, .slice none 0 0]) ∧ zzh 134 = none ∧ zzd 134 = true ∧ zzj 134 = true ∧ y2 prog 134 0 = some (74, 0) ∧ y2 prog 134 1 = some (62, 3) ∧ zzf 140 = some false ∧ zzg 140 = some 1 ∧ zzb 140 = some 8 ∧ zzk 140 = some (.nilFunc) ∧ zzh 140 = none := by (repeat' apply And.intro) <;> kernel_rfl
@[go_sem] theorem Tryz.facts31 : zzf 141 = some false ∧ zzg 141 = some 1 ∧ zzb 141 = some 8 ∧ zzk 141 = some (.nilFunc) ∧ zzh 141 = none ∧ zzf 142 = some false ∧ zzg 142 = some 1 ∧ zzb 142 = some 8 ∧ zzk 142 = some (.pointer none) ∧ zzh 142 = none ∧ zzd 142 = true ∧ zzd 143 = true ∧ zzf 144 = some false ∧ zzg 144 = some 1 ∧ zzb 144 = some 8 ∧ zzk 144 = some (.pointer none) ∧ zzh 144 = none ∧ zzf 145 = some false ∧ zzg 145 = some 1 ∧ zzb 145 = some 8 := by (repeat' apply And.intro) <;> kernel_rfl
@[go_sem] theorem Tryz.facts32 : zzk 145 = some (.int .u64 0) ∧ zzh 145 = none ∧ zze 145 = some .u64 ∧ prog.underlying 145 = some (.int .u64) ∧ zzj 146 = true ∧ zzf 147 = some true ∧ zzg 147 = some 3 ∧ zzb 147 = some 24 ∧ zzk 147 = some (.agg #[.pointer none, .pointer none, .int .u64 0]) ∧ zzh 147 = none ∧ zzj 147 = true ∧ y2 prog 147 0 = some (17, 0) ∧ y2 prog 147 1 = some (144, 1) ∧ y2 prog 147 2 = some (145, 2) ∧ zzf 150 = some false ∧ zzg 150 = some 1 ∧ zzb 150 = some 16 ∧ zzk 150 = some (.nilIface) ∧ zzh 150 = none ∧ zzf 152 = some false := by (repeat' apply And.intro) <;> kernel_rfl
@[go_sem] theorem Tryz.facts33 : zzg 152 = some 1 ∧ zzb 152 = some 1 ∧ zzk 152 = some (.int .u8 0) ∧ zzh 152 = none ∧ zze 152 = some .u8 ∧ prog.underlying 152 = some (.int .u8) ∧ zzf 153 = some false ∧ zzg 153 = some 1 ∧ zzb 153 = some 8 ∧ zzk 153 = some (.nilFunc) ∧ zzh 153 = none ∧ zzf 154 = some false ∧ zzg 154 = some 1 ∧ zzb 154 = some 8 ∧ zzk 154 = some (.nilFunc) ∧ zzh 154 = none ∧ zzf 155 = some false ∧ zzg 155 = some 1 ∧ zzb 155 = some 8 ∧ zzk 155 = some (.nilFunc) := by (repeat' apply And.intro) <;> kernel_rfl
@[go_sem] theorem Tryz.facts34 : zzh 155 = none ∧ zzf 156 = some false ∧ zzg 156 = some 1 ∧ zzb 156 = some 8 ∧ zzk 156 = some (.nilFunc) ∧ zzh 156 = none ∧ zzf 157 = some false ∧ zzg 157 = some 1 ∧ zzb 157 = some 8 ∧ zzk 157 = some (.nilFunc) ∧ zzh 157 = none ∧ zzf 158 = some false ∧ zzg 158 = some 1 ∧ zzb 158 = some 8 ∧ zzk 158 = some (.nilFunc) ∧ zzh 158 = none ∧ zzf 161 = some false ∧ zzg 161 = some 1 ∧ zzb 161 = some 8 ∧ zzk 161 = some (.nilFunc) := by (repeat' apply And.intro) <;> kernel_rfl
@[go_sem] theorem Tryz.facts35 : zzh 161 = none ∧ zzd 166 = true ∧ zzf 170 = some false ∧ zzg 170 = some 1 ∧ zzb 170 = some 8 ∧ zzk 170 = some (.nilFunc) ∧ zzh 170 = none ∧ zzf 175 = some false ∧ zzg 175 = some 1 ∧ zzb 175 = some 8 ∧ zzk 175 = some (.int .u64 0) ∧ zzh 175 = none ∧ zze 175 = some .u64 ∧ prog.underlying 175 = some (.int .u64) ∧ zzj 178 = true ∧ zzf 179 = some true ∧ zzg 179 = some 1 ∧ zzb 179 = some 8 ∧ zzk 179 = some (.agg #[.pointer none]) ∧ zzh 179 = none := by (repeat' apply And.intro) <;> kernel_rfl
@[go_sem] theorem Tryz.facts36 : zzj 179 = true ∧ y2 prog 179 0 = some (17, 0) ∧ zzd 180 = true ∧ zzf 193 = some false ∧ zzg 193 = some 1 ∧ zzb 193 = some 8 ∧ zzk 193 = some (.nilFunc) ∧ zzh 193 = none ∧ zzf 194 = some true ∧ zzg 194 = some 8 ∧ zzb 194 = some 64 ∧ zzh 194 = none ∧ zza 194 = some (8, 193) ∧ prog.underlying 194 = some (.array 8 193) ∧ zzf 195 = some false ∧ zzg 195 = some 1 ∧ zzb 195 = some 8 ∧ zzk 195 = some (.nilFunc) ∧ zzh 195 = none ∧ zzf 197 = some false := by (repeat' apply And.intro) <;> kernel_rfl
@[go_sem] theorem Tryz.facts37 : zzg 197 = some 1 ∧ zzb 197 = some 8 ∧ zzk 197 = some (.nilFunc) ∧ zzh 197 = none ∧ zzf 198 = some false ∧ zzg 198 = some 1 ∧ zzb 198 = some 8 ∧ zzk 198 = some (.nilFunc) ∧ zzh 198 = none ∧ zzf 200 = some false ∧ zzg 200 = some 1 ∧ zzb 200 = some 8 ∧ zzk 200 = some (.nilFunc) ∧ zzh 200 = none ∧ zzf 204 = some true ∧ zzg 204 = some 24 ∧ zzb 204 = some 24 ∧ zzh 204 = none ∧ zza 204 = some (24, 5) ∧ prog.underlying 204 = some (.array 24 5) := by (repeat' apply And.intro) <;> kernel_rfl
@[go_sem] theorem Tryz.facts38 : zzf 210 = some false ∧ zzg 210 = some 1 ∧ zzb 210 = some 8 ∧ zzk 210 = some (.int .i64 0) ∧ zzh 210 = none ∧ zze 210 = some .i64 ∧ prog.underlying 210 = some (.int .i64) ∧ zzf 218 = some false ∧ zzg 218 = some 1 ∧ zzb 218 = some 4 ∧ zzk 218 = some (.int .u32 0) ∧ zzh 218 = none ∧ zze 218 = some .u32 ∧ prog.underlying 218 = some (.int .u32) ∧ zza 225 = some (20, 95) ∧ zza 226 = some (65, 5) ∧ zzf 228 = some false ∧ zzh 228 = none ∧ zzf 229 = some true ∧ zzg 229 = some 2 := by (repeat' apply And.intro) <;> kernel_rfl
@[go_sem] theorem Tryz.facts39 : zzb 229 = some 16 ∧ zzk 229 = some (.agg #[.int .i64 0, .int .i64 0]) ∧ zzh 229 = none ∧ zzd 229 = true ∧ zzj 229 = true ∧ y2 prog 229 0 = some (3, 0) ∧ y2 prog 229 1 = some (3, 1) ∧ zzf 231 = some false ∧ zzg 231 = some 1 ∧ zzb 231 = some 24 ∧ zzk 231 = some (.slice none 0 0) ∧ prog.underlying 231 = some (.slice 228) ∧ zze 234 = some .u64 ∧ zzd 237 = true ∧ zzd 241 = true ∧ zza 245 = some (32, 5) ∧ zza 246 = some (64, 5) ∧ zzj 247 = true ∧ zzj 248 = true ∧ zza 249 = some (0, 16) := by (repeat' apply And.intro) <;> kernel_rfl
@[go_sem] theorem Tryz.facts40 : zzj 250 = true ∧ zzj 251 = true ∧ zze 254 = some .u8 ∧ zze 256 = some .i32 ∧ zze 257 = some .i32 ∧ zzj 258 = true ∧ zzj 259 = true ∧ zzj 262 = true ∧ zzj 263 = true ∧ zzd 264 = true ∧ zze 266 = some .u16 ∧ zzj 267 = true ∧ zzj 268 = true ∧ zze 270 = some .i32 ∧ zzj 271 = true ∧ zzj 272 = true ∧ zzd 273 = true ∧ zzc 4 = true ∧ zzc 7 = true ∧ zzc 8 = true := by (repeat' apply And.intro) <;> kernel_rfl
@[go_sem] theorem Tryz.facts41 : zzc 9 = true ∧ zzc 10 = true ∧ zzc 13 = true ∧ zzc 14 = true ∧ zzc 16 = true ∧ zzc 17 = true ∧ zzc 18 = true ∧ zzc 19 = true ∧ zzc 20 = true ∧ zzc 21 = true ∧ zzc 22 = true ∧ zzc 23 = true ∧ zzc 24 = true ∧ zzc 25 = true ∧ zzc 27 = true ∧ zzc 28 = true ∧ zzc 30 = true ∧ zzc 31 = true ∧ zzc 33 = true ∧ zzc 35 = true := by (repeat' apply And.intro) <;> kernel_rfl
@[go_sem] theorem Tryz.facts42 : zzc 39 = true ∧ zzc 41 = true ∧ zzc 42 = true ∧ zzc 43 = true ∧ zzc 44 = true ∧ zzc 45 = true ∧ zzc 46 = true ∧ zzc 47 = true ∧ zzc 48 = true ∧ zzc 49 = true ∧ zzc 51 = true ∧ zzc 52 = true ∧ zzc 54 = true ∧ zzc 55 = true ∧ zzc 56 = true ∧ zzc 57 = true ∧ zzc 58 = true ∧ zzc 59 = true ∧ zzc 60 = true ∧ zzc 63 = true := by (repeat' apply And.intro) <;> kernel_rfl
@[go_sem] theorem Tryz.facts43 : zzc 64 = true ∧ zzc 65 = true ∧ zzc 66 = true ∧ zzc 67 = true ∧ zzc 68 = true ∧ zzc 70 = true ∧ zzc 71 = true ∧ zzc 72 = true ∧ zzc 73 = true ∧ zzc 74 = true ∧ zzc 75 = true ∧ zzc 76 = true ∧ zzc 80 = true ∧ zzc 81 = true ∧ zzc 82 = true ∧ zzc 83 = true ∧ zzc 84 = true ∧ zzc 85 = true ∧ zzc 86 = true ∧ zzc 87 = true := by (repeat' apply And.intro) <;> kernel_rfl
@[go_sem] theorem Tryz.facts44 : zzc 88 = true ∧ zzc 89 = true ∧ zzc 90 = true ∧ zzc 91 = true ∧ zzc 92 = true ∧ zzc 94 = true ∧ zzc 95 = true ∧ zzc 96 = true ∧ zzc 97 = true ∧ zzc 99 = true ∧ zzc 100 = true ∧ zzc 102 = true ∧ zzc 103 = true ∧ zzc 107 = true ∧ zzc 108 = true ∧ zzc 109 = true ∧ zzc 110 = true ∧ zzc 111 = true ∧ zzc 112 = true ∧ zzc 113 = true := by (repeat' apply And.intro) <;> kernel_rfl
@[go_sem] theorem Tryz.facts45 : zzc 114 = true ∧ zzc 115 = true ∧ zzc 116 = true ∧ zzc 117 = true ∧ zzc 118 = true ∧ zzc 120 = true ∧ zzc 121 = true ∧ zzc 122 = true ∧ zzc 123 = true ∧ zzc 124 = true ∧ zzc 125 = true ∧ zzc 126 = true ∧ zzc 127 = true ∧ zzc 128 = true ∧ zzc 129 = true ∧ zzc 130 = true ∧ zzc 131 = true ∧ zzc 132 = true ∧ zzc 133 = true ∧ zzc 134 = true := by (repeat' apply And.intro) <;> kernel_rfl
@[go_sem] theorem Tryz.facts46 : zzc 135 = true ∧ zzc 136 = true ∧ zzc 137 = true ∧ zzc 138 = true ∧ zzc 139 = true ∧ zzc 140 = true ∧ zzc 141 = true ∧ zzc 142 = true ∧ zzc 143 = true ∧ zzc 144 = true ∧ zzc 145 = true ∧ zzc 146 = true ∧ zzc 147 = true ∧ zzc 148 = true ∧ zzc 153 = true ∧ zzc 154 = true ∧ zzc 155 = true ∧ zzc 156 = true ∧ zzc 157 = true ∧ zzc 158 = true := by (repeat' apply And.intro) <;> kernel_rfl
end Go.Abs
namespace Go.Proofs
end Go.Proofs

namespace Go.Abs
open Go
section
variable {P : Program} {E : Env} {Q : Exit → AS → Prop} {σ : AS} {p : List Nat} {b : Code}
theorem zIG {id : Nat} {o : Oper} (h : sub p b = .region id #[o] false) {t : TypeId} {d : Tmp} (hop : o.op = .alloc t) (hd : o.dst = some d) (hg : o.guard = none) (hz : zeroT P t = some (.agg #[.pointer none, .slice none 0 0])) (nx : Nat) (hnx : σ.obj nx = .unb) (hdn : ltN d σ.n)
  (hk : Q .normal ((σ.setO nx (.tbox t [.any, .raw (.slice none 0 0)])).put d (.ptr nx 0))) : Hold P E (sub p b) Q σ := by
 rw [h]
 rintro a w ⟨I, loc, hs⟩
 refine wpIn_wide.1 (wpIn_region_list (n := 0) ?_)
 show wpListIn Fence.wide 0 P #[o] (zN5 E Q) [o] a w
 unfold wpListIn
 have hw : Region.wanted o (yielded #[o] a.tmps) = true := by unfold Region.wanted; rw [hg]
 rw [if_pos hw]
 have hr : (execOp a.eval o).run P w = .ok (.value (.pointer (some ⟨w.heap.size, 0, none⟩))) (w.alloc (.cells #[.pointer none, .slice none 0 0] t)) := by
  simp [execOp, hop, Instr.alloc, O6 hz, newVar, newRow, Value.cells]
 refine zOi (S5 hr ?_)
 have hb := hs.born hnx (.cells #[.pointer none, .slice none 0 0] t) (c := 2) (A := .tbox t [.any, .raw (.slice none 0 0)])
  ⟨w.heap.size, #[.pointer none, .slice none 0 0], by simp only [q7, if_true]; rfl, heap_alloc_new w _, .inl rfl, rfl, fun i hi hi' => by
   have hi2 : i < 2 := hi
   have hi3 : i = 0 ∨ i = 1 := by omega
   rcases hi3 with rfl | rfl
   ·exact .pure (.any _)
   ·exact .pure (.raw _ rfl)⟩
 have hp := hb.put (t := d) (v := .ptr nx 0) (x := .pointer (some ⟨w.heap.size, 0, none⟩)) (.ptr _ _ _ 2 (by simp only [q7, if_true])) hdn
 rw [hd]
 exact ⟨_, hk, ⟨I, _, hp⟩⟩
end
end Go.Abs

namespace Go.Abs
open Go Go.Proofs Go.RowKit Go.Extern.Stop Go.Stop Go.Extern
theorem zEI (t : Value) (w : World) : Calls Tryz.prog 52 #[.nilIface, t] w fun e w' => e = .returned (.bool false) ∧ w' = w := by
 go_enter Tryz.func52, Tryz.ntmps52
 go_wp2
 go_ret
 exact ⟨rfl, rfl⟩
abbrev hdl (t : Nat) : Value := .pointer (some ⟨4, t, none⟩)
theorem zEQ (t : Addr) (w : World) : (ReflectliteValue.unpack (.iface 112 (.pointer (some t)))).run Tryz.prog w
  = .ok (.agg #[hdl 112, .pointer (some ⟨w.heap.size, 0, none⟩), .int .u64 150]) (w.alloc (.cells #[.pointer (some t)] 112)) := by kernel_rfl
theorem zEO (a : Addr) (w : World) : (ReflectliteValue.methodAny (ReflectliteValue.valueError "reflectlite.Value.Type" 0) (fun t _ _ _ => ReflectliteType.toType t) #[.agg #[hdl 112, .pointer (some a), .int .u64 150]]).run Tryz.prog w
  = .ok (.iface 179 (.agg #[hdl 112])) w := by kernel_rfl
theorem zEC (w : World) : ((ReflectliteType.abiMethod fun t => Functor.map (fun a : Nat => Value.int IntKind.u8 (a : Int)) (Rtype.kind t)) #[hdl 112]).run Tryz.prog w = .ok (.int .u8 22) w := by kernel_rfl
theorem zEB (w : World) : ((ReflectliteType.abiMethod fun t => Functor.map (fun a : Nat => Value.int IntKind.u8 (a : Int)) (Rtype.kind t)) #[hdl 110]).run Tryz.prog w = .ok (.int .u8 2) w := by kernel_rfl
theorem zBK (z : Sem Value) (f : TypeId → Addr → Nat → Nat → Sem Value) (v : Value) :
  ReflectliteValue.method z f #[v] = (do match ← ReflectliteValue.parts v with | none => z | some (t, a, fl) => f t a fl (fl % 32)) := rfl
theorem zBJ (a : Addr) (w : World) : (ReflectliteValue.parts (.agg #[hdl 112, .pointer (some a), .int .u64 150])).run Tryz.prog w = .ok (some (112, a, 150)) w := by kernel_rfl
theorem zEA (a p : Addr) (W : World) (ha : W.cell? a = some (.pointer (some p))) :
  (ReflectliteValue.method (ReflectliteValue.valueError "reflectlite.Value.IsNil" 0) ReflectliteValue.isNil #[.agg #[hdl 112, .pointer (some a), .int .u64 150]]).run Tryz.prog W = .ok (.bool false) W := by
 rw [zBK]
 simp only [Sem.run_bind, zBJ, Result.andThen]
 simp [ReflectliteValue.isNil, loadVar, isAgg, underlying, Tryz.underlying112, ha, Result.andThen]
theorem zD6 (w : World) : (ReflectliteType.method ReflectliteType.elem #[.agg #[hdl 112]]).run Tryz.prog w = .ok (.iface 179 (.agg #[hdl 110])) w := by kernel_rfl
theorem zD9 (w : World) : (ReflectliteType.relation "Implements" ReflectliteType.implements_ #[.agg #[hdl 110], .iface 179 (.agg #[hdl 102])]).run Tryz.prog w = .ok (.bool true) w := by kernel_rfl
theorem zEN (v : Value) (w : World) : (ReflectliteType.typeOf #[.iface 110 v]).run Tryz.prog w = .ok (.iface 179 (.agg #[hdl 110])) w := by kernel_rfl
theorem zD3 (w : World) : (ReflectliteType.relation "AssignableTo" ReflectliteType.assignableTo #[.agg #[hdl 110], .iface 179 (.agg #[hdl 110])]).run Tryz.prog w = .ok (.bool true) w := by kernel_rfl
theorem zEG (h : Value) (w : World) : (Go.method 374 179 (.agg #[h]) "Kind").run Tryz.prog w = .ok (185, h) w := by kernel_rfl
theorem zEE (h : Value) (w : World) : (Go.method 374 179 (.agg #[h]) "Elem").run Tryz.prog w = .ok (197, .agg #[h]) w := by kernel_rfl
theorem zEF (h : Value) (w : World) : (Go.method 374 179 (.agg #[h]) "Implements").run Tryz.prog w = .ok (198, .agg #[h]) w := by kernel_rfl
theorem zED (h : Value) (w : World) : (Go.method 374 179 (.agg #[h]) "AssignableTo").run Tryz.prog w = .ok (195, .agg #[h]) w := by kernel_rfl
theorem zEP (b : Int) (w : World) : (ReflectliteValue.unpack (.iface 110 (.int .i64 b))).run Tryz.prog w
  = .ok (.agg #[hdl 110, .pointer (some ⟨w.heap.size, 0, none⟩), .int .u64 130]) (w.alloc (.cells #[.int .i64 b] 110)) := by kernel_rfl
theorem zD5 (w : World) : (Rtype.elem? 112).run Tryz.prog w = .ok (some 110) w := by kernel_rfl
theorem zEH (p : Addr) (w : World) : (ReflectliteValue.mk 110 p ReflectliteValue.flagAddr).run Tryz.prog w = .ok (.agg #[hdl 110, .pointer (some p), .int .u64 386]) w := by kernel_rfl
theorem zD7 (a p : Addr) (W : World) (ha : W.cell? a = some (.pointer (some p))) :
  (ReflectliteValue.method (ReflectliteValue.valueError "reflectlite.Value.Elem" 0) ReflectliteValue.elem #[.agg #[hdl 112, .pointer (some a), .int .u64 150]]).run Tryz.prog W
   = .ok (.agg #[hdl 110, .pointer (some p), .int .u64 386]) W := by
 rw [zBK]
 simp only [Sem.run_bind, zBJ, Result.andThen]
 simp [ReflectliteValue.elem, loadVar, isAgg, underlying, Tryz.underlying112, ha, Result.andThen, zD5, zEH]
theorem zEL (v x : Value) : ∃ (A : Sem Value) (B C : Sem PUnit) (D : String → String → Sem PUnit), ReflectliteValue.set #[v, x] = (do
  let (some (dst, a, fl), some (src, b, _)) := (← ReflectliteValue.parts v, ← ReflectliteValue.parts x)
   | A
  if fl / ReflectliteValue.flagAddr % 2 == 0 then B
  let val ← loadVar src b
  if ← Rtype.directlyAssignable dst src then storeVar dst a val
  else if ← Rtype.implements dst src then
   if (← Rtype.kind src) == 20 then
    match val with
    | .nilIface => C
    | _ => storeVar dst a val
   else storeVar dst a (.iface src val)
  else D (← Rtype.spelt src) (← Rtype.spelt dst)
  pure (.tuple #[])) := by
 refine ⟨?_, ?_, ?_, ?_, ?_⟩
 rotate_left 4
 ·rfl
theorem zEK (a : Addr) (w : World) : (ReflectliteValue.parts (.agg #[hdl 110, .pointer (some a), .int .u64 386])).run Tryz.prog w = .ok (some (110, a, 386)) w := by kernel_rfl
theorem zEJ (a : Addr) (w : World) : (ReflectliteValue.parts (.agg #[hdl 110, .pointer (some a), .int .u64 130])).run Tryz.prog w = .ok (some (110, a, 130)) w := by kernel_rfl
theorem zD4 (w : World) : (Rtype.directlyAssignable 110 110).run Tryz.prog w = .ok true w := by kernel_rfl
theorem zEM (ta b : Addr) (s : Int) (old : Value) (W : World) (hb : W.cell? b = some (.int .i64 s)) (ht : W.cell? ta = some old) (hf : W.frozen? ta = false) :
  (ReflectliteValue.set #[.agg #[hdl 110, .pointer (some ta), .int .u64 386], .agg #[hdl 110, .pointer (some b), .int .u64 130]]).run Tryz.prog W
   = .ok (.tuple #[]) (W.setCell ta (.int .i64 s)) := by
 obtain ⟨A, B, C, D, hset⟩ := zEL (.agg #[hdl 110, .pointer (some ta), .int .u64 386]) (.agg #[hdl 110, .pointer (some b), .int .u64 130])
 rw [hset]
 simp only [Sem.run_bind, zEK, zEJ, Result.andThen]
 simp [ReflectliteValue.flagAddr, loadVar, isAgg, underlying, Tryz.underlying110, hb, Result.andThen, zD4, storeVar, Value.cells, storeCells, Addr.add]
 rw [run_store Tryz.prog W ta _ _ (by rfl)]
 simp [ht, hf]
set_option maxHeartbeats 4000000 in
theorem zD8 (b : Int) (t : Addr) (old : Value) (w : World) (hg : w.cell? ⟨0, 0, none⟩ = some (.iface 179 (.agg #[hdl 102]))) (ht0 : w.cell? t = some old) (hf0 : w.frozen? t = false) :
  Calls Tryz.prog 52 #[.iface 110 (.int .i64 b), .iface 112 (.pointer (some t))] w fun ev w' => ev = .returned (.bool true) ∧ w' = ((((w.alloc (.cells #[.pointer (some t)] 112)).alloc (.cells #[hdl 112, .pointer (some ⟨w.heap.size, 0, none⟩), .int .u64 150] 147)).alloc (.cells #[hdl 112, .pointer (some ⟨w.heap.size, 0, none⟩), .int .u64 150] 147)).alloc (.cells #[.int .i64 b] 110)).setCell t (.int .i64 b) := by
 have h6 := @run_callFunc_extern Tryz.prog 77 _ (fun args => ReflectliteValue.unpack (args.getD 0 (.tuple #[]))) Tryz.func77 (by kernel_rfl) (by kernel_rfl) (by kernel_rfl) (by kernel_rfl)
 have h7 := @run_callFunc_extern Tryz.prog 78 _ (ReflectliteValue.methodAny (ReflectliteValue.valueError "reflectlite.Value.Type" 0) (fun t _ _ _ => ReflectliteType.toType t)) Tryz.func78 (by kernel_rfl) (by kernel_rfl) (by kernel_rfl) (by kernel_rfl)
 have h8 := @run_callFunc_extern Tryz.prog 79 _ (ReflectliteValue.method (ReflectliteValue.valueError "reflectlite.Value.IsNil" 0) ReflectliteValue.isNil) Tryz.func79 (by kernel_rfl) (by kernel_rfl) (by kernel_rfl) (by kernel_rfl)
 have h27 := @run_callFunc_extern Tryz.prog 185 _ (ReflectliteType.abiMethod fun t => do pure (.int .u8 (← Rtype.kind t))) Tryz.func185 (by kernel_rfl) (by kernel_rfl) (by kernel_rfl) (by kernel_rfl)
 have h37 := @run_callFunc_extern Tryz.prog 197 _ (ReflectliteType.method ReflectliteType.elem) Tryz.func197 (by kernel_rfl) (by kernel_rfl) (by kernel_rfl) (by kernel_rfl)
 have h38 := @run_callFunc_extern Tryz.prog 198 _ (ReflectliteType.relation "Implements" ReflectliteType.implements_) Tryz.func198 (by kernel_rfl) (by kernel_rfl) (by kernel_rfl) (by kernel_rfl)
 have h10 := @run_callFunc_extern Tryz.prog 104 _ ReflectliteType.typeOf Tryz.func104 (by kernel_rfl) (by kernel_rfl) (by kernel_rfl) (by kernel_rfl)
 have h35 := @run_callFunc_extern Tryz.prog 195 _ (ReflectliteType.relation "AssignableTo" ReflectliteType.assignableTo) Tryz.func195 (by kernel_rfl) (by kernel_rfl) (by kernel_rfl) (by kernel_rfl)
 have h11 := @run_callFunc_extern Tryz.prog 105 _ (ReflectliteValue.method (ReflectliteValue.valueError "reflectlite.Value.Elem" 0) ReflectliteValue.elem) Tryz.func105 (by kernel_rfl) (by kernel_rfl) (by kernel_rfl) (by kernel_rfl)
 have h12 := @run_callFunc_extern Tryz.prog 106 _ ReflectliteValue.set Tryz.func106 (by kernel_rfl) (by kernel_rfl) (by kernel_rfl) (by kernel_rfl)
 have tO := zEN
 have mA := zED
 have aO := zD3
 have vO := zEP
 have f6 := zEQ
 have f7 := zEO
 have mK := zEG
 have mE := zEE
 have mI := zEF
 have kP := zEC
 have kO := zEB
 have eP := zD6
 have iO := zD9
 have n8 := zEA ⟨w.heap.size, 0, none⟩ t ((w.alloc (.cells #[.pointer (some t)] 112)).alloc (.cells #[hdl 112, .pointer (some ⟨w.heap.size, 0, none⟩), .int .u64 150] 147)) (by simp)
 have hlt : 0 < w.heap.size := by
  rcases Nat.eq_zero_or_pos w.heap.size with h0 | h
  ·simp [World.cell?, h0] at hg
  ·exact h
 have hg2 : ((w.alloc (.cells #[.pointer (some t)] 112)).alloc (.cells #[hdl 112, .pointer (some ⟨w.heap.size, 0, none⟩), .int .u64 150] 147)).cell? ⟨0, 0, none⟩ = some (.iface 179 (.agg #[hdl 102])) := by
  rw [World.cell?_alloc_lt _ _ ⟨0, 0, none⟩ (by simp), World.cell?_alloc_lt _ _ ⟨0, 0, none⟩ hlt]; exact hg
 have htl : t.block < w.heap.size := by
  rcases Nat.lt_or_ge t.block w.heap.size with h | h
  ·exact h
  ·simp [World.cell?, Array.getElem?_eq_none h] at ht0
 have el := zD7 ⟨w.heap.size, 0, none⟩ t (((w.alloc (.cells #[.pointer (some t)] 112)).alloc (.cells #[hdl 112, .pointer (some ⟨w.heap.size, 0, none⟩), .int .u64 150] 147)).alloc (.cells #[hdl 112, .pointer (some ⟨w.heap.size, 0, none⟩), .int .u64 150] 147)) (by rw [World.cell?_alloc_lt _ _ ⟨w.heap.size, 0, none⟩ (by simp; omega)]; simp)
 have st := zEM t ⟨w.heap.size + 1 + 1 + 1, 0, none⟩ b old ((((w.alloc (.cells #[.pointer (some t)] 112)).alloc (.cells #[hdl 112, .pointer (some ⟨w.heap.size, 0, none⟩), .int .u64 150] 147)).alloc (.cells #[hdl 112, .pointer (some ⟨w.heap.size, 0, none⟩), .int .u64 150] 147)).alloc (.cells #[.int .i64 b] 110))
  (by rw [World.cell?_alloc_at _ _ _ _ (by simp)]; rfl)
  (by rw [World.cell?_alloc_lt _ _ t (by simp; omega), World.cell?_alloc_lt _ _ t (by simp; omega), World.cell?_alloc_lt _ _ t (by simp; omega), World.cell?_alloc_lt _ _ t htl]; exact ht0)
  (by rw [World.frozen?_alloc_old _ _ t (by simp; omega), World.frozen?_alloc_old _ _ t (by simp; omega), World.frozen?_alloc_old _ _ t (by simp; omega), World.frozen?_alloc_old _ _ t (Nat.ne_of_lt htl)]; exact hf0)
 go_enter Tryz.func52, Tryz.ntmps52
 go_wp2
 refine wp_loop_rounds 1 ?_
 rw [rounds_succ]
 go_wp2
 go_ret
 exact ⟨rfl, rfl⟩
end Go.Abs

namespace Go.Abs
open Go
abbrev iV (n : Int) : AV := .raw (.int .i64 n)
abbrev bV (b : Bool) : AV := .raw (.bool b)
abbrev zNs : AV := .raw (.slice none 0 0)
@[go_sem] theorem zLl {α β : Type} [Inhabited α] {f : α → β} {l : List α} {i : Nat} {d : β} (h : i < l.length) : (l.map f).getD i d = f (l.getD i default) := by
 simp [List.getD, h]
@[go_sem] theorem zMK (n : Nat) : (0 ≤ (n : Int)) = True := by simp
@[go_sem] theorem zMH (m n : Nat) : ((m : Int) < (n : Int)) = (m < n) := by simp
@[go_sem] theorem zMF (m n : Nat) : ((m : Int) ≤ (n : Int)) = (m ≤ n) := by simp
attribute [go_sem] Int.toNat_natCast List.length_map List.length_append List.length_take Nat.zero_add Nat.add_zero
theorem wrap_i64 {n : Int} (h0 : -9223372036854775808 ≤ n) (h1 : n ≤ 9223372036854775807) : IntKind.i64.wrap n = n := by
 rw [IntKind.wrap_i64]; omega
theorem y8 {n : Nat} (h : n < 9223372036854775807) : IntKind.i64.wrap ((n : Int) + 1) = ((n + 1 : Nat) : Int) := by
 rw [wrap_i64 (by omega) (by omega)]; omega
structure Plate where
 number : Int
 letter : Int
 deriving DecidableEq, Inhabited
structure House where
 street : Int
 plate : Plate
 deriving DecidableEq, Inhabited
abbrev zNU := List (List Plate)
@[reducible] def Plate.enc (p : Plate) : AV := .agg [iV p.number, iV p.letter]
@[reducible] def House.enc (p : House) : AV := .agg [iV p.street, iV p.plate.number, iV p.plate.letter]
@[reducible] def q9 (l : List Plate) : AV := .list (l.map Plate.enc)
@[reducible] def y3 (p : zNU) : AV := .agg [.list (p.map q9)]
attribute [go_sem] Plate.enc House.enc q9 y3
def d6 : Nat → zNU → List House
 | _, [] => []
 | i, l :: r => l.map (fun x => ⟨i, x⟩) ++ d6 (i + 1) r
def q6 (p : zNU) : List House := d6 0 p
end Go.Abs

namespace Go.Abs
open Go Go.Proofs Go.RowKit
theorem zDd {w : World} {I : Nat → Prop} {loc : Nat → Loc} {x y : AV} {vs : Array Value} (hl : vs.size = [x, y].length) (hv : ∀ i (h : i < [x, y].length) (h' : i < vs.size), VR w I loc [x, y][i] vs[i]) : ∃ u v, vs = #[u, v] ∧ VR w I loc x u ∧ VR w I loc y v := by
 have h2 : vs.size = 2 := hl
 refine ⟨vs[0]'(by omega), vs[1]'(by omega), ?_, hv 0 (by simp) (by omega), hv 1 (by simp) (by omega)⟩
 apply Array.ext
 ·simpa using h2
 ·intro i q1 q2
  have : i = 0 ∨ i = 1 := by omega
  rcases this with rfl | rfl <;> rfl
theorem zIU (x : AV) : zNV Tryz.prog 52 [.raw .nilIface, .ifp 112 0 0] [.box [x]] (bV false) [.box [x]] := by
 intro w I loc vs hs hl hv
 obtain ⟨u, v, rfl, hu, _⟩ := zDd hl hv
 have e := hu.raw_eq
 subst e
 refine (zEI v w).mono ?_
 rintro e w' ⟨rfl, rfl⟩
 exact ⟨_, I, loc, rfl, ⟨hs, .pure (.raw _ rfl), by simp⟩⟩
theorem zIT (n : Int) (x : AV) : zNV Tryz.prog 52 [.raw (.iface 110 (.int .i64 n)), .ifp 112 0 0] [.box [x]] (bV true) [.box [iV n]] := by
 intro w I loc vs hs hl hv
 obtain ⟨u, v, rfl, hu, hp⟩ := zDd hl hv
 have e := hu.raw_eq
 subst e
 cases hp with
 | pure hp => cases hp
 | ifp _ _ _ b c hb =>
  have ho := hs.objs 0
  have hob : (Go.Abs.hs [.box [x]]).obj 0 = .box [x] := rfl
  have hlive : ((Go.Abs.hs [.box [x]]).obj 0).live = true := rfl
  rw [hob] at ho
  have hg := hs.laidW (0, _) (List.mem_singleton.2 rfl)
  rcases ho with ⟨h1, _⟩ | ⟨b', C, e, h1, h2, h3, h4⟩
  ·rw [hb] at h1; cases h1
  ·rw [hb] at h1; cases h1
   have hC : 0 < C.size := h3
   have hlt : b < w.heap.size := (Array.getElem?_eq_some_iff.1 h2).1
   refine (zD8 n ⟨b, 0, none⟩ C[0] w hg (j6 h2 hC) (by simp [World.frozen?, h2])).mono ?_
   rintro ev w' ⟨rfl, rfl⟩
   generalize hw4 : (((w.alloc (.cells #[.pointer (some ⟨b, 0, none⟩)] 112)).alloc (.cells #[hdl 112, .pointer (some ⟨w.heap.size, 0, none⟩), .int .u64 150] 147)).alloc (.cells #[hdl 112, .pointer (some ⟨w.heap.size, 0, none⟩), .int .u64 150] 147)).alloc (.cells #[.int .i64 n] 110) = w4
   have hk : ∀ k, k < w.heap.size → w4.heap[k]? = w.heap[k]? := fun k hk => by
    rw [← hw4, r6 _ _ _ (by simp; omega), r6 _ _ _ (by simp; omega), r6 _ _ _ (by simp; omega), r6 _ _ _ hk]
   have hs1 := hs.grown (w' := w4) (by rw [← hw4]; rfl) (by rw [← hw4]; rfl) (by rw [← hw4]; rfl) (by rw [← hw4]; simp; omega) hk (fun _ => by rw [← hw4]; exact Nat.le_refl _)
   have h2' : w4.heap[b]? = some (.cells C e (0, 0)) := (hk b hlt).trans h2
   have hI := hs1.sep 0 b C.size hlive hb
   have hoth : ∀ k, k ≠ b → (w4.setCell ⟨b, 0, none⟩ (.int .i64 n)).heap[k]? = w4.heap[k]? := fun k hk => by
    simp only [World.setCell, Array.getElem?_modify]
    rw [if_neg (fun e => hk e.symm)]
   have hat : (w4.setCell ⟨b, 0, none⟩ (.int .i64 n)).heap[b]? = some (.cells (C.setIfInBounds 0 (.int .i64 n)) e (0, 0)) := by
    simp [World.setCell, Array.getElem?_modify, h2']
   have hsr := hs1.writeG (w' := w4.setCell ⟨b, 0, none⟩ (.int .i64 n)) (A := .box [iV n]) hlive hb rfl rfl rfl (by simp [World.setCell]) hoth
    (.inr ⟨b, C.setIfInBounds 0 (.int .i64 n), e, by rw [Array.size_setIfInBounds]; exact hb, hat, by rw [Array.size_setIfInBounds]; exact hC, fun i hi hi' => by
     have hi0 : i = 0 := by simpa using hi
     subst hi0
     rw [Array.getElem_setIfInBounds_self]
     exact .pure (.raw _ rfl)⟩) (by simp)
   refine ⟨_, I, loc, rfl, ⟨hsr.congr rfl (fun _ => rfl) (fun k => ?_), .pure (.raw _ rfl), by simp⟩⟩
   rw [AS.obj_setO]
   by_cases e : 0 = k
   ·rw [if_pos e, ← e]; rfl
   ·rw [if_neg e, d7, d7]
    cases k with
    | zero => exact absurd rfl e
    | succ k => rfl
end Go.Abs

namespace Go.Abs
open Go
structure Change where
 kind : Int
 street : Int
 other : Int
 src : Plate
 dst : Plate
 deriving DecidableEq, Inhabited
structure Fact where
 src : House
 dst : House
 deriving DecidableEq, Inhabited
structure Story where
 first : zNU
 steps : List (List Change)
 facts : List Fact
 deriving DecidableEq, Inhabited
@[reducible] def Change.enc (c : Change) : AV := .agg [iV c.kind, iV c.street, iV c.other, iV c.src.number, iV c.src.letter, iV c.dst.number, iV c.dst.letter]
@[reducible] def Fact.enc (f : Fact) : AV := .agg [iV f.src.street, iV f.src.plate.number, iV f.src.plate.letter, iV f.dst.street, iV f.dst.plate.number, iV f.dst.plate.letter]
@[reducible] def Q2 (l : List Change) : AV := .agg [.list (l.map Change.enc)]
@[reducible] def Story.enc (s : Story) : AV := .agg [.list (s.first.map q9), .list (s.steps.map Q2), .list (s.facts.map Fact.enc)]
@[reducible] def X4 (l : List House) : AV := .list (l.map House.enc)
attribute [go_sem] Change.enc Fact.enc Q2 Story.enc X4
theorem v3 {α : Type} [Inhabited α] {l : List α} {i : Nat} (h : i < l.length) : l.drop i = l.getD i default :: l.drop (i + 1) := by
 rw [List.drop_eq_getElem_cons h]; simp [List.getD, h]
theorem u0 {α : Type} {l : List α} {i : Nat} (h : l.length ≤ i) : l.drop i = [] := List.drop_of_length_le h
theorem w5 {α : Type} [Inhabited α] {l : List α} {i : Nat} (h : i < l.length) : l.getD i default ∈ l := by simp [List.getD, h]
def zNX (n lo hi : Int) : Bool := decide (lo ≤ n) && decide (n ≤ hi)
def Plate.ok (x : Plate) : Bool := zNX x.number 1 40 && zNX x.letter 0 4
def Plate.lt (a b : Plate) : Bool := decide (a.number < b.number) || (decide (a.number = b.number) && decide (a.letter < b.letter))
def House.lt (a b : House) : Bool := decide (a.street < b.street) || (decide (a.street = b.street) && a.plate.lt b.plate)
def zN2 (a b : Int) : Int := if a < b then -1 else if b < a then 1 else 0
def orI (a b : Int) : Int := if a = 0 then b else a
def zNh (a b : Plate) : Int := orI (zN2 a.number b.number) (zN2 a.letter b.letter)
def zNv (a b : House) : Int := orI (zN2 a.street b.street) (zNh a.plate b.plate)
def s8 : Option Plate → List Plate → Int
 | _, [] => 0
 | none, x :: r => if x.ok = true then s8 (some x) r else 1
 | some y, x :: r => if x.ok = true then (if y.lt x = true then s8 (some x) r else 5) else 1
def j7 : zNU → Int
 | [] => 0
 | l :: r => if 8 < l.length then 6 else if s8 none l = 0 then j7 r else s8 none l
def check (p : zNU) : Int := if p.length = 0 then 7 else if 3 < p.length then 6 else j7 p
structure Sound (l : List Plate) : Prop where
 len : l.length ≤ 8
 ok : ∀ x, x ∈ l → x.ok = true
 sorted : l.Pairwise (fun x y => x.lt y = true)
structure Valid (p : zNU) : Prop where
 ne : 0 < p.length
 len : p.length ≤ 3
 rows : ∀ l, l ∈ p → Sound l
def z7 (p : zNU) (s : Int) : List Plate := p.getD s.toNat default
def zNb (x : Plate) : Bool := decide (x.number % 2 = 1)
def base (l : List Plate) : Int := let n := l.foldl (fun n x => max n x.number) 0; n + n % 2
def zN3 (l : List Plate) (x : Plate) : Int := if x ∈ l then (l.idxOf x : Nat) else -1
def letter (l : List Plate) (n : Int) : Int :=
 if ⟨n, 1⟩ ∉ l then 1 else if ⟨n, 2⟩ ∉ l then 2 else if ⟨n, 3⟩ ∉ l then 3 else if ⟨n, 4⟩ ∉ l then 4 else 0
def y5 (p : zNU) (c : Change) : Int :=
 let l := z7 p c.street
 if c.kind = 4 then
  let o := z7 p c.other
  if 8 < l.length + o.length then 6 else if l.any (fun x => decide (40 < x.number + base o)) = true then 1 else 0
 else if c.kind = 5 then if c.src ∉ l then 3 else if l.length = 8 ∨ letter l c.src.number = 0 then 6 else 0
 else if c.kind = 6 then if c.src ∉ l then 3 else 0
 else if c.kind = 7 then if c.src ∉ l ∨ c.dst ∉ l then 3 else if c.dst.lt c.src = true then 5 else if 0 < (z7 p c.other).length then 12 else 0
 else 0
def zeroPlate : Plate := ⟨0, 0⟩
def can (p : zNU) (c : Change) : Int :=
 if zNX c.kind 1 7 = false then 8
 else if zNX c.street 0 (p.length - 1) = false then 3
 else if (c.kind = 4 ∨ c.kind = 7) ∧ zNX c.other 0 (p.length - 1) = false then 3
 else if (c.kind = 4 ∨ c.kind = 7) ∧ c.other = c.street then 4
 else if (¬ (c.kind = 4 ∨ c.kind = 7) ∧ c.other ≠ 0) ∨ (¬ 5 ≤ c.kind ∧ c.src ≠ zeroPlate) ∨ (¬ c.kind = 7 ∧ c.dst ≠ zeroPlate) then 1
 else y5 p c
def toP (p : zNU) (c : Change) (x : Plate) : List House :=
 let l := z7 p c.street
 let own := l.filter (fun y => zNb y == zNb x)
 let k := own.idxOf x
 if c.kind = 1 then [⟨c.street, own.getD (own.length - 1 - k) default⟩]
 else if c.kind = 2 then [⟨c.street, ⟨if zNb x = true then x.number + 1 else x.number - 1, x.letter⟩⟩]
 else if c.kind = 3 then [⟨c.street, ⟨2 * (k : Nat) + 2 - x.number % 2, 0⟩⟩]
 else if c.kind = 4 then [⟨c.other, ⟨x.number + base (z7 p c.other), x.letter⟩⟩]
 else if c.kind = 5 then if x = c.src then [⟨c.street, x⟩, ⟨c.street, ⟨x.number, letter l x.number⟩⟩] else [⟨c.street, x⟩]
 else if c.kind = 6 then if x = c.src then [] else [⟨c.street, x⟩]
 else if c.kind = 7 then if x.lt c.src = false ∧ c.dst.lt x = false then [⟨c.other, ⟨zN3 l x - zN3 l c.src + 1, 0⟩⟩] else [⟨c.street, x⟩]
 else [⟨c.street, x⟩]
def mv (p : zNU) (c : Change) (h : House) : List House := if h.street = c.street then toP p c h.plate else [h]
def zN0 (x : House) : List House → List House
 | [] => [x]
 | y :: r => if y.lt x = true then y :: zN0 x r else if y = x then y :: r else x :: y :: r
def p5 (l : List House) : List House := l.foldl (fun out x => zN0 x out) []
def laid (l : List House) (n : Nat) : zNU := (List.range n).map fun (s : Nat) => ((p5 l).filter (fun h => h.street == (s : Int))).map House.plate
def d4 (p : zNU) (c : Change) : List House := (q6 p).flatMap (mv p c)
def u6 (p : zNU) (c : Change) : zNU := laid (d4 p c) p.length
def p7 (p : zNU) (c : Change) : Int := if check p = 0 then can p c else check p
def C9 (kind : Int) (p : zNU) (s : Nat) : List Change :=
 if kind = 4 then (List.range p.length).map fun o => ⟨4, s, (o : Nat), zeroPlate, zeroPlate⟩
 else if kind = 5 ∨ kind = 6 then (p.getD s default).map fun x => ⟨kind, s, 0, x, zeroPlate⟩
 else [⟨kind, s, 0, zeroPlate, zeroPlate⟩]
def B0 (p : zNU) : List Change := ([1, 2, 3, 4, 5, 6] : List Int).flatMap fun k => (List.range p.length).flatMap fun s => (C9 k p s).filter fun c => decide (can p c = 0)
def o7 {α β : Type} (f : α → Option β) : List α → Option β
 | [] => none
 | x :: r => match f x with
  | some y => some y
  | none => o7 f r
def t8 : Nat → zNU → zNU → Option (List Change)
 | 0, p, q => if p = q then some [] else none
 | n + 1, p, q => o7 (fun c => (t8 n (u6 p c) q).map (c :: ·)) (B0 p)
def R6 (p q : zNU) : Option (List Change) := o7 (fun n => t8 n p q) [0, 1, 2]
end Go.Abs

