/-
  WHAT THE PROOF STANDS ON, PART 3: contracts of the program's functions and the logic that they are proved in. No condition.
-/
import Derived.Test.YtmhleaopjcfjnaaGreatProg
import Derived.KernelRfl
import Derived.Maps.Keyed
import Derived.DeepKeys3
import Derived.Test.YtmhleaopjcfjnaaGreatQ2
set_option linter.unusedVariables false
set_option linter.unusedSimpArgs false
set_option linter.unusedSectionVars false
namespace Go.Proofs
@[go_sem] theorem Tryz.ag1 : Abs.isAggT Tryz.prog 1 = some false := by kernel_rfl
@[go_sem] theorem Tryz.sz1 : Abs.sizeT Tryz.prog 1 = some 1 := by kernel_rfl
@[go_sem] theorem Tryz.by1 : Abs.bytesT Tryz.prog 1 = some 8 := by kernel_rfl
@[go_sem] theorem Tryz.ze1 : Abs.zeroT Tryz.prog 1 = some (.nilFunc) := by kernel_rfl
@[go_sem] theorem Tryz.sl1 : Abs.sliceT Tryz.prog 1 = none := by kernel_rfl
@[go_sem] theorem Tryz.ag2 : Abs.isAggT Tryz.prog 2 = some false := by kernel_rfl
@[go_sem] theorem Tryz.sz2 : Abs.sizeT Tryz.prog 2 = some 1 := by kernel_rfl
@[go_sem] theorem Tryz.by2 : Abs.bytesT Tryz.prog 2 = some 8 := by kernel_rfl
@[go_sem] theorem Tryz.ze2 : Abs.zeroT Tryz.prog 2 = some (.int .i64 0) := by kernel_rfl
@[go_sem] theorem Tryz.sl2 : Abs.sliceT Tryz.prog 2 = none := by kernel_rfl
@[go_sem] theorem Tryz.in2 : Abs.intT Tryz.prog 2 = some .i64 := by kernel_rfl
@[go_sem] theorem Tryz.un2 : Tryz.prog.underlying 2 = some (.int .i64) := by kernel_rfl
@[go_sem] theorem Tryz.ag3 : Abs.isAggT Tryz.prog 3 = some false := by kernel_rfl
@[go_sem] theorem Tryz.sz3 : Abs.sizeT Tryz.prog 3 = some 1 := by kernel_rfl
@[go_sem] theorem Tryz.by3 : Abs.bytesT Tryz.prog 3 = some 8 := by kernel_rfl
@[go_sem] theorem Tryz.ze3 : Abs.zeroT Tryz.prog 3 = some (.int .i64 0) := by kernel_rfl
@[go_sem] theorem Tryz.sl3 : Abs.sliceT Tryz.prog 3 = none := by kernel_rfl
@[go_sem] theorem Tryz.in3 : Abs.intT Tryz.prog 3 = some .i64 := by kernel_rfl
@[go_sem] theorem Tryz.un3 : Tryz.prog.underlying 3 = some (.int .i64) := by kernel_rfl
@[go_sem] theorem Tryz.ag4 : Abs.isAggT Tryz.prog 4 = some false := by kernel_rfl
@[go_sem] theorem Tryz.sz4 : Abs.sizeT Tryz.prog 4 = some 1 := by kernel_rfl
@[go_sem] theorem Tryz.by4 : Abs.bytesT Tryz.prog 4 = some 1 := by kernel_rfl
@[go_sem] theorem Tryz.ze4 : Abs.zeroT Tryz.prog 4 = some (.bool false) := by kernel_rfl
@[go_sem] theorem Tryz.sl4 : Abs.sliceT Tryz.prog 4 = none := by kernel_rfl
@[go_sem] theorem Tryz.un4 : Tryz.prog.underlying 4 = some (.bool) := by kernel_rfl
@[go_sem] theorem Tryz.ag5 : Abs.isAggT Tryz.prog 5 = some false := by kernel_rfl
@[go_sem] theorem Tryz.sz5 : Abs.sizeT Tryz.prog 5 = some 1 := by kernel_rfl
@[go_sem] theorem Tryz.by5 : Abs.bytesT Tryz.prog 5 = some 1 := by kernel_rfl
@[go_sem] theorem Tryz.ze5 : Abs.zeroT Tryz.prog 5 = some (.int .u8 0) := by kernel_rfl
@[go_sem] theorem Tryz.sl5 : Abs.sliceT Tryz.prog 5 = none := by kernel_rfl
@[go_sem] theorem Tryz.in5 : Abs.intT Tryz.prog 5 = some .u8 := by kernel_rfl
@[go_sem] theorem Tryz.un5 : Tryz.prog.underlying 5 = some (.int .u8) := by kernel_rfl
@[go_sem] theorem Tryz.ag6 : Abs.isAggT Tryz.prog 6 = some false := by kernel_rfl
@[go_sem] theorem Tryz.sz6 : Abs.sizeT Tryz.prog 6 = some 1 := by kernel_rfl
@[go_sem] theorem Tryz.by6 : Abs.bytesT Tryz.prog 6 = some 1 := by kernel_rfl
@[go_sem] theorem Tryz.ze6 : Abs.zeroT Tryz.prog 6 = some (.int .u8 0) := by kernel_rfl
@[go_sem] theorem Tryz.sl6 : Abs.sliceT Tryz.prog 6 = none := by kernel_rfl
@[go_sem] theorem Tryz.in6 : Abs.intT Tryz.prog 6 = some .u8 := by kernel_rfl
@[go_sem] theorem Tryz.un6 : Tryz.prog.underlying 6 = some (.int .u8) := by kernel_rfl
@[go_sem] theorem Tryz.ag7 : Abs.isAggT Tryz.prog 7 = some true := by kernel_rfl
@[go_sem] theorem Tryz.sz7 : Abs.sizeT Tryz.prog 7 = some 4 := by kernel_rfl
@[go_sem] theorem Tryz.by7 : Abs.bytesT Tryz.prog 7 = some 24 := by kernel_rfl
@[go_sem] theorem Tryz.ze7 : Abs.zeroT Tryz.prog 7 = some (.agg #[.int .i64 0, .int .i64 0, .bool false, .int .u8 0]) := by kernel_rfl
@[go_sem] theorem Tryz.sl7 : Abs.sliceT Tryz.prog 7 = none := by kernel_rfl
@[go_sem] theorem Tryz.sb7 : Abs.structB Tryz.prog 7 = true := by kernel_rfl
@[go_sem] theorem Tryz.fl7_0 : Abs.fieldT Tryz.prog 7 0 = some (2, 0) := by kernel_rfl
@[go_sem] theorem Tryz.fl7_1 : Abs.fieldT Tryz.prog 7 1 = some (3, 1) := by kernel_rfl
@[go_sem] theorem Tryz.fl7_2 : Abs.fieldT Tryz.prog 7 2 = some (4, 2) := by kernel_rfl
@[go_sem] theorem Tryz.fl7_3 : Abs.fieldT Tryz.prog 7 3 = some (6, 3) := by kernel_rfl
@[go_sem] theorem Tryz.sb8 : Abs.structB Tryz.prog 8 = true := by kernel_rfl
@[go_sem] theorem Tryz.ag9 : Abs.isAggT Tryz.prog 9 = some false := by kernel_rfl
@[go_sem] theorem Tryz.sz9 : Abs.sizeT Tryz.prog 9 = some 1 := by kernel_rfl
@[go_sem] theorem Tryz.by9 : Abs.bytesT Tryz.prog 9 = some 16 := by kernel_rfl
@[go_sem] theorem Tryz.ze9 : Abs.zeroT Tryz.prog 9 = some (.string ⟨#[]⟩) := by kernel_rfl
@[go_sem] theorem Tryz.sl9 : Abs.sliceT Tryz.prog 9 = none := by kernel_rfl
@[go_sem] theorem Tryz.st9 : Abs.stringT Tryz.prog 9 = true := by kernel_rfl
@[go_sem] theorem Tryz.un9 : Tryz.prog.underlying 9 = some (.string) := by kernel_rfl
@[go_sem] theorem Tryz.st10 : Abs.stringT Tryz.prog 10 = true := by kernel_rfl
@[go_sem] theorem Tryz.st11 : Abs.stringT Tryz.prog 11 = true := by kernel_rfl
@[go_sem] theorem Tryz.in12 : Abs.intT Tryz.prog 12 = some .u64 := by kernel_rfl
@[go_sem] theorem Tryz.sb13 : Abs.structB Tryz.prog 13 = true := by kernel_rfl
@[go_sem] theorem Tryz.sb14 : Abs.structB Tryz.prog 14 = true := by kernel_rfl
@[go_sem] theorem Tryz.sb18 : Abs.structB Tryz.prog 18 = true := by kernel_rfl
@[go_sem] theorem Tryz.ag19 : Abs.isAggT Tryz.prog 19 = some true := by kernel_rfl
@[go_sem] theorem Tryz.sz19 : Abs.sizeT Tryz.prog 19 = some 1 := by kernel_rfl
@[go_sem] theorem Tryz.by19 : Abs.bytesT Tryz.prog 19 = some 8 := by kernel_rfl
@[go_sem] theorem Tryz.ze19 : Abs.zeroT Tryz.prog 19 = some (.agg #[.pointer none]) := by kernel_rfl
@[go_sem] theorem Tryz.sl19 : Abs.sliceT Tryz.prog 19 = none := by kernel_rfl
@[go_sem] theorem Tryz.sb19 : Abs.structB Tryz.prog 19 = true := by kernel_rfl
@[go_sem] theorem Tryz.fl19_0 : Abs.fieldT Tryz.prog 19 0 = some (17, 0) := by kernel_rfl
@[go_sem] theorem Tryz.ag20 : Abs.isAggT Tryz.prog 20 = some false := by kernel_rfl
@[go_sem] theorem Tryz.sz20 : Abs.sizeT Tryz.prog 20 = some 1 := by kernel_rfl
@[go_sem] theorem Tryz.by20 : Abs.bytesT Tryz.prog 20 = some 16 := by kernel_rfl
@[go_sem] theorem Tryz.ze20 : Abs.zeroT Tryz.prog 20 = some (.nilIface) := by kernel_rfl
@[go_sem] theorem Tryz.sl20 : Abs.sliceT Tryz.prog 20 = none := by kernel_rfl
@[go_sem] theorem Tryz.ag21 : Abs.isAggT Tryz.prog 21 = some false := by kernel_rfl
@[go_sem] theorem Tryz.sz21 : Abs.sizeT Tryz.prog 21 = some 1 := by kernel_rfl
@[go_sem] theorem Tryz.by21 : Abs.bytesT Tryz.prog 21 = some 4 := by kernel_rfl
@[go_sem] theorem Tryz.ze21 : Abs.zeroT Tryz.prog 21 = some (.int .i32 0) := by kernel_rfl
@[go_sem] theorem Tryz.sl21 : Abs.sliceT Tryz.prog 21 = none := by kernel_rfl
@[go_sem] theorem Tryz.in21 : Abs.intT Tryz.prog 21 = some .i32 := by kernel_rfl
@[go_sem] theorem Tryz.un21 : Tryz.prog.underlying 21 = some (.int .i32) := by kernel_rfl
@[go_sem] theorem Tryz.ag22 : Abs.isAggT Tryz.prog 22 = some false := by kernel_rfl
@[go_sem] theorem Tryz.sz22 : Abs.sizeT Tryz.prog 22 = some 1 := by kernel_rfl
@[go_sem] theorem Tryz.by22 : Abs.bytesT Tryz.prog 22 = some 24 := by kernel_rfl
@[go_sem] theorem Tryz.ze22 : Abs.zeroT Tryz.prog 22 = some (.slice none 0 0) := by kernel_rfl
@[go_sem] theorem Tryz.sl22 : Abs.sliceT Tryz.prog 22 = some 105 := by kernel_rfl
@[go_sem] theorem Tryz.un22 : Tryz.prog.underlying 22 = some (.slice 105) := by kernel_rfl
@[go_sem] theorem Tryz.ag23 : Abs.isAggT Tryz.prog 23 = some true := by kernel_rfl
@[go_sem] theorem Tryz.sz23 : Abs.sizeT Tryz.prog 23 = some 1 := by kernel_rfl
@[go_sem] theorem Tryz.by23 : Abs.bytesT Tryz.prog 23 = some 24 := by kernel_rfl
@[go_sem] theorem Tryz.ze23 : Abs.zeroT Tryz.prog 23 = some (.agg #[.slice none 0 0]) := by kernel_rfl
@[go_sem] theorem Tryz.sl23 : Abs.sliceT Tryz.prog 23 = none := by kernel_rfl
@[go_sem] theorem Tryz.sb23 : Abs.structB Tryz.prog 23 = true := by kernel_rfl
@[go_sem] theorem Tryz.fl23_0 : Abs.fieldT Tryz.prog 23 0 = some (22, 0) := by kernel_rfl
@[go_sem] theorem Tryz.ag24 : Abs.isAggT Tryz.prog 24 = some true := by kernel_rfl
@[go_sem] theorem Tryz.sz24 : Abs.sizeT Tryz.prog 24 = some 1 := by kernel_rfl
@[go_sem] theorem Tryz.by24 : Abs.bytesT Tryz.prog 24 = some 24 := by kernel_rfl
@[go_sem] theorem Tryz.ze24 : Abs.zeroT Tryz.prog 24 = some (.agg #[.slice none 0 0]) := by kernel_rfl
@[go_sem] theorem Tryz.sl24 : Abs.sliceT Tryz.prog 24 = none := by kernel_rfl
@[go_sem] theorem Tryz.sb24 : Abs.structB Tryz.prog 24 = true := by kernel_rfl
@[go_sem] theorem Tryz.fl24_0 : Abs.fieldT Tryz.prog 24 0 = some (22, 0) := by kernel_rfl
@[go_sem] theorem Tryz.ag25 : Abs.isAggT Tryz.prog 25 = some true := by kernel_rfl
@[go_sem] theorem Tryz.sz25 : Abs.sizeT Tryz.prog 25 = some 2 := by kernel_rfl
@[go_sem] theorem Tryz.by25 : Abs.bytesT Tryz.prog 25 = some 16 := by kernel_rfl
@[go_sem] theorem Tryz.ze25 : Abs.zeroT Tryz.prog 25 = some (.agg #[.int .i64 0, .int .i64 0]) := by kernel_rfl
@[go_sem] theorem Tryz.sl25 : Abs.sliceT Tryz.prog 25 = none := by kernel_rfl
@[go_sem] theorem Tryz.sb25 : Abs.structB Tryz.prog 25 = true := by kernel_rfl
@[go_sem] theorem Tryz.fl25_0 : Abs.fieldT Tryz.prog 25 0 = some (3, 0) := by kernel_rfl
@[go_sem] theorem Tryz.fl25_1 : Abs.fieldT Tryz.prog 25 1 = some (3, 1) := by kernel_rfl
@[go_sem] theorem Tryz.ag26 : Abs.isAggT Tryz.prog 26 = some true := by kernel_rfl
@[go_sem] theorem Tryz.sz26 : Abs.sizeT Tryz.prog 26 = some 2 := by kernel_rfl
@[go_sem] theorem Tryz.by26 : Abs.bytesT Tryz.prog 26 = some 16 := by kernel_rfl
@[go_sem] theorem Tryz.ze26 : Abs.zeroT Tryz.prog 26 = some (.agg #[.int .i64 0, .int .i64 0]) := by kernel_rfl
@[go_sem] theorem Tryz.sl26 : Abs.sliceT Tryz.prog 26 = none := by kernel_rfl
@[go_sem] theorem Tryz.sb26 : Abs.structB Tryz.prog 26 = true := by kernel_rfl
@[go_sem] theorem Tryz.fl26_0 : Abs.fieldT Tryz.prog 26 0 = some (3, 0) := by kernel_rfl
@[go_sem] theorem Tryz.fl26_1 : Abs.fieldT Tryz.prog 26 1 = some (3, 1) := by kernel_rfl
@[go_sem] theorem Tryz.ag27 : Abs.isAggT Tryz.prog 27 = some true := by kernel_rfl
@[go_sem] theorem Tryz.sz27 : Abs.sizeT Tryz.prog 27 = some 7 := by kernel_rfl
@[go_sem] theorem Tryz.by27 : Abs.bytesT Tryz.prog 27 = some 56 := by kernel_rfl
@[go_sem] theorem Tryz.ze27 : Abs.zeroT Tryz.prog 27 = some (.agg #[.int .i64 0, .int .i64 0, .int .i64 0, .int .i64 0, .int .i64 0, .int .i64 0, .int .i64 0]) := by kernel_rfl
@[go_sem] theorem Tryz.sl27 : Abs.sliceT Tryz.prog 27 = none := by kernel_rfl
@[go_sem] theorem Tryz.sb27 : Abs.structB Tryz.prog 27 = true := by kernel_rfl
@[go_sem] theorem Tryz.fl27_0 : Abs.fieldT Tryz.prog 27 0 = some (3, 0) := by kernel_rfl
@[go_sem] theorem Tryz.fl27_1 : Abs.fieldT Tryz.prog 27 1 = some (3, 1) := by kernel_rfl
@[go_sem] theorem Tryz.fl27_2 : Abs.fieldT Tryz.prog 27 2 = some (3, 2) := by kernel_rfl
@[go_sem] theorem Tryz.fl27_3 : Abs.fieldT Tryz.prog 27 3 = some (26, 3) := by kernel_rfl
@[go_sem] theorem Tryz.fl27_4 : Abs.fieldT Tryz.prog 27 4 = some (26, 5) := by kernel_rfl
@[go_sem] theorem Tryz.ag28 : Abs.isAggT Tryz.prog 28 = some true := by kernel_rfl
@[go_sem] theorem Tryz.sz28 : Abs.sizeT Tryz.prog 28 = some 7 := by kernel_rfl
@[go_sem] theorem Tryz.by28 : Abs.bytesT Tryz.prog 28 = some 56 := by kernel_rfl
@[go_sem] theorem Tryz.ze28 : Abs.zeroT Tryz.prog 28 = some (.agg #[.int .i64 0, .int .i64 0, .int .i64 0, .int .i64 0, .int .i64 0, .int .i64 0, .int .i64 0]) := by kernel_rfl
@[go_sem] theorem Tryz.sl28 : Abs.sliceT Tryz.prog 28 = none := by kernel_rfl
@[go_sem] theorem Tryz.sb28 : Abs.structB Tryz.prog 28 = true := by kernel_rfl
@[go_sem] theorem Tryz.fl28_0 : Abs.fieldT Tryz.prog 28 0 = some (3, 0) := by kernel_rfl
@[go_sem] theorem Tryz.fl28_1 : Abs.fieldT Tryz.prog 28 1 = some (3, 1) := by kernel_rfl
@[go_sem] theorem Tryz.fl28_2 : Abs.fieldT Tryz.prog 28 2 = some (3, 2) := by kernel_rfl
@[go_sem] theorem Tryz.fl28_3 : Abs.fieldT Tryz.prog 28 3 = some (26, 3) := by kernel_rfl
@[go_sem] theorem Tryz.fl28_4 : Abs.fieldT Tryz.prog 28 4 = some (26, 5) := by kernel_rfl
@[go_sem] theorem Tryz.ag29 : Abs.isAggT Tryz.prog 29 = some false := by kernel_rfl
@[go_sem] theorem Tryz.sz29 : Abs.sizeT Tryz.prog 29 = some 1 := by kernel_rfl
@[go_sem] theorem Tryz.by29 : Abs.bytesT Tryz.prog 29 = some 24 := by kernel_rfl
@[go_sem] theorem Tryz.ze29 : Abs.zeroT Tryz.prog 29 = some (.slice none 0 0) := by kernel_rfl
@[go_sem] theorem Tryz.sl29 : Abs.sliceT Tryz.prog 29 = some 3 := by kernel_rfl
@[go_sem] theorem Tryz.un29 : Tryz.prog.underlying 29 = some (.slice 3) := by kernel_rfl
@[go_sem] theorem Tryz.ag30 : Abs.isAggT Tryz.prog 30 = some false := by kernel_rfl
@[go_sem] theorem Tryz.sz30 : Abs.sizeT Tryz.prog 30 = some 1 := by kernel_rfl
@[go_sem] theorem Tryz.by30 : Abs.bytesT Tryz.prog 30 = some 8 := by kernel_rfl
@[go_sem] theorem Tryz.ze30 : Abs.zeroT Tryz.prog 30 = some (.nilFunc) := by kernel_rfl
@[go_sem] theorem Tryz.sl30 : Abs.sliceT Tryz.prog 30 = none := by kernel_rfl
@[go_sem] theorem Tryz.ag31 : Abs.isAggT Tryz.prog 31 = some false := by kernel_rfl
@[go_sem] theorem Tryz.sz31 : Abs.sizeT Tryz.prog 31 = some 1 := by kernel_rfl
@[go_sem] theorem Tryz.by31 : Abs.bytesT Tryz.prog 31 = some 8 := by kernel_rfl
@[go_sem] theorem Tryz.ze31 : Abs.zeroT Tryz.prog 31 = some (.nilFunc) := by kernel_rfl
@[go_sem] theorem Tryz.sl31 : Abs.sliceT Tryz.prog 31 = none := by kernel_rfl
@[go_sem] theorem Tryz.ag32 : Abs.isAggT Tryz.prog 32 = some false := by kernel_rfl
@[go_sem] theorem Tryz.sz32 : Abs.sizeT Tryz.prog 32 = some 1 := by kernel_rfl
@[go_sem] theorem Tryz.by32 : Abs.bytesT Tryz.prog 32 = some 8 := by kernel_rfl
@[go_sem] theorem Tryz.ze32 : Abs.zeroT Tryz.prog 32 = some (.pointer none) := by kernel_rfl
@[go_sem] theorem Tryz.sl32 : Abs.sliceT Tryz.prog 32 = none := by kernel_rfl
@[go_sem] theorem Tryz.ag33 : Abs.isAggT Tryz.prog 33 = some false := by kernel_rfl
@[go_sem] theorem Tryz.sz33 : Abs.sizeT Tryz.prog 33 = some 1 := by kernel_rfl
@[go_sem] theorem Tryz.by33 : Abs.bytesT Tryz.prog 33 = some 8 := by kernel_rfl
@[go_sem] theorem Tryz.ze33 : Abs.zeroT Tryz.prog 33 = some (.nilFunc) := by kernel_rfl
@[go_sem] theorem Tryz.sl33 : Abs.sliceT Tryz.prog 33 = none := by kernel_rfl
@[go_sem] theorem Tryz.ag34 : Abs.isAggT Tryz.prog 34 = some false := by kernel_rfl
@[go_sem] theorem Tryz.sz34 : Abs.sizeT Tryz.prog 34 = some 1 := by kernel_rfl
@[go_sem] theorem Tryz.by34 : Abs.bytesT Tryz.prog 34 = some 8 := by kernel_rfl
@[go_sem] theorem Tryz.ze34 : Abs.zeroT Tryz.prog 34 = some (.nilFunc) := by kernel_rfl
@[go_sem] theorem Tryz.sl34 : Abs.sliceT Tryz.prog 34 = none := by kernel_rfl
@[go_sem] theorem Tryz.ag35 : Abs.isAggT Tryz.prog 35 = some false := by kernel_rfl
@[go_sem] theorem Tryz.sz35 : Abs.sizeT Tryz.prog 35 = some 1 := by kernel_rfl
@[go_sem] theorem Tryz.by35 : Abs.bytesT Tryz.prog 35 = some 24 := by kernel_rfl
@[go_sem] theorem Tryz.ze35 : Abs.zeroT Tryz.prog 35 = some (.slice none 0 0) := by kernel_rfl
@[go_sem] theorem Tryz.sl35 : Abs.sliceT Tryz.prog 35 = some 24 := by kernel_rfl
@[go_sem] theorem Tryz.un35 : Tryz.prog.underlying 35 = some (.slice 24) := by kernel_rfl
@[go_sem] theorem Tryz.ag37 : Abs.isAggT Tryz.prog 37 = some false := by kernel_rfl
@[go_sem] theorem Tryz.sz37 : Abs.sizeT Tryz.prog 37 = some 1 := by kernel_rfl
@[go_sem] theorem Tryz.by37 : Abs.bytesT Tryz.prog 37 = some 24 := by kernel_rfl
@[go_sem] theorem Tryz.ze37 : Abs.zeroT Tryz.prog 37 = some (.slice none 0 0) := by kernel_rfl
@[go_sem] theorem Tryz.sl37 : Abs.sliceT Tryz.prog 37 = some 28 := by kernel_rfl
@[go_sem] theorem Tryz.un37 : Tryz.prog.underlying 37 = some (.slice 28) := by kernel_rfl
@[go_sem] theorem Tryz.ag39 : Abs.isAggT Tryz.prog 39 = some false := by kernel_rfl
@[go_sem] theorem Tryz.sz39 : Abs.sizeT Tryz.prog 39 = some 1 := by kernel_rfl
@[go_sem] theorem Tryz.by39 : Abs.bytesT Tryz.prog 39 = some 8 := by kernel_rfl
@[go_sem] theorem Tryz.ze39 : Abs.zeroT Tryz.prog 39 = some (.int .i64 0) := by kernel_rfl
@[go_sem] theorem Tryz.sl39 : Abs.sliceT Tryz.prog 39 = none := by kernel_rfl
@[go_sem] theorem Tryz.in39 : Abs.intT Tryz.prog 39 = some .i64 := by kernel_rfl
@[go_sem] theorem Tryz.un39 : Tryz.prog.underlying 39 = some (.int .i64) := by kernel_rfl
@[go_sem] theorem Tryz.ag43 : Abs.isAggT Tryz.prog 43 = some false := by kernel_rfl
@[go_sem] theorem Tryz.sz43 : Abs.sizeT Tryz.prog 43 = some 1 := by kernel_rfl
@[go_sem] theorem Tryz.by43 : Abs.bytesT Tryz.prog 43 = some 8 := by kernel_rfl
@[go_sem] theorem Tryz.ze43 : Abs.zeroT Tryz.prog 43 = some (.nilFunc) := by kernel_rfl
@[go_sem] theorem Tryz.sl43 : Abs.sliceT Tryz.prog 43 = none := by kernel_rfl
@[go_sem] theorem Tryz.ag44 : Abs.isAggT Tryz.prog 44 = some false := by kernel_rfl
@[go_sem] theorem Tryz.sz44 : Abs.sizeT Tryz.prog 44 = some 1 := by kernel_rfl
@[go_sem] theorem Tryz.by44 : Abs.bytesT Tryz.prog 44 = some 8 := by kernel_rfl
@[go_sem] theorem Tryz.ze44 : Abs.zeroT Tryz.prog 44 = some (.nilFunc) := by kernel_rfl
@[go_sem] theorem Tryz.sl44 : Abs.sliceT Tryz.prog 44 = none := by kernel_rfl
@[go_sem] theorem Tryz.ag47 : Abs.isAggT Tryz.prog 47 = some false := by kernel_rfl
@[go_sem] theorem Tryz.sz47 : Abs.sizeT Tryz.prog 47 = some 1 := by kernel_rfl
@[go_sem] theorem Tryz.by47 : Abs.bytesT Tryz.prog 47 = some 8 := by kernel_rfl
@[go_sem] theorem Tryz.ze47 : Abs.zeroT Tryz.prog 47 = some (.nilFunc) := by kernel_rfl
@[go_sem] theorem Tryz.sl47 : Abs.sliceT Tryz.prog 47 = none := by kernel_rfl
@[go_sem] theorem Tryz.ag49 : Abs.isAggT Tryz.prog 49 = some false := by kernel_rfl
@[go_sem] theorem Tryz.sz49 : Abs.sizeT Tryz.prog 49 = some 1 := by kernel_rfl
@[go_sem] theorem Tryz.by49 : Abs.bytesT Tryz.prog 49 = some 8 := by kernel_rfl
@[go_sem] theorem Tryz.ze49 : Abs.zeroT Tryz.prog 49 = some (.nilFunc) := by kernel_rfl
@[go_sem] theorem Tryz.sl49 : Abs.sliceT Tryz.prog 49 = none := by kernel_rfl
@[go_sem] theorem Tryz.ag50 : Abs.isAggT Tryz.prog 50 = some false := by kernel_rfl
@[go_sem] theorem Tryz.sz50 : Abs.sizeT Tryz.prog 50 = some 1 := by kernel_rfl
@[go_sem] theorem Tryz.by50 : Abs.bytesT Tryz.prog 50 = some 24 := by kernel_rfl
@[go_sem] theorem Tryz.ze50 : Abs.zeroT Tryz.prog 50 = some (.slice none 0 0) := by kernel_rfl
@[go_sem] theorem Tryz.sl50 : Abs.sliceT Tryz.prog 50 = some 57 := by kernel_rfl
@[go_sem] theorem Tryz.un50 : Tryz.prog.underlying 50 = some (.slice 57) := by kernel_rfl
@[go_sem] theorem Tryz.sb56 : Abs.structB Tryz.prog 56 = true := by kernel_rfl
@[go_sem] theorem Tryz.ag57 : Abs.isAggT Tryz.prog 57 = some true := by kernel_rfl
@[go_sem] theorem Tryz.sz57 : Abs.sizeT Tryz.prog 57 = some 3 := by kernel_rfl
@[go_sem] theorem Tryz.by57 : Abs.bytesT Tryz.prog 57 = some 24 := by kernel_rfl
@[go_sem] theorem Tryz.ze57 : Abs.zeroT Tryz.prog 57 = some (.agg #[.int .i64 0, .int .i64 0, .int .i64 0]) := by kernel_rfl
@[go_sem] theorem Tryz.sl57 : Abs.sliceT Tryz.prog 57 = none := by kernel_rfl
@[go_sem] theorem Tryz.sb57 : Abs.structB Tryz.prog 57 = true := by kernel_rfl
@[go_sem] theorem Tryz.fl57_0 : Abs.fieldT Tryz.prog 57 0 = some (3, 0) := by kernel_rfl
@[go_sem] theorem Tryz.fl57_1 : Abs.fieldT Tryz.prog 57 1 = some (26, 1) := by kernel_rfl
@[go_sem] theorem Tryz.ag58 : Abs.isAggT Tryz.prog 58 = some false := by kernel_rfl
@[go_sem] theorem Tryz.sz58 : Abs.sizeT Tryz.prog 58 = some 1 := by kernel_rfl
@[go_sem] theorem Tryz.by58 : Abs.bytesT Tryz.prog 58 = some 8 := by kernel_rfl
@[go_sem] theorem Tryz.ze58 : Abs.zeroT Tryz.prog 58 = some (.nilFunc) := by kernel_rfl
@[go_sem] theorem Tryz.sl58 : Abs.sliceT Tryz.prog 58 = none := by kernel_rfl
@[go_sem] theorem Tryz.ag59 : Abs.isAggT Tryz.prog 59 = some false := by kernel_rfl
@[go_sem] theorem Tryz.sz59 : Abs.sizeT Tryz.prog 59 = some 1 := by kernel_rfl
@[go_sem] theorem Tryz.by59 : Abs.bytesT Tryz.prog 59 = some 24 := by kernel_rfl
@[go_sem] theorem Tryz.ze59 : Abs.zeroT Tryz.prog 59 = some (.slice none 0 0) := by kernel_rfl
@[go_sem] theorem Tryz.sl59 : Abs.sliceT Tryz.prog 59 = some 135 := by kernel_rfl
@[go_sem] theorem Tryz.un59 : Tryz.prog.underlying 59 = some (.slice 135) := by kernel_rfl
@[go_sem] theorem Tryz.ag60 : Abs.isAggT Tryz.prog 60 = some false := by kernel_rfl
@[go_sem] theorem Tryz.sz60 : Abs.sizeT Tryz.prog 60 = some 1 := by kernel_rfl
@[go_sem] theorem Tryz.by60 : Abs.bytesT Tryz.prog 60 = some 24 := by kernel_rfl
@[go_sem] theorem Tryz.ze60 : Abs.zeroT Tryz.prog 60 = some (.slice none 0 0) := by kernel_rfl
@[go_sem] theorem Tryz.sl60 : Abs.sliceT Tryz.prog 60 = some 72 := by kernel_rfl
@[go_sem] theorem Tryz.un60 : Tryz.prog.underlying 60 = some (.slice 72) := by kernel_rfl
@[go_sem] theorem Tryz.ag61 : Abs.isAggT Tryz.prog 61 = some true := by kernel_rfl
@[go_sem] theorem Tryz.sz61 : Abs.sizeT Tryz.prog 61 = some 3 := by kernel_rfl
@[go_sem] theorem Tryz.by61 : Abs.bytesT Tryz.prog 61 = some 72 := by kernel_rfl
@[go_sem] theorem Tryz.ze61 : Abs.zeroT Tryz.prog 61 = some (.agg #[.slice none 0 0, .slice none 0 0, .slice none 0 0]) := by kernel_rfl
@[go_sem] theorem Tryz.sl61 : Abs.sliceT Tryz.prog 61 = none := by kernel_rfl
@[go_sem] theorem Tryz.sb61 : Abs.structB Tryz.prog 61 = true := by kernel_rfl
@[go_sem] theorem Tryz.fl61_0 : Abs.fieldT Tryz.prog 61 0 = some (24, 0) := by kernel_rfl
@[go_sem] theorem Tryz.fl61_1 : Abs.fieldT Tryz.prog 61 1 = some (59, 1) := by kernel_rfl
@[go_sem] theorem Tryz.fl61_2 : Abs.fieldT Tryz.prog 61 2 = some (60, 2) := by kernel_rfl
@[go_sem] theorem Tryz.ag62 : Abs.isAggT Tryz.prog 62 = some true := by kernel_rfl
@[go_sem] theorem Tryz.sz62 : Abs.sizeT Tryz.prog 62 = some 3 := by kernel_rfl
@[go_sem] theorem Tryz.by62 : Abs.bytesT Tryz.prog 62 = some 72 := by kernel_rfl
@[go_sem] theorem Tryz.ze62 : Abs.zeroT Tryz.prog 62 = some (.agg #[.slice none 0 0, .slice none 0 0, .slice none 0 0]) := by kernel_rfl
@[go_sem] theorem Tryz.sl62 : Abs.sliceT Tryz.prog 62 = none := by kernel_rfl
@[go_sem] theorem Tryz.sb62 : Abs.structB Tryz.prog 62 = true := by kernel_rfl
@[go_sem] theorem Tryz.fl62_0 : Abs.fieldT Tryz.prog 62 0 = some (24, 0) := by kernel_rfl
@[go_sem] theorem Tryz.fl62_1 : Abs.fieldT Tryz.prog 62 1 = some (59, 1) := by kernel_rfl
@[go_sem] theorem Tryz.fl62_2 : Abs.fieldT Tryz.prog 62 2 = some (60, 2) := by kernel_rfl
@[go_sem] theorem Tryz.ag64 : Abs.isAggT Tryz.prog 64 = some false := by kernel_rfl
@[go_sem] theorem Tryz.sz64 : Abs.sizeT Tryz.prog 64 = some 1 := by kernel_rfl
@[go_sem] theorem Tryz.by64 : Abs.bytesT Tryz.prog 64 = some 24 := by kernel_rfl
@[go_sem] theorem Tryz.ze64 : Abs.zeroT Tryz.prog 64 = some (.slice none 0 0) := by kernel_rfl
@[go_sem] theorem Tryz.sl64 : Abs.sliceT Tryz.prog 64 = some 29 := by kernel_rfl
@[go_sem] theorem Tryz.un64 : Tryz.prog.underlying 64 = some (.slice 29) := by kernel_rfl
@[go_sem] theorem Tryz.sb71 : Abs.structB Tryz.prog 71 = true := by kernel_rfl
@[go_sem] theorem Tryz.ag72 : Abs.isAggT Tryz.prog 72 = some true := by kernel_rfl
@[go_sem] theorem Tryz.sz72 : Abs.sizeT Tryz.prog 72 = some 6 := by kernel_rfl
@[go_sem] theorem Tryz.by72 : Abs.bytesT Tryz.prog 72 = some 48 := by kernel_rfl
@[go_sem] theorem Tryz.ze72 : Abs.zeroT Tryz.prog 72 = some (.agg #[.int .i64 0, .int .i64 0, .int .i64 0, .int .i64 0, .int .i64 0, .int .i64 0]) := by kernel_rfl
@[go_sem] theorem Tryz.sl72 : Abs.sliceT Tryz.prog 72 = none := by kernel_rfl
@[go_sem] theorem Tryz.sb72 : Abs.structB Tryz.prog 72 = true := by kernel_rfl
@[go_sem] theorem Tryz.fl72_0 : Abs.fieldT Tryz.prog 72 0 = some (57, 0) := by kernel_rfl
@[go_sem] theorem Tryz.fl72_1 : Abs.fieldT Tryz.prog 72 1 = some (57, 3) := by kernel_rfl
@[go_sem] theorem Tryz.ag77 : Abs.isAggT Tryz.prog 77 = some false := by kernel_rfl
@[go_sem] theorem Tryz.sz77 : Abs.sizeT Tryz.prog 77 = some 1 := by kernel_rfl
@[go_sem] theorem Tryz.by77 : Abs.bytesT Tryz.prog 77 = some 8 := by kernel_rfl
@[go_sem] theorem Tryz.ze77 : Abs.zeroT Tryz.prog 77 = some (.nilFunc) := by kernel_rfl
@[go_sem] theorem Tryz.sl77 : Abs.sliceT Tryz.prog 77 = none := by kernel_rfl
@[go_sem] theorem Tryz.ag78 : Abs.isAggT Tryz.prog 78 = some false := by kernel_rfl
@[go_sem] theorem Tryz.sz78 : Abs.sizeT Tryz.prog 78 = some 1 := by kernel_rfl
@[go_sem] theorem Tryz.by78 : Abs.bytesT Tryz.prog 78 = some 24 := by kernel_rfl
@[go_sem] theorem Tryz.ze78 : Abs.zeroT Tryz.prog 78 = some (.slice none 0 0) := by kernel_rfl
@[go_sem] theorem Tryz.sl78 : Abs.sliceT Tryz.prog 78 = some 50 := by kernel_rfl
@[go_sem] theorem Tryz.un78 : Tryz.prog.underlying 78 = some (.slice 50) := by kernel_rfl
@[go_sem] theorem Tryz.ag80 : Abs.isAggT Tryz.prog 80 = some false := by kernel_rfl
@[go_sem] theorem Tryz.sz80 : Abs.sizeT Tryz.prog 80 = some 1 := by kernel_rfl
@[go_sem] theorem Tryz.by80 : Abs.bytesT Tryz.prog 80 = some 8 := by kernel_rfl
@[go_sem] theorem Tryz.ze80 : Abs.zeroT Tryz.prog 80 = some (.nilFunc) := by kernel_rfl
@[go_sem] theorem Tryz.sl80 : Abs.sliceT Tryz.prog 80 = none := by kernel_rfl
@[go_sem] theorem Tryz.ag82 : Abs.isAggT Tryz.prog 82 = some false := by kernel_rfl
@[go_sem] theorem Tryz.sz82 : Abs.sizeT Tryz.prog 82 = some 1 := by kernel_rfl
@[go_sem] theorem Tryz.by82 : Abs.bytesT Tryz.prog 82 = some 8 := by kernel_rfl
@[go_sem] theorem Tryz.ze82 : Abs.zeroT Tryz.prog 82 = some (.nilFunc) := by kernel_rfl
@[go_sem] theorem Tryz.sl82 : Abs.sliceT Tryz.prog 82 = none := by kernel_rfl
@[go_sem] theorem Tryz.ag83 : Abs.isAggT Tryz.prog 83 = some false := by kernel_rfl
@[go_sem] theorem Tryz.sz83 : Abs.sizeT Tryz.prog 83 = some 1 := by kernel_rfl
@[go_sem] theorem Tryz.by83 : Abs.bytesT Tryz.prog 83 = some 8 := by kernel_rfl
@[go_sem] theorem Tryz.ze83 : Abs.zeroT Tryz.prog 83 = some (.nilFunc) := by kernel_rfl
@[go_sem] theorem Tryz.sl83 : Abs.sliceT Tryz.prog 83 = none := by kernel_rfl
@[go_sem] theorem Tryz.ag84 : Abs.isAggT Tryz.prog 84 = some false := by kernel_rfl
@[go_sem] theorem Tryz.sz84 : Abs.sizeT Tryz.prog 84 = some 1 := by kernel_rfl
@[go_sem] theorem Tryz.by84 : Abs.bytesT Tryz.prog 84 = some 8 := by kernel_rfl
@[go_sem] theorem Tryz.ze84 : Abs.zeroT Tryz.prog 84 = some (.nilFunc) := by kernel_rfl
@[go_sem] theorem Tryz.sl84 : Abs.sliceT Tryz.prog 84 = none := by kernel_rfl
@[go_sem] theorem Tryz.ag85 : Abs.isAggT Tryz.prog 85 = some false := by kernel_rfl
@[go_sem] theorem Tryz.sz85 : Abs.sizeT Tryz.prog 85 = some 1 := by kernel_rfl
@[go_sem] theorem Tryz.by85 : Abs.bytesT Tryz.prog 85 = some 8 := by kernel_rfl
@[go_sem] theorem Tryz.ze85 : Abs.zeroT Tryz.prog 85 = some (.nilFunc) := by kernel_rfl
@[go_sem] theorem Tryz.sl85 : Abs.sliceT Tryz.prog 85 = none := by kernel_rfl
@[go_sem] theorem Tryz.ag86 : Abs.isAggT Tryz.prog 86 = some false := by kernel_rfl
@[go_sem] theorem Tryz.sz86 : Abs.sizeT Tryz.prog 86 = some 1 := by kernel_rfl
@[go_sem] theorem Tryz.by86 : Abs.bytesT Tryz.prog 86 = some 8 := by kernel_rfl
@[go_sem] theorem Tryz.ze86 : Abs.zeroT Tryz.prog 86 = some (.nilFunc) := by kernel_rfl
@[go_sem] theorem Tryz.sl86 : Abs.sliceT Tryz.prog 86 = none := by kernel_rfl
@[go_sem] theorem Tryz.ag87 : Abs.isAggT Tryz.prog 87 = some false := by kernel_rfl
@[go_sem] theorem Tryz.sz87 : Abs.sizeT Tryz.prog 87 = some 1 := by kernel_rfl
@[go_sem] theorem Tryz.by87 : Abs.bytesT Tryz.prog 87 = some 24 := by kernel_rfl
@[go_sem] theorem Tryz.ze87 : Abs.zeroT Tryz.prog 87 = some (.slice none 0 0) := by kernel_rfl
@[go_sem] theorem Tryz.sl87 : Abs.sliceT Tryz.prog 87 = some 62 := by kernel_rfl
@[go_sem] theorem Tryz.un87 : Tryz.prog.underlying 87 = some (.slice 62) := by kernel_rfl
@[go_sem] theorem Tryz.ag89 : Abs.isAggT Tryz.prog 89 = some false := by kernel_rfl
@[go_sem] theorem Tryz.sz89 : Abs.sizeT Tryz.prog 89 = some 1 := by kernel_rfl
@[go_sem] theorem Tryz.by89 : Abs.bytesT Tryz.prog 89 = some 8 := by kernel_rfl
@[go_sem] theorem Tryz.ze89 : Abs.zeroT Tryz.prog 89 = some (.nilFunc) := by kernel_rfl
@[go_sem] theorem Tryz.sl89 : Abs.sliceT Tryz.prog 89 = none := by kernel_rfl
@[go_sem] theorem Tryz.ag90 : Abs.isAggT Tryz.prog 90 = some false := by kernel_rfl
@[go_sem] theorem Tryz.sz90 : Abs.sizeT Tryz.prog 90 = some 1 := by kernel_rfl
@[go_sem] theorem Tryz.by90 : Abs.bytesT Tryz.prog 90 = some 8 := by kernel_rfl
@[go_sem] theorem Tryz.ze90 : Abs.zeroT Tryz.prog 90 = some (.nilFunc) := by kernel_rfl
@[go_sem] theorem Tryz.sl90 : Abs.sliceT Tryz.prog 90 = none := by kernel_rfl
@[go_sem] theorem Tryz.ag91 : Abs.isAggT Tryz.prog 91 = some false := by kernel_rfl
@[go_sem] theorem Tryz.sz91 : Abs.sizeT Tryz.prog 91 = some 1 := by kernel_rfl
@[go_sem] theorem Tryz.by91 : Abs.bytesT Tryz.prog 91 = some 8 := by kernel_rfl
@[go_sem] theorem Tryz.ze91 : Abs.zeroT Tryz.prog 91 = some (.nilFunc) := by kernel_rfl
@[go_sem] theorem Tryz.sl91 : Abs.sliceT Tryz.prog 91 = none := by kernel_rfl
@[go_sem] theorem Tryz.ag92 : Abs.isAggT Tryz.prog 92 = some false := by kernel_rfl
@[go_sem] theorem Tryz.sz92 : Abs.sizeT Tryz.prog 92 = some 1 := by kernel_rfl
@[go_sem] theorem Tryz.by92 : Abs.bytesT Tryz.prog 92 = some 8 := by kernel_rfl
@[go_sem] theorem Tryz.ze92 : Abs.zeroT Tryz.prog 92 = some (.nilFunc) := by kernel_rfl
@[go_sem] theorem Tryz.sl92 : Abs.sliceT Tryz.prog 92 = none := by kernel_rfl
@[go_sem] theorem Tryz.ag93 : Abs.isAggT Tryz.prog 93 = some false := by kernel_rfl
@[go_sem] theorem Tryz.sz93 : Abs.sizeT Tryz.prog 93 = some 1 := by kernel_rfl
@[go_sem] theorem Tryz.by93 : Abs.bytesT Tryz.prog 93 = some 8 := by kernel_rfl
@[go_sem] theorem Tryz.ze93 : Abs.zeroT Tryz.prog 93 = some (.nilFunc) := by kernel_rfl
@[go_sem] theorem Tryz.sl93 : Abs.sliceT Tryz.prog 93 = none := by kernel_rfl
@[go_sem] theorem Tryz.ag94 : Abs.isAggT Tryz.prog 94 = some false := by kernel_rfl
@[go_sem] theorem Tryz.sz94 : Abs.sizeT Tryz.prog 94 = some 1 := by kernel_rfl
@[go_sem] theorem Tryz.by94 : Abs.bytesT Tryz.prog 94 = some 8 := by kernel_rfl
@[go_sem] theorem Tryz.ze94 : Abs.zeroT Tryz.prog 94 = some (.nilFunc) := by kernel_rfl
@[go_sem] theorem Tryz.sl94 : Abs.sliceT Tryz.prog 94 = none := by kernel_rfl
@[go_sem] theorem Tryz.ag96 : Abs.isAggT Tryz.prog 96 = some false := by kernel_rfl
@[go_sem] theorem Tryz.sz96 : Abs.sizeT Tryz.prog 96 = some 1 := by kernel_rfl
@[go_sem] theorem Tryz.by96 : Abs.bytesT Tryz.prog 96 = some 8 := by kernel_rfl
@[go_sem] theorem Tryz.ze96 : Abs.zeroT Tryz.prog 96 = some (.nilFunc) := by kernel_rfl
@[go_sem] theorem Tryz.sl96 : Abs.sliceT Tryz.prog 96 = none := by kernel_rfl
@[go_sem] theorem Tryz.ag98 : Abs.isAggT Tryz.prog 98 = some false := by kernel_rfl
@[go_sem] theorem Tryz.sz98 : Abs.sizeT Tryz.prog 98 = some 1 := by kernel_rfl
@[go_sem] theorem Tryz.by98 : Abs.bytesT Tryz.prog 98 = some 8 := by kernel_rfl
@[go_sem] theorem Tryz.ze98 : Abs.zeroT Tryz.prog 98 = some (.nilFunc) := by kernel_rfl
@[go_sem] theorem Tryz.sl98 : Abs.sliceT Tryz.prog 98 = none := by kernel_rfl
@[go_sem] theorem Tryz.ag99 : Abs.isAggT Tryz.prog 99 = some false := by kernel_rfl
@[go_sem] theorem Tryz.sz99 : Abs.sizeT Tryz.prog 99 = some 1 := by kernel_rfl
@[go_sem] theorem Tryz.by99 : Abs.bytesT Tryz.prog 99 = some 8 := by kernel_rfl
@[go_sem] theorem Tryz.ze99 : Abs.zeroT Tryz.prog 99 = some (.nilFunc) := by kernel_rfl
@[go_sem] theorem Tryz.sl99 : Abs.sliceT Tryz.prog 99 = none := by kernel_rfl
@[go_sem] theorem Tryz.ag100 : Abs.isAggT Tryz.prog 100 = some false := by kernel_rfl
@[go_sem] theorem Tryz.sz100 : Abs.sizeT Tryz.prog 100 = some 1 := by kernel_rfl
@[go_sem] theorem Tryz.by100 : Abs.bytesT Tryz.prog 100 = some 8 := by kernel_rfl
@[go_sem] theorem Tryz.ze100 : Abs.zeroT Tryz.prog 100 = some (.nilFunc) := by kernel_rfl
@[go_sem] theorem Tryz.sl100 : Abs.sliceT Tryz.prog 100 = none := by kernel_rfl
@[go_sem] theorem Tryz.ag101 : Abs.isAggT Tryz.prog 101 = some false := by kernel_rfl
@[go_sem] theorem Tryz.sz101 : Abs.sizeT Tryz.prog 101 = some 1 := by kernel_rfl
@[go_sem] theorem Tryz.by101 : Abs.bytesT Tryz.prog 101 = some 8 := by kernel_rfl
@[go_sem] theorem Tryz.ze101 : Abs.zeroT Tryz.prog 101 = some (.nilFunc) := by kernel_rfl
@[go_sem] theorem Tryz.sl101 : Abs.sliceT Tryz.prog 101 = none := by kernel_rfl
@[go_sem] theorem Tryz.ag102 : Abs.isAggT Tryz.prog 102 = some false := by kernel_rfl
@[go_sem] theorem Tryz.sz102 : Abs.sizeT Tryz.prog 102 = some 1 := by kernel_rfl
@[go_sem] theorem Tryz.by102 : Abs.bytesT Tryz.prog 102 = some 8 := by kernel_rfl
@[go_sem] theorem Tryz.ze102 : Abs.zeroT Tryz.prog 102 = some (.nilFunc) := by kernel_rfl
@[go_sem] theorem Tryz.sl102 : Abs.sliceT Tryz.prog 102 = none := by kernel_rfl
@[go_sem] theorem Tryz.ag103 : Abs.isAggT Tryz.prog 103 = some false := by kernel_rfl
@[go_sem] theorem Tryz.sz103 : Abs.sizeT Tryz.prog 103 = some 1 := by kernel_rfl
@[go_sem] theorem Tryz.by103 : Abs.bytesT Tryz.prog 103 = some 8 := by kernel_rfl
@[go_sem] theorem Tryz.ze103 : Abs.zeroT Tryz.prog 103 = some (.nilFunc) := by kernel_rfl
@[go_sem] theorem Tryz.sl103 : Abs.sliceT Tryz.prog 103 = none := by kernel_rfl
@[go_sem] theorem Tryz.ag104 : Abs.isAggT Tryz.prog 104 = some false := by kernel_rfl
@[go_sem] theorem Tryz.sz104 : Abs.sizeT Tryz.prog 104 = some 1 := by kernel_rfl
@[go_sem] theorem Tryz.by104 : Abs.bytesT Tryz.prog 104 = some 8 := by kernel_rfl
@[go_sem] theorem Tryz.ze104 : Abs.zeroT Tryz.prog 104 = some (.nilFunc) := by kernel_rfl
@[go_sem] theorem Tryz.sl104 : Abs.sliceT Tryz.prog 104 = none := by kernel_rfl
@[go_sem] theorem Tryz.ag105 : Abs.isAggT Tryz.prog 105 = some false := by kernel_rfl
@[go_sem] theorem Tryz.sz105 : Abs.sizeT Tryz.prog 105 = some 1 := by kernel_rfl
@[go_sem] theorem Tryz.by105 : Abs.bytesT Tryz.prog 105 = some 24 := by kernel_rfl
@[go_sem] theorem Tryz.ze105 : Abs.zeroT Tryz.prog 105 = some (.slice none 0 0) := by kernel_rfl
@[go_sem] theorem Tryz.sl105 : Abs.sliceT Tryz.prog 105 = some 26 := by kernel_rfl
@[go_sem] theorem Tryz.un105 : Tryz.prog.underlying 105 = some (.slice 26) := by kernel_rfl
@[go_sem] theorem Tryz.ag106 : Abs.isAggT Tryz.prog 106 = some false := by kernel_rfl
@[go_sem] theorem Tryz.sz106 : Abs.sizeT Tryz.prog 106 = some 1 := by kernel_rfl
@[go_sem] theorem Tryz.by106 : Abs.bytesT Tryz.prog 106 = some 8 := by kernel_rfl
@[go_sem] theorem Tryz.ze106 : Abs.zeroT Tryz.prog 106 = some (.nilFunc) := by kernel_rfl
@[go_sem] theorem Tryz.sl106 : Abs.sliceT Tryz.prog 106 = none := by kernel_rfl
@[go_sem] theorem Tryz.ag111 : Abs.isAggT Tryz.prog 111 = some false := by kernel_rfl
@[go_sem] theorem Tryz.sz111 : Abs.sizeT Tryz.prog 111 = some 1 := by kernel_rfl
@[go_sem] theorem Tryz.by111 : Abs.bytesT Tryz.prog 111 = some 8 := by kernel_rfl
@[go_sem] theorem Tryz.ze111 : Abs.zeroT Tryz.prog 111 = some (.nilFunc) := by kernel_rfl
@[go_sem] theorem Tryz.sl111 : Abs.sliceT Tryz.prog 111 = none := by kernel_rfl
@[go_sem] theorem Tryz.ag112 : Abs.isAggT Tryz.prog 112 = some false := by kernel_rfl
@[go_sem] theorem Tryz.sz112 : Abs.sizeT Tryz.prog 112 = some 1 := by kernel_rfl
@[go_sem] theorem Tryz.by112 : Abs.bytesT Tryz.prog 112 = some 8 := by kernel_rfl
@[go_sem] theorem Tryz.ze112 : Abs.zeroT Tryz.prog 112 = some (.nilFunc) := by kernel_rfl
@[go_sem] theorem Tryz.sl112 : Abs.sliceT Tryz.prog 112 = none := by kernel_rfl
@[go_sem] theorem Tryz.ag113 : Abs.isAggT Tryz.prog 113 = some false := by kernel_rfl
@[go_sem] theorem Tryz.sz113 : Abs.sizeT Tryz.prog 113 = some 1 := by kernel_rfl
@[go_sem] theorem Tryz.by113 : Abs.bytesT Tryz.prog 113 = some 8 := by kernel_rfl
@[go_sem] theorem Tryz.ze113 : Abs.zeroT Tryz.prog 113 = some (.int .u64 0) := by kernel_rfl
@[go_sem] theorem Tryz.sl113 : Abs.sliceT Tryz.prog 113 = none := by kernel_rfl
@[go_sem] theorem Tryz.in113 : Abs.intT Tryz.prog 113 = some .u64 := by kernel_rfl
@[go_sem] theorem Tryz.un113 : Tryz.prog.underlying 113 = some (.int .u64) := by kernel_rfl
@[go_sem] theorem Tryz.ag114 : Abs.isAggT Tryz.prog 114 = some true := by kernel_rfl
@[go_sem] theorem Tryz.sz114 : Abs.sizeT Tryz.prog 114 = some 3 := by kernel_rfl
@[go_sem] theorem Tryz.by114 : Abs.bytesT Tryz.prog 114 = some 40 := by kernel_rfl
@[go_sem] theorem Tryz.ze114 : Abs.zeroT Tryz.prog 114 = some (.agg #[.slice none 0 0, .int .i64 0, .int .u64 0]) := by kernel_rfl
@[go_sem] theorem Tryz.sl114 : Abs.sliceT Tryz.prog 114 = none := by kernel_rfl
@[go_sem] theorem Tryz.sb114 : Abs.structB Tryz.prog 114 = true := by kernel_rfl
@[go_sem] theorem Tryz.fl114_0 : Abs.fieldT Tryz.prog 114 0 = some (29, 0) := by kernel_rfl
@[go_sem] theorem Tryz.fl114_1 : Abs.fieldT Tryz.prog 114 1 = some (3, 1) := by kernel_rfl
@[go_sem] theorem Tryz.fl114_2 : Abs.fieldT Tryz.prog 114 2 = some (113, 2) := by kernel_rfl
@[go_sem] theorem Tryz.ag115 : Abs.isAggT Tryz.prog 115 = some true := by kernel_rfl
@[go_sem] theorem Tryz.sz115 : Abs.sizeT Tryz.prog 115 = some 3 := by kernel_rfl
@[go_sem] theorem Tryz.by115 : Abs.bytesT Tryz.prog 115 = some 40 := by kernel_rfl
@[go_sem] theorem Tryz.ze115 : Abs.zeroT Tryz.prog 115 = some (.agg #[.slice none 0 0, .int .i64 0, .int .u64 0]) := by kernel_rfl
@[go_sem] theorem Tryz.sl115 : Abs.sliceT Tryz.prog 115 = none := by kernel_rfl
@[go_sem] theorem Tryz.sb115 : Abs.structB Tryz.prog 115 = true := by kernel_rfl
@[go_sem] theorem Tryz.fl115_0 : Abs.fieldT Tryz.prog 115 0 = some (29, 0) := by kernel_rfl
@[go_sem] theorem Tryz.fl115_1 : Abs.fieldT Tryz.prog 115 1 = some (3, 1) := by kernel_rfl
@[go_sem] theorem Tryz.fl115_2 : Abs.fieldT Tryz.prog 115 2 = some (113, 2) := by kernel_rfl
@[go_sem] theorem Tryz.ag116 : Abs.isAggT Tryz.prog 116 = some false := by kernel_rfl
@[go_sem] theorem Tryz.sz116 : Abs.sizeT Tryz.prog 116 = some 1 := by kernel_rfl
@[go_sem] theorem Tryz.by116 : Abs.bytesT Tryz.prog 116 = some 8 := by kernel_rfl
@[go_sem] theorem Tryz.ze116 : Abs.zeroT Tryz.prog 116 = some (.nilFunc) := by kernel_rfl
@[go_sem] theorem Tryz.sl116 : Abs.sliceT Tryz.prog 116 = none := by kernel_rfl
@[go_sem] theorem Tryz.ag121 : Abs.isAggT Tryz.prog 121 = some false := by kernel_rfl
@[go_sem] theorem Tryz.sz121 : Abs.sizeT Tryz.prog 121 = some 1 := by kernel_rfl
@[go_sem] theorem Tryz.by121 : Abs.bytesT Tryz.prog 121 = some 8 := by kernel_rfl
@[go_sem] theorem Tryz.ze121 : Abs.zeroT Tryz.prog 121 = some (.map none) := by kernel_rfl
@[go_sem] theorem Tryz.sl121 : Abs.sliceT Tryz.prog 121 = none := by kernel_rfl
@[go_sem] theorem Tryz.ag123 : Abs.isAggT Tryz.prog 123 = some false := by kernel_rfl
@[go_sem] theorem Tryz.sz123 : Abs.sizeT Tryz.prog 123 = some 1 := by kernel_rfl
@[go_sem] theorem Tryz.by123 : Abs.bytesT Tryz.prog 123 = some 8 := by kernel_rfl
@[go_sem] theorem Tryz.ze123 : Abs.zeroT Tryz.prog 123 = some (.nilFunc) := by kernel_rfl
@[go_sem] theorem Tryz.sl123 : Abs.sliceT Tryz.prog 123 = none := by kernel_rfl
@[go_sem] theorem Tryz.ag124 : Abs.isAggT Tryz.prog 124 = some false := by kernel_rfl
@[go_sem] theorem Tryz.sz124 : Abs.sizeT Tryz.prog 124 = some 1 := by kernel_rfl
@[go_sem] theorem Tryz.by124 : Abs.bytesT Tryz.prog 124 = some 8 := by kernel_rfl
@[go_sem] theorem Tryz.ze124 : Abs.zeroT Tryz.prog 124 = some (.nilFunc) := by kernel_rfl
@[go_sem] theorem Tryz.sl124 : Abs.sliceT Tryz.prog 124 = none := by kernel_rfl
@[go_sem] theorem Tryz.ag125 : Abs.isAggT Tryz.prog 125 = some false := by kernel_rfl
@[go_sem] theorem Tryz.sz125 : Abs.sizeT Tryz.prog 125 = some 1 := by kernel_rfl
@[go_sem] theorem Tryz.by125 : Abs.bytesT Tryz.prog 125 = some 8 := by kernel_rfl
@[go_sem] theorem Tryz.ze125 : Abs.zeroT Tryz.prog 125 = some (.nilFunc) := by kernel_rfl
@[go_sem] theorem Tryz.sl125 : Abs.sliceT Tryz.prog 125 = none := by kernel_rfl
@[go_sem] theorem Tryz.ag126 : Abs.isAggT Tryz.prog 126 = some false := by kernel_rfl
@[go_sem] theorem Tryz.sz126 : Abs.sizeT Tryz.prog 126 = some 1 := by kernel_rfl
@[go_sem] theorem Tryz.by126 : Abs.bytesT Tryz.prog 126 = some 8 := by kernel_rfl
@[go_sem] theorem Tryz.ze126 : Abs.zeroT Tryz.prog 126 = some (.nilFunc) := by kernel_rfl
@[go_sem] theorem Tryz.sl126 : Abs.sliceT Tryz.prog 126 = none := by kernel_rfl
@[go_sem] theorem Tryz.ag127 : Abs.isAggT Tryz.prog 127 = some false := by kernel_rfl
@[go_sem] theorem Tryz.sz127 : Abs.sizeT Tryz.prog 127 = some 1 := by kernel_rfl
@[go_sem] theorem Tryz.by127 : Abs.bytesT Tryz.prog 127 = some 8 := by kernel_rfl
@[go_sem] theorem Tryz.ze127 : Abs.zeroT Tryz.prog 127 = some (.nilFunc) := by kernel_rfl
@[go_sem] theorem Tryz.sl127 : Abs.sliceT Tryz.prog 127 = none := by kernel_rfl
@[go_sem] theorem Tryz.ag128 : Abs.isAggT Tryz.prog 128 = some false := by kernel_rfl
@[go_sem] theorem Tryz.sz128 : Abs.sizeT Tryz.prog 128 = some 1 := by kernel_rfl
@[go_sem] theorem Tryz.by128 : Abs.bytesT Tryz.prog 128 = some 8 := by kernel_rfl
@[go_sem] theorem Tryz.ze128 : Abs.zeroT Tryz.prog 128 = some (.nilFunc) := by kernel_rfl
@[go_sem] theorem Tryz.sl128 : Abs.sliceT Tryz.prog 128 = none := by kernel_rfl
@[go_sem] theorem Tryz.ag129 : Abs.isAggT Tryz.prog 129 = some false := by kernel_rfl
@[go_sem] theorem Tryz.sz129 : Abs.sizeT Tryz.prog 129 = some 1 := by kernel_rfl
@[go_sem] theorem Tryz.by129 : Abs.bytesT Tryz.prog 129 = some 8 := by kernel_rfl
@[go_sem] theorem Tryz.ze129 : Abs.zeroT Tryz.prog 129 = some (.int .u64 0) := by kernel_rfl
@[go_sem] theorem Tryz.sl129 : Abs.sliceT Tryz.prog 129 = none := by kernel_rfl
@[go_sem] theorem Tryz.in129 : Abs.intT Tryz.prog 129 = some .u64 := by kernel_rfl
@[go_sem] theorem Tryz.un129 : Tryz.prog.underlying 129 = some (.int .u64) := by kernel_rfl
@[go_sem] theorem Tryz.ag131 : Abs.isAggT Tryz.prog 131 = some false := by kernel_rfl
@[go_sem] theorem Tryz.sz131 : Abs.sizeT Tryz.prog 131 = some 1 := by kernel_rfl
@[go_sem] theorem Tryz.by131 : Abs.bytesT Tryz.prog 131 = some 8 := by kernel_rfl
@[go_sem] theorem Tryz.ze131 : Abs.zeroT Tryz.prog 131 = some (.nilFunc) := by kernel_rfl
@[go_sem] theorem Tryz.sl131 : Abs.sliceT Tryz.prog 131 = none := by kernel_rfl
@[go_sem] theorem Tryz.ag133 : Abs.isAggT Tryz.prog 133 = some false := by kernel_rfl
@[go_sem] theorem Tryz.sz133 : Abs.sizeT Tryz.prog 133 = some 1 := by kernel_rfl
@[go_sem] theorem Tryz.by133 : Abs.bytesT Tryz.prog 133 = some 8 := by kernel_rfl
@[go_sem] theorem Tryz.ze133 : Abs.zeroT Tryz.prog 133 = some (.nilFunc) := by kernel_rfl
@[go_sem] theorem Tryz.sl133 : Abs.sliceT Tryz.prog 133 = none := by kernel_rfl
@[go_sem] theorem Tryz.ag134 : Abs.isAggT Tryz.prog 134 = some true := by kernel_rfl
@[go_sem] theorem Tryz.sz134 : Abs.sizeT Tryz.prog 134 = some 1 := by kernel_rfl
@[go_sem] theorem Tryz.by134 : Abs.bytesT Tryz.prog 134 = some 24 := by kernel_rfl
@[go_sem] theorem Tryz.ze134 : Abs.zeroT Tryz.prog 134 = some (.agg #[.slice none 0 0]) := by kernel_rfl
@[go_sem] theorem Tryz.sl134 : Abs.sliceT Tryz.prog 134 = none := by kernel_rfl
@[go_sem] theorem Tryz.sb134 : Abs.structB Tryz.prog 134 = true := by kernel_rfl
@[go_sem] theorem Tryz.fl134_0 : Abs.fieldT Tryz.prog 134 0 = some (37, 0) := by kernel_rfl
@[go_sem] theorem Tryz.ag135 : Abs.isAggT Tryz.prog 135 = some true := by kernel_rfl
@[go_sem] theorem Tryz.sz135 : Abs.sizeT Tryz.prog 135 = some 1 := by kernel_rfl
@[go_sem] theorem Tryz.by135 : Abs.bytesT Tryz.prog 135 = some 24 := by kernel_rfl
@[go_sem] theorem Tryz.ze135 : Abs.zeroT Tryz.prog 135 = some (.agg #[.slice none 0 0]) := by kernel_rfl
@[go_sem] theorem Tryz.sl135 : Abs.sliceT Tryz.prog 135 = none := by kernel_rfl
@[go_sem] theorem Tryz.sb135 : Abs.structB Tryz.prog 135 = true := by kernel_rfl
@[go_sem] theorem Tryz.fl135_0 : Abs.fieldT Tryz.prog 135 0 = some (37, 0) := by kernel_rfl
@[go_sem] theorem Tryz.ag136 : Abs.isAggT Tryz.prog 136 = some false := by kernel_rfl
@[go_sem] theorem Tryz.sz136 : Abs.sizeT Tryz.prog 136 = some 1 := by kernel_rfl
@[go_sem] theorem Tryz.by136 : Abs.bytesT Tryz.prog 136 = some 8 := by kernel_rfl
@[go_sem] theorem Tryz.ze136 : Abs.zeroT Tryz.prog 136 = some (.pointer none) := by kernel_rfl
@[go_sem] theorem Tryz.sl136 : Abs.sliceT Tryz.prog 136 = none := by kernel_rfl
@[go_sem] theorem Tryz.ag137 : Abs.isAggT Tryz.prog 137 = some false := by kernel_rfl
@[go_sem] theorem Tryz.sz137 : Abs.sizeT Tryz.prog 137 = some 1 := by kernel_rfl
@[go_sem] theorem Tryz.by137 : Abs.bytesT Tryz.prog 137 = some 24 := by kernel_rfl
@[go_sem] theorem Tryz.ze137 : Abs.zeroT Tryz.prog 137 = some (.slice none 0 0) := by kernel_rfl
@[go_sem] theorem Tryz.sl137 : Abs.sliceT Tryz.prog 137 = some 141 := by kernel_rfl
@[go_sem] theorem Tryz.un137 : Tryz.prog.underlying 137 = some (.slice 141) := by kernel_rfl
@[go_sem] theorem Tryz.ag139 : Abs.isAggT Tryz.prog 139 = some false := by kernel_rfl
@[go_sem] theorem Tryz.sz139 : Abs.sizeT Tryz.prog 139 = some 1 := by kernel_rfl
@[go_sem] theorem Tryz.by139 : Abs.bytesT Tryz.prog 139 = some 8 := by kernel_rfl
@[go_sem] theorem Tryz.ze139 : Abs.zeroT Tryz.prog 139 = some (.nilFunc) := by kernel_rfl
@[go_sem] theorem Tryz.sl139 : Abs.sliceT Tryz.prog 139 = none := by kernel_rfl
@[go_sem] theorem Tryz.ag140 : Abs.isAggT Tryz.prog 140 = some true := by kernel_rfl
@[go_sem] theorem Tryz.sz140 : Abs.sizeT Tryz.prog 140 = some 3 := by kernel_rfl
@[go_sem] theorem Tryz.by140 : Abs.bytesT Tryz.prog 140 = some 56 := by kernel_rfl
@[go_sem] theorem Tryz.ze140 : Abs.zeroT Tryz.prog 140 = some (.agg #[.slice none 0 0, .slice none 0 0, .map none]) := by kernel_rfl
@[go_sem] theorem Tryz.sl140 : Abs.sliceT Tryz.prog 140 = none := by kernel_rfl
@[go_sem] theorem Tryz.sb140 : Abs.structB Tryz.prog 140 = true := by kernel_rfl
@[go_sem] theorem Tryz.fl140_0 : Abs.fieldT Tryz.prog 140 0 = some (29, 0) := by kernel_rfl
@[go_sem] theorem Tryz.fl140_1 : Abs.fieldT Tryz.prog 140 1 = some (24, 1) := by kernel_rfl
@[go_sem] theorem Tryz.fl140_2 : Abs.fieldT Tryz.prog 140 2 = some (121, 2) := by kernel_rfl
@[go_sem] theorem Tryz.ag141 : Abs.isAggT Tryz.prog 141 = some true := by kernel_rfl
@[go_sem] theorem Tryz.sz141 : Abs.sizeT Tryz.prog 141 = some 3 := by kernel_rfl
@[go_sem] theorem Tryz.by141 : Abs.bytesT Tryz.prog 141 = some 56 := by kernel_rfl
@[go_sem] theorem Tryz.ze141 : Abs.zeroT Tryz.prog 141 = some (.agg #[.slice none 0 0, .slice none 0 0, .map none]) := by kernel_rfl
@[go_sem] theorem Tryz.sl141 : Abs.sliceT Tryz.prog 141 = none := by kernel_rfl
@[go_sem] theorem Tryz.sb141 : Abs.structB Tryz.prog 141 = true := by kernel_rfl
@[go_sem] theorem Tryz.fl141_0 : Abs.fieldT Tryz.prog 141 0 = some (29, 0) := by kernel_rfl
@[go_sem] theorem Tryz.fl141_1 : Abs.fieldT Tryz.prog 141 1 = some (24, 1) := by kernel_rfl
@[go_sem] theorem Tryz.fl141_2 : Abs.fieldT Tryz.prog 141 2 = some (121, 2) := by kernel_rfl
@[go_sem] theorem Tryz.ag142 : Abs.isAggT Tryz.prog 142 = some true := by kernel_rfl
@[go_sem] theorem Tryz.sz142 : Abs.sizeT Tryz.prog 142 = some 4 := by kernel_rfl
@[go_sem] theorem Tryz.by142 : Abs.bytesT Tryz.prog 142 = some 96 := by kernel_rfl
@[go_sem] theorem Tryz.ze142 : Abs.zeroT Tryz.prog 142 = some (.agg #[.slice none 0 0, .slice none 0 0, .slice none 0 0, .slice none 0 0]) := by kernel_rfl
@[go_sem] theorem Tryz.sl142 : Abs.sliceT Tryz.prog 142 = none := by kernel_rfl
@[go_sem] theorem Tryz.sb142 : Abs.structB Tryz.prog 142 = true := by kernel_rfl
@[go_sem] theorem Tryz.fl142_0 : Abs.fieldT Tryz.prog 142 0 = some (62, 0) := by kernel_rfl
@[go_sem] theorem Tryz.fl142_1 : Abs.fieldT Tryz.prog 142 1 = some (50, 3) := by kernel_rfl
@[go_sem] theorem Tryz.ag143 : Abs.isAggT Tryz.prog 143 = some true := by kernel_rfl
@[go_sem] theorem Tryz.sz143 : Abs.sizeT Tryz.prog 143 = some 4 := by kernel_rfl
@[go_sem] theorem Tryz.by143 : Abs.bytesT Tryz.prog 143 = some 96 := by kernel_rfl
@[go_sem] theorem Tryz.ze143 : Abs.zeroT Tryz.prog 143 = some (.agg #[.slice none 0 0, .slice none 0 0, .slice none 0 0, .slice none 0 0]) := by kernel_rfl
@[go_sem] theorem Tryz.sl143 : Abs.sliceT Tryz.prog 143 = none := by kernel_rfl
@[go_sem] theorem Tryz.sb143 : Abs.structB Tryz.prog 143 = true := by kernel_rfl
@[go_sem] theorem Tryz.fl143_0 : Abs.fieldT Tryz.prog 143 0 = some (62, 0) := by kernel_rfl
@[go_sem] theorem Tryz.fl143_1 : Abs.fieldT Tryz.prog 143 1 = some (50, 3) := by kernel_rfl
@[go_sem] theorem Tryz.ag145 : Abs.isAggT Tryz.prog 145 = some false := by kernel_rfl
@[go_sem] theorem Tryz.sz145 : Abs.sizeT Tryz.prog 145 = some 1 := by kernel_rfl
@[go_sem] theorem Tryz.by145 : Abs.bytesT Tryz.prog 145 = some 8 := by kernel_rfl
@[go_sem] theorem Tryz.ze145 : Abs.zeroT Tryz.prog 145 = some (.nilFunc) := by kernel_rfl
@[go_sem] theorem Tryz.sl145 : Abs.sliceT Tryz.prog 145 = none := by kernel_rfl
@[go_sem] theorem Tryz.ag146 : Abs.isAggT Tryz.prog 146 = some false := by kernel_rfl
@[go_sem] theorem Tryz.sz146 : Abs.sizeT Tryz.prog 146 = some 1 := by kernel_rfl
@[go_sem] theorem Tryz.by146 : Abs.bytesT Tryz.prog 146 = some 8 := by kernel_rfl
@[go_sem] theorem Tryz.ze146 : Abs.zeroT Tryz.prog 146 = some (.nilFunc) := by kernel_rfl
@[go_sem] theorem Tryz.sl146 : Abs.sliceT Tryz.prog 146 = none := by kernel_rfl
@[go_sem] theorem Tryz.ag147 : Abs.isAggT Tryz.prog 147 = some false := by kernel_rfl
@[go_sem] theorem Tryz.sz147 : Abs.sizeT Tryz.prog 147 = some 1 := by kernel_rfl
@[go_sem] theorem Tryz.by147 : Abs.bytesT Tryz.prog 147 = some 24 := by kernel_rfl
@[go_sem] theorem Tryz.ze147 : Abs.zeroT Tryz.prog 147 = some (.slice none 0 0) := by kernel_rfl
@[go_sem] theorem Tryz.sl147 : Abs.sliceT Tryz.prog 147 = some 149 := by kernel_rfl
@[go_sem] theorem Tryz.un147 : Tryz.prog.underlying 147 = some (.slice 149) := by kernel_rfl
@[go_sem] theorem Tryz.ag149 : Abs.isAggT Tryz.prog 149 = some true := by kernel_rfl
@[go_sem] theorem Tryz.sz149 : Abs.sizeT Tryz.prog 149 = some 6 := by kernel_rfl
@[go_sem] theorem Tryz.by149 : Abs.bytesT Tryz.prog 149 = some 48 := by kernel_rfl
@[go_sem] theorem Tryz.ze149 : Abs.zeroT Tryz.prog 149 = some (.agg #[.int .i64 0, .int .i64 0, .int .i64 0, .int .i64 0, .int .i64 0, .int .i64 0]) := by kernel_rfl
@[go_sem] theorem Tryz.sl149 : Abs.sliceT Tryz.prog 149 = none := by kernel_rfl
@[go_sem] theorem Tryz.sb149 : Abs.structB Tryz.prog 149 = true := by kernel_rfl
@[go_sem] theorem Tryz.fl149_0 : Abs.fieldT Tryz.prog 149 0 = some (57, 0) := by kernel_rfl
@[go_sem] theorem Tryz.fl149_1 : Abs.fieldT Tryz.prog 149 1 = some (57, 3) := by kernel_rfl
@[go_sem] theorem Tryz.ag151 : Abs.isAggT Tryz.prog 151 = some false := by kernel_rfl
@[go_sem] theorem Tryz.sz151 : Abs.sizeT Tryz.prog 151 = some 1 := by kernel_rfl
@[go_sem] theorem Tryz.by151 : Abs.bytesT Tryz.prog 151 = some 24 := by kernel_rfl
@[go_sem] theorem Tryz.ze151 : Abs.zeroT Tryz.prog 151 = some (.slice none 0 0) := by kernel_rfl
@[go_sem] theorem Tryz.sl151 : Abs.sliceT Tryz.prog 151 = some 154 := by kernel_rfl
@[go_sem] theorem Tryz.un151 : Tryz.prog.underlying 151 = some (.slice 154) := by kernel_rfl
@[go_sem] theorem Tryz.ag152 : Abs.isAggT Tryz.prog 152 = some false := by kernel_rfl
@[go_sem] theorem Tryz.sz152 : Abs.sizeT Tryz.prog 152 = some 1 := by kernel_rfl
@[go_sem] theorem Tryz.by152 : Abs.bytesT Tryz.prog 152 = some 8 := by kernel_rfl
@[go_sem] theorem Tryz.ze152 : Abs.zeroT Tryz.prog 152 = some (.nilFunc) := by kernel_rfl
@[go_sem] theorem Tryz.sl152 : Abs.sliceT Tryz.prog 152 = none := by kernel_rfl
@[go_sem] theorem Tryz.ag153 : Abs.isAggT Tryz.prog 153 = some true := by kernel_rfl
@[go_sem] theorem Tryz.sz153 : Abs.sizeT Tryz.prog 153 = some 3 := by kernel_rfl
@[go_sem] theorem Tryz.by153 : Abs.bytesT Tryz.prog 153 = some 72 := by kernel_rfl
@[go_sem] theorem Tryz.ze153 : Abs.zeroT Tryz.prog 153 = some (.agg #[.slice none 0 0, .slice none 0 0, .slice none 0 0]) := by kernel_rfl
@[go_sem] theorem Tryz.sl153 : Abs.sliceT Tryz.prog 153 = none := by kernel_rfl
@[go_sem] theorem Tryz.sb153 : Abs.structB Tryz.prog 153 = true := by kernel_rfl
@[go_sem] theorem Tryz.fl153_0 : Abs.fieldT Tryz.prog 153 0 = some (29, 0) := by kernel_rfl
@[go_sem] theorem Tryz.fl153_1 : Abs.fieldT Tryz.prog 153 1 = some (24, 1) := by kernel_rfl
@[go_sem] theorem Tryz.fl153_2 : Abs.fieldT Tryz.prog 153 2 = some (78, 2) := by kernel_rfl
@[go_sem] theorem Tryz.ag154 : Abs.isAggT Tryz.prog 154 = some true := by kernel_rfl
@[go_sem] theorem Tryz.sz154 : Abs.sizeT Tryz.prog 154 = some 3 := by kernel_rfl
@[go_sem] theorem Tryz.by154 : Abs.bytesT Tryz.prog 154 = some 72 := by kernel_rfl
@[go_sem] theorem Tryz.ze154 : Abs.zeroT Tryz.prog 154 = some (.agg #[.slice none 0 0, .slice none 0 0, .slice none 0 0]) := by kernel_rfl
@[go_sem] theorem Tryz.sl154 : Abs.sliceT Tryz.prog 154 = none := by kernel_rfl
@[go_sem] theorem Tryz.sb154 : Abs.structB Tryz.prog 154 = true := by kernel_rfl
@[go_sem] theorem Tryz.fl154_0 : Abs.fieldT Tryz.prog 154 0 = some (29, 0) := by kernel_rfl
@[go_sem] theorem Tryz.fl154_1 : Abs.fieldT Tryz.prog 154 1 = some (24, 1) := by kernel_rfl
@[go_sem] theorem Tryz.fl154_2 : Abs.fieldT Tryz.prog 154 2 = some (78, 2) := by kernel_rfl
@[go_sem] theorem Tryz.ag155 : Abs.isAggT Tryz.prog 155 = some false := by kernel_rfl
@[go_sem] theorem Tryz.sz155 : Abs.sizeT Tryz.prog 155 = some 1 := by kernel_rfl
@[go_sem] theorem Tryz.by155 : Abs.bytesT Tryz.prog 155 = some 8 := by kernel_rfl
@[go_sem] theorem Tryz.ze155 : Abs.zeroT Tryz.prog 155 = some (.nilFunc) := by kernel_rfl
@[go_sem] theorem Tryz.sl155 : Abs.sliceT Tryz.prog 155 = none := by kernel_rfl
@[go_sem] theorem Tryz.ag156 : Abs.isAggT Tryz.prog 156 = some false := by kernel_rfl
@[go_sem] theorem Tryz.sz156 : Abs.sizeT Tryz.prog 156 = some 1 := by kernel_rfl
@[go_sem] theorem Tryz.by156 : Abs.bytesT Tryz.prog 156 = some 8 := by kernel_rfl
@[go_sem] theorem Tryz.ze156 : Abs.zeroT Tryz.prog 156 = some (.nilFunc) := by kernel_rfl
@[go_sem] theorem Tryz.sl156 : Abs.sliceT Tryz.prog 156 = none := by kernel_rfl
@[go_sem] theorem Tryz.ag157 : Abs.isAggT Tryz.prog 157 = some false := by kernel_rfl
@[go_sem] theorem Tryz.sz157 : Abs.sizeT Tryz.prog 157 = some 1 := by kernel_rfl
@[go_sem] theorem Tryz.by157 : Abs.bytesT Tryz.prog 157 = some 8 := by kernel_rfl
@[go_sem] theorem Tryz.ze157 : Abs.zeroT Tryz.prog 157 = some (.nilFunc) := by kernel_rfl
@[go_sem] theorem Tryz.sl157 : Abs.sliceT Tryz.prog 157 = none := by kernel_rfl
@[go_sem] theorem Tryz.ag158 : Abs.isAggT Tryz.prog 158 = some false := by kernel_rfl
@[go_sem] theorem Tryz.sz158 : Abs.sizeT Tryz.prog 158 = some 1 := by kernel_rfl
@[go_sem] theorem Tryz.by158 : Abs.bytesT Tryz.prog 158 = some 8 := by kernel_rfl
@[go_sem] theorem Tryz.ze158 : Abs.zeroT Tryz.prog 158 = some (.nilFunc) := by kernel_rfl
@[go_sem] theorem Tryz.sl158 : Abs.sliceT Tryz.prog 158 = none := by kernel_rfl
@[go_sem] theorem Tryz.ag159 : Abs.isAggT Tryz.prog 159 = some false := by kernel_rfl
@[go_sem] theorem Tryz.sz159 : Abs.sizeT Tryz.prog 159 = some 1 := by kernel_rfl
@[go_sem] theorem Tryz.by159 : Abs.bytesT Tryz.prog 159 = some 8 := by kernel_rfl
@[go_sem] theorem Tryz.ze159 : Abs.zeroT Tryz.prog 159 = some (.nilFunc) := by kernel_rfl
@[go_sem] theorem Tryz.sl159 : Abs.sliceT Tryz.prog 159 = none := by kernel_rfl
@[go_sem] theorem Tryz.ag160 : Abs.isAggT Tryz.prog 160 = some false := by kernel_rfl
@[go_sem] theorem Tryz.sz160 : Abs.sizeT Tryz.prog 160 = some 1 := by kernel_rfl
@[go_sem] theorem Tryz.by160 : Abs.bytesT Tryz.prog 160 = some 8 := by kernel_rfl
@[go_sem] theorem Tryz.ze160 : Abs.zeroT Tryz.prog 160 = some (.nilFunc) := by kernel_rfl
@[go_sem] theorem Tryz.sl160 : Abs.sliceT Tryz.prog 160 = none := by kernel_rfl
@[go_sem] theorem Tryz.ag161 : Abs.isAggT Tryz.prog 161 = some false := by kernel_rfl
@[go_sem] theorem Tryz.sz161 : Abs.sizeT Tryz.prog 161 = some 1 := by kernel_rfl
@[go_sem] theorem Tryz.by161 : Abs.bytesT Tryz.prog 161 = some 8 := by kernel_rfl
@[go_sem] theorem Tryz.ze161 : Abs.zeroT Tryz.prog 161 = some (.nilFunc) := by kernel_rfl
@[go_sem] theorem Tryz.sl161 : Abs.sliceT Tryz.prog 161 = none := by kernel_rfl
@[go_sem] theorem Tryz.ag162 : Abs.isAggT Tryz.prog 162 = some false := by kernel_rfl
@[go_sem] theorem Tryz.sz162 : Abs.sizeT Tryz.prog 162 = some 1 := by kernel_rfl
@[go_sem] theorem Tryz.by162 : Abs.bytesT Tryz.prog 162 = some 8 := by kernel_rfl
@[go_sem] theorem Tryz.ze162 : Abs.zeroT Tryz.prog 162 = some (.nilFunc) := by kernel_rfl
@[go_sem] theorem Tryz.sl162 : Abs.sliceT Tryz.prog 162 = none := by kernel_rfl
@[go_sem] theorem Tryz.ag163 : Abs.isAggT Tryz.prog 163 = some false := by kernel_rfl
@[go_sem] theorem Tryz.sz163 : Abs.sizeT Tryz.prog 163 = some 1 := by kernel_rfl
@[go_sem] theorem Tryz.by163 : Abs.bytesT Tryz.prog 163 = some 8 := by kernel_rfl
@[go_sem] theorem Tryz.ze163 : Abs.zeroT Tryz.prog 163 = some (.nilFunc) := by kernel_rfl
@[go_sem] theorem Tryz.sl163 : Abs.sliceT Tryz.prog 163 = none := by kernel_rfl
@[go_sem] theorem Tryz.ag164 : Abs.isAggT Tryz.prog 164 = some false := by kernel_rfl
@[go_sem] theorem Tryz.sz164 : Abs.sizeT Tryz.prog 164 = some 1 := by kernel_rfl
@[go_sem] theorem Tryz.by164 : Abs.bytesT Tryz.prog 164 = some 8 := by kernel_rfl
@[go_sem] theorem Tryz.ze164 : Abs.zeroT Tryz.prog 164 = some (.nilFunc) := by kernel_rfl
@[go_sem] theorem Tryz.sl164 : Abs.sliceT Tryz.prog 164 = none := by kernel_rfl
@[go_sem] theorem Tryz.ag165 : Abs.isAggT Tryz.prog 165 = some false := by kernel_rfl
@[go_sem] theorem Tryz.sz165 : Abs.sizeT Tryz.prog 165 = some 1 := by kernel_rfl
@[go_sem] theorem Tryz.by165 : Abs.bytesT Tryz.prog 165 = some 8 := by kernel_rfl
@[go_sem] theorem Tryz.ze165 : Abs.zeroT Tryz.prog 165 = some (.nilFunc) := by kernel_rfl
@[go_sem] theorem Tryz.sl165 : Abs.sliceT Tryz.prog 165 = none := by kernel_rfl
@[go_sem] theorem Tryz.ag169 : Abs.isAggT Tryz.prog 169 = some false := by kernel_rfl
@[go_sem] theorem Tryz.sz169 : Abs.sizeT Tryz.prog 169 = some 1 := by kernel_rfl
@[go_sem] theorem Tryz.by169 : Abs.bytesT Tryz.prog 169 = some 8 := by kernel_rfl
@[go_sem] theorem Tryz.ze169 : Abs.zeroT Tryz.prog 169 = some (.nilFunc) := by kernel_rfl
@[go_sem] theorem Tryz.sl169 : Abs.sliceT Tryz.prog 169 = none := by kernel_rfl
@[go_sem] theorem Tryz.ag171 : Abs.isAggT Tryz.prog 171 = some false := by kernel_rfl
@[go_sem] theorem Tryz.sz171 : Abs.sizeT Tryz.prog 171 = some 1 := by kernel_rfl
@[go_sem] theorem Tryz.by171 : Abs.bytesT Tryz.prog 171 = some 8 := by kernel_rfl
@[go_sem] theorem Tryz.ze171 : Abs.zeroT Tryz.prog 171 = some (.nilFunc) := by kernel_rfl
@[go_sem] theorem Tryz.sl171 : Abs.sliceT Tryz.prog 171 = none := by kernel_rfl
@[go_sem] theorem Tryz.ag172 : Abs.isAggT Tryz.prog 172 = some false := by kernel_rfl
@[go_sem] theorem Tryz.sz172 : Abs.sizeT Tryz.prog 172 = some 1 := by kernel_rfl
@[go_sem] theorem Tryz.by172 : Abs.bytesT Tryz.prog 172 = some 8 := by kernel_rfl
@[go_sem] theorem Tryz.ze172 : Abs.zeroT Tryz.prog 172 = some (.nilFunc) := by kernel_rfl
@[go_sem] theorem Tryz.sl172 : Abs.sliceT Tryz.prog 172 = none := by kernel_rfl
@[go_sem] theorem Tryz.ag173 : Abs.isAggT Tryz.prog 173 = some false := by kernel_rfl
@[go_sem] theorem Tryz.sz173 : Abs.sizeT Tryz.prog 173 = some 1 := by kernel_rfl
@[go_sem] theorem Tryz.by173 : Abs.bytesT Tryz.prog 173 = some 8 := by kernel_rfl
@[go_sem] theorem Tryz.ze173 : Abs.zeroT Tryz.prog 173 = some (.nilFunc) := by kernel_rfl
@[go_sem] theorem Tryz.sl173 : Abs.sliceT Tryz.prog 173 = none := by kernel_rfl
@[go_sem] theorem Tryz.ag174 : Abs.isAggT Tryz.prog 174 = some false := by kernel_rfl
@[go_sem] theorem Tryz.sz174 : Abs.sizeT Tryz.prog 174 = some 1 := by kernel_rfl
@[go_sem] theorem Tryz.by174 : Abs.bytesT Tryz.prog 174 = some 8 := by kernel_rfl
@[go_sem] theorem Tryz.ze174 : Abs.zeroT Tryz.prog 174 = some (.nilFunc) := by kernel_rfl
@[go_sem] theorem Tryz.sl174 : Abs.sliceT Tryz.prog 174 = none := by kernel_rfl
@[go_sem] theorem Tryz.ag175 : Abs.isAggT Tryz.prog 175 = some false := by kernel_rfl
@[go_sem] theorem Tryz.sz175 : Abs.sizeT Tryz.prog 175 = some 1 := by kernel_rfl
@[go_sem] theorem Tryz.by175 : Abs.bytesT Tryz.prog 175 = some 8 := by kernel_rfl
@[go_sem] theorem Tryz.ze175 : Abs.zeroT Tryz.prog 175 = some (.nilFunc) := by kernel_rfl
@[go_sem] theorem Tryz.sl175 : Abs.sliceT Tryz.prog 175 = none := by kernel_rfl
@[go_sem] theorem Tryz.ag176 : Abs.isAggT Tryz.prog 176 = some false := by kernel_rfl
@[go_sem] theorem Tryz.sz176 : Abs.sizeT Tryz.prog 176 = some 1 := by kernel_rfl
@[go_sem] theorem Tryz.by176 : Abs.bytesT Tryz.prog 176 = some 8 := by kernel_rfl
@[go_sem] theorem Tryz.ze176 : Abs.zeroT Tryz.prog 176 = some (.nilFunc) := by kernel_rfl
@[go_sem] theorem Tryz.sl176 : Abs.sliceT Tryz.prog 176 = none := by kernel_rfl
@[go_sem] theorem Tryz.ag180 : Abs.isAggT Tryz.prog 180 = some false := by kernel_rfl
@[go_sem] theorem Tryz.sz180 : Abs.sizeT Tryz.prog 180 = some 1 := by kernel_rfl
@[go_sem] theorem Tryz.by180 : Abs.bytesT Tryz.prog 180 = some 8 := by kernel_rfl
@[go_sem] theorem Tryz.ze180 : Abs.zeroT Tryz.prog 180 = some (.nilFunc) := by kernel_rfl
@[go_sem] theorem Tryz.sl180 : Abs.sliceT Tryz.prog 180 = none := by kernel_rfl
@[go_sem] theorem Tryz.ag185 : Abs.isAggT Tryz.prog 185 = some false := by kernel_rfl
@[go_sem] theorem Tryz.sz185 : Abs.sizeT Tryz.prog 185 = some 1 := by kernel_rfl
@[go_sem] theorem Tryz.by185 : Abs.bytesT Tryz.prog 185 = some 8 := by kernel_rfl
@[go_sem] theorem Tryz.ze185 : Abs.zeroT Tryz.prog 185 = some (.nilFunc) := by kernel_rfl
@[go_sem] theorem Tryz.sl185 : Abs.sliceT Tryz.prog 185 = none := by kernel_rfl
@[go_sem] theorem Tryz.ag186 : Abs.isAggT Tryz.prog 186 = some true := by kernel_rfl
@[go_sem] theorem Tryz.sz186 : Abs.sizeT Tryz.prog 186 = some 8 := by kernel_rfl
@[go_sem] theorem Tryz.by186 : Abs.bytesT Tryz.prog 186 = some 64 := by kernel_rfl
@[go_sem] theorem Tryz.ze186 : Abs.zeroT Tryz.prog 186 = some (.agg #[.nilFunc, .nilFunc, .nilFunc, .nilFunc, .nilFunc, .nilFunc, .nilFunc, .nilFunc]) := by kernel_rfl
@[go_sem] theorem Tryz.sl186 : Abs.sliceT Tryz.prog 186 = none := by kernel_rfl
@[go_sem] theorem Tryz.ar186 : Abs.arrayT Tryz.prog 186 = some (8, 185) := by kernel_rfl
@[go_sem] theorem Tryz.ba186 (ps : List (Nat × Abs.AV)) (K : Abs.Cont) : Abs.buildA Tryz.prog 186 ps K = Abs.baC (.agg #[.nilFunc, .nilFunc, .nilFunc, .nilFunc, .nilFunc, .nilFunc, .nilFunc, .nilFunc]) 1 ps K := Abs.buildA_array (e := 185) (n := 8) (by kernel_rfl) Tryz.ze186 (by kernel_rfl) ps K
@[go_sem] theorem Tryz.un186 : Tryz.prog.underlying 186 = some (.array 8 185) := by kernel_rfl
@[go_sem] theorem Tryz.ag194 : Abs.isAggT Tryz.prog 194 = some false := by kernel_rfl
@[go_sem] theorem Tryz.sz194 : Abs.sizeT Tryz.prog 194 = some 1 := by kernel_rfl
@[go_sem] theorem Tryz.by194 : Abs.bytesT Tryz.prog 194 = some 8 := by kernel_rfl
@[go_sem] theorem Tryz.ze194 : Abs.zeroT Tryz.prog 194 = some (.nilFunc) := by kernel_rfl
@[go_sem] theorem Tryz.sl194 : Abs.sliceT Tryz.prog 194 = none := by kernel_rfl
@[go_sem] theorem Tryz.ag195 : Abs.isAggT Tryz.prog 195 = some false := by kernel_rfl
@[go_sem] theorem Tryz.sz195 : Abs.sizeT Tryz.prog 195 = some 1 := by kernel_rfl
@[go_sem] theorem Tryz.by195 : Abs.bytesT Tryz.prog 195 = some 8 := by kernel_rfl
@[go_sem] theorem Tryz.ze195 : Abs.zeroT Tryz.prog 195 = some (.nilFunc) := by kernel_rfl
@[go_sem] theorem Tryz.sl195 : Abs.sliceT Tryz.prog 195 = none := by kernel_rfl
@[go_sem] theorem Tryz.ag196 : Abs.isAggT Tryz.prog 196 = some false := by kernel_rfl
@[go_sem] theorem Tryz.sz196 : Abs.sizeT Tryz.prog 196 = some 1 := by kernel_rfl
@[go_sem] theorem Tryz.by196 : Abs.bytesT Tryz.prog 196 = some 8 := by kernel_rfl
@[go_sem] theorem Tryz.ze196 : Abs.zeroT Tryz.prog 196 = some (.nilFunc) := by kernel_rfl
@[go_sem] theorem Tryz.sl196 : Abs.sliceT Tryz.prog 196 = none := by kernel_rfl
@[go_sem] theorem Tryz.ag197 : Abs.isAggT Tryz.prog 197 = some false := by kernel_rfl
@[go_sem] theorem Tryz.sz197 : Abs.sizeT Tryz.prog 197 = some 1 := by kernel_rfl
@[go_sem] theorem Tryz.by197 : Abs.bytesT Tryz.prog 197 = some 8 := by kernel_rfl
@[go_sem] theorem Tryz.ze197 : Abs.zeroT Tryz.prog 197 = some (.nilFunc) := by kernel_rfl
@[go_sem] theorem Tryz.sl197 : Abs.sliceT Tryz.prog 197 = none := by kernel_rfl
@[go_sem] theorem Tryz.ag198 : Abs.isAggT Tryz.prog 198 = some false := by kernel_rfl
@[go_sem] theorem Tryz.sz198 : Abs.sizeT Tryz.prog 198 = some 1 := by kernel_rfl
@[go_sem] theorem Tryz.by198 : Abs.bytesT Tryz.prog 198 = some 8 := by kernel_rfl
@[go_sem] theorem Tryz.ze198 : Abs.zeroT Tryz.prog 198 = some (.nilFunc) := by kernel_rfl
@[go_sem] theorem Tryz.sl198 : Abs.sliceT Tryz.prog 198 = none := by kernel_rfl
@[go_sem] theorem Tryz.ag199 : Abs.isAggT Tryz.prog 199 = some false := by kernel_rfl
@[go_sem] theorem Tryz.sz199 : Abs.sizeT Tryz.prog 199 = some 1 := by kernel_rfl
@[go_sem] theorem Tryz.by199 : Abs.bytesT Tryz.prog 199 = some 8 := by kernel_rfl
@[go_sem] theorem Tryz.ze199 : Abs.zeroT Tryz.prog 199 = some (.nilFunc) := by kernel_rfl
@[go_sem] theorem Tryz.sl199 : Abs.sliceT Tryz.prog 199 = none := by kernel_rfl
@[go_sem] theorem Tryz.ag201 : Abs.isAggT Tryz.prog 201 = some false := by kernel_rfl
@[go_sem] theorem Tryz.sz201 : Abs.sizeT Tryz.prog 201 = some 1 := by kernel_rfl
@[go_sem] theorem Tryz.by201 : Abs.bytesT Tryz.prog 201 = some 8 := by kernel_rfl
@[go_sem] theorem Tryz.ze201 : Abs.zeroT Tryz.prog 201 = some (.int .i64 0) := by kernel_rfl
@[go_sem] theorem Tryz.sl201 : Abs.sliceT Tryz.prog 201 = none := by kernel_rfl
@[go_sem] theorem Tryz.in201 : Abs.intT Tryz.prog 201 = some .i64 := by kernel_rfl
@[go_sem] theorem Tryz.un201 : Tryz.prog.underlying 201 = some (.int .i64) := by kernel_rfl
@[go_sem] theorem Tryz.ag209 : Abs.isAggT Tryz.prog 209 = some false := by kernel_rfl
@[go_sem] theorem Tryz.sz209 : Abs.sizeT Tryz.prog 209 = some 1 := by kernel_rfl
@[go_sem] theorem Tryz.by209 : Abs.bytesT Tryz.prog 209 = some 4 := by kernel_rfl
@[go_sem] theorem Tryz.ze209 : Abs.zeroT Tryz.prog 209 = some (.int .u32 0) := by kernel_rfl
@[go_sem] theorem Tryz.sl209 : Abs.sliceT Tryz.prog 209 = none := by kernel_rfl
@[go_sem] theorem Tryz.in209 : Abs.intT Tryz.prog 209 = some .u32 := by kernel_rfl
@[go_sem] theorem Tryz.un209 : Tryz.prog.underlying 209 = some (.int .u32) := by kernel_rfl
@[go_sem] theorem Tryz.ag217 : Abs.isAggT Tryz.prog 217 = some false := by kernel_rfl
@[go_sem] theorem Tryz.sz217 : Abs.sizeT Tryz.prog 217 = some 1 := by kernel_rfl
@[go_sem] theorem Tryz.by217 : Abs.bytesT Tryz.prog 217 = some 8 := by kernel_rfl
@[go_sem] theorem Tryz.ze217 : Abs.zeroT Tryz.prog 217 = some (.nilFunc) := by kernel_rfl
@[go_sem] theorem Tryz.sl217 : Abs.sliceT Tryz.prog 217 = none := by kernel_rfl
@[go_sem] theorem Tryz.ag218 : Abs.isAggT Tryz.prog 218 = some true := by kernel_rfl
@[go_sem] theorem Tryz.sz218 : Abs.sizeT Tryz.prog 218 = some 2 := by kernel_rfl
@[go_sem] theorem Tryz.by218 : Abs.bytesT Tryz.prog 218 = some 16 := by kernel_rfl
@[go_sem] theorem Tryz.ze218 : Abs.zeroT Tryz.prog 218 = some (.agg #[.int .i64 0, .int .i64 0]) := by kernel_rfl
@[go_sem] theorem Tryz.sl218 : Abs.sliceT Tryz.prog 218 = none := by kernel_rfl
@[go_sem] theorem Tryz.sb218 : Abs.structB Tryz.prog 218 = true := by kernel_rfl
@[go_sem] theorem Tryz.fl218_0 : Abs.fieldT Tryz.prog 218 0 = some (3, 0) := by kernel_rfl
@[go_sem] theorem Tryz.fl218_1 : Abs.fieldT Tryz.prog 218 1 = some (3, 1) := by kernel_rfl
@[go_sem] theorem Tryz.ag220 : Abs.isAggT Tryz.prog 220 = some false := by kernel_rfl
@[go_sem] theorem Tryz.sz220 : Abs.sizeT Tryz.prog 220 = some 1 := by kernel_rfl
@[go_sem] theorem Tryz.by220 : Abs.bytesT Tryz.prog 220 = some 24 := by kernel_rfl
@[go_sem] theorem Tryz.ze220 : Abs.zeroT Tryz.prog 220 = some (.slice none 0 0) := by kernel_rfl
@[go_sem] theorem Tryz.sl220 : Abs.sliceT Tryz.prog 220 = some 217 := by kernel_rfl
@[go_sem] theorem Tryz.un220 : Tryz.prog.underlying 220 = some (.slice 217) := by kernel_rfl
@[go_sem] theorem Tryz.in222 : Abs.intT Tryz.prog 222 = some .u64 := by kernel_rfl
@[go_sem] theorem Tryz.sb234 : Abs.structB Tryz.prog 234 = true := by kernel_rfl
@[go_sem] theorem Tryz.sb235 : Abs.structB Tryz.prog 235 = true := by kernel_rfl
@[go_sem] theorem Tryz.ze236 : Abs.zeroT Tryz.prog 236 = some (.agg #[]) := by kernel_rfl
@[go_sem] theorem Tryz.ar236 : Abs.arrayT Tryz.prog 236 = some (0, 16) := by kernel_rfl
@[go_sem] theorem Tryz.ba236 (ps : List (Nat × Abs.AV)) (K : Abs.Cont) : Abs.buildA Tryz.prog 236 ps K = Abs.baC (.agg #[]) 1 ps K := Abs.buildA_array (e := 16) (n := 0) (by kernel_rfl) Tryz.ze236 (by kernel_rfl) ps K
@[go_sem] theorem Tryz.sb237 : Abs.structB Tryz.prog 237 = true := by kernel_rfl
@[go_sem] theorem Tryz.sb238 : Abs.structB Tryz.prog 238 = true := by kernel_rfl
@[go_sem] theorem Tryz.in240 : Abs.intT Tryz.prog 240 = some .u8 := by kernel_rfl
@[go_sem] theorem Tryz.in241 : Abs.intT Tryz.prog 241 = some .u8 := by kernel_rfl
@[go_sem] theorem Tryz.in244 : Abs.intT Tryz.prog 244 = some .i32 := by kernel_rfl
@[go_sem] theorem Tryz.in245 : Abs.intT Tryz.prog 245 = some .i32 := by kernel_rfl
@[go_sem] theorem Tryz.sb246 : Abs.structB Tryz.prog 246 = true := by kernel_rfl
@[go_sem] theorem Tryz.sb247 : Abs.structB Tryz.prog 247 = true := by kernel_rfl
@[go_sem] theorem Tryz.ap22 (s x : Abs.AV) (H : Nat → Abs.AObj) (nx : Nat) (K : Abs.Cont) : Abs.appendA Tryz.prog 22 s x H nx K = Abs.appC 24 s x H nx K := Abs.appendA_box Tryz.sl22 Tryz.sz105 Tryz.by105 Tryz.ze105 rfl rfl s x H nx K
@[go_sem] theorem Tryz.bs22 (n : Nat) (ps : List (Nat × Abs.AV)) (H : Nat → Abs.AObj) (nx : Nat) (K : Abs.Cont) : Abs.buildSliceA Tryz.prog 22 n ps H nx K = Abs.bsC n ps H nx K := Abs.buildSliceA_box Tryz.sl22 Tryz.sz105 Tryz.ze105 rfl rfl n ps H nx K
@[go_sem] theorem Tryz.bs29 (n : Nat) (ps : List (Nat × Abs.AV)) (H : Nat → Abs.AObj) (nx : Nat) (K : Abs.Cont) : Abs.buildSliceA Tryz.prog 29 n ps H nx K = Abs.bsR 1 n ps H nx K := Abs.buildSliceA_row Tryz.sl29 Tryz.sz3 Tryz.ze3 rfl (by decide) rfl n ps H nx K
@[go_sem] theorem Tryz.ap29 (s x : Abs.AV) (H : Nat → Abs.AObj) (nx : Nat) (K : Abs.Cont) : Abs.appendA Tryz.prog 29 s x H nx K = Abs.appR 1 8 s x H nx K := Abs.appendA_row Tryz.sl29 Tryz.sz3 Tryz.by3 Tryz.ze3 rfl (by decide) rfl s x H nx K
@[go_sem] theorem Tryz.bs35 (n : Nat) (ps : List (Nat × Abs.AV)) (H : Nat → Abs.AObj) (nx : Nat) (K : Abs.Cont) : Abs.buildSliceA Tryz.prog 35 n ps H nx K = Abs.bsR 1 n ps H nx K := Abs.buildSliceA_row Tryz.sl35 Tryz.sz24 Tryz.ze24 rfl (by decide) rfl n ps H nx K
@[go_sem] theorem Tryz.ap35 (s x : Abs.AV) (H : Nat → Abs.AObj) (nx : Nat) (K : Abs.Cont) : Abs.appendA Tryz.prog 35 s x H nx K = Abs.appR 1 24 s x H nx K := Abs.appendA_row Tryz.sl35 Tryz.sz24 Tryz.by24 Tryz.ze24 rfl (by decide) rfl s x H nx K
@[go_sem] theorem Tryz.bs37 (n : Nat) (ps : List (Nat × Abs.AV)) (H : Nat → Abs.AObj) (nx : Nat) (K : Abs.Cont) : Abs.buildSliceA Tryz.prog 37 n ps H nx K = Abs.bsR 7 n ps H nx K := Abs.buildSliceA_row Tryz.sl37 Tryz.sz28 Tryz.ze28 rfl (by decide) rfl n ps H nx K
@[go_sem] theorem Tryz.ap37 (s x : Abs.AV) (H : Nat → Abs.AObj) (nx : Nat) (K : Abs.Cont) : Abs.appendA Tryz.prog 37 s x H nx K = Abs.appR 7 56 s x H nx K := Abs.appendA_row Tryz.sl37 Tryz.sz28 Tryz.by28 Tryz.ze28 rfl (by decide) rfl s x H nx K
@[go_sem] theorem Tryz.bs50 (n : Nat) (ps : List (Nat × Abs.AV)) (H : Nat → Abs.AObj) (nx : Nat) (K : Abs.Cont) : Abs.buildSliceA Tryz.prog 50 n ps H nx K = Abs.bsR 3 n ps H nx K := Abs.buildSliceA_row Tryz.sl50 Tryz.sz57 Tryz.ze57 rfl (by decide) rfl n ps H nx K
@[go_sem] theorem Tryz.ap50 (s x : Abs.AV) (H : Nat → Abs.AObj) (nx : Nat) (K : Abs.Cont) : Abs.appendA Tryz.prog 50 s x H nx K = Abs.appR 3 24 s x H nx K := Abs.appendA_row Tryz.sl50 Tryz.sz57 Tryz.by57 Tryz.ze57 rfl (by decide) rfl s x H nx K
@[go_sem] theorem Tryz.bs59 (n : Nat) (ps : List (Nat × Abs.AV)) (H : Nat → Abs.AObj) (nx : Nat) (K : Abs.Cont) : Abs.buildSliceA Tryz.prog 59 n ps H nx K = Abs.bsR 1 n ps H nx K := Abs.buildSliceA_row Tryz.sl59 Tryz.sz135 Tryz.ze135 rfl (by decide) rfl n ps H nx K
@[go_sem] theorem Tryz.ap59 (s x : Abs.AV) (H : Nat → Abs.AObj) (nx : Nat) (K : Abs.Cont) : Abs.appendA Tryz.prog 59 s x H nx K = Abs.appR 1 24 s x H nx K := Abs.appendA_row Tryz.sl59 Tryz.sz135 Tryz.by135 Tryz.ze135 rfl (by decide) rfl s x H nx K
@[go_sem] theorem Tryz.bs60 (n : Nat) (ps : List (Nat × Abs.AV)) (H : Nat → Abs.AObj) (nx : Nat) (K : Abs.Cont) : Abs.buildSliceA Tryz.prog 60 n ps H nx K = Abs.bsR 6 n ps H nx K := Abs.buildSliceA_row Tryz.sl60 Tryz.sz72 Tryz.ze72 rfl (by decide) rfl n ps H nx K
@[go_sem] theorem Tryz.ap60 (s x : Abs.AV) (H : Nat → Abs.AObj) (nx : Nat) (K : Abs.Cont) : Abs.appendA Tryz.prog 60 s x H nx K = Abs.appR 6 48 s x H nx K := Abs.appendA_row Tryz.sl60 Tryz.sz72 Tryz.by72 Tryz.ze72 rfl (by decide) rfl s x H nx K
@[go_sem] theorem Tryz.ap64 (s x : Abs.AV) (H : Nat → Abs.AObj) (nx : Nat) (K : Abs.Cont) : Abs.appendA Tryz.prog 64 s x H nx K = Abs.appC 24 s x H nx K := Abs.appendA_box Tryz.sl64 Tryz.sz29 Tryz.by29 Tryz.ze29 rfl rfl s x H nx K
@[go_sem] theorem Tryz.bs64 (n : Nat) (ps : List (Nat × Abs.AV)) (H : Nat → Abs.AObj) (nx : Nat) (K : Abs.Cont) : Abs.buildSliceA Tryz.prog 64 n ps H nx K = Abs.bsC n ps H nx K := Abs.buildSliceA_box Tryz.sl64 Tryz.sz29 Tryz.ze29 rfl rfl n ps H nx K
@[go_sem] theorem Tryz.ap78 (s x : Abs.AV) (H : Nat → Abs.AObj) (nx : Nat) (K : Abs.Cont) : Abs.appendA Tryz.prog 78 s x H nx K = Abs.appC 24 s x H nx K := Abs.appendA_box Tryz.sl78 Tryz.sz50 Tryz.by50 Tryz.ze50 rfl rfl s x H nx K
@[go_sem] theorem Tryz.bs78 (n : Nat) (ps : List (Nat × Abs.AV)) (H : Nat → Abs.AObj) (nx : Nat) (K : Abs.Cont) : Abs.buildSliceA Tryz.prog 78 n ps H nx K = Abs.bsC n ps H nx K := Abs.buildSliceA_box Tryz.sl78 Tryz.sz50 Tryz.ze50 rfl rfl n ps H nx K
@[go_sem] theorem Tryz.bs87 (n : Nat) (ps : List (Nat × Abs.AV)) (H : Nat → Abs.AObj) (nx : Nat) (K : Abs.Cont) : Abs.buildSliceA Tryz.prog 87 n ps H nx K = Abs.bsR 3 n ps H nx K := Abs.buildSliceA_row Tryz.sl87 Tryz.sz62 Tryz.ze62 rfl (by decide) rfl n ps H nx K
@[go_sem] theorem Tryz.ap87 (s x : Abs.AV) (H : Nat → Abs.AObj) (nx : Nat) (K : Abs.Cont) : Abs.appendA Tryz.prog 87 s x H nx K = Abs.appR 3 72 s x H nx K := Abs.appendA_row Tryz.sl87 Tryz.sz62 Tryz.by62 Tryz.ze62 rfl (by decide) rfl s x H nx K
@[go_sem] theorem Tryz.bs105 (n : Nat) (ps : List (Nat × Abs.AV)) (H : Nat → Abs.AObj) (nx : Nat) (K : Abs.Cont) : Abs.buildSliceA Tryz.prog 105 n ps H nx K = Abs.bsR 2 n ps H nx K := Abs.buildSliceA_row Tryz.sl105 Tryz.sz26 Tryz.ze26 rfl (by decide) rfl n ps H nx K
@[go_sem] theorem Tryz.ap105 (s x : Abs.AV) (H : Nat → Abs.AObj) (nx : Nat) (K : Abs.Cont) : Abs.appendA Tryz.prog 105 s x H nx K = Abs.appR 2 16 s x H nx K := Abs.appendA_row Tryz.sl105 Tryz.sz26 Tryz.by26 Tryz.ze26 rfl (by decide) rfl s x H nx K
@[go_sem] theorem Tryz.bs137 (n : Nat) (ps : List (Nat × Abs.AV)) (H : Nat → Abs.AObj) (nx : Nat) (K : Abs.Cont) : Abs.buildSliceA Tryz.prog 137 n ps H nx K = Abs.bsR 3 n ps H nx K := Abs.buildSliceA_row Tryz.sl137 Tryz.sz141 Tryz.ze141 rfl (by decide) rfl n ps H nx K
@[go_sem] theorem Tryz.ap137 (s x : Abs.AV) (H : Nat → Abs.AObj) (nx : Nat) (K : Abs.Cont) : Abs.appendA Tryz.prog 137 s x H nx K = Abs.appR 3 56 s x H nx K := Abs.appendA_row Tryz.sl137 Tryz.sz141 Tryz.by141 Tryz.ze141 rfl (by decide) rfl s x H nx K
@[go_sem] theorem Tryz.bs147 (n : Nat) (ps : List (Nat × Abs.AV)) (H : Nat → Abs.AObj) (nx : Nat) (K : Abs.Cont) : Abs.buildSliceA Tryz.prog 147 n ps H nx K = Abs.bsR 6 n ps H nx K := Abs.buildSliceA_row Tryz.sl147 Tryz.sz149 Tryz.ze149 rfl (by decide) rfl n ps H nx K
@[go_sem] theorem Tryz.ap147 (s x : Abs.AV) (H : Nat → Abs.AObj) (nx : Nat) (K : Abs.Cont) : Abs.appendA Tryz.prog 147 s x H nx K = Abs.appR 6 48 s x H nx K := Abs.appendA_row Tryz.sl147 Tryz.sz149 Tryz.by149 Tryz.ze149 rfl (by decide) rfl s x H nx K
@[go_sem] theorem Tryz.bs151 (n : Nat) (ps : List (Nat × Abs.AV)) (H : Nat → Abs.AObj) (nx : Nat) (K : Abs.Cont) : Abs.buildSliceA Tryz.prog 151 n ps H nx K = Abs.bsR 3 n ps H nx K := Abs.buildSliceA_row Tryz.sl151 Tryz.sz154 Tryz.ze154 rfl (by decide) rfl n ps H nx K
@[go_sem] theorem Tryz.ap151 (s x : Abs.AV) (H : Nat → Abs.AObj) (nx : Nat) (K : Abs.Cont) : Abs.appendA Tryz.prog 151 s x H nx K = Abs.appR 3 72 s x H nx K := Abs.appendA_row Tryz.sl151 Tryz.sz154 Tryz.by154 Tryz.ze154 rfl (by decide) rfl s x H nx K
@[go_sem] theorem Tryz.bs220 (n : Nat) (ps : List (Nat × Abs.AV)) (H : Nat → Abs.AObj) (nx : Nat) (K : Abs.Cont) : Abs.buildSliceA Tryz.prog 220 n ps H nx K = Abs.bsR 1 n ps H nx K := Abs.buildSliceA_row Tryz.sl220 Tryz.sz217 Tryz.ze217 rfl (by decide) rfl n ps H nx K
@[go_sem] theorem Tryz.ap220 (s x : Abs.AV) (H : Nat → Abs.AObj) (nx : Nat) (K : Abs.Cont) : Abs.appendA Tryz.prog 220 s x H nx K = Abs.appR 1 8 s x H nx K := Abs.appendA_row Tryz.sl220 Tryz.sz217 Tryz.by217 Tryz.ze217 rfl (by decide) rfl s x H nx K
@[go_sem] theorem Tryz.ca3 : Abs.callable Tryz.prog 3 = true := by kernel_rfl
@[go_sem] theorem Tryz.ca19 : Abs.callable Tryz.prog 19 = true := by kernel_rfl
@[go_sem] theorem Tryz.ca20 : Abs.callable Tryz.prog 20 = true := by kernel_rfl
@[go_sem] theorem Tryz.ca21 : Abs.callable Tryz.prog 21 = true := by kernel_rfl
@[go_sem] theorem Tryz.ca22 : Abs.callable Tryz.prog 22 = true := by kernel_rfl
@[go_sem] theorem Tryz.ca23 : Abs.callable Tryz.prog 23 = true := by kernel_rfl
@[go_sem] theorem Tryz.ca24 : Abs.callable Tryz.prog 24 = true := by kernel_rfl
@[go_sem] theorem Tryz.ca25 : Abs.callable Tryz.prog 25 = true := by kernel_rfl
@[go_sem] theorem Tryz.ca26 : Abs.callable Tryz.prog 26 = true := by kernel_rfl
@[go_sem] theorem Tryz.ca27 : Abs.callable Tryz.prog 27 = true := by kernel_rfl
@[go_sem] theorem Tryz.ca28 : Abs.callable Tryz.prog 28 = true := by kernel_rfl
@[go_sem] theorem Tryz.ca29 : Abs.callable Tryz.prog 29 = true := by kernel_rfl
@[go_sem] theorem Tryz.ca30 : Abs.callable Tryz.prog 30 = true := by kernel_rfl
@[go_sem] theorem Tryz.ca31 : Abs.callable Tryz.prog 31 = true := by kernel_rfl
@[go_sem] theorem Tryz.ca33 : Abs.callable Tryz.prog 33 = true := by kernel_rfl
@[go_sem] theorem Tryz.ca34 : Abs.callable Tryz.prog 34 = true := by kernel_rfl
@[go_sem] theorem Tryz.ca37 : Abs.callable Tryz.prog 37 = true := by kernel_rfl
@[go_sem] theorem Tryz.ca39 : Abs.callable Tryz.prog 39 = true := by kernel_rfl
@[go_sem] theorem Tryz.ca43 : Abs.callable Tryz.prog 43 = true := by kernel_rfl
@[go_sem] theorem Tryz.ca44 : Abs.callable Tryz.prog 44 = true := by kernel_rfl
@[go_sem] theorem Tryz.ca46 : Abs.callable Tryz.prog 46 = true := by kernel_rfl
@[go_sem] theorem Tryz.ca47 : Abs.callable Tryz.prog 47 = true := by kernel_rfl
@[go_sem] theorem Tryz.ca49 : Abs.callable Tryz.prog 49 = true := by kernel_rfl
@[go_sem] theorem Tryz.ca50 : Abs.callable Tryz.prog 50 = true := by kernel_rfl
@[go_sem] theorem Tryz.ca58 : Abs.callable Tryz.prog 58 = true := by kernel_rfl
@[go_sem] theorem Tryz.ca59 : Abs.callable Tryz.prog 59 = true := by kernel_rfl
@[go_sem] theorem Tryz.ca61 : Abs.callable Tryz.prog 61 = true := by kernel_rfl
@[go_sem] theorem Tryz.ca64 : Abs.callable Tryz.prog 64 = true := by kernel_rfl
@[go_sem] theorem Tryz.ca65 : Abs.callable Tryz.prog 65 = true := by kernel_rfl
@[go_sem] theorem Tryz.ca76 : Abs.callable Tryz.prog 76 = true := by kernel_rfl
@[go_sem] theorem Tryz.ca77 : Abs.callable Tryz.prog 77 = true := by kernel_rfl
@[go_sem] theorem Tryz.ca78 : Abs.callable Tryz.prog 78 = true := by kernel_rfl
@[go_sem] theorem Tryz.ca79 : Abs.callable Tryz.prog 79 = true := by kernel_rfl
@[go_sem] theorem Tryz.ca80 : Abs.callable Tryz.prog 80 = true := by kernel_rfl
@[go_sem] theorem Tryz.ca81 : Abs.callable Tryz.prog 81 = true := by kernel_rfl
@[go_sem] theorem Tryz.ca82 : Abs.callable Tryz.prog 82 = true := by kernel_rfl
@[go_sem] theorem Tryz.ca83 : Abs.callable Tryz.prog 83 = true := by kernel_rfl
@[go_sem] theorem Tryz.ca84 : Abs.callable Tryz.prog 84 = true := by kernel_rfl
@[go_sem] theorem Tryz.ca85 : Abs.callable Tryz.prog 85 = true := by kernel_rfl
@[go_sem] theorem Tryz.ca86 : Abs.callable Tryz.prog 86 = true := by kernel_rfl
@[go_sem] theorem Tryz.ca87 : Abs.callable Tryz.prog 87 = true := by kernel_rfl
@[go_sem] theorem Tryz.ca88 : Abs.callable Tryz.prog 88 = true := by kernel_rfl
@[go_sem] theorem Tryz.ca89 : Abs.callable Tryz.prog 89 = true := by kernel_rfl
@[go_sem] theorem Tryz.ca90 : Abs.callable Tryz.prog 90 = true := by kernel_rfl
@[go_sem] theorem Tryz.ca91 : Abs.callable Tryz.prog 91 = true := by kernel_rfl
@[go_sem] theorem Tryz.ca92 : Abs.callable Tryz.prog 92 = true := by kernel_rfl
@[go_sem] theorem Tryz.ca93 : Abs.callable Tryz.prog 93 = true := by kernel_rfl
@[go_sem] theorem Tryz.ca94 : Abs.callable Tryz.prog 94 = true := by kernel_rfl
@[go_sem] theorem Tryz.ca95 : Abs.callable Tryz.prog 95 = true := by kernel_rfl
@[go_sem] theorem Tryz.ca96 : Abs.callable Tryz.prog 96 = true := by kernel_rfl
@[go_sem] theorem Tryz.ca98 : Abs.callable Tryz.prog 98 = true := by kernel_rfl
@[go_sem] theorem Tryz.ca99 : Abs.callable Tryz.prog 99 = true := by kernel_rfl
@[go_sem] theorem Tryz.ca100 : Abs.callable Tryz.prog 100 = true := by kernel_rfl
@[go_sem] theorem Tryz.ca101 : Abs.callable Tryz.prog 101 = true := by kernel_rfl
@[go_sem] theorem Tryz.ca102 : Abs.callable Tryz.prog 102 = true := by kernel_rfl
@[go_sem] theorem Tryz.ca103 : Abs.callable Tryz.prog 103 = true := by kernel_rfl
@[go_sem] theorem Tryz.ca104 : Abs.callable Tryz.prog 104 = true := by kernel_rfl
@[go_sem] theorem Tryz.ca105 : Abs.callable Tryz.prog 105 = true := by kernel_rfl
@[go_sem] theorem Tryz.ca106 : Abs.callable Tryz.prog 106 = true := by kernel_rfl
@[go_sem] theorem Tryz.ca111 : Abs.callable Tryz.prog 111 = true := by kernel_rfl
@[go_sem] theorem Tryz.ca112 : Abs.callable Tryz.prog 112 = true := by kernel_rfl
@[go_sem] theorem Tryz.ca114 : Abs.callable Tryz.prog 114 = true := by kernel_rfl
@[go_sem] theorem Tryz.ca116 : Abs.callable Tryz.prog 116 = true := by kernel_rfl
@[go_sem] theorem Tryz.ca123 : Abs.callable Tryz.prog 123 = true := by kernel_rfl
@[go_sem] theorem Tryz.ca124 : Abs.callable Tryz.prog 124 = true := by kernel_rfl
@[go_sem] theorem Tryz.ca125 : Abs.callable Tryz.prog 125 = true := by kernel_rfl
@[go_sem] theorem Tryz.ca126 : Abs.callable Tryz.prog 126 = true := by kernel_rfl
@[go_sem] theorem Tryz.ca127 : Abs.callable Tryz.prog 127 = true := by kernel_rfl
@[go_sem] theorem Tryz.ca128 : Abs.callable Tryz.prog 128 = true := by kernel_rfl
@[go_sem] theorem Tryz.ca129 : Abs.callable Tryz.prog 129 = true := by kernel_rfl
@[go_sem] theorem Tryz.ca130 : Abs.callable Tryz.prog 130 = true := by kernel_rfl
@[go_sem] theorem Tryz.ca131 : Abs.callable Tryz.prog 131 = true := by kernel_rfl
@[go_sem] theorem Tryz.ca132 : Abs.callable Tryz.prog 132 = true := by kernel_rfl
@[go_sem] theorem Tryz.ca133 : Abs.callable Tryz.prog 133 = true := by kernel_rfl
@[go_sem] theorem Tryz.ca134 : Abs.callable Tryz.prog 134 = true := by kernel_rfl
@[go_sem] theorem Tryz.ca135 : Abs.callable Tryz.prog 135 = true := by kernel_rfl
@[go_sem] theorem Tryz.ca136 : Abs.callable Tryz.prog 136 = true := by kernel_rfl
@[go_sem] theorem Tryz.ca137 : Abs.callable Tryz.prog 137 = true := by kernel_rfl
@[go_sem] theorem Tryz.ca138 : Abs.callable Tryz.prog 138 = true := by kernel_rfl
@[go_sem] theorem Tryz.ca139 : Abs.callable Tryz.prog 139 = true := by kernel_rfl
@[go_sem] theorem Tryz.ca140 : Abs.callable Tryz.prog 140 = true := by kernel_rfl
@[go_sem] theorem Tryz.ca141 : Abs.callable Tryz.prog 141 = true := by kernel_rfl
@[go_sem] theorem Tryz.ca142 : Abs.callable Tryz.prog 142 = true := by kernel_rfl
@[go_sem] theorem Tryz.ca145 : Abs.callable Tryz.prog 145 = true := by kernel_rfl
@[go_sem] theorem Tryz.ca146 : Abs.callable Tryz.prog 146 = true := by kernel_rfl
@[go_sem] theorem Tryz.ca147 : Abs.callable Tryz.prog 147 = true := by kernel_rfl
@[go_sem] theorem Tryz.ca151 : Abs.callable Tryz.prog 151 = true := by kernel_rfl
@[go_sem] theorem Tryz.ca152 : Abs.callable Tryz.prog 152 = true := by kernel_rfl
@[go_sem] theorem Tryz.ca153 : Abs.callable Tryz.prog 153 = true := by kernel_rfl
@[go_sem] theorem Tryz.ca154 : Abs.callable Tryz.prog 154 = true := by kernel_rfl
@[go_sem] theorem Tryz.ca155 : Abs.callable Tryz.prog 155 = true := by kernel_rfl
@[go_sem] theorem Tryz.ca156 : Abs.callable Tryz.prog 156 = true := by kernel_rfl
@[go_sem] theorem Tryz.ca157 : Abs.callable Tryz.prog 157 = true := by kernel_rfl
@[go_sem] theorem Tryz.ca158 : Abs.callable Tryz.prog 158 = true := by kernel_rfl
@[go_sem] theorem Tryz.ca159 : Abs.callable Tryz.prog 159 = true := by kernel_rfl
@[go_sem] theorem Tryz.ca160 : Abs.callable Tryz.prog 160 = true := by kernel_rfl
@[go_sem] theorem Tryz.ca161 : Abs.callable Tryz.prog 161 = true := by kernel_rfl
@[go_sem] theorem Tryz.ca162 : Abs.callable Tryz.prog 162 = true := by kernel_rfl
@[go_sem] theorem Tryz.ca163 : Abs.callable Tryz.prog 163 = true := by kernel_rfl
@[go_sem] theorem Tryz.ca164 : Abs.callable Tryz.prog 164 = true := by kernel_rfl
@[go_sem] theorem Tryz.ca165 : Abs.callable Tryz.prog 165 = true := by kernel_rfl
@[go_sem] theorem Tryz.ca166 : Abs.callable Tryz.prog 166 = true := by kernel_rfl
@[go_sem] theorem Tryz.ca169 : Abs.callable Tryz.prog 169 = true := by kernel_rfl
@[go_sem] theorem Tryz.ca170 : Abs.callable Tryz.prog 170 = true := by kernel_rfl
@[go_sem] theorem Tryz.ca171 : Abs.callable Tryz.prog 171 = true := by kernel_rfl
@[go_sem] theorem Tryz.ca172 : Abs.callable Tryz.prog 172 = true := by kernel_rfl
@[go_sem] theorem Tryz.ca173 : Abs.callable Tryz.prog 173 = true := by kernel_rfl
@[go_sem] theorem Tryz.ca174 : Abs.callable Tryz.prog 174 = true := by kernel_rfl
@[go_sem] theorem Tryz.ca175 : Abs.callable Tryz.prog 175 = true := by kernel_rfl
@[go_sem] theorem Tryz.ca176 : Abs.callable Tryz.prog 176 = true := by kernel_rfl
@[go_sem] theorem Tryz.ca177 : Abs.callable Tryz.prog 177 = true := by kernel_rfl
@[go_sem] theorem Tryz.ca178 : Abs.callable Tryz.prog 178 = true := by kernel_rfl
@[go_sem] theorem Tryz.ca179 : Abs.callable Tryz.prog 179 = true := by kernel_rfl
@[go_sem] theorem Tryz.ca180 : Abs.callable Tryz.prog 180 = true := by kernel_rfl
@[go_sem] theorem Tryz.ca181 : Abs.callable Tryz.prog 181 = true := by kernel_rfl
@[go_sem] theorem Tryz.ca182 : Abs.callable Tryz.prog 182 = true := by kernel_rfl
@[go_sem] theorem Tryz.ca183 : Abs.callable Tryz.prog 183 = true := by kernel_rfl
@[go_sem] theorem Tryz.ca184 : Abs.callable Tryz.prog 184 = true := by kernel_rfl
@[go_sem] theorem Tryz.ca185 : Abs.callable Tryz.prog 185 = true := by kernel_rfl
@[go_sem] theorem Tryz.ca186 : Abs.callable Tryz.prog 186 = true := by kernel_rfl
@[go_sem] theorem Tryz.ca187 : Abs.callable Tryz.prog 187 = true := by kernel_rfl
@[go_sem] theorem Tryz.ca188 : Abs.callable Tryz.prog 188 = true := by kernel_rfl
@[go_sem] theorem Tryz.ca189 : Abs.callable Tryz.prog 189 = true := by kernel_rfl
@[go_sem] theorem Tryz.ca190 : Abs.callable Tryz.prog 190 = true := by kernel_rfl
@[go_sem] theorem Tryz.ca191 : Abs.callable Tryz.prog 191 = true := by kernel_rfl
@[go_sem] theorem Tryz.ca192 : Abs.callable Tryz.prog 192 = true := by kernel_rfl
@[go_sem] theorem Tryz.ca193 : Abs.callable Tryz.prog 193 = true := by kernel_rfl
@[go_sem] theorem Tryz.ca194 : Abs.callable Tryz.prog 194 = true := by kernel_rfl
@[go_sem] theorem Tryz.ca195 : Abs.callable Tryz.prog 195 = true := by kernel_rfl
@[go_sem] theorem Tryz.ca196 : Abs.callable Tryz.prog 196 = true := by kernel_rfl
@[go_sem] theorem Tryz.ca197 : Abs.callable Tryz.prog 197 = true := by kernel_rfl
@[go_sem] theorem Tryz.ca198 : Abs.callable Tryz.prog 198 = true := by kernel_rfl
@[go_sem] theorem Tryz.ca199 : Abs.callable Tryz.prog 199 = true := by kernel_rfl
@[go_sem] theorem Tryz.eq7 (a0 b0 : Int) (a1 b1 : Int) (a2 b2 : Bool) (a3 b3 : Int) : Abs.eqC Tryz.prog 7 [.int .i64 a0, .int .i64 a1, .bool a2, .int .u8 a3] [.int .i64 b0, .int .i64 b1, .bool b2, .int .u8 b3] = some (a0 == b0 && a1 == b1 && a2 == b2 && a3 == b3) := by
  refine Abs.eqC_V (by kernel_rfl) ?_
  have h : Abs.eqV Tryz.prog 5 7 [.int .i64 a0, .int .i64 a1, .bool a2, .int .u8 a3] [.int .i64 b0, .int .i64 b1, .bool b2, .int .u8 b3] = Abs.andO (some (a0 == b0)) (Abs.andO (some (a1 == b1)) (Abs.andO (some (a2 == b2)) (Abs.andO (some (a3 == b3)) (some true)))) := by kernel_rfl
  rw [h]; generalize (a0 == b0) = x0; generalize (a1 == b1) = x1; generalize (a2 == b2) = x2; generalize (a3 == b3) = x3; revert x0 x1 x2 x3; decide
@[go_sem] theorem Tryz.eq8 (a0 b0 : Int) (a1 b1 : Int) (a2 b2 : Bool) (a3 b3 : Int) : Abs.eqC Tryz.prog 8 [.int .i64 a0, .int .i64 a1, .bool a2, .int .u8 a3] [.int .i64 b0, .int .i64 b1, .bool b2, .int .u8 b3] = some (a0 == b0 && a1 == b1 && a2 == b2 && a3 == b3) := by
  refine Abs.eqC_V (by kernel_rfl) ?_
  have h : Abs.eqV Tryz.prog 5 8 [.int .i64 a0, .int .i64 a1, .bool a2, .int .u8 a3] [.int .i64 b0, .int .i64 b1, .bool b2, .int .u8 b3] = Abs.andO (some (a0 == b0)) (Abs.andO (some (a1 == b1)) (Abs.andO (some (a2 == b2)) (Abs.andO (some (a3 == b3)) (some true)))) := by kernel_rfl
  rw [h]; generalize (a0 == b0) = x0; generalize (a1 == b1) = x1; generalize (a2 == b2) = x2; generalize (a3 == b3) = x3; revert x0 x1 x2 x3; decide
@[go_sem] theorem Tryz.eq25 (a0 b0 : Int) (a1 b1 : Int) : Abs.eqC Tryz.prog 25 [.int .i64 a0, .int .i64 a1] [.int .i64 b0, .int .i64 b1] = some (a0 == b0 && a1 == b1) := by
  refine Abs.eqC_V (by kernel_rfl) ?_
  have h : Abs.eqV Tryz.prog 5 25 [.int .i64 a0, .int .i64 a1] [.int .i64 b0, .int .i64 b1] = Abs.andO (some (a0 == b0)) (Abs.andO (some (a1 == b1)) (some true)) := by kernel_rfl
  rw [h]; generalize (a0 == b0) = x0; generalize (a1 == b1) = x1; revert x0 x1; decide
@[go_sem] theorem Tryz.eq26 (a0 b0 : Int) (a1 b1 : Int) : Abs.eqC Tryz.prog 26 [.int .i64 a0, .int .i64 a1] [.int .i64 b0, .int .i64 b1] = some (a0 == b0 && a1 == b1) := by
  refine Abs.eqC_V (by kernel_rfl) ?_
  have h : Abs.eqV Tryz.prog 5 26 [.int .i64 a0, .int .i64 a1] [.int .i64 b0, .int .i64 b1] = Abs.andO (some (a0 == b0)) (Abs.andO (some (a1 == b1)) (some true)) := by kernel_rfl
  rw [h]; generalize (a0 == b0) = x0; generalize (a1 == b1) = x1; revert x0 x1; decide
@[go_sem] theorem Tryz.eq27 (a0 b0 : Int) (a1 b1 : Int) (a2 b2 : Int) (a3 b3 : Int) (a4 b4 : Int) (a5 b5 : Int) (a6 b6 : Int) : Abs.eqC Tryz.prog 27 [.int .i64 a0, .int .i64 a1, .int .i64 a2, .int .i64 a3, .int .i64 a4, .int .i64 a5, .int .i64 a6] [.int .i64 b0, .int .i64 b1, .int .i64 b2, .int .i64 b3, .int .i64 b4, .int .i64 b5, .int .i64 b6] = some (a0 == b0 && a1 == b1 && a2 == b2 && a3 == b3 && a4 == b4 && a5 == b5 && a6 == b6) := by
  refine Abs.eqC_V (by kernel_rfl) ?_
  have h : Abs.eqV Tryz.prog 5 27 [.int .i64 a0, .int .i64 a1, .int .i64 a2, .int .i64 a3, .int .i64 a4, .int .i64 a5, .int .i64 a6] [.int .i64 b0, .int .i64 b1, .int .i64 b2, .int .i64 b3, .int .i64 b4, .int .i64 b5, .int .i64 b6] = Abs.andO (some (a0 == b0)) (Abs.andO (some (a1 == b1)) (Abs.andO (some (a2 == b2)) (Abs.andO (Abs.andO (some (a3 == b3)) (Abs.andO (some (a4 == b4)) (some true))) (Abs.andO (Abs.andO (some (a5 == b5)) (Abs.andO (some (a6 == b6)) (some true))) (some true))))) := by kernel_rfl
  rw [h]; generalize (a0 == b0) = x0; generalize (a1 == b1) = x1; generalize (a2 == b2) = x2; generalize (a3 == b3) = x3; generalize (a4 == b4) = x4; generalize (a5 == b5) = x5; generalize (a6 == b6) = x6; revert x0 x1 x2 x3 x4 x5 x6; decide
@[go_sem] theorem Tryz.eq28 (a0 b0 : Int) (a1 b1 : Int) (a2 b2 : Int) (a3 b3 : Int) (a4 b4 : Int) (a5 b5 : Int) (a6 b6 : Int) : Abs.eqC Tryz.prog 28 [.int .i64 a0, .int .i64 a1, .int .i64 a2, .int .i64 a3, .int .i64 a4, .int .i64 a5, .int .i64 a6] [.int .i64 b0, .int .i64 b1, .int .i64 b2, .int .i64 b3, .int .i64 b4, .int .i64 b5, .int .i64 b6] = some (a0 == b0 && a1 == b1 && a2 == b2 && a3 == b3 && a4 == b4 && a5 == b5 && a6 == b6) := by
  refine Abs.eqC_V (by kernel_rfl) ?_
  have h : Abs.eqV Tryz.prog 5 28 [.int .i64 a0, .int .i64 a1, .int .i64 a2, .int .i64 a3, .int .i64 a4, .int .i64 a5, .int .i64 a6] [.int .i64 b0, .int .i64 b1, .int .i64 b2, .int .i64 b3, .int .i64 b4, .int .i64 b5, .int .i64 b6] = Abs.andO (some (a0 == b0)) (Abs.andO (some (a1 == b1)) (Abs.andO (some (a2 == b2)) (Abs.andO (Abs.andO (some (a3 == b3)) (Abs.andO (some (a4 == b4)) (some true))) (Abs.andO (Abs.andO (some (a5 == b5)) (Abs.andO (some (a6 == b6)) (some true))) (some true))))) := by kernel_rfl
  rw [h]; generalize (a0 == b0) = x0; generalize (a1 == b1) = x1; generalize (a2 == b2) = x2; generalize (a3 == b3) = x3; generalize (a4 == b4) = x4; generalize (a5 == b5) = x5; generalize (a6 == b6) = x6; revert x0 x1 x2 x3 x4 x5 x6; decide
@[go_sem] theorem Tryz.eq56 (a0 b0 : Int) (a1 b1 : Int) (a2 b2 : Int) : Abs.eqC Tryz.prog 56 [.int .i64 a0, .int .i64 a1, .int .i64 a2] [.int .i64 b0, .int .i64 b1, .int .i64 b2] = some (a0 == b0 && a1 == b1 && a2 == b2) := by
  refine Abs.eqC_V (by kernel_rfl) ?_
  have h : Abs.eqV Tryz.prog 5 56 [.int .i64 a0, .int .i64 a1, .int .i64 a2] [.int .i64 b0, .int .i64 b1, .int .i64 b2] = Abs.andO (some (a0 == b0)) (Abs.andO (Abs.andO (some (a1 == b1)) (Abs.andO (some (a2 == b2)) (some true))) (some true)) := by kernel_rfl
  rw [h]; generalize (a0 == b0) = x0; generalize (a1 == b1) = x1; generalize (a2 == b2) = x2; revert x0 x1 x2; decide
@[go_sem] theorem Tryz.eq57 (a0 b0 : Int) (a1 b1 : Int) (a2 b2 : Int) : Abs.eqC Tryz.prog 57 [.int .i64 a0, .int .i64 a1, .int .i64 a2] [.int .i64 b0, .int .i64 b1, .int .i64 b2] = some (a0 == b0 && a1 == b1 && a2 == b2) := by
  refine Abs.eqC_V (by kernel_rfl) ?_
  have h : Abs.eqV Tryz.prog 5 57 [.int .i64 a0, .int .i64 a1, .int .i64 a2] [.int .i64 b0, .int .i64 b1, .int .i64 b2] = Abs.andO (some (a0 == b0)) (Abs.andO (Abs.andO (some (a1 == b1)) (Abs.andO (some (a2 == b2)) (some true))) (some true)) := by kernel_rfl
  rw [h]; generalize (a0 == b0) = x0; generalize (a1 == b1) = x1; generalize (a2 == b2) = x2; revert x0 x1 x2; decide
@[go_sem] theorem Tryz.eq71 (a0 b0 : Int) (a1 b1 : Int) (a2 b2 : Int) (a3 b3 : Int) (a4 b4 : Int) (a5 b5 : Int) : Abs.eqC Tryz.prog 71 [.int .i64 a0, .int .i64 a1, .int .i64 a2, .int .i64 a3, .int .i64 a4, .int .i64 a5] [.int .i64 b0, .int .i64 b1, .int .i64 b2, .int .i64 b3, .int .i64 b4, .int .i64 b5] = some (a0 == b0 && a1 == b1 && a2 == b2 && a3 == b3 && a4 == b4 && a5 == b5) := by
  refine Abs.eqC_V (by kernel_rfl) ?_
  have h : Abs.eqV Tryz.prog 5 71 [.int .i64 a0, .int .i64 a1, .int .i64 a2, .int .i64 a3, .int .i64 a4, .int .i64 a5] [.int .i64 b0, .int .i64 b1, .int .i64 b2, .int .i64 b3, .int .i64 b4, .int .i64 b5] = Abs.andO (Abs.andO (some (a0 == b0)) (Abs.andO (Abs.andO (some (a1 == b1)) (Abs.andO (some (a2 == b2)) (some true))) (some true))) (Abs.andO (Abs.andO (some (a3 == b3)) (Abs.andO (Abs.andO (some (a4 == b4)) (Abs.andO (some (a5 == b5)) (some true))) (some true))) (some true)) := by kernel_rfl
  rw [h]; generalize (a0 == b0) = x0; generalize (a1 == b1) = x1; generalize (a2 == b2) = x2; generalize (a3 == b3) = x3; generalize (a4 == b4) = x4; generalize (a5 == b5) = x5; revert x0 x1 x2 x3 x4 x5; decide
@[go_sem] theorem Tryz.eq72 (a0 b0 : Int) (a1 b1 : Int) (a2 b2 : Int) (a3 b3 : Int) (a4 b4 : Int) (a5 b5 : Int) : Abs.eqC Tryz.prog 72 [.int .i64 a0, .int .i64 a1, .int .i64 a2, .int .i64 a3, .int .i64 a4, .int .i64 a5] [.int .i64 b0, .int .i64 b1, .int .i64 b2, .int .i64 b3, .int .i64 b4, .int .i64 b5] = some (a0 == b0 && a1 == b1 && a2 == b2 && a3 == b3 && a4 == b4 && a5 == b5) := by
  refine Abs.eqC_V (by kernel_rfl) ?_
  have h : Abs.eqV Tryz.prog 5 72 [.int .i64 a0, .int .i64 a1, .int .i64 a2, .int .i64 a3, .int .i64 a4, .int .i64 a5] [.int .i64 b0, .int .i64 b1, .int .i64 b2, .int .i64 b3, .int .i64 b4, .int .i64 b5] = Abs.andO (Abs.andO (some (a0 == b0)) (Abs.andO (Abs.andO (some (a1 == b1)) (Abs.andO (some (a2 == b2)) (some true))) (some true))) (Abs.andO (Abs.andO (some (a3 == b3)) (Abs.andO (Abs.andO (some (a4 == b4)) (Abs.andO (some (a5 == b5)) (some true))) (some true))) (some true)) := by kernel_rfl
  rw [h]; generalize (a0 == b0) = x0; generalize (a1 == b1) = x1; generalize (a2 == b2) = x2; generalize (a3 == b3) = x3; generalize (a4 == b4) = x4; generalize (a5 == b5) = x5; revert x0 x1 x2 x3 x4 x5; decide
@[go_sem] theorem Tryz.eq149 (a0 b0 : Int) (a1 b1 : Int) (a2 b2 : Int) (a3 b3 : Int) (a4 b4 : Int) (a5 b5 : Int) : Abs.eqC Tryz.prog 149 [.int .i64 a0, .int .i64 a1, .int .i64 a2, .int .i64 a3, .int .i64 a4, .int .i64 a5] [.int .i64 b0, .int .i64 b1, .int .i64 b2, .int .i64 b3, .int .i64 b4, .int .i64 b5] = some (a0 == b0 && a1 == b1 && a2 == b2 && a3 == b3 && a4 == b4 && a5 == b5) := by
  refine Abs.eqC_V (by kernel_rfl) ?_
  have h : Abs.eqV Tryz.prog 5 149 [.int .i64 a0, .int .i64 a1, .int .i64 a2, .int .i64 a3, .int .i64 a4, .int .i64 a5] [.int .i64 b0, .int .i64 b1, .int .i64 b2, .int .i64 b3, .int .i64 b4, .int .i64 b5] = Abs.andO (Abs.andO (some (a0 == b0)) (Abs.andO (Abs.andO (some (a1 == b1)) (Abs.andO (some (a2 == b2)) (some true))) (some true))) (Abs.andO (Abs.andO (some (a3 == b3)) (Abs.andO (Abs.andO (some (a4 == b4)) (Abs.andO (some (a5 == b5)) (some true))) (some true))) (some true)) := by kernel_rfl
  rw [h]; generalize (a0 == b0) = x0; generalize (a1 == b1) = x1; generalize (a2 == b2) = x2; generalize (a3 == b3) = x3; generalize (a4 == b4) = x4; generalize (a5 == b5) = x5; revert x0 x1 x2 x3 x4 x5; decide
@[go_sem] theorem Tryz.eq218 (a0 b0 : Int) (a1 b1 : Int) : Abs.eqC Tryz.prog 218 [.int .i64 a0, .int .i64 a1] [.int .i64 b0, .int .i64 b1] = some (a0 == b0 && a1 == b1) := by
  refine Abs.eqC_V (by kernel_rfl) ?_
  have h : Abs.eqV Tryz.prog 5 218 [.int .i64 a0, .int .i64 a1] [.int .i64 b0, .int .i64 b1] = Abs.andO (some (a0 == b0)) (Abs.andO (some (a1 == b1)) (some true)) := by kernel_rfl
  rw [h]; generalize (a0 == b0) = x0; generalize (a1 == b1) = x1; revert x0 x1; decide
theorem Tryz.mixed : Tryz.prog.follows .mixedOrders = true := by kernel_rfl
end Go.Proofs

namespace Go.Abs
open Go
abbrev iV (n : Int) : AV := .raw (.int .i64 n)
abbrev bV (b : Bool) : AV := .raw (.bool b)
abbrev nilV : AV := .raw (.slice none 0 0)
@[go_sem] theorem getD_map_lt {α β : Type} [Inhabited α] {f : α → β} {l : List α} {i : Nat} {d : β} (h : i < l.length) : (l.map f).getD i d = f (l.getD i default) := by
  simp [List.getD, h]
@[go_sem] theorem natCast_nonneg' (n : Nat) : (0 ≤ (n : Int)) = True := by simp
@[go_sem] theorem natCast_lt (m n : Nat) : ((m : Int) < (n : Int)) = (m < n) := by simp
@[go_sem] theorem natCast_le (m n : Nat) : ((m : Int) ≤ (n : Int)) = (m ≤ n) := by simp
attribute [go_sem] Int.toNat_natCast List.length_map List.length_append List.length_take Nat.zero_add Nat.add_zero
theorem wrap_i64 {n : Int} (h0 : -9223372036854775808 ≤ n) (h1 : n ≤ 9223372036854775807) : IntKind.i64.wrap n = n := by
  rw [IntKind.wrap_i64]; omega
theorem wrap_succ {n : Nat} (h : n < 9223372036854775807) : IntKind.i64.wrap ((n : Int) + 1) = ((n + 1 : Nat) : Int) := by
  rw [wrap_i64 (by omega) (by omega)]; omega
structure Plate where
  number : Int
  letter : Int
  deriving DecidableEq, Inhabited
structure House where
  street : Int
  plate : Plate
  deriving DecidableEq, Inhabited
abbrev Plan := List (List Plate)
@[reducible] def Plate.enc (p : Plate) : AV := .agg [iV p.number, iV p.letter]
@[reducible] def House.enc (p : House) : AV := .agg [iV p.street, iV p.plate.number, iV p.plate.letter]
@[reducible] def encStreet (l : List Plate) : AV := .list (l.map Plate.enc)
@[reducible] def encPlan (p : Plan) : AV := .agg [.list (p.map encStreet)]
attribute [go_sem] Plate.enc House.enc encStreet encPlan
def housesFrom : Nat → Plan → List House
  | _, [] => []
  | i, l :: r => l.map (fun x => ⟨i, x⟩) ++ housesFrom (i + 1) r
def housesOf (p : Plan) : List House := housesFrom 0 p
end Go.Abs

namespace Go.Abs
open Go
structure Change where
  kind : Int
  street : Int
  other : Int
  src : Plate
  dst : Plate
  deriving DecidableEq, Inhabited
structure Fact where
  src : House
  dst : House
  deriving DecidableEq, Inhabited
structure Story where
  first : Plan
  steps : List (List Change)
  facts : List Fact
  deriving DecidableEq, Inhabited
@[reducible] def Change.enc (c : Change) : AV := .agg [iV c.kind, iV c.street, iV c.other, iV c.src.number, iV c.src.letter, iV c.dst.number, iV c.dst.letter]
@[reducible] def Fact.enc (f : Fact) : AV := .agg [iV f.src.street, iV f.src.plate.number, iV f.src.plate.letter, iV f.dst.street, iV f.dst.plate.number, iV f.dst.plate.letter]
@[reducible] def encStep (l : List Change) : AV := .agg [.list (l.map Change.enc)]
@[reducible] def Story.enc (s : Story) : AV := .agg [.list (s.first.map encStreet), .list (s.steps.map encStep), .list (s.facts.map Fact.enc)]
@[reducible] def encHouses (l : List House) : AV := .list (l.map House.enc)
attribute [go_sem] Change.enc Fact.enc encStep Story.enc encHouses
theorem drop_cons {α : Type} [Inhabited α] {l : List α} {i : Nat} (h : i < l.length) : l.drop i = l.getD i default :: l.drop (i + 1) := by
  rw [List.drop_eq_getElem_cons h]; simp [List.getD, h]
theorem drop_end {α : Type} {l : List α} {i : Nat} (h : l.length ≤ i) : l.drop i = [] := List.drop_of_length_le h
theorem getD_mem {α : Type} [Inhabited α] {l : List α} {i : Nat} (h : i < l.length) : l.getD i default ∈ l := by simp [List.getD, h]
def betw (n lo hi : Int) : Bool := decide (lo ≤ n) && decide (n ≤ hi)
def Plate.ok (x : Plate) : Bool := betw x.number 1 40 && betw x.letter 0 4
def Plate.lt (a b : Plate) : Bool := decide (a.number < b.number) || (decide (a.number = b.number) && decide (a.letter < b.letter))
def House.lt (a b : House) : Bool := decide (a.street < b.street) || (decide (a.street = b.street) && a.plate.lt b.plate)
def cmpN (a b : Int) : Int := if a < b then -1 else if b < a then 1 else 0
def orI (a b : Int) : Int := if a = 0 then b else a
def cmpP (a b : Plate) : Int := orI (cmpN a.number b.number) (cmpN a.letter b.letter)
def cmpH (a b : House) : Int := orI (cmpN a.street b.street) (cmpP a.plate b.plate)
def checkRow : Option Plate → List Plate → Int
  | _, [] => 0
  | none, x :: r => if x.ok = true then checkRow (some x) r else 1
  | some y, x :: r => if x.ok = true then (if y.lt x = true then checkRow (some x) r else 5) else 1
def checkRows : Plan → Int
  | [] => 0
  | l :: r => if 8 < l.length then 6 else if checkRow none l = 0 then checkRows r else checkRow none l
def check (p : Plan) : Int := if p.length = 0 then 7 else if 3 < p.length then 6 else checkRows p
structure Sound (l : List Plate) : Prop where
  len : l.length ≤ 8
  ok : ∀ x, x ∈ l → x.ok = true
  sorted : l.Pairwise (fun x y => x.lt y = true)
structure Valid (p : Plan) : Prop where
  ne : 0 < p.length
  len : p.length ≤ 3
  rows : ∀ l, l ∈ p → Sound l
def rowAt (p : Plan) (s : Int) : List Plate := p.getD s.toNat default
def oddB (x : Plate) : Bool := decide (x.number % 2 = 1)
def base (l : List Plate) : Int := let n := l.foldl (fun n x => max n x.number) 0; n + n % 2
def idxP (l : List Plate) (x : Plate) : Int := if x ∈ l then (l.idxOf x : Nat) else -1
def letter (l : List Plate) (n : Int) : Int :=
  if ⟨n, 1⟩ ∉ l then 1 else if ⟨n, 2⟩ ∉ l then 2 else if ⟨n, 3⟩ ∉ l then 3 else if ⟨n, 4⟩ ∉ l then 4 else 0
def fitsE (p : Plan) (c : Change) : Int :=
  let l := rowAt p c.street
  if c.kind = 4 then
    let o := rowAt p c.other
    if 8 < l.length + o.length then 6 else if l.any (fun x => decide (40 < x.number + base o)) = true then 1 else 0
  else if c.kind = 5 then if c.src ∉ l then 3 else if l.length = 8 ∨ letter l c.src.number = 0 then 6 else 0
  else if c.kind = 6 then if c.src ∉ l then 3 else 0
  else if c.kind = 7 then if c.src ∉ l ∨ c.dst ∉ l then 3 else if c.dst.lt c.src = true then 5 else if 0 < (rowAt p c.other).length then 12 else 0
  else 0
def zeroPlate : Plate := ⟨0, 0⟩
def can (p : Plan) (c : Change) : Int :=
  if betw c.kind 1 7 = false then 8
  else if betw c.street 0 (p.length - 1) = false then 3
  else if (c.kind = 4 ∨ c.kind = 7) ∧ betw c.other 0 (p.length - 1) = false then 3
  else if (c.kind = 4 ∨ c.kind = 7) ∧ c.other = c.street then 4
  else if (¬ (c.kind = 4 ∨ c.kind = 7) ∧ c.other ≠ 0) ∨ (¬ 5 ≤ c.kind ∧ c.src ≠ zeroPlate) ∨ (¬ c.kind = 7 ∧ c.dst ≠ zeroPlate) then 1
  else fitsE p c
def toP (p : Plan) (c : Change) (x : Plate) : List House :=
  let l := rowAt p c.street
  let own := l.filter (fun y => oddB y == oddB x)
  let k := own.idxOf x
  if c.kind = 1 then [⟨c.street, own.getD (own.length - 1 - k) default⟩]
  else if c.kind = 2 then [⟨c.street, ⟨if oddB x = true then x.number + 1 else x.number - 1, x.letter⟩⟩]
  else if c.kind = 3 then [⟨c.street, ⟨2 * (k : Nat) + 2 - x.number % 2, 0⟩⟩]
  else if c.kind = 4 then [⟨c.other, ⟨x.number + base (rowAt p c.other), x.letter⟩⟩]
  else if c.kind = 5 then if x = c.src then [⟨c.street, x⟩, ⟨c.street, ⟨x.number, letter l x.number⟩⟩] else [⟨c.street, x⟩]
  else if c.kind = 6 then if x = c.src then [] else [⟨c.street, x⟩]
  else if c.kind = 7 then if x.lt c.src = false ∧ c.dst.lt x = false then [⟨c.other, ⟨idxP l x - idxP l c.src + 1, 0⟩⟩] else [⟨c.street, x⟩]
  else [⟨c.street, x⟩]
def mv (p : Plan) (c : Change) (h : House) : List House := if h.street = c.street then toP p c h.plate else [h]
def insH (x : House) : List House → List House
  | [] => [x]
  | y :: r => if y.lt x = true then y :: insH x r else if y = x then y :: r else x :: y :: r
def sortH (l : List House) : List House := l.foldl (fun out x => insH x out) []
def laid (l : List House) (n : Nat) : Plan := (List.range n).map fun (s : Nat) => ((sortH l).filter (fun h => h.street == (s : Int))).map House.plate
def flatMv (p : Plan) (c : Change) : List House := (housesOf p).flatMap (mv p c)
def afterOf (p : Plan) (c : Change) : Plan := laid (flatMv p c) p.length
def errOf (p : Plan) (c : Change) : Int := if check p = 0 then can p c else check p
def changesAt (kind : Int) (p : Plan) (s : Nat) : List Change :=
  if kind = 4 then (List.range p.length).map fun o => ⟨4, s, (o : Nat), zeroPlate, zeroPlate⟩
  else if kind = 5 ∨ kind = 6 then (p.getD s default).map fun x => ⟨kind, s, 0, x, zeroPlate⟩
  else [⟨kind, s, 0, zeroPlate, zeroPlate⟩]
def changesOf (p : Plan) : List Change := ([1, 2, 3, 4, 5, 6] : List Int).flatMap fun k => (List.range p.length).flatMap fun s => (changesAt k p s).filter fun c => decide (can p c = 0)
def firstSome {α β : Type} (f : α → Option β) : List α → Option β
  | [] => none
  | x :: r => match f x with
    | some y => some y
    | none => firstSome f r
def guessN : Nat → Plan → Plan → Option (List Change)
  | 0, p, q => if p = q then some [] else none
  | n + 1, p, q => firstSome (fun c => (guessN n (afterOf p c) q).map (c :: ·)) (changesOf p)
def guessOf (p q : Plan) : Option (List Change) := firstSome (fun n => guessN n p q) [0, 1, 2]
end Go.Abs

namespace Go.Abs
open Go
theorem Plate.lt_iff (a b : Plate) : a.lt b = true ↔ a.number < b.number ∨ (a.number = b.number ∧ a.letter < b.letter) := by simp [Plate.lt]
theorem House.lt_iff (a b : House) : a.lt b = true ↔ a.street < b.street ∨ (a.street = b.street ∧ (a.plate.number < b.plate.number ∨ (a.plate.number = b.plate.number ∧ a.plate.letter < b.plate.letter))) := by simp [House.lt, Plate.lt]
theorem Plate.eq_iff (a b : Plate) : a = b ↔ a.number = b.number ∧ a.letter = b.letter := by cases a; cases b; simp
theorem House.eq_iff (a b : House) : a = b ↔ a.street = b.street ∧ a.plate.number = b.plate.number ∧ a.plate.letter = b.plate.letter := by
  cases a with | mk s p => cases b with | mk t q => cases p; cases q; simp
theorem Plate.lt_trans {a b c : Plate} (h1 : a.lt b = true) (h2 : b.lt c = true) : a.lt c = true := by rw [Plate.lt_iff] at *; omega
theorem House.lt_trans {a b c : House} (h1 : a.lt b = true) (h2 : b.lt c = true) : a.lt c = true := by rw [House.lt_iff] at *; omega
theorem Plate.lt_irrefl (a : Plate) : ¬ a.lt a = true := by rw [Plate.lt_iff]; omega
theorem House.lt_irrefl (a : House) : ¬ a.lt a = true := by rw [House.lt_iff]; omega
theorem House.lt_tri (a b : House) : a.lt b = true ∨ a = b ∨ b.lt a = true := by rw [House.lt_iff, House.lt_iff, House.eq_iff]; omega
theorem Plate.lt_tri (a b : Plate) : a.lt b = true ∨ a = b ∨ b.lt a = true := by rw [Plate.lt_iff, Plate.lt_iff, Plate.eq_iff]; omega
theorem cmpP_lt (a b : Plate) : cmpP a b < 0 ↔ a.lt b = true := by
  rw [Plate.lt_iff]; unfold cmpP orI cmpN; repeat' split
  all_goals omega
theorem cmpH_lt (a b : House) : cmpH a b < 0 ↔ a.lt b = true := by
  rw [House.lt_iff]; unfold cmpH cmpP orI cmpN; repeat' split
  all_goals omega
theorem mem_insH {x z : House} : ∀ {l : List House}, z ∈ insH x l ↔ z = x ∨ z ∈ l
  | [] => by simp [insH]
  | y :: r => by
    simp only [insH]
    split
    · simp only [List.mem_cons, mem_insH (l := r)]
      constructor
      · rintro (h | h | h) <;> simp [h]
      · rintro (h | h | h) <;> simp [h]
    · split
      · rename_i e; subst e; simp
      · simp
abbrev Strict (l : List House) : Prop := l.Pairwise (fun a b => a.lt b = true)
theorem strict_insH {x : House} : ∀ {l : List House}, Strict l → Strict (insH x l)
  | [], _ => by simp [insH, Strict]
  | y :: r, h => by
    obtain ⟨h1, h2⟩ := List.pairwise_cons.1 h
    simp only [insH]
    split
    · rename_i hy
      refine List.pairwise_cons.2 ⟨fun z hz => ?_, strict_insH h2⟩
      rcases mem_insH.1 hz with rfl | hz
      · exact hy
      · exact h1 z hz
    · rename_i hy
      split
      · exact h
      · rename_i hne
        have hxy : x.lt y = true := by
          rcases House.lt_tri x y with h | h | h
          · exact h
          · exact absurd h.symm hne
          · exact absurd h hy
        refine List.pairwise_cons.2 ⟨fun z hz => ?_, h⟩
        rcases List.mem_cons.1 hz with rfl | hz
        · exact hxy
        · exact House.lt_trans hxy (h1 z hz)
theorem sortH_aux (l : List House) : ∀ out : List House, Strict out → Strict (l.foldl (fun out x => insH x out) out) ∧ ∀ z, z ∈ l.foldl (fun out x => insH x out) out ↔ z ∈ out ∨ z ∈ l := by
  induction l with
  | nil => intro out h; exact ⟨h, fun z => by simp⟩
  | cons x r ih =>
    intro out h
    obtain ⟨h1, h2⟩ := ih (insH x out) (strict_insH h)
    refine ⟨h1, fun z => ?_⟩
    simp only [List.foldl_cons]
    rw [h2, mem_insH, List.mem_cons]
    constructor
    · rintro ((h | h) | h) <;> simp [h]
    · rintro (h | h | h) <;> simp [h]
theorem strict_sortH (l : List House) : Strict (sortH l) := (sortH_aux l [] List.Pairwise.nil).1
theorem mem_sortH {l : List House} {z : House} : z ∈ sortH l ↔ z ∈ l := by
  have := (sortH_aux l [] List.Pairwise.nil).2 z
  simpa [sortH] using this
theorem strict_uniq : ∀ {a b : List House}, Strict a → Strict b → (∀ z, z ∈ a ↔ z ∈ b) → a = b
  | [], [], _, _, _ => rfl
  | [], y :: b, _, _, h => absurd ((h y).2 (by simp)) (by simp)
  | x :: a, [], _, _, h => absurd ((h x).1 (by simp)) (by simp)
  | x :: a, y :: b, ha, hb, h => by
    obtain ⟨a1, a2⟩ := List.pairwise_cons.1 ha
    obtain ⟨b1, b2⟩ := List.pairwise_cons.1 hb
    have hxy : x = y := by
      rcases List.mem_cons.1 ((h x).1 (by simp)) with e | h1
      · exact e
      · rcases List.mem_cons.1 ((h y).2 (by simp)) with e | h2
        · exact e.symm
        · exact absurd (House.lt_trans (b1 x h1) (a1 y h2)) (House.lt_irrefl _)
    subst hxy
    have : a = b := strict_uniq a2 b2 (fun z => by
      have hz := h z
      simp only [List.mem_cons] at hz
      constructor
      · intro hm
        rcases hz.1 (.inr hm) with e | hm'
        · subst e; exact absurd (a1 z hm) (House.lt_irrefl _)
        · exact hm'
      · intro hm
        rcases hz.2 (.inr hm) with e | hm'
        · subst e; exact absurd (b1 z hm) (House.lt_irrefl _)
        · exact hm')
    rw [this]
theorem Strict.nodup {l : List House} (h : Strict l) : l.Nodup := h.imp (fun {a b} hab e => by subst e; exact House.lt_irrefl _ hab)
theorem checkRow_zero : ∀ (l : List Plate) (o : Option Plate), checkRow o l = 0 ↔ (∀ x, x ∈ l → x.ok = true) ∧ l.Pairwise (fun x y => x.lt y = true) ∧ ∀ y, o = some y → ∀ x, x ∈ l → y.lt x = true
  | [], o => by cases o <;> simp [checkRow]
  | x :: r, o => by
    have key : checkRow o (x :: r) = 0 ↔ x.ok = true ∧ (∀ y, o = some y → y.lt x = true) ∧ checkRow (some x) r = 0 := by
      cases o with
      | none => simp only [checkRow]; by_cases h : x.ok = true <;> simp [h]
      | some y => simp only [checkRow]; by_cases h : x.ok = true <;> by_cases h' : y.lt x = true <;> simp [h, h']
    rw [key, checkRow_zero r (some x)]
    constructor
    · rintro ⟨h1, h2, h3, h4, h5⟩
      refine ⟨fun z hz => ?_, List.pairwise_cons.2 ⟨fun z hz => h5 x rfl z hz, h4⟩, fun y e z hz => ?_⟩
      · rcases List.mem_cons.1 hz with rfl | hz
        · exact h1
        · exact h3 z hz
      · rcases List.mem_cons.1 hz with rfl | hz
        · exact h2 y e
        · exact Plate.lt_trans (h2 y e) (h5 x rfl z hz)
    · rintro ⟨h1, h2, h3⟩
      obtain ⟨h4, h5⟩ := List.pairwise_cons.1 h2
      exact ⟨h1 x (by simp), fun y e => h3 y e x (by simp), fun z hz => h1 z (by simp [hz]), h5, fun y e z hz => by cases e; exact h4 z hz⟩
theorem checkRows_zero : ∀ (p : Plan), checkRows p = 0 ↔ ∀ l, l ∈ p → Sound l
  | [] => by simp [checkRows]
  | l :: r => by
    have key : checkRows (l :: r) = 0 ↔ l.length ≤ 8 ∧ checkRow none l = 0 ∧ checkRows r = 0 := by
      simp only [checkRows]
      by_cases h : 8 < l.length
      · rw [if_pos h]; exact ⟨fun e => by omega, fun e => by omega⟩
      · rw [if_neg h]
        by_cases h' : checkRow none l = 0
        · rw [if_pos h']; exact ⟨fun e => ⟨by omega, h', e⟩, fun e => e.2.2⟩
        · rw [if_neg h']; exact ⟨fun e => absurd e h', fun e => absurd e.2.1 h'⟩
    rw [key, checkRows_zero r, checkRow_zero]
    constructor
    · rintro ⟨h1, ⟨h2, h3, _⟩, h4⟩ m hm
      rcases List.mem_cons.1 hm with rfl | hm
      · exact ⟨h1, h2, h3⟩
      · exact h4 m hm
    · intro h
      have hl := h l (by simp)
      exact ⟨hl.len, ⟨hl.ok, hl.sorted, fun y e => by cases e⟩, fun m hm => h m (by simp [hm])⟩
theorem check_zero (p : Plan) : check p = 0 ↔ Valid p := by
  unfold check
  by_cases h : p.length = 0
  · simp only [h, if_true]; exact ⟨fun e => by omega, fun v => absurd v.ne (by omega)⟩
  · by_cases h' : 3 < p.length
    · simp only [h, h', if_true, if_false]; exact ⟨fun e => by omega, fun v => absurd v.len (by omega)⟩
    · simp only [h, h', if_false, checkRows_zero]
      exact ⟨fun hr => ⟨by omega, by omega, hr⟩, fun v => v.rows⟩
theorem housesFrom_eq (k : Nat) (p : Plan) : housesFrom k p = (List.range p.length).flatMap fun s => (p.getD s default).map fun x => (⟨((k + s : Nat) : Int), x⟩ : House) := by
  induction p generalizing k with
  | nil => simp [housesFrom]
  | cons l r ih =>
    simp only [housesFrom, List.length_cons, List.range_succ_eq_map, List.flatMap_cons, List.flatMap_map, ih]
    simp [Nat.add_assoc, Nat.add_comm 1]
theorem housesOf_eq (p : Plan) : housesOf p = (List.range p.length).flatMap fun s => (p.getD s default).map fun x => (⟨(s : Nat), x⟩ : House) := by
  have := housesFrom_eq 0 p
  simpa [housesOf] using this
theorem mem_houses {p : Plan} {h : House} : h ∈ housesOf p ↔ 0 ≤ h.street ∧ h.street < p.length ∧ h.plate ∈ rowAt p h.street := by
  rw [housesOf_eq]
  simp only [List.mem_flatMap, List.mem_range, List.mem_map, rowAt]
  constructor
  · rintro ⟨s, hs, x, hx, rfl⟩
    exact ⟨by simp, by simp; exact hs, by simpa using hx⟩
  · rintro ⟨h0, h1, h2⟩
    refine ⟨h.street.toNat, by omega, h.plate, h2, ?_⟩
    cases h; simp at *; omega
theorem rowAt_mem {p : Plan} {s : Int} (h0 : 0 ≤ s) (h1 : s < p.length) : rowAt p s ∈ p := getD_mem (by omega)
theorem Valid.row {p : Plan} (v : Valid p) (s : Int) : Sound (rowAt p s) := by
  unfold rowAt
  by_cases h : s.toNat < p.length
  · exact v.rows _ (getD_mem h)
  · simp only [List.getD_eq_getElem?_getD, List.getElem?_eq_none (Nat.le_of_not_lt h), Option.getD_none]
    show Sound []
    exact ⟨by simp, fun x hx => by simp at hx, List.Pairwise.nil⟩
theorem strict_houses {p : Plan} (v : Valid p) : Strict (housesOf p) := by
  rw [housesOf_eq]
  have key : ∀ n, n ≤ p.length → Strict ((List.range n).flatMap fun s => (p.getD s default).map fun x => (⟨(s : Nat), x⟩ : House)) := by
    intro n
    induction n with
    | zero => intro _; simp [Strict]
    | succ n ih =>
      intro hn
      rw [List.range_succ, List.flatMap_append]
      refine List.pairwise_append.2 ⟨ih (by omega), ?_, fun a ha b hb => ?_⟩
      · simp only [List.flatMap_cons, List.flatMap_nil, List.append_nil]
        rw [List.pairwise_map]
        exact (v.rows _ (getD_mem (by omega))).sorted.imp (fun {x y} h => by rw [House.lt_iff]; rw [Plate.lt_iff] at h; exact .inr ⟨rfl, h⟩)
      · simp only [List.mem_flatMap, List.mem_range, List.mem_map, List.flatMap_cons, List.flatMap_nil, List.append_nil] at ha hb
        obtain ⟨s, hs, x, _, rfl⟩ := ha
        obtain ⟨y, _, rfl⟩ := hb
        rw [House.lt_iff]; left; simp; omega
  exact key _ (Nat.le_refl _)
end Go.Abs

namespace Go.Abs
open Go
theorem nodup_len {α : Type} [DecidableEq α] : ∀ {a b : List α}, a.Nodup → (∀ x, x ∈ a → x ∈ b) → a.length ≤ b.length
  | [], _, _, _ => by simp
  | y :: r, b, hn, hs => by
    obtain ⟨hy, hr⟩ := List.nodup_cons.1 hn
    have hyb := hs y (by simp)
    have hlen := List.length_erase_of_mem hyb
    have hpos : 0 < b.length := List.length_pos_of_mem hyb
    have := nodup_len (b := b.erase y) hr (fun z hz => (List.mem_erase_of_ne (fun e => by subst e; exact hy hz)).2 (hs z (by simp [hz])))
    simp; omega
theorem strict_houses' {p : Plan} (v : ∀ l, l ∈ p → l.Pairwise (fun x y : Plate => x.lt y = true)) : Strict (housesOf p) := by
  rw [housesOf_eq]
  have key : ∀ n, n ≤ p.length → Strict ((List.range n).flatMap fun s => (p.getD s default).map fun x => (⟨(s : Nat), x⟩ : House)) := by
    intro n
    induction n with
    | zero => intro _; simp [Strict]
    | succ n ih =>
      intro hn
      rw [List.range_succ, List.flatMap_append]
      refine List.pairwise_append.2 ⟨ih (by omega), ?_, fun a ha b hb => ?_⟩
      · simp only [List.flatMap_cons, List.flatMap_nil, List.append_nil]
        rw [List.pairwise_map]
        exact (v _ (getD_mem (by omega))).imp (fun {x y} h => by rw [House.lt_iff]; rw [Plate.lt_iff] at h; exact .inr ⟨rfl, h⟩)
      · simp only [List.mem_flatMap, List.mem_range, List.mem_map, List.flatMap_cons, List.flatMap_nil, List.append_nil] at ha hb
        obtain ⟨s, hs, x, _, rfl⟩ := ha
        obtain ⟨y, _, rfl⟩ := hb
        rw [House.lt_iff]; left; simp; omega
  exact key _ (Nat.le_refl _)
theorem laid_length (l : List House) (n : Nat) : (laid l n).length = n := by simp [laid]
theorem laid_row (l : List House) (n : Nat) {s : Int} (h0 : 0 ≤ s) (h1 : s < n) : rowAt (laid l n) s = ((sortH l).filter (fun h => h.street == s)).map House.plate := by
  unfold rowAt laid
  have : s.toNat < n := by omega
  simp only [List.getD_eq_getElem?_getD, List.getElem?_map, List.getElem?_range this, Option.map_some, Option.getD_some]
  congr 1
  refine List.filter_congr (fun h _ => ?_)
  rw [Int.toNat_of_nonneg h0]
theorem mem_laid_row {l : List House} {n : Nat} {s : Int} (h0 : 0 ≤ s) (h1 : s < n) {x : Plate} : x ∈ rowAt (laid l n) s ↔ (⟨s, x⟩ : House) ∈ l := by
  rw [laid_row l n h0 h1]
  simp only [List.mem_map, List.mem_filter, mem_sortH, beq_iff_eq]
  constructor
  · rintro ⟨h, ⟨hm, rfl⟩, rfl⟩; exact hm
  · intro h; exact ⟨_, ⟨h, rfl⟩, rfl⟩
theorem sorted_laid_row {l : List House} {n : Nat} {s : Int} (h0 : 0 ≤ s) (h1 : s < n) : (rowAt (laid l n) s).Pairwise (fun x y => x.lt y = true) := by
  rw [laid_row l n h0 h1, List.pairwise_map]
  refine ((strict_sortH l).filter _).imp_of_mem (fun {a b} ha hb hab => ?_)
  have e1 : a.street = s := by simpa using (List.mem_filter.1 ha).2
  have e2 : b.street = s := by simpa using (List.mem_filter.1 hb).2
  rw [House.lt_iff] at hab; rw [Plate.lt_iff]; omega
theorem mem_rowAt {p : Plan} {l : List Plate} (h : l ∈ p) : ∃ s : Int, 0 ≤ s ∧ s < p.length ∧ rowAt p s = l := by
  obtain ⟨i, hi, rfl⟩ := List.getElem_of_mem h
  exact ⟨i, by omega, by omega, by simp [rowAt, hi]⟩
theorem houses_laid {l : List House} {n : Nat} (h : ∀ z, z ∈ l → 0 ≤ z.street ∧ z.street < n) : housesOf (laid l n) = sortH l := by
  refine strict_uniq (strict_houses' (fun r hr => ?_)) (strict_sortH l) (fun z => ?_)
  · obtain ⟨s, h0, h1, rfl⟩ := mem_rowAt hr
    rw [laid_length] at h1
    exact sorted_laid_row h0 h1
  · rw [mem_houses, mem_sortH, laid_length]
    constructor
    · rintro ⟨h0, h1, h2⟩; exact (mem_laid_row h0 h1).1 h2
    · intro hz
      obtain ⟨h0, h1⟩ := h z hz
      exact ⟨h0, h1, (mem_laid_row h0 h1).2 hz⟩
theorem plates_uniq : ∀ {a b : List Plate}, a.Pairwise (fun x y => x.lt y = true) → b.Pairwise (fun x y => x.lt y = true) → (∀ z, z ∈ a ↔ z ∈ b) → a = b := by
  intro a b ha hb h
  have key : ∀ {l : List Plate}, l.Pairwise (fun x y => x.lt y = true) → Strict (l.map fun x => (⟨0, x⟩ : House)) := fun {l} hl => by
    rw [Strict, List.pairwise_map]
    exact hl.imp (fun {x y} h => by rw [House.lt_iff]; rw [Plate.lt_iff] at h; exact .inr ⟨rfl, h⟩)
  have := strict_uniq (key ha) (key hb) (fun z => by
    simp only [List.mem_map]
    constructor
    · rintro ⟨x, hx, rfl⟩; exact ⟨x, (h x).1 hx, rfl⟩
    · rintro ⟨x, hx, rfl⟩; exact ⟨x, (h x).2 hx, rfl⟩)
  have h2 := congrArg (List.map House.plate) this
  simpa [List.map_map, Function.comp_def] using h2
structure Fit (p : Plan) (c : Change) : Prop where
  kind : 1 ≤ c.kind ∧ c.kind ≤ 7
  street : 0 ≤ c.street ∧ c.street < p.length
  other : c.kind = 4 ∨ c.kind = 7 → 0 ≤ c.other ∧ c.other < p.length ∧ c.other ≠ c.street
  fits : fitsE p c = 0
theorem betw_iff {n a b : Int} : betw n a b = true ↔ a ≤ n ∧ n ≤ b := by simp [betw]
theorem betw_no {n a b : Int} : betw n a b = false ↔ ¬ (a ≤ n ∧ n ≤ b) := by rw [← betw_iff]; simp
theorem Fit.of_can {p : Plan} {c : Change} (h : can p c = 0) : Fit p c := by
  unfold can at h
  split at h
  · omega
  rename_i h1
  split at h
  · omega
  rename_i h2
  split at h
  · omega
  rename_i h3
  split at h
  · omega
  rename_i h4
  split at h
  · omega
  simp only [Bool.not_eq_false, betw_iff, betw_no] at h1 h2 h3
  exact ⟨by omega, by omega, fun hk => by omega, h⟩
theorem idx_lt {l : List Plate} {x : Plate} (h : x ∈ l) : l.idxOf x < l.length := List.idxOf_lt_length_of_mem h
theorem idx_get {l : List Plate} {x : Plate} (h : x ∈ l) : l[l.idxOf x]'(idx_lt h) = x := by simp [List.getElem_idxOf]
theorem idx_inj {l : List Plate} {x y : Plate} (hx : x ∈ l) (hy : y ∈ l) (h : l.idxOf x = l.idxOf y) : x = y := by
  rw [← idx_get hx, ← idx_get hy]; congr 1
theorem Sound.nodup {l : List Plate} (h : Sound l) : l.Nodup := h.sorted.imp (fun {a b} hab e => by subst e; exact Plate.lt_irrefl _ hab)
theorem ok_iff (x : Plate) : x.ok = true ↔ (1 ≤ x.number ∧ x.number ≤ 40) ∧ 0 ≤ x.letter ∧ x.letter ≤ 4 := by simp [Plate.ok, betw]
theorem base_ge {l : List Plate} {x : Plate} (h : x ∈ l) : x.number ≤ base l := by
  have key : ∀ (l : List Plate) (n : Int), n ≤ l.foldl (fun n x => max n x.number) n ∧ ∀ x, x ∈ l → x.number ≤ l.foldl (fun n x => max n x.number) n := by
    intro l
    induction l with
    | nil => intro n; simp
    | cons y r ih =>
      intro n
      obtain ⟨h1, h2⟩ := ih (max n y.number)
      simp only [List.foldl_cons]
      exact ⟨by omega, fun x hx => by rcases List.mem_cons.1 hx with rfl | hx; · omega
                                      · exact h2 x hx⟩
  have := (key l 0).2 x h
  unfold base; simp only; omega
theorem base_nonneg (l : List Plate) : 0 ≤ base l := by
  have key : ∀ (l : List Plate) (n : Int), n ≤ l.foldl (fun n x => max n x.number) n := by
    intro l
    induction l with
    | nil => intro n; simp
    | cons y r ih => intro n; have := ih (max n y.number); simp only [List.foldl_cons]; omega
  have := key l 0
  unfold base; simp only; omega
theorem letter_spec {l : List Plate} {n : Int} (h : letter l n ≠ 0) : 1 ≤ letter l n ∧ letter l n ≤ 4 ∧ (⟨n, letter l n⟩ : Plate) ∉ l := by
  unfold letter at *
  repeat' split
  all_goals simp_all
section
variable {p : Plan} {c : Change} {x : Plate}
theorem to_turn (h : c.kind = 1) : toP p c x = [⟨c.street, ((rowAt p c.street).filter (fun y => oddB y == oddB x)).getD (((rowAt p c.street).filter (fun y => oddB y == oddB x)).length - 1 - ((rowAt p c.street).filter (fun y => oddB y == oddB x)).idxOf x) default⟩] := by simp [toP, h]
theorem to_swap (h : c.kind = 2) : toP p c x = [⟨c.street, ⟨if oddB x = true then x.number + 1 else x.number - 1, x.letter⟩⟩] := by simp [toP, h]
theorem to_count (h : c.kind = 3) : toP p c x = [⟨c.street, ⟨2 * (((rowAt p c.street).filter (fun y => oddB y == oddB x)).idxOf x : Nat) + 2 - x.number % 2, 0⟩⟩] := by simp [toP, h]
theorem to_join (h : c.kind = 4) : toP p c x = [⟨c.other, ⟨x.number + base (rowAt p c.other), x.letter⟩⟩] := by simp [toP, h]
theorem to_divide (h : c.kind = 5) : toP p c x = if x = c.src then [⟨c.street, x⟩, ⟨c.street, ⟨x.number, letter (rowAt p c.street) x.number⟩⟩] else [⟨c.street, x⟩] := by simp [toP, h]
theorem to_fell (h : c.kind = 6) : toP p c x = if x = c.src then [] else [⟨c.street, x⟩] := by simp [toP, h]
theorem to_court (h : c.kind = 7) : toP p c x = if x.lt c.src = false ∧ c.dst.lt x = false then [⟨c.other, ⟨idxP (rowAt p c.street) x - idxP (rowAt p c.street) c.src + 1, 0⟩⟩] else [⟨c.street, x⟩] := by simp [toP, h]
end
theorem mem_own {l : List Plate} {x : Plate} (h : x ∈ l) : x ∈ l.filter (fun y => oddB y == oddB x) := List.mem_filter.2 ⟨h, by simp⟩
theorem fits_join {p : Plan} {c : Change} (h : c.kind = 4) (hf : fitsE p c = 0) : (rowAt p c.street).length + (rowAt p c.other).length ≤ 8 ∧ ∀ x, x ∈ rowAt p c.street → x.number + base (rowAt p c.other) ≤ 40 := by
  unfold fitsE at hf
  simp only [h, if_true] at hf
  split at hf
  · omega
  · split at hf
    · omega
    · rename_i h1 h2
      refine ⟨by omega, fun x hx => ?_⟩
      simp only [List.any_eq_true, decide_eq_true_eq, not_exists, not_and] at h2
      have := h2 x hx; omega
theorem fitsE_divide {p : Plan} {c : Change} (h : c.kind = 5) : fitsE p c = if c.src ∉ rowAt p c.street then 3 else if (rowAt p c.street).length = 8 ∨ letter (rowAt p c.street) c.src.number = 0 then 6 else 0 := by
  unfold fitsE; rw [if_neg (by omega), if_pos h]
theorem fitsE_fell {p : Plan} {c : Change} (h : c.kind = 6) : fitsE p c = if c.src ∉ rowAt p c.street then 3 else 0 := by
  unfold fitsE; rw [if_neg (by omega), if_neg (by omega), if_pos h]
theorem fitsE_court {p : Plan} {c : Change} (h : c.kind = 7) : fitsE p c = if c.src ∉ rowAt p c.street ∨ c.dst ∉ rowAt p c.street then 3 else if c.dst.lt c.src = true then 5 else if 0 < (rowAt p c.other).length then 12 else 0 := by
  unfold fitsE; rw [if_neg (by omega), if_neg (by omega), if_neg (by omega), if_pos h]
theorem fits_divide {p : Plan} {c : Change} (h : c.kind = 5) (hf : fitsE p c = 0) : c.src ∈ rowAt p c.street ∧ (rowAt p c.street).length ≠ 8 ∧ letter (rowAt p c.street) c.src.number ≠ 0 := by
  rw [fitsE_divide h] at hf
  split at hf
  · exact absurd hf (by omega)
  · split at hf
    · exact absurd hf (by omega)
    · rename_i h1 h2
      exact ⟨Decidable.not_not.1 h1, fun e => h2 (.inl e), fun e => h2 (.inr e)⟩
theorem fits_court {p : Plan} {c : Change} (h : c.kind = 7) (hf : fitsE p c = 0) : c.src ∈ rowAt p c.street ∧ c.dst ∈ rowAt p c.street ∧ ¬ c.dst.lt c.src = true ∧ rowAt p c.other = [] := by
  rw [fitsE_court h] at hf
  split at hf
  · exact absurd hf (by omega)
  · split at hf
    · exact absurd hf (by omega)
    · split at hf
      · exact absurd hf (by omega)
      · rename_i h1 h2 h3
        exact ⟨Decidable.not_not.1 fun e => h1 (.inl e), Decidable.not_not.1 fun e => h1 (.inr e), h2, List.eq_nil_of_length_eq_zero (by omega)⟩
end Go.Abs

namespace Go.Abs
open Go
theorem oddB_iff (x : Plate) : oddB x = true ↔ x.number % 2 = 1 := by simp [oddB]
theorem oddB_eq (x y : Plate) : (oddB x == oddB y) = true ↔ x.number % 2 = y.number % 2 := by
  rw [beq_iff_eq, Bool.eq_iff_iff, oddB_iff, oddB_iff]; omega
theorem own_ok {p : Plan} {c : Change} {x : Plate} (hx : x ∈ rowAt p c.street) (j : Nat) :
    let o := (rowAt p c.street).filter (fun y => oddB y == oddB x)
    o.getD (o.length - 1 - j) default ∈ rowAt p c.street ∧ (o.getD (o.length - 1 - j) default).number % 2 = x.number % 2 := by
  intro o
  have hm := mem_own hx
  have hpos : 0 < o.length := List.length_pos_of_mem hm
  have := getD_mem (l := o) (i := o.length - 1 - j) (by omega)
  obtain ⟨h1, h2⟩ := List.mem_filter.1 this
  exact ⟨h1, (oddB_eq _ _).1 h2⟩
theorem idxP_of {l : List Plate} {x : Plate} (h : x ∈ l) : idxP l x = (l.idxOf x : Nat) := by simp [idxP, h]
theorem sorted_lt_idx {l : List Plate} (hs : l.Pairwise (fun x y => x.lt y = true)) {x y : Plate} (hx : x ∈ l) (hy : y ∈ l) : x.lt y = true ↔ l.idxOf x < l.idxOf y := by
  have key : ∀ {a b : Plate}, a ∈ l → b ∈ l → l.idxOf a < l.idxOf b → a.lt b = true := fun {a b} ha hb h => by
    have := (List.pairwise_iff_getElem.1 hs) _ _ (idx_lt ha) (idx_lt hb) h
    rwa [idx_get ha, idx_get hb] at this
  constructor
  · intro h
    rcases Nat.lt_trichotomy (l.idxOf x) (l.idxOf y) with h' | h' | h'
    · exact h'
    · exact absurd h (by rw [idx_inj hx hy h']; exact Plate.lt_irrefl _)
    · exact absurd (Plate.lt_trans h (key hy hx h')) (Plate.lt_irrefl _)
  · exact key hx hy
theorem kinds {k : Int} (h : 1 ≤ k ∧ k ≤ 7) : k = 1 ∨ k = 2 ∨ k = 3 ∨ k = 4 ∨ k = 5 ∨ k = 6 ∨ k = 7 := by omega
theorem toP_in {p : Plan} {c : Change} (v : Valid p) (f : Fit p c) {x : Plate} (hx : x ∈ rowAt p c.street) {z : House} (hz : z ∈ toP p c x) :
    (z.street = c.street ∨ ((c.kind = 4 ∨ c.kind = 7) ∧ z.street = c.other)) ∧ z.plate.ok = true := by
  have hs := v.row c.street
  have hxo := (ok_iff x).1 (hs.ok x hx)
  rcases kinds f.kind with h | h | h | h | h | h | h
  · rw [to_turn h] at hz
    simp only [List.mem_cons, List.not_mem_nil, or_false] at hz
    subst hz
    exact ⟨.inl rfl, hs.ok _ (own_ok hx _).1⟩
  · rw [to_swap h] at hz
    simp only [List.mem_cons, List.not_mem_nil, or_false] at hz
    subst hz
    refine ⟨.inl rfl, (ok_iff _).2 ?_⟩
    simp only
    split
    · rename_i ho; rw [oddB_iff] at ho; omega
    · rename_i ho; rw [oddB_iff] at ho; omega
  · rw [to_count h] at hz
    simp only [List.mem_cons, List.not_mem_nil, or_false] at hz
    subst hz
    refine ⟨.inl rfl, (ok_iff _).2 ?_⟩
    have h1 := idx_lt (mem_own hx)
    have h2 := List.length_filter_le (fun y => oddB y == oddB x) (rowAt p c.street)
    have h3 := hs.len
    simp only
    omega
  · rw [to_join h] at hz
    simp only [List.mem_cons, List.not_mem_nil, or_false] at hz
    subst hz
    refine ⟨.inr ⟨.inl h, rfl⟩, (ok_iff _).2 ?_⟩
    have h1 := (fits_join h f.fits).2 x hx
    have h2 := base_nonneg (rowAt p c.other)
    simp only
    omega
  · rw [to_divide h] at hz
    split at hz
    · rename_i e
      simp only [List.mem_cons, List.not_mem_nil, or_false] at hz
      rcases hz with rfl | rfl
      · exact ⟨.inl rfl, hs.ok x hx⟩
      · subst e
        have := letter_spec (fits_divide h f.fits).2.2
        exact ⟨.inl rfl, (ok_iff _).2 (by simp only; omega)⟩
    · simp only [List.mem_cons, List.not_mem_nil, or_false] at hz
      subst hz
      exact ⟨.inl rfl, hs.ok x hx⟩
  · rw [to_fell h] at hz
    split at hz
    · simp at hz
    · simp only [List.mem_cons, List.not_mem_nil, or_false] at hz
      subst hz
      exact ⟨.inl rfl, hs.ok x hx⟩
  · rw [to_court h] at hz
    obtain ⟨g1, g2, g3, g4⟩ := fits_court h f.fits
    split at hz
    · rename_i e
      simp only [List.mem_cons, List.not_mem_nil, or_false] at hz
      subst hz
      refine ⟨.inr ⟨.inr h, rfl⟩, (ok_iff _).2 ?_⟩
      rw [idxP_of hx, idxP_of g1]
      have h1 := idx_lt hx
      have h3 := hs.len
      have h4 : ¬ (rowAt p c.street).idxOf x < (rowAt p c.street).idxOf c.src := fun hlt => by
        have := (sorted_lt_idx hs.sorted hx g1).2 hlt
        rw [this] at e; exact absurd e.1 (by simp)
      simp only
      omega
    · simp only [List.mem_cons, List.not_mem_nil, or_false] at hz
      subst hz
      exact ⟨.inl rfl, hs.ok x hx⟩
theorem mv_in {p : Plan} {c : Change} (v : Valid p) (f : Fit p c) {h : House} (hh : h ∈ housesOf p) {z : House} (hz : z ∈ mv p c h) : 0 ≤ z.street ∧ z.street < p.length ∧ z.plate.ok = true := by
  obtain ⟨h0, h1, h2⟩ := mem_houses.1 hh
  unfold mv at hz
  split at hz
  · rename_i e
    rw [e] at h2
    obtain ⟨g1, g2⟩ := toP_in v f h2 hz
    have := f.street
    rcases g1 with g | ⟨g, g'⟩
    · exact ⟨by omega, by omega, g2⟩
    · have := f.other g; exact ⟨by omega, by omega, g2⟩
  · simp only [List.mem_cons, List.not_mem_nil, or_false] at hz
    subst hz
    exact ⟨h0, h1, (v.row z.street).ok _ h2⟩
theorem toP_inj {p : Plan} {c : Change} (v : Valid p) (f : Fit p c) {x y : Plate} (hx : x ∈ rowAt p c.street) (hy : y ∈ rowAt p c.street) {z : House} (hzx : z ∈ toP p c x) (hzy : z ∈ toP p c y) : x = y := by
  have hs := v.row c.street
  rcases kinds f.kind with h | h | h | h | h | h | h
  · rw [to_turn h] at hzx hzy
    simp only [List.mem_cons, List.not_mem_nil, or_false] at hzx hzy
    have px := (own_ok hx ((((rowAt p c.street).filter (fun y => oddB y == oddB x))).idxOf x)).2
    have py := (own_ok hy ((((rowAt p c.street).filter (fun z => oddB z == oddB y))).idxOf y)).2
    have e := hzx.symm.trans hzy
    have e2 := congrArg (fun h : House => h.plate) e
    simp only at e2 px py
    have hpar : x.number % 2 = y.number % 2 := by rw [← px, ← py, e2]
    have hob : oddB x = oddB y := by have := (oddB_eq x y).2 hpar; simpa using this
    rw [← hob] at e2
    have hmx := mem_own hx
    have hmy : y ∈ (rowAt p c.street).filter (fun z => oddB z == oddB x) := by rw [hob]; exact mem_own hy
    have hnd : ((rowAt p c.street).filter (fun z => oddB z == oddB x)).Nodup := hs.nodup.filter _
    revert e2 hmx hmy hnd
    generalize (rowAt p c.street).filter (fun z => oddB z == oddB x) = o
    intro e2 hmx hmy hnd
    have hlx := idx_lt hmx
    have hly := idx_lt hmy
    simp only [List.getD_eq_getElem?_getD] at e2
    rw [List.getElem?_eq_getElem (by omega), List.getElem?_eq_getElem (by omega)] at e2
    simp only [Option.getD_some] at e2
    have := (nodup_inj hnd).1 e2
    exact idx_inj hmx hmy (by omega)
  · rw [to_swap h] at hzx hzy
    simp only [List.mem_cons, List.not_mem_nil, or_false] at hzx hzy
    have e := hzx.symm.trans hzy
    rw [House.eq_iff] at e
    rw [Plate.eq_iff]
    simp only at e
    have := oddB_iff x; have := oddB_iff y
    split at e <;> split at e <;> simp_all <;> omega
  · rw [to_count h] at hzx hzy
    simp only [List.mem_cons, List.not_mem_nil, or_false] at hzx hzy
    have e := hzx.symm.trans hzy
    rw [House.eq_iff] at e
    simp only at e
    have hpar : x.number % 2 = y.number % 2 := by omega
    have hob : oddB x = oddB y := by have := (oddB_eq x y).2 hpar; simpa using this
    rw [← hob] at e
    have hmy : y ∈ (rowAt p c.street).filter (fun z => oddB z == oddB x) := by rw [hob]; exact mem_own hy
    exact idx_inj (mem_own hx) hmy (by omega)
  · rw [to_join h] at hzx hzy
    simp only [List.mem_cons, List.not_mem_nil, or_false] at hzx hzy
    have e := hzx.symm.trans hzy
    rw [House.eq_iff] at e
    rw [Plate.eq_iff]
    simp only at e
    omega
  · rw [to_divide h] at hzx hzy
    have hl := letter_spec (fits_divide h f.fits).2.2
    have hsrc := (fits_divide h f.fits).1
    split at hzx <;> split at hzy
    · simp_all
    · rename_i e1 e2
      simp only [List.mem_cons, List.not_mem_nil, or_false] at hzx hzy
      subst hzy
      rcases hzx with e | e
      · exact ((House.mk.injEq ..).mp e).2.symm
      · have := ((House.mk.injEq ..).mp e).2
        rw [e1] at this
        exact absurd (this ▸ hy) hl.2.2
    · rename_i e1 e2
      simp only [List.mem_cons, List.not_mem_nil, or_false] at hzx hzy
      subst hzx
      rcases hzy with e | e
      · exact ((House.mk.injEq ..).mp e).2
      · have := ((House.mk.injEq ..).mp e).2
        rw [e2] at this
        exact absurd (this ▸ hx) hl.2.2
    · simp only [List.mem_cons, List.not_mem_nil, or_false] at hzx hzy
      have e := hzx.symm.trans hzy
      exact ((House.mk.injEq ..).mp e).2
  · rw [to_fell h] at hzx hzy
    split at hzx <;> split at hzy <;> simp_all
  · rw [to_court h] at hzx hzy
    have hne := (f.other (.inr h)).2.2
    obtain ⟨g1, _⟩ := fits_court h f.fits
    split at hzx <;> split at hzy <;> simp only [List.mem_cons, List.not_mem_nil, or_false] at hzx hzy
    · have e := hzx.symm.trans hzy
      rw [House.eq_iff] at e
      simp only at e
      rw [idxP_of hx, idxP_of hy] at e
      exact idx_inj hx hy (by omega)
    · have e := hzx.symm.trans hzy
      exact absurd ((House.mk.injEq ..).mp e).1 hne
    · have e := hzy.symm.trans hzx
      exact absurd ((House.mk.injEq ..).mp e).1 hne
    · have e := hzx.symm.trans hzy
      exact ((House.mk.injEq ..).mp e).2
theorem toP_apart {p : Plan} {c : Change} (v : Valid p) (f : Fit p c) {x : Plate} (hx : x ∈ rowAt p c.street) {z : House} (hz : z ∈ toP p c x) (hne : z.street ≠ c.street) : z ∉ housesOf p := by
  intro hm
  obtain ⟨_, _, hm⟩ := mem_houses.1 hm
  obtain ⟨h1, _⟩ := toP_in v f hx hz
  rcases h1 with h1 | ⟨hk, h1⟩
  · exact hne h1
  rw [h1] at hm
  rcases hk with h | h
  · rw [to_join h] at hz
    simp only [List.mem_cons, List.not_mem_nil, or_false] at hz
    subst hz
    have := base_ge hm
    have := (ok_iff x).1 ((v.row c.street).ok x hx)
    simp only at *
    omega
  · rw [(fits_court h f.fits).2.2.2] at hm
    simp at hm
theorem mv_inj {p : Plan} {c : Change} (v : Valid p) (f : Fit p c) {a b : House} (ha : a ∈ housesOf p) (hb : b ∈ housesOf p) {z : House} (hza : z ∈ mv p c a) (hzb : z ∈ mv p c b) : a = b := by
  have ha' := mem_houses.1 ha
  have hb' := mem_houses.1 hb
  unfold mv at hza hzb
  split at hza <;> split at hzb
  · rename_i e1 e2
    rw [e1] at ha'; rw [e2] at hb'
    have := toP_inj v f ha'.2.2 hb'.2.2 hza hzb
    cases a; cases b; simp_all
  · rename_i e1 e2
    rw [e1] at ha'
    simp only [List.mem_cons, List.not_mem_nil, or_false] at hzb
    subst hzb
    exact absurd hb (toP_apart v f ha'.2.2 hza e2)
  · rename_i e1 e2
    rw [e2] at hb'
    simp only [List.mem_cons, List.not_mem_nil, or_false] at hza
    subst hza
    exact absurd ha (toP_apart v f hb'.2.2 hzb e1)
  · simp only [List.mem_cons, List.not_mem_nil, or_false] at hza hzb
    exact hza.symm.trans hzb
theorem mv_nodup {p : Plan} {c : Change} (f : Fit p c) {h : House} (hh : h ∈ housesOf p) : (mv p c h).Nodup := by
  obtain ⟨_, _, hm⟩ := mem_houses.1 hh
  unfold mv
  split
  · rename_i e
    rw [e] at hm
    rcases kinds f.kind with k | k | k | k | k | k | k
    · rw [to_turn k]; simp
    · rw [to_swap k]; simp
    · rw [to_count k]; simp
    · rw [to_join k]; simp
    · rw [to_divide k]
      split
      · rename_i e
        have := letter_spec (fits_divide k f.fits).2.2
        rw [← e] at this
        have hne : h.plate ≠ ⟨h.plate.number, letter (rowAt p c.street) h.plate.number⟩ := fun e => this.2.2 (e ▸ hm)
        simpa using hne
      · simp
    · rw [to_fell k]; split <;> simp
    · rw [to_court k]; split <;> simp
  · simp
theorem nodup_flatMap {α β : Type} {f : α → List β} : ∀ {l : List α}, l.Nodup → (∀ a, a ∈ l → (f a).Nodup) → (∀ a b, a ∈ l → b ∈ l → ∀ z, z ∈ f a → z ∈ f b → a = b) → (l.flatMap f).Nodup
  | [], _, _, _ => by simp
  | x :: r, hn, h1, h2 => by
    obtain ⟨hx, hr⟩ := List.nodup_cons.1 hn
    rw [List.flatMap_cons, List.nodup_append]
    refine ⟨h1 x (by simp), nodup_flatMap hr (fun a ha => h1 a (by simp [ha])) (fun a b ha hb => h2 a b (by simp [ha]) (by simp [hb])), fun a ha b hb e => ?_⟩
    subst e
    obtain ⟨y, hy, hay⟩ := List.mem_flatMap.1 hb
    exact hx (h2 x y (by simp) (by simp [hy]) a ha hay ▸ hy)
theorem flatMv_nodup {p : Plan} {c : Change} (v : Valid p) (f : Fit p c) : (flatMv p c).Nodup :=
  nodup_flatMap (strict_houses v).nodup (fun _ ha => mv_nodup f ha) (fun _ _ ha hb _ hza hzb => mv_inj v f ha hb hza hzb)
theorem mem_flatMv {p : Plan} {c : Change} {z : House} : z ∈ flatMv p c ↔ ∃ h, h ∈ housesOf p ∧ z ∈ mv p c h := by simp [flatMv, List.mem_flatMap]
theorem flatMv_in {p : Plan} {c : Change} (v : Valid p) (f : Fit p c) {z : House} (hz : z ∈ flatMv p c) : 0 ≤ z.street ∧ z.street < p.length ∧ z.plate.ok = true := by
  obtain ⟨h, hh, hz⟩ := mem_flatMv.1 hz
  exact mv_in v f hh hz
theorem houses_after {p : Plan} {c : Change} (v : Valid p) (f : Fit p c) : housesOf (afterOf p c) = sortH (flatMv p c) := houses_laid (fun z hz => ⟨(flatMv_in v f hz).1, (flatMv_in v f hz).2.1⟩)
theorem flatMap_len_le {α β : Type} [DecidableEq α] {f : α → List β} (a : α) : ∀ {l : List α}, l.Nodup → (∀ x, x ∈ l → x ≠ a → (f x).length ≤ 1) → (a ∈ l → (f a).length ≤ 2) → (l.flatMap f).length ≤ l.length + 1 ∧ (a ∉ l → (l.flatMap f).length ≤ l.length)
  | [], _, _, _ => by simp
  | x :: r, hn, h1, h2 => by
    obtain ⟨hx, hr⟩ := List.nodup_cons.1 hn
    obtain ⟨i1, i2⟩ := flatMap_len_le a (l := r) hr (fun y hy => h1 y (by simp [hy])) (fun ha => h2 (by simp [ha]))
    simp only [List.flatMap_cons, List.length_append, List.length_cons]
    by_cases e : x = a
    · subst e
      have := h2 (by simp); have := i2 hx
      exact ⟨by omega, fun hn => absurd (by simp) hn⟩
    · have := h1 x (by simp) e
      refine ⟨by omega, fun hn => ?_⟩
      have := i2 (fun h => hn (by simp [h]))
      omega
theorem after_row_len {p : Plan} {c : Change} (v : Valid p) (f : Fit p c) {s : Int} (h0 : 0 ≤ s) (h1 : s < p.length) : (rowAt (afterOf p c) s).length ≤ 8 := by
  have hlen : ∀ s, (rowAt p s).length ≤ 8 := fun s => (v.row s).len
  have hnd : (rowAt (afterOf p c) s).Nodup := (sorted_laid_row (l := flatMv p c) (n := p.length) h0 h1).imp (fun {a b} hab e => by subst e; exact Plate.lt_irrefl _ hab)
  have hmem : ∀ x, x ∈ rowAt (afterOf p c) s → (s ≠ c.street ∧ x ∈ rowAt p s) ∨ ∃ y, y ∈ rowAt p c.street ∧ (⟨s, x⟩ : House) ∈ toP p c y := fun x hx => by
    rw [afterOf, mem_laid_row h0 h1, mem_flatMv] at hx
    obtain ⟨h, hh, hz⟩ := hx
    obtain ⟨_, _, hm⟩ := mem_houses.1 hh
    unfold mv at hz
    split at hz
    · rename_i e; rw [e] at hm; exact .inr ⟨_, hm, hz⟩
    · rename_i e
      simp only [List.mem_cons, List.not_mem_nil, or_false] at hz
      subst hz
      exact .inl ⟨e, hm⟩
  have one : ∀ {x : Plate}, c.kind ≠ 5 → x ∈ rowAt p c.street → (toP p c x).length ≤ 1 := fun {x} hk hx => by
    rcases kinds f.kind with k | k | k | k | k | k | k
    · rw [to_turn k]; simp
    · rw [to_swap k]; simp
    · rw [to_count k]; simp
    · rw [to_join k]; simp
    · exact absurd k hk
    · rw [to_fell k]; split <;> simp
    · rw [to_court k]; split <;> simp
  have total : ((rowAt p c.street).flatMap (toP p c)).length ≤ 8 ∧ (c.kind ≠ 5 → ((rowAt p c.street).flatMap (toP p c)).length ≤ (rowAt p c.street).length) := by
    by_cases hk : c.kind = 5
    · have hf := fits_divide hk f.fits
      have := (flatMap_len_le (f := toP p c) c.src (v.row c.street).nodup (fun x hx hne => by rw [to_divide hk, if_neg hne]; simp) (fun _ => by rw [to_divide hk]; simp)).1
      have := hlen c.street
      exact ⟨by omega, fun h => absurd hk h⟩
    · have key : ∀ l : List Plate, (∀ x, x ∈ l → x ∈ rowAt p c.street) → (l.flatMap (toP p c)).length ≤ l.length := by
        intro l
        induction l with
        | nil => simp
        | cons y r ih =>
          intro hl
          have h1 := one hk (hl y (by simp))
          have h2 := ih (fun x hx => hl x (by simp [hx]))
          simp only [List.flatMap_cons, List.length_append, List.length_cons]; omega
      have := key _ (fun _ h => h)
      have := hlen c.street
      exact ⟨by omega, fun _ => by omega⟩
  by_cases hs : s = c.street
  · refine Nat.le_trans ?_ total.1
    rw [show ((rowAt p c.street).flatMap (toP p c)).length = (((rowAt p c.street).flatMap (toP p c)).map House.plate).length by rw [List.length_map]]
    refine nodup_len hnd (fun x hx => ?_)
    rcases hmem x hx with ⟨h, _⟩ | ⟨y, hy, hz⟩
    · exact absurd hs h
    · exact List.mem_map.2 ⟨_, List.mem_flatMap.2 ⟨y, hy, hz⟩, rfl⟩
  · by_cases hk : (c.kind = 4 ∨ c.kind = 7) ∧ s = c.other
    · obtain ⟨hk, rfl⟩ := hk
      have hb : (rowAt p c.other).length + (rowAt p c.street).length ≤ 8 := by
        rcases hk with k | k
        · have := (fits_join k f.fits).1; omega
        · rw [(fits_court k f.fits).2.2.2]; have := hlen c.street; simpa using this
      have := total.2 (by omega)
      refine Nat.le_trans ?_ (show (rowAt p c.other ++ ((rowAt p c.street).flatMap (toP p c)).map House.plate).length ≤ 8 by simp only [List.length_append, List.length_map]; omega)
      refine nodup_len hnd (fun x hx => ?_)
      rcases hmem x hx with ⟨_, h⟩ | ⟨y, hy, hz⟩
      · exact List.mem_append.2 (.inl h)
      · exact List.mem_append.2 (.inr (List.mem_map.2 ⟨_, List.mem_flatMap.2 ⟨y, hy, hz⟩, rfl⟩))
    · refine Nat.le_trans ?_ (hlen s)
      refine nodup_len hnd (fun x hx => ?_)
      rcases hmem x hx with ⟨_, h⟩ | ⟨y, hy, hz⟩
      · exact h
      · rcases (toP_in v f hy hz).1 with h | h
        · exact absurd h hs
        · exact absurd h hk
theorem valid_after {p : Plan} {c : Change} (v : Valid p) (f : Fit p c) : Valid (afterOf p c) := by
  have hl : (afterOf p c).length = p.length := laid_length _ _
  refine ⟨by rw [hl]; exact v.ne, by rw [hl]; exact v.len, fun l hm => ?_⟩
  obtain ⟨s, h0, h1, rfl⟩ := mem_rowAt hm
  rw [hl] at h1
  refine ⟨after_row_len v f h0 h1, fun x hx => ?_, sorted_laid_row h0 h1⟩
  exact (flatMv_in v f ((mem_laid_row h0 h1).1 hx)).2.2
end Go.Abs

namespace Go.Abs
open Go
attribute [go_sem] bne_eq_false_iff_eq Bool.not_eq_true' Bool.not_eq_false'
@[go_sem] theorem natCast_pos' (n : Nat) : ((0 : Int) < (n : Int)) = (0 < n) := by simp
@[go_sem] theorem natCast_le0 (n : Nat) : ((n : Int) ≤ 0) = (n ≤ 0) := by simp
@[go_sem] theorem plate_beq (a b : Plate) : (a.number == b.number && a.letter == b.letter) = decide (a = b) := by
  rw [Bool.eq_iff_iff]; simp [Plate.eq_iff]
@[go_sem] theorem house_beq (a b : House) : (a.street == b.street && a.plate.number == b.plate.number && a.plate.letter == b.plate.letter) = decide (a = b) := by
  rw [Bool.eq_iff_iff]; simp [House.eq_iff, and_assoc]
theorem Change.eq_iff (a b : Change) : a = b ↔ a.kind = b.kind ∧ a.street = b.street ∧ a.other = b.other ∧ a.src = b.src ∧ a.dst = b.dst := by cases a; cases b; simp
@[go_sem] theorem change_beq (a b : Change) : (a.kind == b.kind && a.street == b.street && a.other == b.other && a.src.number == b.src.number && a.src.letter == b.src.letter && a.dst.number == b.dst.number && a.dst.letter == b.dst.letter) = decide (a = b) := by
  rw [Bool.eq_iff_iff]; simp [Change.eq_iff, Plate.eq_iff, and_assoc]
theorem call_s {P : Program} {f : FuncId} {avs : List AV} {H : Nat → AObj} {nx : Nat} {K : Cont} {r : AV} (sp : Spec P f avs [] r []) (h : XpL H [] [] avs avs) (hk : K (r.ren (backId [] nx)) [] []) : callA P f avs H nx K :=
  call_of [] [] sp (by simp) h trivial (by simp) (.inl rfl) (fun j hj => by simp at hj) (fun A hA => by simp at hA) hk
theorem call_x (ex : List Nat) {P : Program} {f : FuncId} {avs : List AV} {H : Nat → AObj} {nx : Nat} {K : Cont} {args : List AV} {r : AV} (sp : Spec P f args [] r []) (h : XpL H [] ex args avs) (hs : Scal r) (hk : K (r.ren (backId [] nx)) ex []) : callA P f avs H nx K :=
  call_of [] ex sp (by simp) h trivial (by simp) (.inr ⟨hs, fun A hA => by simp at hA⟩) (fun j hj => by simp at hj) (fun A hA => by simp at hA) (by simpa [newIds, backObjs, numO] using hk)
theorem bool_eq {a b : Bool} (h : a = true ↔ b = true) : Value.bool a = Value.bool b := by rw [Bool.eq_iff_iff.2 h]
theorem int_eq {k : IntKind} {a b : Int} (h : a = b) : Value.int k a = Value.int k b := by rw [h]
end Go.Abs

namespace Go.Abs
open Go Go.Proofs
set_option maxRecDepth 10000
theorem sp_between (n a b : Int) : Spec Tryz.prog 128 [iV n, iV a, iV b] [] (bV (betw n a b)) [] := by
  refine spec_body Tryz.func128 rfl (fun E hE => ?_); simp only [go_sem, Tryz.ntmps128]
  repeat' (first | (with_reducible (show runOps ..); first | (refine Qr rfl ?_; try intro K' hK; try simp only [go_sem, *]) | (refine Qi rfl rfl rfl rfl (fun hb K' hK => ?_) (fun hb => ?_) <;> (have hc := hb; try simp only [go_sem] at hc; simp only [go_sem, *]))) | (with_reducible (show Hold ..); first | refine Qh rfl ?_ | (refine s_cond rfl ⟨_, rfl, fun hb => ?_, fun hb => ?_⟩ <;> (have hc := hb; try simp only [go_sem] at hc)) | refine s_ret rfl ?_) | ((with_reducible refine Qb ?_ ?_); focus kernel_rfl) | ((with_reducible refine And.intro ?_ ?_); focus omega) | (refine contA_of hK ?_; clear hK K'; simp only [go_sem, *]) | (simp only [thenA, inBlockA, go_sem, *]))
  all_goals (refine ⟨[_], [], [], ⟨rfl, trivial⟩, ?_⟩; simp only [go_sem, *])
  all_goals (refine bool_eq ?_; simp [betw] at *; omega)
theorem sp_within (n a b : Int) : Spec Tryz.prog 114 [iV n, iV a, iV b] [] (bV (betw n a b)) [] := by
  refine spec_body Tryz.func114 rfl (fun E hE => ?_); simp only [go_sem, Tryz.ntmps114]
  repeat' (first | (with_reducible (show runOps ..); first | (refine Qr rfl ?_; try intro K' hK; try simp only [go_sem, *]) | (refine Qi rfl rfl rfl rfl (fun hb K' hK => ?_) (fun hb => ?_) <;> (have hc := hb; try simp only [go_sem] at hc; simp only [go_sem, *]))) | (with_reducible (show Hold ..); first | refine Qh rfl ?_ | (refine s_cond rfl ⟨_, rfl, fun hb => ?_, fun hb => ?_⟩ <;> (have hc := hb; try simp only [go_sem] at hc)) | refine s_ret rfl ?_) | ((with_reducible refine Qb ?_ ?_); focus kernel_rfl) | ((with_reducible refine And.intro ?_ ?_); focus omega) | (refine contA_of hK ?_; clear hK K'; simp only [go_sem, *]) | (simp only [thenA, inBlockA, go_sem, *]))
  all_goals (refine ⟨[_], [], [], ⟨rfl, trivial⟩, ?_⟩; simp only [go_sem, *])
  all_goals (refine bool_eq ?_; simp [betw] at *; omega)
theorem sp_validPlate (x : Plate) : Spec Tryz.prog 92 [x.enc] [] (bV x.ok) [] := by
  refine spec_body Tryz.func92 rfl (fun E hE => ?_); simp only [go_sem, Tryz.ntmps92]
  repeat' (first | (with_reducible (show runOps ..); first | (refine Qr rfl ?_; try intro K' hK; try simp only [go_sem, *]) | (refine Qi rfl rfl rfl rfl (fun hb K' hK => ?_) (fun hb => ?_) <;> (have hc := hb; try simp only [go_sem] at hc; simp only [go_sem, *]))) | (with_reducible (show Hold ..); first | refine Qh rfl ?_ | (refine s_cond rfl ⟨_, rfl, fun hb => ?_, fun hb => ?_⟩ <;> (have hc := hb; try simp only [go_sem] at hc)) | refine s_ret rfl ?_) | (with_reducible (show callA ..); first | (refine call_s (sp_between _ _ _) ?_ ?_; (focus (simp only [go_sem, *]; done)); simp only [go_sem, *])) | ((with_reducible refine Qb ?_ ?_); focus kernel_rfl) | ((with_reducible refine And.intro ?_ ?_); focus omega) | (refine contA_of hK ?_; clear hK K'; simp only [go_sem, *]) | (simp only [thenA, inBlockA, go_sem, *]))
  all_goals (refine ⟨[_], [], [], ⟨rfl, trivial⟩, ?_⟩; simp only [go_sem, *])
  all_goals simp_all [Plate.ok]
theorem sp_Plated (x : Plate) : Spec Tryz.prog 59 [x.enc] [] (bV x.ok) [] := by
  refine spec_body Tryz.func59 rfl (fun E hE => ?_); simp only [go_sem, Tryz.ntmps59]
  repeat' (first | (with_reducible (show runOps ..); first | (refine Qr rfl ?_; try intro K' hK; try simp only [go_sem, *]) | (refine Qi rfl rfl rfl rfl (fun hb K' hK => ?_) (fun hb => ?_) <;> (have hc := hb; try simp only [go_sem] at hc; simp only [go_sem, *]))) | (with_reducible (show Hold ..); first | refine Qh rfl ?_ | (refine s_cond rfl ⟨_, rfl, fun hb => ?_, fun hb => ?_⟩ <;> (have hc := hb; try simp only [go_sem] at hc)) | refine s_ret rfl ?_) | (with_reducible (show callA ..); first | (refine call_s (sp_within _ _ _) ?_ ?_; (focus (simp only [go_sem, *]; done)); simp only [go_sem, *])) | ((with_reducible refine Qb ?_ ?_); focus kernel_rfl) | ((with_reducible refine And.intro ?_ ?_); focus omega) | (refine contA_of hK ?_; clear hK K'; simp only [go_sem, *]) | (simp only [thenA, inBlockA, go_sem, *]))
  all_goals (refine ⟨[_], [], [], ⟨rfl, trivial⟩, ?_⟩; simp only [go_sem, *])
  all_goals simp_all [Plate.ok]
theorem sp_isNaN (n : Int) : Spec Tryz.prog 155 [iV n] [] (bV false) [] := by
  refine spec_body Tryz.func155 rfl (fun E hE => ?_); simp only [go_sem, Tryz.ntmps155]
  repeat' (first | (with_reducible (show runOps ..); first | (refine Qr rfl ?_; try intro K' hK; try simp only [go_sem, *])) | (with_reducible (show Hold ..); first | refine Qh rfl ?_ | (refine s_cond rfl ⟨_, rfl, fun hb => ?_, fun hb => ?_⟩ <;> (have hc := hb; try simp only [go_sem] at hc)) | refine s_ret rfl ?_) | ((with_reducible refine Qb ?_ ?_); focus kernel_rfl) | ((with_reducible refine And.intro ?_ ?_); focus omega) | (refine contA_of hK ?_; clear hK K'; simp only [go_sem, *]) | (simp only [thenA, inBlockA, go_sem, *]))
  all_goals (refine ⟨[_], [], [], ⟨rfl, trivial⟩, ?_⟩; simp only [go_sem, *])
  all_goals simp_all
theorem sp_Compare (a b : Int) : Spec Tryz.prog 130 [iV a, iV b] [] (iV (cmpN a b)) [] := by
  refine spec_body Tryz.func130 rfl (fun E hE => ?_); simp only [go_sem, Tryz.ntmps130]
  repeat' (first | (with_reducible (show runOps ..); first | (refine Qr rfl ?_; try intro K' hK; try simp only [go_sem, *])) | (with_reducible (show Hold ..); first | refine Qh rfl ?_ | (refine s_cond rfl ⟨_, rfl, fun hb => ?_, fun hb => ?_⟩ <;> (have hc := hb; try simp only [go_sem] at hc)) | refine s_ret rfl ?_) | (with_reducible (show callA ..); first | (refine call_s (sp_isNaN _) ?_ ?_; (focus (simp only [go_sem, *]; done)); simp only [go_sem, *])) | ((with_reducible refine Qb ?_ ?_); focus kernel_rfl) | ((with_reducible refine And.intro ?_ ?_); focus omega) | (refine contA_of hK ?_; clear hK K'; simp only [go_sem, *]) | (simp only [thenA, inBlockA, go_sem, *]))
  all_goals (refine ⟨[_], [], [], ⟨rfl, trivial⟩, ?_⟩; simp only [go_sem, *])
  all_goals (refine int_eq ?_; unfold cmpN; repeat' split)
  all_goals omega
theorem sp_Before (a b : Plate) : Spec Tryz.prog 94 [a.enc, b.enc] [] (bV (a.lt b)) [] := by
  refine spec_body Tryz.func94 rfl (fun E hE => ?_); simp only [go_sem, Tryz.ntmps94]
  repeat' (first | (with_reducible (show runOps ..); first | (refine Qr rfl ?_; try intro K' hK; try simp only [go_sem, *]) | (refine Qi rfl rfl rfl rfl (fun hb K' hK => ?_) (fun hb => ?_) <;> (have hc := hb; try simp only [go_sem] at hc; simp only [go_sem, *]))) | (with_reducible (show Hold ..); first | refine Qh rfl ?_ | (refine s_cond rfl ⟨_, rfl, fun hb => ?_, fun hb => ?_⟩ <;> (have hc := hb; try simp only [go_sem] at hc)) | refine s_ret rfl ?_) | ((with_reducible refine Qb ?_ ?_); focus kernel_rfl) | ((with_reducible refine And.intro ?_ ?_); focus omega) | (refine contA_of hK ?_; clear hK K'; simp only [go_sem, *]) | (simp only [thenA, inBlockA, go_sem, *]))
  all_goals (refine ⟨[_], [], [], ⟨rfl, trivial⟩, ?_⟩; simp only [go_sem, *])
  all_goals (refine bool_eq ?_; rw [Plate.lt_iff]; simp at *; omega)
theorem sp_before (a b : Plate) : Spec Tryz.prog 87 [a.enc, b.enc] [] (bV (a.lt b)) [] := by
  refine spec_body Tryz.func87 rfl (fun E hE => ?_); simp only [go_sem, Tryz.ntmps87]
  repeat' (first | (with_reducible (show runOps ..); first | (refine Qr rfl ?_; try intro K' hK; try simp only [go_sem, *]) | (refine Qi rfl rfl rfl rfl (fun hb K' hK => ?_) (fun hb => ?_) <;> (have hc := hb; try simp only [go_sem] at hc; simp only [go_sem, *]))) | (with_reducible (show Hold ..); first | refine Qh rfl ?_ | (refine s_cond rfl ⟨_, rfl, fun hb => ?_, fun hb => ?_⟩ <;> (have hc := hb; try simp only [go_sem] at hc)) | refine s_ret rfl ?_) | ((with_reducible refine Qb ?_ ?_); focus kernel_rfl) | ((with_reducible refine And.intro ?_ ?_); focus omega) | (refine contA_of hK ?_; clear hK K'; simp only [go_sem, *]) | (simp only [thenA, inBlockA, go_sem, *]))
  all_goals (refine ⟨[_], [], [], ⟨rfl, trivial⟩, ?_⟩; simp only [go_sem, *])
  all_goals (refine bool_eq ?_; rw [Plate.lt_iff]; simp at *; omega)
theorem sp_Ahead (a b : House) : Spec Tryz.prog 50 [a.enc, b.enc] [] (bV (a.lt b)) [] := by
  obtain ⟨a1, a2, a3⟩ := a
  obtain ⟨b1, b2, b3⟩ := b
  refine spec_body Tryz.func50 rfl (fun E hE => ?_); simp only [go_sem, Tryz.ntmps50]
  repeat' (first | (with_reducible (show runOps ..); first | (refine Qr rfl ?_; try intro K' hK; try simp only [go_sem, *]) | (refine Qi rfl rfl rfl rfl (fun hb K' hK => ?_) (fun hb => ?_) <;> (have hc := hb; try simp only [go_sem] at hc; simp only [go_sem, *]))) | (with_reducible (show Hold ..); first | refine Qh rfl ?_ | (refine s_cond rfl ⟨_, rfl, fun hb => ?_, fun hb => ?_⟩ <;> (have hc := hb; try simp only [go_sem] at hc)) | refine s_ret rfl ?_) | (with_reducible (show callA ..); first | (refine call_s (sp_Before ⟨_, _⟩ ⟨_, _⟩) ?_ ?_; (focus (simp only [go_sem, *]; done)); simp only [go_sem, *])) | ((with_reducible refine Qb ?_ ?_); focus kernel_rfl) | ((with_reducible refine And.intro ?_ ?_); focus omega) | (refine contA_of hK ?_; clear hK K'; simp only [go_sem, *]) | (simp only [thenA, inBlockA, go_sem, *]))
  all_goals (refine ⟨[_], [], [], ⟨rfl, trivial⟩, ?_⟩; simp only [go_sem, *])
  all_goals (refine bool_eq ?_; simp only [House.lt_iff, Plate.lt_iff]; simp at *; try omega)
theorem sp_odd (a : Plate) : Spec Tryz.prog 195 [a.enc] [] (bV (a.number.tmod 2 != 0)) [] := by
  refine spec_body Tryz.func195 rfl (fun E hE => ?_); simp only [go_sem, Tryz.ntmps195]
  repeat' (first | (with_reducible (show runOps ..); first | (refine Qr rfl ?_; try intro K' hK; try simp only [go_sem, *])) | (with_reducible (show Hold ..); first | refine Qh rfl ?_ | (refine s_cond rfl ⟨_, rfl, fun hb => ?_, fun hb => ?_⟩ <;> (have hc := hb; try simp only [go_sem] at hc)) | refine s_ret rfl ?_) | ((with_reducible refine Qb ?_ ?_); focus kernel_rfl) | ((with_reducible refine And.intro ?_ ?_); focus omega) | (refine contA_of hK ?_; clear hK K'; simp only [go_sem, *]) | (simp only [thenA, inBlockA, go_sem, *]))
  all_goals (refine ⟨[_], [], [], ⟨rfl, trivial⟩, ?_⟩; simp only [go_sem, *])
theorem sp_even (a : Plate) : Spec Tryz.prog 196 [a.enc] [] (bV (a.number.tmod 2 == 0)) [] := by
  refine spec_body Tryz.func196 rfl (fun E hE => ?_); simp only [go_sem, Tryz.ntmps196]
  repeat' (first | (with_reducible (show runOps ..); first | (refine Qr rfl ?_; try intro K' hK; try simp only [go_sem, *])) | (with_reducible (show Hold ..); first | refine Qh rfl ?_ | (refine s_cond rfl ⟨_, rfl, fun hb => ?_, fun hb => ?_⟩ <;> (have hc := hb; try simp only [go_sem] at hc)) | refine s_ret rfl ?_) | ((with_reducible refine Qb ?_ ?_); focus kernel_rfl) | ((with_reducible refine And.intro ?_ ?_); focus omega) | (refine contA_of hK ?_; clear hK K'; simp only [go_sem, *]) | (simp only [thenA, inBlockA, go_sem, *]))
  all_goals (refine ⟨[_], [], [], ⟨rfl, trivial⟩, ?_⟩; simp only [go_sem, *])
def orL : List Int → Int
  | [] => 0
  | x :: r => if x = 0 then orL r else x
theorem sp_Or (l : List Int) (hl : l.length ≤ 4294967296) : Spec Tryz.prog 129 [.list (l.map iV)] [] (iV (orL l)) [] := by
  refine spec_body Tryz.func129 rfl (fun E hE => ?_); simp only [go_sem, Tryz.ntmps129]
  repeat' (first | (with_reducible (show runOps ..); first | (refine Qr rfl ?_; try intro K' hK; try simp only [go_sem, *])) | (with_reducible (show Hold ..); first | refine Qh rfl ?_ | (refine s_cond rfl ⟨_, rfl, fun hb => ?_, fun hb => ?_⟩ <;> (have hc := hb; try simp only [go_sem] at hc)) | refine s_ret rfl ?_) | ((with_reducible refine Qb ?_ ?_); focus kernel_rfl) | ((with_reducible refine And.intro ?_ ?_); focus omega) | (refine contA_of hK ?_; clear hK K'; simp only [go_sem, *]) | (simp only [thenA, inBlockA, go_sem, *]))
  refine s_loop rfl (fun n N env As => ∃ i : Nat, n = l.length - i ∧ i ≤ l.length ∧ orL (l.drop i) = orL l ∧ N = 18 ∧ env = [(8, iV i), (7, iV l.length), (6, .list (l.map iV)), (3, iV 0)] ∧ As = []) l.length ⟨[], [], _, _, _, ?_, 0, by simp, by simp, by simp, rfl, rfl, rfl⟩ ?_
  · (simp only [Weak, go_sem, List.map_append, List.map_set, *] <;> (try simp (disch := omega) only [wrap_succ]) <;> (try simp) <;> (try omega))
  rintro _ _ _ _ ⟨i, rfl, hi, ho, rfl, rfl, rfl⟩
  repeat' (first | (with_reducible (show runOps ..); first | (refine Qr rfl ?_; try intro K' hK; try simp only [go_sem, *])) | (with_reducible (show Hold ..); first | refine Qh rfl ?_ | (refine s_cond rfl ⟨_, rfl, fun hb => ?_, fun hb => ?_⟩ <;> (have hc := hb; try simp only [go_sem] at hc)) | refine s_ret rfl ?_) | ((with_reducible refine Qb ?_ ?_); focus kernel_rfl) | ((with_reducible refine And.intro ?_ ?_); focus omega) | (refine contA_of hK ?_; clear hK K'; simp only [go_sem, *]) | (simp only [thenA, inBlockA, go_sem, *]))
  · (refine ⟨[_], [], [], ⟨rfl, trivial⟩, ?_⟩; simp only [go_sem, *])
    rw [← ho, drop_cons ‹_›, orL, if_neg ‹_›]
  · refine ⟨_, ?_, [], [], _, _, _, ?_, i + 1, rfl, ?_, ?_, rfl, rfl, rfl⟩
    · omega
    · (simp only [Weak, go_sem, List.map_append, List.map_set, *] <;> (try simp (disch := omega) only [wrap_succ]) <;> (try simp) <;> (try omega))
    · omega
    · rw [← ho, drop_cons (i := i) ‹_›, orL, if_pos ‹_›]
  · (refine ⟨[_], [], [], ⟨rfl, trivial⟩, ?_⟩; simp only [go_sem, *])
    rw [← ho, drop_end (by omega), orL]
theorem orL_two (a b : Int) : orL [a, b] = orI a b := by
  simp only [orL, orI]; repeat' split
  all_goals omega
theorem sp_comparePlates (a b : Plate) : Spec Tryz.prog 93 [a.enc, b.enc] [] (iV (cmpP a b)) [] := by
  refine spec_body Tryz.func93 rfl (fun E hE => ?_); simp only [go_sem, Tryz.ntmps93]
  repeat' (first | (with_reducible (show runOps ..); first | (refine Qr rfl ?_; try intro K' hK; try simp only [go_sem, *])) | (with_reducible (show Hold ..); first | refine Qh rfl ?_ | refine s_draw rfl Tryz.mixed (by kernel_rfl) ?_ | (refine s_cond rfl ⟨_, rfl, fun hb => ?_, fun hb => ?_⟩ <;> (have hc := hb; try simp only [go_sem] at hc)) | refine s_ret rfl ?_) | (with_reducible (show callA ..); first | (refine call_s (sp_Compare _ _) ?_ ?_; (focus (simp only [go_sem, *]; done)); simp only [go_sem, *])) | ((with_reducible refine Qb ?_ ?_); focus kernel_rfl) | ((with_reducible refine And.intro ?_ ?_); focus omega) | (refine contA_of hK ?_; clear hK K'; simp only [go_sem, *]) | (simp only [thenA, inBlockA, go_sem, *]))
  (refine call_x [2] (sp_Or [cmpN a.number b.number, cmpN a.letter b.letter] (by simp)) (by simp only [go_sem, *]) (by first | exact .raw _) ?_; simp only [go_sem, *])
  repeat' (first | (with_reducible (show runOps ..); first | (refine Qr rfl ?_; try intro K' hK; try simp only [go_sem, *])) | (with_reducible (show Hold ..); first | refine Qh rfl ?_ | refine s_draw rfl Tryz.mixed (by kernel_rfl) ?_ | (refine s_cond rfl ⟨_, rfl, fun hb => ?_, fun hb => ?_⟩ <;> (have hc := hb; try simp only [go_sem] at hc)) | refine s_ret rfl ?_) | ((with_reducible refine Qb ?_ ?_); focus kernel_rfl) | ((with_reducible refine And.intro ?_ ?_); focus omega) | (refine contA_of hK ?_; clear hK K'; simp only [go_sem, *]) | (simp only [thenA, inBlockA, go_sem, *]))
  (refine ⟨[_], [], [], ⟨rfl, trivial⟩, ?_⟩; simp only [go_sem, *])
  rw [orL_two, cmpP]
theorem sp_comparePlaces (a b : House) : Spec Tryz.prog 136 [a.enc, b.enc] [] (iV (cmpH a b)) [] := by
  refine spec_body Tryz.func136 rfl (fun E hE => ?_); simp only [go_sem, Tryz.ntmps136]
  repeat' (first | (with_reducible (show runOps ..); first | (refine Qr rfl ?_; try intro K' hK; try simp only [go_sem, *])) | (with_reducible (show Hold ..); first | refine Qh rfl ?_ | refine s_draw rfl Tryz.mixed (by kernel_rfl) ?_ | (refine s_cond rfl ⟨_, rfl, fun hb => ?_, fun hb => ?_⟩ <;> (have hc := hb; try simp only [go_sem] at hc)) | refine s_ret rfl ?_) | (with_reducible (show callA ..); first | ((first | refine call_s (sp_Compare _ _) ?_ ?_ | refine call_s (sp_comparePlates a.plate b.plate) ?_ ?_); (focus (simp only [go_sem, *]; done)); simp only [go_sem, *])) | ((with_reducible refine Qb ?_ ?_); focus kernel_rfl) | ((with_reducible refine And.intro ?_ ?_); focus omega) | (refine contA_of hK ?_; clear hK K'; simp only [go_sem, *]) | (simp only [thenA, inBlockA, go_sem, *]))
  (refine call_x [2] (sp_Or [cmpN a.street b.street, cmpP a.plate b.plate] (by simp)) (by simp only [go_sem, *]) (by first | exact .raw _) ?_; simp only [go_sem, *])
  repeat' (first | (with_reducible (show runOps ..); first | (refine Qr rfl ?_; try intro K' hK; try simp only [go_sem, *])) | (with_reducible (show Hold ..); first | refine Qh rfl ?_ | refine s_draw rfl Tryz.mixed (by kernel_rfl) ?_ | (refine s_cond rfl ⟨_, rfl, fun hb => ?_, fun hb => ?_⟩ <;> (have hc := hb; try simp only [go_sem] at hc)) | refine s_ret rfl ?_) | ((with_reducible refine Qb ?_ ?_); focus kernel_rfl) | ((with_reducible refine And.intro ?_ ?_); focus omega) | (refine contA_of hK ?_; clear hK K'; simp only [go_sem, *]) | (simp only [thenA, inBlockA, go_sem, *]))
  (refine ⟨[_], [], [], ⟨rfl, trivial⟩, ?_⟩; simp only [go_sem, *])
  rw [orL_two, cmpH]
theorem mod_eq (n m : Int) (h : 0 < m) : n % m = if n.tmod m < 0 then n.tmod m + m else n.tmod m := by
  have h1 := Int.tmod_add_mul_tdiv n m
  have h2 := Int.tmod_lt_of_pos n h
  have h3 := Int.lt_tmod_of_pos n h
  have e : n % m = n.tmod m % m := by
    conv => lhs; rw [← h1]
    rw [Int.add_mul_emod_self_left]
  rw [e]
  split
  · rw [← Int.emod_eq_of_lt (a := n.tmod m + m) (b := m) (by omega) (by omega), Int.add_emod_right]
  · exact Int.emod_eq_of_lt (by omega) h2
theorem sp_Mod (n m : Int) (h : 0 < m) (hm : m ≤ 4294967296) : Spec Tryz.prog 65 [iV n, iV m] [] (iV (n % m)) [] := by
  have h2 := Int.tmod_lt_of_pos n h
  have h3 := Int.lt_tmod_of_pos n h
  refine spec_body Tryz.func65 rfl (fun E hE => ?_); simp only [go_sem, Tryz.ntmps65]
  repeat' (first | (with_reducible (show runOps ..); first | (refine Qr rfl ?_; try intro K' hK; try simp only [go_sem, *])) | (with_reducible (show Hold ..); first | refine Qh rfl ?_ | (refine s_cond rfl ⟨_, rfl, fun hb => ?_, fun hb => ?_⟩ <;> (have hc := hb; try simp only [go_sem] at hc)) | refine s_ret rfl ?_) | ((with_reducible refine Qb ?_ ?_); focus kernel_rfl) | ((with_reducible refine And.intro ?_ ?_); focus omega) | (refine contA_of hK ?_; clear hK K'; simp only [go_sem, *]) | (simp only [thenA, inBlockA, go_sem, *]))
  · (refine ⟨[_], [], [], ⟨rfl, trivial⟩, ?_⟩; simp only [go_sem, *])
    rw [mod_eq n m h, if_pos (by assumption), wrap_i64 (by omega) (by omega)]
  · (refine ⟨[_], [], [], ⟨rfl, trivial⟩, ?_⟩; simp only [go_sem, *])
    rw [mod_eq n m h, if_neg (by omega)]
theorem checkRow_step {l : List Plate} {k : Nat} (h : k < l.length) (o : Option Plate) (ho : o = if k = 0 then none else some (l.getD (k - 1) default)) :
    checkRow o (l.drop k) = if (l.getD k default).ok = true then (if k = 0 ∨ (l.getD (k - 1) default).lt (l.getD k default) = true then checkRow (some (l.getD k default)) (l.drop (k + 1)) else 5) else 1 := by
  rw [drop_cons h]
  subst ho
  by_cases hk : k = 0
  · simp [hk, checkRow]
  · simp [hk, checkRow]
def prevP (l : List Plate) (k : Nat) : Option Plate := if k = 0 then none else some (l.getD (k - 1) default)
theorem prevP_succ (l : List Plate) (k : Nat) : prevP l (k + 1) = some (l.getD k default) := by simp [prevP]
theorem rows_step {p : Plan} {i : Nat} (h : i < p.length) : checkRows (p.drop i) = if 8 < (p.getD i default).length then 6 else if checkRow none (p.getD i default) = 0 then checkRows (p.drop (i + 1)) else checkRow none (p.getD i default) := by
  rw [drop_cons h, checkRows]
theorem sp_Check (p : Plan) (h1 : p.length ≤ 4294967296) : Spec Tryz.prog 27 [encPlan p] [] (iV (check p)) [] := by
  have e0 : p.length = 0 → check p = 7 := fun h => by unfold check; rw [if_pos h]
  have e1 : ¬ p.length = 0 → 3 < p.length → check p = 6 := fun h h' => by unfold check; rw [if_neg h, if_pos h']
  have e2 : ¬ p.length = 0 → ¬ 3 < p.length → check p = checkRows p := fun h h' => by unfold check; rw [if_neg h, if_neg h']
  refine spec_body Tryz.func27 rfl (fun E hE => ?_); simp only [go_sem, Tryz.ntmps27]
  repeat' (first | (with_reducible (show runOps ..); first | (refine Qr rfl ?_; try intro K' hK; try simp only [go_sem, *]) | (refine Qi rfl rfl rfl rfl (fun hb K' hK => ?_) (fun hb => ?_) <;> (have hc := hb; try simp only [go_sem] at hc; simp only [go_sem, *]))) | (with_reducible (show Hold ..); first | refine Qh rfl ?_ | refine s_draw rfl Tryz.mixed (by kernel_rfl) ?_ | (refine s_cond rfl ⟨_, rfl, fun hb => ?_, fun hb => ?_⟩ <;> (have hc := hb; try simp only [go_sem] at hc)) | refine s_ret rfl ?_) | ((with_reducible refine Qb ?_ ?_); focus kernel_rfl) | ((with_reducible refine And.intro ?_ ?_); focus omega) | (refine contA_of hK ?_; clear hK K'; simp only [go_sem, *]) | (simp only [thenA, inBlockA, go_sem, *]))
  · (refine ⟨[_], [], [], ⟨rfl, trivial⟩, ?_⟩; simp only [go_sem, *])
    rw [e0 (by omega)]
  · (refine ⟨[_], [], [], ⟨rfl, trivial⟩, ?_⟩; simp only [go_sem, *])
    rw [e1 (by omega) (by omega)]
  · have e3 := e2 (by omega) (by omega)
    clear e0 e1 e2
    refine s_loop rfl (fun zn zN zenv zAs => ∃ (i : Nat), zn = (p.length) - i ∧ i ≤ (p.length) ∧ (checkRows (p.drop i) = checkRows p) ∧ zN = 49 ∧ zenv = [(18, iV i), (17, iV p.length), (16, .list (p.map encStreet))] ∧ zAs = []) (p.length) ⟨[], [], _, _, _, (by (simp only [Weak, go_sem, List.map_append, List.map_set, *] <;> (try simp (disch := omega) only [wrap_succ]) <;> (try simp) <;> (try omega))), 0, (by simp), (by simp), (by simp), rfl, rfl, rfl⟩ ?_; rintro _ _ _ _ ⟨i, rfl, hi, hP, rfl, rfl, rfl⟩
    repeat' (first | (with_reducible (show runOps ..); first | (refine Qr rfl ?_; try intro K' hK; try simp only [go_sem, *]) | (refine Qi rfl rfl rfl rfl (fun hb K' hK => ?_) (fun hb => ?_) <;> (have hc := hb; try simp only [go_sem] at hc; simp only [go_sem, *]))) | (with_reducible (show Hold ..); first | refine Qh rfl ?_ | refine s_draw rfl Tryz.mixed (by kernel_rfl) ?_ | (refine s_cond rfl ⟨_, rfl, fun hb => ?_, fun hb => ?_⟩ <;> (have hc := hb; try simp only [go_sem] at hc)) | refine s_ret rfl ?_) | ((with_reducible refine Qb ?_ ?_); focus kernel_rfl) | ((with_reducible refine And.intro ?_ ?_); focus omega) | (refine contA_of hK ?_; clear hK K'; simp only [go_sem, *]) | (simp only [thenA, inBlockA, go_sem, *]))
    · (refine ⟨[_], [], [], ⟨rfl, trivial⟩, ?_⟩; simp only [go_sem, *])
      rw [← hP, rows_step (by omega), if_pos (by omega)]
    · have hl : (p.getD i default).length ≤ 8 := by omega
      have hi' : i < p.length := by omega
      rw [rows_step hi', if_neg (by omega)] at hP
      generalize hll : p.getD i default = l at *
      refine s_loop rfl (fun zn zN zenv zAs => ∃ (k : Nat), zn = (l.length) - k ∧ k ≤ (l.length) ∧ (checkRow (prevP l k) (l.drop k) = checkRow none l) ∧ zN = 49 ∧ zenv = [(27, iV k), (26, iV l.length), (25, encStreet l), (4, encStreet l), (18, iV i), (17, iV p.length), (16, .list (p.map encStreet))] ∧ zAs = []) (l.length) ⟨[], [], _, _, _, (by (simp only [Weak, go_sem, List.map_append, List.map_set, *] <;> (try simp (disch := omega) only [wrap_succ]) <;> (try simp) <;> (try omega))), 0, (by simp), (by simp), (by simp [prevP]), rfl, rfl, rfl⟩ ?_; rintro _ _ _ _ ⟨k, rfl, hk, hK, rfl, rfl, rfl⟩
      have hw : 0 < k → IntKind.i64.wrap ((k : Int) - 1) = ((k - 1 : Nat) : Int) := fun h => by rw [wrap_i64 (by omega) (by omega)]; omega
      have hk1 : k < l.length → k - 1 < l.length := fun h => by omega
      have hstep : ∀ h : k < l.length, _ := fun h => checkRow_step h (prevP l k) rfl
      repeat' (first | (with_reducible (show runOps ..); first | (refine Qr rfl ?_; try intro K' hK; try simp only [go_sem, *]) | (refine Qi rfl rfl rfl rfl (fun hb K' hK => ?_) (fun hb => ?_) <;> (have hc := hb; try simp only [go_sem] at hc; simp only [go_sem, *]))) | (with_reducible (show Hold ..); first | refine Qh rfl ?_ | refine s_draw rfl Tryz.mixed (by kernel_rfl) ?_ | (refine s_cond rfl ⟨_, rfl, fun hb => ?_, fun hb => ?_⟩ <;> (have hc := hb; try simp only [go_sem] at hc)) | refine s_ret rfl ?_) | (with_reducible (show callA ..); first | ((first | refine call_s (sp_validPlate _) ?_ ?_ | refine call_s (sp_comparePlates _ _) ?_ ?_); (focus (simp only [go_sem, *]; done)); simp only [go_sem, *])) | ((with_reducible refine Qb ?_ ?_); focus kernel_rfl) | ((with_reducible refine And.intro ?_ ?_); focus omega) | (refine contA_of hK ?_; clear hK K'; simp only [go_sem, *]) | (simp only [thenA, inBlockA, go_sem, *]))
      · (refine ⟨[_], [], [], ⟨rfl, trivial⟩, ?_⟩; simp only [go_sem, *])
        rw [hstep (by omega), if_neg (by simp_all)] at hK
        rw [← hK, if_neg (by omega)] at hP
        rw [← hP]
      · (refine ⟨[_], [], [], ⟨rfl, trivial⟩, ?_⟩; simp only [go_sem, *])
        have hlt : ¬ (l.getD (k - 1) default).lt (l.getD k default) = true := by rw [← cmpP_lt]; omega
        rw [hstep (by omega), if_pos (by assumption), if_neg (by intro h; rcases h with h | h; · omega
                                                                 · exact hlt h)] at hK
        rw [← hK, if_neg (by omega)] at hP
        rw [← hP]
      · have hlt : (l.getD (k - 1) default).lt (l.getD k default) = true := by rw [← cmpP_lt]; omega
        refine ⟨_, (by omega), [], [], _, _, _, (by (simp only [Weak, go_sem, List.map_append, List.map_set, *] <;> (try simp (disch := omega) only [wrap_succ]) <;> (try simp) <;> (try omega))), k + 1, rfl, (by omega), (by rw [← hK, hstep (by omega), if_pos (by assumption), if_pos (.inr hlt), prevP_succ]), rfl, rfl, rfl⟩
      · refine ⟨_, (by omega), [], [], _, _, _, (by (simp only [Weak, go_sem, List.map_append, List.map_set, *] <;> (try simp (disch := omega) only [wrap_succ]) <;> (try simp) <;> (try omega))), k + 1, rfl, (by omega), (by rw [← hK, hstep (by omega), if_pos (by assumption), if_pos (.inl (by omega)), prevP_succ]), rfl, rfl, rfl⟩
      · rw [drop_end (by omega)] at hK
        have h0 : checkRow none l = 0 := by rw [← hK]; cases prevP l k <;> rfl
        rw [if_pos h0] at hP
        refine ⟨_, (by omega), [], [], _, _, _, (by (simp only [Weak, go_sem, List.map_append, List.map_set, *] <;> (try simp (disch := omega) only [wrap_succ]) <;> (try simp) <;> (try omega))), i + 1, rfl, (by omega), (by exact hP), rfl, rfl, rfl⟩
    · (refine ⟨[_], [], [], ⟨rfl, trivial⟩, ?_⟩; simp only [go_sem, *])
      rw [← hP, drop_end (by omega), checkRows]
end Go.Abs

namespace Go.Abs
open Go Go.Proofs
set_option maxRecDepth 10000
theorem keyed_place : Maps.Keyed Tryz.prog 57 := Maps.Keyed.of_law (deep_law (m := 4) (by omega) (by kernel_rfl) (by kernel_rfl) (by kernel_rfl))
structure House.Wf (h : House) : Prop where
  s : (Lit.int .i64 h.street).wf = true
  n : (Lit.int .i64 h.plate.number).wf = true
  l : (Lit.int .i64 h.plate.letter).wf = true
@[reducible] def House.key (h : House) : Value := .agg #[.int .i64 h.street, .int .i64 h.plate.number, .int .i64 h.plate.letter]
theorem lits3 (d : Nat) (n : Int) (h : (Lit.int .i64 n).wf = true) : Tryz.prog.keyLits (d + 1) 3 [.int .i64 n] = some [.int .i64 n] := by
  have hu : Tryz.prog.underlying 3 = some (.int .i64) := by kernel_rfl
  unfold Program.keyLits
  rw [hu]; simp [h]
theorem lits26 (d : Nat) (n m : Int) (h : (Lit.int .i64 n).wf = true) (h' : (Lit.int .i64 m).wf = true) : Tryz.prog.keyLits (d + 2) 26 [.int .i64 n, .int .i64 m] = some [.int .i64 n, .int .i64 m] := by
  have hu : Tryz.prog.underlying 26 = some (.struct (Tryz.prog.fieldsOf 26)) := by kernel_rfl
  have hl : (Tryz.prog.fieldsOf 26).toList = [(Tryz.prog.fieldsOf 26).toList.getD 0 default, (Tryz.prog.fieldsOf 26).toList.getD 1 default] := by kernel_rfl
  have t0 : ((Tryz.prog.fieldsOf 26).toList.getD 0 default).type = 3 := by kernel_rfl
  have t1 : ((Tryz.prog.fieldsOf 26).toList.getD 1 default).type = 3 := by kernel_rfl
  have o0 : ((Tryz.prog.fieldsOf 26).toList.getD 0 default).offset = 0 := by kernel_rfl
  have o1 : ((Tryz.prog.fieldsOf 26).toList.getD 1 default).offset = 1 := by kernel_rfl
  have c3 : Tryz.prog.cellsOf 3 = 1 := by kernel_rfl
  have c26 : Tryz.prog.cellsOf 26 = 2 := by kernel_rfl
  have hn : (Tryz.prog.fieldsOf 26).all (·.name != "_") = true := by kernel_rfl
  unfold Program.keyLits
  rw [hu]
  simp only [hn, c26, List.length_cons, List.length_nil, and_self, if_true]
  rw [hl]
  generalize (Tryz.prog.fieldsOf 26).toList.getD 0 default = f0 at *
  generalize (Tryz.prog.fieldsOf 26).toList.getD 1 default = f1 at *
  simp [List.mapM_cons, t0, t1, o0, o1, c3, lits3 d _ h, lits3 d _ h']
theorem lits57 (d : Nat) (a n m : Int) (h0 : (Lit.int .i64 a).wf = true) (h : (Lit.int .i64 n).wf = true) (h' : (Lit.int .i64 m).wf = true) : Tryz.prog.keyLits (d + 3) 57 [.int .i64 a, .int .i64 n, .int .i64 m] = some [.int .i64 a, .int .i64 n, .int .i64 m] := by
  have hu : Tryz.prog.underlying 57 = some (.struct (Tryz.prog.fieldsOf 57)) := by kernel_rfl
  have hl : (Tryz.prog.fieldsOf 57).toList = [(Tryz.prog.fieldsOf 57).toList.getD 0 default, (Tryz.prog.fieldsOf 57).toList.getD 1 default] := by kernel_rfl
  have t0 : ((Tryz.prog.fieldsOf 57).toList.getD 0 default).type = 3 := by kernel_rfl
  have t1 : ((Tryz.prog.fieldsOf 57).toList.getD 1 default).type = 26 := by kernel_rfl
  have o0 : ((Tryz.prog.fieldsOf 57).toList.getD 0 default).offset = 0 := by kernel_rfl
  have o1 : ((Tryz.prog.fieldsOf 57).toList.getD 1 default).offset = 1 := by kernel_rfl
  have c3 : Tryz.prog.cellsOf 3 = 1 := by kernel_rfl
  have c26 : Tryz.prog.cellsOf 26 = 2 := by kernel_rfl
  have c57 : Tryz.prog.cellsOf 57 = 3 := by kernel_rfl
  have hn : (Tryz.prog.fieldsOf 57).all (·.name != "_") = true := by kernel_rfl
  unfold Program.keyLits
  rw [hu]
  simp only [hn, c57, List.length_cons, List.length_nil, and_self, if_true]
  rw [hl]
  generalize (Tryz.prog.fieldsOf 57).toList.getD 0 default = f0 at *
  generalize (Tryz.prog.fieldsOf 57).toList.getD 1 default = f1 at *
  simp [List.mapM_cons, t0, t1, o0, o1, c3, c26, lits3 (d + 1) _ h0, lits26 d _ _ h h']
theorem keyB_place (h : House) (hw : h.Wf) : keyB Tryz.prog 57 h.key := by
  have hu : Tryz.prog.underlying 57 = some (.struct (Tryz.prog.fieldsOf 57)) := by kernel_rfl
  have hk : Tryz.prog.keyType 57 = true := by kernel_rfl
  have hs : ∃ d, Tryz.prog.types.size + 1 = d + 3 := ⟨Tryz.prog.types.size - 2, by kernel_rfl⟩
  have hf : h.key.formed Tryz.prog 57 = true := by
    have : Tryz.prog.cellsOf 57 = 3 := by kernel_rfl
    simp [House.key, Value.formed, hu, this]
  obtain ⟨d, hd⟩ := hs
  unfold keyB keyOf
  rw [hu]
  simp only [hk, hf, Bool.and_self, if_true, hd]
  rw [show h.key.cells.toList = [.int .i64 h.street, .int .i64 h.plate.number, .int .i64 h.plate.letter] from rfl, lits57 d _ _ _ hw.s hw.n hw.l]
  exact ⟨_, rfl⟩
end Go.Abs

namespace Go.Abs
open Go Go.Proofs
set_option maxRecDepth 10000
theorem House.key_inj {a b : House} : a.key = b.key ↔ a = b := by
  rw [House.eq_iff]
  simp [House.key]
theorem idxV_key (h : House) : ∀ hs : List House, idxV h.key (hs.map House.key) = if h ∈ hs then some (hs.idxOf h) else none
  | [] => by simp [idxV]
  | x :: r => by
    have ih := idxV_key h r
    rw [List.map_cons]
    unfold idxV
    by_cases e : x = h
    · subst e; simp
    · have e' : ¬ x.key = h.key := fun k => e (House.key_inj.1 k)
      rw [if_neg e', ih]
      by_cases hm : h ∈ r
      · rw [if_pos hm, if_pos (by simp [hm])]
        have hb : (x == h) = false := by simpa using e
        simp [List.idxOf_cons, hb]
      · rw [if_neg hm, if_neg (by simp only [List.mem_cons, not_or]; exact ⟨fun k => e k.symm, hm⟩)]; rfl
theorem lookA_key {hs : List House} {h : House} (F : House → AV) (z : AV) : lookA (hs.map House.key) (hs.map F) h.key z = if h ∈ hs then F h else z := by
  unfold lookA; rw [idxV_key]
  by_cases hm : h ∈ hs
  · rw [if_pos hm, if_pos hm]
    have hlt := List.idxOf_lt_length_of_mem hm
    simp [hlt, List.getElem_idxOf]
  · rw [if_neg hm, if_neg hm]
theorem putK_old {hs : List House} {h : House} (hm : h ∈ hs) : putK (hs.map House.key) h.key = hs.map House.key := by
  unfold putK; rw [idxV_key, if_pos hm]
theorem putK_new {hs : List House} {h : House} (hm : h ∉ hs) : putK (hs.map House.key) h.key = (hs ++ [h]).map House.key := by
  unfold putK; rw [idxV_key, if_neg hm]; simp
theorem putX_new {hs : List House} {h : House} (xs : List AV) (v : AV) (hm : h ∉ hs) : putX (hs.map House.key) xs h.key v = xs ++ [v] := by
  unfold putX; rw [idxV_key, if_neg hm]
theorem putX_old {hs : List House} {h : House} (hn : hs.Nodup) (F : House → AV) (v : AV) (hm : h ∈ hs) : putX (hs.map House.key) (hs.map F) h.key v = hs.map (fun k => if k = h then v else F k) := by
  unfold putX; rw [idxV_key, if_pos hm]
  apply List.ext_getElem (by simp)
  intro i h1 h2
  simp only [List.getElem_set, List.getElem_map]
  simp at h2
  have hlt := List.idxOf_lt_length_of_mem hm
  have hg : hs[hs.idxOf h] = h := by simp [List.getElem_idxOf]
  by_cases e : hs.idxOf h = i
  · subst e; simp [hg]
  · rw [if_neg e, if_neg]
    intro e2
    apply e
    have : hs[hs.idxOf h] = hs[i] := by rw [hg, e2]
    exact (nodup_inj hn).1 this
theorem moves_type : ∃ et, mapT Tryz.prog 121 = some (57, et) ∧ zeroT Tryz.prog et = some (.slice none 0 0) := by
  have h : ((mapT Tryz.prog 121).map (·.1)) = some 57 := by kernel_rfl
  have h2 : ((mapT Tryz.prog 121).bind fun x => zeroT Tryz.prog x.2) = some (.slice none 0 0) := by kernel_rfl
  cases hm : mapT Tryz.prog 121 with
  | none => rw [hm] at h; cases h
  | some x => rw [hm] at h h2; obtain ⟨k, e⟩ := x; simp at h; subst h; exact ⟨e, rfl, by simpa using h2⟩
theorem keyA_house (h : House) : keyA h.enc = some h.key := by simp [House.enc, keyA, rawsOf, House.key]
theorem upd_house {h : House} {hs : List House} {F : House → AV} {x : AV} {o : Nat} {H : Nat → AObj} {K : Cont} (ho : H o = .mapo (hs.map House.key) (hs.map F)) (hw : ∀ k, k ∈ hs → k.Wf) (hn : hs.Nodup) (hm : h ∈ hs)
    (hp : Pure (frzV H 3 x).1) (hc : (frzV H 3 x).2.contains o = false)
    (hk : K (.tup []) (o :: (frzV H 3 x).2) (deads (frzV H 3 x).2 ++ [(o, .mapo (hs.map House.key) (hs.map fun k => if k = h then (frzV H 3 x).1 else F k))])) : mapUpdateA Tryz.prog 121 (.mp o) h.enc x H K := by
  obtain ⟨et, h1, _⟩ := moves_type
  unfold mapUpdateA
  rw [h1, keyA_house]
  simp only [ho]
  refine ⟨keyed_place, keyB_place h (hw h hm), fun q hq => ?_, hp, hc, ?_⟩
  · obtain ⟨k, hk, rfl⟩ := List.mem_map.1 hq; exact keyB_place k (hw k hk)
  · rw [putK_old hm, putX_old hn F _ hm]; exact hk
theorem new_house {h : House} {hs : List House} {xs : List AV} {x : AV} {o : Nat} {H : Nat → AObj} {K : Cont} (ho : H o = .mapo (hs.map House.key) xs) (hw : ∀ k, k ∈ hs → k.Wf) (hh : h.Wf) (hm : h ∉ hs)
    (hp : Pure (frzV H 3 x).1) (hc : (frzV H 3 x).2.contains o = false)
    (hk : K (.tup []) (o :: (frzV H 3 x).2) (deads (frzV H 3 x).2 ++ [(o, .mapo ((hs ++ [h]).map House.key) (xs ++ [(frzV H 3 x).1]))])) : mapUpdateA Tryz.prog 121 (.mp o) h.enc x H K := by
  obtain ⟨et, h1, _⟩ := moves_type
  unfold mapUpdateA
  rw [h1, keyA_house]
  simp only [ho]
  refine ⟨keyed_place, keyB_place h hh, fun q hq => ?_, hp, hc, ?_⟩
  · obtain ⟨k, hk, rfl⟩ := List.mem_map.1 hq; exact keyB_place k (hw k hk)
  · rw [putK_new hm, putX_new xs _ hm]; exact hk
theorem frz_houses {H : Nat → AObj} {q n : Nat} {hl : List House} {rows : List AV} (h : H q = .row 3 rows) (hr : rows = hl.map House.enc) (hn : n = hl.length) : frzV H 3 (.own q 3 0 n) = (.list (hl.map House.enc), [q]) := by
  subst hr; subst hn
  simp [frzV, h, List.take_of_length_le]
theorem look_fhouse {h : House} {hs : List House} {F : House → AV} {H : Nat → AObj} {K : Cont} (hw : ∀ k, k ∈ hs → k.Wf) (hh : h.Wf)
    (hk : K (if h ∈ hs then F h else .list []) [] []) : lookupA Tryz.prog 121 (.fmap (hs.map House.key) (hs.map F)) h.enc false H K := by
  obtain ⟨et, h1, h2⟩ := moves_type
  unfold lookupA
  rw [h1, keyA_house]
  simp only [h2]
  refine ⟨keyed_place, keyB_place h hh, by simp [Value.cells, Value.oneCell'], fun q hq => ?_, ?_⟩
  · obtain ⟨k, hk, rfl⟩ := List.mem_map.1 hq; exact keyB_place k (hw k hk)
  · rw [lookA_key]; simpa [zAV] using hk
def MapV (g : House → List House) (h : House) : AV := .list ((g h).map House.enc)
@[reducible] def keysP (p : Plan) : List Value := (housesOf p).map House.key
@[reducible] def movesP (p : Plan) (g : House → List House) : List AV := (housesOf p).map (MapV g)
theorem movesP_congr {p : Plan} {g g' : House → List House} (h : ∀ k, k ∈ housesOf p → g k = g' k) : movesP p g = movesP p g' := List.map_congr_left (fun k hk => by simp [MapV, h k hk])
def Upd (p : Plan) (c : Change) (g : House → List House) (done : List Plate) : Prop := ∀ h, h ∈ housesOf p → g h = if h.street = c.street ∧ h.plate ∈ done then mv p c h else [h]
theorem Upd.nil (p : Plan) (c : Change) : Upd p c (fun h => [h]) [] := fun h _ => by simp
theorem Upd.step {p : Plan} {c : Change} {g : House → List House} {done : List Plate} (h : Upd p c g done) (x : Plate) : Upd p c (fun k => if k = ⟨c.street, x⟩ then mv p c ⟨c.street, x⟩ else g k) (done ++ [x]) := fun k hk => by
  simp only
  by_cases e : k = ⟨c.street, x⟩
  · subst e; simp
  · rw [if_neg e, h k hk]
    have : (k.street = c.street ∧ k.plate ∈ done ++ [x]) ↔ (k.street = c.street ∧ k.plate ∈ done) := by
      constructor
      · rintro ⟨h1, h2⟩
        rcases List.mem_append.1 h2 with h2 | h2
        · exact ⟨h1, h2⟩
        · simp at h2; exact absurd (by cases k; simp_all) e
      · rintro ⟨h1, h2⟩; exact ⟨h1, by simp [h2]⟩
    simp only [this]
theorem Upd.fin {p : Plan} {c : Change} {g : House → List House} {done : List Plate} (h : Upd p c g done) (hd : ∀ x, x ∈ rowAt p c.street → x ∉ done → toP p c x = [⟨c.street, x⟩]) : movesP p g = movesP p (mv p c) := movesP_congr fun k hk => by
  rw [h k hk]
  by_cases e : k.street = c.street
  · by_cases hm : k.plate ∈ done
    · rw [if_pos ⟨e, hm⟩]
    · rw [if_neg (fun x => hm x.2)]
      have hr := (mem_houses.1 hk).2.2
      rw [e] at hr
      rw [mv, if_pos e, hd _ hr hm]; cases k; simp_all
  · rw [if_neg (fun x => e x.1), mv, if_neg e]
theorem wf_small {n : Int} (h0 : -9223372036854775808 ≤ n) (h1 : n ≤ 9223372036854775807) : (Lit.int .i64 n).wf = true := by
  simp [Lit.wf, IntKind.min, IntKind.max, IntKind.signed, IntKind.bits]; omega
theorem Valid.wf {p : Plan} (v : Valid p) : ∀ h, h ∈ housesOf p → h.Wf := fun h hh => by
  obtain ⟨h0, h1, h2⟩ := mem_houses.1 hh
  have := (ok_iff _).1 ((v.row h.street).ok _ h2)
  have := v.len
  exact ⟨wf_small (by omega) (by omega), wf_small (by omega) (by omega), wf_small (by omega) (by omega)⟩
theorem Valid.nodup {p : Plan} (v : Valid p) : (housesOf p).Nodup := (strict_houses v).nodup
theorem Valid.count {p : Plan} (v : Valid p) : (housesOf p).length ≤ 24 := by
  have key : ∀ n, n ≤ p.length → ((List.range n).flatMap fun s => (p.getD s default).map fun x => (⟨(s : Nat), x⟩ : House)).length ≤ n * 8 := by
    intro n
    induction n with
    | zero => intro _; simp
    | succ n ih =>
      intro hn
      have := (v.rows _ (getD_mem (l := p) (i := n) (by omega))).len
      have := ih (by omega)
      rw [List.range_succ, List.flatMap_append]
      simp only [List.length_append, List.flatMap_cons, List.flatMap_nil, List.append_nil, List.length_map]
      omega
  rw [housesOf_eq]
  have := key p.length (Nat.le_refl _)
  have := v.len
  omega
end Go.Abs

namespace Go.Abs
open Go Go.Proofs
set_option maxRecDepth 10000
@[go_sem] theorem rowAt_def (p : Plan) (s : Int) : List.getD p s.toNat default = rowAt p s := rfl
theorem call_n {P : Program} {f : FuncId} {avs : List AV} {H : Nat → AObj} {nx : Nat} {K : Cont} {r : AV} {out : List AObj} (sp : Spec P f avs [] r out) (h : XpL H [] [] avs avs) (hu : ∀ j, j < out.length → H (nx + j) = .unb) (h7 : ∀ A, A ∈ out → A ≠ .unb)
    (hk : K (r.ren (backId [] nx)) (newIds [] nx out) (backObjs [] nx out)) : callA P f avs H nx K :=
  call_of [] [] sp (by simp) h trivial (by simp) (.inl rfl) (fun j hj => hu j (by simpa using hj)) h7 (by simpa using hk)
attribute [go_sem] Nat.mul_one List.length_set
@[go_sem] theorem natCast_lt2 (n : Nat) : ((n : Int) < 2) = (n < 2) := by simp; omega
@[go_sem] theorem natCast_0 : ((0 : Nat) : Int) = 0 := rfl
@[go_sem] theorem natCast_1 : ((1 : Nat) : Int) = 1 := rfl
@[go_sem] theorem natCast_2 : ((2 : Nat) : Int) = 2 := rfl
@[go_sem] theorem natCast_3 : ((3 : Nat) : Int) = 3 := rfl
@[go_sem] theorem natCast_4 : ((4 : Nat) : Int) = 4 := rfl
@[go_sem] theorem natCast_5 : ((5 : Nat) : Int) = 5 := rfl
@[go_sem] theorem natCast_6 : ((6 : Nat) : Int) = 6 := rfl
@[go_sem] theorem natCast_7 : ((7 : Nat) : Int) = 7 := rfl
@[go_sem] theorem natCast_8 : ((8 : Nat) : Int) = 8 := rfl
@[go_sem] theorem take_map_len {α β : Type} (f : α → β) (l : List α) : (l.map f).take l.length = l.map f := List.take_of_length_le (by simp)
theorem XpL_map_refl {H : Nat → AObj} {m : List (Option Nat)} {ex : List Nat} {α : Type} {f : α → AV} (hf : ∀ x, XpF H m ex (f x) (f x)) : ∀ l : List α, XpL H m ex (l.map f) (l.map f)
  | [] => by simp [XpL_nil]
  | x :: r => by simp only [List.map_cons, XpL_cons]; exact ⟨hf x, XpL_map_refl hf r⟩
@[go_sem] theorem XpL_streets (H : Nat → AObj) (m : List (Option Nat)) (ex : List Nat) (l : List (List Plate)) : XpL H m ex (l.map encStreet) (l.map encStreet) ↔ True := ⟨fun _ => trivial, fun _ => XpL_map_refl (fun x => by simp only [XpF]) l⟩
@[go_sem] theorem frzV_func (H : Nat → AObj) (n : Nat) (f : Fn) (a b : Array Value) : frzV H (n + 1) (.raw (.func f a b)) = (.raw (.func f a b), []) := rfl
def NoP (_ : Nat) : Prop := True
def updG (p : Plan) (c : Change) (g : House → List House) (x : Plate) : House → List House := fun k => if k = ⟨c.street, x⟩ then mv p c ⟨c.street, x⟩ else g k
theorem Upd.one {p : Plan} {c : Change} {g : House → List House} {done : List Plate} (h : Upd p c g done) (x : Plate) : Upd p c (updG p c g x) (done ++ [x]) := h.step x
theorem mv_to (p : Plan) (c : Change) (x : Plate) : mv p c ⟨c.street, x⟩ = toP p c x := by simp [mv]
theorem house_in {p : Plan} {c : Change} (hs0 : 0 ≤ c.street) (hs1 : c.street < p.length) {x : Plate} (hx : x ∈ rowAt p c.street) : (⟨c.street, x⟩ : House) ∈ housesOf p := mem_houses.2 ⟨hs0, hs1, hx⟩
theorem upd_mv {p : Plan} {c : Change} {g : House → List House} {x : Plate} {o q n : Nat} {H : Nat → AObj} {K : Cont} (hl : List House) (v : Valid p) (hs0 : 0 ≤ c.street) (hs1 : c.street < p.length) (hx : x ∈ rowAt p c.street)
    (ho : H o = .mapo (keysP p) (movesP p g)) (hq : H q = .row 3 (hl.map House.enc)) (hn : n = hl.length) (hoq : (q == o) = false) (e : toP p c x = hl)
    (hk : K (.tup []) [o, q] [(q, .dead), (o, .mapo (keysP p) (movesP p (updG p c g x)))]) : mapUpdateA Tryz.prog 121 (.mp o) (.agg [iV c.street, iV x.number, iV x.letter]) (.own q 3 0 n) H K := by
  have hf := frz_houses hq rfl hn
  refine upd_house (h := ⟨c.street, x⟩) (hs := housesOf p) (F := MapV g) ho v.wf v.nodup (house_in hs0 hs1 hx) (by rw [hf]; exact .list _) (by rw [hf]; simpa using fun e => by simp [e] at hoq) ?_
  rw [hf]
  have : (housesOf p).map (fun k => if k = ⟨c.street, x⟩ then AV.list (hl.map House.enc) else MapV g k) = movesP p (updG p c g x) := by
    refine List.map_congr_left (fun k _ => ?_)
    unfold MapV updG
    rw [mv_to, e]
    split <;> rfl
  rw [this]
  exact hk
theorem upd_mv_nil {p : Plan} {c : Change} {g : House → List House} {x : Plate} {o : Nat} {H : Nat → AObj} {K : Cont} (v : Valid p) (hs0 : 0 ≤ c.street) (hs1 : c.street < p.length) (hx : x ∈ rowAt p c.street)
    (ho : H o = .mapo (keysP p) (movesP p g)) (e : toP p c x = [])
    (hk : K (.tup []) [o] [(o, .mapo (keysP p) (movesP p (updG p c g x)))]) : mapUpdateA Tryz.prog 121 (.mp o) (.agg [iV c.street, iV x.number, iV x.letter]) nilV H K := by
  have hf : frzV H 3 nilV = (.list [], []) := rfl
  refine upd_house (h := ⟨c.street, x⟩) (hs := housesOf p) (F := MapV g) ho v.wf v.nodup (house_in hs0 hs1 hx) (by rw [hf]; exact .list _) (by rw [hf]; rfl) ?_
  rw [hf]
  have : (housesOf p).map (fun k => if k = ⟨c.street, x⟩ then AV.list [] else MapV g k) = movesP p (updG p c g x) := by
    refine List.map_congr_left (fun k _ => ?_)
    unfold MapV updG
    rw [mv_to, e]
    split <;> rfl
  rw [this]
  exact hk
@[reducible] def cBox (c : Change) : AObj := .box [iV c.kind, iV c.street, iV c.other, iV c.src.number, iV c.src.letter, iV c.dst.number, iV c.dst.letter]
@[reducible] def pBox (p : Plan) : AObj := .box [.list (p.map encStreet)]
attribute [go_sem] cBox pBox keysP movesP
structure Pre (p : Plan) (c : Change) : Prop where
  kind : 1 ≤ c.kind ∧ c.kind ≤ 7
  street : 0 ≤ c.street ∧ c.street < p.length
  other : c.kind = 4 ∨ c.kind = 7 → 0 ≤ c.other ∧ c.other < p.length ∧ c.other ≠ c.street
theorem Pre.fit {p : Plan} {c : Change} (h : Pre p c) (hf : fitsE p c = 0) : Fit p c := ⟨h.kind, h.street, h.other, hf⟩
def outM (p : Plan) (c : Change) : AObj := if fitsE p c = 0 then .mapo (keysP p) (movesP p (mv p c)) else .dead
end Go.Abs

namespace Go.Abs
open Go
@[go_sem] theorem natCast_inj' (m n : Nat) : ((m : Int) = (n : Int)) = (m = n) := by simp only [eq_iff_iff]; omega
@[go_sem] theorem natCast_beq (m n : Nat) : ((m : Int) == (n : Int)) = decide (m = n) := by rw [Bool.eq_iff_iff]; simp only [beq_iff_eq, decide_eq_true_eq]; omega
@[go_sem] theorem natCast_bne (m n : Nat) : ((m : Int) != (n : Int)) = !decide (m = n) := by simp [bne, natCast_beq]
@[go_sem] theorem zeroPlate_n : zeroPlate.number = 0 := rfl
@[go_sem] theorem zeroPlate_l : zeroPlate.letter = 0 := rfl
end Go.Abs

namespace Go.Abs
open Go Go.Proofs
set_option maxRecDepth 10000
theorem sp_rCheck (p : Plan) (h1 : p.length ≤ 4294967296) : Spec Tryz.prog 28 [encPlan p] [] (iV (check p)) [] := by
  have e0 : p.length = 0 → check p = 7 := fun h => by unfold check; rw [if_pos h]
  have e1 : ¬ p.length = 0 → 3 < p.length → check p = 6 := fun h h' => by unfold check; rw [if_neg h, if_pos h']
  have e2 : ¬ p.length = 0 → ¬ 3 < p.length → check p = checkRows p := fun h h' => by unfold check; rw [if_neg h, if_neg h']
  refine spec_body Tryz.func28 rfl (fun E hE => ?_); simp only [go_sem, Tryz.ntmps28]
  repeat' (first | (with_reducible (show runOps ..); first | (refine Qr rfl ?_; try intro K' hK; try simp only [go_sem, *]) | (refine Qi rfl rfl rfl rfl (fun hb K' hK => ?_) (fun hb => ?_) <;> (have hc := hb; try simp only [go_sem] at hc; simp only [go_sem, *]))) | (with_reducible (show Hold ..); first | refine Qh rfl ?_ | refine s_draw rfl Tryz.mixed (by kernel_rfl) ?_ | (refine s_cond rfl ⟨_, rfl, fun hb => ?_, fun hb => ?_⟩ <;> (have hc := hb; try simp only [go_sem] at hc)) | refine s_ret rfl ?_) | ((with_reducible refine Qb ?_ ?_); focus kernel_rfl) | ((with_reducible refine And.intro ?_ ?_); focus omega) | (refine contA_of hK ?_; clear hK K'; simp only [go_sem, *]) | (simp only [thenA, inBlockA, go_sem, *]))
  · (refine ⟨[_], [], [], ⟨rfl, trivial⟩, ?_⟩; simp only [go_sem, *])
    rw [e0 (by omega)]
  · (refine ⟨[_], [], [], ⟨rfl, trivial⟩, ?_⟩; simp only [go_sem, *])
    rw [e1 (by omega) (by omega)]
  · have e3 := e2 (by omega) (by omega)
    clear e0 e1 e2
    refine s_loop rfl (fun zn zN zenv zAs => ∃ (i : Nat), zn = (p.length) - i ∧ i ≤ (p.length) ∧ (checkRows (p.drop i) = checkRows p) ∧ zN = 56 ∧ zenv = [(3, iV i), (1, .ptr 0 0)] ∧ zAs = [.box [.list (p.map encStreet)]]) (p.length) ⟨[some 0], [], _, _, _, (by (simp only [Weak, go_sem, List.map_append, List.map_set, *] <;> (try simp (disch := omega) only [wrap_succ]) <;> (try simp) <;> (try omega))), 0, (by simp), (by simp), (by simp), rfl, rfl, rfl⟩ ?_; rintro _ _ _ _ ⟨i, rfl, hi, hP, rfl, rfl, rfl⟩
    repeat' (first | (with_reducible (show runOps ..); first | (refine Qr rfl ?_; try intro K' hK; try simp only [go_sem, *]) | (refine Qi rfl rfl rfl rfl (fun hb K' hK => ?_) (fun hb => ?_) <;> (have hc := hb; try simp only [go_sem] at hc; simp only [go_sem, *]))) | (with_reducible (show Hold ..); first | refine Qh rfl ?_ | refine s_draw rfl Tryz.mixed (by kernel_rfl) ?_ | (refine s_cond rfl ⟨_, rfl, fun hb => ?_, fun hb => ?_⟩ <;> (have hc := hb; try simp only [go_sem] at hc)) | refine s_ret rfl ?_) | ((with_reducible refine Qb ?_ ?_); focus kernel_rfl) | ((with_reducible refine And.intro ?_ ?_); focus omega) | (refine contA_of hK ?_; clear hK K'; simp only [go_sem, *]) | (simp only [thenA, inBlockA, go_sem, *]))
    · (refine ⟨[_], [], [], ⟨rfl, trivial⟩, ?_⟩; simp only [go_sem, *])
      rw [← hP, rows_step (by omega), if_pos (by omega)]
    · have hl : (p.getD i default).length ≤ 8 := by omega
      have hi' : i < p.length := by omega
      rw [rows_step hi', if_neg (by omega)] at hP
      generalize hll : p.getD i default = l at *
      refine s_loop rfl (fun zn zN zenv zAs => ∃ (k : Nat), zn = (l.length) - k ∧ k ≤ (l.length) ∧ (checkRow (prevP l k) (l.drop k) = checkRow none l) ∧ zN = 56 ∧ zenv = [(5, iV k), (4, encStreet l), (3, iV i), (1, .ptr 0 0)] ∧ zAs = [.box [.list (p.map encStreet)]]) (l.length) ⟨[some 0], [], _, _, _, (by (simp only [Weak, go_sem, List.map_append, List.map_set, *] <;> (try simp (disch := omega) only [wrap_succ]) <;> (try simp) <;> (try omega))), 0, (by simp), (by simp), (by simp [prevP]), rfl, rfl, rfl⟩ ?_; rintro _ _ _ _ ⟨k, rfl, hk, hK, rfl, rfl, rfl⟩
      have hw : 0 < k → IntKind.i64.wrap ((k : Int) - 1) = ((k - 1 : Nat) : Int) := fun h => by rw [wrap_i64 (by omega) (by omega)]; omega
      have hk1 : k < l.length → k - 1 < l.length := fun h => by omega
      have hstep : ∀ h : k < l.length, _ := fun h => checkRow_step h (prevP l k) rfl
      repeat' (first | (with_reducible (show runOps ..); first | (refine Qr rfl ?_; try intro K' hK; try simp only [go_sem, *]) | (refine Qi rfl rfl rfl rfl (fun hb K' hK => ?_) (fun hb => ?_) <;> (have hc := hb; try simp only [go_sem] at hc; simp only [go_sem, *]))) | (with_reducible (show Hold ..); first | refine Qh rfl ?_ | refine s_draw rfl Tryz.mixed (by kernel_rfl) ?_ | (refine s_cond rfl ⟨_, rfl, fun hb => ?_, fun hb => ?_⟩ <;> (have hc := hb; try simp only [go_sem] at hc)) | refine s_ret rfl ?_) | (with_reducible (show callA ..); first | ((first | refine call_s (sp_Plated _) ?_ ?_ | refine call_s (sp_Before _ _) ?_ ?_); (focus (simp only [go_sem, *]; done)); simp only [go_sem, *])) | ((with_reducible refine Qb ?_ ?_); focus kernel_rfl) | ((with_reducible refine And.intro ?_ ?_); focus omega) | (refine contA_of hK ?_; clear hK K'; simp only [go_sem, *]) | (simp only [thenA, inBlockA, go_sem, *]))
      · (refine ⟨[_], [], [], ⟨rfl, trivial⟩, ?_⟩; simp only [go_sem, *])
        rw [hstep (by omega), if_neg (by simp_all)] at hK
        rw [← hK, if_neg (by omega)] at hP
        rw [← hP]
      · (refine ⟨[_], [], [], ⟨rfl, trivial⟩, ?_⟩; simp only [go_sem, *])
        rw [hstep (by omega), if_pos (by assumption), if_neg (by intro h; rcases h with h | h; · omega
                                                                 · simp_all)] at hK
        rw [← hK, if_neg (by omega)] at hP
        rw [← hP]
      · refine ⟨_, (by omega), [some 0], [], _, _, _, (by (simp only [Weak, go_sem, List.map_append, List.map_set, *] <;> (try simp (disch := omega) only [wrap_succ]) <;> (try simp) <;> (try omega))), k + 1, rfl, (by omega), (by rw [← hK, hstep (by omega), if_pos (by assumption), if_pos (.inr (by assumption)), prevP_succ]), rfl, rfl, rfl⟩
      · refine ⟨_, (by omega), [some 0], [], _, _, _, (by (simp only [Weak, go_sem, List.map_append, List.map_set, *] <;> (try simp (disch := omega) only [wrap_succ]) <;> (try simp) <;> (try omega))), k + 1, rfl, (by omega), (by rw [← hK, hstep (by omega), if_pos (by assumption), if_pos (.inl (by omega)), prevP_succ]), rfl, rfl, rfl⟩
      · rw [drop_end (by omega)] at hK
        have h0 : checkRow none l = 0 := by rw [← hK]; cases prevP l k <;> rfl
        rw [if_pos h0] at hP
        refine ⟨_, (by omega), [some 0], [], _, _, _, (by (simp only [Weak, go_sem, List.map_append, List.map_set, *] <;> (try simp (disch := omega) only [wrap_succ]) <;> (try simp) <;> (try omega))), i + 1, rfl, (by omega), (by exact hP), rfl, rfl, rfl⟩
    · (refine ⟨[_], [], [], ⟨rfl, trivial⟩, ?_⟩; simp only [go_sem, *])
      rw [← hP, drop_end (by omega), checkRows]
end Go.Abs

namespace Go.Abs
open Go Go.Proofs
set_option maxRecDepth 10000
theorem houses_step {p : Plan} {i : Nat} (h : i < p.length) : housesFrom i (p.drop i) = (p.getD i default).map (fun x => (⟨(i : Nat), x⟩ : House)) ++ housesFrom (i + 1) (p.drop (i + 1)) := by
  rw [drop_cons h, housesFrom]
theorem map_step {l : List Plate} {k : Nat} (h : k < l.length) (i : Int) : (l.drop k).map (fun x => (⟨i, x⟩ : House)) = ⟨i, l.getD k default⟩ :: (l.drop (k + 1)).map (fun x => (⟨i, x⟩ : House)) := by
  rw [drop_cons h, List.map_cons]
theorem sp_rHouses (p : Plan) (h1 : p.length ≤ 4294967296) (h2 : ∀ l, l ∈ p → l.length ≤ 4294967296) (h3 : (housesOf p).length ≤ 4294967296) : Spec Tryz.prog 116 [encPlan p] [] (.own 0 3 0 (housesOf p).length) [.row 3 ((housesOf p).map House.enc)] := by
  refine spec_body Tryz.func116 rfl (fun E hE => ?_); simp only [go_sem, Tryz.ntmps116]
  repeat' (first | (with_reducible (show runOps ..); first | (refine Qr rfl ?_; try intro K' hK; try simp only [go_sem, *])) | (with_reducible (show Hold ..); first | refine Qh rfl ?_ | (refine s_cond rfl ⟨_, rfl, fun hb => ?_, fun hb => ?_⟩ <;> (have hc := hb; try simp only [go_sem] at hc)) | refine s_ret rfl ?_) | ((with_reducible refine Qb ?_ ?_); focus kernel_rfl) | ((with_reducible refine And.intro ?_ ?_); focus omega) | (refine contA_of hK ?_; clear hK K'; simp only [go_sem, *]) | (simp only [thenA, inBlockA, go_sem, *]))
  refine s_loop rfl (fun zn zN zenv zAs => ∃ (i : Nat) (acc : List House), zn = (p.length) - i ∧ i ≤ (p.length) ∧ (acc ++ housesFrom i (p.drop i) = housesOf p) ∧ zN = 37 ∧ zenv = [(4, iV i), (3, .own 1 3 0 acc.length), (1, .ptr 0 0)] ∧ zAs = [.box [AV.list (p.map encStreet)], .row 3 (acc.map House.enc)]) (p.length) ⟨[some 0, none], [], _, _, _, (by (simp only [Weak, go_sem, List.map_append, List.map_set, *] <;> (try simp (disch := omega) only [wrap_succ]) <;> (try simp) <;> (try omega))), 0, [], (by simp), (by simp), (by simp [housesOf]), rfl, rfl, rfl⟩ ?_; rintro _ _ _ _ ⟨i, acc, rfl, hi, hP, rfl, rfl, rfl⟩
  repeat' (first | (with_reducible (show runOps ..); first | (refine Qr rfl ?_; try intro K' hK; try simp only [go_sem, *])) | (with_reducible (show Hold ..); first | refine Qh rfl ?_ | (refine s_cond rfl ⟨_, rfl, fun hb => ?_, fun hb => ?_⟩ <;> (have hc := hb; try simp only [go_sem] at hc)) | refine s_ret rfl ?_) | ((with_reducible refine Qb ?_ ?_); focus kernel_rfl) | ((with_reducible refine And.intro ?_ ?_); focus omega) | (refine contA_of hK ?_; clear hK K'; simp only [go_sem, *]) | (simp only [thenA, inBlockA, go_sem, *]))
  · have hl := h2 _ (getD_mem ‹_›)
    rw [houses_step ‹_›] at hP
    generalize hll : p.getD i default = l at *
    refine s_loop rfl (fun zn zN zenv zAs => ∃ (k : Nat) (acc : List House), zn = (l.length) - k ∧ k ≤ (l.length) ∧ (acc ++ ((l.drop k).map (fun x => (⟨(i : Nat), x⟩ : House)) ++ housesFrom (i + 1) (p.drop (i + 1))) = housesOf p) ∧ zN = 37 ∧ zenv = [(5, iV k), (4, iV i), (3, .own 1 3 0 acc.length), (1, .ptr 0 0)] ∧ zAs = [.box [AV.list (p.map encStreet)], .row 3 (acc.map House.enc)]) (l.length) ⟨[some 0, some 1], [], _, _, _, (by (simp only [Weak, go_sem, List.map_append, List.map_set, *] <;> (try simp (disch := omega) only [wrap_succ]) <;> (try simp) <;> (try omega))), 0, acc, (by simp), (by simp), (by simpa using hP), rfl, rfl, rfl⟩ ?_; rintro _ _ _ _ ⟨k, acc, rfl, hk, hK, rfl, rfl, rfl⟩
    have hlen := congrArg List.length hK
    simp only [List.length_append, List.length_map, List.length_drop] at hlen
    repeat' (first | (with_reducible (show runOps ..); first | (refine Qr rfl ?_; try intro K' hK; try simp only [go_sem, *])) | (with_reducible (show Hold ..); first | refine Qh rfl ?_ | (refine s_cond rfl ⟨_, rfl, fun hb => ?_, fun hb => ?_⟩ <;> (have hc := hb; try simp only [go_sem] at hc)) | refine s_ret rfl ?_) | ((with_reducible refine Qb ?_ ?_); focus kernel_rfl) | ((with_reducible refine And.intro ?_ ?_); focus omega) | (refine contA_of hK ?_; clear hK K'; simp only [go_sem, *]) | (simp only [thenA, inBlockA, go_sem, *]))
    · refine ⟨_, (by omega), [some 0, some 3], [], _, _, _, (by (simp only [Weak, go_sem, List.map_append, List.map_set, *] <;> (try simp (disch := omega) only [wrap_succ]) <;> (try simp) <;> (try omega))), k + 1, acc ++ [⟨(i : Nat), l.getD k default⟩], rfl, (by omega), (by rw [← hK, map_step (k := k) (by assumption)]; simp), rfl, rfl, rfl⟩
    · rw [drop_end (by omega)] at hK
      refine ⟨_, (by omega), [some 0, some 1], [], _, _, _, (by (simp only [Weak, go_sem, List.map_append, List.map_set, *] <;> (try simp (disch := omega) only [wrap_succ]) <;> (try simp) <;> (try omega))), i + 1, acc, rfl, (by omega), (by simpa using hK), rfl, rfl, rfl⟩
  · refine ⟨[_], [some 1], [], ⟨rfl, trivial⟩, ?_⟩
    rw [drop_end (by omega), housesFrom, List.append_nil] at hP
    simp only [go_sem, hP, *]
theorem sp_houses (p : Plan) (h1 : p.length ≤ 4294967296) (h2 : ∀ l, l ∈ p → l.length ≤ 4294967296) (h3 : (housesOf p).length ≤ 4294967296) : Spec Tryz.prog 160 [encPlan p] [] (.own 0 3 0 (housesOf p).length) [.row 3 ((housesOf p).map House.enc)] := by
  refine spec_body Tryz.func160 rfl (fun E hE => ?_); simp only [go_sem, Tryz.ntmps160]
  repeat' (first | (with_reducible (show runOps ..); first | (refine Qr rfl ?_; try intro K' hK; try simp only [go_sem, *])) | (with_reducible (show Hold ..); first | refine Qh rfl ?_ | (refine s_cond rfl ⟨_, rfl, fun hb => ?_, fun hb => ?_⟩ <;> (have hc := hb; try simp only [go_sem] at hc)) | refine s_ret rfl ?_) | ((with_reducible refine Qb ?_ ?_); focus kernel_rfl) | ((with_reducible refine And.intro ?_ ?_); focus omega) | (refine contA_of hK ?_; clear hK K'; simp only [go_sem, *]) | (simp only [thenA, inBlockA, go_sem, *]))
  refine s_loop rfl (fun zn zN zenv zAs => ∃ (i : Nat) (acc : List House), zn = (p.length) - i ∧ i ≤ (p.length) ∧ (acc ++ housesFrom i (p.drop i) = housesOf p) ∧ zN = 31 ∧ zenv = [(11, iV i), (10, iV p.length), (9, .list (p.map encStreet)), (3, .own 0 3 0 acc.length)] ∧ zAs = [.row 3 (acc.map House.enc)]) (p.length) ⟨[none], [], _, _, _, (by (simp only [Weak, go_sem, List.map_append, List.map_set, *] <;> (try simp (disch := omega) only [wrap_succ]) <;> (try simp) <;> (try omega))), 0, [], (by simp), (by simp), (by simp [housesOf]), rfl, rfl, rfl⟩ ?_; rintro _ _ _ _ ⟨i, acc, rfl, hi, hP, rfl, rfl, rfl⟩
  repeat' (first | (with_reducible (show runOps ..); first | (refine Qr rfl ?_; try intro K' hK; try simp only [go_sem, *])) | (with_reducible (show Hold ..); first | refine Qh rfl ?_ | (refine s_cond rfl ⟨_, rfl, fun hb => ?_, fun hb => ?_⟩ <;> (have hc := hb; try simp only [go_sem] at hc)) | refine s_ret rfl ?_) | ((with_reducible refine Qb ?_ ?_); focus kernel_rfl) | ((with_reducible refine And.intro ?_ ?_); focus omega) | (refine contA_of hK ?_; clear hK K'; simp only [go_sem, *]) | (simp only [thenA, inBlockA, go_sem, *]))
  · have hl := h2 _ (getD_mem ‹_›)
    rw [houses_step ‹_›] at hP
    generalize hll : p.getD i default = l at *
    refine s_loop rfl (fun zn zN zenv zAs => ∃ (k : Nat) (acc : List House), zn = (l.length) - k ∧ k ≤ (l.length) ∧ (acc ++ ((l.drop k).map (fun x => (⟨(i : Nat), x⟩ : House)) ++ housesFrom (i + 1) (p.drop (i + 1))) = housesOf p) ∧ zN = 31 ∧ zenv = [(18, iV k), (17, iV l.length), (16, encStreet l), (4, iV i), (11, iV i), (10, iV p.length), (9, .list (p.map encStreet)), (3, .own 0 3 0 acc.length)] ∧ zAs = [.row 3 (acc.map House.enc)]) (l.length) ⟨[some 0], [], _, _, _, (by (simp only [Weak, go_sem, List.map_append, List.map_set, *] <;> (try simp (disch := omega) only [wrap_succ]) <;> (try simp) <;> (try omega))), 0, acc, (by simp), (by simp), (by simpa using hP), rfl, rfl, rfl⟩ ?_; rintro _ _ _ _ ⟨k, acc, rfl, hk, hK, rfl, rfl, rfl⟩
    have hlen := congrArg List.length hK
    simp only [List.length_append, List.length_map, List.length_drop] at hlen
    repeat' (first | (with_reducible (show runOps ..); first | (refine Qr rfl ?_; try intro K' hK; try simp only [go_sem, *])) | (with_reducible (show Hold ..); first | refine Qh rfl ?_ | (refine s_cond rfl ⟨_, rfl, fun hb => ?_, fun hb => ?_⟩ <;> (have hc := hb; try simp only [go_sem] at hc)) | refine s_ret rfl ?_) | ((with_reducible refine Qb ?_ ?_); focus kernel_rfl) | ((with_reducible refine And.intro ?_ ?_); focus omega) | (refine contA_of hK ?_; clear hK K'; simp only [go_sem, *]) | (simp only [thenA, inBlockA, go_sem, *]))
    · refine ⟨_, (by omega), [some 3], [], _, _, _, (by (simp only [Weak, go_sem, List.map_append, List.map_set, *] <;> (try simp (disch := omega) only [wrap_succ]) <;> (try simp) <;> (try omega))), k + 1, acc ++ [⟨(i : Nat), l.getD k default⟩], rfl, (by omega), (by rw [← hK, map_step (k := k) (by assumption)]; simp), rfl, rfl, rfl⟩
    · rw [drop_end (by omega)] at hK
      refine ⟨_, (by omega), [some 0], [], _, _, _, (by (simp only [Weak, go_sem, List.map_append, List.map_set, *] <;> (try simp (disch := omega) only [wrap_succ]) <;> (try simp) <;> (try omega))), i + 1, acc, rfl, (by omega), (by simpa using hK), rfl, rfl, rfl⟩
  · refine ⟨[_], [some 0], [], ⟨rfl, trivial⟩, ?_⟩
    rw [drop_end (by omega), housesFrom, List.append_nil] at hP
    simp only [go_sem, hP, *]
end Go.Abs

namespace Go.Abs
open Go Go.Proofs
set_option maxRecDepth 10000
theorem take_notin {l : List Plate} {i : Nat} {x : Plate} (h : i < l.length) (hn : x ∉ l.take i) (hx : ¬ l.getD i default = x) : x ∉ l.take (i + 1) := by
  rw [List.take_add_one]
  simp only [List.getD_eq_getElem?_getD, List.getElem?_eq_getElem h, Option.getD_some] at hx
  simp only [List.getElem?_eq_getElem h, Option.toList_some, List.mem_append, List.mem_singleton, not_or]
  exact ⟨hn, fun e => hx e.symm⟩
theorem idx_found {l : List Plate} {i : Nat} {x : Plate} (h : i < l.length) (hn : x ∉ l.take i) (hx : l.getD i default = x) : idxP l x = i := by
  have hg : l.drop i = x :: l.drop (i + 1) := by rw [drop_cons h, hx]
  have hl : l = l.take i ++ x :: l.drop (i + 1) := by rw [← hg, List.take_append_drop]
  have hm : x ∈ l := by rw [hl]; simp
  rw [idxP_of hm]
  conv => lhs; rw [hl]
  rw [List.idxOf_append, if_neg hn]
  simp; omega
theorem idx_none {l : List Plate} {x : Plate} (hn : x ∉ l) : idxP l x = -1 := by simp [idxP, hn]
theorem sp_index (l : List Plate) (x : Plate) (h1 : l.length ≤ 4294967296) : Spec Tryz.prog 157 [encStreet l, x.enc] [] (iV (idxP l x)) [] := by
  refine spec_body Tryz.func157 rfl (fun E hE => ?_); simp only [go_sem, Tryz.ntmps157]
  repeat' (first | (with_reducible (show runOps ..); first | (refine Qr rfl ?_; try intro K' hK; try simp only [go_sem, *])) | (with_reducible (show Hold ..); first | refine Qh rfl ?_ | refine s_draw rfl Tryz.mixed (by kernel_rfl) ?_ | (refine s_cond rfl ⟨_, rfl, fun hb => ?_, fun hb => ?_⟩ <;> (have hc := hb; try simp only [go_sem] at hc)) | refine s_ret rfl ?_) | ((with_reducible refine Qb ?_ ?_); focus kernel_rfl) | ((with_reducible refine And.intro ?_ ?_); focus omega) | (refine contA_of hK ?_; clear hK K'; simp only [go_sem, *]) | (simp only [thenA, inBlockA, go_sem, *]))
  refine s_loop rfl (fun zn zN zenv zAs => ∃ (i : Nat), zn = (l.length) - i ∧ i ≤ (l.length) ∧ (x ∉ l.take i) ∧ zN = 19 ∧ zenv = [(5, iV i), (3, .ptr 0 0), (0, encStreet l)] ∧ zAs = [.box [iV x.number, iV x.letter]]) (l.length) ⟨[some 0], [], _, _, _, (by (simp only [Weak, go_sem, List.map_append, List.map_set, *] <;> (try simp (disch := omega) only [wrap_succ]) <;> (try simp) <;> (try omega))), 0, (by simp), (by simp), (by simp), rfl, rfl, rfl⟩ ?_; rintro _ _ _ _ ⟨i, rfl, hi, hP, rfl, rfl, rfl⟩
  repeat' (first | (with_reducible (show runOps ..); first | (refine Qr rfl ?_; try intro K' hK; try simp only [go_sem, *])) | (with_reducible (show Hold ..); first | refine Qh rfl ?_ | refine s_draw rfl Tryz.mixed (by kernel_rfl) ?_ | (refine s_cond rfl ⟨_, rfl, fun hb => ?_, fun hb => ?_⟩ <;> (have hc := hb; try simp only [go_sem] at hc)) | refine s_ret rfl ?_) | ((with_reducible refine Qb ?_ ?_); focus kernel_rfl) | ((with_reducible refine And.intro ?_ ?_); focus omega) | (refine contA_of hK ?_; clear hK K'; simp only [go_sem, *]) | (simp only [thenA, inBlockA, go_sem, *]))
  · (refine ⟨[_], [], [], ⟨rfl, trivial⟩, ?_⟩; simp only [go_sem, *])
    rw [idx_found (by assumption) hP (by assumption)]
  · refine ⟨_, (by omega), [some 0], [], _, _, _, (by (simp only [Weak, go_sem, List.map_append, List.map_set, *] <;> (try simp (disch := omega) only [wrap_succ]) <;> (try simp) <;> (try omega))), i + 1, rfl, (by omega), (by exact take_notin (by assumption) hP (by assumption)), rfl, rfl, rfl⟩
  · (refine ⟨[_], [], [], ⟨rfl, trivial⟩, ?_⟩; simp only [go_sem, *])
    rw [List.take_of_length_le (by omega)] at hP
    rw [idx_none hP]
def tparB (b : Bool) (y : Plate) : Bool := (y.number.tmod 2 == 1) == b
theorem sp_parity (l : List Plate) (b : Bool) (h1 : l.length ≤ 4294967296) : Spec Tryz.prog 166 [encStreet l, bV b] [] (.own 0 2 0 (l.filter (tparB b)).length) [.row 2 ((l.filter (tparB b)).map Plate.enc)] := by
  refine spec_body Tryz.func166 rfl (fun E hE => ?_); simp only [go_sem, Tryz.ntmps166]
  repeat' (first | (with_reducible (show runOps ..); first | (refine Qr rfl ?_; try intro K' hK; try simp only [go_sem, *])) | (with_reducible (show Hold ..); first | refine Qh rfl ?_ | (refine s_cond rfl ⟨_, rfl, fun hb => ?_, fun hb => ?_⟩ <;> (have hc := hb; try simp only [go_sem] at hc)) | refine s_ret rfl ?_) | ((with_reducible refine Qb ?_ ?_); focus kernel_rfl) | ((with_reducible refine And.intro ?_ ?_); focus omega) | (refine contA_of hK ?_; clear hK K'; simp only [go_sem, *]) | (simp only [thenA, inBlockA, go_sem, *]))
  refine s_loop rfl (fun zn zN zenv zAs => ∃ (i : Nat) (acc : List Plate), zn = (l.length) - i ∧ i ≤ (l.length) ∧ (acc ++ (l.drop i).filter (tparB b) = l.filter (tparB b)) ∧ zN = 30 ∧ zenv = [(6, iV i), (5, .own 0 2 0 acc.length), (0, encStreet l), (1, bV b)] ∧ zAs = [.row 2 (acc.map Plate.enc)]) (l.length) ⟨[none], [], _, _, _, (by (simp only [Weak, go_sem, List.map_append, List.map_set, *] <;> (try simp (disch := omega) only [wrap_succ]) <;> (try simp) <;> (try omega))), 0, [], (by simp), (by simp), (by simp), rfl, rfl, rfl⟩ ?_; rintro _ _ _ _ ⟨i, acc, rfl, hi, hP, rfl, rfl, rfl⟩
  have hlen := congrArg List.length hP
  have hfl := List.length_filter_le (tparB b) l
  simp only [List.length_append] at hlen
  repeat' (first | (with_reducible (show runOps ..); first | (refine Qr rfl ?_; try intro K' hK; try simp only [go_sem, *])) | (with_reducible (show Hold ..); first | refine Qh rfl ?_ | (refine s_cond rfl ⟨_, rfl, fun hb => ?_, fun hb => ?_⟩ <;> (have hc := hb; try simp only [go_sem] at hc)) | refine s_ret rfl ?_) | ((with_reducible refine Qb ?_ ?_); focus kernel_rfl) | ((with_reducible refine And.intro ?_ ?_); focus omega) | (refine contA_of hK ?_; clear hK K'; simp only [go_sem, *]) | (simp only [thenA, inBlockA, go_sem, *]))
  · refine ⟨_, (by omega), [some 2], [], _, _, _, (by (simp only [Weak, go_sem, List.map_append, List.map_set, *] <;> (try simp (disch := omega) only [wrap_succ]) <;> (try simp) <;> (try omega))), i + 1, acc ++ [l.getD i default], rfl, (by omega), (by rw [← hP, drop_cons (i := i) (by assumption), List.filter_cons, if_pos (by unfold tparB; assumption)]; simp), rfl, rfl, rfl⟩
  · refine ⟨_, (by omega), [some 0], [], _, _, _, (by (simp only [Weak, go_sem, List.map_append, List.map_set, *] <;> (try simp (disch := omega) only [wrap_succ]) <;> (try simp) <;> (try omega))), i + 1, acc, rfl, (by omega), (by rw [← hP, drop_cons (i := i) (by assumption), List.filter_cons, if_neg (by unfold tparB; rw [Bool.not_eq_true]; assumption)]), rfl, rfl, rfl⟩
  · refine ⟨[_], [some 0], [], ⟨rfl, trivial⟩, ?_⟩
    rw [drop_end (by omega), List.filter_nil, List.append_nil] at hP
    simp only [go_sem, hP, *]
theorem letter_eq {l : List Plate} {n : Int} {i : Nat} (hi : i < 4) (h : ∀ j : Nat, j < i → (⟨n, (j : Int) + 1⟩ : Plate) ∈ l) (hn : (⟨n, (i : Int) + 1⟩ : Plate) ∉ l) : letter l n = i + 1 := by
  have h0 := h 0; have h1 := h 1; have h2 := h 2
  have : i = 0 ∨ i = 1 ∨ i = 2 ∨ i = 3 := by omega
  rcases this with rfl | rfl | rfl | rfl <;> simp_all [letter]
theorem sp_letter (l : List Plate) (n : Int) (h1 : l.length ≤ 4294967296) : Spec Tryz.prog 158 [encStreet l, iV n] [] (iV (letter l n)) [] := by
  refine spec_body Tryz.func158 rfl (fun E hE => ?_); simp only [go_sem, Tryz.ntmps158]
  repeat' (first | (with_reducible (show runOps ..); first | (refine Qr rfl ?_; try intro K' hK; try simp only [go_sem, *])) | (with_reducible (show Hold ..); first | refine Qh rfl ?_ | (refine s_cond rfl ⟨_, rfl, fun hb => ?_, fun hb => ?_⟩ <;> (have hc := hb; try simp only [go_sem] at hc)) | refine s_ret rfl ?_) | ((with_reducible refine Qb ?_ ?_); focus kernel_rfl) | ((with_reducible refine And.intro ?_ ?_); focus omega) | (refine contA_of hK ?_; clear hK K'; simp only [go_sem, *]) | (simp only [thenA, inBlockA, go_sem, *]))
  refine s_loop rfl (fun zn zN zenv zAs => ∃ (i : Nat), zn = (4) - i ∧ i ≤ (4) ∧ (∀ j : Nat, j < i → (⟨n, (j : Int) + 1⟩ : Plate) ∈ l) ∧ zN = 17 ∧ zenv = [(5, iV ((i : Int) + 1)), (0, encStreet l), (1, iV n)] ∧ zAs = []) (4) ⟨[], [], _, _, _, (by (simp only [Weak, go_sem, List.map_append, List.map_set, *] <;> (try simp (disch := omega) only [wrap_succ]) <;> (try simp) <;> (try omega))), 0, (by simp), (by simp), (by simp), rfl, rfl, rfl⟩ ?_; rintro _ _ _ _ ⟨i, rfl, hi, hP, rfl, rfl, rfl⟩
  have hw : i < 4 → IntKind.i64.wrap ((i : Int) + 1 + 1) = (((i + 1 : Nat) : Int) + 1) := fun h => by rw [wrap_i64 (by omega) (by omega)]; omega
  repeat' (first | (with_reducible (show runOps ..); first | (refine Qr rfl ?_; try intro K' hK; try simp only [go_sem, *])) | (with_reducible (show Hold ..); first | refine Qh rfl ?_ | (refine s_cond rfl ⟨_, rfl, fun hb => ?_, fun hb => ?_⟩ <;> (have hc := hb; try simp only [go_sem] at hc)) | refine s_ret rfl ?_) | (with_reducible (show callA ..); first | (refine call_s (sp_index l ⟨n, (i : Int) + 1⟩ h1) ?_ ?_; (focus (simp only [go_sem, *]; done)); simp only [go_sem, *])) | ((with_reducible refine Qb ?_ ?_); focus kernel_rfl) | ((with_reducible refine And.intro ?_ ?_); focus omega) | (refine contA_of hK ?_; clear hK K'; simp only [go_sem, *]) | (simp only [thenA, inBlockA, go_sem, *]))
  · (refine ⟨[_], [], [], ⟨rfl, trivial⟩, ?_⟩; simp only [go_sem, *])
    rw [letter_eq (by omega) hP (fun hm => by rw [idxP_of hm] at *; omega)]
  · have hi4 : i < 4 := by omega
    refine ⟨_, (by omega), [], [], _, _, _, (by (simp only [Weak, go_sem, List.map_append, List.map_set, *] <;> (try simp (disch := omega) only [wrap_succ]) <;> (try simp) <;> (try omega))), i + 1, rfl, (by omega), (fun j hj => ?_), rfl, rfl, rfl⟩
    rcases Nat.lt_succ_iff_lt_or_eq.1 hj with h | h
    · exact hP j h
    · subst h
      exact Decidable.byContradiction fun hm => by rw [idx_none hm] at *; omega
  · (refine ⟨[_], [], [], ⟨rfl, trivial⟩, ?_⟩; simp only [go_sem, *])
    have : i = 4 := by omega
    subst this
    have h0 := hP 0; have h1 := hP 1; have h2 := hP 2; have h3 := hP 3
    simp_all [letter]
theorem tmod_two {v : Int} (h : 0 ≤ v) : v.tmod 2 = v % 2 := by rw [Int.tmod_eq_emod_of_nonneg h]
theorem sp_base (l : List Plate) (h1 : l.length ≤ 4294967296) (h2 : ∀ x, x ∈ l → x.ok = true) : Spec Tryz.prog 156 [encStreet l] [] (iV (base l)) [] := by
  refine spec_body Tryz.func156 rfl (fun E hE => ?_); simp only [go_sem, Tryz.ntmps156]
  repeat' (first | (with_reducible (show runOps ..); first | (refine Qr rfl ?_; try intro K' hK; try simp only [go_sem, *])) | (with_reducible (show Hold ..); first | refine Qh rfl ?_ | (refine s_cond rfl ⟨_, rfl, fun hb => ?_, fun hb => ?_⟩ <;> (have hc := hb; try simp only [go_sem] at hc)) | refine s_ret rfl ?_) | ((with_reducible refine Qb ?_ ?_); focus kernel_rfl) | ((with_reducible refine And.intro ?_ ?_); focus omega) | (refine contA_of hK ?_; clear hK K'; simp only [go_sem, *]) | (simp only [thenA, inBlockA, go_sem, *]))
  refine s_loop rfl (fun zn zN zenv zAs => ∃ (i : Nat) (v : Int), zn = (l.length) - i ∧ i ≤ (l.length) ∧ (0 ≤ v ∧ v ≤ 40 ∧ (l.drop i).foldl (fun n x => max n x.number) v = l.foldl (fun n x => max n x.number) 0) ∧ zN = 22 ∧ zenv = [(4, iV i), (3, iV v), (0, encStreet l)] ∧ zAs = []) (l.length) ⟨[], [], _, _, _, (by (simp only [Weak, go_sem, List.map_append, List.map_set, *] <;> (try simp (disch := omega) only [wrap_succ]) <;> (try simp) <;> (try omega))), 0, 0, (by simp), (by simp), (by simp), rfl, rfl, rfl⟩ ?_; rintro _ _ _ _ ⟨i, v, rfl, hi, hP, rfl, rfl, rfl⟩
  repeat' (first | (with_reducible (show runOps ..); first | (refine Qr rfl ?_; try intro K' hK; try simp only [go_sem, *])) | (with_reducible (show Hold ..); first | refine Qh rfl ?_ | (refine s_cond rfl ⟨_, rfl, fun hb => ?_, fun hb => ?_⟩ <;> (have hc := hb; try simp only [go_sem] at hc)) | refine s_ret rfl ?_) | ((with_reducible refine Qb ?_ ?_); focus kernel_rfl) | ((with_reducible refine And.intro ?_ ?_); focus omega) | (refine contA_of hK ?_; clear hK K'; simp only [go_sem, *]) | (simp only [thenA, inBlockA, go_sem, *]))
  · have hx := (ok_iff _).1 (h2 _ (getD_mem (by assumption)))
    have hm : maxI v (l.getD i default).number = max v (l.getD i default).number := by unfold maxI; split <;> omega
    obtain ⟨p1, p2, p3⟩ := hP
    refine ⟨_, (by omega), [], [], _, _, _, (by (simp only [Weak, go_sem, List.map_append, List.map_set, *] <;> (try simp (disch := omega) only [wrap_succ]) <;> (try simp) <;> (try omega))), i + 1, max v (l.getD i default).number, rfl, (by omega), (by refine ⟨by omega, by omega, ?_⟩; rw [← p3, drop_cons (i := i) (by assumption), List.foldl_cons]), rfl, rfl, rfl⟩
  · (refine ⟨[_], [], [], ⟨rfl, trivial⟩, ?_⟩; simp only [go_sem, *])
    obtain ⟨p1, p2, p3⟩ := hP
    rw [drop_end (by omega), List.foldl_nil] at p3
    rw [base, ← p3, tmod_two p1, wrap_i64 (by omega) (by omega)]
end Go.Abs

namespace Go.Abs
open Go Go.Proofs
set_option maxRecDepth 10000
theorem sp_Index_plate (l : List Plate) (x : Plate) (h1 : l.length ≤ 4294967296) : Spec Tryz.prog 199 [encStreet l, x.enc] [] (iV (idxP l x)) [] := by
  refine spec_body Tryz.func199 rfl (fun E hE => ?_); simp only [go_sem, Tryz.ntmps199]
  repeat' (first | (with_reducible (show runOps ..); first | (refine Qr rfl ?_; try intro K' hK; try simp only [go_sem, *])) | (with_reducible (show Hold ..); first | refine Qh rfl ?_ | refine s_draw rfl Tryz.mixed (by kernel_rfl) ?_ | (refine s_cond rfl ⟨_, rfl, fun hb => ?_, fun hb => ?_⟩ <;> (have hc := hb; try simp only [go_sem] at hc)) | refine s_ret rfl ?_) | ((with_reducible refine Qb ?_ ?_); focus kernel_rfl) | ((with_reducible refine And.intro ?_ ?_); focus omega) | (refine contA_of hK ?_; clear hK K'; simp only [go_sem, *]) | (simp only [thenA, inBlockA, go_sem, *]))
  refine s_loop rfl (fun zn zN zenv zAs => ∃ (i : Nat), zn = (l.length) - i ∧ i ≤ (l.length) ∧ (x ∉ l.take i) ∧ zN = 19 ∧ zenv = [(8, iV i), (7, iV l.length), (3, .ptr 0 0), (0, encStreet l)] ∧ zAs = [.box [iV x.number, iV x.letter]]) (l.length) ⟨[some 0], [], _, _, _, (by (simp only [Weak, go_sem, List.map_append, List.map_set, *] <;> (try simp (disch := omega) only [wrap_succ]) <;> (try simp) <;> (try omega))), 0, (by simp), (by simp), (by simp), rfl, rfl, rfl⟩ ?_; rintro _ _ _ _ ⟨i, rfl, hi, hP, rfl, rfl, rfl⟩
  repeat' (first | (with_reducible (show runOps ..); first | (refine Qr rfl ?_; try intro K' hK; try simp only [go_sem, *])) | (with_reducible (show Hold ..); first | refine Qh rfl ?_ | refine s_draw rfl Tryz.mixed (by kernel_rfl) ?_ | (refine s_cond rfl ⟨_, rfl, fun hb => ?_, fun hb => ?_⟩ <;> (have hc := hb; try simp only [go_sem] at hc)) | refine s_ret rfl ?_) | ((with_reducible refine Qb ?_ ?_); focus kernel_rfl) | ((with_reducible refine And.intro ?_ ?_); focus omega) | (refine contA_of hK ?_; clear hK K'; simp only [go_sem, *]) | (simp only [thenA, inBlockA, go_sem, *]))
  · (refine ⟨[_], [], [], ⟨rfl, trivial⟩, ?_⟩; simp only [go_sem, *])
    have e : x = l.getD i default := by assumption
    rw [← e]
    exact int_eq (idx_found (by assumption) hP e.symm)
  · refine ⟨_, (by omega), [some 0], [], _, _, _, (by (simp only [Weak, go_sem, List.map_append, List.map_set, *] <;> (try simp (disch := omega) only [wrap_succ]) <;> (try simp) <;> (try omega))), i + 1, rfl, (by omega), (by exact take_notin (by assumption) hP (fun e => absurd e.symm (by assumption))), rfl, rfl, rfl⟩
  · (refine ⟨[_], [], [], ⟨rfl, trivial⟩, ?_⟩; simp only [go_sem, *])
    rw [List.take_of_length_le (by omega)] at hP
    rw [idx_none hP]
theorem sp_Contains_plate (l : List Plate) (x : Plate) (h1 : l.length ≤ 4294967296) : Spec Tryz.prog 198 [encStreet l, x.enc] [] (bV (decide (x ∈ l))) [] := by
  refine spec_body Tryz.func198 rfl (fun E hE => ?_); simp only [go_sem, Tryz.ntmps198]
  repeat' (first | (with_reducible (show runOps ..); first | (refine Qr rfl ?_; try intro K' hK; try simp only [go_sem, *])) | (with_reducible (show Hold ..); first | refine Qh rfl ?_ | (refine s_cond rfl ⟨_, rfl, fun hb => ?_, fun hb => ?_⟩ <;> (have hc := hb; try simp only [go_sem] at hc)) | refine s_ret rfl ?_) | (with_reducible (show callA ..); first | (refine call_s (sp_Index_plate l x h1) ?_ ?_; (focus (simp only [go_sem, *]; done)); simp only [go_sem, *])) | ((with_reducible refine Qb ?_ ?_); focus kernel_rfl) | ((with_reducible refine And.intro ?_ ?_); focus omega) | (refine contA_of hK ?_; clear hK K'; simp only [go_sem, *]) | (simp only [thenA, inBlockA, go_sem, *]))
  (refine ⟨[_], [], [], ⟨rfl, trivial⟩, ?_⟩; simp only [go_sem, *])
  refine bool_eq ?_
  by_cases hm : x ∈ l
  · simp [idxP_of hm, hm]
  · simp [idx_none hm, hm]
theorem sp_at (s n k : Int) : Spec Tryz.prog 197 [iV s, iV n, iV k] [] (.agg [iV s, iV n, iV k]) [] := by
  refine spec_body Tryz.func197 rfl (fun E hE => ?_); simp only [go_sem, Tryz.ntmps197]
  repeat' (first | (with_reducible (show runOps ..); first | (refine Qr rfl ?_; try intro K' hK; try simp only [go_sem, *])) | (with_reducible (show Hold ..); first | refine Qh rfl ?_ | (refine s_cond rfl ⟨_, rfl, fun hb => ?_, fun hb => ?_⟩ <;> (have hc := hb; try simp only [go_sem] at hc)) | refine s_ret rfl ?_) | ((with_reducible refine Qb ?_ ?_); focus kernel_rfl) | ((with_reducible refine And.intro ?_ ?_); focus omega) | (refine contA_of hK ?_; clear hK K'; simp only [go_sem, *]) | (simp only [thenA, inBlockA, go_sem, *]))
  refine ⟨[.agg [iV s, iV n, iV k]], [], [], ⟨(by simp only [resOne, go_sem]), trivial⟩, ?_⟩; simp only [go_sem, *]
abbrev fnV (f : Nat) : AV := .raw (.func (.func f) #[] #[])
theorem sp_half {f : Nat} {pr : Plate → Bool} (hc : callable Tryz.prog f = true) (hf : ∀ x : Plate, Spec Tryz.prog f [x.enc] [] (bV (pr x)) []) (l : List Plate) (h1 : l.length ≤ 4294967296) :
    Spec Tryz.prog 194 [encStreet l, fnV f] [] (.own 0 2 0 (l.filter pr).length) [.row 2 ((l.filter pr).map Plate.enc)] := by
  refine spec_body Tryz.func194 rfl (fun E hE => ?_); simp only [go_sem, Tryz.ntmps194]
  repeat' (first | (with_reducible (show runOps ..); first | (refine Qr rfl ?_; try intro K' hK; try simp only [go_sem, *])) | (with_reducible (show Hold ..); first | refine Qh rfl ?_ | (refine s_cond rfl ⟨_, rfl, fun hb => ?_, fun hb => ?_⟩ <;> (have hc := hb; try simp only [go_sem] at hc)) | refine s_ret rfl ?_) | ((with_reducible refine Qb ?_ ?_); focus kernel_rfl) | ((with_reducible refine And.intro ?_ ?_); focus omega) | (refine contA_of hK ?_; clear hK K'; simp only [go_sem, *]) | (simp only [thenA, inBlockA, go_sem, *]))
  refine s_loop rfl (fun zn zN zenv zAs => ∃ (i : Nat) (acc : List Plate), zn = (l.length) - i ∧ i ≤ (l.length) ∧ (acc ++ (l.drop i).filter pr = l.filter pr) ∧ zN = 23 ∧ zenv = [(10, iV i), (9, iV l.length), (8, encStreet l), (5, .own 0 2 0 acc.length), (1, fnV f)] ∧ zAs = [.row 2 (acc.map Plate.enc)]) (l.length) ⟨[none], [], _, _, _, (by (simp only [Weak, go_sem, List.map_append, List.map_set, *] <;> (try simp (disch := omega) only [wrap_succ]) <;> (try simp) <;> (try omega))), 0, [], (by simp), (by simp), (by simp), rfl, rfl, rfl⟩ ?_; rintro _ _ _ _ ⟨i, acc, rfl, hi, hP, rfl, rfl, rfl⟩
  have hlen := congrArg List.length hP
  have hfl := List.length_filter_le pr l
  simp only [List.length_append] at hlen
  repeat' (first | (with_reducible (show runOps ..); first | (refine Qr rfl ?_; try intro K' hK; try simp only [go_sem, *])) | (with_reducible (show Hold ..); first | refine Qh rfl ?_ | (refine s_cond rfl ⟨_, rfl, fun hb => ?_, fun hb => ?_⟩ <;> (have hc := hb; try simp only [go_sem] at hc)) | refine s_ret rfl ?_) | (with_reducible (show callA ..); first | (refine call_s (hf (l.getD i default)) ?_ ?_; (focus (simp only [go_sem, *]; done)); simp only [go_sem, *])) | ((with_reducible refine Qb ?_ ?_); focus kernel_rfl) | ((with_reducible refine And.intro ?_ ?_); focus omega) | (refine contA_of hK ?_; clear hK K'; simp only [go_sem, *]) | (simp only [thenA, inBlockA, go_sem, *]))
  · refine ⟨_, (by omega), [some 3], [], _, _, _, (by (simp only [Weak, go_sem, List.map_append, List.map_set, *] <;> (try simp (disch := omega) only [wrap_succ]) <;> (try simp) <;> (try omega))), i + 1, acc ++ [l.getD i default], rfl, (by omega), (by rw [← hP, drop_cons (i := i) (by assumption), List.filter_cons, if_pos (by assumption)]; simp), rfl, rfl, rfl⟩
  · refine ⟨_, (by omega), [some 0], [], _, _, _, (by (simp only [Weak, go_sem, List.map_append, List.map_set, *] <;> (try simp (disch := omega) only [wrap_succ]) <;> (try simp) <;> (try omega))), i + 1, acc, rfl, (by omega), (by rw [← hP, drop_cons (i := i) (by assumption), List.filter_cons, if_neg (by rw [Bool.not_eq_true]; assumption)]), rfl, rfl, rfl⟩
  · refine ⟨[_], [some 0], [], ⟨rfl, trivial⟩, ?_⟩
    rw [drop_end (by omega), List.filter_nil, List.append_nil] at hP
    simp only [go_sem, hP, *]
theorem sp_effects : Spec Tryz.prog 152 [] [] (.agg [.raw .nilFunc, fnV 169, fnV 170, fnV 171, fnV 172, fnV 173, fnV 174, fnV 175]) [] := by
  refine spec_body Tryz.func152 rfl (fun E hE => ?_); simp only [go_sem, Tryz.ntmps152]
  repeat' (first | (with_reducible (show runOps ..); first | (refine Qr rfl ?_; try intro K' hK; try simp only [go_sem, *])) | (with_reducible (show Hold ..); first | refine Qh rfl ?_ | (refine s_cond rfl ⟨_, rfl, fun hb => ?_, fun hb => ?_⟩ <;> (have hc := hb; try simp only [go_sem] at hc)) | refine s_ret rfl ?_) | ((with_reducible refine Qb ?_ ?_); focus kernel_rfl) | ((with_reducible refine And.intro ?_ ?_); focus omega) | (refine contA_of hK ?_; clear hK K'; simp only [go_sem, *]) | (simp only [thenA, inBlockA, go_sem, *]))
  refine ⟨[.agg [.raw .nilFunc, fnV 169, fnV 170, fnV 171, fnV 172, fnV 173, fnV 174, fnV 175]], [], [], ⟨(by simp only [resOne, go_sem]), trivial⟩, ?_⟩; simp only [go_sem, *]
end Go.Abs

namespace Go.Abs
open Go Go.Proofs
set_option maxRecDepth 10000
theorem sp_houses' {p : Plan} (v : Valid p) : Spec Tryz.prog 160 [encPlan p] [] (.own 0 3 0 (housesOf p).length) [.row 3 ((housesOf p).map House.enc)] := sp_houses p (by have := v.len; omega) (fun l hl => by have := (v.rows l hl).len; omega) (by have := v.count; omega)
theorem notin_take {α : Type} [Inhabited α] {l : List α} (hn : l.Nodup) {i : Nat} (h : i < l.length) : l.getD i default ∉ l.take i := fun hm => by
  obtain ⟨j, hj, e⟩ := List.getElem_of_mem hm
  simp at hj e
  rw [List.getElem?_eq_getElem h] at e
  simp only [Option.getD_some] at e
  have := (nodup_inj hn).1 e
  omega
theorem take_succ_getD {α : Type} [Inhabited α] {l : List α} {i : Nat} (h : i < l.length) : l.take (i + 1) = l.take i ++ [l.getD i default] := by
  rw [List.take_add_one]; simp [List.getD, h]
theorem sp_stay (p : Plan) (v : Valid p) : Spec Tryz.prog 151 [encPlan p] [] (.mp 0) [.mapo (keysP p) (movesP p fun h => [h])] := by
  have hn := v.nodup
  have hw := v.wf
  have hct := v.count
  refine spec_body Tryz.func151 rfl (fun E hE => ?_); simp only [go_sem, Tryz.ntmps151]
  repeat' (first | (with_reducible (show runOps ..); first | (refine Qr rfl ?_; try intro K' hK; try simp only [go_sem, *])) | (with_reducible (show Hold ..); first | refine Qh rfl ?_ | (refine s_cond rfl ⟨_, rfl, fun hb => ?_, fun hb => ?_⟩ <;> (have hc := hb; try simp only [go_sem] at hc)) | refine s_ret rfl ?_) | ((with_reducible refine Qb ?_ ?_); focus kernel_rfl) | ((with_reducible refine And.intro ?_ ?_); focus omega) | (refine contA_of hK ?_; clear hK K'; simp only [go_sem, *]) | (simp only [thenA, inBlockA, go_sem, *]))
  refine call_of [] [] (sp_houses' v) (by simp) (by simp only [go_sem]) trivial (by simp) (.inl rfl) (by simp [go_sem]) (by simp) ?_
  simp only [go_sem, *]
  repeat' (first | (with_reducible (show runOps ..); first | (refine Qr rfl ?_; try intro K' hK; try simp only [go_sem, *])) | (with_reducible (show Hold ..); first | refine Qh rfl ?_ | (refine s_cond rfl ⟨_, rfl, fun hb => ?_, fun hb => ?_⟩ <;> (have hc := hb; try simp only [go_sem] at hc)) | refine s_ret rfl ?_) | ((with_reducible refine Qb ?_ ?_); focus kernel_rfl) | ((with_reducible refine And.intro ?_ ?_); focus omega) | (refine contA_of hK ?_; clear hK K'; simp only [go_sem, *]) | (simp only [thenA, inBlockA, go_sem, *]))
  refine s_loop rfl (fun zn zN zenv zAs => ∃ (i : Nat), zn = ((housesOf p).length) - i ∧ i ≤ ((housesOf p).length) ∧ (NoP i) ∧ zN = 20 ∧ zenv = [(10, iV i), (9, iV (housesOf p).length), (8, .own 0 3 0 (housesOf p).length), (3, .mp 1)] ∧ zAs = [.row 3 ((housesOf p).map House.enc), .mapo (((housesOf p).take i).map House.key) (((housesOf p).take i).map (MapV fun h => [h]))]) ((housesOf p).length) ⟨[some 2, some 1], [], _, _, _, (by (simp only [Weak, go_sem, List.map_append, List.map_set, *] <;> (try simp (disch := omega) only [wrap_succ]) <;> (try simp) <;> (try omega))), 0, (by simp), (by simp), (by trivial), rfl, rfl, rfl⟩ ?_; rintro _ _ _ _ ⟨i, rfl, hi, hP, rfl, rfl, rfl⟩
  repeat' (first | (with_reducible (show runOps ..); first | (refine Qr rfl ?_; try intro K' hK; try simp only [go_sem, *])) | (with_reducible (show Hold ..); first | refine Qh rfl ?_ | (refine s_cond rfl ⟨_, rfl, fun hb => ?_, fun hb => ?_⟩ <;> (have hc := hb; try simp only [go_sem] at hc)) | refine s_ret rfl ?_) | ((with_reducible refine Qb ?_ ?_); focus kernel_rfl) | ((with_reducible refine And.intro ?_ ?_); focus omega) | (refine contA_of hK ?_; clear hK K'; simp only [go_sem, *]) | (simp only [thenA, inBlockA, go_sem, *]))
  · refine new_house (h := (housesOf p).getD i default) (hs := (housesOf p).take i) (xs := ((housesOf p).take i).map (MapV fun h => [h])) (by simp only [go_sem, *]) (fun k hk => hw k (List.mem_of_mem_take hk)) (hw _ (getD_mem (by assumption))) (notin_take hn (by assumption)) (by simp only [go_sem, *]) (by simp only [go_sem, *]) ?_
    simp only [go_sem, *]
    repeat' (first | (with_reducible (show runOps ..); first | (refine Qr rfl ?_; try intro K' hK; try simp only [go_sem, *])) | (with_reducible (show Hold ..); first | refine Qh rfl ?_ | (refine s_cond rfl ⟨_, rfl, fun hb => ?_, fun hb => ?_⟩ <;> (have hc := hb; try simp only [go_sem] at hc)) | refine s_ret rfl ?_) | ((with_reducible refine Qb ?_ ?_); focus kernel_rfl) | ((with_reducible refine And.intro ?_ ?_); focus omega) | (refine contA_of hK ?_; clear hK K'; simp only [go_sem, *]) | (simp only [thenA, inBlockA, go_sem, *]))
    have e := take_succ_getD (l := housesOf p) (i := i) (by assumption)
    have hM : MapV (fun h => [h]) ((housesOf p).getD i default) = .list [((housesOf p).getD i default).enc] := rfl
    refine ⟨_, (by omega), [some 0, some 1], [], _, _, _, (by (simp only [Weak, go_sem, List.map_append, List.map_set, *] <;> (try simp (disch := omega) only [wrap_succ]) <;> (try simp) <;> (try omega))), i + 1, rfl, (by omega), (by trivial), rfl, rfl, rfl⟩
  · refine ⟨[_], [some 1], [], ⟨rfl, trivial⟩, ?_⟩
    have e : (housesOf p).take i = housesOf p := List.take_of_length_le (by omega)
    simp only [go_sem, *]
theorem sp_swapped (p : Plan) (c : Change) (v : Valid p) (f : Fit p c) (k : c.kind = 2) : Spec Tryz.prog 170 [encPlan p, c.enc, .mp 0] [.mapo (keysP p) (movesP p fun h => [h])] (iV 0) [.mapo (keysP p) (movesP p (mv p c))] := by
  have hs : c.street.toNat < p.length := by have := f.street; omega
  have hs0 := f.street.1
  have hs1 := f.street.2
  have hr := v.row c.street
  have hl8 := hr.len
  refine spec_body Tryz.func170 rfl (fun E hE => ?_); simp only [go_sem, Tryz.ntmps170]
  repeat' (first | (with_reducible (show runOps ..); first | (refine Qr rfl ?_; try intro K' hK; try simp only [go_sem, *])) | (with_reducible (show Hold ..); first | refine Qh rfl ?_ | refine s_draw rfl Tryz.mixed (by kernel_rfl) ?_ | (refine s_cond rfl ⟨_, rfl, fun hb => ?_, fun hb => ?_⟩ <;> (have hc := hb; try simp only [go_sem] at hc)) | refine s_ret rfl ?_) | ((with_reducible refine Qb ?_ ?_); focus kernel_rfl) | ((with_reducible refine And.intro ?_ ?_); focus omega) | (refine contA_of hK ?_; clear hK K'; simp only [go_sem, *]) | (simp only [thenA, inBlockA, go_sem, *]))
  refine s_loop rfl (fun zn zN zenv zAs => ∃ (i : Nat) (g : House → List House), zn = ((rowAt p c.street).length) - i ∧ i ≤ ((rowAt p c.street).length) ∧ (Upd p c g ((rowAt p c.street).take i)) ∧ zN = 42 ∧ zenv = [(17, iV i), (16, iV (rowAt p c.street).length), (15, encStreet (rowAt p c.street)), (4, .ptr 2 0), (3, .ptr 1 0), (2, .mp 0)] ∧ zAs = [.mapo (keysP p) (movesP p g), pBox p, cBox c]) ((rowAt p c.street).length) ⟨[some 0, some 1, some 2], [], _, _, _, (by (simp only [Weak, go_sem, List.map_append, List.map_set, *] <;> (try simp (disch := omega) only [wrap_succ]) <;> (try simp) <;> (try omega))), 0, fun h => [h], (by simp), (by simp), (by exact Upd.nil _ _), rfl, rfl, rfl⟩ ?_; rintro _ _ _ _ ⟨i, g, rfl, hi, hP, rfl, rfl, rfl⟩
  have hx : i < (rowAt p c.street).length → 1 ≤ ((rowAt p c.street).getD i default).number ∧ ((rowAt p c.street).getD i default).number ≤ 40 := fun h => ((ok_iff _).1 (hr.ok _ (getD_mem h))).1
  have hw1 : i < (rowAt p c.street).length → IntKind.i64.wrap (((rowAt p c.street).getD i default).number - 1) = ((rowAt p c.street).getD i default).number - 1 := fun h => by have := hx h; exact wrap_i64 (by omega) (by omega)
  have hw2 : i < (rowAt p c.street).length → IntKind.i64.wrap (((rowAt p c.street).getD i default).number + 1) = ((rowAt p c.street).getD i default).number + 1 := fun h => by have := hx h; exact wrap_i64 (by omega) (by omega)
  repeat' (first | (with_reducible (show runOps ..); first | (refine Qr rfl ?_; try intro K' hK; try simp only [go_sem, *])) | (with_reducible (show Hold ..); first | refine Qh rfl ?_ | refine s_draw rfl Tryz.mixed (by kernel_rfl) ?_ | (refine s_cond rfl ⟨_, rfl, fun hb => ?_, fun hb => ?_⟩ <;> (have hc := hb; try simp only [go_sem] at hc)) | refine s_ret rfl ?_) | (with_reducible (show callA ..); first | ((first | refine call_s (sp_odd _) ?_ ?_ | refine call_s (sp_at _ _ _) ?_ ?_); (focus (simp only [go_sem, *]; done)); simp only [go_sem, *])) | ((with_reducible refine Qb ?_ ?_); focus kernel_rfl) | ((with_reducible refine And.intro ?_ ?_); focus omega) | (refine contA_of hK ?_; clear hK K'; simp only [go_sem, *]) | (simp only [thenA, inBlockA, go_sem, *]))
  · have ho : oddB ((rowAt p c.street).getD i default) = true := by
      have := hx (by assumption)
      rw [oddB_iff]
      have hc2 : ¬ ((rowAt p c.street).getD i default).number.tmod 2 = 0 := by assumption
      rw [tmod_two (by omega)] at hc2; omega
    refine upd_mv [⟨c.street, ⟨((rowAt p c.street).getD i default).number + 1, ((rowAt p c.street).getD i default).letter⟩⟩] (g := g) (x := (rowAt p c.street).getD i default) v hs0 hs1 (getD_mem (by assumption)) (by simp only [go_sem, *]) (by simp only [go_sem, *]) rfl rfl (by rw [to_swap k, if_pos ho]) ?_
    simp only [go_sem, *]
    repeat' (first | (with_reducible (show runOps ..); first | (refine Qr rfl ?_; try intro K' hK; try simp only [go_sem, *])) | (with_reducible (show Hold ..); first | refine Qh rfl ?_ | refine s_draw rfl Tryz.mixed (by kernel_rfl) ?_ | (refine s_cond rfl ⟨_, rfl, fun hb => ?_, fun hb => ?_⟩ <;> (have hc := hb; try simp only [go_sem] at hc)) | refine s_ret rfl ?_) | ((with_reducible refine Qb ?_ ?_); focus kernel_rfl) | ((with_reducible refine And.intro ?_ ?_); focus omega) | (refine contA_of hK ?_; clear hK K'; simp only [go_sem, *]) | (simp only [thenA, inBlockA, go_sem, *]))
    have e := take_succ_getD (l := rowAt p c.street) (i := i) (by assumption)
    refine ⟨_, (by omega), [some 0, some 1, some 2], [], _, _, _, (by (simp only [Weak, go_sem, List.map_append, List.map_set, *] <;> (try simp (disch := omega) only [wrap_succ]) <;> (try simp) <;> (try omega))), i + 1, updG p c g ((rowAt p c.street).getD i default), rfl, (by omega), (by rw [e]; exact hP.one _), rfl, rfl, rfl⟩
  · have ho : ¬ oddB ((rowAt p c.street).getD i default) = true := by
      have := hx (by assumption)
      rw [oddB_iff]
      have hc2 : ((rowAt p c.street).getD i default).number.tmod 2 = 0 := by assumption
      rw [tmod_two (by omega)] at hc2; omega
    refine upd_mv [⟨c.street, ⟨((rowAt p c.street).getD i default).number - 1, ((rowAt p c.street).getD i default).letter⟩⟩] (g := g) (x := (rowAt p c.street).getD i default) v hs0 hs1 (getD_mem (by assumption)) (by simp only [go_sem, *]) (by simp only [go_sem, *]) rfl rfl (by rw [to_swap k, if_neg ho]) ?_
    simp only [go_sem, *]
    repeat' (first | (with_reducible (show runOps ..); first | (refine Qr rfl ?_; try intro K' hK; try simp only [go_sem, *])) | (with_reducible (show Hold ..); first | refine Qh rfl ?_ | refine s_draw rfl Tryz.mixed (by kernel_rfl) ?_ | (refine s_cond rfl ⟨_, rfl, fun hb => ?_, fun hb => ?_⟩ <;> (have hc := hb; try simp only [go_sem] at hc)) | refine s_ret rfl ?_) | ((with_reducible refine Qb ?_ ?_); focus kernel_rfl) | ((with_reducible refine And.intro ?_ ?_); focus omega) | (refine contA_of hK ?_; clear hK K'; simp only [go_sem, *]) | (simp only [thenA, inBlockA, go_sem, *]))
    have e := take_succ_getD (l := rowAt p c.street) (i := i) (by assumption)
    refine ⟨_, (by omega), [some 0, some 1, some 2], [], _, _, _, (by (simp only [Weak, go_sem, List.map_append, List.map_set, *] <;> (try simp (disch := omega) only [wrap_succ]) <;> (try simp) <;> (try omega))), i + 1, updG p c g ((rowAt p c.street).getD i default), rfl, (by omega), (by rw [e]; exact hP.one _), rfl, rfl, rfl⟩
  · rw [List.take_of_length_le (by omega)] at hP
    have e := hP.fin (fun x hx hn => absurd hx hn)
    simp only [movesP] at e
    refine ⟨[_], [some 0], [], ⟨rfl, trivial⟩, ?_⟩
    simp only [go_sem, *]
end Go.Abs

namespace Go.Abs
open Go Go.Proofs
set_option maxRecDepth 10000
def prB (i : Nat) (x : Plate) : Bool := if i = 0 then x.number.tmod 2 != 0 else x.number.tmod 2 == 0
def halfL (l : List Plate) (i : Nat) : List Plate := l.filter (prB i)
theorem prB_eq {l : List Plate} (h : Sound l) {i : Nat} {x y : Plate} (hy : y ∈ halfL l i) (hx : x ∈ l) : prB i x = (oddB x == oddB y) := by
  obtain ⟨hy1, hy2⟩ := List.mem_filter.1 hy
  have ox := (ok_iff x).1 (h.ok x hx)
  have oy := (ok_iff y).1 (h.ok y hy1)
  rw [Bool.eq_iff_iff, oddB_eq]
  unfold prB at *
  rw [tmod_two (by omega)] at *
  split at hy2 <;> simp_all <;> omega
theorem halfL_own {l : List Plate} (h : Sound l) {i : Nat} {y : Plate} (hy : y ∈ halfL l i) : l.filter (fun z => oddB z == oddB y) = halfL l i :=
  List.filter_congr (fun x hx => (prB_eq h hy hx).symm)
theorem halfL_par {l : List Plate} (h : Sound l) {i : Nat} (hi : i < 2) {y : Plate} (hy : y ∈ halfL l i) : y.number % 2 = 1 - i := by
  obtain ⟨hy1, hy2⟩ := List.mem_filter.1 hy
  have oy := (ok_iff y).1 (h.ok y hy1)
  unfold prB at hy2
  rw [tmod_two (by omega)] at hy2
  have : i = 0 ∨ i = 1 := by omega
  rcases this with rfl | rfl <;> simp at hy2 <;> omega
theorem halfL_cov {l : List Plate} {x : Plate} (hx : x ∈ l) : x ∈ halfL l 0 ∨ x ∈ halfL l 1 := by
  by_cases h : x.number.tmod 2 = 0
  · right; exact List.mem_filter.2 ⟨hx, by simp [prB, h]⟩
  · left; exact List.mem_filter.2 ⟨hx, by simp [prB, h]⟩
theorem halfL_sub {l : List Plate} {i : Nat} {y : Plate} (hy : y ∈ halfL l i) : y ∈ l := (List.mem_filter.1 hy).1
theorem halfL_get {l : List Plate} (h : Sound l) {i j : Nat} (hj : j < (halfL l i).length) : (halfL l i).idxOf ((halfL l i).getD j default) = j := by
  have hn : (halfL l i).Nodup := h.nodup.filter _
  have hm := getD_mem hj
  have h1 := idx_get hm
  have h2 : (halfL l i)[j] = (halfL l i).getD j default := by simp [List.getD, hj]
  exact (nodup_inj hn).1 (h1.trans h2.symm)
theorem sp_turned (p : Plan) (c : Change) (v : Valid p) (f : Fit p c) (k : c.kind = 1) : Spec Tryz.prog 169 [encPlan p, c.enc, .mp 0] [.mapo (keysP p) (movesP p fun h => [h])] (iV 0) [.mapo (keysP p) (movesP p (mv p c))] := by
  have hs : c.street.toNat < p.length := by have := f.street; omega
  have hs0 := f.street.1
  have hs1 := f.street.2
  have hr := v.row c.street
  have hl8 := hr.len
  have hbl : ∀ i, (halfL (rowAt p c.street) i).length ≤ 8 := fun i => Nat.le_trans (List.length_filter_le _ _) hl8
  have hb0 := hbl 0
  have hb1 := hbl 1
  have spo : Spec Tryz.prog 194 [encStreet (rowAt p c.street), fnV 195] [] (.own 0 2 0 (halfL (rowAt p c.street) 0).length) [.row 2 ((halfL (rowAt p c.street) 0).map Plate.enc)] :=
    sp_half (by kernel_rfl) (fun x => by simpa [prB] using sp_odd x) (rowAt p c.street) (by omega)
  have spe : Spec Tryz.prog 194 [encStreet (rowAt p c.street), fnV 196] [] (.own 0 2 0 (halfL (rowAt p c.street) 1).length) [.row 2 ((halfL (rowAt p c.street) 1).map Plate.enc)] :=
    sp_half (by kernel_rfl) (fun x => by simpa [prB] using sp_even x) (rowAt p c.street) (by omega)
  obtain ⟨L, hL⟩ : ∃ L, L = [halfL (rowAt p c.street) 0, halfL (rowAt p c.street) 1] := ⟨_, rfl⟩
  have hLb : L.map encStreet = [encStreet (halfL (rowAt p c.street) 0), encStreet (halfL (rowAt p c.street) 1)] := by rw [hL]; rfl
  have hLl : L.length = 2 := by rw [hL]; rfl
  have hLg : ∀ i, i < 2 → L.getD i default = halfL (rowAt p c.street) i := fun i hi => by
    have : i = 0 ∨ i = 1 := by omega
    rcases this with rfl | rfl <;> rw [hL] <;> rfl
  have hcov : ∀ x, x ∈ rowAt p c.street → x ∈ (L.map id).flatten := fun x hx => by
    rw [hL]
    rcases halfL_cov hx with h | h <;> simp [h]
  clear hL
  refine spec_body Tryz.func169 rfl (fun E hE => ?_); simp only [go_sem, Tryz.ntmps169]
  repeat' (first | (with_reducible (show runOps ..); first | (refine Qr rfl ?_; try intro K' hK; try simp only [go_sem, *])) | (with_reducible (show Hold ..); first | refine Qh rfl ?_ | refine s_draw rfl Tryz.mixed (by kernel_rfl) ?_ | (refine s_cond rfl ⟨_, rfl, fun hb => ?_, fun hb => ?_⟩ <;> (have hc := hb; try simp only [go_sem] at hc)) | refine s_ret rfl ?_) | (with_reducible (show callA ..); first | (refine call_n (spo) ?_ ?_ ?_ ?_; (focus (simp only [go_sem, *]; done)); (focus (first | (simp; done) | (simp [go_sem]; done))); (focus (first | (simp; done) | (simp [go_sem]; done))); simp only [go_sem, *]) | (refine call_n (spe) ?_ ?_ ?_ ?_; (focus (simp only [go_sem, *]; done)); (focus (first | (simp; done) | (simp [go_sem]; done))); (focus (first | (simp; done) | (simp [go_sem]; done))); simp only [go_sem, *])) | ((with_reducible refine Qb ?_ ?_); focus kernel_rfl) | ((with_reducible refine And.intro ?_ ?_); focus omega) | (refine contA_of hK ?_; clear hK K'; simp only [go_sem, *]) | (simp only [thenA, inBlockA, go_sem, *]))
  refine s_loop rfl (fun zn zN zenv zAs => ∃ (i : Nat) (g : House → List House), zn = (2) - i ∧ i ≤ (2) ∧ (Upd p c g (((L.take i).map id).flatten)) ∧ zN = 57 ∧ zenv = [(27, iV i), (26, iV 2), (25, .own 3 1 0 2), (4, .ptr 2 0), (3, .ptr 1 0), (2, .mp 0)] ∧ zAs = [.mapo (keysP p) (movesP p g), pBox p, cBox c, .box (L.map encStreet)]) (2) ⟨[some 0, some 1, some 2, some 5], [3, 4], _, _, _, (by (simp only [Weak, go_sem, List.map_append, List.map_set, *] <;> (try simp (disch := omega) only [wrap_succ]) <;> (try simp) <;> (try omega))), 0, fun h => [h], (by simp), (by simp), (by exact Upd.nil _ _), rfl, rfl, rfl⟩ ?_; rintro _ _ _ _ ⟨i, g, rfl, hi, hP, rfl, rfl, rfl⟩
  clear hLb
  repeat' (first | (with_reducible (show runOps ..); first | (refine Qr rfl ?_; try intro K' hK; try simp only [go_sem, *])) | (with_reducible (show Hold ..); first | refine Qh rfl ?_ | refine s_draw rfl Tryz.mixed (by kernel_rfl) ?_ | (refine s_cond rfl ⟨_, rfl, fun hb => ?_, fun hb => ?_⟩ <;> (have hc := hb; try simp only [go_sem] at hc)) | refine s_ret rfl ?_) | ((with_reducible refine Qb ?_ ?_); focus kernel_rfl) | ((with_reducible refine And.intro ?_ ?_); focus omega) | (refine contA_of hK ?_; clear hK K'; simp only [go_sem, *]) | (simp only [thenA, inBlockA, go_sem, *]))
  · have hi2 : i < 2 := by omega
    have hlb := hbl i
    generalize hl : halfL (rowAt p c.street) i = l at *
    refine s_loop rfl (fun zn zN zenv zAs => ∃ (j : Nat) (g : House → List House), zn = (l.length) - j ∧ j ≤ (l.length) ∧ (Upd p c g (((L.take i).map id).flatten ++ l.take j)) ∧ zN = 57 ∧ zenv = [(33, iV j), (32, iV l.length), (31, encStreet l), (8, encStreet l), (27, iV i), (26, iV 2), (25, .own 3 1 0 2), (4, .ptr 2 0), (3, .ptr 1 0), (2, .mp 0)] ∧ zAs = [.mapo (keysP p) (movesP p g), pBox p, cBox c, .box (L.map encStreet)]) (l.length) ⟨[some 0, some 1, some 2, some 3], [], _, _, _, (by (simp only [Weak, go_sem, List.map_append, List.map_set, *] <;> (try simp (disch := omega) only [wrap_succ]) <;> (try simp) <;> (try omega))), 0, g, (by simp), (by simp), (by simpa using hP), rfl, rfl, rfl⟩ ?_; rintro _ _ _ _ ⟨j, g, rfl, hj, hQ, rfl, rfl, rfl⟩
    have hw1 : j < l.length → IntKind.i64.wrap ((l.length : Int) - 1) = ((l.length - 1 : Nat) : Int) := fun h => by rw [wrap_i64 (by omega) (by omega)]; omega
    have hw2 : j < l.length → IntKind.i64.wrap (((l.length - 1 : Nat) : Int) - (j : Int)) = ((l.length - 1 - j : Nat) : Int) := fun h => by rw [wrap_i64 (by omega) (by omega)]; omega
    have hw3 : j < l.length → l.length - 1 - j < l.length := fun h => by omega
    repeat' (first | (with_reducible (show runOps ..); first | (refine Qr rfl ?_; try intro K' hK; try simp only [go_sem, *])) | (with_reducible (show Hold ..); first | refine Qh rfl ?_ | refine s_draw rfl Tryz.mixed (by kernel_rfl) ?_ | (refine s_cond rfl ⟨_, rfl, fun hb => ?_, fun hb => ?_⟩ <;> (have hc := hb; try simp only [go_sem] at hc)) | refine s_ret rfl ?_) | ((with_reducible refine Qb ?_ ?_); focus kernel_rfl) | ((with_reducible refine And.intro ?_ ?_); focus omega) | (refine contA_of hK ?_; clear hK K'; simp only [go_sem, *]) | (simp only [thenA, inBlockA, go_sem, *]))
    · have hmj : l.getD j default ∈ l := getD_mem (by assumption)
      have hown := halfL_own hr (i := i) (y := l.getD j default) (by rw [hl]; exact hmj)
      have hjx : l.idxOf (l.getD j default) = j := by have := halfL_get hr (i := i) (j := j) (by rw [hl]; assumption); rwa [hl] at this
      refine upd_mv [⟨c.street, l.getD (l.length - 1 - j) default⟩] (g := g) (x := l.getD j default) v hs0 hs1 (halfL_sub (i := i) (by rw [hl]; exact hmj)) (by simp only [go_sem, *]) (by simp only [go_sem, *]) rfl rfl (by rw [to_turn k, hown, hl, hjx]) ?_
      simp only [go_sem, *]
      repeat' (first | (with_reducible (show runOps ..); first | (refine Qr rfl ?_; try intro K' hK; try simp only [go_sem, *])) | (with_reducible (show Hold ..); first | refine Qh rfl ?_ | refine s_draw rfl Tryz.mixed (by kernel_rfl) ?_ | (refine s_cond rfl ⟨_, rfl, fun hb => ?_, fun hb => ?_⟩ <;> (have hc := hb; try simp only [go_sem] at hc)) | refine s_ret rfl ?_) | ((with_reducible refine Qb ?_ ?_); focus kernel_rfl) | ((with_reducible refine And.intro ?_ ?_); focus omega) | (refine contA_of hK ?_; clear hK K'; simp only [go_sem, *]) | (simp only [thenA, inBlockA, go_sem, *]))
      have e := take_succ_getD (l := l) (i := j) (by assumption)
      refine ⟨_, (by omega), [some 0, some 1, some 2, some 3], [], _, _, _, (by (simp only [Weak, go_sem, List.map_append, List.map_set, *] <;> (try simp (disch := omega) only [wrap_succ]) <;> (try simp) <;> (try omega))), j + 1, updG p c g (l.getD j default), rfl, (by omega), (by rw [e, ← List.append_assoc]; exact hQ.one _), rfl, rfl, rfl⟩
    · have e2 : l.take j = l := List.take_of_length_le (by omega)
      rw [e2] at hQ
      have e := take_succ_getD (l := L) (i := i) (by omega)
      rw [hLg i hi2, hl] at e
      refine ⟨_, (by omega), [some 0, some 1, some 2, some 3], [], _, _, _, (by (simp only [Weak, go_sem, List.map_append, List.map_set, *] <;> (try simp (disch := omega) only [wrap_succ]) <;> (try simp) <;> (try omega))), i + 1, g, rfl, (by omega), (by rw [e]; simpa using hQ), rfl, rfl, rfl⟩
  · rw [List.take_of_length_le (by omega)] at hP
    have e := hP.fin (fun x hx hn => absurd (hcov x hx) hn)
    simp only [movesP] at e
    refine ⟨[_], [some 0], [], ⟨rfl, trivial⟩, ?_⟩
    simp only [go_sem, *]
end Go.Abs

namespace Go.Abs
open Go Go.Proofs
set_option maxRecDepth 10000
theorem sp_counted (p : Plan) (c : Change) (v : Valid p) (f : Fit p c) (k : c.kind = 3) : Spec Tryz.prog 171 [encPlan p, c.enc, .mp 0] [.mapo (keysP p) (movesP p fun h => [h])] (iV 0) [.mapo (keysP p) (movesP p (mv p c))] := by
  have hs : c.street.toNat < p.length := by have := f.street; omega
  have hs0 := f.street.1
  have hs1 := f.street.2
  have hr := v.row c.street
  have hl8 := hr.len
  have hbl : ∀ i, (halfL (rowAt p c.street) i).length ≤ 8 := fun i => Nat.le_trans (List.length_filter_le _ _) hl8
  obtain ⟨Fs, hFs⟩ : ∃ Fs : List Nat, Fs = [195, 196] := ⟨_, rfl⟩
  have hFb : Fs.map fnV = [fnV 195, fnV 196] := by rw [hFs]; rfl
  have hFl : Fs.length = 2 := by rw [hFs]; rfl
  have hsp : ∀ i, i < 2 → Spec Tryz.prog 194 [encStreet (rowAt p c.street), fnV (Fs.getD i default)] [] (.own 0 2 0 (halfL (rowAt p c.street) i).length) [.row 2 ((halfL (rowAt p c.street) i).map Plate.enc)] := fun i hi => by
    have : i = 0 ∨ i = 1 := by omega
    rcases this with rfl | rfl <;> rw [hFs]
    · exact sp_half (by kernel_rfl) (fun x => by simpa [prB] using sp_odd x) (rowAt p c.street) (by omega)
    · exact sp_half (by kernel_rfl) (fun x => by simpa [prB] using sp_even x) (rowAt p c.street) (by omega)
  clear hFs
  refine spec_body Tryz.func171 rfl (fun E hE => ?_); simp only [go_sem, Tryz.ntmps171]
  repeat' (first | (with_reducible (show runOps ..); first | (refine Qr rfl ?_; try intro K' hK; try simp only [go_sem, *])) | (with_reducible (show Hold ..); first | refine Qh rfl ?_ | refine s_draw rfl Tryz.mixed (by kernel_rfl) ?_ | (refine s_cond rfl ⟨_, rfl, fun hb => ?_, fun hb => ?_⟩ <;> (have hc := hb; try simp only [go_sem] at hc)) | refine s_ret rfl ?_) | ((with_reducible refine Qb ?_ ?_); focus kernel_rfl) | ((with_reducible refine And.intro ?_ ?_); focus omega) | (refine contA_of hK ?_; clear hK K'; simp only [go_sem, *]) | (simp only [thenA, inBlockA, go_sem, *]))
  refine s_loop rfl (fun zn zN zenv zAs => ∃ (i : Nat) (g : House → List House), zn = (2) - i ∧ i ≤ (2) ∧ (Upd p c g (((List.range i).map (halfL (rowAt p c.street))).flatten)) ∧ zN = 48 ∧ zenv = [(13, iV i), (12, iV 2), (11, .own 3 1 0 2), (4, .ptr 2 0), (3, .ptr 1 0), (2, .mp 0)] ∧ zAs = [.mapo (keysP p) (movesP p g), pBox p, cBox c, .row 1 (Fs.map fnV)]) (2) ⟨[some 0, some 1, some 2, some 3], [], _, _, _, (by (simp only [Weak, go_sem, List.map_append, List.map_set, *] <;> (try simp (disch := omega) only [wrap_succ]) <;> (try simp) <;> (try omega))), 0, fun h => [h], (by simp), (by simp), (by exact Upd.nil _ _), rfl, rfl, rfl⟩ ?_; rintro _ _ _ _ ⟨i, g, rfl, hi, hP, rfl, rfl, rfl⟩
  clear hFb
  repeat' (first | (with_reducible (show runOps ..); first | (refine Qr rfl ?_; try intro K' hK; try simp only [go_sem, *])) | (with_reducible (show Hold ..); first | refine Qh rfl ?_ | refine s_draw rfl Tryz.mixed (by kernel_rfl) ?_ | (refine s_cond rfl ⟨_, rfl, fun hb => ?_, fun hb => ?_⟩ <;> (have hc := hb; try simp only [go_sem] at hc)) | refine s_ret rfl ?_) | (with_reducible (show callA ..); first | (refine call_n (hsp i (by omega)) ?_ ?_ ?_ ?_; (focus (simp only [go_sem, *]; done)); (focus (first | (simp; done) | (simp [go_sem]; done))); (focus (first | (simp; done) | (simp [go_sem]; done))); simp only [go_sem, *])) | ((with_reducible refine Qb ?_ ?_); focus kernel_rfl) | ((with_reducible refine And.intro ?_ ?_); focus omega) | (refine contA_of hK ?_; clear hK K'; simp only [go_sem, *]) | (simp only [thenA, inBlockA, go_sem, *]))
  · have hi2 : i < 2 := by omega
    have hlb := hbl i
    generalize hl : halfL (rowAt p c.street) i = l at *
    refine s_loop rfl (fun zn zN zenv zAs => ∃ (j : Nat) (g : House → List House), zn = (l.length) - j ∧ j ≤ (l.length) ∧ (Upd p c g (((List.range i).map (halfL (rowAt p c.street))).flatten ++ l.take j)) ∧ zN = 48 ∧ zenv = [(27, iV j), (26, iV l.length), (25, .own 4 2 0 l.length), (7, iV i), (13, iV i), (12, iV 2), (11, .own 3 1 0 2), (4, .ptr 2 0), (3, .ptr 1 0), (2, .mp 0)] ∧ zAs = [.mapo (keysP p) (movesP p g), pBox p, cBox c, .row 1 (Fs.map fnV), .row 2 (l.map Plate.enc)]) (l.length) ⟨[some 0, some 1, some 2, some 3, some 4], [], _, _, _, (by (simp only [Weak, go_sem, List.map_append, List.map_set, *] <;> (try simp (disch := omega) only [wrap_succ]) <;> (try simp) <;> (try omega))), 0, g, (by simp), (by simp), (by simpa using hP), rfl, rfl, rfl⟩ ?_; rintro _ _ _ _ ⟨j, g, rfl, hj, hQ, rfl, rfl, rfl⟩
    have hw1 : j < l.length → IntKind.i64.wrap (2 * (j : Int)) = 2 * (j : Int) := fun h => wrap_i64 (by omega) (by omega)
    have hw2 : j < l.length → IntKind.i64.wrap (2 * (j : Int) + 1) = 2 * (j : Int) + 1 := fun h => wrap_i64 (by omega) (by omega)
    have hw3 : j < l.length → IntKind.i64.wrap (2 * (j : Int) + 1 + (i : Int)) = 2 * (j : Int) + 1 + (i : Int) := fun h => wrap_i64 (by omega) (by omega)
    repeat' (first | (with_reducible (show runOps ..); first | (refine Qr rfl ?_; try intro K' hK; try simp only [go_sem, *])) | (with_reducible (show Hold ..); first | refine Qh rfl ?_ | refine s_draw rfl Tryz.mixed (by kernel_rfl) ?_ | (refine s_cond rfl ⟨_, rfl, fun hb => ?_, fun hb => ?_⟩ <;> (have hc := hb; try simp only [go_sem] at hc)) | refine s_ret rfl ?_) | (with_reducible (show callA ..); first | (refine call_s (sp_at _ _ _) ?_ ?_; (focus (simp only [go_sem, *]; done)); simp only [go_sem, *])) | ((with_reducible refine Qb ?_ ?_); focus kernel_rfl) | ((with_reducible refine And.intro ?_ ?_); focus omega) | (refine contA_of hK ?_; clear hK K'; simp only [go_sem, *]) | (simp only [thenA, inBlockA, go_sem, *]))
    · have hmj : l.getD j default ∈ l := getD_mem (by assumption)
      have hown := halfL_own hr (i := i) (y := l.getD j default) (by rw [hl]; exact hmj)
      have hjx : l.idxOf (l.getD j default) = j := by have := halfL_get hr (i := i) (j := j) (by rw [hl]; assumption); rwa [hl] at this
      have hpar := halfL_par hr hi2 (y := l.getD j default) (by rw [hl]; exact hmj)
      refine upd_mv [⟨c.street, ⟨2 * (j : Int) + 1 + (i : Int), 0⟩⟩] (g := g) (x := l.getD j default) v hs0 hs1 (halfL_sub (i := i) (by rw [hl]; exact hmj)) (by simp only [go_sem, *]) (by simp only [go_sem, *]) rfl rfl (by rw [to_count k, hown, hl, hjx, hpar]; congr 3; omega) ?_
      simp only [go_sem, *]
      repeat' (first | (with_reducible (show runOps ..); first | (refine Qr rfl ?_; try intro K' hK; try simp only [go_sem, *])) | (with_reducible (show Hold ..); first | refine Qh rfl ?_ | refine s_draw rfl Tryz.mixed (by kernel_rfl) ?_ | (refine s_cond rfl ⟨_, rfl, fun hb => ?_, fun hb => ?_⟩ <;> (have hc := hb; try simp only [go_sem] at hc)) | refine s_ret rfl ?_) | ((with_reducible refine Qb ?_ ?_); focus kernel_rfl) | ((with_reducible refine And.intro ?_ ?_); focus omega) | (refine contA_of hK ?_; clear hK K'; simp only [go_sem, *]) | (simp only [thenA, inBlockA, go_sem, *]))
      have e := take_succ_getD (l := l) (i := j) (by assumption)
      refine ⟨_, (by omega), [some 0, some 1, some 2, some 3, some 4], [], _, _, _, (by (simp only [Weak, go_sem, List.map_append, List.map_set, *] <;> (try simp (disch := omega) only [wrap_succ]) <;> (try simp) <;> (try omega))), j + 1, updG p c g (l.getD j default), rfl, (by omega), (by rw [e, ← List.append_assoc]; exact hQ.one _), rfl, rfl, rfl⟩
    · have e2 : l.take j = l := List.take_of_length_le (by omega)
      rw [e2] at hQ
      refine ⟨_, (by omega), [some 0, some 1, some 2, some 3], [], _, _, _, (by (simp only [Weak, go_sem, List.map_append, List.map_set, *] <;> (try simp (disch := omega) only [wrap_succ]) <;> (try simp) <;> (try omega))), i + 1, g, rfl, (by omega), (by rw [List.range_succ]; simpa [hl] using hQ), rfl, rfl, rfl⟩
  · have hi2 : i = 2 := by omega
    subst hi2
    have e := hP.fin (fun x hx hn => absurd (by rcases halfL_cov hx with h | h <;> simp [List.range_succ, h]) hn)
    simp only [movesP] at e
    refine ⟨[_], [some 0], [], ⟨rfl, trivial⟩, ?_⟩
    simp only [go_sem, *]
end Go.Abs

namespace Go.Abs
open Go Go.Proofs
set_option maxRecDepth 10000
theorem foldl_max_le (m : Int) : ∀ (l : List Plate) (n : Int), n ≤ m → (∀ x, x ∈ l → x.number ≤ m) → l.foldl (fun n x => max n x.number) n ≤ m
  | [], n, h, _ => h
  | x :: r, n, h, hx => by
    rw [List.foldl_cons]
    have := hx x (by simp)
    exact foldl_max_le m r _ (by omega) (fun y hy => hx y (by simp [hy]))
theorem foldl_max_ge : ∀ (l : List Plate) (n : Int), n ≤ l.foldl (fun n x => max n x.number) n ∧ ∀ x, x ∈ l → x.number ≤ l.foldl (fun n x => max n x.number) n
  | [], n => by simp
  | y :: r, n => by
    obtain ⟨h1, h2⟩ := foldl_max_ge r (max n y.number)
    rw [List.foldl_cons]
    exact ⟨by omega, fun x hx => by rcases List.mem_cons.1 hx with rfl | hx; · omega
                                    · exact h2 x hx⟩
theorem base_last {l : List Plate} (h : Sound l) (h0 : 0 < l.length) : base l = (l.getD (l.length - 1) default).number + (l.getD (l.length - 1) default).number.tmod 2 := by
  have hm : l.getD (l.length - 1) default ∈ l := getD_mem (by omega)
  have hle : ∀ x, x ∈ l → x.number ≤ (l.getD (l.length - 1) default).number := fun x hx => by
    obtain ⟨i, hi, rfl⟩ := List.getElem_of_mem hx
    have hg : l.getD (l.length - 1) default = l[l.length - 1] := by simp [List.getD, show l.length - 1 < l.length by omega]
    rw [hg]
    by_cases e : i = l.length - 1
    · subst e; omega
    · have := (List.pairwise_iff_getElem.1 h.sorted) i (l.length - 1) hi (by omega) (by omega)
      rw [Plate.lt_iff] at this; omega
  have ho := (ok_iff _).1 (h.ok _ hm)
  have h1 := foldl_max_le _ l 0 (by omega) hle
  have h2 := (foldl_max_ge l 0).2 _ hm
  unfold base
  rw [tmod_two (by omega)]
  simp only
  omega
theorem base_le {l : List Plate} (h : Sound l) : 0 ≤ base l ∧ base l ≤ 41 := by
  have h1 := foldl_max_le 40 l 0 (by omega) (fun x hx => ((ok_iff x).1 (h.ok x hx)).1.2)
  have h2 := base_nonneg l
  unfold base at *
  simp only at *
  omega
theorem fitsE_join {p : Plan} {c : Change} (h : c.kind = 4) : fitsE p c = if 8 < (rowAt p c.street).length + (rowAt p c.other).length then 6 else if (rowAt p c.street).any (fun x => decide (40 < x.number + base (rowAt p c.other))) = true then 1 else 0 := by
  unfold fitsE; rw [if_pos h]
@[go_sem] theorem natCast_gt8 (n : Nat) : ((8 : Int) < (n : Int)) = (8 < n) := by simp; omega
def JoinP (p : Plan) (c : Change) (g : House → List House) (i : Nat) : Prop := Upd p c g ((rowAt p c.street).take i) ∧ ∀ x, x ∈ (rowAt p c.street).take i → x.number + base (rowAt p c.other) ≤ 40
theorem JoinP.next {p : Plan} {c : Change} {g : House → List House} {i : Nat} (h : JoinP p c g i) (hi : i < (rowAt p c.street).length) (hx : ((rowAt p c.street).getD i default).number + base (rowAt p c.other) ≤ 40) : JoinP p c (updG p c g ((rowAt p c.street).getD i default)) (i + 1) := by
  have e := take_succ_getD (l := rowAt p c.street) (i := i) hi
  refine ⟨by rw [e]; exact h.1.one _, fun x hm => ?_⟩
  rw [e] at hm
  rcases List.mem_append.1 hm with hm | hm
  · exact h.2 x hm
  · simp only [List.mem_cons, List.not_mem_nil, or_false] at hm; subst hm; exact hx
theorem sp_joined (p : Plan) (c : Change) (v : Valid p) (f : Pre p c) (k : c.kind = 4) : Spec Tryz.prog 172 [encPlan p, c.enc, .mp 0] [.mapo (keysP p) (movesP p fun h => [h])] (iV (fitsE p c)) [outM p c] := by
  have hs0 := f.street.1
  have hs1 := f.street.2
  obtain ⟨ht0, ht1, _⟩ := f.other (.inl k)
  have hs : c.street.toNat < p.length := by omega
  have ht : c.other.toNat < p.length := by omega
  have hr := v.row c.street
  have hro := v.row c.other
  have hl8 := hr.len
  have ho8 := hro.len
  have hbb := base_le hro
  have hwl : IntKind.i64.wrap (((rowAt p c.street).length : Int) + ((rowAt p c.other).length : Int)) = (((rowAt p c.street).length + (rowAt p c.other).length : Nat) : Int) := by rw [wrap_i64 (by omega) (by omega)]; omega
  have hwn : 0 < (rowAt p c.other).length → IntKind.i64.wrap (((rowAt p c.other).length : Int) - 1) = (((rowAt p c.other).length - 1 : Nat) : Int) := fun h => by rw [wrap_i64 (by omega) (by omega)]; omega
  have hlt : 0 < (rowAt p c.other).length → (rowAt p c.other).length - 1 < (rowAt p c.other).length := fun h => by omega
  have hwb : 0 < (rowAt p c.other).length → IntKind.i64.wrap (((rowAt p c.other).getD ((rowAt p c.other).length - 1) default).number + ((rowAt p c.other).getD ((rowAt p c.other).length - 1) default).number.tmod 2) = base (rowAt p c.other) := fun h => by
    have e := base_last hro h
    rw [← e, wrap_i64 (by omega) (by omega)]
  have hb0 : (rowAt p c.other).length ≤ 0 → base (rowAt p c.other) = 0 := fun h => by rw [List.eq_nil_of_length_eq_zero (by omega : (rowAt p c.other).length = 0)]; rfl
  refine spec_body Tryz.func172 rfl (fun E hE => ?_); simp only [go_sem, Tryz.ntmps172]
  repeat' (first | (with_reducible (show runOps ..); first | (refine Qr rfl ?_; try intro K' hK; try simp only [go_sem, *])) | (with_reducible (show Hold ..); first | refine Qh rfl ?_ | refine s_draw rfl Tryz.mixed (by kernel_rfl) ?_ | (refine s_cond rfl ⟨_, rfl, fun hb => ?_, fun hb => ?_⟩ <;> (have hc := hb; try simp only [go_sem] at hc)) | refine s_ret rfl ?_) | ((with_reducible refine Qb ?_ ?_); focus kernel_rfl) | ((with_reducible refine And.intro ?_ ?_); focus omega) | (refine contA_of hK ?_; clear hK K'; simp only [go_sem, *]) | (simp only [thenA, inBlockA, go_sem, *]))
  · have e : fitsE p c = 6 := by rw [fitsE_join k, if_pos (by omega)]
    have e2 : outM p c = .dead := by simp [outM, e]
    refine ⟨[_], [some 0], [], ⟨rfl, trivial⟩, ?_⟩
    simp only [go_sem, e, e2]
  all_goals
    have hnb : ¬ 8 < (rowAt p c.street).length + (rowAt p c.other).length := by omega
    refine s_loop rfl (fun zn zN zenv zAs => ∃ (i : Nat) (g : House → List House), zn = ((rowAt p c.street).length) - i ∧ i ≤ ((rowAt p c.street).length) ∧ (JoinP p c g i) ∧ zN = 76 ∧ zenv = [(51, iV i), (50, iV (rowAt p c.street).length), (49, encStreet (rowAt p c.street)), (9, iV (base (rowAt p c.other))), (4, .ptr 2 0), (3, .ptr 1 0), (2, .mp 0)] ∧ zAs = [.mapo (keysP p) (movesP p g), pBox p, cBox c]) ((rowAt p c.street).length) ⟨[some 0, some 1, some 2], [], _, _, _, (by (simp only [Weak, go_sem, List.map_append, List.map_set, *] <;> (try simp (disch := omega) only [wrap_succ]) <;> (try simp) <;> (try omega))), 0, fun h => [h], (by simp), (by simp), (by exact ⟨Upd.nil _ _, by simp⟩), rfl, rfl, rfl⟩ ?_; rintro _ _ _ _ ⟨i, g, rfl, hi, hP, rfl, rfl, rfl⟩
    clear hb0 hwb hlt hwn hwl
    have hx : i < (rowAt p c.street).length → 1 ≤ ((rowAt p c.street).getD i default).number ∧ ((rowAt p c.street).getD i default).number ≤ 40 := fun h => ((ok_iff _).1 (hr.ok _ (getD_mem h))).1
    have hw1 : i < (rowAt p c.street).length → IntKind.i64.wrap (((rowAt p c.street).getD i default).number + base (rowAt p c.other)) = ((rowAt p c.street).getD i default).number + base (rowAt p c.other) := fun h => by have := hx h; exact wrap_i64 (by omega) (by omega)
    repeat' (first | (with_reducible (show runOps ..); first | (refine Qr rfl ?_; try intro K' hK; try simp only [go_sem, *])) | (with_reducible (show Hold ..); first | refine Qh rfl ?_ | refine s_draw rfl Tryz.mixed (by kernel_rfl) ?_ | (refine s_cond rfl ⟨_, rfl, fun hb => ?_, fun hb => ?_⟩ <;> (have hc := hb; try simp only [go_sem] at hc)) | refine s_ret rfl ?_) | (with_reducible (show callA ..); first | (refine call_s (sp_at _ _ _) ?_ ?_; (focus (simp only [go_sem, *]; done)); simp only [go_sem, *])) | ((with_reducible refine Qb ?_ ?_); focus kernel_rfl) | ((with_reducible refine And.intro ?_ ?_); focus omega) | (refine contA_of hK ?_; clear hK K'; simp only [go_sem, *]) | (simp only [thenA, inBlockA, go_sem, *]))
    · have e : fitsE p c = 1 := by
        rw [fitsE_join k, if_neg hnb, if_pos]
        rw [List.any_eq_true]
        exact ⟨_, getD_mem (by assumption), by simpa using (by assumption : (40 : Int) < ((rowAt p c.street).getD i default).number + base (rowAt p c.other))⟩
      have e2 : outM p c = .dead := by simp [outM, e]
      refine ⟨[_], [some 0], [], ⟨rfl, trivial⟩, ?_⟩
      simp only [go_sem, e, e2]
    · refine upd_mv [⟨c.other, ⟨((rowAt p c.street).getD i default).number + base (rowAt p c.other), ((rowAt p c.street).getD i default).letter⟩⟩] (g := g) (x := (rowAt p c.street).getD i default) v hs0 hs1 (getD_mem (by assumption)) (by simp only [go_sem, *]) (by simp only [go_sem, *]) rfl rfl (by rw [to_join k]) ?_
      simp only [go_sem, *]
      repeat' (first | (with_reducible (show runOps ..); first | (refine Qr rfl ?_; try intro K' hK; try simp only [go_sem, *])) | (with_reducible (show Hold ..); first | refine Qh rfl ?_ | refine s_draw rfl Tryz.mixed (by kernel_rfl) ?_ | (refine s_cond rfl ⟨_, rfl, fun hb => ?_, fun hb => ?_⟩ <;> (have hc := hb; try simp only [go_sem] at hc)) | refine s_ret rfl ?_) | ((with_reducible refine Qb ?_ ?_); focus kernel_rfl) | ((with_reducible refine And.intro ?_ ?_); focus omega) | (refine contA_of hK ?_; clear hK K'; simp only [go_sem, *]) | (simp only [thenA, inBlockA, go_sem, *]))
      refine ⟨_, (by omega), [some 0, some 1, some 2], [], _, _, _, (by (simp only [Weak, go_sem, List.map_append, List.map_set, *] <;> (try simp (disch := omega) only [wrap_succ]) <;> (try simp) <;> (try omega))), i + 1, updG p c g ((rowAt p c.street).getD i default), rfl, (by omega), (by exact hP.next (by assumption) (by assumption)), rfl, rfl, rfl⟩
    · unfold JoinP at hP
      rw [List.take_of_length_le (by omega)] at hP
      have e0 := hP.1.fin (fun x hx hn => absurd hx hn)
      have e : fitsE p c = 0 := by
        rw [fitsE_join k, if_neg hnb, if_neg]
        rw [List.any_eq_true]
        rintro ⟨x, hx, h⟩
        have := hP.2 x hx
        simp at h; omega
      have e2 : outM p c = .mapo (keysP p) (movesP p g) := by rw [e0]; simp [outM, e]
      refine ⟨[_], [some 0], [], ⟨rfl, trivial⟩, ?_⟩
      simp only [go_sem, e, e2]
end Go.Abs

