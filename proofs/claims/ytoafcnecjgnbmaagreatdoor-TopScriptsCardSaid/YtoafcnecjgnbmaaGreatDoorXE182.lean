/-
  What is built of a package, and the law TopScripts at it, by the kernel.
-/
import Derived.Test.YtoafcnecjgnbmaaGreatDoorXE172
set_option linter.unusedVariables false
set_option linter.unusedSimpArgs false
namespace Go.Proofs.YtoafcnecjgnbmaaGreatDoor.E
open Go
set_option maxRecDepth 100000
theorem sh1_0 (b : Bool) : hxB d1_0 b = b := by kernel_rfl
theorem sp1_0 (b : Bool) : paB d1_0 b = b := by kernel_rfl
theorem sb1_0 : bldT (tbS (ar0 98, d1_0)) (be0 98 d1_0) true = true := by kernel_rfl
theorem sr1_0 (b : Bool) : scrB (ar0 98, d1_0) (be0 98 d1_0) 1 0 b = b := by kernel_rfl
theorem ca1_0 : CaseOk (ar0 98, d1_0) (be0 98 d1_0) 1 0 := ⟨by kernel_rfl, sa1_0 true, so1_0 true, sh1_0 true, sp1_0 true, fun h => bldT_ok (tbS_ok h) sb1_0, sr1_0 true⟩
theorem sh1_1 (b : Bool) : hxB d1_1 b = b := by kernel_rfl
theorem sp1_1 (b : Bool) : paB d1_1 b = b := by kernel_rfl
theorem sb1_1 : bldT (tbS (ar1 98, d1_1)) (be1 98 d1_1) true = true := by kernel_rfl
theorem sr1_1 (b : Bool) : scrB (ar1 98, d1_1) (be1 98 d1_1) 1 1 b = b := by kernel_rfl
theorem ca1_1 : CaseOk (ar1 98, d1_1) (be1 98 d1_1) 1 1 := ⟨by kernel_rfl, sa1_1 true, so1_1 true, sh1_1 true, sp1_1 true, fun h => bldT_ok (tbS_ok h) sb1_1, sr1_1 true⟩
theorem sh1_2 (b : Bool) : hxB d1_2 b = b := by kernel_rfl
theorem sp1_2 (b : Bool) : paB d1_2 b = b := by kernel_rfl
theorem sb1_2 : bldT (tbS (ar2 98, d1_2)) (be2 98 d1_2) true = true := by kernel_rfl
theorem sr1_2 (b : Bool) : scrB (ar2 98, d1_2) (be2 98 d1_2) 1 2 b = b := by kernel_rfl
theorem ca1_2 : CaseOk (ar2 98, d1_2) (be2 98 d1_2) 1 2 := ⟨by kernel_rfl, sa1_2 true, so1_2 true, sh1_2 true, sp1_2 true, fun h => bldT_ok (tbS_ok h) sb1_2, sr1_2 true⟩
theorem sh1_3 (b : Bool) : hxB d1_3 b = b := by kernel_rfl
theorem sp1_3 (b : Bool) : paB d1_3 b = b := by kernel_rfl
theorem sb1_3 : bldT (tbS (ar3 98, d1_3)) (be3 98 d1_3) true = true := by kernel_rfl
theorem sr1_3 (b : Bool) : scrB (ar3 98, d1_3) (be3 98 d1_3) 1 3 b = b := by kernel_rfl
theorem ca1_3 : CaseOk (ar3 98, d1_3) (be3 98 d1_3) 1 3 := ⟨by kernel_rfl, sa1_3 true, so1_3 true, sh1_3 true, sp1_3 true, fun h => bldT_ok (tbS_ok h) sb1_3, sr1_3 true⟩
theorem sh1_4 (b : Bool) : hxB d1_4 b = b := by kernel_rfl
theorem sp1_4 (b : Bool) : paB d1_4 b = b := by kernel_rfl
theorem sb1_4 : bldT (tbS (ar4 98, d1_4)) (be4 98 d1_4) true = true := by kernel_rfl
theorem sr1_4 (b : Bool) : scrB (ar4 98, d1_4) (be4 98 d1_4) 1 4 b = b := by kernel_rfl
theorem ca1_4 : CaseOk (ar4 98, d1_4) (be4 98 d1_4) 1 4 := ⟨by kernel_rfl, sa1_4 true, so1_4 true, sh1_4 true, sp1_4 true, fun h => bldT_ok (tbS_ok h) sb1_4, sr1_4 true⟩
theorem sh1_5 (b : Bool) : hxB d1_5 b = b := by kernel_rfl
theorem sp1_5 (b : Bool) : paB d1_5 b = b := by kernel_rfl
theorem sb1_5 : bldT (tbS (ar5 98, d1_5)) (be5 98 d1_5) true = true := by kernel_rfl
theorem sr1_5 (b : Bool) : scrB (ar5 98, d1_5) (be5 98 d1_5) 1 5 b = b := by kernel_rfl
theorem ca1_5 : CaseOk (ar5 98, d1_5) (be5 98 d1_5) 1 5 := ⟨by kernel_rfl, sa1_5 true, so1_5 true, sh1_5 true, sp1_5 true, fun h => bldT_ok (tbS_ok h) sb1_5, sr1_5 true⟩
theorem sh1_6 (b : Bool) : hxB d1_6 b = b := by kernel_rfl
theorem sp1_6 (b : Bool) : paB d1_6 b = b := by kernel_rfl
theorem sb1_6 : bldT (tbS (ar6 98, d1_6)) (be6 98 d1_6) true = true := by kernel_rfl
theorem sr1_6 (b : Bool) : scrB (ar6 98, d1_6) (be6 98 d1_6) 1 6 b = b := by kernel_rfl
theorem ca1_6 : CaseOk (ar6 98, d1_6) (be6 98 d1_6) 1 6 := ⟨by kernel_rfl, sa1_6 true, so1_6 true, sh1_6 true, sp1_6 true, fun h => bldT_ok (tbS_ok h) sb1_6, sr1_6 true⟩
theorem sh1_7 (b : Bool) : hxB d1_7 b = b := by kernel_rfl
theorem sp1_7 (b : Bool) : paB d1_7 b = b := by kernel_rfl
theorem sb1_7 : bldT (tb7 (ar7 98, d1_7)) (be7 98 d1_7) true = true := by kernel_rfl
theorem sr1_7 (b : Bool) : scrB (ar7 98, d1_7) (be7 98 d1_7) 1 7 b = b := by kernel_rfl
theorem ca1_7 : CaseOk (ar7 98, d1_7) (be7 98 d1_7) 1 7 := ⟨by kernel_rfl, sa1_7 true, so1_7 true, sh1_7 true, sp1_7 true, fun h => bldT_ok (tb7_ok h) sb1_7, sr1_7 true⟩
theorem sh1_8 (b : Bool) : hxB d1_8 b = b := by kernel_rfl
theorem sp1_8 (b : Bool) : paB d1_8 b = b := by kernel_rfl
theorem sb1_8 : bldT (tbS (ar8 98, d1_8)) (be8 98 d1_8) true = true := by kernel_rfl
theorem sr1_8 (b : Bool) : scrB (ar8 98, d1_8) (be8 98 d1_8) 1 8 b = b := by kernel_rfl
theorem ca1_8 : CaseOk (ar8 98, d1_8) (be8 98 d1_8) 1 8 := ⟨by kernel_rfl, sa1_8 true, so1_8 true, sh1_8 true, sp1_8 true, fun h => bldT_ok (tbS_ok h) sb1_8, sr1_8 true⟩
theorem sh1_9 (b : Bool) : hxB d1_9 b = b := by kernel_rfl
theorem sp1_9 (b : Bool) : paB d1_9 b = b := by kernel_rfl
theorem sb1_9 : bldT (tbS (ar9 98, d1_9)) (be9 98 d1_9) true = true := by kernel_rfl
theorem sr1_9 (b : Bool) : scrB (ar9 98, d1_9) (be9 98 d1_9) 1 9 b = b := by kernel_rfl
theorem ca1_9 : CaseOk (ar9 98, d1_9) (be9 98 d1_9) 1 9 := ⟨by kernel_rfl, sa1_9 true, so1_9 true, sh1_9 true, sp1_9 true, fun h => bldT_ok (tbS_ok h) sb1_9, sr1_9 true⟩
end Go.Proofs.YtoafcnecjgnbmaaGreatDoor.E
