/-
  What is built of a package, and the law TopScripts at it, by the kernel.
-/
import Derived.Test.YtoafcnecjgnbmaaGreatDoorXE175
set_option linter.unusedVariables false
set_option linter.unusedSimpArgs false
namespace Go.Proofs.YtoafcnecjgnbmaaGreatDoor.E
open Go
set_option maxRecDepth 100000
theorem sh4_0 (b : Bool) : hxB d4_0 b = b := by kernel_rfl
theorem sp4_0 (b : Bool) : paB d4_0 b = b := by kernel_rfl
theorem sb4_0 : bldT (tbS (ar0 101, d4_0)) (be0 101 d4_0) true = true := by kernel_rfl
theorem sr4_0 (b : Bool) : scrB (ar0 101, d4_0) (be0 101 d4_0) 4 0 b = b := by kernel_rfl
theorem ca4_0 : CaseOk (ar0 101, d4_0) (be0 101 d4_0) 4 0 := ⟨by kernel_rfl, sa4_0 true, so4_0 true, sh4_0 true, sp4_0 true, fun h => bldT_ok (tbS_ok h) sb4_0, sr4_0 true⟩
theorem sh4_1 (b : Bool) : hxB d4_1 b = b := by kernel_rfl
theorem sp4_1 (b : Bool) : paB d4_1 b = b := by kernel_rfl
theorem sb4_1 : bldT (tbS (ar1 101, d4_1)) (be1 101 d4_1) true = true := by kernel_rfl
theorem sr4_1 (b : Bool) : scrB (ar1 101, d4_1) (be1 101 d4_1) 4 1 b = b := by kernel_rfl
theorem ca4_1 : CaseOk (ar1 101, d4_1) (be1 101 d4_1) 4 1 := ⟨by kernel_rfl, sa4_1 true, so4_1 true, sh4_1 true, sp4_1 true, fun h => bldT_ok (tbS_ok h) sb4_1, sr4_1 true⟩
theorem sh4_2 (b : Bool) : hxB d4_2 b = b := by kernel_rfl
theorem sp4_2 (b : Bool) : paB d4_2 b = b := by kernel_rfl
theorem sb4_2 : bldT (tbS (ar2 101, d4_2)) (be2 101 d4_2) true = true := by kernel_rfl
theorem sr4_2 (b : Bool) : scrB (ar2 101, d4_2) (be2 101 d4_2) 4 2 b = b := by kernel_rfl
theorem ca4_2 : CaseOk (ar2 101, d4_2) (be2 101 d4_2) 4 2 := ⟨by kernel_rfl, sa4_2 true, so4_2 true, sh4_2 true, sp4_2 true, fun h => bldT_ok (tbS_ok h) sb4_2, sr4_2 true⟩
theorem sh4_3 (b : Bool) : hxB d4_3 b = b := by kernel_rfl
theorem sp4_3 (b : Bool) : paB d4_3 b = b := by kernel_rfl
theorem sb4_3 : bldT (tbS (ar3 101, d4_3)) (be3 101 d4_3) true = true := by kernel_rfl
theorem sr4_3 (b : Bool) : scrB (ar3 101, d4_3) (be3 101 d4_3) 4 3 b = b := by kernel_rfl
theorem ca4_3 : CaseOk (ar3 101, d4_3) (be3 101 d4_3) 4 3 := ⟨by kernel_rfl, sa4_3 true, so4_3 true, sh4_3 true, sp4_3 true, fun h => bldT_ok (tbS_ok h) sb4_3, sr4_3 true⟩
theorem sh4_4 (b : Bool) : hxB d4_4 b = b := by kernel_rfl
theorem sp4_4 (b : Bool) : paB d4_4 b = b := by kernel_rfl
theorem sb4_4 : bldT (tbS (ar4 101, d4_4)) (be4 101 d4_4) true = true := by kernel_rfl
theorem sr4_4 (b : Bool) : scrB (ar4 101, d4_4) (be4 101 d4_4) 4 4 b = b := by kernel_rfl
theorem ca4_4 : CaseOk (ar4 101, d4_4) (be4 101 d4_4) 4 4 := ⟨by kernel_rfl, sa4_4 true, so4_4 true, sh4_4 true, sp4_4 true, fun h => bldT_ok (tbS_ok h) sb4_4, sr4_4 true⟩
theorem sh4_5 (b : Bool) : hxB d4_5 b = b := by kernel_rfl
theorem sp4_5 (b : Bool) : paB d4_5 b = b := by kernel_rfl
theorem sb4_5 : bldT (tbS (ar5 101, d4_5)) (be5 101 d4_5) true = true := by kernel_rfl
theorem sr4_5 (b : Bool) : scrB (ar5 101, d4_5) (be5 101 d4_5) 4 5 b = b := by kernel_rfl
theorem ca4_5 : CaseOk (ar5 101, d4_5) (be5 101 d4_5) 4 5 := ⟨by kernel_rfl, sa4_5 true, so4_5 true, sh4_5 true, sp4_5 true, fun h => bldT_ok (tbS_ok h) sb4_5, sr4_5 true⟩
theorem sh4_6 (b : Bool) : hxB d4_6 b = b := by kernel_rfl
theorem sp4_6 (b : Bool) : paB d4_6 b = b := by kernel_rfl
theorem sb4_6 : bldT (tbS (ar6 101, d4_6)) (be6 101 d4_6) true = true := by kernel_rfl
theorem sr4_6 (b : Bool) : scrB (ar6 101, d4_6) (be6 101 d4_6) 4 6 b = b := by kernel_rfl
theorem ca4_6 : CaseOk (ar6 101, d4_6) (be6 101 d4_6) 4 6 := ⟨by kernel_rfl, sa4_6 true, so4_6 true, sh4_6 true, sp4_6 true, fun h => bldT_ok (tbS_ok h) sb4_6, sr4_6 true⟩
theorem sh4_7 (b : Bool) : hxB d4_7 b = b := by kernel_rfl
theorem sp4_7 (b : Bool) : paB d4_7 b = b := by kernel_rfl
theorem sb4_7 : bldT (tb7 (ar7 101, d4_7)) (be7 101 d4_7) true = true := by kernel_rfl
theorem sr4_7 (b : Bool) : scrB (ar7 101, d4_7) (be7 101 d4_7) 4 7 b = b := by kernel_rfl
theorem ca4_7 : CaseOk (ar7 101, d4_7) (be7 101 d4_7) 4 7 := ⟨by kernel_rfl, sa4_7 true, so4_7 true, sh4_7 true, sp4_7 true, fun h => bldT_ok (tb7_ok h) sb4_7, sr4_7 true⟩
theorem sh4_8 (b : Bool) : hxB d4_8 b = b := by kernel_rfl
theorem sp4_8 (b : Bool) : paB d4_8 b = b := by kernel_rfl
theorem sb4_8 : bldT (tbS (ar8 101, d4_8)) (be8 101 d4_8) true = true := by kernel_rfl
theorem sr4_8 (b : Bool) : scrB (ar8 101, d4_8) (be8 101 d4_8) 4 8 b = b := by kernel_rfl
theorem ca4_8 : CaseOk (ar8 101, d4_8) (be8 101 d4_8) 4 8 := ⟨by kernel_rfl, sa4_8 true, so4_8 true, sh4_8 true, sp4_8 true, fun h => bldT_ok (tbS_ok h) sb4_8, sr4_8 true⟩
theorem sh4_9 (b : Bool) : hxB d4_9 b = b := by kernel_rfl
theorem sp4_9 (b : Bool) : paB d4_9 b = b := by kernel_rfl
theorem sb4_9 : bldT (tbS (ar9 101, d4_9)) (be9 101 d4_9) true = true := by kernel_rfl
theorem sr4_9 (b : Bool) : scrB (ar9 101, d4_9) (be9 101 d4_9) 4 9 b = b := by kernel_rfl
theorem ca4_9 : CaseOk (ar9 101, d4_9) (be9 101 d4_9) 4 9 := ⟨by kernel_rfl, sa4_9 true, so4_9 true, sh4_9 true, sp4_9 true, fun h => bldT_ok (tbS_ok h) sb4_9, sr4_9 true⟩
end Go.Proofs.YtoafcnecjgnbmaaGreatDoor.E
