/-
  What is built of a package, and the law TopScripts at it, by the kernel.
-/
import Derived.Test.YtoafcnecjgnbmaaGreatDoorXE174
set_option linter.unusedVariables false
set_option linter.unusedSimpArgs false
namespace Go.Proofs.YtoafcnecjgnbmaaGreatDoor.E
open Go
set_option maxRecDepth 100000
theorem sh3_0 (b : Bool) : hxB d3_0 b = b := by kernel_rfl
theorem sp3_0 (b : Bool) : paB d3_0 b = b := by kernel_rfl
theorem sb3_0 : bldT (tbS (ar0 100, d3_0)) (be0 100 d3_0) true = true := by kernel_rfl
theorem sr3_0 (b : Bool) : scrB (ar0 100, d3_0) (be0 100 d3_0) 3 0 b = b := by kernel_rfl
theorem ca3_0 : CaseOk (ar0 100, d3_0) (be0 100 d3_0) 3 0 := ⟨by kernel_rfl, sa3_0 true, so3_0 true, sh3_0 true, sp3_0 true, fun h => bldT_ok (tbS_ok h) sb3_0, sr3_0 true⟩
theorem sh3_1 (b : Bool) : hxB d3_1 b = b := by kernel_rfl
theorem sp3_1 (b : Bool) : paB d3_1 b = b := by kernel_rfl
theorem sb3_1 : bldT (tbS (ar1 100, d3_1)) (be1 100 d3_1) true = true := by kernel_rfl
theorem sr3_1 (b : Bool) : scrB (ar1 100, d3_1) (be1 100 d3_1) 3 1 b = b := by kernel_rfl
theorem ca3_1 : CaseOk (ar1 100, d3_1) (be1 100 d3_1) 3 1 := ⟨by kernel_rfl, sa3_1 true, so3_1 true, sh3_1 true, sp3_1 true, fun h => bldT_ok (tbS_ok h) sb3_1, sr3_1 true⟩
theorem sh3_2 (b : Bool) : hxB d3_2 b = b := by kernel_rfl
theorem sp3_2 (b : Bool) : paB d3_2 b = b := by kernel_rfl
theorem sb3_2 : bldT (tbS (ar2 100, d3_2)) (be2 100 d3_2) true = true := by kernel_rfl
theorem sr3_2 (b : Bool) : scrB (ar2 100, d3_2) (be2 100 d3_2) 3 2 b = b := by kernel_rfl
theorem ca3_2 : CaseOk (ar2 100, d3_2) (be2 100 d3_2) 3 2 := ⟨by kernel_rfl, sa3_2 true, so3_2 true, sh3_2 true, sp3_2 true, fun h => bldT_ok (tbS_ok h) sb3_2, sr3_2 true⟩
theorem sh3_3 (b : Bool) : hxB d3_3 b = b := by kernel_rfl
theorem sp3_3 (b : Bool) : paB d3_3 b = b := by kernel_rfl
theorem sb3_3 : bldT (tbS (ar3 100, d3_3)) (be3 100 d3_3) true = true := by kernel_rfl
theorem sr3_3 (b : Bool) : scrB (ar3 100, d3_3) (be3 100 d3_3) 3 3 b = b := by kernel_rfl
theorem ca3_3 : CaseOk (ar3 100, d3_3) (be3 100 d3_3) 3 3 := ⟨by kernel_rfl, sa3_3 true, so3_3 true, sh3_3 true, sp3_3 true, fun h => bldT_ok (tbS_ok h) sb3_3, sr3_3 true⟩
theorem sh3_4 (b : Bool) : hxB d3_4 b = b := by kernel_rfl
theorem sp3_4 (b : Bool) : paB d3_4 b = b := by kernel_rfl
theorem sb3_4 : bldT (tbS (ar4 100, d3_4)) (be4 100 d3_4) true = true := by kernel_rfl
theorem sr3_4 (b : Bool) : scrB (ar4 100, d3_4) (be4 100 d3_4) 3 4 b = b := by kernel_rfl
theorem ca3_4 : CaseOk (ar4 100, d3_4) (be4 100 d3_4) 3 4 := ⟨by kernel_rfl, sa3_4 true, so3_4 true, sh3_4 true, sp3_4 true, fun h => bldT_ok (tbS_ok h) sb3_4, sr3_4 true⟩
theorem sh3_5 (b : Bool) : hxB d3_5 b = b := by kernel_rfl
theorem sp3_5 (b : Bool) : paB d3_5 b = b := by kernel_rfl
theorem sb3_5 : bldT (tbS (ar5 100, d3_5)) (be5 100 d3_5) true = true := by kernel_rfl
theorem sr3_5 (b : Bool) : scrB (ar5 100, d3_5) (be5 100 d3_5) 3 5 b = b := by kernel_rfl
theorem ca3_5 : CaseOk (ar5 100, d3_5) (be5 100 d3_5) 3 5 := ⟨by kernel_rfl, sa3_5 true, so3_5 true, sh3_5 true, sp3_5 true, fun h => bldT_ok (tbS_ok h) sb3_5, sr3_5 true⟩
theorem sh3_6 (b : Bool) : hxB d3_6 b = b := by kernel_rfl
theorem sp3_6 (b : Bool) : paB d3_6 b = b := by kernel_rfl
theorem sb3_6 : bldT (tbS (ar6 100, d3_6)) (be6 100 d3_6) true = true := by kernel_rfl
theorem sr3_6 (b : Bool) : scrB (ar6 100, d3_6) (be6 100 d3_6) 3 6 b = b := by kernel_rfl
theorem ca3_6 : CaseOk (ar6 100, d3_6) (be6 100 d3_6) 3 6 := ⟨by kernel_rfl, sa3_6 true, so3_6 true, sh3_6 true, sp3_6 true, fun h => bldT_ok (tbS_ok h) sb3_6, sr3_6 true⟩
theorem sh3_7 (b : Bool) : hxB d3_7 b = b := by kernel_rfl
theorem sp3_7 (b : Bool) : paB d3_7 b = b := by kernel_rfl
theorem sb3_7 : bldT (tb7 (ar7 100, d3_7)) (be7 100 d3_7) true = true := by kernel_rfl
theorem sr3_7 (b : Bool) : scrB (ar7 100, d3_7) (be7 100 d3_7) 3 7 b = b := by kernel_rfl
theorem ca3_7 : CaseOk (ar7 100, d3_7) (be7 100 d3_7) 3 7 := ⟨by kernel_rfl, sa3_7 true, so3_7 true, sh3_7 true, sp3_7 true, fun h => bldT_ok (tb7_ok h) sb3_7, sr3_7 true⟩
theorem sh3_8 (b : Bool) : hxB d3_8 b = b := by kernel_rfl
theorem sp3_8 (b : Bool) : paB d3_8 b = b := by kernel_rfl
theorem sb3_8 : bldT (tbS (ar8 100, d3_8)) (be8 100 d3_8) true = true := by kernel_rfl
theorem sr3_8 (b : Bool) : scrB (ar8 100, d3_8) (be8 100 d3_8) 3 8 b = b := by kernel_rfl
theorem ca3_8 : CaseOk (ar8 100, d3_8) (be8 100 d3_8) 3 8 := ⟨by kernel_rfl, sa3_8 true, so3_8 true, sh3_8 true, sp3_8 true, fun h => bldT_ok (tbS_ok h) sb3_8, sr3_8 true⟩
theorem sh3_9 (b : Bool) : hxB d3_9 b = b := by kernel_rfl
theorem sp3_9 (b : Bool) : paB d3_9 b = b := by kernel_rfl
theorem sb3_9 : bldT (tbS (ar9 100, d3_9)) (be9 100 d3_9) true = true := by kernel_rfl
theorem sr3_9 (b : Bool) : scrB (ar9 100, d3_9) (be9 100 d3_9) 3 9 b = b := by kernel_rfl
theorem ca3_9 : CaseOk (ar9 100, d3_9) (be9 100 d3_9) 3 9 := ⟨by kernel_rfl, sa3_9 true, so3_9 true, sh3_9 true, sp3_9 true, fun h => bldT_ok (tbS_ok h) sb3_9, sr3_9 true⟩
end Go.Proofs.YtoafcnecjgnbmaaGreatDoor.E
