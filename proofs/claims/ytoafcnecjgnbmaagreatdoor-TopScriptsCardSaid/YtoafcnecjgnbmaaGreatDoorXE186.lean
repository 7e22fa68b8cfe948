/-
  What is built of a package, and the law TopScripts at it, by the kernel.
-/
import Derived.Test.YtoafcnecjgnbmaaGreatDoorXE176
set_option linter.unusedVariables false
set_option linter.unusedSimpArgs false
namespace Go.Proofs.YtoafcnecjgnbmaaGreatDoor.E
open Go
set_option maxRecDepth 100000
theorem sh5_0 (b : Bool) : hxB d5_0 b = b := by kernel_rfl
theorem sp5_0 (b : Bool) : paB d5_0 b = b := by kernel_rfl
theorem sb5_0 : bldT (tbS (ar0 102, d5_0)) (be0 102 d5_0) true = true := by kernel_rfl
theorem sr5_0 (b : Bool) : scrB (ar0 102, d5_0) (be0 102 d5_0) 5 0 b = b := by kernel_rfl
theorem ca5_0 : CaseOk (ar0 102, d5_0) (be0 102 d5_0) 5 0 := ⟨by kernel_rfl, sa5_0 true, so5_0 true, sh5_0 true, sp5_0 true, fun h => bldT_ok (tbS_ok h) sb5_0, sr5_0 true⟩
theorem sh5_1 (b : Bool) : hxB d5_1 b = b := by kernel_rfl
theorem sp5_1 (b : Bool) : paB d5_1 b = b := by kernel_rfl
theorem sb5_1 : bldT (tbS (ar1 102, d5_1)) (be1 102 d5_1) true = true := by kernel_rfl
theorem sr5_1 (b : Bool) : scrB (ar1 102, d5_1) (be1 102 d5_1) 5 1 b = b := by kernel_rfl
theorem ca5_1 : CaseOk (ar1 102, d5_1) (be1 102 d5_1) 5 1 := ⟨by kernel_rfl, sa5_1 true, so5_1 true, sh5_1 true, sp5_1 true, fun h => bldT_ok (tbS_ok h) sb5_1, sr5_1 true⟩
theorem sh5_2 (b : Bool) : hxB d5_2 b = b := by kernel_rfl
theorem sp5_2 (b : Bool) : paB d5_2 b = b := by kernel_rfl
theorem sb5_2 : bldT (tbS (ar2 102, d5_2)) (be2 102 d5_2) true = true := by kernel_rfl
theorem sr5_2 (b : Bool) : scrB (ar2 102, d5_2) (be2 102 d5_2) 5 2 b = b := by kernel_rfl
theorem ca5_2 : CaseOk (ar2 102, d5_2) (be2 102 d5_2) 5 2 := ⟨by kernel_rfl, sa5_2 true, so5_2 true, sh5_2 true, sp5_2 true, fun h => bldT_ok (tbS_ok h) sb5_2, sr5_2 true⟩
theorem sh5_3 (b : Bool) : hxB d5_3 b = b := by kernel_rfl
theorem sp5_3 (b : Bool) : paB d5_3 b = b := by kernel_rfl
theorem sb5_3 : bldT (tbS (ar3 102, d5_3)) (be3 102 d5_3) true = true := by kernel_rfl
theorem sr5_3 (b : Bool) : scrB (ar3 102, d5_3) (be3 102 d5_3) 5 3 b = b := by kernel_rfl
theorem ca5_3 : CaseOk (ar3 102, d5_3) (be3 102 d5_3) 5 3 := ⟨by kernel_rfl, sa5_3 true, so5_3 true, sh5_3 true, sp5_3 true, fun h => bldT_ok (tbS_ok h) sb5_3, sr5_3 true⟩
theorem sh5_4 (b : Bool) : hxB d5_4 b = b := by kernel_rfl
theorem sp5_4 (b : Bool) : paB d5_4 b = b := by kernel_rfl
theorem sb5_4 : bldT (tbS (ar4 102, d5_4)) (be4 102 d5_4) true = true := by kernel_rfl
theorem sr5_4 (b : Bool) : scrB (ar4 102, d5_4) (be4 102 d5_4) 5 4 b = b := by kernel_rfl
theorem ca5_4 : CaseOk (ar4 102, d5_4) (be4 102 d5_4) 5 4 := ⟨by kernel_rfl, sa5_4 true, so5_4 true, sh5_4 true, sp5_4 true, fun h => bldT_ok (tbS_ok h) sb5_4, sr5_4 true⟩
theorem sh5_5 (b : Bool) : hxB d5_5 b = b := by kernel_rfl
theorem sp5_5 (b : Bool) : paB d5_5 b = b := by kernel_rfl
theorem sb5_5 : bldT (tbS (ar5 102, d5_5)) (be5 102 d5_5) true = true := by kernel_rfl
theorem sr5_5 (b : Bool) : scrB (ar5 102, d5_5) (be5 102 d5_5) 5 5 b = b := by kernel_rfl
theorem ca5_5 : CaseOk (ar5 102, d5_5) (be5 102 d5_5) 5 5 := ⟨by kernel_rfl, sa5_5 true, so5_5 true, sh5_5 true, sp5_5 true, fun h => bldT_ok (tbS_ok h) sb5_5, sr5_5 true⟩
theorem sh5_6 (b : Bool) : hxB d5_6 b = b := by kernel_rfl
theorem sp5_6 (b : Bool) : paB d5_6 b = b := by kernel_rfl
theorem sb5_6 : bldT (tbS (ar6 102, d5_6)) (be6 102 d5_6) true = true := by kernel_rfl
theorem sr5_6 (b : Bool) : scrB (ar6 102, d5_6) (be6 102 d5_6) 5 6 b = b := by kernel_rfl
theorem ca5_6 : CaseOk (ar6 102, d5_6) (be6 102 d5_6) 5 6 := ⟨by kernel_rfl, sa5_6 true, so5_6 true, sh5_6 true, sp5_6 true, fun h => bldT_ok (tbS_ok h) sb5_6, sr5_6 true⟩
theorem sh5_7 (b : Bool) : hxB d5_7 b = b := by kernel_rfl
theorem sp5_7 (b : Bool) : paB d5_7 b = b := by kernel_rfl
theorem sb5_7 : bldT (tb7 (ar7 102, d5_7)) (be7 102 d5_7) true = true := by kernel_rfl
theorem sr5_7 (b : Bool) : scrB (ar7 102, d5_7) (be7 102 d5_7) 5 7 b = b := by kernel_rfl
theorem ca5_7 : CaseOk (ar7 102, d5_7) (be7 102 d5_7) 5 7 := ⟨by kernel_rfl, sa5_7 true, so5_7 true, sh5_7 true, sp5_7 true, fun h => bldT_ok (tb7_ok h) sb5_7, sr5_7 true⟩
theorem sh5_8 (b : Bool) : hxB d5_8 b = b := by kernel_rfl
theorem sp5_8 (b : Bool) : paB d5_8 b = b := by kernel_rfl
theorem sb5_8 : bldT (tbS (ar8 102, d5_8)) (be8 102 d5_8) true = true := by kernel_rfl
theorem sr5_8 (b : Bool) : scrB (ar8 102, d5_8) (be8 102 d5_8) 5 8 b = b := by kernel_rfl
theorem ca5_8 : CaseOk (ar8 102, d5_8) (be8 102 d5_8) 5 8 := ⟨by kernel_rfl, sa5_8 true, so5_8 true, sh5_8 true, sp5_8 true, fun h => bldT_ok (tbS_ok h) sb5_8, sr5_8 true⟩
theorem sh5_9 (b : Bool) : hxB d5_9 b = b := by kernel_rfl
theorem sp5_9 (b : Bool) : paB d5_9 b = b := by kernel_rfl
theorem sb5_9 : bldT (tbS (ar9 102, d5_9)) (be9 102 d5_9) true = true := by kernel_rfl
theorem sr5_9 (b : Bool) : scrB (ar9 102, d5_9) (be9 102 d5_9) 5 9 b = b := by kernel_rfl
theorem ca5_9 : CaseOk (ar9 102, d5_9) (be9 102 d5_9) 5 9 := ⟨by kernel_rfl, sa5_9 true, so5_9 true, sh5_9 true, sp5_9 true, fun h => bldT_ok (tbS_ok h) sb5_9, sr5_9 true⟩
end Go.Proofs.YtoafcnecjgnbmaaGreatDoor.E
