/-
  What is built of a package, and the law TopScripts at it, by the kernel.
-/
import Derived.Test.YtoafcnecjgnbmaaGreatDoorXE171
set_option linter.unusedVariables false
set_option linter.unusedSimpArgs false
namespace Go.Proofs.YtoafcnecjgnbmaaGreatDoor.E
open Go
set_option maxRecDepth 100000
theorem sh0_0 (b : Bool) : hxB d0_0 b = b := by kernel_rfl
theorem sp0_0 (b : Bool) : paB d0_0 b = b := by kernel_rfl
theorem sb0_0 : bldT (tbS (ar0 97, d0_0)) (be0 97 d0_0) true = true := by kernel_rfl
theorem sr0_0 (b : Bool) : scrB (ar0 97, d0_0) (be0 97 d0_0) 0 0 b = b := by kernel_rfl
theorem ca0_0 : CaseOk (ar0 97, d0_0) (be0 97 d0_0) 0 0 := ⟨by kernel_rfl, sa0_0 true, so0_0 true, sh0_0 true, sp0_0 true, fun h => bldT_ok (tbS_ok h) sb0_0, sr0_0 true⟩
theorem sh0_1 (b : Bool) : hxB d0_1 b = b := by kernel_rfl
theorem sp0_1 (b : Bool) : paB d0_1 b = b := by kernel_rfl
theorem sb0_1 : bldT (tbS (ar1 97, d0_1)) (be1 97 d0_1) true = true := by kernel_rfl
theorem sr0_1 (b : Bool) : scrB (ar1 97, d0_1) (be1 97 d0_1) 0 1 b = b := by kernel_rfl
theorem ca0_1 : CaseOk (ar1 97, d0_1) (be1 97 d0_1) 0 1 := ⟨by kernel_rfl, sa0_1 true, so0_1 true, sh0_1 true, sp0_1 true, fun h => bldT_ok (tbS_ok h) sb0_1, sr0_1 true⟩
theorem sh0_2 (b : Bool) : hxB d0_2 b = b := by kernel_rfl
theorem sp0_2 (b : Bool) : paB d0_2 b = b := by kernel_rfl
theorem sb0_2 : bldT (tbS (ar2 97, d0_2)) (be2 97 d0_2) true = true := by kernel_rfl
theorem sr0_2 (b : Bool) : scrB (ar2 97, d0_2) (be2 97 d0_2) 0 2 b = b := by kernel_rfl
theorem ca0_2 : CaseOk (ar2 97, d0_2) (be2 97 d0_2) 0 2 := ⟨by kernel_rfl, sa0_2 true, so0_2 true, sh0_2 true, sp0_2 true, fun h => bldT_ok (tbS_ok h) sb0_2, sr0_2 true⟩
theorem sh0_3 (b : Bool) : hxB d0_3 b = b := by kernel_rfl
theorem sp0_3 (b : Bool) : paB d0_3 b = b := by kernel_rfl
theorem sb0_3 : bldT (tbS (ar3 97, d0_3)) (be3 97 d0_3) true = true := by kernel_rfl
theorem sr0_3 (b : Bool) : scrB (ar3 97, d0_3) (be3 97 d0_3) 0 3 b = b := by kernel_rfl
theorem ca0_3 : CaseOk (ar3 97, d0_3) (be3 97 d0_3) 0 3 := ⟨by kernel_rfl, sa0_3 true, so0_3 true, sh0_3 true, sp0_3 true, fun h => bldT_ok (tbS_ok h) sb0_3, sr0_3 true⟩
theorem sh0_4 (b : Bool) : hxB d0_4 b = b := by kernel_rfl
theorem sp0_4 (b : Bool) : paB d0_4 b = b := by kernel_rfl
theorem sb0_4 : bldT (tbS (ar4 97, d0_4)) (be4 97 d0_4) true = true := by kernel_rfl
theorem sr0_4 (b : Bool) : scrB (ar4 97, d0_4) (be4 97 d0_4) 0 4 b = b := by kernel_rfl
theorem ca0_4 : CaseOk (ar4 97, d0_4) (be4 97 d0_4) 0 4 := ⟨by kernel_rfl, sa0_4 true, so0_4 true, sh0_4 true, sp0_4 true, fun h => bldT_ok (tbS_ok h) sb0_4, sr0_4 true⟩
theorem sh0_5 (b : Bool) : hxB d0_5 b = b := by kernel_rfl
theorem sp0_5 (b : Bool) : paB d0_5 b = b := by kernel_rfl
theorem sb0_5 : bldT (tbS (ar5 97, d0_5)) (be5 97 d0_5) true = true := by kernel_rfl
theorem sr0_5 (b : Bool) : scrB (ar5 97, d0_5) (be5 97 d0_5) 0 5 b = b := by kernel_rfl
theorem ca0_5 : CaseOk (ar5 97, d0_5) (be5 97 d0_5) 0 5 := ⟨by kernel_rfl, sa0_5 true, so0_5 true, sh0_5 true, sp0_5 true, fun h => bldT_ok (tbS_ok h) sb0_5, sr0_5 true⟩
theorem sh0_6 (b : Bool) : hxB d0_6 b = b := by kernel_rfl
theorem sp0_6 (b : Bool) : paB d0_6 b = b := by kernel_rfl
theorem sb0_6 : bldT (tbS (ar6 97, d0_6)) (be6 97 d0_6) true = true := by kernel_rfl
theorem sr0_6 (b : Bool) : scrB (ar6 97, d0_6) (be6 97 d0_6) 0 6 b = b := by kernel_rfl
theorem ca0_6 : CaseOk (ar6 97, d0_6) (be6 97 d0_6) 0 6 := ⟨by kernel_rfl, sa0_6 true, so0_6 true, sh0_6 true, sp0_6 true, fun h => bldT_ok (tbS_ok h) sb0_6, sr0_6 true⟩
theorem sh0_7 (b : Bool) : hxB d0_7 b = b := by kernel_rfl
theorem sp0_7 (b : Bool) : paB d0_7 b = b := by kernel_rfl
theorem sb0_7 : bldT (tb7 (ar7 97, d0_7)) (be7 97 d0_7) true = true := by kernel_rfl
theorem sr0_7 (b : Bool) : scrB (ar7 97, d0_7) (be7 97 d0_7) 0 7 b = b := by kernel_rfl
theorem ca0_7 : CaseOk (ar7 97, d0_7) (be7 97 d0_7) 0 7 := ⟨by kernel_rfl, sa0_7 true, so0_7 true, sh0_7 true, sp0_7 true, fun h => bldT_ok (tb7_ok h) sb0_7, sr0_7 true⟩
theorem sh0_8 (b : Bool) : hxB d0_8 b = b := by kernel_rfl
theorem sp0_8 (b : Bool) : paB d0_8 b = b := by kernel_rfl
theorem sb0_8 : bldT (tbS (ar8 97, d0_8)) (be8 97 d0_8) true = true := by kernel_rfl
theorem sr0_8 (b : Bool) : scrB (ar8 97, d0_8) (be8 97 d0_8) 0 8 b = b := by kernel_rfl
theorem ca0_8 : CaseOk (ar8 97, d0_8) (be8 97 d0_8) 0 8 := ⟨by kernel_rfl, sa0_8 true, so0_8 true, sh0_8 true, sp0_8 true, fun h => bldT_ok (tbS_ok h) sb0_8, sr0_8 true⟩
theorem sh0_9 (b : Bool) : hxB d0_9 b = b := by kernel_rfl
theorem sp0_9 (b : Bool) : paB d0_9 b = b := by kernel_rfl
theorem sb0_9 : bldT (tbS (ar9 97, d0_9)) (be9 97 d0_9) true = true := by kernel_rfl
theorem sr0_9 (b : Bool) : scrB (ar9 97, d0_9) (be9 97 d0_9) 0 9 b = b := by kernel_rfl
theorem ca0_9 : CaseOk (ar9 97, d0_9) (be9 97 d0_9) 0 9 := ⟨by kernel_rfl, sa0_9 true, so0_9 true, sh0_9 true, sp0_9 true, fun h => bldT_ok (tbS_ok h) sb0_9, sr0_9 true⟩
end Go.Proofs.YtoafcnecjgnbmaaGreatDoor.E
