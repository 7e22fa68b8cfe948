/-
  What is built of a package, and the law TopScripts at it, by the kernel.
-/
import Derived.Test.YtoafcnecjgnbmaaGreatDoorXE173
set_option linter.unusedVariables false
set_option linter.unusedSimpArgs false
namespace Go.Proofs.YtoafcnecjgnbmaaGreatDoor.E
open Go
set_option maxRecDepth 100000
theorem sh2_0 (b : Bool) : hxB d2_0 b = b := by kernel_rfl
theorem sp2_0 (b : Bool) : paB d2_0 b = b := by kernel_rfl
theorem sb2_0 : bldT (tbS (ar0 99, d2_0)) (be0 99 d2_0) true = true := by kernel_rfl
theorem sr2_0 (b : Bool) : scrB (ar0 99, d2_0) (be0 99 d2_0) 2 0 b = b := by kernel_rfl
theorem ca2_0 : CaseOk (ar0 99, d2_0) (be0 99 d2_0) 2 0 := ⟨by kernel_rfl, sa2_0 true, so2_0 true, sh2_0 true, sp2_0 true, fun h => bldT_ok (tbS_ok h) sb2_0, sr2_0 true⟩
theorem sh2_1 (b : Bool) : hxB d2_1 b = b := by kernel_rfl
theorem sp2_1 (b : Bool) : paB d2_1 b = b := by kernel_rfl
theorem sb2_1 : bldT (tbS (ar1 99, d2_1)) (be1 99 d2_1) true = true := by kernel_rfl
theorem sr2_1 (b : Bool) : scrB (ar1 99, d2_1) (be1 99 d2_1) 2 1 b = b := by kernel_rfl
theorem ca2_1 : CaseOk (ar1 99, d2_1) (be1 99 d2_1) 2 1 := ⟨by kernel_rfl, sa2_1 true, so2_1 true, sh2_1 true, sp2_1 true, fun h => bldT_ok (tbS_ok h) sb2_1, sr2_1 true⟩
theorem sh2_2 (b : Bool) : hxB d2_2 b = b := by kernel_rfl
theorem sp2_2 (b : Bool) : paB d2_2 b = b := by kernel_rfl
theorem sb2_2 : bldT (tbS (ar2 99, d2_2)) (be2 99 d2_2) true = true := by kernel_rfl
theorem sr2_2 (b : Bool) : scrB (ar2 99, d2_2) (be2 99 d2_2) 2 2 b = b := by kernel_rfl
theorem ca2_2 : CaseOk (ar2 99, d2_2) (be2 99 d2_2) 2 2 := ⟨by kernel_rfl, sa2_2 true, so2_2 true, sh2_2 true, sp2_2 true, fun h => bldT_ok (tbS_ok h) sb2_2, sr2_2 true⟩
theorem sh2_3 (b : Bool) : hxB d2_3 b = b := by kernel_rfl
theorem sp2_3 (b : Bool) : paB d2_3 b = b := by kernel_rfl
theorem sb2_3 : bldT (tbS (ar3 99, d2_3)) (be3 99 d2_3) true = true := by kernel_rfl
theorem sr2_3 (b : Bool) : scrB (ar3 99, d2_3) (be3 99 d2_3) 2 3 b = b := by kernel_rfl
theorem ca2_3 : CaseOk (ar3 99, d2_3) (be3 99 d2_3) 2 3 := ⟨by kernel_rfl, sa2_3 true, so2_3 true, sh2_3 true, sp2_3 true, fun h => bldT_ok (tbS_ok h) sb2_3, sr2_3 true⟩
theorem sh2_4 (b : Bool) : hxB d2_4 b = b := by kernel_rfl
theorem sp2_4 (b : Bool) : paB d2_4 b = b := by kernel_rfl
theorem sb2_4 : bldT (tbS (ar4 99, d2_4)) (be4 99 d2_4) true = true := by kernel_rfl
theorem sr2_4 (b : Bool) : scrB (ar4 99, d2_4) (be4 99 d2_4) 2 4 b = b := by kernel_rfl
theorem ca2_4 : CaseOk (ar4 99, d2_4) (be4 99 d2_4) 2 4 := ⟨by kernel_rfl, sa2_4 true, so2_4 true, sh2_4 true, sp2_4 true, fun h => bldT_ok (tbS_ok h) sb2_4, sr2_4 true⟩
theorem sh2_5 (b : Bool) : hxB d2_5 b = b := by kernel_rfl
theorem sp2_5 (b : Bool) : paB d2_5 b = b := by kernel_rfl
theorem sb2_5 : bldT (tbS (ar5 99, d2_5)) (be5 99 d2_5) true = true := by kernel_rfl
theorem sr2_5 (b : Bool) : scrB (ar5 99, d2_5) (be5 99 d2_5) 2 5 b = b := by kernel_rfl
theorem ca2_5 : CaseOk (ar5 99, d2_5) (be5 99 d2_5) 2 5 := ⟨by kernel_rfl, sa2_5 true, so2_5 true, sh2_5 true, sp2_5 true, fun h => bldT_ok (tbS_ok h) sb2_5, sr2_5 true⟩
theorem sh2_6 (b : Bool) : hxB d2_6 b = b := by kernel_rfl
theorem sp2_6 (b : Bool) : paB d2_6 b = b := by kernel_rfl
theorem sb2_6 : bldT (tbS (ar6 99, d2_6)) (be6 99 d2_6) true = true := by kernel_rfl
theorem sr2_6 (b : Bool) : scrB (ar6 99, d2_6) (be6 99 d2_6) 2 6 b = b := by kernel_rfl
theorem ca2_6 : CaseOk (ar6 99, d2_6) (be6 99 d2_6) 2 6 := ⟨by kernel_rfl, sa2_6 true, so2_6 true, sh2_6 true, sp2_6 true, fun h => bldT_ok (tbS_ok h) sb2_6, sr2_6 true⟩
theorem sh2_7 (b : Bool) : hxB d2_7 b = b := by kernel_rfl
theorem sp2_7 (b : Bool) : paB d2_7 b = b := by kernel_rfl
theorem sb2_7 : bldT (tb7 (ar7 99, d2_7)) (be7 99 d2_7) true = true := by kernel_rfl
theorem sr2_7 (b : Bool) : scrB (ar7 99, d2_7) (be7 99 d2_7) 2 7 b = b := by kernel_rfl
theorem ca2_7 : CaseOk (ar7 99, d2_7) (be7 99 d2_7) 2 7 := ⟨by kernel_rfl, sa2_7 true, so2_7 true, sh2_7 true, sp2_7 true, fun h => bldT_ok (tb7_ok h) sb2_7, sr2_7 true⟩
theorem sh2_8 (b : Bool) : hxB d2_8 b = b := by kernel_rfl
theorem sp2_8 (b : Bool) : paB d2_8 b = b := by kernel_rfl
theorem sb2_8 : bldT (tbS (ar8 99, d2_8)) (be8 99 d2_8) true = true := by kernel_rfl
theorem sr2_8 (b : Bool) : scrB (ar8 99, d2_8) (be8 99 d2_8) 2 8 b = b := by kernel_rfl
theorem ca2_8 : CaseOk (ar8 99, d2_8) (be8 99 d2_8) 2 8 := ⟨by kernel_rfl, sa2_8 true, so2_8 true, sh2_8 true, sp2_8 true, fun h => bldT_ok (tbS_ok h) sb2_8, sr2_8 true⟩
theorem sh2_9 (b : Bool) : hxB d2_9 b = b := by kernel_rfl
theorem sp2_9 (b : Bool) : paB d2_9 b = b := by kernel_rfl
theorem sb2_9 : bldT (tbS (ar9 99, d2_9)) (be9 99 d2_9) true = true := by kernel_rfl
theorem sr2_9 (b : Bool) : scrB (ar9 99, d2_9) (be9 99 d2_9) 2 9 b = b := by kernel_rfl
theorem ca2_9 : CaseOk (ar9 99, d2_9) (be9 99 d2_9) 2 9 := ⟨by kernel_rfl, sa2_9 true, so2_9 true, sh2_9 true, sp2_9 true, fun h => bldT_ok (tbS_ok h) sb2_9, sr2_9 true⟩
end Go.Proofs.YtoafcnecjgnbmaaGreatDoor.E
