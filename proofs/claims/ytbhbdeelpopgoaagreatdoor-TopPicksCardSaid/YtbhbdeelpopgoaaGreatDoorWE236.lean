/-
  Runs of the law behind its archives.
-/
import Derived.Test.YtbhbdeelpopgoaaGreatDoorQBa
set_option linter.unusedVariables false
set_option linter.unusedSimpArgs false
namespace Go.Proofs.YtbhbdeelpopgoaaGreatDoor.E
open Go
set_option maxRecDepth 100000
theorem pN5 (b : Bool) : tailN (tbT 0) 5 2752 b = b := by kernel_rfl
theorem pS5_0_0 (b : Bool) : tailS (tbT 0) 5 2177 0 b = b := by kernel_rfl
theorem pS5_1_0 (b : Bool) : tailS (tbT 1) 5 2050 1 b = b := by kernel_rfl
theorem pS5_3_0 (b : Bool) : tailS (tbT 3) 5 2248 3 b = b := by kernel_rfl
end Go.Proofs.YtbhbdeelpopgoaaGreatDoor.E
