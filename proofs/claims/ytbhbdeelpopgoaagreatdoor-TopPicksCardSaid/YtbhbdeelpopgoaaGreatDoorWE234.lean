/-
  Runs of the law behind its archives.
-/
import Derived.Test.YtbhbdeelpopgoaaGreatDoorQBa
set_option linter.unusedVariables false
set_option linter.unusedSimpArgs false
namespace Go.Proofs.YtbhbdeelpopgoaaGreatDoor.E
open Go
set_option maxRecDepth 100000
theorem pN3 (b : Bool) : tailN (tbT 0) 3 2432 b = b := by kernel_rfl
theorem pS3_1_0 (b : Bool) : tailS (tbT 1) 3 2306 1 b = b := by kernel_rfl
theorem pS3_2_0 (b : Bool) : tailS (tbT 2) 3 4 2 b = b := by kernel_rfl
theorem pS3_5_0 (b : Bool) : tailS (tbT 5) 3 288 5 b = b := by kernel_rfl
end Go.Proofs.YtbhbdeelpopgoaaGreatDoor.E
