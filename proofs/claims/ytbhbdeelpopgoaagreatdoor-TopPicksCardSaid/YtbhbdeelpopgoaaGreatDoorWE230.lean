/-
  Runs of the law behind its archives.
-/
import Derived.Test.YtbhbdeelpopgoaaGreatDoorQBa
set_option linter.unusedVariables false
set_option linter.unusedSimpArgs false
namespace Go.Proofs.YtbhbdeelpopgoaaGreatDoor.E
open Go
set_option maxRecDepth 100000
theorem pn0 (b : Bool) : nilR 0 b = b := by kernel_rfl
theorem pN0 (b : Bool) : tailN (tbT 0) 0 3008 b = b := by kernel_rfl
theorem pS0_0_0 (b : Bool) : tailS (tbT 0) 0 2433 0 b = b := by kernel_rfl
theorem pS0_1_0 (b : Bool) : tailS (tbT 1) 0 2306 1 b = b := by kernel_rfl
end Go.Proofs.YtbhbdeelpopgoaaGreatDoor.E
