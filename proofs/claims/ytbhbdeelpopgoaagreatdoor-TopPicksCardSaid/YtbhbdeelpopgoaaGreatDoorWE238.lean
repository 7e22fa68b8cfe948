/-
  Runs of the law behind its archives.
-/
import Derived.Test.YtbhbdeelpopgoaaGreatDoorQBa
set_option linter.unusedVariables false
set_option linter.unusedSimpArgs false
namespace Go.Proofs.YtbhbdeelpopgoaaGreatDoor.E
open Go
set_option maxRecDepth 100000
theorem pn7 (b : Bool) : nilR 7 b = b := by kernel_rfl
theorem pN7 (b : Bool) : tailN (tbT 0) 7 1280 b = b := by kernel_rfl
theorem pS7_2_0 (b : Bool) : tailS (tbT 2) 7 20 2 b = b := by kernel_rfl
theorem pS7_2_1 (b : Bool) : tailS (tbT 2) 7 1028 2 b = b := by kernel_rfl
end Go.Proofs.YtbhbdeelpopgoaaGreatDoor.E
