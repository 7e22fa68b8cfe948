/-
  Runs of the law behind its archives.
-/
import Derived.Test.YtbhbdeelpopgoaaGreatDoorQBa
set_option linter.unusedVariables false
set_option linter.unusedSimpArgs false
namespace Go.Proofs.YtbhbdeelpopgoaaGreatDoor.E
open Go
set_option maxRecDepth 100000
theorem pn4 (b : Bool) : nilR 4 b = b := by kernel_rfl
theorem pN4 (b : Bool) : tailN (tbT 0) 4 256 b = b := by kernel_rfl
theorem pS4_2_0 (b : Bool) : tailS (tbT 2) 4 4 2 b = b := by kernel_rfl
theorem pn5 (b : Bool) : nilR 5 b = b := by kernel_rfl
end Go.Proofs.YtbhbdeelpopgoaaGreatDoor.E
