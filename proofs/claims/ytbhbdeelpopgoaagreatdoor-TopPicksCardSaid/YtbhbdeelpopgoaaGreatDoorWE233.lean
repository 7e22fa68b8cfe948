/-
  Runs of the law behind its archives.
-/
import Derived.Test.YtbhbdeelpopgoaaGreatDoorQBa
set_option linter.unusedVariables false
set_option linter.unusedSimpArgs false
namespace Go.Proofs.YtbhbdeelpopgoaaGreatDoor.E
open Go
set_option maxRecDepth 100000
theorem pn2 (b : Bool) : nilR 2 b = b := by kernel_rfl
theorem pN2 (b : Bool) : tailN (tbT 0) 2 64 b = b := by kernel_rfl
theorem pS2_0_0 (b : Bool) : tailS (tbT 0) 2 1 0 b = b := by kernel_rfl
theorem pn3 (b : Bool) : nilR 3 b = b := by kernel_rfl
end Go.Proofs.YtbhbdeelpopgoaaGreatDoor.E
