/-
  Runs of the law behind its archives.
-/
import Derived.Test.YtbhbdeelpopgoaaGreatDoorQBa
set_option linter.unusedVariables false
set_option linter.unusedSimpArgs false
namespace Go.Proofs.YtbhbdeelpopgoaaGreatDoor.E
open Go
set_option maxRecDepth 100000
theorem pS5_5_0 (b : Bool) : tailS (tbT 5) 5 32 5 b = b := by kernel_rfl
theorem pn6 (b : Bool) : nilR 6 b = b := by kernel_rfl
theorem pN6 (b : Bool) : tailN (tbT 0) 6 512 b = b := by kernel_rfl
theorem pS6_3_0 (b : Bool) : tailS (tbT 3) 6 8 3 b = b := by kernel_rfl
end Go.Proofs.YtbhbdeelpopgoaaGreatDoor.E
