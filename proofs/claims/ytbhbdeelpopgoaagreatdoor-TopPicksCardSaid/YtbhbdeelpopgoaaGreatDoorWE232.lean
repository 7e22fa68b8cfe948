/-
  Runs of the law behind its archives.
-/
import Derived.Test.YtbhbdeelpopgoaaGreatDoorQBa
set_option linter.unusedVariables false
set_option linter.unusedSimpArgs false
namespace Go.Proofs.YtbhbdeelpopgoaaGreatDoor.E
open Go
set_option maxRecDepth 100000
theorem pN1 (b : Bool) : tailN (tbT 0) 1 2240 b = b := by kernel_rfl
theorem pS1_0_0 (b : Bool) : tailS (tbT 0) 1 2177 0 b = b := by kernel_rfl
theorem pS1_1_0 (b : Bool) : tailS (tbT 1) 1 2050 1 b = b := by kernel_rfl
theorem pS1_5_0 (b : Bool) : tailS (tbT 5) 1 32 5 b = b := by kernel_rfl
end Go.Proofs.YtbhbdeelpopgoaaGreatDoor.E
