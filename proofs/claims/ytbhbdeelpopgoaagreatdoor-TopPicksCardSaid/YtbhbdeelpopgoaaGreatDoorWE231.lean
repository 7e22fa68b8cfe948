/-
  Runs of the law behind its archives.
-/
import Derived.Test.YtbhbdeelpopgoaaGreatDoorQBa
set_option linter.unusedVariables false
set_option linter.unusedSimpArgs false
namespace Go.Proofs.YtbhbdeelpopgoaaGreatDoor.E
open Go
set_option maxRecDepth 100000
theorem pS0_2_0 (b : Bool) : tailS (tbT 2) 0 4 2 b = b := by kernel_rfl
theorem pS0_3_0 (b : Bool) : tailS (tbT 3) 0 2504 3 b = b := by kernel_rfl
theorem pS0_5_0 (b : Bool) : tailS (tbT 5) 0 288 5 b = b := by kernel_rfl
theorem pn1 (b : Bool) : nilR 1 b = b := by kernel_rfl
end Go.Proofs.YtbhbdeelpopgoaaGreatDoor.E
