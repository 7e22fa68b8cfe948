/-
  Runs of the law behind its archives.
-/
import Derived.Test.YtbhbdeelpopgoaaGreatDoorQBa
set_option linter.unusedVariables false
set_option linter.unusedSimpArgs false
namespace Go.Proofs.YtbhbdeelpopgoaaGreatDoor.E
open Go
set_option maxRecDepth 100000
theorem pS7_4_0 (b : Bool) : tailS tbW 7 272 4 b = b := by kernel_rfl
theorem pn8 (b : Bool) : nilR 8 b = b := by kernel_rfl
theorem pN8 (b : Bool) : tailN (tbT 0) 8 1024 b = b := by kernel_rfl
theorem pS8_4_0 (b : Bool) : tailS tbW 8 16 4 b = b := by kernel_rfl
end Go.Proofs.YtbhbdeelpopgoaaGreatDoor.E
