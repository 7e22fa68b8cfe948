/-
  Sums of archives, by the kernel.
-/
import Derived.Test.YtoafcnecjgnbmaaGreatDoorVh
set_option linter.unusedVariables false
set_option linter.unusedSimpArgs false
namespace Go.Proofs.YtoafcnecjgnbmaaGreatDoor.E
open Go
set_option maxRecDepth 100000
theorem sum1080_3 (b : Bool) : sumB 106 sh3 b = b := by kernel_rfl
theorem sum1080_4 (b : Bool) : sumB 106 sh4 b = b := by kernel_rfl
theorem sum1080_5 (b : Bool) : sumB 106 sh5 b = b := by kernel_rfl
end Go.Proofs.YtoafcnecjgnbmaaGreatDoor.E

