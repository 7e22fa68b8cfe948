/-
  Sums of archives, by the kernel.
-/
import Derived.Test.YtbhbdeelpopgoaaGreatDoorQg
set_option linter.unusedVariables false
set_option linter.unusedSimpArgs false
namespace Go.Proofs.YtbhbdeelpopgoaaGreatDoor.E
open Go
set_option maxRecDepth 100000
theorem sum1080_4(b:Bool):sumB 106 sh4 b=b:=by kernel_rfl
theorem sum1080_5(b:Bool):sumB 106 sh5 b=b:=by kernel_rfl
theorem sum1080_6(b:Bool):sumB 106 sh6 b=b:=by kernel_rfl
end Go.Proofs.YtbhbdeelpopgoaaGreatDoor.E

