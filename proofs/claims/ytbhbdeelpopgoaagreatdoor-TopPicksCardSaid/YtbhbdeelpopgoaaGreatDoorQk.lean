/-
  Sums of archives, by the kernel.
-/
import Derived.Test.YtbhbdeelpopgoaaGreatDoorQg
set_option linter.unusedVariables false
set_option linter.unusedSimpArgs false
namespace Go.Proofs.YtbhbdeelpopgoaaGreatDoor.E
open Go
set_option maxRecDepth 100000
theorem sum1080_0(b:Bool):sumB 106 sh0 b=b:=by kernel_rfl
theorem sum1080_1(b:Bool):sumB 106 sh1 b=b:=by kernel_rfl
theorem sum1080_2(b:Bool):sumB 106 sh2 b=b:=by kernel_rfl
theorem sum1080_3(b:Bool):sumB 106 sh3 b=b:=by kernel_rfl
end Go.Proofs.YtbhbdeelpopgoaaGreatDoor.E

