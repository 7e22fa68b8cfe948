/-
  Sums of archives, by the kernel.
-/
import Derived.Test.YtbhbdeelpopgoaaGreatDoorQg
set_option linter.unusedVariables false
set_option linter.unusedSimpArgs false
namespace Go.Proofs.YtbhbdeelpopgoaaGreatDoor.E
open Go
set_option maxRecDepth 100000
theorem sum320_0(b:Bool):sumB 23 sh0 b=b:=by kernel_rfl
theorem sum320_1(b:Bool):sumB 23 sh1 b=b:=by kernel_rfl
theorem sum320_2(b:Bool):sumB 23 sh2 b=b:=by kernel_rfl
theorem sum320_3(b:Bool):sumB 23 sh3 b=b:=by kernel_rfl
end Go.Proofs.YtbhbdeelpopgoaaGreatDoor.E

