/-
  The tie: the variables' own function comes to its end.
-/
import Derived.Test.YtbhbdeelpopgoaaGreatDoorWE74
set_option linter.unusedVariables false
set_option linter.unusedSimpArgs false
namespace Go.Proofs.YtbhbdeelpopgoaaGreatDoor.tied
open Go
theorem hd (os : Os) (tape : Tape) : varsDone Tryz.prog 400 (varsId Tryz.prog) os tape = true := by kernel_rfl
end Go.Proofs.YtbhbdeelpopgoaaGreatDoor.tied
