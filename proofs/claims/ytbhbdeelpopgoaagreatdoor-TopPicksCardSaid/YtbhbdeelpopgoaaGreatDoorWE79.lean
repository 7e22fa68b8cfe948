/-
  The tie: the variable that holds a type.
-/
import Derived.Test.YtbhbdeelpopgoaaGreatDoorWE74
set_option linter.unusedVariables false
set_option linter.unusedSimpArgs false
namespace Go.Proofs.YtbhbdeelpopgoaaGreatDoor.tied
open Go
theorem h3 (os : Os) (tape : Tape) : (laid0.filter fun x => x.2.handleName?.isSome).all (handleAtB Tryz.prog (varsWorld Tryz.prog 400 (varsId Tryz.prog) os tape).memory) = true := by kernel_rfl
end Go.Proofs.YtbhbdeelpopgoaaGreatDoor.tied
