/-
  The tie: what the variables read as behind it.
-/
import Derived.Test.YtbhbdeelpopgoaaGreatDoorWE74
set_option linter.unusedVariables false
set_option linter.unusedSimpArgs false
namespace Go.Proofs.YtbhbdeelpopgoaaGreatDoor.tied
open Go
theorem h1 (os : Os) (tape : Tape) : (DataW.laidRun Tryz.prog (varsWorld Tryz.prog 400 (varsId Tryz.prog) os tape).memory 8 ((laid0.filter fun x => x.2.handleName?.isNone).map (·.1))).map (·.1) = some (laid0.filter fun x => x.2.handleName?.isNone) := by kernel_rfl
end Go.Proofs.YtbhbdeelpopgoaaGreatDoor.tied
