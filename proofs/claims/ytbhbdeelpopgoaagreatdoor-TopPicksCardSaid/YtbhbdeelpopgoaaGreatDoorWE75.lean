/-
  The tie: what the variables' own function names.
-/
import Derived.Test.YtbhbdeelpopgoaaGreatDoorWE74
set_option linter.unusedVariables false
set_option linter.unusedSimpArgs false
namespace Go.Proofs.YtbhbdeelpopgoaaGreatDoor.tied
open Go
theorem hn : varsNamedLaterB Tryz.prog (varsId Tryz.prog) laid0 = true := by kernel_rfl
end Go.Proofs.YtbhbdeelpopgoaaGreatDoor.tied
