/-
  A closed fact of the row: what is told in place.
-/
import Derived.Test.YtbhbdeelpopgoaaGreatDoorRows
import Derived.JoinedOf
import Derived.KernelRfl
set_option linter.unusedVariables false
set_option linter.unusedSimpArgs false
namespace Go.Proofs.YtbhbdeelpopgoaaGreatDoor.facts
open Go
theorem inp : (Rows.topPicksRow.inPlace == Tryz.pinned.checked.prog.inPlace 3) = true := by kernel_rfl
end Go.Proofs.YtbhbdeelpopgoaaGreatDoor.facts
