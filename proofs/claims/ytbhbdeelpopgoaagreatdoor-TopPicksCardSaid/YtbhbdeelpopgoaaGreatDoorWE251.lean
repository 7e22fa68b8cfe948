/-
  A closed fact of the row: what is not followed.
-/
import Derived.Test.YtbhbdeelpopgoaaGreatDoorRows
import Derived.JoinedOf
import Derived.KernelRfl
set_option linter.unusedVariables false
set_option linter.unusedSimpArgs false
namespace Go.Proofs.YtbhbdeelpopgoaaGreatDoor.facts
open Go
theorem unf : (Rows.topPicksRow.unfollowed == Tryz.pinned.checked.prog.unfollowed 3) = true := by kernel_rfl
end Go.Proofs.YtbhbdeelpopgoaaGreatDoor.facts
