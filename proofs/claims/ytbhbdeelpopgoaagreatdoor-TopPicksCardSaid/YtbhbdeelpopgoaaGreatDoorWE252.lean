/-
  A closed fact of the row: that it recurses.
-/
import Derived.Test.YtbhbdeelpopgoaaGreatDoorRows
import Derived.JoinedOf
import Derived.KernelRfl
set_option linter.unusedVariables false
set_option linter.unusedSimpArgs false
namespace Go.Proofs.YtbhbdeelpopgoaaGreatDoor.facts
open Go
theorem recs : (Rows.topPicksRow.recurses == Tryz.pinned.checked.prog.recurses 3) = true := by kernel_rfl
end Go.Proofs.YtbhbdeelpopgoaaGreatDoor.facts
