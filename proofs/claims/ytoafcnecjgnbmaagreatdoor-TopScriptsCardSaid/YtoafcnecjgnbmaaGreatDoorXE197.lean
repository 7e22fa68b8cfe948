/-
  A closed fact of the row: that it recurses.
-/
import Derived.Test.YtoafcnecjgnbmaaGreatDoorRows
import Derived.JoinedOf
import Derived.KernelRfl
set_option linter.unusedVariables false
set_option linter.unusedSimpArgs false
namespace Go.Proofs.YtoafcnecjgnbmaaGreatDoor.facts
open Go
theorem recs : (Rows.topScriptsRow.recurses == Tryz.pinned.checked.prog.recurses 3) = true := by kernel_rfl
end Go.Proofs.YtoafcnecjgnbmaaGreatDoor.facts
