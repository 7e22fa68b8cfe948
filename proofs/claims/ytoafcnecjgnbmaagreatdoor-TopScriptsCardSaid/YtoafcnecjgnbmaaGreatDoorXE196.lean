/-
  A closed fact of the row: what is not followed.
-/
import Derived.Test.YtoafcnecjgnbmaaGreatDoorRows
import Derived.JoinedOf
import Derived.KernelRfl
set_option linter.unusedVariables false
set_option linter.unusedSimpArgs false
namespace Go.Proofs.YtoafcnecjgnbmaaGreatDoor.facts
open Go
theorem unf : (Rows.topScriptsRow.unfollowed == Tryz.pinned.checked.prog.unfollowed 3) = true := by kernel_rfl
end Go.Proofs.YtoafcnecjgnbmaaGreatDoor.facts
