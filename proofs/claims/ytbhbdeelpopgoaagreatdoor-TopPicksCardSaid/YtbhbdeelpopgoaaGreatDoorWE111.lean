/-
  A closed fact of the row: its maps.
-/
import Derived.Test.YtbhbdeelpopgoaaGreatDoorRows
import Derived.JoinedOf
import Derived.KernelRfl
set_option linter.unusedVariables false
set_option linter.unusedSimpArgs false
namespace Go.Proofs.YtbhbdeelpopgoaaGreatDoor.facts
open Go
theorem maps : mapsRowed Tryz.pinned.checked.prog = true := by kernel_rfl
end Go.Proofs.YtbhbdeelpopgoaaGreatDoor.facts
