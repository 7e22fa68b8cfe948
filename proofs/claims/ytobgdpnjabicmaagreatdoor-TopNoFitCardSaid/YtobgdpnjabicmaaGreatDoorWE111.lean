/-
  A closed fact of the row: its maps.
-/
import Derived.Test.YtobgdpnjabicmaaGreatDoorRows
import Derived.JoinedOf
import Derived.KernelRfl
set_option linter.unusedVariables false
set_option linter.unusedSimpArgs false
namespace Go.Proofs.YtobgdpnjabicmaaGreatDoor.facts
open Go
theorem maps : mapsRowed Tryz.pinned.checked.prog = true := by kernel_rfl
end Go.Proofs.YtobgdpnjabicmaaGreatDoor.facts
