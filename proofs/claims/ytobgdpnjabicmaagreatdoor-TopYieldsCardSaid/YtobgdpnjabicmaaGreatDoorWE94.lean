/-
  The law TopYields, evaluated.
-/
import Derived.Test.YtobgdpnjabicmaaGreatDoorQBa
set_option linter.unusedVariables false
set_option linter.unusedSimpArgs false
namespace Go.Proofs.YtobgdpnjabicmaaGreatDoor.E
open Go Go.RowKit H
set_option maxRecDepth 100000
theorem yRun94 (b : Bool) : callK P0 100 FU (tab tbY) (dr0 100) 200 4 [.bool false] h00 (fun v _ => qBool v fun x => ask x b) (fun _ _ => false) = b := by kernel_rfl
end Go.Proofs.YtobgdpnjabicmaaGreatDoor.E
