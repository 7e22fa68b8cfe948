/-
  The law TopNoFit, evaluated: its arguments are odd and odd.
-/
import Derived.Test.YtobgdpnjabicmaaGreatDoorQBa
set_option linter.unusedVariables false
set_option linter.unusedSimpArgs false
namespace Go.Proofs.YtobgdpnjabicmaaGreatDoor.E
open Go Go.RowKit H
set_option maxRecDepth 100000
theorem nRun3 (b : Bool) : callK P0 100 FU (tab tbY) (dr0 100) 200 3 [.sym .u8 0 2 1, .sym .u8 1 2 1] h00 (fun v _ => qBool v fun x => ask x b) (fun _ _ => false) = b := by kernel_rfl
end Go.Proofs.YtobgdpnjabicmaaGreatDoor.E
