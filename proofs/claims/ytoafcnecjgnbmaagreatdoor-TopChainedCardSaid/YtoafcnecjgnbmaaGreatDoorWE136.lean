/-
  The law TopChained, evaluated: a chain of 4, from 0.
-/
import Derived.Test.YtoafcnecjgnbmaaGreatDoorQBa
set_option linter.unusedVariables false
set_option linter.unusedSimpArgs false
namespace Go.Proofs.YtoafcnecjgnbmaaGreatDoor.E
open Go Go.RowKit H
set_option maxRecDepth 100000
theorem cRun3_0 (b : Bool) : callK P0 100 FU (tab tbY) (dr0 100) 200 4 [.sym .u8 0 5 3, .sym .u8 1 4 0] h00 (fun v _ => qBool v fun x => ask x b) (fun _ _ => false) = b := by kernel_rfl
end Go.Proofs.YtoafcnecjgnbmaaGreatDoor.E
