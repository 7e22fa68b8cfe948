/-
  The law TopYields: what its two runs show; the tied card.
-/
import Derived.Test.YtobgdpnjabicmaaGreatDoorWE87
import Derived.Test.YtobgdpnjabicmaaGreatDoorWE93
import Derived.Test.YtobgdpnjabicmaaGreatDoorWE94
set_option linter.unusedVariables false
set_option linter.unusedSimpArgs false
namespace Go.Proofs.YtobgdpnjabicmaaGreatDoor.topYields
open Go Go.RowKit
theorem walked : Walked := fun b w hw => by
  cases b with
  | true => exact (E.law_of E.tbY_ok (E.yRun93 true) hw (sg := fun _ => 0) (xs := [.bool true]) (E.reals_cons.2 ⟨_, _, rfl, E.reals_nil, rfl⟩)).mono fun e w' h => ⟨h.2, h.1⟩
  | false => exact (E.law_of E.tbY_ok (E.yRun94 true) hw (sg := fun _ => 0) (xs := [.bool false]) (E.reals_cons.2 ⟨_, _, rfl, E.reals_nil, rfl⟩)).mono fun e w' h => ⟨h.2, h.1⟩
theorem proved : Rows.TopYieldsCardSaid := proved_of walked
#print axioms proved
end Go.Proofs.YtobgdpnjabicmaaGreatDoor.topYields
