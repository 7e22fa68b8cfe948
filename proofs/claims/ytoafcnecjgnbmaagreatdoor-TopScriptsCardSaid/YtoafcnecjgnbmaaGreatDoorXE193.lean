/-
  The law TopScripts: closed facts of its row.
-/
import Derived.Test.YtoafcnecjgnbmaaGreatDoorCards
import Derived.Test.YtoafcnecjgnbmaaGreatDoorXE110
import Derived.Test.YtoafcnecjgnbmaaGreatDoorXE111
import Derived.Test.YtoafcnecjgnbmaaGreatDoorXE195
import Derived.Test.YtoafcnecjgnbmaaGreatDoorXE196
import Derived.Test.YtoafcnecjgnbmaaGreatDoorXE197
import Derived.Test.YtoafcnecjgnbmaaGreatDoorXE198
import Derived.JoinedOf
import Derived.SevenTiedAt
set_option linter.unusedVariables false
set_option linter.unusedSimpArgs false
namespace Go.Proofs.YtoafcnecjgnbmaaGreatDoor.topScripts
open Go
theorem and2 {a b : Bool} (h1 : a = true) (h2 : b = true) : (a && b) = true := by rw [h1, h2]; rfl
theorem named : Tryz.pinned.checked.prog.funcNamed "haversack/haversacktop.TopScripts" = some 3 := by kernel_rfl
set_option maxHeartbeats 0 in
theorem closed : joinedFacts Tryz.pinned.checked.prog 3 Tryz.f3 Rows.topScriptsSpec Rows.topScriptsRow = true := by
  unfold joinedFacts
  repeat' (with_reducible refine and2 ?_ ?_)
  all_goals first | with_reducible exact facts.laidP | with_reducible exact facts.maps | with_reducible exact facts.inp | with_reducible exact facts.unf | with_reducible exact facts.recs | with_reducible exact facts.nams | (as_aux_lemma => kernel_rfl)
theorem wrap : Tryz.f3.isWrapper Tryz.pinned.checked.prog Rows.topScriptsRow.wrapper Rows.topScriptsRow.mainSum := by
  unfold Func.isWrapper
  first | (rw [if_pos (by decide +kernel)]; kernel_rfl) | (rw [if_neg (by decide +kernel)]; exact ⟨rfl, rfl⟩)
theorem byText : Rows.topScriptsRow.wfByText (OpenSpec.ofChange Rows.topScriptsSpec) = true := by kernel_rfl
theorem mains : Tryz.pinned.checked.prog.mainIs = some (Rows.topScriptsCard.stood.harness.1, Rows.topScriptsCard.stood.harness.2.toList) := by kernel_rfl
end Go.Proofs.YtoafcnecjgnbmaaGreatDoor.topScripts
