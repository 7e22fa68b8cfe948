/-
  The law TopPicks: closed facts of its row.
-/
import Derived.Test.YtbhbdeelpopgoaaGreatDoorCards
import Derived.Test.YtbhbdeelpopgoaaGreatDoorWE110
import Derived.Test.YtbhbdeelpopgoaaGreatDoorWE111
import Derived.Test.YtbhbdeelpopgoaaGreatDoorWE250
import Derived.Test.YtbhbdeelpopgoaaGreatDoorWE251
import Derived.Test.YtbhbdeelpopgoaaGreatDoorWE252
import Derived.Test.YtbhbdeelpopgoaaGreatDoorWE253
import Derived.JoinedOf
import Derived.SevenTiedAt
set_option linter.unusedVariables false
set_option linter.unusedSimpArgs false
namespace Go.Proofs.YtbhbdeelpopgoaaGreatDoor.topPicks
open Go
theorem and2 {a b : Bool} (h1 : a = true) (h2 : b = true) : (a && b) = true := by rw [h1, h2]; rfl
theorem named : Tryz.pinned.checked.prog.funcNamed "haversack/haversacktop.TopPicks" = some 3 := by kernel_rfl
set_option maxHeartbeats 0 in
theorem closed : joinedFacts Tryz.pinned.checked.prog 3 Tryz.f3 Rows.topPicksSpec Rows.topPicksRow = true := by
  unfold joinedFacts
  repeat' (with_reducible refine and2 ?_ ?_)
  all_goals first | with_reducible exact facts.laidP | with_reducible exact facts.maps | with_reducible exact facts.inp | with_reducible exact facts.unf | with_reducible exact facts.recs | with_reducible exact facts.nams | (as_aux_lemma => kernel_rfl)
theorem wrap : Tryz.f3.isWrapper Tryz.pinned.checked.prog Rows.topPicksRow.wrapper Rows.topPicksRow.mainSum := by
  unfold Func.isWrapper
  first | (rw [if_pos (by decide +kernel)]; kernel_rfl) | (rw [if_neg (by decide +kernel)]; exact ⟨rfl, rfl⟩)
theorem byText : Rows.topPicksRow.wfByText (OpenSpec.ofChange Rows.topPicksSpec) = true := by kernel_rfl
theorem mains : Tryz.pinned.checked.prog.mainIs = some (Rows.topPicksCard.stood.harness.1, Rows.topPicksCard.stood.harness.2.toList) := by kernel_rfl
end Go.Proofs.YtbhbdeelpopgoaaGreatDoor.topPicks
