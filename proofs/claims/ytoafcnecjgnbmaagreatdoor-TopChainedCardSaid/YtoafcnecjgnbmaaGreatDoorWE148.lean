/-
  The law TopChained: closed facts of its row.
-/
import Derived.Test.YtoafcnecjgnbmaaGreatDoorCards
import Derived.Test.YtoafcnecjgnbmaaGreatDoorWE110
import Derived.Test.YtoafcnecjgnbmaaGreatDoorWE111
import Derived.Test.YtoafcnecjgnbmaaGreatDoorWE150
import Derived.Test.YtoafcnecjgnbmaaGreatDoorWE151
import Derived.Test.YtoafcnecjgnbmaaGreatDoorWE152
import Derived.Test.YtoafcnecjgnbmaaGreatDoorWE153
import Derived.JoinedOf
import Derived.SevenTiedAt
set_option linter.unusedVariables false
set_option linter.unusedSimpArgs false
namespace Go.Proofs.YtoafcnecjgnbmaaGreatDoor.topChained
open Go
theorem and2 {a b : Bool} (h1 : a = true) (h2 : b = true) : (a && b) = true := by rw [h1, h2]; rfl
theorem named : Tryz.pinned.checked.prog.funcNamed "haversack/haversacktop.TopChained" = some 4 := by kernel_rfl
set_option maxHeartbeats 0 in
theorem closed : joinedFacts Tryz.pinned.checked.prog 4 Tryz.f4 Rows.topChainedSpec Rows.topChainedRow = true := by
  unfold joinedFacts
  repeat' (with_reducible refine and2 ?_ ?_)
  all_goals first | with_reducible exact facts.laidP | with_reducible exact facts.maps | with_reducible exact facts.inp | with_reducible exact facts.unf | with_reducible exact facts.recs | with_reducible exact facts.nams | (as_aux_lemma => kernel_rfl)
theorem wrap : Tryz.f4.isWrapper Tryz.pinned.checked.prog Rows.topChainedRow.wrapper Rows.topChainedRow.mainSum := by
  unfold Func.isWrapper
  first | (rw [if_pos (by decide +kernel)]; kernel_rfl) | (rw [if_neg (by decide +kernel)]; exact ⟨rfl, rfl⟩)
theorem byText : Rows.topChainedRow.wfByText (OpenSpec.ofChange Rows.topChainedSpec) = true := by kernel_rfl
theorem mains : Tryz.pinned.checked.prog.mainIs = some (Rows.topChainedCard.stood.harness.1, Rows.topChainedCard.stood.harness.2.toList) := by kernel_rfl
end Go.Proofs.YtoafcnecjgnbmaaGreatDoor.topChained
