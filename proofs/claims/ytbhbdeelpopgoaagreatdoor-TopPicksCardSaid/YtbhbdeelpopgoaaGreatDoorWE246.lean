/-
  The tie, in whole.
-/
import Derived.Test.YtbhbdeelpopgoaaGreatDoorWE75
import Derived.Test.YtbhbdeelpopgoaaGreatDoorWE76
import Derived.Test.YtbhbdeelpopgoaaGreatDoorWE77
import Derived.Test.YtbhbdeelpopgoaaGreatDoorWE78
import Derived.Test.YtbhbdeelpopgoaaGreatDoorWE79
set_option linter.unusedVariables false
set_option linter.unusedSimpArgs false
namespace Go.Proofs.YtbhbdeelpopgoaaGreatDoor.tied
open Go
theorem pinFits : Tryz.pinned.checked.prog.pinnedFits "unicode/utf8.first" = true := by kernel_rfl
theorem noUns : Tryz.pinned.checked.prog.headLifts.contains "ownunsafe" = false := by kernel_rfl
theorem fits : Tryz.pinned.checked.prog.listedFits (("unicode/utf8.first", Rows.laid_unicode_utf8_first) :: laid0) = true := by
  unfold Program.listedFits
  rw [noUns]
  kernel_rfl
theorem whole : Tryz.prog.laidByTextLater laid0 kinds0 true := Program.laidByTextLater_by_run_h 400 8 hw hw' hroot hk hg hn hd h1 h2 h3
theorem rowTie : Rows.topPicksRow.laidByTextAt .later Tryz.pinned [.pinned, .data, .sentinel, .sentinel, .data, .data, .data, .handle] true :=
  OpenClaim.laidByTextAt_pinned rfl rfl whole rfl rfl rfl rfl (fun y hy _e => by
    simp only [Rows.topPicksRow, List.zip_cons_cons, List.zip_nil_right, List.mem_cons, List.mem_nil_iff, or_false] at hy
    rcases hy with rfl | rfl | rfl | rfl | rfl | rfl | rfl | rfl
    · exact ⟨pinFits, by kernel_rfl⟩
    · cases _e
    · cases _e
    · cases _e
    · cases _e
    · cases _e
    · cases _e
    · cases _e) fits
end Go.Proofs.YtbhbdeelpopgoaaGreatDoor.tied
