/-
  The law TopPicks: it starts nothing beside itself.
-/
import Derived.Test.YtbhbdeelpopgoaaGreatDoorCards
import Derived.JoinedOf
import Derived.SevenTiedAt
set_option linter.unusedVariables false
set_option linter.unusedSimpArgs false
namespace Go.Proofs.YtbhbdeelpopgoaaGreatDoor.topPicks
open Go
theorem named2 : Tryz.pinned.checked.prog.funcNamed Rows.topPicksRow.func = some 3 := by kernel_rfl
theorem goes_none {P : Program} (h : (P.funcs.any Func.goes) = false) (f : FuncId) : P.goes f = false := by
  unfold Program.goes
  rw [h, Bool.and_false, Bool.or_false, List.any_eq_false]
  intro g _
  cases e : P.funcs[g]? with
  | none => simp
  | some fn =>
    rw [Array.any_eq_false] at h
    obtain ⟨hi, he⟩ := Array.getElem?_eq_some_iff.1 e
    have := h g hi
    rw [he] at this
    simpa using this
theorem none_goes : (Tryz.pinned.checked.prog.funcs.any Func.goes) = false := by kernel_rfl
theorem goes_entering {c : OpenClaim} {P : Program} {f : FuncId} (hs : c.start = .entering) (hf : P.funcNamed c.func = some f) (hn : (P.funcs.any Func.goes) = false) : false = c.goesBy P := by
  unfold OpenClaim.goesBy Program.goesAt Program.goesFrom
  rw [hs, hf]
  simp [goes_none hn]
theorem goes : false = Rows.topPicksRow.goesBy Tryz.pinned.checked.prog := goes_entering rfl named2 none_goes
end Go.Proofs.YtbhbdeelpopgoaaGreatDoor.topPicks
