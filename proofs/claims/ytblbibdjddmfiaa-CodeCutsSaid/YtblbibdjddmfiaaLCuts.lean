/-
  It is proved that the statement CodeCuts returns true for every input and does not panic. Conditions: none.
-/
import Derived.Test.YtblbibdjddmfiaaCo18
import Derived.Test.YtblbibdjddmfiaaRows
import Derived.Test.YtblbibdjddmfiaaOInst
namespace Go.Proofs.Ytblbibdjddmfiaa.codeCuts
open Go.ChangeShapes Go.WideShapes Go.ChangeAt Go.RowKit
set_option linter.unusedVariables false

theorem own : ownKnob Try.prog.godebug = none := by kernel_rfl
theorem types : ∀ t ∈ ([44, 3] : List TypeId), Try.prog.readableRec t = true ∧ t < Try.prog.types.size := by
  intro t ht
  simp only [List.mem_cons, List.not_mem_nil, or_false] at ht
  rcases ht with rfl | rfl <;> exact ⟨by kernel_rfl, of_decide_eq_true (by kernel_rfl)⟩

set_option maxRecDepth 100000 in
theorem lifted (os : Os) (started : os.Started) (H : Type) (enc : TypeId × Value → H) :
    ReturnsInHanded {} Try.checked os 8 .any (Rows.codeCutsSpec.pre6 enc Try.prog Try.f8 Rows.codeCutsRow.domain false) (Rows.codeCutsSpec.post enc Try.prog Try.f8 false true false false) := by
  refine returnsInHanded_of_change (C := Try.checked) own started (by kernel_rfl) Try.func8
    (ChangeSpec.witness6 (enc := enc) (C := Try.checked) false ⟨#[], #[.slice none 0 0, .int .i64 0], []⟩ 8 (by kernel_rfl) (by kernel_rfl) (by kernel_rfl) (by kernel_rfl)) ?_
  intro W base args ds gs before hval hW _ _
  exact Go.Proofs.Ytblbibdjddmfiaa.H.law_contract (P := Try.prog) (k := 8) (f := Try.f8) (s := Rows.codeCutsSpec) (tb := 4) (by kernel_rfl) Try.underlying4 rfl rfl (ts := [44, 3]) rfl types (fun H ds h => match ds, h with | [d1, d2], _ => rfl)
    (fun a W h => by
  obtain ⟨⟨v, l⟩, x, ⟨⟩⟩ := a
  obtain ⟨⟨h1, _⟩, h2, _⟩ := h
  exact Co.lawCuts v l x h2.1 h2.2 W (Go.Proofs.Ytblbibdjddmfiaa.H.Sl.map h1))
    H enc W base args ds gs before hval hW

theorem over : Rows.codeCutsRow.holds Try.pinned (OpenSpec.ofChange Rows.codeCutsSpec) :=
  OpenClaim.holds_of_wide 8 Try.f8 rfl rfl rfl rfl rfl rfl rfl ⟨rfl, rfl, rfl, rfl, rfl⟩ rfl rfl rfl rfl rfl (by kernel_rfl) Try.func8 (by kernel_rfl)
    (of_decide_eq_true (by kernel_rfl)) (by unfold Func.isWrapper; first | (rw [if_pos (by decide +kernel)]; kernel_rfl) | (rw [if_neg (by decide +kernel)]; exact ⟨rfl, rfl⟩))
    (fun os started H enc _ => lifted os started H enc)

theorem proved : Rows.CodeCutsSaid := over
#print axioms proved
end Go.Proofs.Ytblbibdjddmfiaa.codeCuts
