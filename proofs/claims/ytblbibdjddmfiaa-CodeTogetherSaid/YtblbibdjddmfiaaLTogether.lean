/-
  It is proved that the statement CodeTogether returns true for every input and does not panic. Conditions: none.
-/
import Derived.Test.YtblbibdjddmfiaaCo15
import Derived.Test.YtblbibdjddmfiaaRows
import Derived.Test.YtblbibdjddmfiaaOInst
namespace Go.Proofs.Ytblbibdjddmfiaa.codeTogether
open Go.ChangeShapes Go.WideShapes Go.ChangeAt Go.RowKit
set_option linter.unusedVariables false

theorem own : ownKnob Try.prog.godebug = none := by kernel_rfl
theorem types : ∀ t ∈ ([47, 48, 44, 49] : List TypeId), Try.prog.readableRec t = true ∧ t < Try.prog.types.size := by
  intro t ht
  simp only [List.mem_cons, List.not_mem_nil, or_false] at ht
  rcases ht with rfl | rfl | rfl | rfl <;> exact ⟨by kernel_rfl, of_decide_eq_true (by kernel_rfl)⟩

set_option maxRecDepth 100000 in
theorem lifted (os : Os) (started : os.Started) (H : Type) (enc : TypeId × Value → H) :
    ReturnsInHanded {} Try.checked os 5 .any (Rows.codeTogetherSpec.pre6 enc Try.prog Try.f5 Rows.codeTogetherRow.domain false) (Rows.codeTogetherSpec.post enc Try.prog Try.f5 false true false false) := by
  refine returnsInHanded_of_change (C := Try.checked) own started (by kernel_rfl) Try.func5
    (ChangeSpec.witness6 (enc := enc) (C := Try.checked) false ⟨#[], #[.slice none 0 0, .slice none 0 0, .slice none 0 0, .slice none 0 0], []⟩ 8 (by kernel_rfl) (by kernel_rfl) (by kernel_rfl) (by kernel_rfl)) ?_
  intro W base args ds gs before hval hW _ _
  exact Go.Proofs.Ytblbibdjddmfiaa.H.law_contract (P := Try.prog) (k := 5) (f := Try.f5) (s := Rows.codeTogetherSpec) (tb := 4) (by kernel_rfl) Try.underlying4 rfl rfl (ts := [47, 48, 44, 49]) rfl types (fun H ds h => match ds, h with | [d1, d2, d3, d4], _ => rfl)
    (fun a W h => by
  obtain ⟨⟨v1, l1⟩, ⟨v2, l2⟩, ⟨v3, l3⟩, ⟨v4, l4⟩, ⟨⟩⟩ := a
  obtain ⟨⟨h1, k1⟩, ⟨h2, k2⟩, ⟨h3, k3⟩, ⟨h4, k4⟩, _⟩ := h
  exact Co.lawTogether v1 v2 v3 v4 l1 l2 l3 l4 W k1 k2 (Go.Proofs.Ytblbibdjddmfiaa.H.Sl.map h1) (Go.Proofs.Ytblbibdjddmfiaa.H.Sl.map h2) (Go.Proofs.Ytblbibdjddmfiaa.H.Sl.map h3) (Go.Proofs.Ytblbibdjddmfiaa.H.Sl.map h4))
    H enc W base args ds gs before hval hW

theorem over : Rows.codeTogetherRow.holds Try.pinned (OpenSpec.ofChange Rows.codeTogetherSpec) :=
  OpenClaim.holds_of_wide 5 Try.f5 rfl rfl rfl rfl rfl rfl rfl ⟨rfl, rfl, rfl, rfl, rfl⟩ rfl rfl rfl rfl rfl (by kernel_rfl) Try.func5 (by kernel_rfl)
    (of_decide_eq_true (by kernel_rfl)) (by unfold Func.isWrapper; first | (rw [if_pos (by decide +kernel)]; kernel_rfl) | (rw [if_neg (by decide +kernel)]; exact ⟨rfl, rfl⟩))
    (fun os started H enc _ => lifted os started H enc)

theorem proved : Rows.CodeTogetherSaid := over
#print axioms proved
end Go.Proofs.Ytblbibdjddmfiaa.codeTogether
