/-
  It is proved that the statement CodeReads returns true for every input and does not panic. Conditions: none.
-/
import Derived.Test.YtblbibdjddmfiaaCo20
import Derived.Test.YtblbibdjddmfiaaRows
import Derived.Test.YtblbibdjddmfiaaOInst
namespace Go.Proofs.Ytblbibdjddmfiaa.codeReads
open Go.ChangeShapes Go.WideShapes Go.ChangeAt Go.RowKit
set_option linter.unusedVariables false

def part (a : UInt8 × Nat × List UInt8 × Unit) : Co.Part := ⟨a.1, a.2.1, a.2.2.1⟩
theorem parts (l : List (UInt8 × Nat × List UInt8 × Unit)) : (l.map part).flatMap Co.pc = l.flatMap fun p => [Go.Proofs.Ytblbibdjddmfiaa.H.vb p.1] ++ ([Value.int .u64 (p.2.1 : Int)] ++ ([Go.Proofs.Ytblbibdjddmfiaa.H.vs p.2.2.1] ++ [])) := by rw [List.flatMap_map]; rfl
theorem own : ownKnob Try.prog.godebug = none := by kernel_rfl
theorem types : ∀ t ∈ ([28, 36, 28] : List TypeId), Try.prog.readableRec t = true ∧ t < Try.prog.types.size := by
  intro t ht
  simp only [List.mem_cons, List.not_mem_nil, or_false] at ht
  rcases ht with rfl | rfl | rfl <;> exact ⟨by kernel_rfl, of_decide_eq_true (by kernel_rfl)⟩

set_option maxRecDepth 100000 in
theorem lifted (os : Os) (started : os.Started) (H : Type) (enc : TypeId × Value → H) :
    ReturnsInHanded {} Try.checked os 6 .any (Rows.codeReadsSpec.pre6 enc Try.prog Try.f6 Rows.codeReadsRow.domain false) (Rows.codeReadsSpec.post enc Try.prog Try.f6 false true false false) := by
  refine returnsInHanded_of_change (C := Try.checked) own started (by kernel_rfl) Try.func6
    (ChangeSpec.witness6 (enc := enc) (C := Try.checked) false ⟨#[], #[.slice none 0 0, .slice none 0 0, .slice none 0 0], []⟩ 8 (by kernel_rfl) (by kernel_rfl) (by kernel_rfl) (by kernel_rfl)) ?_
  intro W base args ds gs before hval hW _ _
  exact Go.Proofs.Ytblbibdjddmfiaa.H.law_contract (P := Try.prog) (k := 6) (f := Try.f6) (s := Rows.codeReadsSpec) (tb := 4) (by kernel_rfl) Try.underlying4 rfl rfl (ts := [28, 36, 28]) rfl types (fun H ds h => match ds, h with | [d1, d2, d3], _ => rfl)
    (fun a W h => by
  obtain ⟨⟨v0, b⟩, ⟨v1, l⟩, ⟨v2, hw⟩, ⟨⟩⟩ := a
  obtain ⟨⟨h0, _⟩, ⟨h1, k1⟩, ⟨h2, _⟩, _⟩ := h
  have hl : (l.map part).length = l.length := List.length_map ..
  refine Co.lawReads v0 v1 v2 b (l.map part) hw W (fun p hp => ?_) (Go.Proofs.Ytblbibdjddmfiaa.H.Sl.map h0) ?_ (Go.Proofs.Ytblbibdjddmfiaa.H.Sl.map h2)
  · obtain ⟨q, hq, rfl⟩ := List.mem_map.1 hp
    exact (k1 q hq).2.1
  · rw [hl, parts]; exact h1)
    H enc W base args ds gs before hval hW

theorem over : Rows.codeReadsRow.holds Try.pinned (OpenSpec.ofChange Rows.codeReadsSpec) :=
  OpenClaim.holds_of_wide 6 Try.f6 rfl rfl rfl rfl rfl rfl rfl ⟨rfl, rfl, rfl, rfl, rfl⟩ rfl rfl rfl rfl rfl (by kernel_rfl) Try.func6 (by kernel_rfl)
    (of_decide_eq_true (by kernel_rfl)) (by unfold Func.isWrapper; first | (rw [if_pos (by decide +kernel)]; kernel_rfl) | (rw [if_neg (by decide +kernel)]; exact ⟨rfl, rfl⟩))
    (fun os started H enc _ => lifted os started H enc)

theorem proved : Rows.CodeReadsSaid := over
#print axioms proved
end Go.Proofs.Ytblbibdjddmfiaa.codeReads
