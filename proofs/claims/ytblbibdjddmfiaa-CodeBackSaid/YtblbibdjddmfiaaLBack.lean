/-
  It is proved that the statement CodeBack returns true for every input and does not panic. Conditions: none.
-/
import Derived.Test.YtblbibdjddmfiaaCo17
import Derived.Test.YtblbibdjddmfiaaRows
import Derived.Test.YtblbibdjddmfiaaOInst
namespace Go.Proofs.Ytblbibdjddmfiaa.codeBack
open Go.ChangeShapes Go.WideShapes Go.ChangeAt Go.RowKit
set_option linter.unusedVariables false

def part (a : UInt8 × Nat × List UInt8 × Unit) : Co.Part := ⟨a.1, a.2.1, a.2.2.1⟩
theorem parts (l : List (UInt8 × Nat × List UInt8 × Unit)) : (l.map part).flatMap Co.pc = l.flatMap fun p => [Go.Proofs.Ytblbibdjddmfiaa.H.vb p.1] ++ ([Value.int .u64 (p.2.1 : Int)] ++ ([Go.Proofs.Ytblbibdjddmfiaa.H.vs p.2.2.1] ++ [])) := by rw [List.flatMap_map]; rfl
theorem own : ownKnob Try.prog.godebug = none := by kernel_rfl
theorem types : ∀ t ∈ ([36] : List TypeId), Try.prog.readableRec t = true ∧ t < Try.prog.types.size := by
  intro t ht
  simp only [List.mem_cons, List.not_mem_nil, or_false] at ht
  rcases ht with rfl <;> exact ⟨by kernel_rfl, of_decide_eq_true (by kernel_rfl)⟩

set_option maxRecDepth 100000 in
theorem lifted (os : Os) (started : os.Started) (H : Type) (enc : TypeId × Value → H) :
    ReturnsInHanded {} Try.checked os 7 .any (Rows.codeBackSpec.pre6 enc Try.prog Try.f7 Rows.codeBackRow.domain false) (Rows.codeBackSpec.post enc Try.prog Try.f7 false true false false) := by
  refine returnsInHanded_of_change (C := Try.checked) own started (by kernel_rfl) Try.func7
    (ChangeSpec.witness6 (enc := enc) (C := Try.checked) false ⟨#[], #[.slice none 0 0], []⟩ 8 (by kernel_rfl) (by kernel_rfl) (by kernel_rfl) (by kernel_rfl)) ?_
  intro W base args ds gs before hval hW _ _
  exact Go.Proofs.Ytblbibdjddmfiaa.H.law_contract (P := Try.prog) (k := 7) (f := Try.f7) (s := Rows.codeBackSpec) (tb := 4) (by kernel_rfl) Try.underlying4 rfl rfl (ts := [36]) rfl types (fun H ds h => match ds, h with | [d1], _ => rfl)
    (fun a W h => by
  obtain ⟨⟨v, l⟩, ⟨⟩⟩ := a
  obtain ⟨⟨h1, k1⟩, _⟩ := h
  have hl : (l.map part).length = l.length := List.length_map ..
  refine Co.lawBack v (l.map part) W (fun p hp => ?_) ?_
  · obtain ⟨q, hq, rfl⟩ := List.mem_map.1 hp
    exact (k1 q hq).2.1
  · rw [hl, parts]; exact h1)
    H enc W base args ds gs before hval hW

theorem over : Rows.codeBackRow.holds Try.pinned (OpenSpec.ofChange Rows.codeBackSpec) :=
  OpenClaim.holds_of_wide 7 Try.f7 rfl rfl rfl rfl rfl rfl rfl ⟨rfl, rfl, rfl, rfl, rfl⟩ rfl rfl rfl rfl rfl (by kernel_rfl) Try.func7 (by kernel_rfl)
    (of_decide_eq_true (by kernel_rfl)) (by unfold Func.isWrapper; first | (rw [if_pos (by decide +kernel)]; kernel_rfl) | (rw [if_neg (by decide +kernel)]; exact ⟨rfl, rfl⟩))
    (fun os started H enc _ => lifted os started H enc)

theorem proved : Rows.CodeBackSaid := over
#print axioms proved
end Go.Proofs.Ytblbibdjddmfiaa.codeBack
