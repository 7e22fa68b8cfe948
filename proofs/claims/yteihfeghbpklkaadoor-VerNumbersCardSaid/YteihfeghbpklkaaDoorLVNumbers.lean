/-
  It is proved that the statement VerNumbers returns true for every input and does not panic. Conditions: the listed package-level variables start as the program's text lays them (the card ties them).
-/
import Derived.Test.YteihfeghbpklkaaDoorVe18
import Derived.Test.YteihfeghbpklkaaDoorCards
import Derived.Test.YteihfeghbpklkaaDoorTie
import Derived.Test.YteihfeghbpklkaaDoorOInst
import Derived.LaidMore
import Derived.Lay
import Derived.SevenTiedAt
import Derived.Stop.Joined
import Derived.Test.YteihfeghbpklkaaDoorTb
namespace Go.Proofs.YteihfeghbpklkaaDoor.verNumbers
open Go.ChangeShapes Go.WideShapes Go.ChangeAt Go.RowKit
set_option linter.unusedVariables false

theorem own : ownKnob Tryd.prog.godebug = none := by kernel_rfl
theorem types : ∀ t ∈ ([47, 47] : List TypeId), Tryd.prog.readableRec t = true ∧ t < Tryd.prog.types.size := by
  intro t ht
  simp only [List.mem_cons, List.not_mem_nil, or_false] at ht
  rcases ht with rfl | rfl <;> exact ⟨by kernel_rfl, of_decide_eq_true (by kernel_rfl)⟩

set_option maxRecDepth 100000 in
theorem lifted (os : Os) (started : os.Started) (H : Type) (enc : TypeId × Value → H) :
    ReturnsInHanded {} Tryd.checked os 8 .any (fun w args => (Rows.verNumbersSpec.pre enc Tryd.prog Tryd.f8 Rows.verNumbersRow.domain false w args ∧ laidMetH Tryd.prog Rows.verNumbersRow.laid w) ∧ sizedMet enc Tryd.prog Tryd.f8 (OpenSpec.ofChange Rows.verNumbersSpec) false w args) (Rows.verNumbersSpec.post enc Tryd.prog Tryd.f8 false true false false) := by
  refine returnsInHanded_of_change_and (C := Tryd.checked) (X := fun w _ => laidMetH Tryd.prog Rows.verNumbersRow.laid w) (fun _ _ _ hh h => h.of_heap hh) own started (by kernel_rfl) Tryd.func8
    (ChangeSpec.witness_shaped (enc := enc) (C := Tryd.checked) (os := os) (X := fun w _ => laidMetH Tryd.prog Rows.verNumbersRow.laid w) false (World.laidAll Tryd.prog os Rows.verNumbersRow.laid) #[Value.agg #[.int .u32 0, .int .u32 0, .int .u32 0], Value.agg #[.int .u32 0, .int .u32 0, .int .u32 0]] 8 (World.laidAll_os _ _ _)
      (World.shaped_of_ZipB (by kernel_rfl) (by kernel_rfl)) (by kernel_rfl) (by kernel_rfl) (by kernel_rfl)
      (by rw [MakeChecks.laidMetH_plain _ _ _ (by kernel_rfl)]; exact laidMet_laidAll _ (by kernel_rfl) (by kernel_rfl))) ?_
  intro W base args ds gs before hval hW _ _ hL _
  have hL' : laidMet Tryd.prog Rows.verNumbersRow.laid W := by have h := hL; rw [MakeChecks.laidMetH_plain _ _ _ (by kernel_rfl)] at h; exact h
  have hT := Go.Proofs.YteihfeghbpklkaaDoor.Ve.tb_of hL'.tail.tail
  exact Go.Proofs.YteihfeghbpklkaaDoor.H.law_contractW (P := Tryd.prog) (k := 8) (f := Tryd.f8) (s := Rows.verNumbersSpec) (tb := 4) (by kernel_rfl) Tryd.underlying4 rfl rfl (ts := [47, 47]) rfl types (fun H ds h => match ds, h with | [d1, d2], _ => rfl)
    W (fun a h => by
  obtain ⟨l, m, ⟨⟩⟩ := a
  obtain ⟨⟨hl, ha⟩, ⟨hm, hb⟩, _⟩ := h
  have e0 : IntKind.u32.min = 0 := rfl
  have e1 : IntKind.u32.max = 4294967295 := rfl
  match l, hl, ha with
  | [a0, a1, a2], _, ha =>
    match m, hm, hb with
    | [b0, b1, b2], _, hb =>
      have i0 := ha a0 (by simp)
      have i1 := ha a1 (by simp)
      have i2 := ha a2 (by simp)
      have j0 := hb b0 (by simp)
      have j1 := hb b1 (by simp)
      have j2 := hb b2 (by simp)
      rw [e0, e1] at i0 i1 i2 j0 j1 j2
      exact Ve.lawNumbers a0 a1 a2 b0 b1 b2 ⟨⟨i0.1, by omega⟩, ⟨i1.1, by omega⟩, ⟨i2.1, by omega⟩⟩ ⟨⟨j0.1, by omega⟩, ⟨j1.1, by omega⟩, ⟨j2.1, by omega⟩⟩ W hT)
    H enc base args ds gs before hval hW

theorem over : Rows.VerNumbersSaid :=
  OpenClaim.holds_of_wide 8 Tryd.f8 rfl rfl rfl rfl rfl rfl rfl ⟨rfl, rfl, rfl, rfl, rfl⟩ rfl rfl rfl rfl rfl (by kernel_rfl) Tryd.func8 (by kernel_rfl)
    (of_decide_eq_true (by kernel_rfl)) (by unfold Func.isWrapper; first | (rw [if_pos (by decide +kernel)]; kernel_rfl) | (rw [if_neg (by decide +kernel)]; exact ⟨rfl, rfl⟩))
    (fun os started H enc _ => lifted os started H enc)

theorem plain (f : FuncId) (fn : Func) (hf : Tryd.pinned.checked.prog.funcNamed "haversack/haversacklaw9.VerNumbers" = some f) (hfn : Tryd.pinned.checked.prog.funcs[f]? = some fn) :
    true = Tryd.pinned.checked.prog.looks [] ∧ ∀ (j : Nat) t, fn.params[j]? = some t → Tryd.pinned.checked.prog.wantsStandIn t = false := by
  obtain rfl : f = 8 := Option.some.inj ((show Tryd.prog.funcNamed "haversack/haversacklaw9.VerNumbers" = some 8 by kernel_rfl).symm.trans hf) |>.symm
  obtain rfl : fn = Tryd.f8 := (Option.some.inj (Tryd.func8.symm.trans hfn)).symm
  refine ⟨by kernel_rfl, fun j t ht => ?_⟩
  have hm : t ∈ ([47, 47] : List TypeId) := by simpa using Array.mem_of_getElem? ht
  have hall : (([47, 47] : List TypeId).all fun u => !Tryd.prog.wantsStandIn u) = true := by kernel_rfl
  exact (show Tryd.prog.wantsStandIn t = false by simpa using List.all_eq_true.1 hall t hm)

theorem proved : Rows.VerNumbersCardSaid :=
  Claim7.holds_tied_plain_at .later [] _ _ _ _ over (fun _ h => by cases h) (by kernel_rfl) (fun _ h => by cases h) verNumbers_row_tie rfl ⟨rfl, rfl⟩ (by kernel_rfl) rfl plain (by kernel_rfl)
#print axioms proved
end Go.Proofs.YteihfeghbpklkaaDoor.verNumbers
