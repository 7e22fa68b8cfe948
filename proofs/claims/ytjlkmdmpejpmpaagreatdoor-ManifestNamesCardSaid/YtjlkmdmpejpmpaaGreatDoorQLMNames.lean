/-
  ManifestNames: the program's and the reference's names agree. Conditions: the listed package-level variables start as the program's text lays them (the card ties them).
-/
import Derived.Test.YtjlkmdmpejpmpaaGreatDoorRe
import Derived.Test.YtjlkmdmpejpmpaaGreatDoorCards
import Derived.Test.YtjlkmdmpejpmpaaGreatDoorTie
import Derived.LaidMore
import Derived.Lay
import Derived.SevenTiedAt
import Derived.Stop.Joined
set_option linter.unusedVariables false
namespace Go.Proofs.YtjlkmdmpejpmpaaGreatDoor.manifestNames
open Go.ChangeShapes Go.WideShapes Go.ChangeAt Go.RowKit
set_option linter.unusedVariables false

theorem own : ownKnob Tryz.prog.godebug = none := by kernel_rfl
theorem types : ∀ t ∈ ([9, 5] : List TypeId), Tryz.prog.readableRec t = true ∧ t < Tryz.prog.types.size := by
  intro t ht
  simp only [List.mem_cons, List.not_mem_nil, or_false] at ht
  rcases ht with rfl | rfl <;> exact ⟨by kernel_rfl, of_decide_eq_true (by kernel_rfl)⟩

set_option maxRecDepth 100000 in
theorem lifted (os : Os) (started : os.Started) (H : Type) (enc : TypeId × Value → H) :
    ReturnsInHanded {} Tryz.checked os 4 .any (fun w args => (Rows.manifestNamesSpec.pre enc Tryz.prog Tryz.f4 Rows.manifestNamesRow.domain false w args ∧ laidMetH Tryz.prog Rows.manifestNamesRow.laid w) ∧ sizedMet enc Tryz.prog Tryz.f4 (OpenSpec.ofChange Rows.manifestNamesSpec) false w args) (Rows.manifestNamesSpec.post enc Tryz.prog Tryz.f4 false true false false) := by
  refine Go.Proofs.YtjlkmdmpejpmpaaGreatDoor.H.handed_and_shaped (C := Tryz.checked) (X := fun w _ => laidMetH Tryz.prog Rows.manifestNamesRow.laid w) (fun _ _ _ hh h => h.of_heap hh) own started (by kernel_rfl) Tryz.func4
    (ChangeSpec.witness_shaped (enc := enc) (C := Tryz.checked) (os := os) (X := fun w _ => laidMetH Tryz.prog Rows.manifestNamesRow.laid w) false (World.laidAll Tryz.prog os Rows.manifestNamesRow.laid) #[.string (ByteArray.empty), .int .u8 0] 8 (World.laidAll_os _ _ _)
      (World.shaped_of_ZipB (by kernel_rfl) (by kernel_rfl)) (by kernel_rfl) (by kernel_rfl) (by kernel_rfl)
      (by rw [MakeChecks.laidMetH_plain _ _ _ (by kernel_rfl)]; exact laidMet_laidAll _ (by kernel_rfl) (by kernel_rfl))) ?_
  intro W base args ds gs before hval hW hL hsh
  have hL' : laidMet Tryz.prog Rows.manifestNamesRow.laid W := by have h := hL; rw [MakeChecks.laidMetH_plain _ _ _ (by kernel_rfl)] at h; exact h
  have hT := Go.Proofs.YtjlkmdmpejpmpaaGreatDoor.Ve.tb_of hL'.tail.tail
  have hM := Go.Proofs.YtjlkmdmpejpmpaaGreatDoor.S.ml_of hsh
  exact Go.Proofs.YtjlkmdmpejpmpaaGreatDoor.H.law_contractW (P := Tryz.prog) (k := 4) (f := Tryz.f4) (s := Rows.manifestNamesSpec) (tb := 4) (by kernel_rfl) Tryz.underlying4 rfl rfl (ts := [9, 5]) rfl types (fun H ds h => match ds, h with | [d1, d2], _ => rfl)
    W (fun a h => by
  obtain ⟨s, n, ⟨⟩⟩ := a
  obtain ⟨h1, _⟩ := h
  exact Ma.lawNames s n W hM hT)
    H enc base args ds gs before hval hW

theorem over : Rows.ManifestNamesSaid :=
  OpenClaim.holds_of_wide 4 Tryz.f4 rfl rfl rfl rfl rfl rfl rfl ⟨rfl, rfl, rfl, rfl, rfl⟩ rfl rfl rfl rfl rfl (by kernel_rfl) Tryz.func4 (by kernel_rfl)
    (of_decide_eq_true (by kernel_rfl)) (by unfold Func.isWrapper; first | (rw [if_pos (by decide +kernel)]; kernel_rfl) | (rw [if_neg (by decide +kernel)]; exact ⟨rfl, rfl⟩))
    (fun os started H enc _ => lifted os started H enc)

theorem plain (f : FuncId) (fn : Func) (hf : Tryz.pinned.checked.prog.funcNamed "haversack/haversacklaw11.ManifestNames" = some f) (hfn : Tryz.pinned.checked.prog.funcs[f]? = some fn) :
    true = Tryz.pinned.checked.prog.looks [] ∧ ∀ (j : Nat) t, fn.params[j]? = some t → Tryz.pinned.checked.prog.wantsStandIn t = false := by
  obtain rfl : f = 4 := Option.some.inj ((show Tryz.prog.funcNamed "haversack/haversacklaw11.ManifestNames" = some 4 by kernel_rfl).symm.trans hf) |>.symm
  obtain rfl : fn = Tryz.f4 := (Option.some.inj (Tryz.func4.symm.trans hfn)).symm
  refine ⟨by kernel_rfl, fun j t ht => ?_⟩
  have hm : t ∈ ([9, 5] : List TypeId) := by simpa using Array.mem_of_getElem? ht
  have hall : (([9, 5] : List TypeId).all fun u => !Tryz.prog.wantsStandIn u) = true := by kernel_rfl
  exact (show Tryz.prog.wantsStandIn t = false by simpa using List.all_eq_true.1 hall t hm)

theorem proved : Rows.ManifestNamesCardSaid :=
  Claim7.holds_tied_plain_at .later [] _ _ _ _ over (fun _ h => by cases h) (by kernel_rfl) (fun _ h => by cases h) manifestNames_row_tie rfl ⟨rfl, rfl⟩ (by kernel_rfl) rfl plain (by kernel_rfl)
#print axioms proved
end Go.Proofs.YtjlkmdmpejpmpaaGreatDoor.manifestNames

