/-
  The law TopNoFit: what its four runs show.
-/
import Derived.Test.YtobgdpnjabicmaaGreatDoorWE101
import Derived.Test.YtobgdpnjabicmaaGreatDoorWE102
import Derived.Test.YtobgdpnjabicmaaGreatDoorWE103
import Derived.Test.YtobgdpnjabicmaaGreatDoorWE104
set_option linter.unusedVariables false
set_option linter.unusedSimpArgs false
namespace Go.Proofs.YtobgdpnjabicmaaGreatDoor.E
open Go Go.RowKit H
theorem nofit (a b : UInt8) (w : World) (hw : Wf w) : Calls Tryz.prog 3 #[.int .u8 (a.toNat : Int), .int .u8 (b.toNat : Int)] w fun e w' => e = .returned (.bool true) ∧ K0 w w' := by
  have ha := a.toNat_lt
  have hb := b.toNat_lt
  have hs : ∀ i j, a.toNat % 2 = i → b.toNat % 2 = j → reals (r00 fun k => if k = 0 then a.toNat else b.toNat) [.sym .u8 0 2 i, .sym .u8 1 2 j] = some [.int .u8 (a.toNat : Int), .int .u8 (b.toNat : Int)] := fun i j hi hj => by
    have e1 : real (r00 fun k => if k = 0 then a.toNat else b.toNat) (.sym .u8 0 2 i) = some (.int .u8 (a.toNat : Int)) := by
      simp only [real]
      show (if a.toNat % 2 = i ∧ a.toNat < 256 then some (Value.int .u8 (Int.ofNat a.toNat)) else none) = _
      rw [if_pos ⟨hi, by omega⟩]; rfl
    have e2 : real (r00 fun k => if k = 0 then a.toNat else b.toNat) (.sym .u8 1 2 j) = some (.int .u8 (b.toNat : Int)) := by
      simp only [real]
      show (if b.toNat % 2 = j ∧ b.toNat < 256 then some (Value.int .u8 (Int.ofNat b.toNat)) else none) = _
      rw [if_pos ⟨hj, by omega⟩]; rfl
    exact reals_cons.2 ⟨_, _, e1, reals_cons.2 ⟨_, _, e2, reals_nil, rfl⟩, rfl⟩
  rcases Nat.mod_two_eq_zero_or_one a.toNat with ea | ea <;> rcases Nat.mod_two_eq_zero_or_one b.toNat with eb | eb
  · exact (law_of tbY_ok (nRun0 true) hw (hs 0 0 ea eb)).mono fun e w' h => ⟨h.2, h.1⟩
  · exact (law_of tbY_ok (nRun1 true) hw (hs 0 1 ea eb)).mono fun e w' h => ⟨h.2, h.1⟩
  · exact (law_of tbY_ok (nRun2 true) hw (hs 1 0 ea eb)).mono fun e w' h => ⟨h.2, h.1⟩
  · exact (law_of tbY_ok (nRun3 true) hw (hs 1 1 ea eb)).mono fun e w' h => ⟨h.2, h.1⟩
end Go.Proofs.YtobgdpnjabicmaaGreatDoor.E
