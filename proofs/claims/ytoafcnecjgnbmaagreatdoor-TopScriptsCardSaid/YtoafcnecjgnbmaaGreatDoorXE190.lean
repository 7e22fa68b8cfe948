/-
  The law TopScripts: what its sixty runs show.
-/
import Derived.Test.YtoafcnecjgnbmaaGreatDoorXE181
import Derived.Test.YtoafcnecjgnbmaaGreatDoorXE182
import Derived.Test.YtoafcnecjgnbmaaGreatDoorXE183
import Derived.Test.YtoafcnecjgnbmaaGreatDoorXE184
import Derived.Test.YtoafcnecjgnbmaaGreatDoorXE185
import Derived.Test.YtoafcnecjgnbmaaGreatDoorXE186
set_option linter.unusedVariables false
set_option linter.unusedSimpArgs false
namespace Go.Proofs.YtoafcnecjgnbmaaGreatDoor.E
open Go Go.RowKit H
theorem scripts (a b : UInt8) (w : World) (hw : Wf w) : Calls Tryz.prog 3 #[.int .u8 (a.toNat : Int), .int .u8 (b.toNat : Int)] w fun e w' => e = .returned (.bool true) ∧ K0 w w' := by
  have ha := a.toNat_lt
  have hb := b.toNat_lt
  have hs : ∀ i j, a.toNat % 6 = i → b.toNat % 10 = j → reals (r00 fun k => if k = 0 then a.toNat else b.toNat) [.sym .u8 0 6 i, .sym .u8 1 10 j] = some [.int .u8 (a.toNat : Int), .int .u8 (b.toNat : Int)] := fun i j hi hj => by
    have e1 : real (r00 fun k => if k = 0 then a.toNat else b.toNat) (.sym .u8 0 6 i) = some (.int .u8 (a.toNat : Int)) := by
      simp only [real]
      show (if a.toNat % 6 = i ∧ a.toNat < 256 then some (Value.int .u8 (Int.ofNat a.toNat)) else none) = _
      rw [if_pos ⟨hi, by omega⟩]; rfl
    have e2 : real (r00 fun k => if k = 0 then a.toNat else b.toNat) (.sym .u8 1 10 j) = some (.int .u8 (b.toNat : Int)) := by
      simp only [real]
      show (if b.toNat % 10 = j ∧ b.toNat < 256 then some (Value.int .u8 (Int.ofNat b.toNat)) else none) = _
      rw [if_pos ⟨hj, by omega⟩]; rfl
    exact reals_cons.2 ⟨_, _, e1, reals_cons.2 ⟨_, _, e2, reals_nil, rfl⟩, rfl⟩
  have go : ∀ {x : List Nat × List Nat} {be : BldE} {i j : Nat}, CaseOk x be i j → a.toNat % 6 = i → b.toNat % 10 = j → Calls Tryz.prog 3 #[.int .u8 (a.toNat : Int), .int .u8 (b.toNat : Int)] w fun e w' => e = .returned (.bool true) ∧ K0 w w' := fun h hi hj => (h.run hw (hs _ _ hi hj)).mono fun e w' h => ⟨h.2, h.1⟩
  rcases (by omega : a.toNat % 6 = 0 ∨ a.toNat % 6 = 1 ∨ a.toNat % 6 = 2 ∨ a.toNat % 6 = 3 ∨ a.toNat % 6 = 4 ∨ a.toNat % 6 = 5) with ea | ea | ea | ea | ea | ea
  · rcases (by omega : b.toNat % 10 = 0 ∨ b.toNat % 10 = 1 ∨ b.toNat % 10 = 2 ∨ b.toNat % 10 = 3 ∨ b.toNat % 10 = 4 ∨ b.toNat % 10 = 5 ∨ b.toNat % 10 = 6 ∨ b.toNat % 10 = 7 ∨ b.toNat % 10 = 8 ∨ b.toNat % 10 = 9) with eb | eb | eb | eb | eb | eb | eb | eb | eb | eb
    · exact go ca0_0 ea eb
    · exact go ca0_1 ea eb
    · exact go ca0_2 ea eb
    · exact go ca0_3 ea eb
    · exact go ca0_4 ea eb
    · exact go ca0_5 ea eb
    · exact go ca0_6 ea eb
    · exact go ca0_7 ea eb
    · exact go ca0_8 ea eb
    · exact go ca0_9 ea eb
  · rcases (by omega : b.toNat % 10 = 0 ∨ b.toNat % 10 = 1 ∨ b.toNat % 10 = 2 ∨ b.toNat % 10 = 3 ∨ b.toNat % 10 = 4 ∨ b.toNat % 10 = 5 ∨ b.toNat % 10 = 6 ∨ b.toNat % 10 = 7 ∨ b.toNat % 10 = 8 ∨ b.toNat % 10 = 9) with eb | eb | eb | eb | eb | eb | eb | eb | eb | eb
    · exact go ca1_0 ea eb
    · exact go ca1_1 ea eb
    · exact go ca1_2 ea eb
    · exact go ca1_3 ea eb
    · exact go ca1_4 ea eb
    · exact go ca1_5 ea eb
    · exact go ca1_6 ea eb
    · exact go ca1_7 ea eb
    · exact go ca1_8 ea eb
    · exact go ca1_9 ea eb
  · rcases (by omega : b.toNat % 10 = 0 ∨ b.toNat % 10 = 1 ∨ b.toNat % 10 = 2 ∨ b.toNat % 10 = 3 ∨ b.toNat % 10 = 4 ∨ b.toNat % 10 = 5 ∨ b.toNat % 10 = 6 ∨ b.toNat % 10 = 7 ∨ b.toNat % 10 = 8 ∨ b.toNat % 10 = 9) with eb | eb | eb | eb | eb | eb | eb | eb | eb | eb
    · exact go ca2_0 ea eb
    · exact go ca2_1 ea eb
    · exact go ca2_2 ea eb
    · exact go ca2_3 ea eb
    · exact go ca2_4 ea eb
    · exact go ca2_5 ea eb
    · exact go ca2_6 ea eb
    · exact go ca2_7 ea eb
    · exact go ca2_8 ea eb
    · exact go ca2_9 ea eb
  · rcases (by omega : b.toNat % 10 = 0 ∨ b.toNat % 10 = 1 ∨ b.toNat % 10 = 2 ∨ b.toNat % 10 = 3 ∨ b.toNat % 10 = 4 ∨ b.toNat % 10 = 5 ∨ b.toNat % 10 = 6 ∨ b.toNat % 10 = 7 ∨ b.toNat % 10 = 8 ∨ b.toNat % 10 = 9) with eb | eb | eb | eb | eb | eb | eb | eb | eb | eb
    · exact go ca3_0 ea eb
    · exact go ca3_1 ea eb
    · exact go ca3_2 ea eb
    · exact go ca3_3 ea eb
    · exact go ca3_4 ea eb
    · exact go ca3_5 ea eb
    · exact go ca3_6 ea eb
    · exact go ca3_7 ea eb
    · exact go ca3_8 ea eb
    · exact go ca3_9 ea eb
  · rcases (by omega : b.toNat % 10 = 0 ∨ b.toNat % 10 = 1 ∨ b.toNat % 10 = 2 ∨ b.toNat % 10 = 3 ∨ b.toNat % 10 = 4 ∨ b.toNat % 10 = 5 ∨ b.toNat % 10 = 6 ∨ b.toNat % 10 = 7 ∨ b.toNat % 10 = 8 ∨ b.toNat % 10 = 9) with eb | eb | eb | eb | eb | eb | eb | eb | eb | eb
    · exact go ca4_0 ea eb
    · exact go ca4_1 ea eb
    · exact go ca4_2 ea eb
    · exact go ca4_3 ea eb
    · exact go ca4_4 ea eb
    · exact go ca4_5 ea eb
    · exact go ca4_6 ea eb
    · exact go ca4_7 ea eb
    · exact go ca4_8 ea eb
    · exact go ca4_9 ea eb
  · rcases (by omega : b.toNat % 10 = 0 ∨ b.toNat % 10 = 1 ∨ b.toNat % 10 = 2 ∨ b.toNat % 10 = 3 ∨ b.toNat % 10 = 4 ∨ b.toNat % 10 = 5 ∨ b.toNat % 10 = 6 ∨ b.toNat % 10 = 7 ∨ b.toNat % 10 = 8 ∨ b.toNat % 10 = 9) with eb | eb | eb | eb | eb | eb | eb | eb | eb | eb
    · exact go ca5_0 ea eb
    · exact go ca5_1 ea eb
    · exact go ca5_2 ea eb
    · exact go ca5_3 ea eb
    · exact go ca5_4 ea eb
    · exact go ca5_5 ea eb
    · exact go ca5_6 ea eb
    · exact go ca5_7 ea eb
    · exact go ca5_8 ea eb
    · exact go ca5_9 ea eb
end Go.Proofs.YtoafcnecjgnbmaaGreatDoor.E
