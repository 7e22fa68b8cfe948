/-
  The law TopChained: what its fifteen runs show.
-/
import Derived.Test.YtoafcnecjgnbmaaGreatDoorWE130
import Derived.Test.YtoafcnecjgnbmaaGreatDoorWE131
import Derived.Test.YtoafcnecjgnbmaaGreatDoorWE132
import Derived.Test.YtoafcnecjgnbmaaGreatDoorWE133
import Derived.Test.YtoafcnecjgnbmaaGreatDoorWE134
import Derived.Test.YtoafcnecjgnbmaaGreatDoorWE135
import Derived.Test.YtoafcnecjgnbmaaGreatDoorWE136
import Derived.Test.YtoafcnecjgnbmaaGreatDoorWE137
import Derived.Test.YtoafcnecjgnbmaaGreatDoorWE138
import Derived.Test.YtoafcnecjgnbmaaGreatDoorWE139
import Derived.Test.YtoafcnecjgnbmaaGreatDoorWE140
import Derived.Test.YtoafcnecjgnbmaaGreatDoorWE141
import Derived.Test.YtoafcnecjgnbmaaGreatDoorWE142
import Derived.Test.YtoafcnecjgnbmaaGreatDoorWE143
import Derived.Test.YtoafcnecjgnbmaaGreatDoorWE144
set_option linter.unusedVariables false
set_option linter.unusedSimpArgs false
namespace Go.Proofs.YtoafcnecjgnbmaaGreatDoor.E
open Go Go.RowKit H
theorem chained (a b : UInt8) (w : World) (hw : Wf w) : Calls Tryz.prog 4 #[.int .u8 (a.toNat : Int), .int .u8 (b.toNat : Int)] w fun e w' => e = .returned (.bool true) ∧ K0 w w' := by
  have ha := a.toNat_lt
  have hb := b.toNat_lt
  have hs : ∀ i m j, a.toNat % 5 = i → b.toNat % m = j → reals (r00 fun k => if k = 0 then a.toNat else b.toNat) [.sym .u8 0 5 i, .sym .u8 1 m j] = some [.int .u8 (a.toNat : Int), .int .u8 (b.toNat : Int)] := fun i m j hi hj => by
    have e1 : real (r00 fun k => if k = 0 then a.toNat else b.toNat) (.sym .u8 0 5 i) = some (.int .u8 (a.toNat : Int)) := by
      simp only [real]
      show (if a.toNat % 5 = i ∧ a.toNat < 256 then some (Value.int .u8 (Int.ofNat a.toNat)) else none) = _
      rw [if_pos ⟨hi, by omega⟩]; rfl
    have e2 : real (r00 fun k => if k = 0 then a.toNat else b.toNat) (.sym .u8 1 m j) = some (.int .u8 (b.toNat : Int)) := by
      simp only [real]
      show (if b.toNat % m = j ∧ b.toNat < 256 then some (Value.int .u8 (Int.ofNat b.toNat)) else none) = _
      rw [if_pos ⟨hj, by omega⟩]; rfl
    exact reals_cons.2 ⟨_, _, e1, reals_cons.2 ⟨_, _, e2, reals_nil, rfl⟩, rfl⟩
  rcases (by omega : a.toNat % 5 = 0 ∨ a.toNat % 5 = 1 ∨ a.toNat % 5 = 2 ∨ a.toNat % 5 = 3 ∨ a.toNat % 5 = 4) with ea | ea | ea | ea | ea
  · have eb : b.toNat % 1 = 0 := Nat.mod_one _
    exact (law_of tbY_ok (cRun0_0 true) hw (hs 0 1 0 ea eb)).mono fun e w' h => ⟨h.2, h.1⟩
  · rcases (by omega : b.toNat % 2 = 0 ∨ b.toNat % 2 = 1) with eb | eb
    · exact (law_of tbY_ok (cRun1_0 true) hw (hs 1 2 0 ea eb)).mono fun e w' h => ⟨h.2, h.1⟩
    · exact (law_of tbY_ok (cRun1_1 true) hw (hs 1 2 1 ea eb)).mono fun e w' h => ⟨h.2, h.1⟩
  · rcases (by omega : b.toNat % 3 = 0 ∨ b.toNat % 3 = 1 ∨ b.toNat % 3 = 2) with eb | eb | eb
    · exact (law_of tbY_ok (cRun2_0 true) hw (hs 2 3 0 ea eb)).mono fun e w' h => ⟨h.2, h.1⟩
    · exact (law_of tbY_ok (cRun2_1 true) hw (hs 2 3 1 ea eb)).mono fun e w' h => ⟨h.2, h.1⟩
    · exact (law_of tbY_ok (cRun2_2 true) hw (hs 2 3 2 ea eb)).mono fun e w' h => ⟨h.2, h.1⟩
  · rcases (by omega : b.toNat % 4 = 0 ∨ b.toNat % 4 = 1 ∨ b.toNat % 4 = 2 ∨ b.toNat % 4 = 3) with eb | eb | eb | eb
    · exact (law_of tbY_ok (cRun3_0 true) hw (hs 3 4 0 ea eb)).mono fun e w' h => ⟨h.2, h.1⟩
    · exact (law_of tbY_ok (cRun3_1 true) hw (hs 3 4 1 ea eb)).mono fun e w' h => ⟨h.2, h.1⟩
    · exact (law_of tbY_ok (cRun3_2 true) hw (hs 3 4 2 ea eb)).mono fun e w' h => ⟨h.2, h.1⟩
    · exact (law_of tbY_ok (cRun3_3 true) hw (hs 3 4 3 ea eb)).mono fun e w' h => ⟨h.2, h.1⟩
  · rcases (by omega : b.toNat % 5 = 0 ∨ b.toNat % 5 = 1 ∨ b.toNat % 5 = 2 ∨ b.toNat % 5 = 3 ∨ b.toNat % 5 = 4) with eb | eb | eb | eb | eb
    · exact (law_of tbY_ok (cRun4_0 true) hw (hs 4 5 0 ea eb)).mono fun e w' h => ⟨h.2, h.1⟩
    · exact (law_of tbY_ok (cRun4_1 true) hw (hs 4 5 1 ea eb)).mono fun e w' h => ⟨h.2, h.1⟩
    · exact (law_of tbY_ok (cRun4_2 true) hw (hs 4 5 2 ea eb)).mono fun e w' h => ⟨h.2, h.1⟩
    · exact (law_of tbY_ok (cRun4_3 true) hw (hs 4 5 3 ea eb)).mono fun e w' h => ⟨h.2, h.1⟩
    · exact (law_of tbY_ok (cRun4_4 true) hw (hs 4 5 4 ea eb)).mono fun e w' h => ⟨h.2, h.1⟩
end Go.Proofs.YtoafcnecjgnbmaaGreatDoor.E
