/-
  It is proved that the statement LockTells returns true for every input and does not panic. Conditions: the listed package-level variables start as the program's text lays them (the card ties them).
-/
import Derived.Test.YtggodknolmdegaaGreatDoorQd
import Derived.Test.YtggodknolmdegaaGreatDoorQb
import Derived.Test.YtggodknolmdegaaGreatDoorRows
import Derived.Stop.LaidErr
import Derived.Lib.LaidTab
import Derived.LaidMore
import Derived.Test.YtggodknolmdegaaGreatDoorCards
import Derived.Test.YtggodknolmdegaaGreatDoorTie
import Derived.Lay
import Derived.SevenTiedAt
import Derived.Stop.Joined
set_option linter.unusedVariables false
set_option maxRecDepth 100000
namespace Go.Proofs.YtggodknolmdegaaGreatDoor.H
instance : CelS Tryz.prog 1 1 := ⟨by kernel_rfl, by decide⟩
instance : CelS Tryz.prog 2 1 := ⟨by kernel_rfl, by decide⟩
instance : CelS Tryz.prog 3 1 := ⟨by kernel_rfl, by decide⟩
instance : CelS Tryz.prog 4 1 := ⟨by kernel_rfl, by decide⟩
instance : CelS Tryz.prog 5 1 := ⟨by kernel_rfl, by decide⟩
instance : CelS Tryz.prog 6 1 := ⟨by kernel_rfl, by decide⟩
instance : CelS Tryz.prog 7 4 := ⟨by kernel_rfl, by decide⟩
instance : StrT Tryz.prog 7 [2, 3, 4, 6] := ⟨_, Tryz.underlying7, rfl, by kernel_rfl, by kernel_rfl⟩
instance : CelS Tryz.prog 8 4 := ⟨by kernel_rfl, by decide⟩
instance : StrT Tryz.prog 8 [2, 3, 4, 6] := ⟨_, Tryz.underlying8, rfl, by kernel_rfl, by kernel_rfl⟩
instance : CelS Tryz.prog 9 1 := ⟨by kernel_rfl, by decide⟩
instance : CelS Tryz.prog 10 1 := ⟨by kernel_rfl, by decide⟩
instance : CelS Tryz.prog 11 1 := ⟨by kernel_rfl, by decide⟩
instance : CelS Tryz.prog 12 1 := ⟨by kernel_rfl, by decide⟩
instance : CelS Tryz.prog 13 2 := ⟨by kernel_rfl, by decide⟩
instance : StrT Tryz.prog 13 [9, 12] := ⟨_, Tryz.underlying13, rfl, by kernel_rfl, by kernel_rfl⟩
instance : CelS Tryz.prog 14 2 := ⟨by kernel_rfl, by decide⟩
instance : StrT Tryz.prog 14 [9, 12] := ⟨_, Tryz.underlying14, rfl, by kernel_rfl, by kernel_rfl⟩
instance : CelS Tryz.prog 15 1 := ⟨by kernel_rfl, by decide⟩
instance : CelS Tryz.prog 16 1 := ⟨by kernel_rfl, by decide⟩
instance : CelS Tryz.prog 17 1 := ⟨by kernel_rfl, by decide⟩
instance : CelS Tryz.prog 18 1 := ⟨by kernel_rfl, by decide⟩
instance : StrT Tryz.prog 18 [17] := ⟨_, Tryz.underlying18, rfl, by kernel_rfl, by kernel_rfl⟩
instance : CelS Tryz.prog 19 1 := ⟨by kernel_rfl, by decide⟩
instance : StrT Tryz.prog 19 [17] := ⟨_, Tryz.underlying19, rfl, by kernel_rfl, by kernel_rfl⟩
instance : CelS Tryz.prog 20 1 := ⟨by kernel_rfl, by decide⟩
instance : CelS Tryz.prog 21 1 := ⟨by kernel_rfl, by decide⟩
instance : CelS Tryz.prog 22 1 := ⟨by kernel_rfl, by decide⟩
instance : CelS Tryz.prog 23 1 := ⟨by kernel_rfl, by decide⟩
instance : CelS Tryz.prog 24 1 := ⟨by kernel_rfl, by decide⟩
instance : CelS Tryz.prog 26 1 := ⟨by kernel_rfl, by decide⟩
instance : CelS Tryz.prog 28 1 := ⟨by kernel_rfl, by decide⟩
instance : CelS Tryz.prog 29 1 := ⟨by kernel_rfl, by decide⟩
instance : CelS Tryz.prog 30 1 := ⟨by kernel_rfl, by decide⟩
instance : CelS Tryz.prog 31 1 := ⟨by kernel_rfl, by decide⟩
instance : CelS Tryz.prog 32 1 := ⟨by kernel_rfl, by decide⟩
instance : CelS Tryz.prog 33 1 := ⟨by kernel_rfl, by decide⟩
instance : CelS Tryz.prog 34 4 := ⟨by kernel_rfl, by decide⟩
instance : StrT Tryz.prog 34 [3, 3, 3, 33] := ⟨_, Tryz.underlying34, rfl, by kernel_rfl, by kernel_rfl⟩
instance : CelS Tryz.prog 35 4 := ⟨by kernel_rfl, by decide⟩
instance : StrT Tryz.prog 35 [3, 3, 3, 33] := ⟨_, Tryz.underlying35, rfl, by kernel_rfl, by kernel_rfl⟩
instance : CelS Tryz.prog 36 32 := ⟨by kernel_rfl, by decide⟩
instance : ArrT Tryz.prog 36 32 5 1 := ⟨Tryz.underlying36, by kernel_rfl, by kernel_rfl⟩
instance : CelS Tryz.prog 37 32 := ⟨by kernel_rfl, by decide⟩
instance : ArrT Tryz.prog 37 32 5 1 := ⟨Tryz.underlying37, by kernel_rfl, by kernel_rfl⟩
instance : CelS Tryz.prog 38 37 := ⟨by kernel_rfl, by decide⟩
instance : StrT Tryz.prog 38 [9, 35, 37] := ⟨_, Tryz.underlying38, rfl, by kernel_rfl, by kernel_rfl⟩
instance : CelS Tryz.prog 39 37 := ⟨by kernel_rfl, by decide⟩
instance : StrT Tryz.prog 39 [9, 35, 37] := ⟨_, Tryz.underlying39, rfl, by kernel_rfl, by kernel_rfl⟩
instance : CelS Tryz.prog 40 1 := ⟨by kernel_rfl, by decide⟩
instance : CelS Tryz.prog 41 1 := ⟨by kernel_rfl, by decide⟩
instance : CelS Tryz.prog 42 1 := ⟨by kernel_rfl, by decide⟩
instance : CelS Tryz.prog 44 1 := ⟨by kernel_rfl, by decide⟩
instance : CelS Tryz.prog 45 1 := ⟨by kernel_rfl, by decide⟩
instance : CelS Tryz.prog 46 1 := ⟨by kernel_rfl, by decide⟩
instance : CelS Tryz.prog 47 1 := ⟨by kernel_rfl, by decide⟩
instance : CelS Tryz.prog 48 1 := ⟨by kernel_rfl, by decide⟩
instance : CelS Tryz.prog 49 1 := ⟨by kernel_rfl, by decide⟩
instance : CelS Tryz.prog 50 1 := ⟨by kernel_rfl, by decide⟩
instance : CelS Tryz.prog 51 1 := ⟨by kernel_rfl, by decide⟩
instance : StrT Tryz.prog 51 [3] := ⟨_, Tryz.underlying51, rfl, by kernel_rfl, by kernel_rfl⟩
instance : CelS Tryz.prog 52 1 := ⟨by kernel_rfl, by decide⟩
instance : StrT Tryz.prog 52 [3] := ⟨_, Tryz.underlying52, rfl, by kernel_rfl, by kernel_rfl⟩
instance : CelS Tryz.prog 54 1 := ⟨by kernel_rfl, by decide⟩
instance : CelS Tryz.prog 55 1 := ⟨by kernel_rfl, by decide⟩
instance : CelS Tryz.prog 56 1 := ⟨by kernel_rfl, by decide⟩
instance : CelS Tryz.prog 57 1 := ⟨by kernel_rfl, by decide⟩
instance : CelS Tryz.prog 58 1 := ⟨by kernel_rfl, by decide⟩
instance : CelS Tryz.prog 59 1 := ⟨by kernel_rfl, by decide⟩
instance : CelS Tryz.prog 60 1 := ⟨by kernel_rfl, by decide⟩
instance : CelS Tryz.prog 62 1 := ⟨by kernel_rfl, by decide⟩
instance : CelS Tryz.prog 63 1 := ⟨by kernel_rfl, by decide⟩
instance : CelS Tryz.prog 64 1 := ⟨by kernel_rfl, by decide⟩
instance : CelS Tryz.prog 65 1 := ⟨by kernel_rfl, by decide⟩
instance : CelS Tryz.prog 66 1 := ⟨by kernel_rfl, by decide⟩
instance : CelS Tryz.prog 67 1 := ⟨by kernel_rfl, by decide⟩
instance : CelS Tryz.prog 68 2 := ⟨by kernel_rfl, by decide⟩
instance : StrT Tryz.prog 68 [67, 41] := ⟨_, Tryz.underlying68, rfl, by kernel_rfl, by kernel_rfl⟩
instance : CelS Tryz.prog 69 2 := ⟨by kernel_rfl, by decide⟩
instance : StrT Tryz.prog 69 [67, 41] := ⟨_, Tryz.underlying69, rfl, by kernel_rfl, by kernel_rfl⟩
instance : CelS Tryz.prog 70 1 := ⟨by kernel_rfl, by decide⟩
instance : CelS Tryz.prog 71 1 := ⟨by kernel_rfl, by decide⟩
instance : CelS Tryz.prog 73 1 := ⟨by kernel_rfl, by decide⟩
instance : CelS Tryz.prog 74 1 := ⟨by kernel_rfl, by decide⟩
instance : CelS Tryz.prog 75 1 := ⟨by kernel_rfl, by decide⟩
instance : CelS Tryz.prog 76 1 := ⟨by kernel_rfl, by decide⟩
instance : CelS Tryz.prog 77 1 := ⟨by kernel_rfl, by decide⟩
instance : CelS Tryz.prog 78 1 := ⟨by kernel_rfl, by decide⟩
instance : CelS Tryz.prog 80 1 := ⟨by kernel_rfl, by decide⟩
instance : CelS Tryz.prog 81 1 := ⟨by kernel_rfl, by decide⟩
instance : CelS Tryz.prog 83 1 := ⟨by kernel_rfl, by decide⟩
instance : CelS Tryz.prog 84 1 := ⟨by kernel_rfl, by decide⟩
instance : CelS Tryz.prog 85 1 := ⟨by kernel_rfl, by decide⟩
instance : CelS Tryz.prog 86 1 := ⟨by kernel_rfl, by decide⟩
instance : CelS Tryz.prog 87 1 := ⟨by kernel_rfl, by decide⟩
instance : CelS Tryz.prog 88 1 := ⟨by kernel_rfl, by decide⟩
instance : CelS Tryz.prog 89 1 := ⟨by kernel_rfl, by decide⟩
instance : CelS Tryz.prog 90 1 := ⟨by kernel_rfl, by decide⟩
instance : CelS Tryz.prog 92 1 := ⟨by kernel_rfl, by decide⟩
instance : CelS Tryz.prog 93 3 := ⟨by kernel_rfl, by decide⟩
instance : ArrT Tryz.prog 93 3 3 1 := ⟨Tryz.underlying93, by kernel_rfl, by kernel_rfl⟩
instance : CelS Tryz.prog 94 1 := ⟨by kernel_rfl, by decide⟩
instance : CelS Tryz.prog 95 1 := ⟨by kernel_rfl, by decide⟩
instance : CelS Tryz.prog 96 1 := ⟨by kernel_rfl, by decide⟩
instance : CelS Tryz.prog 97 1 := ⟨by kernel_rfl, by decide⟩
instance : CelS Tryz.prog 98 1 := ⟨by kernel_rfl, by decide⟩
instance : CelS Tryz.prog 99 1 := ⟨by kernel_rfl, by decide⟩
instance : CelS Tryz.prog 100 1 := ⟨by kernel_rfl, by decide⟩
instance : CelS Tryz.prog 101 1 := ⟨by kernel_rfl, by decide⟩
instance : CelS Tryz.prog 102 1 := ⟨by kernel_rfl, by decide⟩
instance : CelS Tryz.prog 104 1 := ⟨by kernel_rfl, by decide⟩
instance : CelS Tryz.prog 105 1 := ⟨by kernel_rfl, by decide⟩
instance : CelS Tryz.prog 106 1 := ⟨by kernel_rfl, by decide⟩
instance : CelS Tryz.prog 107 1 := ⟨by kernel_rfl, by decide⟩
instance : CelS Tryz.prog 108 1 := ⟨by kernel_rfl, by decide⟩
instance : CelS Tryz.prog 109 24 := ⟨by kernel_rfl, by decide⟩
instance : ArrT Tryz.prog 109 24 5 1 := ⟨Tryz.underlying109, by kernel_rfl, by kernel_rfl⟩
instance : CelS Tryz.prog 110 1 := ⟨by kernel_rfl, by decide⟩
instance : CelS Tryz.prog 111 1 := ⟨by kernel_rfl, by decide⟩
instance : CelS Tryz.prog 112 1 := ⟨by kernel_rfl, by decide⟩
instance : CelS Tryz.prog 114 1 := ⟨by kernel_rfl, by decide⟩
instance : CelS Tryz.prog 115 1 := ⟨by kernel_rfl, by decide⟩
instance : CelS Tryz.prog 117 2 := ⟨by kernel_rfl, by decide⟩
instance : StrT Tryz.prog 117 [5, 5] := ⟨_, Tryz.underlying117, rfl, by kernel_rfl, by kernel_rfl⟩
instance : CelS Tryz.prog 118 2 := ⟨by kernel_rfl, by decide⟩
instance : StrT Tryz.prog 118 [5, 5] := ⟨_, Tryz.underlying118, rfl, by kernel_rfl, by kernel_rfl⟩
instance : CelS Tryz.prog 119 32 := ⟨by kernel_rfl, by decide⟩
instance : ArrT Tryz.prog 119 16 118 2 := ⟨Tryz.underlying119, by kernel_rfl, by kernel_rfl⟩
instance : CelS Tryz.prog 120 1 := ⟨by kernel_rfl, by decide⟩
instance : CelS Tryz.prog 122 1 := ⟨by kernel_rfl, by decide⟩
instance : CelS Tryz.prog 123 1 := ⟨by kernel_rfl, by decide⟩
instance : CelS Tryz.prog 125 1 := ⟨by kernel_rfl, by decide⟩
instance : CelS Tryz.prog 126 1 := ⟨by kernel_rfl, by decide⟩
instance : CelS Tryz.prog 127 1 := ⟨by kernel_rfl, by decide⟩
instance : CelS Tryz.prog 128 1 := ⟨by kernel_rfl, by decide⟩
instance : CelS Tryz.prog 129 1 := ⟨by kernel_rfl, by decide⟩
instance : CelS Tryz.prog 130 20 := ⟨by kernel_rfl, by decide⟩
instance : ArrT Tryz.prog 130 20 110 1 := ⟨Tryz.underlying130, by kernel_rfl, by kernel_rfl⟩
instance : CelS Tryz.prog 132 1 := ⟨by kernel_rfl, by decide⟩
instance : CelS Tryz.prog 133 1 := ⟨by kernel_rfl, by decide⟩
instance : CelS Tryz.prog 135 1 := ⟨by kernel_rfl, by decide⟩
instance : CelS Tryz.prog 136 1 := ⟨by kernel_rfl, by decide⟩
instance : CelS Tryz.prog 137 3 := ⟨by kernel_rfl, by decide⟩
instance : StrT Tryz.prog 137 [9, 9, 71] := ⟨_, Tryz.underlying137, rfl, by kernel_rfl, by kernel_rfl⟩
instance : CelS Tryz.prog 138 3 := ⟨by kernel_rfl, by decide⟩
instance : StrT Tryz.prog 138 [9, 9, 71] := ⟨_, Tryz.underlying138, rfl, by kernel_rfl, by kernel_rfl⟩
instance : CelS Tryz.prog 139 1 := ⟨by kernel_rfl, by decide⟩
instance : CelS Tryz.prog 140 1 := ⟨by kernel_rfl, by decide⟩
instance : CelS Tryz.prog 141 1 := ⟨by kernel_rfl, by decide⟩
instance : CelS Tryz.prog 142 1 := ⟨by kernel_rfl, by decide⟩
instance : CelS Tryz.prog 143 1 := ⟨by kernel_rfl, by decide⟩
instance : StrT Tryz.prog 143 [9] := ⟨_, Tryz.underlying143, rfl, by kernel_rfl, by kernel_rfl⟩
instance : CelS Tryz.prog 144 1 := ⟨by kernel_rfl, by decide⟩
instance : StrT Tryz.prog 144 [9] := ⟨_, Tryz.underlying144, rfl, by kernel_rfl, by kernel_rfl⟩
instance : CelS Tryz.prog 145 64 := ⟨by kernel_rfl, by decide⟩
instance : ArrT Tryz.prog 145 64 5 1 := ⟨Tryz.underlying145, by kernel_rfl, by kernel_rfl⟩
instance : CelS Tryz.prog 146 4 := ⟨by kernel_rfl, by decide⟩
instance : StrT Tryz.prog 146 [17, 17, 17, 9] := ⟨_, Tryz.underlying146, rfl, by kernel_rfl, by kernel_rfl⟩
instance : CelS Tryz.prog 147 4 := ⟨by kernel_rfl, by decide⟩
instance : StrT Tryz.prog 147 [17, 17, 17, 9] := ⟨_, Tryz.underlying147, rfl, by kernel_rfl, by kernel_rfl⟩
instance : ArrT Tryz.prog 148 0 16 1 := ⟨Tryz.underlying148, by kernel_rfl, by kernel_rfl⟩
instance : StrT Tryz.prog 149 [148] := ⟨_, Tryz.underlying149, rfl, by kernel_rfl, by kernel_rfl⟩
instance : StrT Tryz.prog 150 [148] := ⟨_, Tryz.underlying150, rfl, by kernel_rfl, by kernel_rfl⟩
instance : CelS Tryz.prog 151 1 := ⟨by kernel_rfl, by decide⟩
instance : CelS Tryz.prog 152 1 := ⟨by kernel_rfl, by decide⟩
instance : CelS Tryz.prog 153 1 := ⟨by kernel_rfl, by decide⟩
instance : CelS Tryz.prog 154 1 := ⟨by kernel_rfl, by decide⟩
instance : CelS Tryz.prog 155 1 := ⟨by kernel_rfl, by decide⟩
instance : CelS Tryz.prog 156 1 := ⟨by kernel_rfl, by decide⟩
instance : CelS Tryz.prog 157 11 := ⟨by kernel_rfl, by decide⟩
instance : StrT Tryz.prog 157 [12, 12, 120, 152, 5, 5, 153, 154, 88, 155, 156] := ⟨_, Tryz.underlying157, rfl, by kernel_rfl, by kernel_rfl⟩
instance : CelS Tryz.prog 158 11 := ⟨by kernel_rfl, by decide⟩
instance : StrT Tryz.prog 158 [12, 12, 120, 152, 5, 5, 153, 154, 88, 155, 156] := ⟨_, Tryz.underlying158, rfl, by kernel_rfl, by kernel_rfl⟩
end Go.Proofs.YtggodknolmdegaaGreatDoor.H

namespace Go.Proofs.YtggodknolmdegaaGreatDoor.Lk
open Go.RowKit H S Ve
attribute [local irreducible] H.CL H.RW H.CW H.Yd H.thenK H.blockQ Go.Calls keyAt unhexB
abbrev RawV := Int × (Int × (Int × ((Value × List T) × Unit)))
abbrev RawP := T × (RawV × (List UInt8 × Unit))
def openP (y : RawP) : Pm := if h : y.2.2.1.length = 32 then ⟨⟨y.1, ⟨y.2.1.1, y.2.1.2.1, y.2.1.2.2.1, y.2.1.2.2.2.1.2⟩, y.2.2.1⟩, y.2.1.2.2.2.1.1, h⟩ else default
theorem openP_eq {y : RawP} (h : y.2.2.1.length = 32) : openP y = ⟨⟨y.1, ⟨y.2.1.1, y.2.1.2.1, y.2.1.2.2.1, y.2.1.2.2.2.1.2⟩, y.2.2.1⟩, y.2.1.2.2.2.1.1, h⟩ := dif_pos h
abbrev enP (y : RawP) : List Value := [vs y.1] ++ (([.int .i64 y.2.1.1] ++ ([.int .i64 y.2.1.2.1] ++ ([.int .i64 y.2.1.2.2.1] ++ ([y.2.1.2.2.2.1.1] ++ [])))) ++ ((y.2.2.1.flatMap fun n => [vb n]) ++ []))
theorem openP_cells : ∀ (l : List RawP), (∀ y ∈ l, y.2.2.1.length = 32) → (l.map openP).flatMap pmC = l.flatMap enP
  | [], _ => rfl
  | y :: r, h => by
    rw [List.map_cons, List.flatMap_cons, List.flatMap_cons, openP_cells r fun z hz => h z (by simp [hz]), openP_eq (h y (by simp)), pmC, enP, flat_one]
    simp
theorem openP_ga {W : World} {v : Value} {l : List RawP} (h : Sl W 37 v l.length (l.flatMap enP)) (k : ∀ y ∈ l, y.2.2.1.length = 32 ∧ Sl W 1 y.2.1.2.2.2.1.1 y.2.1.2.2.2.1.2.length (y.2.1.2.2.2.1.2.flatMap fun s => [vs s])) : GA pmK W v (l.map openP) := by
  refine ⟨?_, fun x hx => ?_⟩
  · show Sl W 37 v (l.map openP).length ((l.map openP).flatMap pmC)
    rw [List.length_map, openP_cells l fun y hy => (k y hy).1]
    exact h
  · obtain ⟨y, hy, rfl⟩ := List.mem_map.1 hx
    rw [openP_eq (k y hy).1]
    exact Sl.map (k y hy).2
theorem openP_mach {l : List RawP} (k : ∀ y ∈ l, y.2.2.1.length = 32 ∧ y.2.1.1 ≤ 9223372036854775807 ∧ y.2.1.2.1 ≤ 9223372036854775807 ∧ y.2.1.2.2.1 ≤ 9223372036854775807) : ∀ x ∈ l.map openP, Mach x.d := fun x hx => by
  obtain ⟨y, hy, rfl⟩ := List.mem_map.1 hx
  rw [openP_eq (k y hy).1]
  exact (k y hy).2
end Go.Proofs.YtggodknolmdegaaGreatDoor.Lk

namespace Go.Proofs.YtggodknolmdegaaGreatDoor.Ve
open Go.RowKit H
theorem tab_at {P : Program} {W : World} {name : String} {k : IntKind} {zs : List Int} {rest : List (String × DataW Unit)} {t e : TypeId} {n : Nat}
    (hty : (P.globalNamed name).bind (fun g => (P.globals[g]?).map (·.type)) = some t) (ht : P.underlying t = some (.array n e)) (he : P.underlying e = some (.int k)) (hce : P.cellsOf e = 1) (hct : P.cellsOf t = n)
    (h : laidMet P ((name, Go.Lib.tabData k zs) :: rest) W) : Go.Lib.TabIs P W name k zs := by
  obtain ⟨g, hg⟩ : ∃ g, P.globalNamed name = some g := by
    cases hh : P.globalNamed name with
    | none => rw [hh] at hty; cases hty
    | some g => exact ⟨g, rfl⟩
  rw [hg] at hty
  exact Go.Lib.tabIs_of_head hg hty ht he hce hct h
theorem tb_of {W : World} {rest : List (String × DataW Unit)} (h : laidMet Tryz.prog (("internal/strconv.uint64pow10", Rows.laid_internal_strconv_uint64pow10) :: rest) W) : Tb W :=
  tab_at (t := 130) (by kernel_rfl) Tryz.underlying130 Tryz.underlying110 (by kernel_rfl) (by kernel_rfl) h
end Go.Proofs.YtggodknolmdegaaGreatDoor.Ve

namespace Go.Proofs.YtggodknolmdegaaGreatDoor.lockTells
open Go.ChangeShapes Go.WideShapes Go.ChangeAt Go.RowKit
set_option linter.unusedVariables false

theorem own : ownKnob Tryz.prog.godebug = none := by kernel_rfl
theorem types : ∀ t ∈ ([23, 23] : List TypeId), Tryz.prog.readableRec t = true ∧ t < Tryz.prog.types.size := by
  intro t ht
  simp only [List.mem_cons, List.not_mem_nil, or_false] at ht
  rcases ht with rfl | rfl <;> exact ⟨by kernel_rfl, of_decide_eq_true (by kernel_rfl)⟩

set_option maxRecDepth 100000 in
theorem lifted (os : Os) (started : os.Started) (H : Type) (enc : TypeId × Value → H) :
    ReturnsInHanded {} Tryz.checked os 4 .any (fun w args => (Rows.lockTellsSpec.pre enc Tryz.prog Tryz.f4 Rows.lockTellsRow.domain false w args ∧ laidMetH Tryz.prog Rows.lockTellsRow.laid w) ∧ sizedMet enc Tryz.prog Tryz.f4 (OpenSpec.ofChange Rows.lockTellsSpec) false w args) (Rows.lockTellsSpec.post enc Tryz.prog Tryz.f4 false true false false) := by
  refine returnsInHanded_of_change_and (C := Tryz.checked) (X := fun w _ => laidMetH Tryz.prog Rows.lockTellsRow.laid w) (fun _ _ _ hh h => h.of_heap hh) own started (by kernel_rfl) Tryz.func4
    (ChangeSpec.witness_shaped (enc := enc) (C := Tryz.checked) (os := os) (X := fun w _ => laidMetH Tryz.prog Rows.lockTellsRow.laid w) false (World.laidAll Tryz.prog os Rows.lockTellsRow.laid) #[.slice none 0 0, .slice none 0 0] 8 (World.laidAll_os _ _ _)
      (World.shaped_of_ZipB (by kernel_rfl) (by kernel_rfl)) (by kernel_rfl) (by kernel_rfl) (by kernel_rfl)
      (by rw [MakeChecks.laidMetH_plain _ _ _ (by kernel_rfl)]; exact laidMet_laidAll _ (by kernel_rfl) (by kernel_rfl))) ?_
  intro W base args ds gs before hval hW _ _ hL _
  have hL' : laidMet Tryz.prog Rows.lockTellsRow.laid W := by have h := hL; rw [MakeChecks.laidMetH_plain _ _ _ (by kernel_rfl)] at h; exact h
  have hT := Go.Proofs.YtggodknolmdegaaGreatDoor.Ve.tb_of hL'.tail.tail
  exact Go.Proofs.YtggodknolmdegaaGreatDoor.H.law_contractW (P := Tryz.prog) (k := 4) (f := Tryz.f4) (s := Rows.lockTellsSpec) (tb := 4) (by kernel_rfl) Tryz.underlying4 rfl rfl (ts := [23, 23]) rfl types (fun H ds h => match ds, h with | [d1, d2], _ => rfl)
    W (fun a h => by
  obtain ⟨⟨v, l⟩, ⟨u, m⟩, ⟨⟩⟩ := a
  obtain ⟨⟨h0, k0⟩, ⟨h1, k1⟩, _⟩ := h
  exact Lk.lawTells v u (l.map Lk.openP) (m.map Lk.openP) W (Lk.openP_ga h0 fun y hy => ⟨(k0 y hy).2.2.1.1, (k0 y hy).2.1.2.2.2.1.1⟩) (Lk.openP_ga h1 fun y hy => ⟨(k1 y hy).2.2.1.1, (k1 y hy).2.1.2.2.2.1.1⟩) (Lk.openP_mach fun y hy => ⟨(k0 y hy).2.2.1.1, (k0 y hy).2.1.1.2, (k0 y hy).2.1.2.1.2, (k0 y hy).2.1.2.2.1.2⟩) (Lk.openP_mach fun y hy => ⟨(k1 y hy).2.2.1.1, (k1 y hy).2.1.1.2, (k1 y hy).2.1.2.1.2, (k1 y hy).2.1.2.2.1.2⟩) hT)
    H enc base args ds gs before hval hW

theorem over : Rows.LockTellsSaid :=
  OpenClaim.holds_of_wide 4 Tryz.f4 rfl rfl rfl rfl rfl rfl rfl ⟨rfl, rfl, rfl, rfl, rfl⟩ rfl rfl rfl rfl rfl (by kernel_rfl) Tryz.func4 (by kernel_rfl)
    (of_decide_eq_true (by kernel_rfl)) (by unfold Func.isWrapper; first | (rw [if_pos (by decide +kernel)]; kernel_rfl) | (rw [if_neg (by decide +kernel)]; exact ⟨rfl, rfl⟩))
    (fun os started H enc _ => lifted os started H enc)

theorem plain (f : FuncId) (fn : Func) (hf : Tryz.pinned.checked.prog.funcNamed "haversack/haversacklaw12.LockTells" = some f) (hfn : Tryz.pinned.checked.prog.funcs[f]? = some fn) :
    true = Tryz.pinned.checked.prog.looks [] ∧ ∀ (j : Nat) t, fn.params[j]? = some t → Tryz.pinned.checked.prog.wantsStandIn t = false := by
  obtain rfl : f = 4 := Option.some.inj ((show Tryz.prog.funcNamed "haversack/haversacklaw12.LockTells" = some 4 by kernel_rfl).symm.trans hf) |>.symm
  obtain rfl : fn = Tryz.f4 := (Option.some.inj (Tryz.func4.symm.trans hfn)).symm
  refine ⟨by kernel_rfl, fun j t ht => ?_⟩
  have hm : t ∈ ([23, 23] : List TypeId) := by simpa using Array.mem_of_getElem? ht
  have hall : (([23, 23] : List TypeId).all fun u => !Tryz.prog.wantsStandIn u) = true := by kernel_rfl
  exact (show Tryz.prog.wantsStandIn t = false by simpa using List.all_eq_true.1 hall t hm)

theorem proved : Rows.LockTellsCardSaid :=
  Claim7.holds_tied_plain_at .later [] _ _ _ _ over (fun _ h => by cases h) (by kernel_rfl) (fun _ h => by cases h) lockTells_row_tie rfl ⟨rfl, rfl⟩ (by kernel_rfl) rfl plain (by kernel_rfl)
#print axioms proved
end Go.Proofs.YtggodknolmdegaaGreatDoor.lockTells

