/-
  DERIVED. GIVEN WITH THE SEED: THE CARDS: each row of YtjlkmdmpejpmpaaGreatDoorRows.lean that lists a variable, with what it lists TIED to the program's text (the seventh form; the later family's looks); each row that meets fmt, with fmt's text TOLD by the authors' own Lean function (tested against real Go, not proved from fmt's source: count such statements apart). THE CARD IS WHAT COUNTS. Prove the row's statement (the work); the ties are given (YtjlkmdmpejpmpaaGreatDoorTie.lean); close each card by the builder's one call (the guide's Derived/Test/ToyasCard.lean, 'card_holds'). Laid BY PROGRAM, IN A SANDBOX (cutbox-door.mjs). By AI agents, Wed Nov 11 2026. No macro, syntax, notation, axiom, sorry.
-/
import Derived.Test.YtjlkmdmpejpmpaaGreatDoorRows
import GoSem.ClaimSeven
namespace Go.Proofs.YtjlkmdmpejpmpaaGreatDoor
namespace Rows

/-- THE TIED CARD OF 'haversacklaw11.ManifestReads'. -/
def manifestReadsCard : Claim7 := { stood := { row := manifestReadsRow, standIns := [], harness := (true, "e47b0bf3eee4240c02ce9cb5f2a54f2076f370392fff89eca5ab2584ebc2b30c"), looks := true }, kinds := [], alts := [], laidByText := true, laidKinds := [.data, .data, .data, .data, .sentinel, .sentinel, .pinned], laidTests := true, laidLooks := .later }
def ManifestReadsCardSaid : Prop := Claim7.holds Tryz.pinned (.plain (OpenSpec.ofChange manifestReadsSpec)) manifestReadsCard

/-- THE TIED CARD OF 'haversacklaw11.ManifestNames'. -/
def manifestNamesCard : Claim7 := { stood := { row := manifestNamesRow, standIns := [], harness := (true, "e47b0bf3eee4240c02ce9cb5f2a54f2076f370392fff89eca5ab2584ebc2b30c"), looks := true }, kinds := [], alts := [], laidByText := true, laidKinds := [.data, .data, .data, .data, .sentinel, .sentinel, .pinned], laidTests := true, laidLooks := .later }
def ManifestNamesCardSaid : Prop := Claim7.holds Tryz.pinned (.plain (OpenSpec.ofChange manifestNamesSpec)) manifestNamesCard

/-- THE TIED CARD OF 'haversacklaw11.ManifestMany'. -/
def manifestManyCard : Claim7 := { stood := { row := manifestManyRow, standIns := [], harness := (true, "e47b0bf3eee4240c02ce9cb5f2a54f2076f370392fff89eca5ab2584ebc2b30c"), looks := true }, kinds := [], alts := [], laidByText := true, laidKinds := [.data, .data, .data, .data, .sentinel, .sentinel, .pinned], laidTests := true, laidLooks := .later }
def ManifestManyCardSaid : Prop := Claim7.holds Tryz.pinned (.plain (OpenSpec.ofChange manifestManySpec)) manifestManyCard

/-- THE TIED CARD OF 'haversacklaw11.ManifestNoise'. -/
def manifestNoiseCard : Claim7 := { stood := { row := manifestNoiseRow, standIns := [], harness := (true, "e47b0bf3eee4240c02ce9cb5f2a54f2076f370392fff89eca5ab2584ebc2b30c"), looks := true }, kinds := [], alts := [], laidByText := true, laidKinds := [.data, .data, .data, .data, .sentinel, .sentinel, .pinned], laidTests := true, laidLooks := .later }
def ManifestNoiseCardSaid : Prop := Claim7.holds Tryz.pinned (.plain (OpenSpec.ofChange manifestNoiseSpec)) manifestNoiseCard

/-- THE TIED CARD OF 'haversacklaw11.ManifestEdits'. -/
def manifestEditsCard : Claim7 := { stood := { row := manifestEditsRow, standIns := [], harness := (true, "e47b0bf3eee4240c02ce9cb5f2a54f2076f370392fff89eca5ab2584ebc2b30c"), looks := true }, kinds := [], alts := [], laidByText := true, laidKinds := [.data, .data, .data, .data, .sentinel, .sentinel, .pinned], laidTests := true, laidLooks := .later }
def ManifestEditsCardSaid : Prop := Claim7.holds Tryz.pinned (.plain (OpenSpec.ofChange manifestEditsSpec)) manifestEditsCard

/-- THE TIED CARD OF 'haversacklaw11.ManifestOnce'. -/
def manifestOnceCard : Claim7 := { stood := { row := manifestOnceRow, standIns := [], harness := (true, "e47b0bf3eee4240c02ce9cb5f2a54f2076f370392fff89eca5ab2584ebc2b30c"), looks := true }, kinds := [], alts := [], laidByText := true, laidKinds := [.data, .data, .data, .data, .sentinel, .sentinel, .pinned], laidTests := true, laidLooks := .later }
def ManifestOnceCardSaid : Prop := Claim7.holds Tryz.pinned (.plain (OpenSpec.ofChange manifestOnceSpec)) manifestOnceCard

/-- THE SECOND FORM's CARD OF 'haversacklaw11.ManifestReads'. -/
def manifestReadsUptoCard : Claim7 := { stood := { row := manifestReadsUptoRow, standIns := [], harness := (true, "e47b0bf3eee4240c02ce9cb5f2a54f2076f370392fff89eca5ab2584ebc2b30c"), looks := true }, kinds := [], alts := [], laidByText := true, laidKinds := [.data, .data, .data, .data, .sentinel, .sentinel, .pinned], laidTests := true, laidLooks := .later }
def ManifestReadsUptoCardSaid : Prop := Claim7.holds Tryz.pinned (.plain (OpenSpec.upto manifestReadsSpec)) manifestReadsUptoCard

/-- THE SECOND FORM's CARD OF 'haversacklaw11.ManifestNames'. -/
def manifestNamesUptoCard : Claim7 := { stood := { row := manifestNamesUptoRow, standIns := [], harness := (true, "e47b0bf3eee4240c02ce9cb5f2a54f2076f370392fff89eca5ab2584ebc2b30c"), looks := true }, kinds := [], alts := [], laidByText := true, laidKinds := [.data, .data, .data, .data, .sentinel, .sentinel, .pinned], laidTests := true, laidLooks := .later }
def ManifestNamesUptoCardSaid : Prop := Claim7.holds Tryz.pinned (.plain (OpenSpec.upto manifestNamesSpec)) manifestNamesUptoCard

/-- THE SECOND FORM's CARD OF 'haversacklaw11.ManifestMany'. -/
def manifestManyUptoCard : Claim7 := { stood := { row := manifestManyUptoRow, standIns := [], harness := (true, "e47b0bf3eee4240c02ce9cb5f2a54f2076f370392fff89eca5ab2584ebc2b30c"), looks := true }, kinds := [], alts := [], laidByText := true, laidKinds := [.data, .data, .data, .data, .sentinel, .sentinel, .pinned], laidTests := true, laidLooks := .later }
def ManifestManyUptoCardSaid : Prop := Claim7.holds Tryz.pinned (.plain (OpenSpec.upto manifestManySpec)) manifestManyUptoCard

/-- THE SECOND FORM's CARD OF 'haversacklaw11.ManifestNoise'. -/
def manifestNoiseUptoCard : Claim7 := { stood := { row := manifestNoiseUptoRow, standIns := [], harness := (true, "e47b0bf3eee4240c02ce9cb5f2a54f2076f370392fff89eca5ab2584ebc2b30c"), looks := true }, kinds := [], alts := [], laidByText := true, laidKinds := [.data, .data, .data, .data, .sentinel, .sentinel, .pinned], laidTests := true, laidLooks := .later }
def ManifestNoiseUptoCardSaid : Prop := Claim7.holds Tryz.pinned (.plain (OpenSpec.upto manifestNoiseSpec)) manifestNoiseUptoCard

/-- THE SECOND FORM's CARD OF 'haversacklaw11.ManifestEdits'. -/
def manifestEditsUptoCard : Claim7 := { stood := { row := manifestEditsUptoRow, standIns := [], harness := (true, "e47b0bf3eee4240c02ce9cb5f2a54f2076f370392fff89eca5ab2584ebc2b30c"), looks := true }, kinds := [], alts := [], laidByText := true, laidKinds := [.data, .data, .data, .data, .sentinel, .sentinel, .pinned], laidTests := true, laidLooks := .later }
def ManifestEditsUptoCardSaid : Prop := Claim7.holds Tryz.pinned (.plain (OpenSpec.upto manifestEditsSpec)) manifestEditsUptoCard

/-- THE SECOND FORM's CARD OF 'haversacklaw11.ManifestOnce'. -/
def manifestOnceUptoCard : Claim7 := { stood := { row := manifestOnceUptoRow, standIns := [], harness := (true, "e47b0bf3eee4240c02ce9cb5f2a54f2076f370392fff89eca5ab2584ebc2b30c"), looks := true }, kinds := [], alts := [], laidByText := true, laidKinds := [.data, .data, .data, .data, .sentinel, .sentinel, .pinned], laidTests := true, laidLooks := .later }
def ManifestOnceUptoCardSaid : Prop := Claim7.holds Tryz.pinned (.plain (OpenSpec.upto manifestOnceSpec)) manifestOnceUptoCard
end Rows
end Go.Proofs.YtjlkmdmpejpmpaaGreatDoor
