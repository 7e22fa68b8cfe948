/-
  DERIVED. GIVEN WITH THE SEED: THE CARDS: each row of YtobgdpnjabicmaaGreatDoorRows.lean that lists a variable, with what it lists TIED to the program's text (the seventh form; the later family's looks); each row that meets fmt, with fmt's text TOLD by the authors' own Lean function (tested against real Go, not proved from fmt's source: count such statements apart). THE CARD IS WHAT COUNTS. Prove the row's statement (the work); the ties are given (YtobgdpnjabicmaaGreatDoorTie.lean); close each card by the builder's one call (the guide's Derived/Test/ToyasCard.lean, 'card_holds'). Laid BY PROGRAM, IN A SANDBOX (cutbox-door.mjs). By AI agents, Wed Nov 11 2026. No macro, syntax, notation, axiom, sorry.
-/
import Derived.Test.YtobgdpnjabicmaaGreatDoorRows
import GoSem.ClaimSeven
namespace Go.Proofs.YtobgdpnjabicmaaGreatDoor
namespace Rows

/-- THE TIED CARD OF 'haversacktop.TopNoFit'. -/
def topNoFitCard : Claim7 := { stood := { row := topNoFitRow, standIns := [], harness := (true, "5b74afb454bdc4677a68dfd9b15bc771da67e3ce3d292f246760ee0645ba7432"), looks := true }, kinds := [], alts := [], laidByText := true, laidKinds := [.pinned, .data, .sentinel, .sentinel, .data, .data, .data, .handle], laidTests := true, laidLooks := .later }
def TopNoFitCardSaid : Prop := Claim7.holds Tryz.pinned (.plain (OpenSpec.ofChange topNoFitSpec)) topNoFitCard

/-- THE TIED CARD OF 'haversacktop.TopYields'. -/
def topYieldsCard : Claim7 := { stood := { row := topYieldsRow, standIns := [], harness := (true, "5b74afb454bdc4677a68dfd9b15bc771da67e3ce3d292f246760ee0645ba7432"), looks := true }, kinds := [], alts := [], laidByText := true, laidKinds := [.pinned, .data, .sentinel, .sentinel, .data, .data, .data, .handle], laidTests := true, laidLooks := .later }
def TopYieldsCardSaid : Prop := Claim7.holds Tryz.pinned (.plain (OpenSpec.ofChange topYieldsSpec)) topYieldsCard

/-- THE SECOND FORM's CARD OF 'haversacktop.TopNoFit'. -/
def topNoFitUptoCard : Claim7 := { stood := { row := topNoFitUptoRow, standIns := [], harness := (true, "5b74afb454bdc4677a68dfd9b15bc771da67e3ce3d292f246760ee0645ba7432"), looks := true }, kinds := [], alts := [], laidByText := true, laidKinds := [.pinned, .data, .sentinel, .sentinel, .data, .data, .data, .handle], laidTests := true, laidLooks := .later }
def TopNoFitUptoCardSaid : Prop := Claim7.holds Tryz.pinned (.plain (OpenSpec.upto topNoFitSpec)) topNoFitUptoCard

/-- THE SECOND FORM's CARD OF 'haversacktop.TopYields'. -/
def topYieldsUptoCard : Claim7 := { stood := { row := topYieldsUptoRow, standIns := [], harness := (true, "5b74afb454bdc4677a68dfd9b15bc771da67e3ce3d292f246760ee0645ba7432"), looks := true }, kinds := [], alts := [], laidByText := true, laidKinds := [.pinned, .data, .sentinel, .sentinel, .data, .data, .data, .handle], laidTests := true, laidLooks := .later }
def TopYieldsUptoCardSaid : Prop := Claim7.holds Tryz.pinned (.plain (OpenSpec.upto topYieldsSpec)) topYieldsUptoCard
end Rows
end Go.Proofs.YtobgdpnjabicmaaGreatDoor
