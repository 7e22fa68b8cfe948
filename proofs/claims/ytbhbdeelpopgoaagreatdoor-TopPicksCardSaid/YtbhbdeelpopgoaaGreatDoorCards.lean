/-
  DERIVED. GIVEN WITH THE SEED: THE CARDS: each row of YtbhbdeelpopgoaaGreatDoorRows.lean that lists a variable, with what it lists TIED to the program's text (the seventh form; the later family's looks); each row that meets fmt, with fmt's text TOLD by the authors' own Lean function (tested against real Go, not proved from fmt's source: count such statements apart). THE CARD IS WHAT COUNTS. Prove the row's statement (the work); the ties are given (YtbhbdeelpopgoaaGreatDoorTie.lean); close each card by the builder's one call (the guide's Derived/Test/ToyasCard.lean, 'card_holds'). Laid BY PROGRAM, IN A SANDBOX (cutbox-door.mjs). By AI agents, Wed Nov 11 2026. No macro, syntax, notation, axiom, sorry.
-/
import Derived.Test.YtbhbdeelpopgoaaGreatDoorRows
import GoSem.ClaimSeven
namespace Go.Proofs.YtbhbdeelpopgoaaGreatDoor
namespace Rows

/-- THE TIED CARD OF 'haversacktop.TopPicks'. -/
def topPicksCard : Claim7 := { stood := { row := topPicksRow, standIns := [], harness := (true, "8b3a3c5829ddd8e03bcb540a21d6e54afbd6431105750d1ea4fcb7aec22f0c7c"), looks := true }, kinds := [], alts := [], laidByText := true, laidKinds := [.pinned, .data, .sentinel, .sentinel, .data, .data, .data, .handle], laidTests := true, laidLooks := .later }
def TopPicksCardSaid : Prop := Claim7.holds Tryz.pinned (.plain (OpenSpec.ofChange topPicksSpec)) topPicksCard

/-- THE SECOND FORM's CARD OF 'haversacktop.TopPicks'. -/
def topPicksUptoCard : Claim7 := { stood := { row := topPicksUptoRow, standIns := [], harness := (true, "8b3a3c5829ddd8e03bcb540a21d6e54afbd6431105750d1ea4fcb7aec22f0c7c"), looks := true }, kinds := [], alts := [], laidByText := true, laidKinds := [.pinned, .data, .sentinel, .sentinel, .data, .data, .data, .handle], laidTests := true, laidLooks := .later }
def TopPicksUptoCardSaid : Prop := Claim7.holds Tryz.pinned (.plain (OpenSpec.upto topPicksSpec)) topPicksUptoCard
end Rows
end Go.Proofs.YtbhbdeelpopgoaaGreatDoor
