/-
  DERIVED. GIVEN WITH THE SEED: THE CARDS: each row of YtoafcnecjgnbmaaGreatDoorRows.lean that lists a variable, with what it lists TIED to the program's text (the seventh form; the later family's looks); each row that meets fmt, with fmt's text TOLD by the authors' own Lean function (tested against real Go, not proved from fmt's source: count such statements apart). THE CARD IS WHAT COUNTS. Prove the row's statement (the work); the ties are given (YtoafcnecjgnbmaaGreatDoorTie.lean); close each card by the builder's one call (the guide's Derived/Test/ToyasCard.lean, 'card_holds'). Laid BY PROGRAM, IN A SANDBOX (cutbox-door.mjs). By AI agents, Wed Nov 11 2026. No macro, syntax, notation, axiom, sorry.
-/
import Derived.Test.YtoafcnecjgnbmaaGreatDoorRows
import GoSem.ClaimSeven
namespace Go.Proofs.YtoafcnecjgnbmaaGreatDoor
namespace Rows

/-- THE TIED CARD OF 'haversacktop.TopScripts'. -/
def topScriptsCard : Claim7 := { stood := { row := topScriptsRow, standIns := [], harness := (true, "c12d3caabf71b8191e94e5a90852144d46e74b899f38b24a01e790633fdfeaf9"), looks := true }, kinds := [], alts := [], laidByText := true, laidKinds := [.pinned, .data, .sentinel, .sentinel, .data, .data, .data, .handle], laidTests := true, laidLooks := .later }
def TopScriptsCardSaid : Prop := Claim7.holds Tryz.pinned (.plain (OpenSpec.ofChange topScriptsSpec)) topScriptsCard

/-- THE TIED CARD OF 'haversacktop.TopChained'. -/
def topChainedCard : Claim7 := { stood := { row := topChainedRow, standIns := [], harness := (true, "c12d3caabf71b8191e94e5a90852144d46e74b899f38b24a01e790633fdfeaf9"), looks := true }, kinds := [], alts := [], laidByText := true, laidKinds := [.pinned, .data, .sentinel, .sentinel, .data, .data, .data, .handle], laidTests := true, laidLooks := .later }
def TopChainedCardSaid : Prop := Claim7.holds Tryz.pinned (.plain (OpenSpec.ofChange topChainedSpec)) topChainedCard

/-- THE SECOND FORM's CARD OF 'haversacktop.TopScripts'. -/
def topScriptsUptoCard : Claim7 := { stood := { row := topScriptsUptoRow, standIns := [], harness := (true, "c12d3caabf71b8191e94e5a90852144d46e74b899f38b24a01e790633fdfeaf9"), looks := true }, kinds := [], alts := [], laidByText := true, laidKinds := [.pinned, .data, .sentinel, .sentinel, .data, .data, .data, .handle], laidTests := true, laidLooks := .later }
def TopScriptsUptoCardSaid : Prop := Claim7.holds Tryz.pinned (.plain (OpenSpec.upto topScriptsSpec)) topScriptsUptoCard

/-- THE SECOND FORM's CARD OF 'haversacktop.TopChained'. -/
def topChainedUptoCard : Claim7 := { stood := { row := topChainedUptoRow, standIns := [], harness := (true, "c12d3caabf71b8191e94e5a90852144d46e74b899f38b24a01e790633fdfeaf9"), looks := true }, kinds := [], alts := [], laidByText := true, laidKinds := [.pinned, .data, .sentinel, .sentinel, .data, .data, .data, .handle], laidTests := true, laidLooks := .later }
def TopChainedUptoCardSaid : Prop := Claim7.holds Tryz.pinned (.plain (OpenSpec.upto topChainedSpec)) topChainedUptoCard
end Rows
end Go.Proofs.YtoafcnecjgnbmaaGreatDoor
