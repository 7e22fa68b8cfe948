/-
  DERIVED. GIVEN WITH THE SEED: THE CARDS: each row of YtcnmgiflogjfeaaDoorRows.lean that lists a variable, with what it lists TIED to the program's text (the seventh form; the later family's looks); each row that meets fmt, with fmt's text TOLD by the authors' own Lean function (tested against real Go, not proved from fmt's source: count such statements apart). THE CARD IS WHAT COUNTS. Prove the row's statement (the work); the ties are given (YtcnmgiflogjfeaaDoorTie.lean); close each card by the builder's one call (the guide's Derived/Test/ToyasCard.lean, 'card_holds'). Laid BY PROGRAM, IN A SANDBOX (cutbox-door.mjs). By AI agents, Wed Nov 11 2026. No macro, syntax, notation, axiom, sorry.
-/
import Derived.Test.YtcnmgiflogjfeaaDoorRows
import GoSem.ClaimSeven
namespace Go.Proofs.YtcnmgiflogjfeaaDoor
namespace Rows

/-- THE TIED CARD OF 'haversacklaw7.PathCleans'. -/
def pathCleansCard : Claim7 := { stood := { row := pathCleansRow, standIns := [], harness := (true, "e47d67f6ebf0da6ee0aa14c6ca77ef3cd480c2d693f10f145cae5ee8a05a6980"), looks := false }, kinds := [], alts := [], laidByText := true, laidKinds := [.data, .pinned], laidTests := true, laidLooks := .later }
def PathCleansCardSaid : Prop := Claim7.holds Tryd.pinned (.plain (OpenSpec.ofChange pathCleansSpec)) pathCleansCard

/-- THE TIED CARD OF 'haversacklaw7.PathParts'. -/
def pathPartsCard : Claim7 := { stood := { row := pathPartsRow, standIns := [], harness := (true, "e47d67f6ebf0da6ee0aa14c6ca77ef3cd480c2d693f10f145cae5ee8a05a6980"), looks := false }, kinds := [], alts := [], laidByText := true, laidKinds := [.data, .pinned], laidTests := true, laidLooks := .later }
def PathPartsCardSaid : Prop := Claim7.holds Tryd.pinned (.plain (OpenSpec.ofChange pathPartsSpec)) pathPartsCard

/-- THE TIED CARD OF 'haversacklaw7.PathJoins'. -/
def pathJoinsCard : Claim7 := { stood := { row := pathJoinsRow, standIns := [], harness := (true, "e47d67f6ebf0da6ee0aa14c6ca77ef3cd480c2d693f10f145cae5ee8a05a6980"), looks := false }, kinds := [], alts := [], laidByText := true, laidKinds := [.data, .pinned], laidTests := true, laidLooks := .later }
def PathJoinsCardSaid : Prop := Claim7.holds Tryd.pinned (.plain (OpenSpec.ofChange pathJoinsSpec)) pathJoinsCard

/-- THE TIED CARD OF 'haversacklaw7.PathBounds'. -/
def pathBoundsCard : Claim7 := { stood := { row := pathBoundsRow, standIns := [], harness := (true, "e47d67f6ebf0da6ee0aa14c6ca77ef3cd480c2d693f10f145cae5ee8a05a6980"), looks := false }, kinds := [], alts := [], laidByText := true, laidKinds := [.data, .pinned], laidTests := true, laidLooks := .later }
def PathBoundsCardSaid : Prop := Claim7.holds Tryd.pinned (.plain (OpenSpec.ofChange pathBoundsSpec)) pathBoundsCard

/-- THE TIED CARD OF 'haversacklaw7.PathDots'. -/
def pathDotsCard : Claim7 := { stood := { row := pathDotsRow, standIns := [], harness := (true, "e47d67f6ebf0da6ee0aa14c6ca77ef3cd480c2d693f10f145cae5ee8a05a6980"), looks := false }, kinds := [], alts := [], laidByText := true, laidKinds := [.data, .pinned], laidTests := true, laidLooks := .later }
def PathDotsCardSaid : Prop := Claim7.holds Tryd.pinned (.plain (OpenSpec.ofChange pathDotsSpec)) pathDotsCard

/-- THE TIED CARD OF 'haversacklaw7.PathOut'. -/
def pathOutCard : Claim7 := { stood := { row := pathOutRow, standIns := [], harness := (true, "e47d67f6ebf0da6ee0aa14c6ca77ef3cd480c2d693f10f145cae5ee8a05a6980"), looks := false }, kinds := [], alts := [], laidByText := true, laidKinds := [.data, .pinned], laidTests := true, laidLooks := .later }
def PathOutCardSaid : Prop := Claim7.holds Tryd.pinned (.plain (OpenSpec.ofChange pathOutSpec)) pathOutCard

/-- THE SECOND FORM's CARD OF 'haversacklaw7.PathCleans'. -/
def pathCleansUptoCard : Claim7 := { stood := { row := pathCleansUptoRow, standIns := [], harness := (true, "e47d67f6ebf0da6ee0aa14c6ca77ef3cd480c2d693f10f145cae5ee8a05a6980"), looks := false }, kinds := [], alts := [], laidByText := true, laidKinds := [.data, .pinned], laidTests := true, laidLooks := .later }
def PathCleansUptoCardSaid : Prop := Claim7.holds Tryd.pinned (.plain (OpenSpec.upto pathCleansSpec)) pathCleansUptoCard

/-- THE SECOND FORM's CARD OF 'haversacklaw7.PathParts'. -/
def pathPartsUptoCard : Claim7 := { stood := { row := pathPartsUptoRow, standIns := [], harness := (true, "e47d67f6ebf0da6ee0aa14c6ca77ef3cd480c2d693f10f145cae5ee8a05a6980"), looks := false }, kinds := [], alts := [], laidByText := true, laidKinds := [.data, .pinned], laidTests := true, laidLooks := .later }
def PathPartsUptoCardSaid : Prop := Claim7.holds Tryd.pinned (.plain (OpenSpec.upto pathPartsSpec)) pathPartsUptoCard

/-- THE SECOND FORM's CARD OF 'haversacklaw7.PathJoins'. -/
def pathJoinsUptoCard : Claim7 := { stood := { row := pathJoinsUptoRow, standIns := [], harness := (true, "e47d67f6ebf0da6ee0aa14c6ca77ef3cd480c2d693f10f145cae5ee8a05a6980"), looks := false }, kinds := [], alts := [], laidByText := true, laidKinds := [.data, .pinned], laidTests := true, laidLooks := .later }
def PathJoinsUptoCardSaid : Prop := Claim7.holds Tryd.pinned (.plain (OpenSpec.upto pathJoinsSpec)) pathJoinsUptoCard

/-- THE SECOND FORM's CARD OF 'haversacklaw7.PathBounds'. -/
def pathBoundsUptoCard : Claim7 := { stood := { row := pathBoundsUptoRow, standIns := [], harness := (true, "e47d67f6ebf0da6ee0aa14c6ca77ef3cd480c2d693f10f145cae5ee8a05a6980"), looks := false }, kinds := [], alts := [], laidByText := true, laidKinds := [.data, .pinned], laidTests := true, laidLooks := .later }
def PathBoundsUptoCardSaid : Prop := Claim7.holds Tryd.pinned (.plain (OpenSpec.upto pathBoundsSpec)) pathBoundsUptoCard

/-- THE SECOND FORM's CARD OF 'haversacklaw7.PathDots'. -/
def pathDotsUptoCard : Claim7 := { stood := { row := pathDotsUptoRow, standIns := [], harness := (true, "e47d67f6ebf0da6ee0aa14c6ca77ef3cd480c2d693f10f145cae5ee8a05a6980"), looks := false }, kinds := [], alts := [], laidByText := true, laidKinds := [.data, .pinned], laidTests := true, laidLooks := .later }
def PathDotsUptoCardSaid : Prop := Claim7.holds Tryd.pinned (.plain (OpenSpec.upto pathDotsSpec)) pathDotsUptoCard

/-- THE SECOND FORM's CARD OF 'haversacklaw7.PathOut'. -/
def pathOutUptoCard : Claim7 := { stood := { row := pathOutUptoRow, standIns := [], harness := (true, "e47d67f6ebf0da6ee0aa14c6ca77ef3cd480c2d693f10f145cae5ee8a05a6980"), looks := false }, kinds := [], alts := [], laidByText := true, laidKinds := [.data, .pinned], laidTests := true, laidLooks := .later }
def PathOutUptoCardSaid : Prop := Claim7.holds Tryd.pinned (.plain (OpenSpec.upto pathOutSpec)) pathOutUptoCard
end Rows
end Go.Proofs.YtcnmgiflogjfeaaDoor
