/-
  DERIVED. GIVEN WITH THE SEED: THE CARDS: each row of YtggodknolmdegaaGreatDoorRows.lean that lists a variable, with what it lists TIED to the program's text (the seventh form; the later family's looks); each row that meets fmt, with fmt's text TOLD by the authors' own Lean function (tested against real Go, not proved from fmt's source: count such statements apart). THE CARD IS WHAT COUNTS. Prove the row's statement (the work); the ties are given (YtggodknolmdegaaGreatDoorTie.lean); close each card by the builder's one call (the guide's Derived/Test/ToyasCard.lean, 'card_holds'). Laid BY PROGRAM, IN A SANDBOX (cutbox-door.mjs). By AI agents, Wed Nov 11 2026. No macro, syntax, notation, axiom, sorry.
-/
import Derived.Test.YtggodknolmdegaaGreatDoorRows
import GoSem.ClaimSeven
namespace Go.Proofs.YtggodknolmdegaaGreatDoor
namespace Rows

/-- THE TIED CARD OF 'haversacklaw12.LockReads'. -/
def lockReadsCard : Claim7 := { stood := { row := lockReadsRow, standIns := [], harness := (true, "b0cba039b5d9bb41de01d39c7dfd2952951682d5b5e2d28966ad84271e424299"), looks := true }, kinds := [], alts := [], laidByText := true, laidKinds := [.data, .data, .data, .data, .sentinel, .sentinel, .pinned], laidTests := true, laidLooks := .later }
def LockReadsCardSaid : Prop := Claim7.holds Tryz.pinned (.plain (OpenSpec.ofChange lockReadsSpec)) lockReadsCard

/-- THE TIED CARD OF 'haversacklaw12.LockTells'. -/
def lockTellsCard : Claim7 := { stood := { row := lockTellsRow, standIns := [], harness := (true, "b0cba039b5d9bb41de01d39c7dfd2952951682d5b5e2d28966ad84271e424299"), looks := true }, kinds := [], alts := [], laidByText := true, laidKinds := [.data, .data, .data, .data, .sentinel, .sentinel, .pinned], laidTests := true, laidLooks := .later }
def LockTellsCardSaid : Prop := Claim7.holds Tryz.pinned (.plain (OpenSpec.ofChange lockTellsSpec)) lockTellsCard

/-- THE TIED CARD OF 'haversacklaw12.LockBack'. -/
def lockBackCard : Claim7 := { stood := { row := lockBackRow, standIns := [], harness := (true, "b0cba039b5d9bb41de01d39c7dfd2952951682d5b5e2d28966ad84271e424299"), looks := true }, kinds := [], alts := [], laidByText := true, laidKinds := [.data, .data, .data, .data, .sentinel, .sentinel, .pinned], laidTests := true, laidLooks := .later }
def LockBackCardSaid : Prop := Claim7.holds Tryz.pinned (.plain (OpenSpec.ofChange lockBackSpec)) lockBackCard

/-- THE TIED CARD OF 'haversacklaw12.LockOrder'. -/
def lockOrderCard : Claim7 := { stood := { row := lockOrderRow, standIns := [], harness := (true, "b0cba039b5d9bb41de01d39c7dfd2952951682d5b5e2d28966ad84271e424299"), looks := true }, kinds := [], alts := [], laidByText := true, laidKinds := [.data, .data, .data, .data, .sentinel, .sentinel, .pinned], laidTests := true, laidLooks := .later }
def LockOrderCardSaid : Prop := Claim7.holds Tryz.pinned (.plain (OpenSpec.ofChange lockOrderSpec)) lockOrderCard

/-- THE TIED CARD OF 'haversacklaw12.LockLines'. -/
def lockLinesCard : Claim7 := { stood := { row := lockLinesRow, standIns := [], harness := (true, "b0cba039b5d9bb41de01d39c7dfd2952951682d5b5e2d28966ad84271e424299"), looks := true }, kinds := [], alts := [], laidByText := true, laidKinds := [.data, .data, .data, .data, .sentinel, .sentinel, .pinned], laidTests := true, laidLooks := .later }
def LockLinesCardSaid : Prop := Claim7.holds Tryz.pinned (.plain (OpenSpec.ofChange lockLinesSpec)) lockLinesCard

/-- THE SECOND FORM's CARD OF 'haversacklaw12.LockReads'. -/
def lockReadsUptoCard : Claim7 := { stood := { row := lockReadsUptoRow, standIns := [], harness := (true, "b0cba039b5d9bb41de01d39c7dfd2952951682d5b5e2d28966ad84271e424299"), looks := true }, kinds := [], alts := [], laidByText := true, laidKinds := [.data, .data, .data, .data, .sentinel, .sentinel, .pinned], laidTests := true, laidLooks := .later }
def LockReadsUptoCardSaid : Prop := Claim7.holds Tryz.pinned (.plain (OpenSpec.upto lockReadsSpec)) lockReadsUptoCard

/-- THE SECOND FORM's CARD OF 'haversacklaw12.LockTells'. -/
def lockTellsUptoCard : Claim7 := { stood := { row := lockTellsUptoRow, standIns := [], harness := (true, "b0cba039b5d9bb41de01d39c7dfd2952951682d5b5e2d28966ad84271e424299"), looks := true }, kinds := [], alts := [], laidByText := true, laidKinds := [.data, .data, .data, .data, .sentinel, .sentinel, .pinned], laidTests := true, laidLooks := .later }
def LockTellsUptoCardSaid : Prop := Claim7.holds Tryz.pinned (.plain (OpenSpec.upto lockTellsSpec)) lockTellsUptoCard

/-- THE SECOND FORM's CARD OF 'haversacklaw12.LockBack'. -/
def lockBackUptoCard : Claim7 := { stood := { row := lockBackUptoRow, standIns := [], harness := (true, "b0cba039b5d9bb41de01d39c7dfd2952951682d5b5e2d28966ad84271e424299"), looks := true }, kinds := [], alts := [], laidByText := true, laidKinds := [.data, .data, .data, .data, .sentinel, .sentinel, .pinned], laidTests := true, laidLooks := .later }
def LockBackUptoCardSaid : Prop := Claim7.holds Tryz.pinned (.plain (OpenSpec.upto lockBackSpec)) lockBackUptoCard

/-- THE SECOND FORM's CARD OF 'haversacklaw12.LockOrder'. -/
def lockOrderUptoCard : Claim7 := { stood := { row := lockOrderUptoRow, standIns := [], harness := (true, "b0cba039b5d9bb41de01d39c7dfd2952951682d5b5e2d28966ad84271e424299"), looks := true }, kinds := [], alts := [], laidByText := true, laidKinds := [.data, .data, .data, .data, .sentinel, .sentinel, .pinned], laidTests := true, laidLooks := .later }
def LockOrderUptoCardSaid : Prop := Claim7.holds Tryz.pinned (.plain (OpenSpec.upto lockOrderSpec)) lockOrderUptoCard

/-- THE SECOND FORM's CARD OF 'haversacklaw12.LockLines'. -/
def lockLinesUptoCard : Claim7 := { stood := { row := lockLinesUptoRow, standIns := [], harness := (true, "b0cba039b5d9bb41de01d39c7dfd2952951682d5b5e2d28966ad84271e424299"), looks := true }, kinds := [], alts := [], laidByText := true, laidKinds := [.data, .data, .data, .data, .sentinel, .sentinel, .pinned], laidTests := true, laidLooks := .later }
def LockLinesUptoCardSaid : Prop := Claim7.holds Tryz.pinned (.plain (OpenSpec.upto lockLinesSpec)) lockLinesUptoCard
end Rows
end Go.Proofs.YtggodknolmdegaaGreatDoor
