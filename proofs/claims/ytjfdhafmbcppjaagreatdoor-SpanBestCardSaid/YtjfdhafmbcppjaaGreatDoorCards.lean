/-
  DERIVED. GIVEN WITH THE SEED: THE CARDS: each row of YtjfdhafmbcppjaaGreatDoorRows.lean that lists a variable, with what it lists TIED to the program's text (the seventh form; the later family's looks); each row that meets fmt, with fmt's text TOLD by the authors' own Lean function (tested against real Go, not proved from fmt's source: count such statements apart). THE CARD IS WHAT COUNTS. Prove the row's statement (the work); the ties are given (YtjfdhafmbcppjaaGreatDoorTie.lean); close each card by the builder's one call (the guide's Derived/Test/ToyasCard.lean, 'card_holds'). Laid BY PROGRAM, IN A SANDBOX (cutbox-door.mjs). By AI agents, Wed Nov 11 2026. No macro, syntax, notation, axiom, sorry.
-/
import Derived.Test.YtjfdhafmbcppjaaGreatDoorRows
import GoSem.ClaimSeven
namespace Go.Proofs.YtjfdhafmbcppjaaGreatDoor
namespace Rows

/-- THE TIED CARD OF 'haversacklaw10.SpanReads'. -/
def spanReadsCard : Claim7 := { stood := { row := spanReadsRow, standIns := [], harness := (true, "26bc3cf96748ee457f70b7cf1980120a6d7a012572a75f28d2ec8da7581048f5"), looks := true }, kinds := [], alts := [], laidByText := true, laidKinds := [.data, .data, .data, .data, .sentinel, .sentinel, .pinned], laidTests := true, laidLooks := .later }
def SpanReadsCardSaid : Prop := Claim7.holds Tryz.pinned (.plain (OpenSpec.ofChange spanReadsSpec)) spanReadsCard

/-- THE TIED CARD OF 'haversacklaw10.SpanHas'. -/
def spanHasCard : Claim7 := { stood := { row := spanHasRow, standIns := [], harness := (true, "26bc3cf96748ee457f70b7cf1980120a6d7a012572a75f28d2ec8da7581048f5"), looks := true }, kinds := [], alts := [], laidByText := true, laidKinds := [.data, .data, .data, .data, .sentinel, .sentinel, .pinned], laidTests := true, laidLooks := .later }
def SpanHasCardSaid : Prop := Claim7.holds Tryz.pinned (.plain (OpenSpec.ofChange spanHasSpec)) spanHasCard

/-- THE TIED CARD OF 'haversacklaw10.SpanSigns'. -/
def spanSignsCard : Claim7 := { stood := { row := spanSignsRow, standIns := [], harness := (true, "26bc3cf96748ee457f70b7cf1980120a6d7a012572a75f28d2ec8da7581048f5"), looks := true }, kinds := [], alts := [], laidByText := true, laidKinds := [.data, .data, .data, .data, .sentinel, .sentinel, .pinned], laidTests := true, laidLooks := .later }
def SpanSignsCardSaid : Prop := Claim7.holds Tryz.pinned (.plain (OpenSpec.ofChange spanSignsSpec)) spanSignsCard

/-- THE TIED CARD OF 'haversacklaw10.SpanOr'. -/
def spanOrCard : Claim7 := { stood := { row := spanOrRow, standIns := [], harness := (true, "26bc3cf96748ee457f70b7cf1980120a6d7a012572a75f28d2ec8da7581048f5"), looks := true }, kinds := [], alts := [], laidByText := true, laidKinds := [.data, .data, .data, .data, .sentinel, .sentinel, .pinned], laidTests := true, laidLooks := .later }
def SpanOrCardSaid : Prop := Claim7.holds Tryz.pinned (.plain (OpenSpec.ofChange spanOrSpec)) spanOrCard

/-- THE TIED CARD OF 'haversacklaw10.SpanMarks'. -/
def spanMarksCard : Claim7 := { stood := { row := spanMarksRow, standIns := [], harness := (true, "26bc3cf96748ee457f70b7cf1980120a6d7a012572a75f28d2ec8da7581048f5"), looks := true }, kinds := [], alts := [], laidByText := true, laidKinds := [.data, .data, .data, .data, .sentinel, .sentinel, .pinned], laidTests := true, laidLooks := .later }
def SpanMarksCardSaid : Prop := Claim7.holds Tryz.pinned (.plain (OpenSpec.ofChange spanMarksSpec)) spanMarksCard

/-- THE TIED CARD OF 'haversacklaw10.SpanBest'. -/
def spanBestCard : Claim7 := { stood := { row := spanBestRow, standIns := [], harness := (true, "26bc3cf96748ee457f70b7cf1980120a6d7a012572a75f28d2ec8da7581048f5"), looks := true }, kinds := [], alts := [], laidByText := true, laidKinds := [.data, .data, .data, .data, .sentinel, .sentinel, .pinned], laidTests := true, laidLooks := .later }
def SpanBestCardSaid : Prop := Claim7.holds Tryz.pinned (.plain (OpenSpec.ofChange spanBestSpec)) spanBestCard

/-- THE SECOND FORM's CARD OF 'haversacklaw10.SpanReads'. -/
def spanReadsUptoCard : Claim7 := { stood := { row := spanReadsUptoRow, standIns := [], harness := (true, "26bc3cf96748ee457f70b7cf1980120a6d7a012572a75f28d2ec8da7581048f5"), looks := true }, kinds := [], alts := [], laidByText := true, laidKinds := [.data, .data, .data, .data, .sentinel, .sentinel, .pinned], laidTests := true, laidLooks := .later }
def SpanReadsUptoCardSaid : Prop := Claim7.holds Tryz.pinned (.plain (OpenSpec.upto spanReadsSpec)) spanReadsUptoCard

/-- THE SECOND FORM's CARD OF 'haversacklaw10.SpanHas'. -/
def spanHasUptoCard : Claim7 := { stood := { row := spanHasUptoRow, standIns := [], harness := (true, "26bc3cf96748ee457f70b7cf1980120a6d7a012572a75f28d2ec8da7581048f5"), looks := true }, kinds := [], alts := [], laidByText := true, laidKinds := [.data, .data, .data, .data, .sentinel, .sentinel, .pinned], laidTests := true, laidLooks := .later }
def SpanHasUptoCardSaid : Prop := Claim7.holds Tryz.pinned (.plain (OpenSpec.upto spanHasSpec)) spanHasUptoCard

/-- THE SECOND FORM's CARD OF 'haversacklaw10.SpanSigns'. -/
def spanSignsUptoCard : Claim7 := { stood := { row := spanSignsUptoRow, standIns := [], harness := (true, "26bc3cf96748ee457f70b7cf1980120a6d7a012572a75f28d2ec8da7581048f5"), looks := true }, kinds := [], alts := [], laidByText := true, laidKinds := [.data, .data, .data, .data, .sentinel, .sentinel, .pinned], laidTests := true, laidLooks := .later }
def SpanSignsUptoCardSaid : Prop := Claim7.holds Tryz.pinned (.plain (OpenSpec.upto spanSignsSpec)) spanSignsUptoCard

/-- THE SECOND FORM's CARD OF 'haversacklaw10.SpanOr'. -/
def spanOrUptoCard : Claim7 := { stood := { row := spanOrUptoRow, standIns := [], harness := (true, "26bc3cf96748ee457f70b7cf1980120a6d7a012572a75f28d2ec8da7581048f5"), looks := true }, kinds := [], alts := [], laidByText := true, laidKinds := [.data, .data, .data, .data, .sentinel, .sentinel, .pinned], laidTests := true, laidLooks := .later }
def SpanOrUptoCardSaid : Prop := Claim7.holds Tryz.pinned (.plain (OpenSpec.upto spanOrSpec)) spanOrUptoCard

/-- THE SECOND FORM's CARD OF 'haversacklaw10.SpanMarks'. -/
def spanMarksUptoCard : Claim7 := { stood := { row := spanMarksUptoRow, standIns := [], harness := (true, "26bc3cf96748ee457f70b7cf1980120a6d7a012572a75f28d2ec8da7581048f5"), looks := true }, kinds := [], alts := [], laidByText := true, laidKinds := [.data, .data, .data, .data, .sentinel, .sentinel, .pinned], laidTests := true, laidLooks := .later }
def SpanMarksUptoCardSaid : Prop := Claim7.holds Tryz.pinned (.plain (OpenSpec.upto spanMarksSpec)) spanMarksUptoCard

/-- THE SECOND FORM's CARD OF 'haversacklaw10.SpanBest'. -/
def spanBestUptoCard : Claim7 := { stood := { row := spanBestUptoRow, standIns := [], harness := (true, "26bc3cf96748ee457f70b7cf1980120a6d7a012572a75f28d2ec8da7581048f5"), looks := true }, kinds := [], alts := [], laidByText := true, laidKinds := [.data, .data, .data, .data, .sentinel, .sentinel, .pinned], laidTests := true, laidLooks := .later }
def SpanBestUptoCardSaid : Prop := Claim7.holds Tryz.pinned (.plain (OpenSpec.upto spanBestSpec)) spanBestUptoCard
end Rows
end Go.Proofs.YtjfdhafmbcppjaaGreatDoor
