/-
  No cell of these rows narrows 'for every input' (looked for: loops, veiled, ifaces, maps, wideKeys, modest, calm, conditions, laid).
  DERIVED. THE GIVEN ROWS OF THIS SEAT. 4 by the template 'for every input the law returns true; each argument reads behind the call as it read before'; 0 by the template 'total and deterministic' (their statements: YtlbegmpikggmlaaTotals.lean).
  GIVEN WITH THE SEED: the statements are not yours to turn. If you find one false, say at which input.
  Laid BY PROGRAM, IN A SANDBOX (cutbox-rows.mjs): the forced cells as the released guide's own fill.sh prints them over the translation 920b35c2b3dae334… (all of the seat's roots in one cut). By AI agents, Wed Nov 11 2026. No macro, syntax, notation, axiom, sorry.
-/
import Derived.Test.YtlbegmpikggmlaaChecked
import GoSem.Claim
import GoSem.ClaimJoined
import GoSem.ClaimMapViews
import Derived.JoinedTies
import Derived.KernelRfl
namespace Go.Proofs.Ytlbegmpikggmlaa
/- THE CELL 'sum', in the pinned program and in every row, IS THE sha256 OF THE DUMP (.gsa) THAT YtlbegmpikggmlaaProg.lean LOADS. Nothing in Lean hashes anything: it is a label: what it is worth is what the hold of that sum in a sandbox is worth. -/
noncomputable def Try.pinned : Pinned := { name := "ytlbegmpikggmlaa", sum := "920b35c2b3dae3344acceb2ea23b77f7a3936cbb2960de0c929f6a90c74308a2", checked := Try.checked }
namespace Rows
def none {H : Type} : Left H := { results := [], args := [] }

/-- 'haversacklaw19.NetPieces': WHATEVER THE INPUT: true; the input reads as it did. -/
def netPiecesSpec : ChangeSpec := { name := "netPieces", fn := fun _ => fun
  | [d1, d2] => { results := [.lit (.bool true)], args := [d1, d2] }
  | _ => none }
def netPiecesRow : OpenClaim := { program := "ytlbegmpikggmlaa", sum := "920b35c2b3dae3344acceb2ea23b77f7a3936cbb2960de0c929f6a90c74308a2", func := "haversack/haversacklaw19.NetPieces", spec := "netPieces", unfollowed := true, recurses := true, apart := false }
def NetPiecesSaid : Prop := netPiecesRow.holds Try.pinned (OpenSpec.ofChange netPiecesSpec)

/-- ITS FALSE NEIGHBOUR: 'it returns false'. Refute it at one input. -/
def netPiecesWrong : ChangeSpec := { name := "netPieces", fn := fun _ => fun
  | [d1, d2] => { results := [.lit (.bool false)], args := [d1, d2] }
  | _ => none }
def NetPiecesWrongFalsely : Prop := netPiecesRow.holds Try.pinned (OpenSpec.ofChange netPiecesWrong)

/-- 'haversacklaw19.NetFaults': WHATEVER THE INPUT: true; the input reads as it did. -/
def netFaultsSpec : ChangeSpec := { name := "netFaults", fn := fun _ => fun
  | [d1, d2, d3, d4, d5] => { results := [.lit (.bool true)], args := [d1, d2, d3, d4, d5] }
  | _ => none }
def netFaultsRow : OpenClaim := { program := "ytlbegmpikggmlaa", sum := "920b35c2b3dae3344acceb2ea23b77f7a3936cbb2960de0c929f6a90c74308a2", func := "haversack/haversacklaw19.NetFaults", spec := "netFaults", unfollowed := true, recurses := true, apart := false }
def NetFaultsSaid : Prop := netFaultsRow.holds Try.pinned (OpenSpec.ofChange netFaultsSpec)

/-- ITS FALSE NEIGHBOUR: 'it returns false'. Refute it at one input. -/
def netFaultsWrong : ChangeSpec := { name := "netFaults", fn := fun _ => fun
  | [d1, d2, d3, d4, d5] => { results := [.lit (.bool false)], args := [d1, d2, d3, d4, d5] }
  | _ => none }
def NetFaultsWrongFalsely : Prop := netFaultsRow.holds Try.pinned (OpenSpec.ofChange netFaultsWrong)

/-- 'haversacklaw19.NetWaits': WHATEVER THE INPUT: true; the input reads as it did. -/
def netWaitsSpec : ChangeSpec := { name := "netWaits", fn := fun _ => fun
  | [d1, d2] => { results := [.lit (.bool true)], args := [d1, d2] }
  | _ => none }
def netWaitsRow : OpenClaim := { program := "ytlbegmpikggmlaa", sum := "920b35c2b3dae3344acceb2ea23b77f7a3936cbb2960de0c929f6a90c74308a2", func := "haversack/haversacklaw19.NetWaits", spec := "netWaits", unfollowed := true, recurses := true, apart := false }
def NetWaitsSaid : Prop := netWaitsRow.holds Try.pinned (OpenSpec.ofChange netWaitsSpec)

/-- ITS FALSE NEIGHBOUR: 'it returns false'. Refute it at one input. -/
def netWaitsWrong : ChangeSpec := { name := "netWaits", fn := fun _ => fun
  | [d1, d2] => { results := [.lit (.bool false)], args := [d1, d2] }
  | _ => none }
def NetWaitsWrongFalsely : Prop := netWaitsRow.holds Try.pinned (OpenSpec.ofChange netWaitsWrong)

/-- 'haversacklaw19.NetPlays': WHATEVER THE INPUT: true; the input reads as it did. -/
def netPlaysSpec : ChangeSpec := { name := "netPlays", fn := fun _ => fun
  | [d1, d2, d3, d4] => { results := [.lit (.bool true)], args := [d1, d2, d3, d4] }
  | _ => none }
def netPlaysRow : OpenClaim := { program := "ytlbegmpikggmlaa", sum := "920b35c2b3dae3344acceb2ea23b77f7a3936cbb2960de0c929f6a90c74308a2", func := "haversack/haversacklaw19.NetPlays", spec := "netPlays", unfollowed := true, recurses := true, apart := false }
def NetPlaysSaid : Prop := netPlaysRow.holds Try.pinned (OpenSpec.ofChange netPlaysSpec)

/-- ITS FALSE NEIGHBOUR: 'it returns false'. Refute it at one input. -/
def netPlaysWrong : ChangeSpec := { name := "netPlays", fn := fun _ => fun
  | [d1, d2, d3, d4] => { results := [.lit (.bool false)], args := [d1, d2, d3, d4] }
  | _ => none }
def NetPlaysWrongFalsely : Prop := netPlaysRow.holds Try.pinned (OpenSpec.ofChange netPlaysWrong)

/- THE SECOND FORM. 'bulk': how many values and letters a reading holds, each counted each time it is reached (what is shared counts as often as it is met; a slice's spare places count too). A statement '..UptoSaid' is the law's where the arguments, and the package variables that the reading takes, are together of bulk at most 1048576: NARROWER than '..Said'. Prove '..Said' where nothing that the law and all that it calls make is longer than what came in: it says more and counts as full. Else prove '..UptoSaid'. A law counts once. -/
mutual
def uptoBulk {H : Type} : DataW H → Nat
  | .lit (.string bytes) => bytes.length + 1
  | .lit _ => 1
  | .nil => 1
  | .ptr d => uptoBulk d + 1
  | .slice elems spare => uptoBulkAll elems + uptoBulkAll spare + 1
  | .agg parts => uptoBulkAll parts + 1
  | .iface _ d => uptoBulk d + 1
  | .map entries => uptoBulkEntries entries + 1
  | .held _ => 1
def uptoBulkAll {H : Type} : List (DataW H) → Nat
  | [] => 0
  | d :: r => uptoBulk d + uptoBulkAll r
def uptoBulkEntries {H : Type} : List (Lit × DataW H) → Nat
  | [] => 0
  | x :: r => uptoBulkEntry x + uptoBulkEntries r
def uptoBulkEntry {H : Type} : Lit × DataW H → Nat
  | (.string bytes, d) => bytes.length + uptoBulk d + 1
  | (_, d) => uptoBulk d + 1
 end
def uptoSmall : (H : Type) → List (DataW H) → Bool := fun _ ds => decide (uptoBulkAll ds ≤ 1048576)
def OpenSpec.upto (s : _root_.Go.ChangeSpec) : _root_.Go.OpenSpec := { _root_.Go.OpenSpec.ofChange s with cond := some uptoSmall }

/-- 'haversacklaw19.NetPieces', WHERE WHAT IT READS IS OF BULK AT MOST 1048576: true; the input reads as it did. -/
def netPiecesUptoRow : OpenClaim := { program := "ytlbegmpikggmlaa", sum := "920b35c2b3dae3344acceb2ea23b77f7a3936cbb2960de0c929f6a90c74308a2", func := "haversack/haversacklaw19.NetPieces", spec := "netPieces", unfollowed := true, recurses := true, apart := false, narrowed := true }
def NetPiecesUptoSaid : Prop := netPiecesUptoRow.holds Try.pinned (OpenSpec.upto netPiecesSpec)

/-- 'haversacklaw19.NetFaults', WHERE WHAT IT READS IS OF BULK AT MOST 1048576: true; the input reads as it did. -/
def netFaultsUptoRow : OpenClaim := { program := "ytlbegmpikggmlaa", sum := "920b35c2b3dae3344acceb2ea23b77f7a3936cbb2960de0c929f6a90c74308a2", func := "haversack/haversacklaw19.NetFaults", spec := "netFaults", unfollowed := true, recurses := true, apart := false, narrowed := true }
def NetFaultsUptoSaid : Prop := netFaultsUptoRow.holds Try.pinned (OpenSpec.upto netFaultsSpec)

/-- 'haversacklaw19.NetWaits', WHERE WHAT IT READS IS OF BULK AT MOST 1048576: true; the input reads as it did. -/
def netWaitsUptoRow : OpenClaim := { program := "ytlbegmpikggmlaa", sum := "920b35c2b3dae3344acceb2ea23b77f7a3936cbb2960de0c929f6a90c74308a2", func := "haversack/haversacklaw19.NetWaits", spec := "netWaits", unfollowed := true, recurses := true, apart := false, narrowed := true }
def NetWaitsUptoSaid : Prop := netWaitsUptoRow.holds Try.pinned (OpenSpec.upto netWaitsSpec)

/-- 'haversacklaw19.NetPlays', WHERE WHAT IT READS IS OF BULK AT MOST 1048576: true; the input reads as it did. -/
def netPlaysUptoRow : OpenClaim := { program := "ytlbegmpikggmlaa", sum := "920b35c2b3dae3344acceb2ea23b77f7a3936cbb2960de0c929f6a90c74308a2", func := "haversack/haversacklaw19.NetPlays", spec := "netPlays", unfollowed := true, recurses := true, apart := false, narrowed := true }
def NetPlaysUptoSaid : Prop := netPlaysUptoRow.holds Try.pinned (OpenSpec.upto netPlaysSpec)

end Rows
end Go.Proofs.Ytlbegmpikggmlaa
