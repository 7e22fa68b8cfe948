/-
  A new variable of several cells, and what is laid into it.
-/
import Derived.Test.YteihfeghbpklkaaDoorH20
namespace Go.Proofs.YteihfeghbpklkaaDoor.H
open Go.RowKit
section
variable {M : Option (Option Nat)} {P : Program} {ops : Array Oper} {Q : Post} {rest : List Oper} {f : Fr} {w : World} {d : Nat} {ty : TypeId} {pos : String} {af : Array Edge}
theorem RW.varN {t ty2 : TypeId} {pos2 : String} {af2 : Array Edge} {z : Value} {sz b : Nat} [Inf P t z sz b] [Many P t sz] {y : Operand} {u : Array Value} (hy : (f.put d (.pointer (some ⟨w.heap.size, 0, none⟩))).ev y = some (.agg u)) (hu : Nat.beq u.size sz = true) (hz : Nat.beq z.cells.size sz = true) (h1 : ∀ z ∈ u.toList, z.oneCell' = true) (hd : Nat.blt d f.n = true)
    (k : ∀ w', w'.heap[w.heap.size]? = some (.cells u t (0, 0)) → K0 w w' → w.heap.size < w'.heap.size → RW M P ops Q rest (f.put d (.pointer (some ⟨w.heap.size, 0, none⟩))) w') :
    RW M P ops Q (op1 d (.alloc t) ty pos af :: op0 (.store t (.tmp d) y) ty2 pos2 af2 :: rest) f w := by
  refine RW.alloc hd fun w1 hb1 hk1 hlt1 => ?_
  refine RW.storeBlock (g := w.heap.size) ?_ hy hu h1 hb1 hz fun w2 hb2 hk2 => ?_
  · simp [Fr.ev, Fr.put, look]
  · exact k w2 hb2 (hk1.trans hk2 fun k h => .inr (by have h' : k = w.heap.size := h; omega)) (Nat.lt_of_lt_of_le hlt1 hk2.size)
end
end Go.Proofs.YteihfeghbpklkaaDoor.H
