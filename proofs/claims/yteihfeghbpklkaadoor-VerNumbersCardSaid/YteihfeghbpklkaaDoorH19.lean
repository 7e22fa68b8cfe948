/-
  Rules: cells of an array in a variable; a variable of several cells read and written whole.
-/
import Derived.Test.YteihfeghbpklkaaDoorH18
namespace Go.Proofs.YteihfeghbpklkaaDoor.H
open Go.RowKit
section
variable {M : Option (Option Nat)} {P : Program} {ops : Array Oper} {Q : Post} {rest : List Oper} {f : Fr} {w : World} {d : Nat} {ty : TypeId} {pos : String} {af : Array Edge}
/-- The address of a cell of an array. -/
theorem Y.idxP {t e n : TypeId} {z : Value} {sz b : Nat} [ht : Und P t (.array n e)] [Inf P e z sz b] {x y : Operand} {k : IntKind} {g o : Nat} {i : Int} (hx : f.ev x = some (.pointer (some ⟨g, o, none⟩))) (hy : f.ev y = some (.int k i)) (h0 : 0 ≤ i) (h1 : i < (n : Nat)) :
    Yd P f (op1 d (.indexAddr t x y) ty pos af) (.pointer (some ⟨g, o + i.toNat * sz, none⟩)) w := by
  intro a ha
  have hsz := run_sizeOf (P := P) (t := e) w
  simp [execOp, ha.eval hx, ha.eval hy, Instr.indexAt, asIntOf, run_underlying ht.out, h0, h1, hsz, addr_add, Instr.sureAddr]
theorem Y.loadBlock {t : TypeId} {n : Nat} [h : Many P t n] {x : Operand} {g : Nat} {c : Array Value} {e : TypeId} {fz : Nat × Nat} (hx : f.ev x = some (.pointer (some ⟨g, 0, none⟩))) (hb : w.heap[g]? = some (.cells c e fz)) (hl : Nat.beq c.size n = true) :
    Yd P f (op1 d (.load t x) ty pos af) (.agg c) w := by
  have := Y.loadN (P := P) (f := f) (w := w) (d := d) (ty := ty) (pos := pos) (af := af) (t := t) (cs := c.toList) hx (by simpa using Nat.eq_of_beq_eq_true hl) (fun j v hv => by
    rw [addr_add, Nat.zero_add, cell_row (off := 0) hb]
    simpa using hv)
  simpa using this
/-- A variable of several cells written whole. -/
theorem RW.storeBlock {t : TypeId} {n : Nat} [h : Many P t n] {x y : Operand} {g : Nat} {u : Array Value} {c : Array Value} {e : TypeId} (hx : f.ev x = some (.pointer (some ⟨g, 0, none⟩))) (hy : f.ev y = some (.agg u)) (hu : Nat.beq u.size n = true) (h1 : ∀ z ∈ u.toList, z.oneCell' = true)
    (hb : w.heap[g]? = some (.cells c e (0, 0))) (hj : Nat.beq c.size n = true)
    (k : ∀ w', w'.heap[g]? = some (.cells u e (0, 0)) → Kept (fun k => k = g) w w' → RW M P ops Q rest f w') : RW M P ops Q (op0 (.store t x y) ty pos af :: rest) f w := by
  have hu' := Nat.eq_of_beq_eq_true hu
  have hj' := Nat.eq_of_beq_eq_true hj
  refine RW.storeN (j := 0) (fun w => h.size w) hx hy (by simpa [Value.cells] using hu') (by simpa [Value.cells] using h1) hb (by omega) fun w' hb' hk => k w' ?_ hk
  rw [hb']
  have : c.toList.drop (0 + n) = [] := by rw [List.drop_eq_nil_iff]; simp; omega
  rw [this]
  simp [Value.cells]
end
end Go.Proofs.YteihfeghbpklkaaDoor.H
