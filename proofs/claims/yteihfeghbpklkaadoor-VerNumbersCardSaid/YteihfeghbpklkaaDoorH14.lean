/-
  An element read whole in whatever world of a kind; a truth against itself.
-/
import Derived.Test.YteihfeghbpklkaaDoorH13
namespace Go.Proofs.YteihfeghbpklkaaDoor.H
open Go.RowKit
section
variable {M : Option (Option Nat)} {P : Program} {ops : Array Oper} {Q : Post} {rest : List Oper} {f : Fr} {w : World} {d : Nat} {ty : TypeId} {pos : String} {af : Array Edge}
theorem Y.loadN {t : TypeId} {n : Nat} [h : Many P t n] {x : Operand} {a : Addr} {cs : List Value} (hx : f.ev x = some (.pointer (some a))) (hl : cs.length = n) (hc : ∀ j v, cs[j]? = some v → w.cell? (a.add j) = some v) : Yd P f (op1 d (.load t x) ty pos af) (.agg cs.toArray) w := fun a' ha => by
  have hr := run_loadCells_list (P := P) w a cs hc
  rw [hl] at hr
  simp [execOp, ha.eval hx, Instr.loadAt, Instr.sureAddr, loadVar, h.agg, h.size, hr]
theorem Y.eqbR {t yt : TypeId} [ht : Und P t .bool] {x y : Operand} {a : Bool} (hx : f.ev x = some (.bool a)) (hy : f.ev y = some (.bool a)) : Yd P f (op1 d (.binOp .eql t x y yt) ty pos af) (.bool true) w := by
  have := Y.eqb (P := P) (w := w) (d := d) (t := t) (yt := yt) (ty := ty) (pos := pos) (af := af) hx hy
  simpa using this
end
end Go.Proofs.YteihfeghbpklkaaDoor.H
