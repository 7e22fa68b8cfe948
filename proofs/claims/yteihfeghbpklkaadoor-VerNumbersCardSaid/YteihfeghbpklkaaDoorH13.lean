/-
  Elements read under a guard that holds.
-/
import Derived.Test.YteihfeghbpklkaaDoorH12
namespace Go.Proofs.YteihfeghbpklkaaDoor.H
open Go.RowKit
section
variable {M : Option (Option Nat)} {P : Program} {ops : Array Oper} {Q : Post} {rest : List Oper} {f : Fr} {w : World} {d : Nat} {ty : TypeId} {pos : String} {af : Array Edge}

theorem RW.elemMOn {α : Type} [Inhabited α] {t e t2 ty2 : TypeId} {pos2 : String} {af2 : Array Edge} {d1 j s : Nat} {c : Bool} {z : Value} {b : Nat} [ht : Und P t (.slice e)] [Inf P e z 1 b] [One P t2] {x y : Operand} {k : IntKind} {v : Value} {i : Int} {n : Nat} {l : List α} {enc : α → Value} (hx : f.ev x = some v) (hy : f.ev y = some (.int k i)) (hd : Nat.blt d f.n = true) (hd1 : Nat.blt d1 f.n = true)
    (hs : Sl w 1 v n (l.map enc)) (h0 : 0 ≤ i) (h1 : i < l.length) (hj : (ops[j]?).bind (·.dst) = some s) (hn : Nat.blt s f.n = true) (hv : look (f.put d (.pointer (some (Value.spot v (i.toNat * 1))))).e s = some (.bool c))
    (kk : RW M P ops Q rest ((f.put d (.pointer (some (Value.spot v (i.toNat * 1))))).put d1 (enc (l.getD i.toNat default))) w) : RW M P ops Q (op1 d (.indexAddr t x y) ty pos af :: { dst := some d1, op := .load t2 (.tmp d), type := ty2, pos := pos2, after := af2, guard := some (j, c) } :: rest) f w := by
  have hn' : n = l.length := by have := hs.1; simpa using this.symm
  have hlt : i.toNat < l.length := by omega
  refine RW.elemOn hx hy hd hd1 hs h0 (by omega) ?_ hj hn hv kk
  simp [hlt]
theorem RW.elemSOn {t e t2 ty2 : TypeId} {pos2 : String} {af2 : Array Edge} {d1 j s : Nat} {c : Bool} {z : Value} {b : Nat} [ht : Und P t (.slice e)] [Inf P e z 1 b] [One P t2] {x y : Operand} {k : IntKind} {v : Value} {i : Int} {n : Nat} {l : List (List UInt8)} (hx : f.ev x = some v) (hy : f.ev y = some (.int k i)) (hd : Nat.blt d f.n = true) (hd1 : Nat.blt d1 f.n = true)
    (hs : Sl w 1 v n (sv l)) (h0 : 0 ≤ i) (h1 : i < l.length) (hj : (ops[j]?).bind (·.dst) = some s) (hn : Nat.blt s f.n = true) (hv : look (f.put d (.pointer (some (Value.spot v (i.toNat * 1))))).e s = some (.bool c))
    (kk : RW M P ops Q rest ((f.put d (.pointer (some (Value.spot v (i.toNat * 1))))).put d1 (vs (l.getD i.toNat []))) w) : RW M P ops Q (op1 d (.indexAddr t x y) ty pos af :: { dst := some d1, op := .load t2 (.tmp d), type := ty2, pos := pos2, after := af2, guard := some (j, c) } :: rest) f w :=
  RW.elemMOn (enc := vs) (l := l) hx hy hd hd1 hs h0 h1 hj hn hv kk

/-- A text against itself. -/
theorem Y.nesR {t yt : TypeId} {x y : Operand} {a : List UInt8} (hx : f.ev x = some (.string (B a))) (hy : f.ev y = some (.string (B a))) : Yd P f (op1 d (.binOp .neq t x y yt) ty pos af) (.bool false) w := by
  have := Y.nes (P := P) (w := w) (d := d) (t := t) (yt := yt) (ty := ty) (pos := pos) (af := af) hx hy
  simpa using this
end
end Go.Proofs.YteihfeghbpklkaaDoor.H
