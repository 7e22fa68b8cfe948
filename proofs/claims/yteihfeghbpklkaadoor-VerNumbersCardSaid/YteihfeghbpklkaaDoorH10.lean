/-
  More rules: an operation whose guard was itself passed over.
-/
import Derived.Test.YteihfeghbpklkaaDoorHInst
namespace Go.Proofs.YteihfeghbpklkaaDoor.H
open Go.RowKit
variable {M : Option (Option Nat)} {P : Program} {ops : Array Oper} {Q : Post} {rest : List Oper} {f : Fr} {w : World}

theorem yieldsU {f : Fr} {a : Act} (ha : Ag f a) {ops : Array Oper} {j t : Nat} (hj : (ops[j]?).bind (·.dst) = some t) (hn : Nat.blt t f.n = true) (hv : look f.e t = some undef) : yielded ops a.tmps j = none := by
  have h := ha.slot t _ hv
  have hlt : t < a.tmps.size := by rw [ha.size]; exact blt_lt hn
  have h2 : a.tmps[t]? = some undef := by
    rw [Array.getD_eq_getD_getElem?] at h
    rw [Array.getElem?_eq_getElem hlt] at h ⊢
    simpa using h
  simp [yielded, hj, h2, undef]

theorem RW.offu {d : Nat} {op : Op} {ty : TypeId} {pos : String} {af : Array Edge} {j t : Nat} {b : Bool} (hj : (ops[j]?).bind (·.dst) = some t) (hn : Nat.blt t f.n = true)
    (hv : look f.e t = some undef) (hd : Nat.blt d f.n = true) (k : RW M P ops Q rest (f.put d undef) w) :
    RW M P ops Q ({ dst := some d, op := op, type := ty, pos := pos, after := af, guard := some (j, b) } :: rest) f w := by
  intro a ha
  have hw : Region.wanted ({ dst := some d, op := op, type := ty, pos := pos, after := af, guard := some (j, b) } : Oper) (yielded ops a.tmps) = false := by
    cases b <;> simp [Region.wanted, yieldsU ha hj hn hv]
  cases M with
  | none =>
    unfold lwp wpList
    rw [hw]
    simp only [Bool.false_eq_true, if_false]
    exact k _ (ha.put undef hd)
  | some r =>
    change wpListIn (Rd1 r) 0 P ops (lift Q) _ a w
    unfold wpListIn
    rw [hw]
    simp only [Bool.false_eq_true, if_false]
    exact ⟨fun _ _ => trivial, k _ (ha.put undef hd)⟩
end Go.Proofs.YteihfeghbpklkaaDoor.H
