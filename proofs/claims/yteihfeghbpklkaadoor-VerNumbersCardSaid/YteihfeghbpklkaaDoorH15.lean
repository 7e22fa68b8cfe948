/-
  Rules: the greater and the lesser of two numbers, functions that the model itself gives, slices made, an element of a row of the call's own written.
-/
import Derived.Test.YteihfeghbpklkaaDoorH14
import Derived.Laws.Small
import Derived.Laws.Cover1
import Derived.Laws.OwnMore
import Derived.Laws.Externs
import Derived.Lib.Bytealg
namespace Go.Proofs.YteihfeghbpklkaaDoor.H
open Go.RowKit
section
variable {M : Option (Option Nat)} {P : Program} {ops : Array Oper} {Q : Post} {rest : List Oper} {f : Fr} {w : World} {d : Nat} {ty : TypeId} {pos : String} {af : Array Edge}

theorem Gt.slice {t : TypeId} {x : Operand} {a b c : Option Operand} (h : RW M P ops Q ({ dst := some d, op := .slice t x a b c, type := ty, pos := pos, after := af, guard := none } :: rest) f w) : RW M P ops Q ({ dst := some d, op := .slice t x a b c, type := ty, pos := pos, after := af, guard := none } :: rest) f w := h
theorem Gt.call {c : Call} (h : RW M P ops Q ({ dst := some d, op := .call c, type := ty, pos := pos, after := af, guard := none } :: rest) f w) : RW M P ops Q ({ dst := some d, op := .call c, type := ty, pos := pos, after := af, guard := none } :: rest) f w := h

theorem Y.max2 {x y : Operand} {k k2 : IntKind} {a b : Int} {ts : Array TypeId} (hx : f.ev x = some (.int k a)) (hy : f.ev y = some (.int k2 b)) : Yd P f (op1 d (.call { callee := .builtin .max, args := #[x, y], argTypes := ts }) ty pos af) (.int k (max a b)) w := by
  intro s hs
  have h := run_max_int2 (P := P) (w := w) ts ty k k2 a b
  have e : (if b > a then b else a) = max a b := by split <;> omega
  rw [e] at h
  simp [execOp, resolve, invoke, builtin, hs.eval hx, hs.eval hy, h]
theorem Y.min2 {x y : Operand} {k k2 : IntKind} {a b : Int} {ts : Array TypeId} (hx : f.ev x = some (.int k a)) (hy : f.ev y = some (.int k2 b)) : Yd P f (op1 d (.call { callee := .builtin .min, args := #[x, y], argTypes := ts }) ty pos af) (.int k (min a b)) w := by
  intro s hs
  have h := run_min_int2 (P := P) (w := w) ts ty k k2 a b
  have e : (if b < a then b else a) = min a b := by split <;> omega
  rw [e] at h
  simp [execOp, resolve, invoke, builtin, hs.eval hx, hs.eval hy, h]
theorem Y.min3 {x y z : Operand} {k k2 k3 : IntKind} {a b c : Int} {ts : Array TypeId} (hx : f.ev x = some (.int k a)) (hy : f.ev y = some (.int k2 b)) (hz : f.ev z = some (.int k3 c)) : Yd P f (op1 d (.call { callee := .builtin .min, args := #[x, y, z], argTypes := ts }) ty pos af) (.int k (min (min a b) c)) w := by
  intro s hs
  have h := run_min_int3 (P := P) (w := w) ts ty k k2 k3 a b c
  have e : (if c < (if b < a then b else a) then c else (if b < a then b else a)) = min (min a b) c := by split <;> split <;> omega
  rw [e] at h
  simp [execOp, resolve, invoke, builtin, hs.eval hx, hs.eval hy, hs.eval hz, h]

/-- A function that the model itself gives. -/
theorem Y.ext {k : FuncId} {xs : List Operand} {l : List Value} {at' : Array TypeId} {v : Value} (hv : f.evs xs = some l) (hc : (callFunc k l.toArray).run P w = .ok (.value v) w) : Yd P f (op1 d (.call { callee := .value (.func k), args := xs.toArray, argTypes := at' }) ty pos af) v w := fun a ha => by
  simp [execOp, resolve, Act.eval, Deferred.ofValue, invoke, ha.evs xs l hv, hc]

theorem madeCells_one {z : Value} (n : Nat) : (madeCells #[z] n).toList = List.replicate n z := by
  apply List.ext_getElem?
  intro i
  simp only [madeCells, Array.toList_map, Array.toList_range, List.getElem?_map, List.getElem?_replicate]
  by_cases h : i < n <;> simp [h, Nat.mod_one]

/-- make([]T, n), T of one cell -/
theorem RW.make1 {t e : TypeId} {z : Value} {b : Nat} [ht : Und P t (.slice e)] [hi : Inf P e z 1 b] {x y : Operand} {k k2 : IntKind} {n : Nat} (hx : f.ev x = some (.int k (n : Int))) (hy : f.ev y = some (.int k2 (n : Int))) (hd : Nat.blt d f.n = true) (hz : z.cells = #[z]) (hn : n ≤ 16777216) (hb : b * n ≤ 281474976710656)
    (kk : ∀ v' w', w'.ownsRow w.heap.size e 1 v' n (List.replicate n z) → K0 w w' → RW M P ops Q rest (f.put d v') w') : RW M P ops Q (op1 d (.makeSlice t x y) ty pos af :: rest) f w := by
  have hi' := hi.out
  cases hinf : P.info? e with
  | none => simp [hinf] at hi'
  | some i =>
    simp only [hinf, Option.map_some, Option.some.injEq, Prod.mk.injEq] at hi'
    obtain ⟨hz', hs', hb'⟩ := hi'
    obtain ⟨w', hr, ho, hg⟩ := run_makeSlice_full (P := P) w w.heap.size t e i z 1 ht.out hinf hz' hs' k k2 n (by omega) (by rw [hb']; exact hb) (by simp only [maxLen]; omega) (Nat.le_refl _)
    rw [hz, Nat.mul_one, madeCells_one] at ho
    refine RW.val rfl rfl hd (fun a ha => ?_) (kk _ w' ho ((Kept.of_grown hg).mono fun k hk => by cases hk))
    simp [execOp, ha.eval hx, ha.eval hy, hr]

theorem cons_snd {α : Type} {l : List α} {i : Nat} {u : α} : (l.set i u).length = l.length := List.length_set ..

/-- An element of a row of the call's own is written. -/
theorem RW.setEl {t e t2 : TypeId} {ty2 : TypeId} {pos2 : String} {af2 : Array Edge} {z : Value} {b : Nat} [ht : Und P t (.slice e)] [Inf P e z 1 b] [One P t2] {x y q : Operand} {k : IntKind} {v u : Value} {i : Int} {base n : Nat} {xs : List Value} (hx : f.ev x = some v) (hy : f.ev y = some (.int k i)) (hd : Nat.blt d f.n = true)
    (hs : w.ownsRow base e 1 v n xs) (h0 : 0 ≤ i) (h1 : i < n) (hu : ∀ p, (f.put d p).ev q = some u) (hu1 : u.oneCell' = true)
    (kk : ∀ p w', w'.ownsRow base e 1 v n (xs.set i.toNat u) → Kept (fun k => v.ownBlock = some k) w w' → RW M P ops Q rest (f.put d p) w') : RW M P ops Q (op1 d (.indexAddr t x y) ty pos af :: op0 (.store t2 (.tmp d) q) ty2 pos2 af2 :: rest) f w := by
  have hlen := hs.1
  rcases hs.2 with ⟨rfl, h⟩ | ⟨g, cap, cur, rfl, hb, hg, hn, hm, hc, htk⟩
  · omega
  have hsp : Value.spot (.slice (some ⟨g, 0, none⟩) n cap) (i.toNat * 1) = ⟨g, i.toNat, none⟩ := by simp only [Value.spot, addr_add]; congr 1; omega
  refine RW.y (Y.idx hx hy (Sl.of_own hs) h0 h1) hd ?_
  rw [hsp]
  refine RW.storeB (g := g) (j := i.toNat) (by simp [Fr.ev, Fr.put, look]) (hu _) hu1 hg (by omega) (fun w' hw' hk => kk _ w' ?_ (hk.mono fun k h => by simp [Value.ownBlock, h]))
  refine ⟨by rw [List.length_set]; exact hlen, .inr ⟨g, cap, _, rfl, hb, hw', hn, hm, by simpa using hc, ?_⟩⟩
  rw [Array.toList_setIfInBounds, List.take_set, htk]
end
end Go.Proofs.YteihfeghbpklkaaDoor.H
