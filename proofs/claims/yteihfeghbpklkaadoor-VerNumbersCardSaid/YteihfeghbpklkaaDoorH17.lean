/-
  Rules: numbers that are not below 0 divided, numbers of any kind that stay in it, slice literals of any length, texts against themselves.
-/
import Derived.Test.YteihfeghbpklkaaDoorH16
namespace Go.Proofs.YteihfeghbpklkaaDoor.H
open Go.RowKit
section
variable {M : Option (Option Nat)} {P : Program} {ops : Array Oper} {Q : Post} {rest : List Oper} {f : Fr} {w : World} {d : Nat} {ty : TypeId} {pos : String} {af : Array Edge}
theorem wrapu8_id {z : Int} (h1 : 0 ≤ z) (h2 : z < 256) : IntKind.u8.wrap z = z := by rw [wrapu8]; omega
theorem wrapu16_id {z : Int} (h1 : 0 ≤ z) (h2 : z < 65536) : IntKind.u16.wrap z = z := by
  have : IntKind.u16.wrap z = z % 65536 := by simp [IntKind.wrap, IntKind.bits, IntKind.signed]
  rw [this]; omega
theorem wrapu32_id {z : Int} (h1 : 0 ≤ z) (h2 : z < 4294967296) : IntKind.u32.wrap z = z := by rw [wrapu32]; omega
section arith
variable {t yt : TypeId} {x y : Operand} {a b : Int} {k : IntKind}
theorem Y.remP (hx : f.ev x = some (.int k a)) (hy : f.ev y = some (.int k b)) (h0 : 0 ≤ a) (h1 : 0 < b) : Yd P f (op1 d (.binOp .rem t x y yt) ty pos af) (.int k (a % b)) w := by
  have h := Y.rem (P := P) (w := w) (d := d) (ty := ty) (pos := pos) (af := af) (t := t) (yt := yt) hx hy (by omega)
  rw [Int.tmod_eq_emod_of_nonneg h0] at h
  exact h
theorem Y.quoP (hx : f.ev x = some (.int k a)) (hy : f.ev y = some (.int k b)) (h0 : 0 ≤ a) (h1 : 0 < b) (hw : k.wrap (a / b) = a / b) : Yd P f (op1 d (.binOp .quo t x y yt) ty pos af) (.int k (a / b)) w := by
  have h := Y.quo (P := P) (w := w) (d := d) (ty := ty) (pos := pos) (af := af) (t := t) (yt := yt) hx hy (by omega)
  rw [Int.tdiv_eq_ediv_of_nonneg h0, hw] at h
  exact h
theorem Y.addN (hx : f.ev x = some (.int k a)) (hy : f.ev y = some (.int k b)) (hw : k.wrap (a + b) = a + b) : Yd P f (op1 d (.binOp .add t x y yt) ty pos af) (.int k (a + b)) w := by
  have h := Y.add (P := P) (w := w) (d := d) (ty := ty) (pos := pos) (af := af) (t := t) (yt := yt) hx hy
  rw [hw] at h
  exact h
theorem Y.subN (hx : f.ev x = some (.int k a)) (hy : f.ev y = some (.int k b)) (hw : k.wrap (a - b) = a - b) : Yd P f (op1 d (.binOp .sub t x y yt) ty pos af) (.int k (a - b)) w := by
  have h := Y.sub (P := P) (w := w) (d := d) (ty := ty) (pos := pos) (af := af) (t := t) (yt := yt) hx hy
  rw [hw] at h
  exact h
theorem Y.mulN (hx : f.ev x = some (.int k a)) (hy : f.ev y = some (.int k b)) (hw : k.wrap (a * b) = a * b) : Yd P f (op1 d (.binOp .mul t x y yt) ty pos af) (.int k (a * b)) w := by
  have h := Y.mul (P := P) (w := w) (d := d) (ty := ty) (pos := pos) (af := af) (t := t) (yt := yt) hx hy
  rw [hw] at h
  exact h
end arith
section same
variable {t yt : TypeId} {x y : Operand}
theorem Y.eqsS {a : List UInt8} (hx : f.ev x = some (.string (B a))) (hy : f.ev y = some (.string (B a))) : Yd P f (op1 d (.binOp .eql t x y yt) ty pos af) (.bool true) w := by
  have := Y.eqs (P := P) (w := w) (d := d) (t := t) (yt := yt) (ty := ty) (pos := pos) (af := af) hx hy
  simpa using this
theorem Y.nesS {a : List UInt8} (hx : f.ev x = some (.string (B a))) (hy : f.ev y = some (.string (B a))) : Yd P f (op1 d (.binOp .neq t x y yt) ty pos af) (.bool false) w := by
  have := Y.nes (P := P) (w := w) (d := d) (t := t) (yt := yt) (ty := ty) (pos := pos) (af := af) hx hy
  simpa using this
theorem Y.eqiS {k : IntKind} {a : Int} (hx : f.ev x = some (.int k a)) (hy : f.ev y = some (.int k a)) : Yd P f (op1 d (.binOp .eql t x y yt) ty pos af) (.bool true) w := by
  have := Y.eqi (P := P) (w := w) (d := d) (t := t) (yt := yt) (ty := ty) (pos := pos) (af := af) hx hy
  simpa using this
theorem Y.neiS {k : IntKind} {a : Int} (hx : f.ev x = some (.int k a)) (hy : f.ev y = some (.int k a)) : Yd P f (op1 d (.binOp .neq t x y yt) ty pos af) (.bool false) w := by
  have := Y.nei (P := P) (w := w) (d := d) (t := t) (yt := yt) (ty := ty) (pos := pos) (af := af) hx hy
  simpa using this
theorem Y.eqbS [ht : Und P t .bool] {a : Bool} (hx : f.ev x = some (.bool a)) (hy : f.ev y = some (.bool a)) : Yd P f (op1 d (.binOp .eql t x y yt) ty pos af) (.bool true) w := by
  have := Y.eqb (P := P) (w := w) (d := d) (t := t) (yt := yt) (ty := ty) (pos := pos) (af := af) hx hy
  simpa using this
end same
theorem zip_parts : ∀ (vs : List Value) (k : Nat) (ps : List (Nat × Operand)), ps.map (·.1) = List.range' k vs.length → ((ps.map (·.1)).zip vs) = (vs.zipIdx k).map fun p => (p.2, p.1) := by
  intro vs
  induction vs with
  | nil => intro k ps h; simp
  | cons v r ih =>
    intro k ps h
    cases ps with
    | nil => simp at h
    | cons p ps =>
      simp only [List.map_cons, List.length_cons, List.range'_succ, List.cons.injEq] at h
      have := ih (k + 1) ps h.2
      simp only [List.map_cons, List.zip_cons_cons, List.zipIdx_cons, this, h.1]
/-- A slice literal of any length. -/
theorem RW.buildL {t e n : TypeId} {z : Value} {sz b : Nat} [ht : Und P t (.slice e)] [Inf P e z sz b] {ps : List (Nat × Operand)} {l : List Value} (hx : f.evs (ps.map (·.2)) = some l) (hp : ps.map (·.1) = List.range' 0 l.length) (hn : l.length = n) (hu : ∀ v ∈ l, v.cells.size = sz) (hs : Nat.ble (n * sz) 16777216 = true) (hd : Nat.blt d f.n = true)
    (k : ∀ w', w'.heap[w.heap.size]? = some (.cells (catCells l).toArray e (0, 0)) → K0 w w' → w.heap.size < w'.heap.size → RW M P ops Q rest (f.put d (.slice (some ⟨w.heap.size, 0, none⟩) n n)) w') : RW M P ops Q (op1 d (.buildSlice t n ps.toArray) ty pos af :: rest) f w := by
  subst hn
  refine RW.val rfl rfl hd (fun a ha => ?_) (k (w.alloc (.cells _ e)) (heap_alloc_new w _) (Kept.alloc w _) (by simp))
  have hev := ha.evs _ l hx
  have hps : (ps.toArray.map fun (p : Nat × Operand) => (p.1, a.eval p.2)) = ((ps.map (·.1)).zip l).toArray := by
    rw [← hev]
    apply Array.ext'
    simp only [List.map_toArray, List.map_map]
    clear hx hp hu hs hev k
    induction ps with
    | nil => rfl
    | cons p ps ih => simpa using ih
  have := run_buildSlice (P := P) (w := w) (t := t) (z := z) (sz := sz) (b := b) l ((ps.map (·.1)).zip l).toArray (zip_parts l 0 ps hp) hu (by simpa using ble_le hs)
  simp only [execOp]
  rw [show (ps.toArray.map fun (x : Nat × Operand) => match x with | (i, x) => (i, a.eval x)) = ((ps.map (·.1)).zip l).toArray from hps, Sem.run_bind, this]
  rfl
end
end Go.Proofs.YteihfeghbpklkaaDoor.H
