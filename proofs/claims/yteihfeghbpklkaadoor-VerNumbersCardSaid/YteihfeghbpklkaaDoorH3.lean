/-
  The rules of operations that read and write memory: what is kept, slices that can be read, rows that are the call's own.
-/
import Derived.Test.YteihfeghbpklkaaDoorH2
import Derived.Lib.AppendStr
namespace Go.Proofs.YteihfeghbpklkaaDoor.H
open Go.RowKit

/-- w' is w but for new blocks and for blocks of S. -/
structure Kept (S : Nat → Prop) (w w' : World) : Prop where
  os : w'.os = w.os
  tape : w'.tape = w.tape
  output : w'.output = w.output
  size : w.heap.size ≤ w'.heap.size
  block : ∀ k, k < w.heap.size → ¬ S k → w'.heap[k]? = w.heap[k]?

abbrev K0 (w w' : World) : Prop := Kept (fun _ => False) w w'

theorem Kept.refl (S : Nat → Prop) (w : World) : Kept S w w := ⟨rfl, rfl, rfl, Nat.le_refl _, fun _ _ _ => rfl⟩
theorem Kept.mono {S T : Nat → Prop} {w w' : World} (h : Kept S w w') (hs : ∀ k, S k → T k) : Kept T w w' := ⟨h.os, h.tape, h.output, h.size, fun k hk hn => h.block k hk fun c => hn (hs k c)⟩
theorem Kept.of0 {S : Nat → Prop} {w w' : World} (h : K0 w w') : Kept S w w' := h.mono fun _ c => c.elim
theorem Kept.trans {S T : Nat → Prop} {a b c : World} (h : Kept S a b) (k : Kept T b c) (hT : ∀ k, T k → S k ∨ a.heap.size ≤ k) : Kept S a c :=
  ⟨k.os.trans h.os, k.tape.trans h.tape, k.output.trans h.output, Nat.le_trans h.size k.size, fun i hi hn =>
    (k.block i (Nat.lt_of_lt_of_le hi h.size) (fun t => (hT i t).elim hn (fun l => by omega))).trans (h.block i hi hn)⟩
theorem Kept.trans0 {S : Nat → Prop} {a b c : World} (h : Kept S a b) (k : K0 b c) : Kept S a c := h.trans k fun _ c => c.elim
theorem Kept.below {w w' : World} (h : K0 w w') : Below w.heap.size w w' := ⟨h.os, h.tape, h.output, h.size, fun k hk => h.block k hk fun c => c⟩
theorem Kept.of_below {w w' : World} (h : Below w.heap.size w w') : K0 w w' := ⟨h.os, h.tape, h.output, h.size, fun k hk _ => h.block k hk⟩
theorem Kept.of_below' {B : Nat} {w w' : World} (h : Below B w w') (hB : w.heap.size ≤ B) : K0 w w' := ⟨h.os, h.tape, h.output, h.size, fun k hk _ => h.block k (by omega)⟩
theorem Kept.of_grown {w w' : World} {row : Option Nat} (h : w.grownBy w' row) : Kept (fun k => row = some k) w w' :=
  ⟨h.os, h.tape, h.output, h.size, fun k hk hn => h.block k hk fun c => hn c.symm⟩
theorem Kept.alloc (w : World) (o : Obj) : K0 w (w.alloc o) := ⟨rfl, rfl, rfl, by simp, fun k hk _ => Below.heap_alloc w o k hk⟩
theorem Kept.drew (w : World) : K0 w w.drew := ⟨rfl, rfl, rfl, Nat.le_refl _, fun _ _ _ => rfl⟩
theorem Kept.setCell (w : World) (a : Addr) (v : Value) : Kept (fun k => k = a.block) w (w.setCell a v) :=
  ⟨rfl, rfl, rfl, by simp, fun k _ hn => Below.heap_setCell w a v k hn⟩
theorem Kept.setRow (w : World) (g : Nat) (c : Array Value) : Kept (fun k => k = g) w (w.setRow g c) :=
  ⟨rfl, rfl, rfl, by simp, fun k _ hn => setRow_other w g k c hn⟩

theorem Kept.at {S : Nat → Prop} {w w' : World} (h : Kept S w w') {g : Nat} {o : Obj} (ho : w.heap[g]? = some o) (hn : ¬ S g) : w'.heap[g]? = some o :=
  (h.block g (Array.getElem?_eq_some_iff.1 ho).1 hn).trans ho
theorem Kept.at0 {w w' : World} (h : K0 w w') {g : Nat} {o : Obj} (ho : w.heap[g]? = some o) : w'.heap[g]? = some o := h.at ho fun c => c
theorem lt_of_at {w : World} {g : Nat} {o : Obj} (ho : w.heap[g]? = some o) : g < w.heap.size := (Array.getElem?_eq_some_iff.1 ho).1
theorem Kept.cell {S : Nat → Prop} {w w' : World} (h : Kept S w w') {a : Addr} {v : Value} (hc : w.cell? a = some v) (hn : ¬ S a.block) : w'.cell? a = some v :=
  (World.cell?_of_block (h.block a.block (World.block_lt_of_cell? w a hc) hn)).trans hc

/-- The block of a slice's cells, where it has room for any. -/
def live : Value → Option Nat
  | .slice (some a) _ (_ + 1) => some a.block
  | _ => none
theorem live_own {v : Value} {g : Nat} (h : live v = some g) : v.ownBlock = some g := by
  unfold live at h
  split at h
  · cases h; rfl
  · cases h
theorem live_pos {p : Addr} {n cap : Nat} (h : 0 < cap) : live (.slice (some p) n cap) = some p.block := by
  cases cap with
  | zero => omega
  | succ k => rfl

/-- A slice that can be read: n elements of sz cells each, all its cells. -/
def Sl (w : World) (sz : Nat) (v : Value) (n : Nat) (xs : List Value) : Prop :=
  xs.length = n * sz ∧ n ≤ maxLen ∧
  ((∃ p, v = .slice p 0 0 ∧ n = 0) ∨
   ∃ g off cap cur e fz, v = .slice (some ⟨g, off, none⟩) n cap ∧ w.heap[g]? = some (.cells cur e fz) ∧ n ≤ cap ∧ cap ≤ maxLen ∧ off + cap * sz ≤ cur.size ∧ (cur.toList.drop off).take (n * sz) = xs)

theorem Sl.nil (w : World) (sz : Nat) : Sl w sz (.slice none 0 0) 0 [] := ⟨by simp, by simp, .inl ⟨_, rfl, rfl⟩⟩
theorem Sl.len {w : World} {sz : Nat} {v : Value} {n : Nat} {xs : List Value} (h : Sl w sz v n xs) : xs.length = n * sz := h.1
theorem Sl.keep {S : Nat → Prop} {w w' : World} {sz : Nat} {v : Value} {n : Nat} {xs : List Value} (h : Sl w sz v n xs) (k : Kept S w w') (hn : ∀ g, live v = some g → ¬ S g) : Sl w' sz v n xs := by
  refine ⟨h.1, h.2.1, ?_⟩
  rcases h.2.2 with h | ⟨g, off, cap, cur, e, fz, hv, hg, hn', r⟩
  · exact .inl h
  · by_cases hc : 0 < cap
    · exact .inr ⟨g, off, cap, cur, e, fz, hv, k.at hg (hn g (by rw [hv]; exact live_pos hc)), hn', r⟩
    · have hc0 : cap = 0 := by omega
      subst hc0
      have hn0 : n = 0 := by omega
      subst hn0
      exact .inl ⟨_, hv, rfl⟩
theorem Sl.keep0 {w w' : World} {sz : Nat} {v : Value} {n : Nat} {xs : List Value} (h : Sl w sz v n xs) (k : K0 w w') : Sl w' sz v n xs := h.keep k fun _ _ c => c
theorem Sl.lt {w : World} {sz : Nat} {v : Value} {n : Nat} {xs : List Value} (h : Sl w sz v n xs) {g : Nat} (hg : live v = some g) : g < w.heap.size := by
  rcases h.2.2 with ⟨p, rfl, _⟩ | ⟨g', off, cap, cur, e, fz, rfl, hh, _⟩
  · cases p <;> cases hg
  · have := live_own hg; cases this; exact lt_of_at hh
theorem Sl.of_own {w : World} {base : Nat} {e : TypeId} {sz : Nat} {v : Value} {n : Nat} {xs : List Value} (h : w.ownsRow base e sz v n xs) : Sl w sz v n xs := by
  rcases h.2 with ⟨rfl, rfl⟩ | ⟨g, cap, cur, rfl, hb, hg, hn, hm, hs, ht⟩
  · exact ⟨h.1, by simp, .inl ⟨_, rfl, rfl⟩⟩
  · exact ⟨h.1, Nat.le_trans hn hm, .inr ⟨g, 0, cap, cur, e, (0, 0), rfl, hg, hn, hm, by omega, by simpa using ht⟩⟩

theorem addr_add (g off k : Nat) : (⟨g, off, none⟩ : Addr).add k = ⟨g, off + k, none⟩ := by
  unfold Addr.add; split <;> simp_all

theorem cell_row {w : World} {g off : Nat} {cur : Array Value} {e : TypeId} {fz : Nat × Nat} (h : w.heap[g]? = some (.cells cur e fz)) (j : Nat) : w.cell? ⟨g, j, none⟩ = cur[j]? := by
  simp [World.cell?, h]

/-- The address of a slice's first cell behind k cells. -/
def Value.spot (v : Value) (k : Nat) : Addr := match v with
  | .slice (some a) _ _ => a.add k
  | _ => ⟨0, 0, none⟩

theorem Sl.cell {w : World} {sz : Nat} {v : Value} {n : Nat} {xs : List Value} (h : Sl w sz v n xs) {j : Nat} {u : Value} (hu : xs[j]? = some u) : w.cell? (Value.spot v j) = some u := by
  have hj : j < xs.length := (List.getElem?_eq_some_iff.1 hu).1
  rcases h.2.2 with ⟨_, _, h0⟩ | ⟨g, off, cap, cur, e, fz, rfl, hg, hn, hm, ho, ht⟩
  · rw [h.1, h0] at hj; omega
  · simp only [Value.spot, addr_add]
    rw [cell_row (off := off) hg]
    rw [← ht] at hu
    rw [List.getElem?_take] at hu
    split at hu
    · simpa using hu
    · cases hu

section
variable {M : Option (Option Nat)} {P : Program} {ops : Array Oper} {Q : Post} {rest : List Oper} {f : Fr} {w : World} {d : Nat} {ty : TypeId} {pos : String} {af : Array Edge}

/-- A type of one cell; a type of several. -/
class One (P : Program) (t : TypeId) : Prop where
  agg : ∀ w, (isAgg t).run P w = .ok false w
  size : ∀ w, (sizeOf t).run P w = .ok 1 w
class Many (P : Program) (t : TypeId) (n : outParam Nat) : Prop where
  agg : ∀ w, (isAgg t).run P w = .ok true w
  size : ∀ w, (sizeOf t).run P w = .ok n w

theorem Y.load1 {t : TypeId} [h : One P t] {x : Operand} {a : Addr} {v : Value} (hx : f.ev x = some (.pointer (some a))) (hc : w.cell? a = some v) : Yd P f (op1 d (.load t x) ty pos af) v w := fun a' ha => by simp [execOp, ha.eval hx, Instr.loadAt, Instr.sureAddr, loadVar, h.agg, load, Sem.run, hc]

theorem Y.loadB {t : TypeId} [h : One P t] {x : Operand} {g j : Nat} {v : Value} {c : Array Value} {e : TypeId} {fz : Nat × Nat} (hx : f.ev x = some (.pointer (some ⟨g, j, none⟩))) (hb : w.heap[g]? = some (.cells c e fz)) (hc : c.toList[j]? = some v) : Yd P f (op1 d (.load t x) ty pos af) v w :=
  Y.load1 hx (by rw [cell_row (off := 0) hb]; simpa using hc)

theorem RW.loadN {t : TypeId} {n : Nat} [h : Many P t n] {x : Operand} {a : Addr} {cs : List Value} (hx : f.ev x = some (.pointer (some a))) (hl : cs.length = n) (hc : ∀ j v, cs[j]? = some v → w.cell? (a.add j) = some v) (hd : Nat.blt d f.n = true) (k : RW M P ops Q rest (f.put d (.agg cs.toArray)) w) :
    RW M P ops Q (op1 d (.load t x) ty pos af :: rest) f w :=
  RW.val rfl rfl hd (fun a' ha => by
    have hr := run_loadCells_list (P := P) w a cs hc
    rw [hl] at hr
    simp [execOp, ha.eval hx, Instr.loadAt, Instr.sureAddr, loadVar, h.agg, h.size, hr]) k

theorem heap_setCell_same {w : World} {g j : Nat} {c : Array Value} {e : TypeId} {fz : Nat × Nat} (h : w.heap[g]? = some (.cells c e fz)) (v : Value) : (w.setCell ⟨g, j, none⟩ v).heap[g]? = some (.cells (c.setIfInBounds j v) e fz) := by
  simp [World.setCell, Array.getElem?_modify, h]

theorem frozen_row {w : World} {g j : Nat} {c : Array Value} {e : TypeId} (h : w.heap[g]? = some (.cells c e (0, 0))) : w.frozen? ⟨g, j, none⟩ = false := by
  simp [World.frozen?, h]

/-- A store of a value of n cells into a known block. -/
theorem RW.storeN {t : TypeId} {x y : Operand} {g j n : Nat} {u : Value} {c : Array Value} {e : TypeId} (hsz : ∀ w, (sizeOf t).run P w = .ok n w) (hx : f.ev x = some (.pointer (some ⟨g, j, none⟩))) (hy : f.ev y = some u) (hu : u.cells.size = n) (h1 : ∀ z ∈ u.cells.toList, z.oneCell' = true)
    (hb : w.heap[g]? = some (.cells c e (0, 0))) (hj : j + n ≤ c.size)
    (k : ∀ w', w'.heap[g]? = some (.cells (c.toList.take j ++ u.cells.toList ++ c.toList.drop (j + n)).toArray e (0, 0)) → Kept (fun k => k = g) w w' → RW M P ops Q rest f w') : RW M P ops Q (op0 (.store t x y) ty pos af :: rest) f w := by
  have hst := run_storeCells_at P g j e u.cells.toList 0 c w hb (by simp [hu]; omega) h1
  simp only [Nat.add_zero, Array.length_toList, hu] at hst
  refine RW.act rfl rfl (fun a ha => ?_) (k _ (setRow_heap w g c _ e (0, 0) hb) (Kept.setRow w g _))
  simp [execOp, ha.eval hx, ha.eval hy, Instr.storeAt, Instr.sureAddr, storeVar, hsz, hu, hst]

theorem take_set_drop (l : List Value) (j : Nat) (u : Value) (h : j < l.length) : l.take j ++ [u] ++ l.drop (j + 1) = l.set j u := by
  rw [List.set_eq_take_append_cons_drop, if_pos h]; simp

theorem RW.storeB {t : TypeId} [h : One P t] {x y : Operand} {g j : Nat} {u : Value} {c : Array Value} {e : TypeId} (hx : f.ev x = some (.pointer (some ⟨g, j, none⟩))) (hy : f.ev y = some u) (h1 : u.oneCell' = true) (hb : w.heap[g]? = some (.cells c e (0, 0))) (hj : j < c.size)
    (k : ∀ w', w'.heap[g]? = some (.cells (c.setIfInBounds j u) e (0, 0)) → Kept (fun k => k = g) w w' → RW M P ops Q rest f w') : RW M P ops Q (op0 (.store t x y) ty pos af :: rest) f w := by
  have hcs : u.cells = #[u] := by cases u <;> first | rfl | cases h1
  refine RW.storeN h.size hx hy (by rw [hcs]; rfl) (by rw [hcs]; simpa using h1) hb (by omega) fun w' hw => k w' ?_
  rw [hw, hcs]
  have := take_set_drop c.toList j u (by simpa using hj)
  simp only [List.toList_toArray] at *
  rw [show ([u] : List Value) = [u] from rfl, this]
  congr 2
  apply Array.ext'
  simp

theorem Y.fieldAddr {s off ft : TypeId} {i : Nat} [h : Fld P s i off ft] {z : Value} {sz b : Nat} [h2 : Inf P ft z sz b] {x : Operand} {g o : Nat} (hx : f.ev x = some (.pointer (some ⟨g, o, none⟩))) (hz : Nat.beq sz 0 = false) : Yd P f (op1 d (.fieldAddr s x i) ty pos af) (.pointer (some ⟨g, o + off, none⟩)) w := by
  intro a ha
  obtain ⟨fs, fd, hs, hi, ho, hf⟩ := h.out
  have hz' : sz ≠ 0 := fun c => by subst c; simp at hz
  have h3 := run_sizeOf (P := P) (t := ft) w
  simp [execOp, ha.eval hx, Instr.fieldAt, run_underlying hs, hi, Instr.sureAddr, fieldPlace, hf, h3, hz', addr_add, ho]

/-- A new variable. -/
theorem RW.alloc {t : TypeId} {z : Value} {sz b : Nat} [h : Inf P t z sz b] (hd : Nat.blt d f.n = true)
    (k : ∀ w', w'.heap[w.heap.size]? = some (.cells z.cells t (0, 0)) → K0 w w' → w.heap.size < w'.heap.size → RW M P ops Q rest (f.put d (.pointer (some ⟨w.heap.size, 0, none⟩))) w') : RW M P ops Q (op1 d (.alloc t) ty pos af :: rest) f w := by
  refine RW.val rfl rfl hd (fun a ha => ?_) (k (w.alloc (.cells z.cells t)) (heap_alloc_new w _) (Kept.alloc w _) (by simp))
  have h3 := run_zeroValue (P := P) (t := t) w
  simp [execOp, Instr.alloc, h3, newVar, newRow, newObj, Sem.run]
theorem RW.box {t : TypeId} {x : Operand} {v : Value} (hx : f.ev x = some v) (hd : Nat.blt d f.n = true)
    (k : ∀ w', w'.heap[w.heap.size]? = some (.cells v.cells t (0, 0)) → K0 w w' → w.heap.size < w'.heap.size → RW M P ops Q rest (f.put d (.pointer (some ⟨w.heap.size, 0, none⟩))) w') : RW M P ops Q (op1 d (.box t x) ty pos af :: rest) f w := by
  refine RW.val rfl rfl hd (fun a ha => ?_) (k (w.alloc (.cells v.cells t)) (heap_alloc_new w _) (Kept.alloc w _) (by simp))
  simp [execOp, ha.eval hx, Instr.box, newVar, newRow, newObj, Sem.run]
end
end Go.Proofs.YteihfeghbpklkaaDoor.H
