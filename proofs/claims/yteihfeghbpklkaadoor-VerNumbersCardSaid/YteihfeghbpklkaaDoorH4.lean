/-
  The rules of slices: literals, append, reslicing; texts cut and turned into bytes and back; calls.
-/
import Derived.Test.YteihfeghbpklkaaDoorH3
namespace Go.Proofs.YteihfeghbpklkaaDoor.H
open Go.RowKit

theorem foldl_set (l : List Value) (off : Nat) : ∀ (i : Nat) (cs : Array Value), off + i + l.length ≤ cs.size →
    ((l.zipIdx i).foldl (fun cs p => cs.setIfInBounds (off + p.2) p.1) cs).toList = cs.toList.take (off + i) ++ l ++ cs.toList.drop (off + i + l.length) := by
  induction l with
  | nil => intro i cs _; simp
  | cons v r ih =>
    intro i cs h
    simp only [List.length_cons] at h
    simp only [List.zipIdx_cons, List.foldl_cons]
    rw [ih (i + 1) _ (by simp; omega)]
    have e := list_seg_step cs.toList (off + i) v r (by simp; omega)
    simpa [Array.toList_setIfInBounds, Nat.add_assoc] using e

theorem fill_one (sz off : Nat) (place : Nat → Option (Nat × Nat)) (i : Nat) (v : Value) (cells : Array Value) (rest : List (Nat × Value)) (hp : place i = some (off, sz)) (hv : v.cells.size = sz) (hc : off + sz ≤ cells.size) :
    Instr.fill place cells ((i, v) :: rest) = Instr.fill place (cells.toList.take off ++ v.cells.toList ++ cells.toList.drop (off + sz)).toArray rest := by
  conv => lhs; unfold Instr.fill
  simp only [hp, hv]
  rw [if_neg (by simp; omega)]
  congr 1
  apply Array.ext'
  have := foldl_set v.cells.toList off 0 cells (by simp [hv]; omega)
  simp only [Nat.add_zero, Array.length_toList, hv] at this
  rw [← Array.foldl_toList]
  simp only [Array.toList_zipIdx, List.toList_toArray]
  exact this

def catCells (vs : List Value) : List Value := vs.flatMap fun v => v.cells.toList

theorem fill_all (sz : Nat) (hsz : ∀ n : Nat, True) : ∀ (vs : List Value) (k : Nat) (cells : Array Value), (∀ v ∈ vs, v.cells.size = sz) → cells.size = (k + vs.length) * sz →
    Instr.fill (fun i => some (i * sz, sz)) cells ((vs.zipIdx k).map fun p => (p.2, p.1)) = some (cells.toList.take (k * sz) ++ catCells vs).toArray := by
  intro vs
  induction vs with
  | nil =>
    intro k cells _ hc
    simp only [List.zipIdx_nil, List.map_nil, Instr.fill, catCells, List.flatMap_nil, List.append_nil]
    rw [List.take_of_length_le (by simp at hc ⊢; omega)]
  | cons v r ih =>
    intro k cells hv hc
    have h0 := hv v (by simp)
    have hmul : (k + (v :: r).length) * sz = k * sz + sz + r.length * sz := by
      simp only [List.length_cons]; rw [Nat.add_mul, Nat.add_mul]; omega
    simp only [List.zipIdx_cons, List.map_cons]
    rw [fill_one sz (k * sz) _ k v cells _ rfl h0 (by omega)]
    rw [ih (k + 1) _ (fun x hx => hv x (by simp [hx])) ?_]
    · congr 2
      simp only [catCells, List.flatMap_cons, ← List.append_assoc]
      congr 1
      rw [List.take_append_of_le_length (by simp [h0]; rw [Nat.add_mul]; omega), List.take_of_length_le (by simp [h0]; rw [Nat.add_mul]; omega)]
    · simp [h0]; rw [Nat.add_mul, Nat.add_mul]; omega

section
variable {M : Option (Option Nat)} {P : Program} {ops : Array Oper} {Q : Post} {rest : List Oper} {f : Fr} {w : World} {d : Nat} {ty : TypeId} {pos : String} {af : Array Edge}

theorem run_buildSlice {t e : TypeId} {z : Value} {sz b : Nat} [ht : Und P t (.slice e)] [Inf P e z sz b] (vs : List Value) (parts : Array (Nat × Value)) (hp : parts.toList = (vs.zipIdx 0).map fun p => (p.2, p.1)) (hv : ∀ v ∈ vs, v.cells.size = sz) (hs : vs.length * sz ≤ 16777216) :
    (Instr.buildSlice t vs.length parts).run P w = .ok (.slice (some ⟨w.heap.size, 0, none⟩) vs.length vs.length) (w.alloc (.cells (catCells vs).toArray e)) := by
  have h1 := run_sizeOf (P := P) (t := e) w
  have h2 := run_zeroValue (P := P) (t := e) w
  have hf := fun cells hc => fill_all sz (fun _ => trivial) vs 0 cells hv hc
  simp only [Nat.zero_mul, List.take_zero, List.nil_append, Nat.zero_add] at hf
  by_cases h0 : vs.length * sz = 0
  · simp [Instr.buildSlice, run_underlying ht.out, h1, h0, hp, hf, newRow, newObj, Sem.run]
  · have hbig : ¬ (2 : Nat) ^ 24 < vs.length * sz := by simp only [show (2:Nat)^24 = 16777216 from rfl]; omega
    simp only [Instr.buildSlice, Sem.run_bind, run_underlying ht.out, h1, Result.andThen_ok, if_neg h0, if_neg (show ¬ (vs.length * sz > 2 ^ 24) from hbig), h2, Sem.run_pure, hp]
    rw [hf _ (by simp)]
    simp [newRow, newObj, Sem.run]

/-- A slice literal. -/
theorem RW.build1 {t e : TypeId} {z : Value} {sz b : Nat} [ht : Und P t (.slice e)] [Inf P e z sz b] {x : Operand} {v : Value} (hx : f.ev x = some v) (hv : v.cells.size = sz) (hs : Nat.ble sz 16777216 = true) (hd : Nat.blt d f.n = true)
    (k : ∀ w', w'.heap[w.heap.size]? = some (.cells v.cells e (0, 0)) → K0 w w' → w.heap.size < w'.heap.size → RW M P ops Q rest (f.put d (.slice (some ⟨w.heap.size, 0, none⟩) 1 1)) w') : RW M P ops Q (op1 d (.buildSlice t 1 #[(0, x)]) ty pos af :: rest) f w := by
  refine RW.val rfl rfl hd (fun a ha => ?_) (k (w.alloc (.cells v.cells e)) (heap_alloc_new w _) (Kept.alloc w _) (by simp))
  have := run_buildSlice (P := P) (w := w) (t := t) (z := z) [v] #[(0, v)] rfl (by simpa using hv) (by simpa using ble_le hs)
  simp only [List.length_singleton, catCells, List.flatMap_cons, List.flatMap_nil, List.append_nil, Array.toArray_toList] at this
  simp [execOp, ha.eval hx, this]
theorem RW.build0 {t e : TypeId} {z : Value} {sz b : Nat} [ht : Und P t (.slice e)] [Inf P e z sz b] (hd : Nat.blt d f.n = true)
    (k : ∀ w', w'.heap[w.heap.size]? = some (.cells #[] e (0, 0)) → K0 w w' → w.heap.size < w'.heap.size → RW M P ops Q rest (f.put d (.slice (some ⟨w.heap.size, 0, none⟩) 0 0)) w') : RW M P ops Q (op1 d (.buildSlice t 0 #[]) ty pos af :: rest) f w := by
  refine RW.val rfl rfl hd (fun a ha => ?_) (k (w.alloc (.cells #[] e)) (heap_alloc_new w _) (Kept.alloc w _) (by simp))
  have := run_buildSlice (P := P) (w := w) (t := t) (z := z) [] #[] rfl (by simp) (by simp)
  simp only [List.length_nil, catCells, List.flatMap_nil] at this
  simp [execOp, this]
theorem RW.build2 {t e : TypeId} {z : Value} {sz b : Nat} [ht : Und P t (.slice e)] [Inf P e z sz b] {x y : Operand} {u v : Value} (hx : f.ev x = some u) (hy : f.ev y = some v) (hu : u.cells.size = sz) (hv : v.cells.size = sz) (hs : Nat.ble (2 * sz) 16777216 = true) (hd : Nat.blt d f.n = true)
    (k : ∀ w', w'.heap[w.heap.size]? = some (.cells (u.cells.toList ++ v.cells.toList).toArray e (0, 0)) → K0 w w' → w.heap.size < w'.heap.size → RW M P ops Q rest (f.put d (.slice (some ⟨w.heap.size, 0, none⟩) 2 2)) w') : RW M P ops Q (op1 d (.buildSlice t 2 #[(0, x), (1, y)]) ty pos af :: rest) f w := by
  refine RW.val rfl rfl hd (fun a ha => ?_) (k (w.alloc (.cells _ e)) (heap_alloc_new w _) (Kept.alloc w _) (by simp))
  have := run_buildSlice (P := P) (w := w) (t := t) (z := z) [u, v] #[(0, u), (1, v)] rfl (by simp [hu, hv]) (by simpa using ble_le hs)
  simp only [List.length_cons, List.length_nil, catCells, List.flatMap_cons, List.flatMap_nil, List.append_nil] at this
  simp [execOp, ha.eval hx, ha.eval hy, this]

/-- What a new block is to who made it. -/
theorem own_new {w : World} {g : Nat} {c : Array Value} {e : TypeId} (h : w.heap[g]? = some (.cells c e (0, 0))) {n sz base : Nat} (hb : base ≤ g) (hn : c.size = n * sz) (hm : n ≤ maxLen) : w.ownsRow base e sz (.slice (some ⟨g, 0, none⟩) n n) n c.toList :=
  ⟨by simpa using hn, .inr ⟨g, n, c, rfl, hb, h, Nat.le_refl _, hm, hn, List.take_of_length_le (by simp; omega)⟩⟩

theorem own_kept {S : Nat → Prop} {w w' : World} {base : Nat} {e : TypeId} {sz : Nat} {v : Value} {n : Nat} {xs : List Value} (h : w.ownsRow base e sz v n xs) (k : Kept S w w') (hn : ∀ g, v.ownBlock = some g → ¬ S g) : w'.ownsRow base e sz v n xs := by
  refine ⟨h.1, ?_⟩
  rcases h.2 with h | ⟨g, cap, cur, rfl, hb, hg, r⟩
  · exact .inl h
  · exact .inr ⟨g, cap, cur, rfl, hb, k.at hg (hn g rfl), r⟩
theorem own_kept0 {w w' : World} {base : Nat} {e : TypeId} {sz : Nat} {v : Value} {n : Nat} {xs : List Value} (h : w.ownsRow base e sz v n xs) (k : K0 w w') : w'.ownsRow base e sz v n xs := own_kept h k fun _ _ c => c
theorem own_base {w : World} {base base' : Nat} {e : TypeId} {sz : Nat} {v : Value} {n : Nat} {xs : List Value} (h : w.ownsRow base e sz v n xs) (hb : ∀ g, v.ownBlock = some g → base' ≤ g) : w.ownsRow base' e sz v n xs := by
  refine ⟨h.1, ?_⟩
  rcases h.2 with h | ⟨g, cap, cur, rfl, _, r⟩
  · exact .inl h
  · exact .inr ⟨g, cap, cur, rfl, hb g rfl, r⟩

/-- Where the row of an appended slice lies: where it lay, or in a new block. -/
def Lies (w : World) (v v' : Value) : Prop := ∀ g, v'.ownBlock = some g → v.ownBlock = some g ∨ w.heap.size ≤ g

theorem run_app {t u e : TypeId} {z : Value} {sz b : Nat} [ht : Und P t (.slice e)] [hi : Inf P e z sz b] (base : Nat) (hz : z.cells.size = sz) (hsz : 0 < sz) {v : Value} {n : Nat} {xs : List Value} (hown : w.ownsRow base e sz v n xs)
    {vx : Value} {m : Nat} {news : List Value} (hsrc : Sl w sz vx m news) (h1 : ∀ u ∈ news, u.oneCell' = true) (h63 : n + m ≤ maxLen) (hbytes : (n + m) * b ≤ 140737488355328) (hbase : base ≤ w.heap.size) :
    ∃ v' w', (Builtin.append_ #[t, t] u #[v, vx]).run P w = .ok v' w' ∧ w'.ownsRow base e sz v' (n + m) (xs ++ news) ∧ w.grownBy w' v.ownBlock ∧ Lies w v v' := by
  have hi' := hi.out
  have h63' : n + m ≤ 9223372036854775807 := by simpa [maxLen] using h63
  cases hinf : P.info? e with
  | none => simp [hinf] at hi'
  | some i =>
    simp only [hinf, Option.map_some, Option.some.injEq, Prod.mk.injEq] at hi'
    obtain ⟨hz', hs', hb'⟩ := hi'
    have key : (vx = .slice none 0 0 ∧ m = 0) ∨ ∃ a cap, vx = .slice (some a) m cap ∧ ∀ j y, news[j]? = some y → w.cell? (a.add j) = some y := by
      rcases hsrc.2.2 with ⟨p, rfl, rfl⟩ | ⟨g, off, cap, cur, e', fz, rfl, hg, hn, hm, ho, htk⟩
      · have hx : news = [] := List.eq_nil_of_length_eq_zero (by simpa using hsrc.1)
        subst hx
        cases p with
        | none => exact .inl ⟨rfl, rfl⟩
        | some a => exact .inr ⟨a, 0, rfl, fun j y hy => by simp at hy⟩
      · exact .inr ⟨_, cap, rfl, fun j y hy => by have := hsrc.cell hy; simpa [Value.spot] using this⟩
    rcases key with ⟨rfl, rfl⟩ | ⟨a, cap, rfl, hcells⟩
    · have hx : news = [] := List.eq_nil_of_length_eq_zero (by simpa using hsrc.1)
      subst hx
      exact ⟨v, w, run_append_owned_none w base t u e i sz ht.out hinf v n xs hown, by simpa using hown, ⟨rfl, rfl, rfl, Nat.le_refl _, fun _ _ _ => rfl⟩, fun g h => .inl h⟩
    · rcases hown.2 with ⟨rfl, rfl⟩ | ⟨g0, cap0, cur0, rfl, hb0, hg0, hn0, hm0, hs0, ht0⟩
      · have hxs : xs = [] := List.eq_nil_of_length_eq_zero (by simpa using hown.1)
        subst hxs
        obtain ⟨v', w', h, h2, h3, _⟩ := run_append_own (P := P) w w.heap.size t u e i z sz b ht.out hinf hz' hs' hb' hz hsz _ 0 [] (World.ownsRow_nil _ _ _ _) a m cap news hsrc.1 hcells h1 h63 hbytes (Nat.le_refl _)
        exact ⟨v', w', h, own_base h2 fun k hk => Nat.le_trans hbase (h2.lt k hk).1, h3, fun k hk => .inr (h2.lt k hk).1⟩
      · by_cases hroom : n + m ≤ cap0
        · obtain ⟨w', h, h2, h3⟩ := run_append_fits (P := P) w base t u e i sz ht.out hinf hs' g0 n cap0 xs hown a m cap news hsrc.1 hcells h1 hroom
          exact ⟨_, w', h, h2, h3, fun k hk => .inl hk⟩
        · obtain ⟨v', w', h, h2, h3, _⟩ := run_append_own (P := P) w base t u e i z sz b ht.out hinf hz' hs' hb' hz hsz _ n xs hown a m cap news hsrc.1 hcells h1 h63 hbytes hbase
          have h4 := run_append_grow (P := P) w t u e i z ht.out hinf hz' ⟨g0, 0, none⟩ n cap0 xs (by rw [hs']; exact hown.1) (hown.cells (g := g0) rfl) a m cap news (by rw [hs']; exact hsrc.1) hcells (by omega) (by omega) (growslice_fits (by omega) (by rw [hb']; exact hbytes))
          have h5 := h.symm.trans h4
          simp only [Result.ok.injEq] at h5
          refine ⟨v', w', h, h2, h3, fun k hk => .inr ?_⟩
          rw [h5.1] at hk
          simp only [Value.ownBlock, Option.some.injEq] at hk
          omega

theorem run_apps {t u ty e : TypeId} [ht : Und P t (.slice e)] [hi : Inf P e (.int .u8 0) 1 1] [hu : Und P u .string] (base : Nat) {v : Value} {n : Nat} {xs : List Value} (hown : w.ownsRow base e 1 v n xs) (l : List UInt8) (h63 : n + l.length ≤ 140737488355328) (hbase : base ≤ w.heap.size) :
    ∃ v' w', (Builtin.append_ #[t, u] ty #[v, .string (B l)]).run P w = .ok v' w' ∧ w'.ownsRow base e 1 v' (n + l.length) (xs ++ l.map fun b => Value.int .u8 (b.toNat : Int)) ∧ w.grownBy w' v.ownBlock ∧ Lies w v v' := by
  have hi' := hi.out
  cases hinf : P.info? e with
  | none => simp [hinf] at hi'
  | some i =>
    simp only [hinf, Option.map_some, Option.some.injEq, Prod.mk.injEq] at hi'
    obtain ⟨hz', hs', hb'⟩ := hi'
    have hsz : (B l).size = l.length := B_size l
    have hml : ∀ x : Nat, x ≤ 140737488355328 → x ≤ maxLen := fun x hx => by simp only [maxLen]; omega
    rcases hown.2 with ⟨rfl, rfl⟩ | ⟨g0, cap0, cur0, rfl, hb0, hg0, hn0, hm0, hs0, ht0⟩
    · have hxs : xs = [] := List.eq_nil_of_length_eq_zero (by simpa using hown.1)
      subst hxs
      obtain ⟨v', w', h, h2, h3, _⟩ := Lib.run_append_own_string (P := P) (w := w) w.heap.size t u ty e i ht.out hu.out hinf hz' hs' hb' _ 0 [] (World.ownsRow_nil _ _ _ _) (B l) (by rw [hsz]; exact hml _ h63) (by rw [hsz]; exact h63) (Nat.le_refl _)
      rw [hsz] at h2
      exact ⟨v', w', h, own_base h2 fun k hk => Nat.le_trans hbase (h2.lt k hk).1, h3, fun k hk => .inr (h2.lt k hk).1⟩
    · obtain ⟨v', w', h, h2, h3, _⟩ := Lib.run_append_own_string (P := P) (w := w) base t u ty e i ht.out hu.out hinf hz' hs' hb' _ n xs hown (B l) (by rw [hsz]; exact hml _ h63) (by rw [hsz]; exact h63) hbase
      rw [hsz] at h2
      refine ⟨v', w', h, h2, h3, ?_⟩
      by_cases hroom : n + l.length ≤ cap0
      · have h4 := Lib.run_append_room_string (P := P) (w := w) t u ty e i ht.out hu.out hinf hs' g0 n cap0 cur0 hg0 (B l) (by rw [hsz]; exact hroom) (by rw [hsz, hs0]; omega)
        have h5 := h.symm.trans h4
        simp only [Result.ok.injEq] at h5
        intro k hk
        rw [h5.1] at hk
        exact .inl hk
      · have h4 := Lib.run_append_grow_string (P := P) (w := w) t u ty e i _ ht.out hu.out hinf hz' ⟨g0, 0, none⟩ n cap0 xs (by rw [hs']; exact hown.1) (hown.cells (g := g0) rfl) (B l) (by rw [hsz]; omega) (by rw [hsz]; omega) (growslice_fits (by rw [hsz]; omega) (by rw [hb', hsz]; omega))
        have h5 := h.symm.trans h4
        simp only [Result.ok.injEq] at h5
        intro k hk
        rw [h5.1] at hk
        simp only [Value.ownBlock, Option.some.injEq] at hk
        exact .inr (by omega)

/-- append to a row of the call's own, of a slice's elements. -/
theorem RW.app {t e : TypeId} {z : Value} {sz b : Nat} [ht : Und P t (.slice e)] [hi : Inf P e z sz b] {s x : Operand} {v vx : Value} (hs : f.ev s = some v) (hx : f.ev x = some vx) (hd : Nat.blt d f.n = true) {base : Nat} (hz : z.cells.size = sz) (hsz : Nat.blt 0 sz = true) {n : Nat} {xs : List Value}
    (hown : w.ownsRow base e sz v n xs) {m : Nat} {news : List Value} (hsrc : Sl w sz vx m news) (h1 : ∀ u ∈ news, u.oneCell' = true) (h63 : n + m ≤ 9223372036854775807) (hbytes : (n + m) * b ≤ 140737488355328) (hbase : base ≤ w.heap.size)
    (k : ∀ v' w', w'.ownsRow base e sz v' (n + m) (xs ++ news) → Kept (fun k => v.ownBlock = some k) w w' → Lies w v v' → RW M P ops Q rest (f.put d v') w') :
    RW M P ops Q (op1 d (.call { callee := .builtin .append, args := #[s, x], argTypes := #[t, t] }) ty pos af :: rest) f w := by
  obtain ⟨v', w', h, h2, h3, h4⟩ := run_app (P := P) (t := t) (u := ty) base hz (blt_lt hsz) hown hsrc h1 (by simpa [maxLen] using h63) hbytes hbase
  refine RW.val rfl rfl hd (fun a ha => ?_) (k v' w' h2 (Kept.of_grown h3) h4)
  simp [execOp, resolve, invoke, builtin, ha.eval hs, ha.eval hx, h]

/-- append of a text's bytes. -/
theorem RW.apps {t u e : TypeId} [ht : Und P t (.slice e)] [hi : Inf P e (.int .u8 0) 1 1] [hu : Und P u .string] {s x : Operand} {v : Value} {l : List UInt8} (hs : f.ev s = some v) (hx : f.ev x = some (.string (B l))) (hd : Nat.blt d f.n = true) {base : Nat} {n : Nat} {xs : List Value}
    (hown : w.ownsRow base e 1 v n xs) (h63 : n + l.length ≤ 140737488355328) (hbase : base ≤ w.heap.size)
    (k : ∀ v' w', w'.ownsRow base e 1 v' (n + l.length) (xs ++ l.map fun b => Value.int .u8 (b.toNat : Int)) → Kept (fun k => v.ownBlock = some k) w w' → Lies w v v' → RW M P ops Q rest (f.put d v') w') :
    RW M P ops Q (op1 d (.call { callee := .builtin .append, args := #[s, x], argTypes := #[t, u] }) ty pos af :: rest) f w := by
  obtain ⟨v', w', h, h2, h3, h4⟩ := run_apps (P := P) (t := t) (u := u) (ty := ty) base hown l h63 hbase
  refine RW.val rfl rfl hd (fun a ha => ?_) (k v' w' h2 (Kept.of_grown h3) h4)
  simp [execOp, resolve, invoke, builtin, ha.eval hs, ha.eval hx, h]

/-- append of one element, written out: the literal and the append together. -/
theorem RW.app1 {t e ty1 : TypeId} {d1 : Nat} {pos1 : String} {af1 : Array Edge} {z : Value} {sz b : Nat} [ht : Und P t (.slice e)] [hi : Inf P e z sz b] {s x : Operand} {v u : Value} (hx : f.ev x = some u) (hs : (f.put d1 (.slice (some ⟨w.heap.size, 0, none⟩) 1 1)).ev s = some v) (hd1 : Nat.blt d1 f.n = true) (hd : Nat.blt d f.n = true)
    {base : Nat} {n : Nat} {xs : List Value} (hown : w.ownsRow base e sz v n xs) (hz : z.cells.size = sz) (hu : u.cells.size = sz) (hsz : Nat.blt 0 sz = true) (hsz2 : Nat.ble sz 65536 = true) (h1 : ∀ y ∈ u.cells.toList, y.oneCell' = true) (hbase : base ≤ w.heap.size) (hbytes : (n + 1) * b ≤ 140737488355328) (h63 : n + 1 ≤ 9223372036854775807)
    (k : ∀ v' w', w'.ownsRow base e sz v' (n + 1) (xs ++ u.cells.toList) → Kept (fun k => v.ownBlock = some k) w w' → Lies w v v' → RW M P ops Q rest ((f.put d1 (.slice (some ⟨w.heap.size, 0, none⟩) 1 1)).put d v') w') :
    RW M P ops Q (op1 d1 (.buildSlice t 1 #[(0, x)]) ty1 pos1 af1 :: op1 d (.call { callee := .builtin .append, args := #[s, .tmp d1], argTypes := #[t, t] }) ty pos af :: rest) f w := by
  refine RW.build1 hx hu (by have := ble_le hsz2; simp [Nat.ble_eq]; omega) hd1 fun w1 hb hk hlt => ?_
  have hsl := Sl.of_own (own_new (sz := sz) (base := 0) hb (Nat.zero_le _) (n := 1) (by simpa using hu) (by simp [maxLen]))
  have hevx : (f.put d1 (.slice (some ⟨w.heap.size, 0, none⟩) 1 1)).ev (.tmp d1) = some (.slice (some ⟨w.heap.size, 0, none⟩) 1 1) := by simp [Fr.ev, Fr.put, look]
  refine RW.app hs hevx hd hz hsz (own_kept0 hown hk) hsl h1 h63 hbytes (by omega) fun v' w' ho hk' hl => ?_
  have hk2 : Kept (fun k => v.ownBlock = some k) w w' := (Kept.of0 hk).trans hk' fun _ c => .inl c
  exact k v' w' ho hk2 fun g hg => (hl g hg).imp id fun h => by have := hk.size; omega
end
end Go.Proofs.YteihfeghbpklkaaDoor.H
