/-
  append to a slice that is full, whosever it is; a slice cut off at its length.
-/
import Derived.Test.YteihfeghbpklkaaDoorH11
namespace Go.Proofs.YteihfeghbpklkaaDoor.H
open Go.RowKit
section
variable {M : Option (Option Nat)} {P : Program} {ops : Array Oper} {Q : Post} {rest : List Oper} {f : Fr} {w : World} {d : Nat} {ty : TypeId} {pos : String} {af : Array Edge}

theorem run_appc {t u e : TypeId} {z : Value} {sz b : Nat} [ht : Und P t (.slice e)] [hi : Inf P e z sz b] (hz : z.cells.size = sz) (hsz : 0 < sz) {p : Option Addr} {n : Nat} {xs : List Value} (hs : Sl w sz (.slice p n n) n xs)
    {vx : Value} {m : Nat} {news : List Value} (hm : 0 < m) (hsrc : Sl w sz vx m news) (h1 : ∀ u ∈ news, u.oneCell' = true) (h63 : n + m ≤ maxLen) (hbytes : (n + m) * b ≤ 140737488355328) :
    ∃ v' w', (Builtin.append_ #[t, t] u #[.slice p n n, vx]).run P w = .ok v' w' ∧ w'.ownsRow w.heap.size e sz v' (n + m) (xs ++ news) ∧ K0 w w' := by
  cases p with
  | none =>
    have hn : n = 0 := by
      rcases hs.2.2 with ⟨p, h, _⟩ | ⟨g, off, cap, cur, e', fz, h, _⟩
      · cases h; rfl
      · cases h
    subst hn
    have hx : xs = [] := List.eq_nil_of_length_eq_zero (by simpa using hs.1)
    subst hx
    obtain ⟨v', w', h, h2, h3, _⟩ := run_app (P := P) (t := t) (u := u) w.heap.size hz hsz (World.ownsRow_nil w w.heap.size e sz) hsrc h1 h63 hbytes (Nat.le_refl _)
    exact ⟨v', w', h, h2, (Kept.of_grown h3).mono fun k hk => by cases hk⟩
  | some a0 =>
    have hi' := hi.out
    have h63' : n + m ≤ 9223372036854775807 := by simpa [maxLen] using h63
    cases hinf : P.info? e with
    | none => simp [hinf] at hi'
    | some i =>
      simp only [hinf, Option.map_some, Option.some.injEq, Prod.mk.injEq] at hi'
      obtain ⟨hz', hs', hb'⟩ := hi'
      have ho : ∀ j y, xs[j]? = some y → w.cell? (a0.add j) = some y := fun j y hy => by have := hs.cell hy; simpa [Value.spot] using this
      have key : ∃ a cap, vx = .slice (some a) m cap ∧ ∀ j y, news[j]? = some y → w.cell? (a.add j) = some y := by
        rcases hsrc.2.2 with ⟨p, rfl, rfl⟩ | ⟨g, off, cap, cur, e', fz, rfl, hg, hn, hm, ho, htk⟩
        · omega
        · exact ⟨_, cap, rfl, fun j y hy => by have := hsrc.cell hy; simpa [Value.spot] using this⟩
      obtain ⟨a, cap, rfl, hcells⟩ := key
      have hr := run_append_grow (P := P) w t u e i z ht.out hinf hz' a0 n n xs (by rw [hs']; exact hs.1) ho a m cap news (by rw [hs']; exact hsrc.1) hcells (by omega) (by omega) (growslice_fits (by omega) (by rw [hb']; exact hbytes))
      have hge := grownCap_ge w (n + m) n e
      have hcm : grownCap w (n + m) n e ≤ maxLen := grownCap_le_maxLen w (n + m) n e h63
      have hlen : (xs ++ news).length = (n + m) * sz := by rw [List.length_append, hs.1, hsrc.1, Nat.add_mul]
      refine ⟨_, _, hr, ⟨hlen, .inr ⟨w.heap.size, _, _, rfl, Nat.le_refl _, heap_alloc_new w.drew _, hge, hcm, ?_, ?_⟩⟩, ⟨rfl, rfl, rfl, by simp, fun k hk _ => heap_alloc_old w.drew _ hk⟩⟩
      · simp only [Array.size_append, List.size_toArray, size_zeroCells, hz, hs.1, hsrc.1, ← Nat.add_mul]
        congr 1
        omega
      · simp only [Array.toList_append, List.append_assoc]
        rw [← List.append_assoc, ← hlen]
        exact List.take_left

/-- What append may go on from: a row of the call's own, or a slice that is full. row: the block that may be written. -/
def Ap (w : World) (base : Nat) (e : TypeId) (sz : Nat) (v : Value) (n : Nat) (xs : List Value) (row : Option Nat) : Prop :=
  (w.ownsRow base e sz v n xs ∧ row = v.ownBlock) ∨ (Sl w sz v n xs ∧ (∃ p, v = .slice p n n) ∧ row = none)
def LiesR (w : World) (row : Option Nat) (v' : Value) : Prop := ∀ g, v'.ownBlock = some g → row = some g ∨ w.heap.size ≤ g
theorem Ap.own {base : Nat} {e : TypeId} {sz : Nat} {v : Value} {n : Nat} {xs : List Value} (h : w.ownsRow base e sz v n xs) : Ap w base e sz v n xs v.ownBlock := .inl ⟨h, rfl⟩
theorem Ap.sl {base : Nat} {e : TypeId} {sz : Nat} {v : Value} {n : Nat} {xs : List Value} {row : Option Nat} (h : Ap w base e sz v n xs row) : Sl w sz v n xs := by
  rcases h with ⟨h, _⟩ | ⟨h, _⟩
  · exact Sl.of_own h
  · exact h
theorem Ap.keep0 {w' : World} {base : Nat} {e : TypeId} {sz : Nat} {v : Value} {n : Nat} {xs : List Value} {row : Option Nat} (h : Ap w base e sz v n xs row) (k : K0 w w') : Ap w' base e sz v n xs row := by
  rcases h with ⟨h, r⟩ | ⟨h, r⟩
  · exact .inl ⟨own_kept0 h k, r⟩
  · exact .inr ⟨h.keep0 k, r⟩
theorem LiesR.own {v v' : Value} (h : Lies w v v') : LiesR w v.ownBlock v' := h

theorem run_apA {t u e : TypeId} {z : Value} {sz b : Nat} [ht : Und P t (.slice e)] [hi : Inf P e z sz b] (base : Nat) (hz : z.cells.size = sz) (hsz : 0 < sz) {v : Value} {n : Nat} {xs : List Value} {row : Option Nat} (hown : Ap w base e sz v n xs row)
    {vx : Value} {m : Nat} {news : List Value} (hm : 0 < m) (hsrc : Sl w sz vx m news) (h1 : ∀ u ∈ news, u.oneCell' = true) (h63 : n + m ≤ maxLen) (hbytes : (n + m) * b ≤ 140737488355328) (hbase : base ≤ w.heap.size) :
    ∃ v' w', (Builtin.append_ #[t, t] u #[v, vx]).run P w = .ok v' w' ∧ w'.ownsRow base e sz v' (n + m) (xs ++ news) ∧ Kept (fun k => row = some k) w w' ∧ LiesR w row v' := by
  rcases hown with ⟨h, rfl⟩ | ⟨h, ⟨p, rfl⟩, rfl⟩
  · obtain ⟨v', w', h1, h2, h3, h4⟩ := run_app (P := P) (t := t) (u := u) base hz hsz h hsrc h1 h63 hbytes hbase
    exact ⟨v', w', h1, h2, Kept.of_grown h3, h4⟩
  · obtain ⟨v', w', h1, h2, h3⟩ := run_appc (P := P) (t := t) (u := u) hz hsz h hm hsrc h1 h63 hbytes
    exact ⟨v', w', h1, own_base h2 fun g hg => Nat.le_trans hbase (h2.lt g hg).1, Kept.of0 h3, fun g hg => .inr (h2.lt g hg).1⟩

/-- append of one element, written out: the literal and the append together. -/
theorem RW.appA1 {t e ty1 : TypeId} {d1 : Nat} {pos1 : String} {af1 : Array Edge} {z : Value} {sz b : Nat} [ht : Und P t (.slice e)] [hi : Inf P e z sz b] {s x : Operand} {v u : Value} (hx : f.ev x = some u) (hs : (f.put d1 (.slice (some ⟨w.heap.size, 0, none⟩) 1 1)).ev s = some v) (hd1 : Nat.blt d1 f.n = true) (hd : Nat.blt d f.n = true)
    {base : Nat} {n : Nat} {xs : List Value} {row : Option Nat} (hown : Ap w base e sz v n xs row) (hz : z.cells.size = sz) (hu : u.cells.size = sz) (hsz : Nat.blt 0 sz = true) (hsz2 : Nat.ble sz 65536 = true) (h1 : ∀ y ∈ u.cells.toList, y.oneCell' = true) (hbase : base ≤ w.heap.size) (hbytes : (n + 1) * b ≤ 140737488355328) (h63 : n + 1 ≤ 9223372036854775807)
    (k : ∀ v' w', w'.ownsRow base e sz v' (n + 1) (xs ++ u.cells.toList) → Kept (fun k => row = some k) w w' → LiesR w row v' → RW M P ops Q rest ((f.put d1 (.slice (some ⟨w.heap.size, 0, none⟩) 1 1)).put d v') w') :
    RW M P ops Q (op1 d1 (.buildSlice t 1 #[(0, x)]) ty1 pos1 af1 :: op1 d (.call { callee := .builtin .append, args := #[s, .tmp d1], argTypes := #[t, t] }) ty pos af :: rest) f w := by
  refine RW.build1 hx hu (by have := ble_le hsz2; simp [Nat.ble_eq]; omega) hd1 fun w1 hb hk hlt => ?_
  have hsl := Sl.of_own (own_new (sz := sz) (base := 0) hb (Nat.zero_le _) (n := 1) (by simpa using hu) (by simp [maxLen]))
  have hevx : (f.put d1 (.slice (some ⟨w.heap.size, 0, none⟩) 1 1)).ev (.tmp d1) = some (.slice (some ⟨w.heap.size, 0, none⟩) 1 1) := by simp [Fr.ev, Fr.put, look]
  obtain ⟨v', w', hr, h2, h3, h4⟩ := run_apA (P := P) (t := t) (u := ty) base hz (blt_lt hsz) (hown.keep0 hk) (by omega) hsl h1 (by simpa [maxLen] using h63) hbytes (by omega)
  refine RW.val rfl rfl hd (fun a ha => ?_) (k v' w' h2 ((Kept.of0 hk).trans h3 fun _ c => .inl c) fun g hg => (h4 g hg).imp id fun h => by have := hk.size; omega)
  simp [execOp, resolve, invoke, builtin, ha.eval hs, ha.eval hevx, hr]

/-- x[:i:i], i the length -/
theorem Y.full {t e : TypeId} {z : Value} {sz b : Nat} [ht : Und P t (.slice e)] [Inf P e z sz b] {x y y2 : Operand} {k k2 : IntKind} {p : Option Addr} {n cap : Nat} (hx : f.ev x = some (.slice p n cap)) (hy : f.ev y = some (.int k (n : Int))) (hy2 : f.ev y2 = some (.int k2 (n : Int))) (hc : n ≤ cap) :
    Yd P f (op1 d (.slice t x none (some y) (some y2)) ty pos af) (.slice p n n) w := by
  intro a ha
  have hsz := run_sizeOf (P := P) (t := e) w
  have e1 : ∀ k, (Instr.sliceBound (.int k (n : Int)) cap .slice3Acap).run P w = .ok n w := fun k => by have := run_sliceBound (P := P) (w := w) k n cap .slice3Acap (by omega) (by omega); simpa using this
  have e2 : ∀ k, (Instr.sliceBound (.int k (n : Int)) n .slice3B).run P w = .ok n w := fun k => by have := run_sliceBound (P := P) (w := w) k n n .slice3B (by omega) (by omega); simpa using this
  cases p <;> simp [execOp, ha.eval hx, ha.eval hy, ha.eval hy2, Instr.sliceAt, Instr.slice, run_underlying ht.out, Instr.sliceBounds, hsz, e1, e2, Addr.add]
theorem Sl.full {p : Option Addr} {n cap sz : Nat} {xs : List Value} (h : Sl w sz (.slice p n cap) n xs) : Sl w sz (.slice p n n) n xs := by
  refine ⟨h.1, h.2.1, ?_⟩
  rcases h.2.2 with ⟨q, hv, rfl⟩ | ⟨g, off, cap, cur, e, fz, hv, hg, hn, hm, ho, ht⟩
  · cases hv; exact .inl ⟨_, rfl, rfl⟩
  · cases hv
    have : n * sz ≤ cap * sz := Nat.mul_le_mul_right _ hn
    exact .inr ⟨g, off, n, cur, e, fz, rfl, hg, Nat.le_refl _, h.2.1, by omega, ht⟩
end
end Go.Proofs.YteihfeghbpklkaaDoor.H
