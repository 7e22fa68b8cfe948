/-
  The program's paths: walk (a range over strings.SplitSeq), Join, Clean.
-/
import Derived.Test.YtcnmgiflogjfeaaDoorS6
import Derived.Test.YtcnmgiflogjfeaaDoorS5
import Derived.Test.YtcnmgiflogjfeaaDoorPa4
namespace Go.Proofs.YtcnmgiflogjfeaaDoor.Pa
open Go.RowKit H S
attribute [local irreducible] H.CL H.RW H.CW H.Yd H.thenK H.blockQ Go.Calls

abbrev partsT : TypeId := 29
abbrev ernT : TypeId := 23

/-- Parts of a text behind others. -/
def walkL (s : List UInt8) (base : List (List UInt8)) : Except Int (List (List UInt8)) :=
  if s.take 1 = [47] then .error 51
  else match cleanA base.length base (splitB 47 s) with
    | .error e => .error e
    | .ok out => if 12 < out.length then .error 50 else .ok out

/-- What walk's memory holds while its text is gone through. -/
structure WkI (base : List (List UInt8)) (v0 : Value) (B b2 b4 b5 b6 D : Nat) (w : World) (pre : List (List UInt8)) (out : List (List UInt8)) (v : Value) (W : World) : Prop where
  go : ∀ r, cleanA base.length base (pre ++ r) = cleanA base.length out r
  low : base.length ≤ out.length
  bd : out.length ≤ base.length + pre.length
  c2 : W.heap[b2]? = some (.cells #[v] partsT (0, 0))
  c4 : W.heap[b4]? = some (.cells #[.slice none 0 0] partsT (0, 0))
  c5 : W.heap[b5]? = some (.cells #[.int .i64 0] ernT (0, 0))
  c6 : W.heap[b6]? = some (.cells #[.int .i64 (base.length : Int)] 3 (0, 0))
  row : W.ownsRow B strT 1 v out.length (sv out)
  at' : ∀ g, v.ownBlock = some g → v0.ownBlock = some g ∨ D + 2 ≤ g
  kept : Kept (fun k => v0.ownBlock = some k) w W
structure WkX (base : List (List UInt8)) (v0 : Value) (b4 b5 : Nat) (w : World) (xs : List (List UInt8)) (e : Int) (W : World) : Prop where
  go : cleanA base.length base xs = .error e
  c4 : W.heap[b4]? = some (.cells #[.slice none 0 0] partsT (0, 0))
  c5 : W.heap[b5]? = some (.cells #[.int .i64 e] ernT (0, 0))
  kept : Kept (fun k => v0.ownBlock = some k) w W

theorem results_cell2 {P : Program} {w : World} {fn : Func} {t t2 : Tmp} {u u2 : TypeId} [h1 : One P u] [h2 : One P u2] (h : fn.results = #[.cell t u, .cell t2 u2]) {tmps : Array Value} {p p2 : Addr} {v v2 : Value} (ht : tmps.getD t undef = .pointer (some p)) (ht2 : tmps.getD t2 undef = .pointer (some p2)) (hc : w.cell? p = some v) (hc2 : w.cell? p2 = some v2) :
    (results fn tmps).run P w = .ok (.tuple #[v, v2]) w := by
  have ht' : tmps[t]?.getD undef = .pointer (some p) := by simpa using ht
  have ht2' : tmps[t2]?.getD undef = .pointer (some p2) := by simpa using ht2
  simp [results, h, ht', ht2', asAddr, loadVar, h1.agg, h2.agg, load, Sem.run, hc, hc2]

theorem cleanA_err {stay : Nat} {a : List (List UInt8)} {e : Int} : ∀ (xs : List (List UInt8)) {out : List (List UInt8)}, cleanA stay out xs = .error e → ∀ r, cleanA stay out (xs ++ r) = .error e := by
  intro xs
  induction xs with
  | nil => intro out h; cases h
  | cons p r ih =>
    intro out h r'
    rw [List.cons_append]
    simp only [cleanA] at h ⊢
    split
    · rename_i c; rw [if_pos c] at h; exact ih h r'
    · rename_i c; rw [if_neg c] at h
      split
      · rename_i c2; rw [if_pos c2] at h
        split
        · rename_i c3; rw [if_pos c3] at h; exact h
        · rename_i c3; rw [if_neg c3] at h; exact ih h r'
      · rename_i c2; rw [if_neg c2] at h
        split
        · rename_i c3; rw [if_pos c3] at h; exact h
        · rename_i c3; rw [if_neg c3] at h; exact ih h r'

theorem WkI.keep {base : List (List UInt8)} {v0 : Value} {B b2 b4 b5 b6 D : Nat} {w : World} {pre out : List (List UInt8)} {v : Value} {W W' : World} (h : WkI base v0 B b2 b4 b5 b6 D w pre out v W) {S : Nat → Prop} (k : Kept S W W')
    (hS : ∀ k, S k → w.heap.size ≤ k ∧ k ≠ b2 ∧ k ≠ b4 ∧ k ≠ b5 ∧ k ≠ b6 ∧ k < D + 2) (h0 : ∀ g, v0.ownBlock = some g → g < w.heap.size) : WkI base v0 B b2 b4 b5 b6 D w pre out v W' where
  go := h.go
  low := h.low
  bd := h.bd
  c2 := k.at h.c2 fun c => (hS _ c).2.1 rfl
  c4 := k.at h.c4 fun c => (hS _ c).2.2.1 rfl
  c5 := k.at h.c5 fun c => (hS _ c).2.2.2.1 rfl
  c6 := k.at h.c6 fun c => (hS _ c).2.2.2.2.1 rfl
  row := own_kept h.row k fun g hg c => (h.at' g hg).elim (fun e => absurd (hS g c).1 (by have := h0 g e; omega)) fun e => by have := (hS g c).2.2.2.2.2; omega
  at' := h.at'
  kept := h.kept.trans k fun k c => .inr (hS k c).1
theorem WkX.keep {base : List (List UInt8)} {v0 : Value} {b4 b5 : Nat} {w : World} {xs : List (List UInt8)} {e : Int} {W W' : World} (h : WkX base v0 b4 b5 w xs e W) {S : Nat → Prop} (k : Kept S W W')
    (hS : ∀ k, S k → w.heap.size ≤ k ∧ k ≠ b4 ∧ k ≠ b5) : WkX base v0 b4 b5 w xs e W' where
  go := h.go
  c4 := k.at h.c4 fun c => (hS _ c).2.1 rfl
  c5 := k.at h.c5 fun c => (hS _ c).2.2 rfl
  kept := h.kept.trans k fun k c => .inr (hS k c).1

set_option maxHeartbeats 2000000 in
theorem walk (base : List (List UInt8)) (s : List UInt8) (hb : base.length ≤ 1000000) (hs : s.length ≤ 1000000) (v0 : Value) (B : Nat) (w : World) (hB : B ≤ w.heap.size) (hrow : w.ownsRow B strT 1 v0 base.length (sv base)) :
    Calls Tryd.prog 29 #[v0, vs s] w fun e w' => Kept (fun k => v0.ownBlock = some k) w w' ∧ match walkL s base with
      | .error n => e = .returned (.tuple #[.slice none 0 0, .int .i64 n])
      | .ok out => ∃ v', e = .returned (.tuple #[v', .int .i64 0]) ∧ w'.ownsRow B strT 1 v' out.length (sv out) := by
  have h47 : ([47] : List UInt8).length = 1 := rfl
  have hsl0 := Sl.of_own hrow
  have h0lt := fun g h => (hrow.lt g h).2
  refine H.enterM Tryd.func29 Tryd.ntmps29 rfl rfl ?_; dsimp only [H.args]
  refine CL.seq ?_
  refine CL.region ?_
  refine RW.box rfl rfl (fun w1 hb1 hk1 hlt1 => ?_)
  refine RW.alloc rfl (fun w2 hb2 hk2 hlt2 => ?_)
  refine RW.alloc rfl (fun w3 hb3 hk3 hlt3 => ?_)
  have hb1' : w1.heap[w.heap.size]? = some (.cells #[v0] partsT (0, 0)) := by
    rcases hsl0.shape with ⟨p, cap, rfl, _⟩; exact hb1
  have hs1 := hk1.size
  have hs2 := hk2.size
  have hs3 := hk3.size
  have hc2 := hk3.at0 (hk2.at0 hb1')
  have hc4 := hk3.at0 hb2
  have hsl1 := hsl0.keep0 ((hk1.trans0 hk2).trans0 hk3)
  repeat' (first | (refine CL.seq ?_) | (refine CL.region ?_) | (refine CL.skip ?_) | (refine CL.condP rfl (fun _ => ?_) (fun _ => ?_) <;> try (exfalso; omega)) | (refine CL.condT rfl ?_) | (refine CL.condF rfl ?_) | (refine CL.cond rfl (fun _ => ?_) (fun _ => ?_)) | (refine CL.block ?_) | (refine CL.exit ?_) | (refine Ex.then ?_) | (refine Ex.hit ?_) | (refine Ex.miss rfl ?_) | (refine CL.ret ?_) | (refine Rt.then ?_) | (refine Rt.block ?_) | (refine Pn.then ?_) | (refine Pn.block ?_) | (refine CL.done ?_) | (refine Nm.block ?_) | (refine Nm.then ?_) | (refine Gt.nil ?_; refine RW.nilw [0, 1, 2, 4, 5, 6, 7, 8, 12, 14, 15, 16, 20, 26, 29, 34, 42] ?_; dsimp only [H.keep, H.look, H.Fr.put, Nat.beq]) | (refine Gt.load ?_; refine RW.y (Y.loadB rfl (by assumption) rfl) rfl ?_) | (refine Gt.move ?_; refine RW.y (Y.move rfl) rfl ?_) | (refine Gt.assign ?_; refine RW.y (Y.assign rfl) rfl ?_) | (refine Gt.len ?_; first | (refine RW.y (Y.lenv rfl) rfl ?_) | (refine RW.y (Y.lenx rfl (by assumption)) rfl ?_)) | (refine Gt.eql ?_; first | (refine RW.y (Y.eqs rfl rfl) rfl ?_) | (refine RW.y (Y.eqi rfl rfl) rfl ?_)) | (refine Gt.sub ?_; refine RW.y (Y.sub64 rfl rfl (by omega) (by omega)) rfl ?_) | (refine Gt.neq ?_; refine RW.y (Y.nei rfl rfl) rfl ?_) | (refine Gt.gtr ?_; refine RW.y (Y.gtr rfl rfl) rfl ?_))
  refine RW.alloc rfl (fun w4 hb4 hk4 hlt4 => ?_)
  refine RW.storeB rfl rfl rfl hb4 (by decide) (fun w5 hb5 hk5 => ?_)
  have hs4 := hk4.size
  have hs5 := hk5.size
  have hk05 : K0 w w5 := (((hk1.trans0 hk2).trans0 hk3).trans0 hk4).trans hk5 fun k h => .inr (by show w.heap.size ≤ k; rw [h]; show w.heap.size ≤ w3.heap.size; omega)
  have ne5 : ∀ {k}, k < w3.heap.size → ¬ k = w3.heap.size := fun h c => by omega
  have d2 := hk5.at (hk4.at0 hc2) (ne5 (by omega))
  have d4 := hk5.at (hk4.at0 hc4) (ne5 (by omega))
  have d5 := hk5.at (hk4.at0 hb3) (ne5 (by omega))
  have hrow5 := own_kept0 hrow hk05
  repeat' (first | (refine CL.seq ?_) | (refine CL.region ?_) | (refine CL.skip ?_) | (refine CL.condP rfl (fun _ => ?_) (fun _ => ?_) <;> try (exfalso; omega)) | (refine CL.condT rfl ?_) | (refine CL.condF rfl ?_) | (refine CL.cond rfl (fun _ => ?_) (fun _ => ?_)) | (refine CL.block ?_) | (refine CL.exit ?_) | (refine Ex.then ?_) | (refine Ex.hit ?_) | (refine Ex.miss rfl ?_) | (refine CL.ret ?_) | (refine Rt.then ?_) | (refine Rt.block ?_) | (refine Pn.then ?_) | (refine Pn.block ?_) | (refine CL.done ?_) | (refine Nm.block ?_) | (refine Nm.then ?_) | (refine Gt.nil ?_; refine RW.nilw [0, 1, 2, 4, 5, 6, 7, 8, 12, 14, 15, 16, 20, 26, 29, 34, 42] ?_; dsimp only [H.keep, H.look, H.Fr.put, Nat.beq]) | (refine Gt.load ?_; refine RW.y (Y.loadB rfl (by assumption) rfl) rfl ?_) | (refine Gt.move ?_; refine RW.y (Y.move rfl) rfl ?_) | (refine Gt.assign ?_; refine RW.y (Y.assign rfl) rfl ?_) | (refine Gt.len ?_; first | (refine RW.y (Y.lenv rfl) rfl ?_) | (refine RW.y (Y.lenx rfl (by assumption)) rfl ?_)) | (refine Gt.eql ?_; first | (refine RW.y (Y.eqs rfl rfl) rfl ?_) | (refine RW.y (Y.eqi rfl rfl) rfl ?_)) | (refine Gt.sub ?_; refine RW.y (Y.sub64 rfl rfl (by omega) (by omega)) rfl ?_) | (refine Gt.neq ?_; refine RW.y (Y.nei rfl rfl) rfl ?_) | (refine Gt.gtr ?_; refine RW.y (Y.gtr rfl rfl) rfl ?_))
  refine RW.fn rfl rfl ((hasPrefix s [47] w5).mono ?_)
  rintro e w6 ⟨rfl, rfl⟩
  rw [h47]
  repeat' (first | (refine CL.seq ?_) | (refine CL.region ?_) | (refine CL.skip ?_) | (refine CL.condP rfl (fun _ => ?_) (fun _ => ?_) <;> try (exfalso; omega)) | (refine CL.condT rfl ?_) | (refine CL.condF rfl ?_) | (refine CL.cond rfl (fun _ => ?_) (fun _ => ?_)) | (refine CL.block ?_) | (refine CL.exit ?_) | (refine Ex.then ?_) | (refine Ex.hit ?_) | (refine Ex.miss rfl ?_) | (refine CL.ret ?_) | (refine Rt.then ?_) | (refine Rt.block ?_) | (refine Pn.then ?_) | (refine Pn.block ?_) | (refine CL.done ?_) | (refine Nm.block ?_) | (refine Nm.then ?_) | (refine Gt.nil ?_; refine RW.nilw [0, 1, 2, 4, 5, 6, 7, 8, 12, 14, 15, 16, 20, 26, 29, 34, 42] ?_; dsimp only [H.keep, H.look, H.Fr.put, Nat.beq]) | (refine Gt.load ?_; refine RW.y (Y.loadB rfl (by assumption) rfl) rfl ?_) | (refine Gt.move ?_; refine RW.y (Y.move rfl) rfl ?_) | (refine Gt.assign ?_; refine RW.y (Y.assign rfl) rfl ?_) | (refine Gt.len ?_; first | (refine RW.y (Y.lenv rfl) rfl ?_) | (refine RW.y (Y.lenx rfl (by assumption)) rfl ?_)) | (refine Gt.eql ?_; first | (refine RW.y (Y.eqs rfl rfl) rfl ?_) | (refine RW.y (Y.eqi rfl rfl) rfl ?_)) | (refine Gt.sub ?_; refine RW.y (Y.sub64 rfl rfl (by omega) (by omega)) rfl ?_) | (refine Gt.neq ?_; refine RW.y (Y.nei rfl rfl) rfl ?_) | (refine Gt.gtr ?_; refine RW.y (Y.gtr rfl rfl) rfl ?_))
  · rename_i h
    refine RW.storeB rfl rfl rfl d4 (by decide) (fun w6 hb6 hk6 => ?_)
    have e5 := hk6.at d5 (fun c => by have : w2.heap.size = w1.heap.size := c; omega)
    refine RW.storeB rfl rfl rfl e5 (by decide) (fun w7 hb7 hk7 => ?_)
    have e4 := hk7.at hb6 (fun c => by have : w1.heap.size = w2.heap.size := c; omega)
    have hk07 : K0 w w7 := (hk05.trans hk6 fun k h => .inr (by show w.heap.size ≤ k; rw [h]; show w.heap.size ≤ w1.heap.size; omega)).trans hk7 fun k h => .inr (by show w.heap.size ≤ k; rw [h]; show w.heap.size ≤ w2.heap.size; omega)
    repeat' (first | (refine CL.seq ?_) | (refine CL.region ?_) | (refine CL.skip ?_) | (refine CL.condP rfl (fun _ => ?_) (fun _ => ?_) <;> try (exfalso; omega)) | (refine CL.condT rfl ?_) | (refine CL.condF rfl ?_) | (refine CL.cond rfl (fun _ => ?_) (fun _ => ?_)) | (refine CL.block ?_) | (refine CL.exit ?_) | (refine Ex.then ?_) | (refine Ex.hit ?_) | (refine Ex.miss rfl ?_) | (refine CL.ret ?_) | (refine Rt.then ?_) | (refine Rt.block ?_) | (refine Pn.then ?_) | (refine Pn.block ?_) | (refine CL.done ?_) | (refine Nm.block ?_) | (refine Nm.then ?_) | (refine Gt.nil ?_; refine RW.nilw [0, 1, 2, 4, 5, 6, 7, 8, 12, 14, 15, 16, 20, 26, 29, 34, 42] ?_; dsimp only [H.keep, H.look, H.Fr.put, Nat.beq]) | (refine Gt.load ?_; refine RW.y (Y.loadB rfl (by assumption) rfl) rfl ?_) | (refine Gt.move ?_; refine RW.y (Y.move rfl) rfl ?_) | (refine Gt.assign ?_; refine RW.y (Y.assign rfl) rfl ?_) | (refine Gt.len ?_; first | (refine RW.y (Y.lenv rfl) rfl ?_) | (refine RW.y (Y.lenx rfl (by assumption)) rfl ?_)) | (refine Gt.eql ?_; first | (refine RW.y (Y.eqs rfl rfl) rfl ?_) | (refine RW.y (Y.eqi rfl rfl) rfl ?_)) | (refine Gt.sub ?_; refine RW.y (Y.sub64 rfl rfl (by omega) (by omega)) rfl ?_) | (refine Gt.neq ?_; refine RW.y (Y.nei rfl rfl) rfl ?_) | (refine Gt.gtr ?_; refine RW.y (Y.gtr rfl rfl) rfl ?_))
    refine .inl ⟨rfl, _, fun a ha => results_cell2 (u := partsT) (u2 := ernT) rfl (ha.slot 4 _ rfl) (ha.slot 5 _ rfl) (by rw [cell_row (off := 0) e4]; rfl) (by rw [cell_row (off := 0) hb7]; rfl), hk07.of0, ?_⟩
    rw [walkL, if_pos h]
    rfl
  rename_i hpf
  refine RW.fn rfl rfl ((splitSeq 47 s w5).mono ?_)
  rintro e w8 ⟨hk8, bs, bt, bv, rfl, n1, n2, g1, g2, g3, l1, l2, l3, hsp⟩
  have hs8 := hk8.size
  have hk08 : K0 w w8 := hk05.trans0 hk8
  repeat' (first | (refine CL.seq ?_) | (refine CL.region ?_) | (refine CL.skip ?_) | (refine CL.condP rfl (fun _ => ?_) (fun _ => ?_) <;> try (exfalso; omega)) | (refine CL.condT rfl ?_) | (refine CL.condF rfl ?_) | (refine CL.cond rfl (fun _ => ?_) (fun _ => ?_)) | (refine CL.block ?_) | (refine CL.exit ?_) | (refine Ex.then ?_) | (refine Ex.hit ?_) | (refine Ex.miss rfl ?_) | (refine CL.ret ?_) | (refine Rt.then ?_) | (refine Rt.block ?_) | (refine Pn.then ?_) | (refine Pn.block ?_) | (refine CL.done ?_) | (refine Nm.block ?_) | (refine Nm.then ?_) | (refine Gt.nil ?_; refine RW.nilw [0, 1, 2, 4, 5, 6, 7, 8, 12, 14, 15, 16, 20, 26, 29, 34, 42] ?_; dsimp only [H.keep, H.look, H.Fr.put, Nat.beq]) | (refine Gt.load ?_; refine RW.y (Y.loadB rfl (by assumption) rfl) rfl ?_) | (refine Gt.move ?_; refine RW.y (Y.move rfl) rfl ?_) | (refine Gt.assign ?_; refine RW.y (Y.assign rfl) rfl ?_) | (refine Gt.len ?_; first | (refine RW.y (Y.lenv rfl) rfl ?_) | (refine RW.y (Y.lenx rfl (by assumption)) rfl ?_)) | (refine Gt.eql ?_; first | (refine RW.y (Y.eqs rfl rfl) rfl ?_) | (refine RW.y (Y.eqi rfl rfl) rfl ?_)) | (refine Gt.sub ?_; refine RW.y (Y.sub64 rfl rfl (by omega) (by omega)) rfl ?_) | (refine Gt.neq ?_; refine RW.y (Y.nei rfl rfl) rfl ?_) | (refine Gt.gtr ?_; refine RW.y (Y.gtr rfl rfl) rfl ?_))
  have hSk : ∀ k, ((k = bs ∨ k = bt ∨ k = bv) ∨ k = w8.heap.size ∨ k = w8.heap.size + 1) → w.heap.size ≤ k ∧ k ≠ w.heap.size ∧ k ≠ w1.heap.size ∧ k ≠ w2.heap.size ∧ k ≠ w3.heap.size ∧ k < w8.heap.size + 2 := fun k h => by omega
  have hout : ∀ g, v0.ownBlock = some g → g < w.heap.size := fun g hg => h0lt g hg
  refine CL.rangeFunc (ps := [15]) (cap := [_, _, _]) rfl (splitIt 47 s hs bs bt bv n1 n2) (fun W k => ⟨k.at0 hsp.1, k.at0 hsp.2.1, k.at0 hsp.2.2⟩) (fun _ => rfl) (fun p hp => by rw [List.mem_singleton.1 hp]; rfl) (by rintro k (h | h | h) <;> omega)
    (fun pre W => ∃ out v, WkI base v0 B w.heap.size w1.heap.size w2.heap.size w3.heap.size w8.heap.size w pre out v W)
    (fun c _ W => c = none ∧ ∃ e, WkX base v0 w1.heap.size w2.heap.size w (splitB 47 s) e W)
    (fun _ _ _ ⟨out, v, h⟩ k => ⟨out, v, h.keep k hSk hout⟩) (fun c _ _ _ ⟨hc, e, h⟩ k => ⟨hc, e, h.keep k fun k hk => ⟨(hSk k hk).1, (hSk k hk).2.2.1, (hSk k hk).2.2.2.1⟩⟩)
    ⟨base, v0, fun _ => rfl, Nat.le_refl _, by simp, hk8.at0 d2, hk8.at0 d4, hk8.at0 d5, hk8.at0 hb5, own_kept0 hrow5 hk8, fun g hg => .inl hg, hk08.of0⟩ ?_ ?_ ?_
  · rintro l pre x W hI hpx hsz
    dsimp only [Fr.puts, Fr.put]
    repeat' (first | (refine CL.seq ?_) | (refine CL.region ?_) | (refine CL.skip ?_) | (refine CL.condP rfl (fun _ => ?_) (fun _ => ?_) <;> try (exfalso; omega)) | (refine CL.condT rfl ?_) | (refine CL.condF rfl ?_) | (refine CL.cond rfl (fun _ => ?_) (fun _ => ?_)) | (refine CL.block ?_) | (refine CL.exit ?_) | (refine Ex.then ?_) | (refine Ex.hit ?_) | (refine Ex.miss rfl ?_) | (refine CL.ret ?_) | (refine Rt.then ?_) | (refine Rt.block ?_) | (refine Pn.then ?_) | (refine Pn.block ?_) | (refine CL.done ?_) | (refine Nm.block ?_) | (refine Nm.then ?_) | (refine Gt.nil ?_; refine RW.nilw [0, 1, 2, 4, 5, 6, 7, 8, 12, 14, 15, 16, 20, 26, 29, 34, 42] ?_; dsimp only [H.keep, H.look, H.Fr.put, Nat.beq]) | (refine Gt.load ?_; refine RW.y (Y.loadB rfl (by assumption) rfl) rfl ?_) | (refine Gt.move ?_; refine RW.y (Y.move rfl) rfl ?_) | (refine Gt.assign ?_; refine RW.y (Y.assign rfl) rfl ?_) | (refine Gt.len ?_; first | (refine RW.y (Y.lenv rfl) rfl ?_) | (refine RW.y (Y.lenx rfl (by assumption)) rfl ?_)) | (refine Gt.eql ?_; first | (refine RW.y (Y.eqs rfl rfl) rfl ?_) | (refine RW.y (Y.eqi rfl rfl) rfl ?_)) | (refine Gt.sub ?_; refine RW.y (Y.sub64 rfl rfl (by omega) (by omega)) rfl ?_) | (refine Gt.neq ?_; refine RW.y (Y.nei rfl rfl) rfl ?_) | (refine Gt.gtr ?_; refine RW.y (Y.gtr rfl rfl) rfl ?_))
    refine ⟨rfl, ?_⟩
    clear hI hsz W
    rintro W ⟨out, v, hI⟩ hsz
    obtain ⟨hgo, hlow, hbd, i2, i4, i5, i6, irow, iat, ikept⟩ := id hI
    have isl := Sl.of_own irow
    have hgo1 : ∀ r, cleanA base.length base (pre ++ [x] ++ r) = cleanA base.length out (x :: r) := fun r => by rw [List.append_assoc]; exact hgo _
    obtain ⟨tl, htl⟩ := hpx
    have hxs : x.length ≤ 1000000 := Nat.le_trans (splitB_mem_len 47 s x (by rw [← htl]; simp)) hs
    have hpl : pre.length ≤ 1000001 := by
      have := congrArg List.length htl
      have h2 := splitB_len 47 s
      have h3 : s.count 47 ≤ s.length := List.count_le_length
      simp at this
      omega
    have hS' : ∀ {W' : World} {T : Nat → Prop}, Kept T W W' → (∀ k, T k → k < w.heap.size ∨ w8.heap.size + 2 ≤ k ∨ k = w.heap.size ∨ k = w1.heap.size ∨ k = w2.heap.size ∨ k = w3.heap.size) → Same (fun k => (k = bs ∨ k = bt ∨ k = bv) ∨ k = w8.heap.size ∨ k = w8.heap.size + 1) W W' := fun hk hT =>
      Same.of hk fun k h => ⟨by omega, fun c => by have := hT k c; omega⟩
    repeat' (first | (refine CL.seq ?_) | (refine CL.region ?_) | (refine CL.skip ?_) | (refine CL.condP rfl (fun _ => ?_) (fun _ => ?_) <;> try (exfalso; omega)) | (refine CL.condT rfl ?_) | (refine CL.condF rfl ?_) | (refine CL.cond rfl (fun _ => ?_) (fun _ => ?_)) | (refine CL.block ?_) | (refine CL.exit ?_) | (refine Ex.then ?_) | (refine Ex.hit ?_) | (refine Ex.miss rfl ?_) | (refine CL.ret ?_) | (refine Rt.then ?_) | (refine Rt.block ?_) | (refine Pn.then ?_) | (refine Pn.block ?_) | (refine CL.done ?_) | (refine Nm.block ?_) | (refine Nm.then ?_) | (refine Gt.nil ?_; refine RW.nilw [0, 1, 2, 4, 5, 6, 7, 8, 12, 14, 15, 16, 20, 26, 29, 34, 42] ?_; dsimp only [H.keep, H.look, H.Fr.put, Nat.beq]) | (refine Gt.load ?_; refine RW.y (Y.loadB rfl (by assumption) rfl) rfl ?_) | (refine Gt.move ?_; refine RW.y (Y.move rfl) rfl ?_) | (refine Gt.assign ?_; refine RW.y (Y.assign rfl) rfl ?_) | (refine Gt.len ?_; first | (refine RW.y (Y.lenv rfl) rfl ?_) | (refine RW.y (Y.lenx rfl (by assumption)) rfl ?_)) | (refine Gt.eql ?_; first | (refine RW.y (Y.eqs rfl rfl) rfl ?_) | (refine RW.y (Y.eqi rfl rfl) rfl ?_)) | (refine Gt.sub ?_; refine RW.y (Y.sub64 rfl rfl (by omega) (by omega)) rfl ?_) | (refine Gt.neq ?_; refine RW.y (Y.nei rfl rfl) rfl ?_) | (refine Gt.gtr ?_; refine RW.y (Y.gtr rfl rfl) rfl ?_))
    all_goals try contradiction
    · have hx : x = [] := by assumption
      exact ⟨Same.refl _ _, out, v, ⟨fun r => by rw [hgo1, cleanA, if_pos (.inl hx)], hlow, by simp; omega, i2, i4, i5, i6, irow, iat, ikept⟩⟩
    · have hx : x = [46] := by assumption
      exact ⟨Same.refl _ _, out, v, ⟨fun r => by rw [hgo1, cleanA, if_pos (.inr hx)], hlow, by simp; omega, i2, i4, i5, i6, irow, iat, ikept⟩⟩
    · have h3 : x = [46, 46] := by assumption
      have hle : out.length ≤ base.length := by omega
      refine RW.storeB rfl rfl rfl i4 (by decide) (fun w9 j4 hk9 => ?_)
      refine RW.storeB rfl rfl rfl (hk9.at i5 (fun c => by have : w2.heap.size = w1.heap.size := c; omega)) (by decide) (fun w10 j5 hk10 => ?_)
      repeat' (first | (refine CL.seq ?_) | (refine CL.region ?_) | (refine CL.skip ?_) | (refine CL.condP rfl (fun _ => ?_) (fun _ => ?_) <;> try (exfalso; omega)) | (refine CL.condT rfl ?_) | (refine CL.condF rfl ?_) | (refine CL.cond rfl (fun _ => ?_) (fun _ => ?_)) | (refine CL.block ?_) | (refine CL.exit ?_) | (refine Ex.then ?_) | (refine Ex.hit ?_) | (refine Ex.miss rfl ?_) | (refine CL.ret ?_) | (refine Rt.then ?_) | (refine Rt.block ?_) | (refine Pn.then ?_) | (refine Pn.block ?_) | (refine CL.done ?_) | (refine Nm.block ?_) | (refine Nm.then ?_) | (refine Gt.nil ?_; refine RW.nilw [0, 1, 2, 4, 5, 6, 7, 8, 12, 14, 15, 16, 20, 26, 29, 34, 42] ?_; dsimp only [H.keep, H.look, H.Fr.put, Nat.beq]) | (refine Gt.load ?_; refine RW.y (Y.loadB rfl (by assumption) rfl) rfl ?_) | (refine Gt.move ?_; refine RW.y (Y.move rfl) rfl ?_) | (refine Gt.assign ?_; refine RW.y (Y.assign rfl) rfl ?_) | (refine Gt.len ?_; first | (refine RW.y (Y.lenv rfl) rfl ?_) | (refine RW.y (Y.lenx rfl (by assumption)) rfl ?_)) | (refine Gt.eql ?_; first | (refine RW.y (Y.eqs rfl rfl) rfl ?_) | (refine RW.y (Y.eqi rfl rfl) rfl ?_)) | (refine Gt.sub ?_; refine RW.y (Y.sub64 rfl rfl (by omega) (by omega)) rfl ?_) | (refine Gt.neq ?_; refine RW.y (Y.nei rfl rfl) rfl ?_) | (refine Gt.gtr ?_; refine RW.y (Y.gtr rfl rfl) rfl ?_))
      have hk : Kept (fun k => k = w1.heap.size ∨ k = w2.heap.size) W w10 := (hk9.mono fun k h => .inl h).trans hk10 fun k h => .inl (.inr h)
      refine ⟨hS' hk fun k h => by omega, rfl, 51, ⟨?_, hk10.at j4 (fun c => by have : w1.heap.size = w2.heap.size := c; omega), j5, ikept.trans hk fun k h => .inr (by omega)⟩⟩
      rw [← htl, hgo1, cleanA, if_neg (by rintro (c | c) <;> contradiction), if_pos h3, if_pos hle]
    · have h3 : x = [46, 46] := by assumption
      have hle : ¬ out.length ≤ base.length := by omega
      repeat' (first | (refine CL.seq ?_) | (refine CL.region ?_) | (refine CL.skip ?_) | (refine CL.condP rfl (fun _ => ?_) (fun _ => ?_) <;> try (exfalso; omega)) | (refine CL.condT rfl ?_) | (refine CL.condF rfl ?_) | (refine CL.cond rfl (fun _ => ?_) (fun _ => ?_)) | (refine CL.block ?_) | (refine CL.exit ?_) | (refine Ex.then ?_) | (refine Ex.hit ?_) | (refine Ex.miss rfl ?_) | (refine CL.ret ?_) | (refine Rt.then ?_) | (refine Rt.block ?_) | (refine Pn.then ?_) | (refine Pn.block ?_) | (refine CL.done ?_) | (refine Nm.block ?_) | (refine Nm.then ?_) | (refine Gt.nil ?_; refine RW.nilw [0, 1, 2, 4, 5, 6, 7, 8, 12, 14, 15, 16, 20, 26, 29, 34, 42] ?_; dsimp only [H.keep, H.look, H.Fr.put, Nat.beq]) | (refine Gt.load ?_; refine RW.y (Y.loadB rfl (by assumption) rfl) rfl ?_) | (refine Gt.move ?_; refine RW.y (Y.move rfl) rfl ?_) | (refine Gt.assign ?_; refine RW.y (Y.assign rfl) rfl ?_) | (refine Gt.len ?_; first | (refine RW.y (Y.lenv rfl) rfl ?_) | (refine RW.y (Y.lenx rfl (by assumption)) rfl ?_)) | (refine Gt.eql ?_; first | (refine RW.y (Y.eqs rfl rfl) rfl ?_) | (refine RW.y (Y.eqi rfl rfl) rfl ?_)) | (refine Gt.sub ?_; refine RW.y (Y.sub64 rfl rfl (by omega) (by omega)) rfl ?_) | (refine Gt.neq ?_; refine RW.y (Y.nei rfl rfl) rfl ?_) | (refine Gt.gtr ?_; refine RW.y (Y.gtr rfl rfl) rfl ?_))
      refine RW.ownh rfl rfl rfl irow (by omega) (by omega) (fun v' how' hb' => ?_)
      have hn : ((out.length : Int) - 1).toNat = out.length - 1 := by omega
      rw [hn, Nat.mul_one] at how'
      refine RW.storeB rfl rfl (by rcases (Sl.of_own how').shape with ⟨p, cap, rfl, _⟩; rfl) i2 (by simp) (fun w9 j2 hk9 => ?_)
      repeat' (first | (refine CL.seq ?_) | (refine CL.region ?_) | (refine CL.skip ?_) | (refine CL.condP rfl (fun _ => ?_) (fun _ => ?_) <;> try (exfalso; omega)) | (refine CL.condT rfl ?_) | (refine CL.condF rfl ?_) | (refine CL.cond rfl (fun _ => ?_) (fun _ => ?_)) | (refine CL.block ?_) | (refine CL.exit ?_) | (refine Ex.then ?_) | (refine Ex.hit ?_) | (refine Ex.miss rfl ?_) | (refine CL.ret ?_) | (refine Rt.then ?_) | (refine Rt.block ?_) | (refine Pn.then ?_) | (refine Pn.block ?_) | (refine CL.done ?_) | (refine Nm.block ?_) | (refine Nm.then ?_) | (refine Gt.nil ?_; refine RW.nilw [0, 1, 2, 4, 5, 6, 7, 8, 12, 14, 15, 16, 20, 26, 29, 34, 42] ?_; dsimp only [H.keep, H.look, H.Fr.put, Nat.beq]) | (refine Gt.load ?_; refine RW.y (Y.loadB rfl (by assumption) rfl) rfl ?_) | (refine Gt.move ?_; refine RW.y (Y.move rfl) rfl ?_) | (refine Gt.assign ?_; refine RW.y (Y.assign rfl) rfl ?_) | (refine Gt.len ?_; first | (refine RW.y (Y.lenv rfl) rfl ?_) | (refine RW.y (Y.lenx rfl (by assumption)) rfl ?_)) | (refine Gt.eql ?_; first | (refine RW.y (Y.eqs rfl rfl) rfl ?_) | (refine RW.y (Y.eqi rfl rfl) rfl ?_)) | (refine Gt.sub ?_; refine RW.y (Y.sub64 rfl rfl (by omega) (by omega)) rfl ?_) | (refine Gt.neq ?_; refine RW.y (Y.nei rfl rfl) rfl ?_) | (refine Gt.gtr ?_; refine RW.y (Y.gtr rfl rfl) rfl ?_))
      have hdl : (sv out).take (out.length - 1) = sv out.dropLast := by rw [List.dropLast_eq_take, ← List.map_take]
      rw [hdl] at how'
      refine ⟨hS' hk9 fun k h => by have : k = w.heap.size := h; omega, out.dropLast, v', ⟨fun r => ?_, by rw [List.length_dropLast]; omega, by rw [List.length_dropLast]; simp; omega, j2, hk9.at i4 (fun c => by have : w1.heap.size = w.heap.size := c; omega), hk9.at i5 (fun c => by have : w2.heap.size = w.heap.size := c; omega), hk9.at i6 (fun c => by have : w3.heap.size = w.heap.size := c; omega), ?_, fun g hg => iat g (hb' ▸ hg), ikept.trans hk9 fun k h => .inr (by have : k = w.heap.size := h; omega)⟩⟩
      · rw [hgo1, cleanA, if_neg (by rintro (c | c) <;> contradiction), if_pos h3, if_neg hle]
      · rw [List.length_dropLast]
        exact own_kept how' hk9 fun g hg c => by have c' : g = w.heap.size := c; rcases iat g (hb' ▸ hg) with h | h; { have := hout g h; omega }; omega
    · have h3 : ¬ x = [46, 46] := by assumption
      refine RW.fn rfl rfl ((part x hxs W).mono ?_)
      rintro e w9 ⟨rfl, rfl⟩
      cases hbad : badL x
      · simp only [Bool.false_eq_true, if_false]
        repeat' (first | (refine CL.seq ?_) | (refine CL.region ?_) | (refine CL.skip ?_) | (refine CL.condP rfl (fun _ => ?_) (fun _ => ?_) <;> try (exfalso; omega)) | (refine CL.condT rfl ?_) | (refine CL.condF rfl ?_) | (refine CL.cond rfl (fun _ => ?_) (fun _ => ?_)) | (refine CL.block ?_) | (refine CL.exit ?_) | (refine Ex.then ?_) | (refine Ex.hit ?_) | (refine Ex.miss rfl ?_) | (refine CL.ret ?_) | (refine Rt.then ?_) | (refine Rt.block ?_) | (refine Pn.then ?_) | (refine Pn.block ?_) | (refine CL.done ?_) | (refine Nm.block ?_) | (refine Nm.then ?_) | (refine Gt.nil ?_; refine RW.nilw [0, 1, 2, 4, 5, 6, 7, 8, 12, 14, 15, 16, 20, 26, 29, 34, 42] ?_; dsimp only [H.keep, H.look, H.Fr.put, Nat.beq]) | (refine Gt.load ?_; refine RW.y (Y.loadB rfl (by assumption) rfl) rfl ?_) | (refine Gt.move ?_; refine RW.y (Y.move rfl) rfl ?_) | (refine Gt.assign ?_; refine RW.y (Y.assign rfl) rfl ?_) | (refine Gt.len ?_; first | (refine RW.y (Y.lenv rfl) rfl ?_) | (refine RW.y (Y.lenx rfl (by assumption)) rfl ?_)) | (refine Gt.eql ?_; first | (refine RW.y (Y.eqs rfl rfl) rfl ?_) | (refine RW.y (Y.eqi rfl rfl) rfl ?_)) | (refine Gt.sub ?_; refine RW.y (Y.sub64 rfl rfl (by omega) (by omega)) rfl ?_) | (refine Gt.neq ?_; refine RW.y (Y.nei rfl rfl) rfl ?_) | (refine Gt.gtr ?_; refine RW.y (Y.gtr rfl rfl) rfl ?_))
        refine RW.app1 rfl rfl rfl rfl irow rfl rfl rfl rfl (one_vs _) (by omega) (by omega) (by omega) (fun v' w9 how' hk9 hl' => ?_)
        have hne : ∀ {k}, k ≤ w3.heap.size → ¬ v.ownBlock = some k ∨ k < w.heap.size := fun {k} hk => by
          by_cases h : v.ownBlock = some k
          · rcases iat k h with h | h
            · exact .inr (hout k h)
            · omega
          · exact .inl h
        have j2 := hk9.at i2 (fun c => (hne (by omega)).elim (fun h => h c) (by omega))
        refine RW.storeB rfl rfl (by rcases (Sl.of_own how').shape with ⟨p, cap, rfl, _⟩; rfl) j2 (by simp) (fun w10 k2 hk10 => ?_)
        repeat' (first | (refine CL.seq ?_) | (refine CL.region ?_) | (refine CL.skip ?_) | (refine CL.condP rfl (fun _ => ?_) (fun _ => ?_) <;> try (exfalso; omega)) | (refine CL.condT rfl ?_) | (refine CL.condF rfl ?_) | (refine CL.cond rfl (fun _ => ?_) (fun _ => ?_)) | (refine CL.block ?_) | (refine CL.exit ?_) | (refine Ex.then ?_) | (refine Ex.hit ?_) | (refine Ex.miss rfl ?_) | (refine CL.ret ?_) | (refine Rt.then ?_) | (refine Rt.block ?_) | (refine Pn.then ?_) | (refine Pn.block ?_) | (refine CL.done ?_) | (refine Nm.block ?_) | (refine Nm.then ?_) | (refine Gt.nil ?_; refine RW.nilw [0, 1, 2, 4, 5, 6, 7, 8, 12, 14, 15, 16, 20, 26, 29, 34, 42] ?_; dsimp only [H.keep, H.look, H.Fr.put, Nat.beq]) | (refine Gt.load ?_; refine RW.y (Y.loadB rfl (by assumption) rfl) rfl ?_) | (refine Gt.move ?_; refine RW.y (Y.move rfl) rfl ?_) | (refine Gt.assign ?_; refine RW.y (Y.assign rfl) rfl ?_) | (refine Gt.len ?_; first | (refine RW.y (Y.lenv rfl) rfl ?_) | (refine RW.y (Y.lenx rfl (by assumption)) rfl ?_)) | (refine Gt.eql ?_; first | (refine RW.y (Y.eqs rfl rfl) rfl ?_) | (refine RW.y (Y.eqi rfl rfl) rfl ?_)) | (refine Gt.sub ?_; refine RW.y (Y.sub64 rfl rfl (by omega) (by omega)) rfl ?_) | (refine Gt.neq ?_; refine RW.y (Y.nei rfl rfl) rfl ?_) | (refine Gt.gtr ?_; refine RW.y (Y.gtr rfl rfl) rfl ?_))
        have hk : Kept (fun k => v.ownBlock = some k ∨ k = w.heap.size) W w10 := (hk9.mono fun k h => .inl h).trans hk10 fun k h => .inl (.inr h)
        refine ⟨hS' hk fun k h => ?_, out ++ [x], v', ⟨fun r => ?_, by simp; omega, by simp; omega, k2, ?_, ?_, ?_, ?_, ?_, ?_⟩⟩
        · rcases h with h | h
          · rcases iat k h with h | h
            · exact .inl (hout k h)
            · omega
          · omega
        · rw [hgo1, cleanA, if_neg (by rintro (c | c) <;> contradiction), if_neg h3, if_neg (by rw [hbad]; simp)]
        · exact hk.at i4 (by rintro (c | c); exact (hne (by omega)).elim (fun h => h c) (by omega); omega)
        · exact hk.at i5 (by rintro (c | c); exact (hne (by omega)).elim (fun h => h c) (by omega); omega)
        · exact hk.at i6 (by rintro (c | c); exact (hne (by omega)).elim (fun h => h c) (by omega); omega)
        · have h5 := own_kept how' hk10 (fun g hg c => by
            have c' : g = w.heap.size := c
            rcases hl' g hg with h | h
            · exact (hne (k := g) (by omega)).elim (fun n => n h) (by omega)
            · omega)
          rw [List.length_append, show sv (out ++ [x]) = sv out ++ (vs x).cells.toList from by simp [Value.cells]]
          exact h5
        · intro g hg
          rcases hl' g hg with h | h
          · exact iat g h
          · exact .inr (by omega)
        · refine ikept.trans hk fun k h => ?_
          rcases h with h | h
          · rcases iat k h with h | h
            · exact .inl h
            · exact .inr (by omega)
          · exact .inr (by omega)
      · simp only [if_true]
        repeat' (first | (refine CL.seq ?_) | (refine CL.region ?_) | (refine CL.skip ?_) | (refine CL.condP rfl (fun _ => ?_) (fun _ => ?_) <;> try (exfalso; omega)) | (refine CL.condT rfl ?_) | (refine CL.condF rfl ?_) | (refine CL.cond rfl (fun _ => ?_) (fun _ => ?_)) | (refine CL.block ?_) | (refine CL.exit ?_) | (refine Ex.then ?_) | (refine Ex.hit ?_) | (refine Ex.miss rfl ?_) | (refine CL.ret ?_) | (refine Rt.then ?_) | (refine Rt.block ?_) | (refine Pn.then ?_) | (refine Pn.block ?_) | (refine CL.done ?_) | (refine Nm.block ?_) | (refine Nm.then ?_) | (refine Gt.nil ?_; refine RW.nilw [0, 1, 2, 4, 5, 6, 7, 8, 12, 14, 15, 16, 20, 26, 29, 34, 42] ?_; dsimp only [H.keep, H.look, H.Fr.put, Nat.beq]) | (refine Gt.load ?_; refine RW.y (Y.loadB rfl (by assumption) rfl) rfl ?_) | (refine Gt.move ?_; refine RW.y (Y.move rfl) rfl ?_) | (refine Gt.assign ?_; refine RW.y (Y.assign rfl) rfl ?_) | (refine Gt.len ?_; first | (refine RW.y (Y.lenv rfl) rfl ?_) | (refine RW.y (Y.lenx rfl (by assumption)) rfl ?_)) | (refine Gt.eql ?_; first | (refine RW.y (Y.eqs rfl rfl) rfl ?_) | (refine RW.y (Y.eqi rfl rfl) rfl ?_)) | (refine Gt.sub ?_; refine RW.y (Y.sub64 rfl rfl (by omega) (by omega)) rfl ?_) | (refine Gt.neq ?_; refine RW.y (Y.nei rfl rfl) rfl ?_) | (refine Gt.gtr ?_; refine RW.y (Y.gtr rfl rfl) rfl ?_))
        refine RW.storeB rfl rfl rfl i4 (by decide) (fun w9 j4 hk9 => ?_)
        refine RW.storeB rfl rfl rfl (hk9.at i5 (fun c => by have : w2.heap.size = w1.heap.size := c; omega)) (by decide) (fun w10 j5 hk10 => ?_)
        repeat' (first | (refine CL.seq ?_) | (refine CL.region ?_) | (refine CL.skip ?_) | (refine CL.condP rfl (fun _ => ?_) (fun _ => ?_) <;> try (exfalso; omega)) | (refine CL.condT rfl ?_) | (refine CL.condF rfl ?_) | (refine CL.cond rfl (fun _ => ?_) (fun _ => ?_)) | (refine CL.block ?_) | (refine CL.exit ?_) | (refine Ex.then ?_) | (refine Ex.hit ?_) | (refine Ex.miss rfl ?_) | (refine CL.ret ?_) | (refine Rt.then ?_) | (refine Rt.block ?_) | (refine Pn.then ?_) | (refine Pn.block ?_) | (refine CL.done ?_) | (refine Nm.block ?_) | (refine Nm.then ?_) | (refine Gt.nil ?_; refine RW.nilw [0, 1, 2, 4, 5, 6, 7, 8, 12, 14, 15, 16, 20, 26, 29, 34, 42] ?_; dsimp only [H.keep, H.look, H.Fr.put, Nat.beq]) | (refine Gt.load ?_; refine RW.y (Y.loadB rfl (by assumption) rfl) rfl ?_) | (refine Gt.move ?_; refine RW.y (Y.move rfl) rfl ?_) | (refine Gt.assign ?_; refine RW.y (Y.assign rfl) rfl ?_) | (refine Gt.len ?_; first | (refine RW.y (Y.lenv rfl) rfl ?_) | (refine RW.y (Y.lenx rfl (by assumption)) rfl ?_)) | (refine Gt.eql ?_; first | (refine RW.y (Y.eqs rfl rfl) rfl ?_) | (refine RW.y (Y.eqi rfl rfl) rfl ?_)) | (refine Gt.sub ?_; refine RW.y (Y.sub64 rfl rfl (by omega) (by omega)) rfl ?_) | (refine Gt.neq ?_; refine RW.y (Y.nei rfl rfl) rfl ?_) | (refine Gt.gtr ?_; refine RW.y (Y.gtr rfl rfl) rfl ?_))
        have hk : Kept (fun k => k = w1.heap.size ∨ k = w2.heap.size) W w10 := (hk9.mono fun k h => .inl h).trans hk10 fun k h => .inl (.inr h)
        refine ⟨hS' hk fun k h => by omega, rfl, 50, ⟨?_, hk10.at j4 (fun c => by have : w1.heap.size = w2.heap.size := c; omega), j5, ikept.trans hk fun k h => .inr (by omega)⟩⟩
        rw [← htl, hgo1, cleanA, if_neg (by rintro (c | c) <;> contradiction), if_neg h3, if_pos hbad]
  · rintro W ⟨out, v, hI⟩ hD
    obtain ⟨hgo, hlow, hbd, i2, i4, i5, i6, irow, iat, ikept⟩ := id hI
    have isl := Sl.of_own irow
    have hcl : cleanA base.length base (splitB 47 s) = .ok out := by have := hgo []; rw [List.append_nil] at this; rw [this]; rfl
    have hwl : walkL s base = if 12 < out.length then .error 50 else .ok out := by rw [walkL, if_neg hpf, hcl]
    rw [hwl]
    repeat' (first | (refine CL.seq ?_) | (refine CL.region ?_) | (refine CL.skip ?_) | (refine CL.condP rfl (fun _ => ?_) (fun _ => ?_) <;> try (exfalso; omega)) | (refine CL.condT rfl ?_) | (refine CL.condF rfl ?_) | (refine CL.cond rfl (fun _ => ?_) (fun _ => ?_)) | (refine CL.block ?_) | (refine CL.exit ?_) | (refine Ex.then ?_) | (refine Ex.hit ?_) | (refine Ex.miss rfl ?_) | (refine CL.ret ?_) | (refine Rt.then ?_) | (refine Rt.block ?_) | (refine Pn.then ?_) | (refine Pn.block ?_) | (refine CL.done ?_) | (refine Nm.block ?_) | (refine Nm.then ?_) | (refine Gt.nil ?_; refine RW.nilw [0, 1, 2, 4, 5, 6, 7, 8, 12, 14, 15, 16, 20, 26, 29, 34, 42] ?_; dsimp only [H.keep, H.look, H.Fr.put, Nat.beq]) | (refine Gt.load ?_; refine RW.y (Y.loadB rfl (by assumption) rfl) rfl ?_) | (refine Gt.move ?_; refine RW.y (Y.move rfl) rfl ?_) | (refine Gt.assign ?_; refine RW.y (Y.assign rfl) rfl ?_) | (refine Gt.len ?_; first | (refine RW.y (Y.lenv rfl) rfl ?_) | (refine RW.y (Y.lenx rfl (by assumption)) rfl ?_)) | (refine Gt.eql ?_; first | (refine RW.y (Y.eqs rfl rfl) rfl ?_) | (refine RW.y (Y.eqi rfl rfl) rfl ?_)) | (refine Gt.sub ?_; refine RW.y (Y.sub64 rfl rfl (by omega) (by omega)) rfl ?_) | (refine Gt.neq ?_; refine RW.y (Y.nei rfl rfl) rfl ?_) | (refine Gt.gtr ?_; refine RW.y (Y.gtr rfl rfl) rfl ?_))
    · rename_i hlong
      refine RW.storeB rfl rfl rfl i4 (by decide) (fun w9 j4 hk9 => ?_)
      refine RW.storeB rfl rfl rfl (hk9.at i5 (fun c => by have : w2.heap.size = w1.heap.size := c; omega)) (by decide) (fun w10 j5 hk10 => ?_)
      repeat' (first | (refine CL.seq ?_) | (refine CL.region ?_) | (refine CL.skip ?_) | (refine CL.condP rfl (fun _ => ?_) (fun _ => ?_) <;> try (exfalso; omega)) | (refine CL.condT rfl ?_) | (refine CL.condF rfl ?_) | (refine CL.cond rfl (fun _ => ?_) (fun _ => ?_)) | (refine CL.block ?_) | (refine CL.exit ?_) | (refine Ex.then ?_) | (refine Ex.hit ?_) | (refine Ex.miss rfl ?_) | (refine CL.ret ?_) | (refine Rt.then ?_) | (refine Rt.block ?_) | (refine Pn.then ?_) | (refine Pn.block ?_) | (refine CL.done ?_) | (refine Nm.block ?_) | (refine Nm.then ?_) | (refine Gt.nil ?_; refine RW.nilw [0, 1, 2, 4, 5, 6, 7, 8, 12, 14, 15, 16, 20, 26, 29, 34, 42] ?_; dsimp only [H.keep, H.look, H.Fr.put, Nat.beq]) | (refine Gt.load ?_; refine RW.y (Y.loadB rfl (by assumption) rfl) rfl ?_) | (refine Gt.move ?_; refine RW.y (Y.move rfl) rfl ?_) | (refine Gt.assign ?_; refine RW.y (Y.assign rfl) rfl ?_) | (refine Gt.len ?_; first | (refine RW.y (Y.lenv rfl) rfl ?_) | (refine RW.y (Y.lenx rfl (by assumption)) rfl ?_)) | (refine Gt.eql ?_; first | (refine RW.y (Y.eqs rfl rfl) rfl ?_) | (refine RW.y (Y.eqi rfl rfl) rfl ?_)) | (refine Gt.sub ?_; refine RW.y (Y.sub64 rfl rfl (by omega) (by omega)) rfl ?_) | (refine Gt.neq ?_; refine RW.y (Y.nei rfl rfl) rfl ?_) | (refine Gt.gtr ?_; refine RW.y (Y.gtr rfl rfl) rfl ?_))
      have hk : Kept (fun k => k = w1.heap.size ∨ k = w2.heap.size) W w10 := (hk9.mono fun k h => .inl h).trans hk10 fun k h => .inl (.inr h)
      have k4 := hk10.at j4 (fun c => by have : w1.heap.size = w2.heap.size := c; omega)
      refine .inr ⟨w8.heap.size, rfl, hk.at hD (by omega), fun w' hk' => ?_⟩
      have l4 := hk'.at k4 (fun c => by have : w1.heap.size = w8.heap.size := c; omega)
      have l5 := hk'.at j5 (fun c => by have : w2.heap.size = w8.heap.size := c; omega)
      refine ⟨_, fun a ha => results_cell2 (u := partsT) (u2 := ernT) rfl (ha.slot 4 _ rfl) (ha.slot 5 _ rfl) (by rw [cell_row (off := 0) l4]; rfl) (by rw [cell_row (off := 0) l5]; rfl), (ikept.trans hk fun k h => .inr (by omega)).trans hk' fun k h => .inr (by have : k = w8.heap.size := h; omega), ?_⟩
      rw [if_pos (by omega)]
      rfl
    · rename_i hlong
      refine RW.storeB rfl rfl (by rcases isl.shape with ⟨p, cap, rfl, _⟩; rfl) i4 (by decide) (fun w9 j4 hk9 => ?_)
      refine RW.storeB rfl rfl rfl (hk9.at i5 (fun c => by have : w2.heap.size = w1.heap.size := c; omega)) (by decide) (fun w10 j5 hk10 => ?_)
      repeat' (first | (refine CL.seq ?_) | (refine CL.region ?_) | (refine CL.skip ?_) | (refine CL.condP rfl (fun _ => ?_) (fun _ => ?_) <;> try (exfalso; omega)) | (refine CL.condT rfl ?_) | (refine CL.condF rfl ?_) | (refine CL.cond rfl (fun _ => ?_) (fun _ => ?_)) | (refine CL.block ?_) | (refine CL.exit ?_) | (refine Ex.then ?_) | (refine Ex.hit ?_) | (refine Ex.miss rfl ?_) | (refine CL.ret ?_) | (refine Rt.then ?_) | (refine Rt.block ?_) | (refine Pn.then ?_) | (refine Pn.block ?_) | (refine CL.done ?_) | (refine Nm.block ?_) | (refine Nm.then ?_) | (refine Gt.nil ?_; refine RW.nilw [0, 1, 2, 4, 5, 6, 7, 8, 12, 14, 15, 16, 20, 26, 29, 34, 42] ?_; dsimp only [H.keep, H.look, H.Fr.put, Nat.beq]) | (refine Gt.load ?_; refine RW.y (Y.loadB rfl (by assumption) rfl) rfl ?_) | (refine Gt.move ?_; refine RW.y (Y.move rfl) rfl ?_) | (refine Gt.assign ?_; refine RW.y (Y.assign rfl) rfl ?_) | (refine Gt.len ?_; first | (refine RW.y (Y.lenv rfl) rfl ?_) | (refine RW.y (Y.lenx rfl (by assumption)) rfl ?_)) | (refine Gt.eql ?_; first | (refine RW.y (Y.eqs rfl rfl) rfl ?_) | (refine RW.y (Y.eqi rfl rfl) rfl ?_)) | (refine Gt.sub ?_; refine RW.y (Y.sub64 rfl rfl (by omega) (by omega)) rfl ?_) | (refine Gt.neq ?_; refine RW.y (Y.nei rfl rfl) rfl ?_) | (refine Gt.gtr ?_; refine RW.y (Y.gtr rfl rfl) rfl ?_))
      have hk : Kept (fun k => k = w1.heap.size ∨ k = w2.heap.size) W w10 := (hk9.mono fun k h => .inl h).trans hk10 fun k h => .inl (.inr h)
      have k4 := hk10.at j4 (fun c => by have : w1.heap.size = w2.heap.size := c; omega)
      refine .inr ⟨w8.heap.size, rfl, hk.at hD (by omega), fun w' hk' => ?_⟩
      have l4 := hk'.at k4 (fun c => by have : w1.heap.size = w8.heap.size := c; omega)
      have l5 := hk'.at j5 (fun c => by have : w2.heap.size = w8.heap.size := c; omega)
      refine ⟨_, fun a ha => results_cell2 (u := partsT) (u2 := ernT) rfl (ha.slot 4 _ rfl) (ha.slot 5 _ rfl) (by rw [cell_row (off := 0) l4]; rfl) (by rw [cell_row (off := 0) l5]; rfl), (ikept.trans hk fun k h => .inr (by omega)).trans hk' fun k h => .inr (by have : k = w8.heap.size := h; omega), ?_⟩
      rw [if_neg (by omega)]
      have hn8 : ∀ g, v.ownBlock = some g → g < w.heap.size ∨ w8.heap.size + 2 ≤ g := fun g hg => (iat g hg).imp (hout g) id
      exact ⟨v, rfl, own_kept (own_kept irow hk fun g hg c => by have := hn8 g hg; omega) hk' fun g hg c => by have := hn8 g hg; have : g = w8.heap.size := c; omega⟩
  · rintro c pre W ⟨rfl, e, hX⟩ hD
    refine Rt.block ?_
    repeat' (first | refine Rt.then ?_ | refine Rt.block ?_)
    refine .inr ⟨w8.heap.size, rfl, hD, fun w' hk' => ?_⟩
    have l4 := hk'.at hX.c4 (fun c => by have : w1.heap.size = w8.heap.size := c; omega)
    have l5 := hk'.at hX.c5 (fun c => by have : w2.heap.size = w8.heap.size := c; omega)
    refine ⟨_, fun a ha => results_cell2 (u := partsT) (u2 := ernT) rfl (ha.slot 4 _ rfl) (ha.slot 5 _ rfl) (by rw [cell_row (off := 0) l4]; rfl) (by rw [cell_row (off := 0) l5]; rfl), hX.kept.trans hk' fun k h => .inr (by have : k = w8.heap.size := h; omega), ?_⟩
    rw [walkL, if_neg hpf, hX.go]
    rfl
end Go.Proofs.YtcnmgiflogjfeaaDoor.Pa
