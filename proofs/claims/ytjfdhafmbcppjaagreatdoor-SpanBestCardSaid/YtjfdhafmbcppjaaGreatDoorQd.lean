/-
  Versions, walked: the next one; versions held against one another; small functions of the laws. Versions: plain laws of texts that are read. A new variable of several cells, and what is laid into it. Spans, walked: a word's sign, its bounds; the program's. Spans, walked: the reference's words, a word's bounds. Spans: rows of bounds, of lists of bounds, that grow; what they keep apart. Spans, walked: the reference's SpanOf. Spans, walked: does a bound hold of a version; is it near to one. Spans, walked: Has, the program's. Spans, walked: Has, the program's. Spans, walked: Has, the reference's. Regions that draw their order: an operation whose guard was itself passed over; cells of an element. Spans, walked: the best of versions, the program's.
-/
import Derived.Test.YtjfdhafmbcppjaaGreatDoorQc
import Derived.Test.YtjfdhafmbcppjaaGreatDoorQb
set_option linter.unusedVariables false
namespace Go.Proofs.YtjfdhafmbcppjaaGreatDoor.Ve
open Go.RowKit H S
attribute [local irreducible] H.CL H.RW H.CW H.Yd H.thenK H.blockQ Go.Calls

theorem refMore (n : Int) (h1 : n ≤ 9223372036854775807) (h0 : -9223372036854775808 ≤ n) (w : World) : Calls Tryz.prog 90 #[.int .i64 n] w fun e w' => w = w' ∧ e = .returned (.int .i64 (if n < 999999999 then n + 1 else n)) := by
  refine H.enter Tryz.func90 Tryz.ntmps90 rfl rfl ?_; dsimp only [H.args]
  repeat' (first | (refine CL.seq ?_) | (refine CL.region ?_) | (refine CL.skip ?_) | (refine CL.condP rfl (fun _ => ?_) (fun _ => ?_) <;> try (exfalso; omega)) | (refine CL.ret ?_) | (refine Gt.nil ?_; refine RW.nilw [0, 2, 4] ?_; dsimp only [H.keep, H.look, H.Fr.put, Nat.beq]) | (refine Gt.assign ?_; refine RW.y (Y.assign rfl) rfl ?_) | (refine Gt.move ?_; refine RW.y (Y.move rfl) rfl ?_) | (refine Gt.geq ?_; refine RW.y (Y.geq rfl rfl) rfl ?_) | (refine Gt.add ?_; refine RW.y (Y.add64 rfl rfl (by omega) (by omega)) rfl ?_))
  · exact FQ.one rfl rfl rfl ⟨rfl, ret_int (by rw [if_neg (by omega)])⟩
  · exact FQ.one rfl rfl rfl ⟨rfl, ret_int (by rw [if_pos (by omega)])⟩

/-- The three numbers fit a machine's. -/
def I64 (v : Ver) : Prop := (-9223372036854775808 ≤ v.a ∧ v.a ≤ 9223372036854775807) ∧ (-9223372036854775808 ≤ v.b ∧ v.b ≤ 9223372036854775807) ∧ (-9223372036854775808 ≤ v.c ∧ v.c ≤ 9223372036854775807)

set_option maxHeartbeats 1000000 in
theorem refNext (X : Value) (x : Ver) (part : Int) (w : World) (hX : VerAt w X x) (hx : I64 x) : Calls Tryz.prog 65 #[X, .int .i64 part] w fun e w' => K0 w w' ∧ e = .returned (verV (nextV x part) (.slice none 0 0)) := by
  obtain ⟨p, rfl, hp⟩ := hX
  obtain ⟨⟨a0, a1⟩, ⟨b0, b1⟩, ⟨c0, c1⟩⟩ := hx
  refine H.enter Tryz.func65 Tryz.ntmps65 rfl rfl ?_; dsimp only [H.args]
  repeat' (first | (refine CL.seq ?_) | (refine CL.region ?_))
  refine RW.box rfl rfl (fun w1 hb1 hk1 hlt1 => ?_)
  skip
  refine RW.alloc rfl (fun w2 hb2 hk2 hlt2 => ?_)
  have hX1 : w2.heap[w.heap.size]? = some (.cells #[.int .i64 x.a, .int .i64 x.b, .int .i64 x.c, p] verT (0, 0)) := hk2.at0 hb1
  repeat' (first | (refine CL.seq ?_) | (refine CL.region ?_) | (refine Gt.nil ?_; refine RW.nilw [0, 1, 2, 4, 6, 18, 22, 36] ?_; dsimp only [H.keep, H.look, H.Fr.put, Nat.beq]) | (refine Gt.fieldAddr ?_; refine RW.y (Y.fieldAddr rfl (by rfl)) rfl ?_))
  refine RW.storeB rfl rfl rfl hX1 (show (_ : Nat) < 4 from by decide) (fun w3 hb3 hk3 => ?_)
  have hr3 := hk3.at hb2 (fun c => by have c' : w1.heap.size = w.heap.size := c; omega)
  have hb3 : w3.heap[w.heap.size]? = some (.cells #[.int .i64 x.a, .int .i64 x.b, .int .i64 x.c, .slice none 0 0] verT (0, 0)) := hb3
  have hK3 : K0 w w3 := (hk1.trans0 hk2).trans hk3 fun k h => .inr (by have h' : k = w.heap.size := h; omega)
  have hsz := hk2.size
  repeat' (first | (refine CL.seq ?_) | (refine CL.region ?_) | (refine CL.skip ?_) | (refine CL.condP rfl (fun _ => ?_) (fun _ => ?_) <;> try (exfalso; omega)) | (refine CL.condF rfl ?_) | (refine CL.block ?_) | (refine CL.done ?_) | (refine Nm.block ?_) | (refine Gt.nil ?_; refine RW.nilw [0, 1, 2, 4, 6, 18, 22, 36] ?_; dsimp only [H.keep, H.look, H.Fr.put, Nat.beq]) | (refine Gt.load ?_; first | (refine RW.y (Y.loadB rfl (by assumption) rfl) rfl ?_) | (refine RW.y (Y.loadBlock rfl (by assumption) rfl) rfl ?_)) | (refine Gt.guard ?_; first | (refine RW.part rfl rfl rfl (fun _ => ?_) (fun _ => ?_) <;> try (exfalso; omega)) | (refine RW.on rfl rfl rfl ?_) | (refine RW.off1 rfl rfl rfl rfl rfl ?_)) | (refine Gt.fieldAddr ?_; refine RW.y (Y.fieldAddr rfl (by rfl)) rfl ?_) | (refine Gt.move ?_; refine RW.y (Y.move rfl) rfl ?_) | (refine Gt.eql ?_; refine RW.y (Y.eqi rfl rfl) rfl ?_) | (refine Gt.assign ?_; refine RW.y (Y.assign rfl) rfl ?_) | (refine Gt.lss ?_; refine RW.y (Y.lss rfl rfl) rfl ?_) | (refine Gt.pick ?_; first | (refine RW.y (Y.pickT rfl rfl) rfl ?_) | (refine RW.y (Y.pickF rfl rfl) rfl ?_)) | (refine Gt.add ?_; refine RW.y (Y.add64 rfl rfl (by omega) (by omega)) rfl ?_) | (refine RW.y (Y.build (ps := [(0, _)]) rfl rfl) rfl ?_) | (refine RW.y (Y.build (ps := [(0, _), (1, _)]) rfl rfl) rfl ?_))
  · rename_i h1 h2
    refine RW.storeBlock (u := #[.int .i64 (x.a + 1), .int .i64 0, .int .i64 0, .slice none 0 0]) rfl rfl rfl noCells hr3 rfl (fun w4 hb4 hk4 => ?_)
    repeat' (first | (refine CL.ret ?_) | (refine Rt.block ?_) | (refine Gt.nil ?_; refine RW.nilw [0, 1, 2, 4, 6, 18, 22, 36] ?_; dsimp only [H.keep, H.look, H.Fr.put, Nat.beq]))
    rw [show nextV x part = _ from by unfold nextV; rw [if_pos h1, if_pos h2]]
    exact FQ.res1 (v := _) rfl rfl ⟨⟨_, rfl, load_block hb4 rfl⟩, trivial⟩ (⟨hK3.trans hk4 fun k h => .inr (by have h' : k = w1.heap.size := h; omega), rfl⟩)
  · rename_i h1 h2 _
    refine RW.storeBlock (u := #[.int .i64 x.a, .int .i64 x.b, .int .i64 x.c, .slice none 0 0]) rfl rfl rfl noCells hr3 rfl (fun w4 hb4 hk4 => ?_)
    repeat' (first | (refine CL.ret ?_) | (refine Rt.block ?_) | (refine Gt.nil ?_; refine RW.nilw [0, 1, 2, 4, 6, 18, 22, 36] ?_; dsimp only [H.keep, H.look, H.Fr.put, Nat.beq]))
    rw [show nextV x part = _ from by unfold nextV; rw [if_pos h1, if_neg h2]]
    exact FQ.res1 (v := _) rfl rfl ⟨⟨_, rfl, load_block hb4 rfl⟩, trivial⟩ (⟨hK3.trans hk4 fun k h => .inr (by have h' : k = w1.heap.size := h; omega), rfl⟩)
  · rename_i h1 _ h2 h3
    refine RW.storeBlock (u := #[.int .i64 x.a, .int .i64 (x.b + 1), .int .i64 0, .slice none 0 0]) rfl rfl rfl noCells hr3 rfl (fun w4 hb4 hk4 => ?_)
    repeat' (first | (refine CL.ret ?_) | (refine Rt.block ?_) | (refine Gt.nil ?_; refine RW.nilw [0, 1, 2, 4, 6, 18, 22, 36] ?_; dsimp only [H.keep, H.look, H.Fr.put, Nat.beq]))
    rw [show nextV x part = _ from by unfold nextV; rw [if_neg h1, if_pos h2, if_pos h3]]
    exact FQ.res1 (v := _) rfl rfl ⟨⟨_, rfl, load_block hb4 rfl⟩, trivial⟩ (⟨hK3.trans hk4 fun k h => .inr (by have h' : k = w1.heap.size := h; omega), rfl⟩)
  · rename_i h1 _ h2 h3 _
    refine RW.storeBlock (u := #[.int .i64 x.a, .int .i64 x.b, .int .i64 x.c, .slice none 0 0]) rfl rfl rfl noCells hr3 rfl (fun w4 hb4 hk4 => ?_)
    repeat' (first | (refine CL.ret ?_) | (refine Rt.block ?_) | (refine Gt.nil ?_; refine RW.nilw [0, 1, 2, 4, 6, 18, 22, 36] ?_; dsimp only [H.keep, H.look, H.Fr.put, Nat.beq]))
    rw [show nextV x part = _ from by unfold nextV; rw [if_neg h1, if_pos h2, if_neg h3]]
    exact FQ.res1 (v := _) rfl rfl ⟨⟨_, rfl, load_block hb4 rfl⟩, trivial⟩ (⟨hK3.trans hk4 fun k h => .inr (by have h' : k = w1.heap.size := h; omega), rfl⟩)
  · rename_i h1 _ h2 _
    refine RW.fn rfl rfl ((refMore x.c c1 c0 w3).mono ?_)
    rintro e w' ⟨rfl, rfl⟩
    repeat' ((refine Gt.fieldAddr ?_; refine RW.y (Y.fieldAddr rfl (by rfl)) rfl ?_))
    refine RW.storeB rfl rfl rfl hb3 (show (_ : Nat) < 4 from by decide) (fun w5 hb5 hk5 => ?_)
    have hb5 : w5.heap[w.heap.size]? = some (.cells #[.int .i64 x.a, .int .i64 x.b, .int .i64 (if x.c < 999999999 then x.c + 1 else x.c), .slice none 0 0] verT (0, 0)) := hb5
    have hr5 := hk5.at hr3 (fun c => by have c' : w1.heap.size = w.heap.size := c; omega)
    have hK5 : K0 w w5 := hK3.trans hk5 fun k h => .inr (by have h' : k = w.heap.size := h; omega)
    repeat' (first | (refine CL.seq ?_) | (refine CL.region ?_) | (refine Gt.nil ?_; refine RW.nilw [0, 1, 2, 4, 6, 18, 22, 36] ?_; dsimp only [H.keep, H.look, H.Fr.put, Nat.beq]) | (refine Gt.load ?_; (refine RW.y (Y.loadBlock rfl (by assumption) rfl) rfl ?_)))
    refine RW.storeBlock rfl rfl rfl noCells hr5 rfl (fun w4 hb4 hk4 => ?_)
    repeat' (first | (refine CL.ret ?_) | (refine Gt.nil ?_; refine RW.nilw [0, 1, 2, 4, 6, 18, 22, 36] ?_; dsimp only [H.keep, H.look, H.Fr.put, Nat.beq]))
    rw [show nextV x part = ⟨x.a, x.b, if x.c < 999999999 then x.c + 1 else x.c, []⟩ from by unfold nextV; rw [if_neg h1, if_neg h2]; split <;> rfl]
    exact FQ.res1 (v := _) rfl rfl ⟨⟨_, rfl, load_block hb4 rfl⟩, trivial⟩ (⟨hK5.trans hk4 fun k h => .inr (by have h' : k = w1.heap.size := h; omega), rfl⟩)

theorem ptr_cells {g : Nat} {l : List Nat} : ∀ v ∈ l.map (fun j => Value.pointer (some ⟨g, j, none⟩)), v.cells.size = 1 := by
  intro v hv
  obtain ⟨x, _, rfl⟩ := List.mem_map.1 hv
  rfl

set_option maxHeartbeats 2000000 in
theorem next (X : Value) (x : Ver) (part : Int) (w : World) (hX : VerAt w X x) (hx : I64 x) : Calls Tryz.prog 64 #[X, .int .i64 part] w fun e w' => K0 w w' ∧ e = .returned (verV (nextV x part) (.slice none 0 0)) := by
  obtain ⟨p, rfl, hp⟩ := hX
  obtain ⟨⟨a0, a1⟩, ⟨b0, b1⟩, ⟨c0, c1⟩⟩ := hx
  refine H.enter Tryz.func64 Tryz.ntmps64 rfl rfl ?_; dsimp only [H.args]
  repeat' (first | (refine CL.seq ?_) | (refine CL.region ?_))
  refine RW.box rfl rfl (fun w1 hb1 hk1 hlt1 => ?_)
  skip
  refine RW.alloc rfl (fun w2 hb2 hk2 hlt2 => ?_)
  have hX1 : w2.heap[w.heap.size]? = some (.cells #[.int .i64 x.a, .int .i64 x.b, .int .i64 x.c, p] verT (0, 0)) := hk2.at0 hb1
  repeat' (first | (refine CL.seq ?_) | (refine CL.region ?_) | (refine Gt.nil ?_; refine RW.nilw [0, 1, 2, 4, 5, 7, 18, 25, 38, 39, 40, 41] ?_; dsimp only [H.keep, H.look, H.Fr.put, Nat.beq]) | (refine Gt.fieldAddr ?_; refine RW.y (Y.fieldAddr rfl (by rfl)) rfl ?_))
  refine RW.storeB rfl rfl rfl hX1 (show (_ : Nat) < 4 from by decide) (fun w3 hb3 hk3 => ?_)
  have hr3 := hk3.at hb2 (fun c => by have c' : w1.heap.size = w.heap.size := c; omega)
  have hb3 : w3.heap[w.heap.size]? = some (.cells #[.int .i64 x.a, .int .i64 x.b, .int .i64 x.c, .slice none 0 0] verT (0, 0)) := hb3
  have hK3 : K0 w w3 := (hk1.trans0 hk2).trans hk3 fun k h => .inr (by have h' : k = w.heap.size := h; omega)
  have hsz := hk2.size
  repeat' (first | (refine CL.seq ?_) | (refine CL.region ?_) | (refine Gt.nil ?_; refine RW.nilw [0, 1, 2, 4, 5, 7, 18, 25, 38, 39, 40, 41] ?_; dsimp only [H.keep, H.look, H.Fr.put, Nat.beq]) | (refine Gt.fieldAddr ?_; refine RW.y (Y.fieldAddr rfl (by rfl)) rfl ?_))
  refine RW.buildL (ps := [(0, _), (1, _), (2, _)]) (l := [0, 1, 2].map (fun j => Value.pointer (some ⟨w.heap.size, j, none⟩))) rfl rfl rfl ptr_cells rfl rfl (fun w4 hb4 hk4 hlt4 => ?_)
  have hb34 := hk4.at0 hb3
  have hr4 := hk4.at0 hr3
  have hK4 : K0 w w4 := hK3.trans0 hk4
  have hsl4 : Sl w4 1 (.slice (some ⟨w3.heap.size, 0, none⟩) 3 3) 3 ([0, 1, 2].map (fun j : Nat => Value.pointer (some ⟨w.heap.size, j, none⟩))) := sl_new hb4 rfl (show (3 : Nat) ≤ 1000000 from by decide)
  have hw13 : w1.heap.size < w3.heap.size := by have := hk3.size; omega
  have h3l : ([0, 1, 2] : List Nat).length = 3 := rfl
  rcases (by omega : part = 0 ∨ part = 1 ∨ (part ≠ 0 ∧ part ≠ 1)) with rfl | rfl | ⟨h0, h1⟩
  · repeat' (first | (refine CL.seq ?_) | (refine CL.region ?_) | (refine CL.skip ?_) | (refine CL.condP rfl (fun _ => ?_) (fun _ => ?_) <;> try (exfalso; omega)) | (refine CL.condF rfl ?_) | (refine Gt.nil ?_; refine RW.nilw [0, 1, 2, 4, 5, 7, 18, 25, 38, 39, 40, 41] ?_; dsimp only [H.keep, H.look, H.Fr.put, Nat.beq]) | (refine Gt.move ?_; refine RW.y (Y.move rfl) rfl ?_) | (refine Gt.guard ?_; first | (refine RW.part rfl rfl rfl (fun _ => ?_) (fun _ => ?_) <;> try (exfalso; omega)) | (refine RW.off1 rfl rfl rfl rfl rfl ?_)) | (refine Gt.load ?_; first | (refine RW.y (Y.loadB rfl (by assumption) rfl) rfl ?_) | (refine RW.y (Y.loadBlock rfl (by assumption) rfl) rfl ?_)) | (refine Gt.nilck ?_; refine RW.y (Y.nilck rfl) rfl ?_) | (refine Gt.assign ?_; refine RW.y (Y.assign rfl) rfl ?_) | (refine Gt.idx ?_; refine RW.elemM rfl rfl rfl rfl (by assumption) (by omega) (by omega) ?_) | (refine Gt.add ?_; refine RW.y (Y.add64 rfl rfl (by omega) (by omega)) rfl ?_) | (refine Gt.neq ?_; refine RW.y (Y.nei rfl rfl) rfl ?_) | (refine Gt.pick ?_; (refine RW.y (Y.pickF rfl rfl) rfl ?_)) | (refine Gt.geq ?_; refine RW.y (Y.geq rfl rfl) rfl ?_))
    · rename_i h9
      refine RW.storeBlock (u := #[.int .i64 x.a, .int .i64 x.b, .int .i64 x.c, .slice none 0 0]) rfl rfl rfl noCells hr4 rfl (fun w5 hb5 hk5 => ?_)
      repeat' (first | (refine CL.ret ?_) | (refine Gt.nil ?_; refine RW.nilw [0, 1, 2, 4, 5, 7, 18, 25, 38, 39, 40, 41] ?_; dsimp only [H.keep, H.look, H.Fr.put, Nat.beq]))
      rw [show nextV x 0 = ⟨x.a, x.b, x.c, []⟩ from by unfold nextV; rw [if_pos rfl, if_neg (by omega)]]
      exact FQ.res1 (v := _) rfl rfl ⟨⟨_, rfl, load_block hb5 rfl⟩, trivial⟩ (⟨hK4.trans hk5 fun k h => .inr (by have h' : k = w1.heap.size := h; omega), rfl⟩)
    · rename_i h9
      refine RW.storeB rfl rfl rfl hb34 (show (_ : Nat) < 4 from by decide) (fun w5 hb5 hk5 => ?_)
      have hb5 : w5.heap[w.heap.size]? = some (.cells #[.int .i64 (x.a + 1), .int .i64 x.b, .int .i64 x.c, .slice none 0 0] verT (0, 0)) := hb5
      have hr5 := hk5.at hr4 (fun c => by have c' : w1.heap.size = w.heap.size := c; omega)
      have hK5 : K0 w w5 := hK4.trans hk5 fun k h => .inr (by have h' : k = w.heap.size := h; omega)
      have hsl5 := hsl4.keep hk5 (fun g hg c => by have hg' : w3.heap.size = g := by simpa [live] using hg
                                                   have c' : g = w.heap.size := c
                                                   omega)
      repeat' (first | (refine CL.seq ?_) | (refine CL.region ?_) | (refine Gt.nil ?_; refine RW.nilw [0, 1, 2, 4, 5, 7, 18, 25, 38, 39, 40, 41] ?_; dsimp only [H.keep, H.look, H.Fr.put, Nat.beq]) | (refine Gt.move ?_; refine RW.y (Y.move rfl) rfl ?_) | (refine Gt.add ?_; refine RW.y (Y.add64 rfl rfl (by omega) (by omega)) rfl ?_))
      refine RW.subl rfl rfl rfl hsl5 (by decide) (by decide) (fun v6 hs6 hl6 => ?_)
      have hs6 : Sl w5 1 v6 2 (([1, 2] : List Nat).map (fun j => Value.pointer (some ⟨w.heap.size, j, none⟩))) := hs6
      have hl7 : ([1, 2] : List Nat).length = 2 := rfl
      have hlv : ∀ g, live v6 = some g → g = w3.heap.size := fun g hg => by have := hl6 g hg; simp [live] at this; exact this.symm
      repeat' (first | (refine CL.block ?_) | (refine Gt.nil ?_; refine RW.nilw [0, 1, 2, 4, 5, 7, 18, 25, 38, 39, 40, 41] ?_; dsimp only [H.keep, H.look, H.Fr.put, Nat.beq]) | (refine Gt.move ?_; refine RW.y (Y.move rfl) rfl ?_) | (refine Gt.len ?_; (refine RW.y (Y.lenx rfl (by assumption)) rfl ?_)))
      refine CL.loopS [2, 4, 38, 39, 40] (fun k vals wr => ∃ (i : Nat), vals = [.pointer (some ⟨w.heap.size, 0, none⟩), .pointer (some ⟨w1.heap.size, 0, none⟩), v6, .int .i64 2, .int .i64 (i : Int)] ∧ k = 2 - i ∧ i ≤ 2 ∧ Kept (fun k => k = w.heap.size) w5 wr ∧
        wr.heap[w.heap.size]? = some (.cells #[.int .i64 (x.a + 1), .int .i64 (if 0 < i then 0 else x.b), .int .i64 (if 1 < i then 0 else x.c), .slice none 0 0] verT (0, 0))) 2 ⟨_, rfl, 0, rfl, rfl, Nat.zero_le _, Kept.refl _ _, hb5⟩ ?_
      rintro k vals wr ⟨i, rfl, rfl, hi, hkr, hbr⟩
      dsimp only [List.zip, List.zipWith]
      have hsr := hs6.keep hkr fun g hg c => by have := hlv g hg; have c' : g = w.heap.size := c; omega
      have hrr := hkr.at hr5 (fun c => by have c' : w1.heap.size = w.heap.size := c; omega)
      have hKr : K0 w wr := hK5.trans hkr fun k h => .inr (by have h' : k = w.heap.size := h; omega)
      rcases (by omega : i = 0 ∨ i = 1 ∨ i = 2) with rfl | rfl | rfl
      · repeat' (first | (refine CL.seq ?_) | (refine CL.region ?_) | (refine CL.skip ?_) | (refine CL.condP rfl (fun _ => ?_) (fun _ => ?_) <;> try (exfalso; omega)) | (refine CL.block ?_) | (refine Gt.nil ?_; refine RW.nilw [0, 1, 2, 4, 5, 7, 18, 25, 38, 39, 40, 41] ?_; dsimp only [H.keep, H.look, H.Fr.put, Nat.beq]) | (refine Gt.move ?_; refine RW.y (Y.move rfl) rfl ?_) | (refine Gt.nilck ?_; refine RW.y (Y.nilck rfl) rfl ?_) | (refine Gt.assign ?_; refine RW.y (Y.assign rfl) rfl ?_) | (refine Gt.idx ?_; refine RW.elemM rfl rfl rfl rfl (by assumption) (by omega) (by omega) ?_) | (refine Gt.lss ?_; refine RW.y (Y.lss rfl rfl) rfl ?_))
        refine RW.storeB rfl rfl rfl hbr (show (_ : Nat) < 4 from by decide) (fun w7 hb7 hk7 => ?_)
        repeat' (first | (refine CL.region ?_) | (refine CL.done ?_) | (refine Nm.block ?_) | (refine Nm.then ?_) | (refine Gt.nil ?_; refine RW.nilw [0, 1, 2, 4, 5, 7, 18, 25, 38, 39, 40, 41] ?_; dsimp only [H.keep, H.look, H.Fr.put, Nat.beq]) | (refine Gt.move ?_; refine RW.y (Y.move rfl) rfl ?_) | (refine Gt.add ?_; refine RW.y (Y.add64 rfl rfl (by omega) (by omega)) rfl ?_))
        exact ⟨2 - (0 + 1), _, rfl, rfl, rfl, by omega, 0 + 1, rfl, rfl, by omega, hkr.trans hk7 fun k h => .inl h, hb7⟩
      · repeat' (first | (refine CL.seq ?_) | (refine CL.region ?_) | (refine CL.skip ?_) | (refine CL.condP rfl (fun _ => ?_) (fun _ => ?_) <;> try (exfalso; omega)) | (refine CL.block ?_) | (refine Gt.nil ?_; refine RW.nilw [0, 1, 2, 4, 5, 7, 18, 25, 38, 39, 40, 41] ?_; dsimp only [H.keep, H.look, H.Fr.put, Nat.beq]) | (refine Gt.move ?_; refine RW.y (Y.move rfl) rfl ?_) | (refine Gt.nilck ?_; refine RW.y (Y.nilck rfl) rfl ?_) | (refine Gt.assign ?_; refine RW.y (Y.assign rfl) rfl ?_) | (refine Gt.idx ?_; refine RW.elemM rfl rfl rfl rfl (by assumption) (by omega) (by omega) ?_) | (refine Gt.lss ?_; refine RW.y (Y.lss rfl rfl) rfl ?_))
        refine RW.storeB rfl rfl rfl hbr (show (_ : Nat) < 4 from by decide) (fun w7 hb7 hk7 => ?_)
        repeat' (first | (refine CL.region ?_) | (refine CL.done ?_) | (refine Nm.block ?_) | (refine Nm.then ?_) | (refine Gt.nil ?_; refine RW.nilw [0, 1, 2, 4, 5, 7, 18, 25, 38, 39, 40, 41] ?_; dsimp only [H.keep, H.look, H.Fr.put, Nat.beq]) | (refine Gt.move ?_; refine RW.y (Y.move rfl) rfl ?_) | (refine Gt.add ?_; refine RW.y (Y.add64 rfl rfl (by omega) (by omega)) rfl ?_))
        exact ⟨2 - (1 + 1), _, rfl, rfl, rfl, by omega, 1 + 1, rfl, rfl, by omega, hkr.trans hk7 fun k h => .inl h, hb7⟩
      · repeat' (first | (refine CL.seq ?_) | (refine CL.region ?_) | (refine CL.condP rfl (fun _ => ?_) (fun _ => ?_) <;> try (exfalso; omega)) | (refine CL.exit ?_) | (refine Ex.then ?_) | (refine Ex.hit ?_) | (refine Gt.nil ?_; refine RW.nilw [0, 1, 2, 4, 5, 7, 18, 25, 38, 39, 40, 41] ?_; dsimp only [H.keep, H.look, H.Fr.put, Nat.beq]) | (refine Gt.load ?_; (refine RW.y (Y.loadBlock rfl (by assumption) rfl) rfl ?_)) | (refine Gt.lss ?_; refine RW.y (Y.lss rfl rfl) rfl ?_))
        refine RW.storeBlock (u := #[.int .i64 (x.a + 1), .int .i64 0, .int .i64 0, .slice none 0 0]) rfl rfl rfl noCells hrr rfl (fun w7 hb7 hk7 => ?_)
        repeat' (first | (refine CL.ret ?_) | (refine Gt.nil ?_; refine RW.nilw [0, 1, 2, 4, 5, 7, 18, 25, 38, 39, 40, 41] ?_; dsimp only [H.keep, H.look, H.Fr.put, Nat.beq]))
        rw [show nextV x 0 = ⟨(x.a + 1), 0, 0, []⟩ from by unfold nextV; rw [if_pos rfl, if_pos (by omega)]]
        exact FQ.res1 (v := _) rfl rfl ⟨⟨_, rfl, load_block hb7 rfl⟩, trivial⟩ (⟨hKr.trans hk7 fun k h => .inr (by have h' : k = w1.heap.size := h; omega), rfl⟩)
  · repeat' (first | (refine CL.seq ?_) | (refine CL.region ?_) | (refine CL.skip ?_) | (refine CL.condP rfl (fun _ => ?_) (fun _ => ?_) <;> try (exfalso; omega)) | (refine Gt.nil ?_; refine RW.nilw [0, 1, 2, 4, 5, 7, 18, 25, 38, 39, 40, 41] ?_; dsimp only [H.keep, H.look, H.Fr.put, Nat.beq]) | (refine Gt.move ?_; refine RW.y (Y.move rfl) rfl ?_) | (refine Gt.guard ?_; first | (refine RW.part rfl rfl rfl (fun _ => ?_) (fun _ => ?_) <;> try (exfalso; omega)) | (refine RW.on rfl rfl rfl ?_)) | (refine Gt.load ?_; first | (refine RW.y (Y.loadB rfl (by assumption) rfl) rfl ?_) | (refine RW.y (Y.loadBlock rfl (by assumption) rfl) rfl ?_)) | (refine Gt.nilck ?_; refine RW.y (Y.nilck rfl) rfl ?_) | (refine Gt.assign ?_; refine RW.y (Y.assign rfl) rfl ?_) | (refine Gt.idx ?_; refine RW.elemM rfl rfl rfl rfl (by assumption) (by omega) (by omega) ?_) | (refine Gt.add ?_; refine RW.y (Y.add64 rfl rfl (by omega) (by omega)) rfl ?_) | (refine Gt.neq ?_; refine RW.y (Y.nei rfl rfl) rfl ?_) | (refine Gt.pick ?_; (refine RW.y (Y.pickT rfl rfl) rfl ?_)) | (refine Gt.geq ?_; refine RW.y (Y.geq rfl rfl) rfl ?_))
    · rename_i h9
      refine RW.storeBlock (u := #[.int .i64 x.a, .int .i64 x.b, .int .i64 x.c, .slice none 0 0]) rfl rfl rfl noCells hr4 rfl (fun w5 hb5 hk5 => ?_)
      repeat' (first | (refine CL.ret ?_) | (refine Gt.nil ?_; refine RW.nilw [0, 1, 2, 4, 5, 7, 18, 25, 38, 39, 40, 41] ?_; dsimp only [H.keep, H.look, H.Fr.put, Nat.beq]))
      rw [show nextV x 1 = ⟨x.a, x.b, x.c, []⟩ from by unfold nextV; rw [if_neg (by decide), if_pos rfl, if_neg (by omega)]]
      exact FQ.res1 (v := _) rfl rfl ⟨⟨_, rfl, load_block hb5 rfl⟩, trivial⟩ (⟨hK4.trans hk5 fun k h => .inr (by have h' : k = w1.heap.size := h; omega), rfl⟩)
    · rename_i h9
      refine RW.storeB rfl rfl rfl hb34 (show (_ : Nat) < 4 from by decide) (fun w5 hb5 hk5 => ?_)
      have hb5 : w5.heap[w.heap.size]? = some (.cells #[.int .i64 x.a, .int .i64 (x.b + 1), .int .i64 x.c, .slice none 0 0] verT (0, 0)) := hb5
      have hr5 := hk5.at hr4 (fun c => by have c' : w1.heap.size = w.heap.size := c; omega)
      have hK5 : K0 w w5 := hK4.trans hk5 fun k h => .inr (by have h' : k = w.heap.size := h; omega)
      have hsl5 := hsl4.keep hk5 (fun g hg c => by have hg' : w3.heap.size = g := by simpa [live] using hg
                                                   have c' : g = w.heap.size := c
                                                   omega)
      repeat' (first | (refine CL.seq ?_) | (refine CL.region ?_) | (refine Gt.nil ?_; refine RW.nilw [0, 1, 2, 4, 5, 7, 18, 25, 38, 39, 40, 41] ?_; dsimp only [H.keep, H.look, H.Fr.put, Nat.beq]) | (refine Gt.move ?_; refine RW.y (Y.move rfl) rfl ?_) | (refine Gt.add ?_; refine RW.y (Y.add64 rfl rfl (by omega) (by omega)) rfl ?_))
      refine RW.subl rfl rfl rfl hsl5 (by decide) (by decide) (fun v6 hs6 hl6 => ?_)
      have hs6 : Sl w5 1 v6 1 (([2] : List Nat).map (fun j => Value.pointer (some ⟨w.heap.size, j, none⟩))) := hs6
      have hl7 : ([2] : List Nat).length = 1 := rfl
      have hlv : ∀ g, live v6 = some g → g = w3.heap.size := fun g hg => by have := hl6 g hg; simp [live] at this; exact this.symm
      repeat' (first | (refine CL.block ?_) | (refine Gt.nil ?_; refine RW.nilw [0, 1, 2, 4, 5, 7, 18, 25, 38, 39, 40, 41] ?_; dsimp only [H.keep, H.look, H.Fr.put, Nat.beq]) | (refine Gt.move ?_; refine RW.y (Y.move rfl) rfl ?_) | (refine Gt.len ?_; (refine RW.y (Y.lenx rfl (by assumption)) rfl ?_)))
      refine CL.loopS [2, 4, 38, 39, 40] (fun k vals wr => ∃ (i : Nat), vals = [.pointer (some ⟨w.heap.size, 0, none⟩), .pointer (some ⟨w1.heap.size, 0, none⟩), v6, .int .i64 1, .int .i64 (i : Int)] ∧ k = 1 - i ∧ i ≤ 1 ∧ Kept (fun k => k = w.heap.size) w5 wr ∧
        wr.heap[w.heap.size]? = some (.cells #[.int .i64 x.a, .int .i64 (x.b + 1), .int .i64 (if 0 < i then 0 else x.c), .slice none 0 0] verT (0, 0))) 1 ⟨_, rfl, 0, rfl, rfl, Nat.zero_le _, Kept.refl _ _, hb5⟩ ?_
      rintro k vals wr ⟨i, rfl, rfl, hi, hkr, hbr⟩
      dsimp only [List.zip, List.zipWith]
      have hsr := hs6.keep hkr fun g hg c => by have := hlv g hg; have c' : g = w.heap.size := c; omega
      have hrr := hkr.at hr5 (fun c => by have c' : w1.heap.size = w.heap.size := c; omega)
      have hKr : K0 w wr := hK5.trans hkr fun k h => .inr (by have h' : k = w.heap.size := h; omega)
      rcases (by omega : i = 0 ∨ i = 1) with rfl | rfl
      · repeat' (first | (refine CL.seq ?_) | (refine CL.region ?_) | (refine CL.skip ?_) | (refine CL.condP rfl (fun _ => ?_) (fun _ => ?_) <;> try (exfalso; omega)) | (refine CL.block ?_) | (refine Gt.nil ?_; refine RW.nilw [0, 1, 2, 4, 5, 7, 18, 25, 38, 39, 40, 41] ?_; dsimp only [H.keep, H.look, H.Fr.put, Nat.beq]) | (refine Gt.move ?_; refine RW.y (Y.move rfl) rfl ?_) | (refine Gt.nilck ?_; refine RW.y (Y.nilck rfl) rfl ?_) | (refine Gt.assign ?_; refine RW.y (Y.assign rfl) rfl ?_) | (refine Gt.idx ?_; refine RW.elemM rfl rfl rfl rfl (by assumption) (by omega) (by omega) ?_) | (refine Gt.lss ?_; refine RW.y (Y.lss rfl rfl) rfl ?_))
        refine RW.storeB rfl rfl rfl hbr (show (_ : Nat) < 4 from by decide) (fun w7 hb7 hk7 => ?_)
        repeat' (first | (refine CL.region ?_) | (refine CL.done ?_) | (refine Nm.block ?_) | (refine Nm.then ?_) | (refine Gt.nil ?_; refine RW.nilw [0, 1, 2, 4, 5, 7, 18, 25, 38, 39, 40, 41] ?_; dsimp only [H.keep, H.look, H.Fr.put, Nat.beq]) | (refine Gt.move ?_; refine RW.y (Y.move rfl) rfl ?_) | (refine Gt.add ?_; refine RW.y (Y.add64 rfl rfl (by omega) (by omega)) rfl ?_))
        exact ⟨1 - (0 + 1), _, rfl, rfl, rfl, by omega, 0 + 1, rfl, rfl, by omega, hkr.trans hk7 fun k h => .inl h, hb7⟩
      · repeat' (first | (refine CL.seq ?_) | (refine CL.region ?_) | (refine CL.condP rfl (fun _ => ?_) (fun _ => ?_) <;> try (exfalso; omega)) | (refine CL.exit ?_) | (refine Ex.then ?_) | (refine Ex.hit ?_) | (refine Gt.nil ?_; refine RW.nilw [0, 1, 2, 4, 5, 7, 18, 25, 38, 39, 40, 41] ?_; dsimp only [H.keep, H.look, H.Fr.put, Nat.beq]) | (refine Gt.load ?_; (refine RW.y (Y.loadBlock rfl (by assumption) rfl) rfl ?_)) | (refine Gt.lss ?_; refine RW.y (Y.lss rfl rfl) rfl ?_))
        refine RW.storeBlock (u := #[.int .i64 x.a, .int .i64 (x.b + 1), .int .i64 0, .slice none 0 0]) rfl rfl rfl noCells hrr rfl (fun w7 hb7 hk7 => ?_)
        repeat' (first | (refine CL.ret ?_) | (refine Gt.nil ?_; refine RW.nilw [0, 1, 2, 4, 5, 7, 18, 25, 38, 39, 40, 41] ?_; dsimp only [H.keep, H.look, H.Fr.put, Nat.beq]))
        rw [show nextV x 1 = ⟨x.a, (x.b + 1), 0, []⟩ from by unfold nextV; rw [if_neg (by decide), if_pos rfl, if_pos (by omega)]]
        exact FQ.res1 (v := _) rfl rfl ⟨⟨_, rfl, load_block hb7 rfl⟩, trivial⟩ (⟨hKr.trans hk7 fun k h => .inr (by have h' : k = w1.heap.size := h; omega), rfl⟩)
  · repeat' (first | (refine CL.seq ?_) | (refine CL.region ?_) | (refine CL.skip ?_) | (refine CL.condP rfl (fun _ => ?_) (fun _ => ?_) <;> try (exfalso; omega)) | (refine Gt.nil ?_; refine RW.nilw [0, 1, 2, 4, 5, 7, 18, 25, 38, 39, 40, 41] ?_; dsimp only [H.keep, H.look, H.Fr.put, Nat.beq]) | (refine Gt.move ?_; refine RW.y (Y.move rfl) rfl ?_) | (refine Gt.guard ?_; first | (refine RW.part rfl rfl rfl (fun _ => ?_) (fun _ => ?_) <;> try (exfalso; omega)) | (refine RW.on rfl rfl rfl ?_)) | (refine Gt.load ?_; first | (refine RW.y (Y.loadB rfl (by assumption) rfl) rfl ?_) | (refine RW.y (Y.loadBlock rfl (by assumption) rfl) rfl ?_)) | (refine Gt.nilck ?_; refine RW.y (Y.nilck rfl) rfl ?_) | (refine Gt.assign ?_; refine RW.y (Y.assign rfl) rfl ?_) | (refine Gt.idx ?_; refine RW.elemM rfl rfl rfl rfl (by assumption) (by omega) (by omega) ?_) | (refine Gt.add ?_; refine RW.y (Y.add64 rfl rfl (by omega) (by omega)) rfl ?_) | (refine Gt.neq ?_; refine RW.y (Y.nei rfl rfl) rfl ?_) | (refine Gt.pick ?_; (refine RW.y (Y.pickT rfl rfl) rfl ?_)) | (refine Gt.geq ?_; refine RW.y (Y.geq rfl rfl) rfl ?_))
    · rename_i h9
      refine RW.storeBlock (u := #[.int .i64 x.a, .int .i64 x.b, .int .i64 x.c, .slice none 0 0]) rfl rfl rfl noCells hr4 rfl (fun w5 hb5 hk5 => ?_)
      repeat' (first | (refine CL.ret ?_) | (refine Gt.nil ?_; refine RW.nilw [0, 1, 2, 4, 5, 7, 18, 25, 38, 39, 40, 41] ?_; dsimp only [H.keep, H.look, H.Fr.put, Nat.beq]))
      rw [show nextV x part = ⟨x.a, x.b, x.c, []⟩ from by unfold nextV; rw [if_neg h0, if_neg h1, if_neg (by omega)]]
      exact FQ.res1 (v := _) rfl rfl ⟨⟨_, rfl, load_block hb5 rfl⟩, trivial⟩ (⟨hK4.trans hk5 fun k h => .inr (by have h' : k = w1.heap.size := h; omega), rfl⟩)
    · rename_i h9
      refine RW.storeB rfl rfl rfl hb34 (show (_ : Nat) < 4 from by decide) (fun w5 hb5 hk5 => ?_)
      have hb5 : w5.heap[w.heap.size]? = some (.cells #[.int .i64 x.a, .int .i64 x.b, .int .i64 (x.c + 1), .slice none 0 0] verT (0, 0)) := hb5
      have hr5 := hk5.at hr4 (fun c => by have c' : w1.heap.size = w.heap.size := c; omega)
      have hK5 : K0 w w5 := hK4.trans hk5 fun k h => .inr (by have h' : k = w.heap.size := h; omega)
      have hsl5 := hsl4.keep hk5 (fun g hg c => by have hg' : w3.heap.size = g := by simpa [live] using hg
                                                   have c' : g = w.heap.size := c
                                                   omega)
      repeat' (first | (refine CL.seq ?_) | (refine CL.region ?_) | (refine Gt.nil ?_; refine RW.nilw [0, 1, 2, 4, 5, 7, 18, 25, 38, 39, 40, 41] ?_; dsimp only [H.keep, H.look, H.Fr.put, Nat.beq]) | (refine Gt.move ?_; refine RW.y (Y.move rfl) rfl ?_) | (refine Gt.add ?_; refine RW.y (Y.add64 rfl rfl (by omega) (by omega)) rfl ?_))
      refine RW.subl rfl rfl rfl hsl5 (by decide) (by decide) (fun v6 hs6 hl6 => ?_)
      have hs6 : Sl w5 1 v6 0 (([] : List Nat).map (fun j => Value.pointer (some ⟨w.heap.size, j, none⟩))) := hs6
      have hl7 : ([] : List Nat).length = 0 := rfl
      have hlv : ∀ g, live v6 = some g → g = w3.heap.size := fun g hg => by have := hl6 g hg; simp [live] at this; exact this.symm
      repeat' (first | (refine CL.block ?_) | (refine Gt.nil ?_; refine RW.nilw [0, 1, 2, 4, 5, 7, 18, 25, 38, 39, 40, 41] ?_; dsimp only [H.keep, H.look, H.Fr.put, Nat.beq]) | (refine Gt.move ?_; refine RW.y (Y.move rfl) rfl ?_) | (refine Gt.len ?_; (refine RW.y (Y.lenx rfl (by assumption)) rfl ?_)))
      refine CL.loopS [2, 4, 38, 39, 40] (fun k vals wr => ∃ (i : Nat), vals = [.pointer (some ⟨w.heap.size, 0, none⟩), .pointer (some ⟨w1.heap.size, 0, none⟩), v6, .int .i64 0, .int .i64 (i : Int)] ∧ k = 0 - i ∧ i ≤ 0 ∧ Kept (fun k => k = w.heap.size) w5 wr ∧
        wr.heap[w.heap.size]? = some (.cells #[.int .i64 x.a, .int .i64 x.b, .int .i64 (x.c + 1), .slice none 0 0] verT (0, 0))) 0 ⟨_, rfl, 0, rfl, rfl, Nat.zero_le _, Kept.refl _ _, hb5⟩ ?_
      rintro k vals wr ⟨i, rfl, rfl, hi, hkr, hbr⟩
      dsimp only [List.zip, List.zipWith]
      have hsr := hs6.keep hkr fun g hg c => by have := hlv g hg; have c' : g = w.heap.size := c; omega
      have hrr := hkr.at hr5 (fun c => by have c' : w1.heap.size = w.heap.size := c; omega)
      have hKr : K0 w wr := hK5.trans hkr fun k h => .inr (by have h' : k = w.heap.size := h; omega)
      rcases (by omega : i = 0) with rfl
      · repeat' (first | (refine CL.seq ?_) | (refine CL.region ?_) | (refine CL.condP rfl (fun _ => ?_) (fun _ => ?_) <;> try (exfalso; omega)) | (refine CL.exit ?_) | (refine Ex.then ?_) | (refine Ex.hit ?_) | (refine Gt.nil ?_; refine RW.nilw [0, 1, 2, 4, 5, 7, 18, 25, 38, 39, 40, 41] ?_; dsimp only [H.keep, H.look, H.Fr.put, Nat.beq]) | (refine Gt.load ?_; (refine RW.y (Y.loadBlock rfl (by assumption) rfl) rfl ?_)) | (refine Gt.lss ?_; refine RW.y (Y.lss rfl rfl) rfl ?_))
        refine RW.storeBlock (u := #[.int .i64 x.a, .int .i64 x.b, .int .i64 (x.c + 1), .slice none 0 0]) rfl rfl rfl noCells hrr rfl (fun w7 hb7 hk7 => ?_)
        repeat' (first | (refine CL.ret ?_) | (refine Gt.nil ?_; refine RW.nilw [0, 1, 2, 4, 5, 7, 18, 25, 38, 39, 40, 41] ?_; dsimp only [H.keep, H.look, H.Fr.put, Nat.beq]))
        rw [show nextV x part = ⟨x.a, x.b, (x.c + 1), []⟩ from by unfold nextV; rw [if_neg h0, if_neg h1, if_pos (by omega)]]
        exact FQ.res1 (v := _) rfl rfl ⟨⟨_, rfl, load_block hb7 rfl⟩, trivial⟩ (⟨hKr.trans hk7 fun k h => .inr (by have h' : k = w1.heap.size := h; omega), rfl⟩)
end Go.Proofs.YtjfdhafmbcppjaaGreatDoor.Ve

namespace Go.Proofs.YtjfdhafmbcppjaaGreatDoor.Ve
open S

theorem glueC_split (c : UInt8) : ∀ (x : T), glueC c (splitB c x) = x := by
  intro x
  induction x with
  | nil => rfl
  | cons a r ih =>
    have hne := splitB_ne c r
    by_cases h : a = c
    · rw [splitB, if_pos h]
      cases hs : splitB c r with
      | nil => exact absurd hs hne
      | cons b m => rw [hs] at ih; rw [glueC, ih, h]; rfl
    · rw [splitB, if_neg h]
      cases hs : splitB c r with
      | nil => exact absurd hs hne
      | cons b m =>
        rw [hs] at ih
        cases m with
        | nil => simpa [glueC] using ih
        | cons d m => simp only [List.headD_cons, List.tail_cons, glueC, List.cons_append] at ih ⊢; rw [ih]

theorem cut_glue (c : UInt8) (l : T) : l = (cutB c l).1 ++ (if (cutB c l).2.2 = true then c :: (cutB c l).2.1 else []) := by
  by_cases h : c ∈ l
  · obtain ⟨i, hi, hn, he⟩ : ∃ i, i < l.length ∧ c ∉ l.take i ∧ l.getD i 0 = c := by
      induction l with
      | nil => simp at h
      | cons a r ih =>
        by_cases ha : a = c
        · exact ⟨0, by simp, by simp, by simp [ha]⟩
        · have ha' : ¬ c = a := fun q => ha q.symm
          obtain ⟨i, h1, h2, h3⟩ := ih (by simpa [ha'] using h)
          exact ⟨i + 1, by simpa using h1, by simpa [ha'] using h2, by simpa using h3⟩
    rw [cut_some c l i hi hn he, if_pos rfl]
    have hd : l.drop i = c :: l.drop (i + 1) := by
      rw [List.drop_eq_getElem_cons hi]
      rw [List.getD_eq_getElem?_getD, List.getElem?_eq_getElem hi] at he
      simp only [Option.getD_some] at he
      rw [he]
    rw [← hd, List.take_append_drop]
  · rw [cut_none c l h]; simp

theorem ofNat_dig {c : UInt8} (h : isDig c = true) : UInt8.ofNat (48 + (c.toNat - 48)) = c := by
  simp only [isDig, Bool.and_eq_true, decide_eq_true_eq] at h
  rw [show 48 + (c.toNat - 48) = c.toNat from by omega]
  simp
theorem dec_val : ∀ (n : Nat) (l : T), l.length = n + 1 → l.all isDig = true → (n = 0 ∨ l.getD 0 0 ≠ 48) → Go.Lib.decDigits (val l) = l := by
  intro n
  induction n with
  | zero =>
    intro l h ha _
    match l, h with
    | [c], _ =>
      simp only [List.all_cons, List.all_nil, Bool.and_true] at ha
      have ho := ofNat_dig ha
      simp only [isDig, Bool.and_eq_true, decide_eq_true_eq] at ha
      have hv : val [c] = c.toNat - 48 := by simp [val]
      rw [hv, Go.Lib.decDigits, dif_pos (by omega), ho]
  | succ n ih =>
    intro l h ha h0
    have h0 : l.getD 0 0 ≠ 48 := by rcases h0 with h0 | h0; { omega }; exact h0
    have hne : l ≠ [] := by rintro rfl; simp at h
    have hd : l.dropLast.getD 0 0 = l.getD 0 0 := by
      match l, h with
      | a :: b :: r, _ => rfl
    have hl := List.dropLast_concat_getLast hne
    rw [← hl] at ha
    rw [List.all_append, Bool.and_eq_true] at ha
    have hlen : l.dropLast.length = n + 1 := by simp; omega
    have h1 := ih l.dropLast hlen ha.1 (.inr (by rw [hd]; exact h0))
    have hg := val_ge n l.dropLast hlen ha.1 (by rw [hd]; exact h0)
    have hp : 1 ≤ 10 ^ n := Nat.one_le_pow n 10 (by decide)
    have hc := ha.2
    simp only [List.all_cons, List.all_nil, Bool.and_true] at hc
    have ho := ofNat_dig hc
    simp only [isDig, Bool.and_eq_true, decide_eq_true_eq] at hc
    conv => lhs; rw [← hl, val_snoc]
    rw [Go.Lib.decDigits, dif_neg (by omega), show (10 * val l.dropLast + ((l.getLast hne).toNat - 48)) / 10 = val l.dropLast from by omega, show (10 * val l.dropLast + ((l.getLast hne).toNat - 48)) % 10 = (l.getLast hne).toNat - 48 from by omega, h1, ho, hl]
theorem num_dec {l : T} (h : numB l = true) : decI (val l : Int) = l := by
  simp only [numB, plainB, digB, Bool.and_eq_true, Bool.or_eq_true, decide_eq_true_eq] at h
  obtain ⟨⟨⟨h1, h2⟩, h3⟩, h4⟩ := h
  have := List.length_pos_iff.2 h1
  rw [decI, Int.toNat_natCast]
  exact dec_val (l.length - 1) l (by omega) h2 (by rcases h4 with h | h; { left; omega }; exact .inr h)

/-- What is read is told as it was. -/
theorem parse_text {s : T} {v : Ver} (h : parseV (cutB 45 s) = some v) : textV v = s := by
  have hs := cut_glue 45 s
  rcases hc : cutB 45 s with ⟨three, pre, has⟩
  rw [hc] at h hs
  simp only [parseV] at h
  have h3 : (splitB 46 three).length = 3 := Decidable.byContradiction fun c => by rw [parseL_ne c] at h; cases h
  obtain ⟨x, y, z, he⟩ := len3 h3
  have hg := glueC_split 46 three
  rw [he] at h hg
  simp only [parseL] at h
  split at h
  · rename_i hn
    simp only [Bool.and_eq_true] at hn
    obtain ⟨⟨n1, n2⟩, n3⟩ := hn
    have hg2 : three = x ++ [46] ++ y ++ [46] ++ z := by rw [← hg]; simp [glueC]
    cases has with
    | false =>
      simp only [Bool.false_eq_true, if_false, Option.some.injEq] at h
      subst h
      simp only [Bool.false_eq_true, if_false, List.append_nil] at hs
      rw [textV]
      simp only [num_dec n1, num_dec n2, num_dec n3, if_true, List.append_nil]
      rw [hs, hg2]
    | true =>
      simp only [if_true] at h hs
      split at h
      · simp only [Option.some.injEq] at h
        subst h
        rw [textV]
        simp only [num_dec n1, num_dec n2, num_dec n3]
        rw [if_neg (splitB_ne 46 pre), glueC_split, hs, hg2]
      · cases h
  · cases h
/-- The parts of what is read. -/
theorem parse_parts {s : T} {v : Ver} (h : parseV (cutB 45 s) = some v) : v.pre.length ≤ 5 ∧ v.pre.all markB = true ∧ (0 ≤ v.a ∧ v.a ≤ 999999999) ∧ (0 ≤ v.b ∧ v.b ≤ 999999999) ∧ (0 ≤ v.c ∧ v.c ≤ 999999999) := by
  rcases hc : cutB 45 s with ⟨three, pre, has⟩
  rw [hc] at h
  simp only [parseV] at h
  have h3 : (splitB 46 three).length = 3 := Decidable.byContradiction fun c => by rw [parseL_ne c] at h; cases h
  obtain ⟨x, y, z, he⟩ := len3 h3
  rw [he] at h
  simp only [parseL] at h
  split at h
  · rename_i hn
    simp only [Bool.and_eq_true] at hn
    obtain ⟨⟨n1, n2⟩, n3⟩ := hn
    have b1 := ((num_ref x).2 n1).2.2.2
    have b2 := ((num_ref y).2 n2).2.2.2
    have b3 := ((num_ref z).2 n3).2.2.2
    cases has with
    | false =>
      simp only [Bool.false_eq_true, if_false, Option.some.injEq] at h
      subst h
      exact ⟨by simp, rfl, by simp only; omega, by simp only; omega, by simp only; omega⟩
    | true =>
      simp only [if_true] at h
      split at h
      · rename_i hm
        simp only [Option.some.injEq] at h
        subst h
        exact ⟨hm.1, hm.2, by simp only; omega, by simp only; omega, by simp only; omega⟩
      · cases h
  · cases h
theorem mark_len {l : T} (h : markB l = true) : l ≠ [] ∧ l.length ≤ 16 := by rw [mark_iff] at h; exact ⟨h.1.1, h.1.2.1⟩
theorem parse_fit (s : T) : Fit (verR (parseV (cutB 45 s))).1 := by
  cases h : parseV (cutB 45 s) with
  | none => exact ⟨by simp [verR], by simp [verR]⟩
  | some v =>
    obtain ⟨h1, h2, _⟩ := parse_parts h
    refine ⟨by simp only [verR]; omega, fun x hx => ?_⟩
    have := mark_len (List.all_eq_true.1 h2 x hx)
    omega
theorem parse_bd (s : T) : (0 ≤ (verR (parseV (cutB 45 s))).1.a ∧ (verR (parseV (cutB 45 s))).1.a ≤ 999999999) ∧ (0 ≤ (verR (parseV (cutB 45 s))).1.b ∧ (verR (parseV (cutB 45 s))).1.b ≤ 999999999) ∧ (0 ≤ (verR (parseV (cutB 45 s))).1.c ∧ (verR (parseV (cutB 45 s))).1.c ≤ 999999999) := by
  cases h : parseV (cutB 45 s) with
  | none => simp [verR]
  | some v => obtain ⟨_, _, h3⟩ := parse_parts h; exact h3
end Go.Proofs.YtjfdhafmbcppjaaGreatDoor.Ve

namespace Go.Proofs.YtjfdhafmbcppjaaGreatDoor.H
open Go.RowKit
section
variable {M : Option (Option Nat)} {P : Program} {ops : Array Oper} {Q : Post} {rest : List Oper} {f : Fr} {w : World} {d : Nat} {ty : TypeId} {pos : String} {af : Array Edge}
theorem RW.varN {t ty2 : TypeId} {pos2 : String} {af2 : Array Edge} {z : Value} {sz b : Nat} [Inf P t z sz b] [Many P t sz] {y : Operand} {u : Array Value} (hy : (f.put d (.pointer (some ⟨w.heap.size, 0, none⟩))).ev y = some (.agg u)) (hu : Nat.beq u.size sz = true) (hz : Nat.beq z.cells.size sz = true) (h1 : ∀ z ∈ u.toList, z.oneCell' = true) (hd : Nat.blt d f.n = true)
    (k : ∀ w', w'.heap[w.heap.size]? = some (.cells u t (0, 0)) → K0 w w' → w.heap.size < w'.heap.size → RW M P ops Q rest (f.put d (.pointer (some ⟨w.heap.size, 0, none⟩))) w') :
    RW M P ops Q (op1 d (.alloc t) ty pos af :: op0 (.store t (.tmp d) y) ty2 pos2 af2 :: rest) f w := by
  refine RW.alloc hd fun w1 hb1 hk1 hlt1 => ?_
  refine RW.storeBlock (g := w.heap.size) ?_ hy hu h1 hb1 hz fun w2 hb2 hk2 => ?_
  · simp [Fr.ev, Fr.put, look]
  · exact k w2 hb2 (hk1.trans hk2 fun k h => .inr (by have h' : k = w.heap.size := h; omega)) (Nat.lt_of_lt_of_le hlt1 hk2.size)
end
end Go.Proofs.YtjfdhafmbcppjaaGreatDoor.H

namespace Go.Proofs.YtjfdhafmbcppjaaGreatDoor.Sp
open Go.RowKit H S Ve
attribute [local irreducible] H.CL H.RW H.CW H.Yd H.thenK H.blockQ Go.Calls

abbrev bdT' : TypeId := 70
/-- The cells of a bound. -/
def bdC (x : Bd × Value) : List Value := [vs x.1.sign, .int .i64 x.1.v.a, .int .i64 x.1.v.b, .int .i64 x.1.v.c, x.2]
/-- Bounds in memory. -/
def BdsAt (w : World) (p : Value) (l : List Bd) : Prop := ∃ L : List (Bd × Value), L.map (·.1) = l ∧ Sl w 5 p L.length (L.flatMap bdC) ∧ ∀ x ∈ L, Sl w 1 x.2 x.1.v.pre.length (sv x.1.v.pre)
/-- Bounds in memory that was not there below B. -/
def BdsNew (B : Nat) (w : World) (p : Value) (l : List Bd) : Prop := ∃ L : List (Bd × Value), L.map (·.1) = l ∧ Sl w 5 p L.length (L.flatMap bdC) ∧ (∀ g, live p = some g → B ≤ g) ∧ ∀ x ∈ L, Sl w 1 x.2 x.1.v.pre.length (sv x.1.v.pre) ∧ ∀ g, live x.2 = some g → B ≤ g
theorem BdsNew.at {B : Nat} {w : World} {p : Value} {l : List Bd} (h : BdsNew B w p l) : BdsAt w p l := by
  obtain ⟨L, h1, h2, _, h3⟩ := h; exact ⟨L, h1, h2, fun x hx => (h3 x hx).1⟩
theorem BdsAt.keep0 {w w' : World} {p : Value} {l : List Bd} (h : BdsAt w p l) (k : K0 w w') : BdsAt w' p l := by
  obtain ⟨L, h1, h2, h3⟩ := h; exact ⟨L, h1, h2.keep0 k, fun x hx => (h3 x hx).keep0 k⟩
def signsL : List T := [[60, 61], [62, 61], [60], [62], [61], [94], [126]]
/-- The first of the signs that the word begins with. -/
def firstOf : List T → T → T
  | [], _ => []
  | x :: r, w => if w.take x.length = x then x else firstOf r w
theorem firstOf_sign (w : T) : firstOf signsL w = signOf w := by
  simp only [signsL, firstOf, signOf, List.length_cons, List.length_nil, Nat.zero_add, Nat.reduceAdd]
  by_cases h1 : w.take 2 = [60, 61]
  · simp [h1]
  · by_cases h2 : w.take 2 = [62, 61]
    · simp [h2]
    · simp only [h1, h2, or_self, if_false]
      repeat' split
      all_goals simp_all
theorem firstOf_drop (l : List T) (w : T) (i : Nat) (h : i < l.length) : firstOf (l.drop i) w = if w.take (l.getD i []).length = l.getD i [] then l.getD i [] else firstOf (l.drop (i + 1)) w := by
  rw [List.drop_eq_getElem_cons h, firstOf, List.getD_eq_getElem?_getD, List.getElem?_eq_getElem h]
  rfl

theorem text_cells {l : List T} : ∀ v ∈ sv l, v.cells.size = 1 := by
  intro v hv
  obtain ⟨x, _, rfl⟩ := List.mem_map.1 hv
  rfl
theorem signed (s : T) (hl : s.length ≤ 1000000) (w : World) : Calls Tryz.prog 62 #[vs s] w fun e w' => K0 w w' ∧ e = .returned (.tuple #[vs (signOf s), vs (s.drop (signOf s).length)]) := by
  refine H.enter Tryz.func62 Tryz.ntmps62 rfl rfl ?_; dsimp only [H.args]
  repeat' (first | (refine CL.seq ?_) | (refine CL.region ?_) | (refine Gt.nil ?_; refine RW.nilw [0, 2, 3, 5, 6, 7, 8, 9, 14] ?_; dsimp only [H.keep, H.look, H.Fr.put, Nat.beq]) | (refine Gt.assign ?_; refine RW.y (Y.assign rfl) rfl ?_))
  refine RW.buildL (ps := [(0, _), (1, _), (2, _), (3, _), (4, _), (5, _), (6, _)]) (l := sv signsL) rfl rfl rfl text_cells rfl rfl (fun w1 hb1 hk1 hlt1 => ?_)
  have hs1 : Sl w1 1 (.slice (some ⟨w.heap.size, 0, none⟩) 7 7) signsL.length (sv signsL) := sl_new hb1 rfl (by decide)
  repeat' (first | (refine CL.block ?_) | (refine Gt.nil ?_; refine RW.nilw [0, 2, 3, 5, 6, 7, 8, 9, 14] ?_; dsimp only [H.keep, H.look, H.Fr.put, Nat.beq]) | (refine Gt.move ?_; refine RW.y (Y.move rfl) rfl ?_) | (refine Gt.len ?_; (refine RW.y (Y.lenv rfl) rfl ?_)))
  refine CL.loopS [0, 2, 3, 6, 7, 8] (fun m vals wr => ∃ i : Nat, vals = [vs s, vs [], vs [], .slice (some ⟨w.heap.size, 0, none⟩) 7 7, .int .i64 7, .int .i64 (i : Int)] ∧ m = 7 - i ∧ i ≤ 7 ∧ firstOf (signsL.drop i) s = signOf s ∧ K0 w1 wr) 7 ⟨_, rfl, 0, rfl, rfl, by omega, firstOf_sign s, Kept.refl _ _⟩ ?_
  rintro m vals wr ⟨i, rfl, rfl, hi, hf, hkr⟩
  dsimp only [List.zip, List.zipWith]
  have hsr := hs1.keep0 hkr
  have hl7 : signsL.length = 7 := rfl
  rcases Nat.lt_or_ge i 7 with hlt | hge
  · rw [firstOf_drop _ _ _ (by rw [hl7]; exact hlt)] at hf
    repeat' (first | (refine CL.seq ?_) | (refine CL.region ?_) | (refine CL.skip ?_) | (refine CL.condP rfl (fun _ => ?_) (fun _ => ?_) <;> try (exfalso; omega)) | (refine CL.block ?_) | (refine Gt.nil ?_; refine RW.nilw [0, 2, 3, 5, 6, 7, 8, 9, 14] ?_; dsimp only [H.keep, H.look, H.Fr.put, Nat.beq]) | (refine Gt.move ?_; refine RW.y (Y.move rfl) rfl ?_) | (refine Gt.assign ?_; refine RW.y (Y.assign rfl) rfl ?_) | (refine Gt.lss ?_; refine RW.y (Y.lss rfl rfl) rfl ?_) | (refine Gt.idx ?_; refine RW.elemS rfl rfl rfl rfl (by assumption) (by omega) (by omega) ?_))
    refine RW.fn rfl rfl ((hasPrefix s _ wr).mono ?_)
    rintro e w2 ⟨rfl, rfl⟩
    rw [Int.toNat_natCast]
    by_cases hp : s.take (signsL.getD i []).length = signsL.getD i []
    · rw [if_pos hp] at hf
      rw [decide_eq_true hp]
      have hpl : (signsL.getD i []).length ≤ s.length := by have := congrArg List.length hp; rw [List.length_take] at this; omega
      repeat' (first | (refine CL.seq ?_) | (refine CL.condT rfl ?_) | (refine Gt.nil ?_; refine RW.nilw [0, 2, 3, 5, 6, 7, 8, 9, 14] ?_; dsimp only [H.keep, H.look, H.Fr.put, Nat.beq]))
      refine CL.draw (fun w' => K0 wr w') (by kernel_rfl) (fun w2 hheap hk2 => ?_)
      have hS : K0 wr w2 := hk2
      skip
      refine AW.take 0 rfl (by kernel_rfl) (by kernel_rfl) (by kernel_rfl) rfl (by assumption) (fun w hS => Y.move rfl) ?_
      refine AW.take 1 rfl (by kernel_rfl) (by kernel_rfl) (by kernel_rfl) rfl (by assumption) (fun w hS => Y.move rfl) ?_
      refine AW.take 2 rfl (by kernel_rfl) (by kernel_rfl) (by kernel_rfl) rfl (by assumption) (fun w hS => Y.move rfl) ?_
      refine AW.take 3 rfl (by kernel_rfl) (by kernel_rfl) (by kernel_rfl) rfl (by assumption) (fun w hS => by exact Y.lens rfl) ?_
      refine AW.take 4 rfl (by kernel_rfl) (by kernel_rfl) (by kernel_rfl) rfl (by assumption) (fun w hS => Y.cutl rfl rfl (by omega) (by omega)) ?_
      refine AW.take 5 rfl (by kernel_rfl) (by kernel_rfl) (by kernel_rfl) rfl (by assumption) (fun w hS => Y.assign rfl) ?_
      refine AW.take 6 rfl (by kernel_rfl) (by kernel_rfl) (by kernel_rfl) rfl (by assumption) (fun w hS => Y.assign rfl) ?_
      refine AW.donew [2, 3] (by kernel_rfl) ?_
      dsimp only [H.keep, H.look, H.Fr.put, Nat.beq]
      repeat' (first | (refine CL.ret ?_) | (refine Rt.then ?_) | (refine Rt.block ?_))
      refine FQ.two rfl rfl rfl rfl ⟨(hk1.trans0 hkr).trans0 hk2, ?_⟩
      rw [← hf, Int.toNat_natCast]
    · rw [if_neg hp] at hf
      rw [decide_eq_false hp]
      repeat' (first | (refine CL.region ?_) | (refine CL.skip ?_) | (refine CL.condF rfl ?_) | (refine CL.done ?_) | (refine Nm.block ?_) | (refine Nm.then ?_) | (refine Gt.nil ?_; refine RW.nilw [0, 2, 3, 5, 6, 7, 8, 9, 14] ?_; dsimp only [H.keep, H.look, H.Fr.put, Nat.beq]) | (refine Gt.move ?_; refine RW.y (Y.move rfl) rfl ?_) | (refine Gt.add ?_; refine RW.y (Y.add64 rfl rfl (by omega) (by omega)) rfl ?_))
      exact ⟨7 - (i + 1), _, rfl, rfl, rfl, by omega, i + 1, rfl, rfl, by omega, hf, hkr⟩
  · have : i = 7 := by omega
    subst this
    have hf : [] = signOf s := hf
    repeat' (first | (refine CL.seq ?_) | (refine CL.region ?_) | (refine CL.condP rfl (fun _ => ?_) (fun _ => ?_) <;> try (exfalso; omega)) | (refine CL.exit ?_) | (refine Ex.then ?_) | (refine Ex.hit ?_) | (refine CL.ret ?_) | (refine Gt.nil ?_; refine RW.nilw [0, 2, 3, 5, 6, 7, 8, 9, 14] ?_; dsimp only [H.keep, H.look, H.Fr.put, Nat.beq]) | (refine Gt.move ?_; refine RW.y (Y.move rfl) rfl ?_) | (refine Gt.assign ?_; refine RW.y (Y.assign rfl) rfl ?_) | (refine Gt.lss ?_; refine RW.y (Y.lss rfl rfl) rfl ?_))
    exact FQ.two rfl rfl rfl rfl ⟨hk1.trans0 hkr, by rw [← hf]; rfl⟩

theorem verC {w : World} {X : Value} {x : Ver} (h : VerAt w X x) : ∃ p, X = .agg #[.int .i64 x.a, .int .i64 x.b, .int .i64 x.c, p] ∧ p.oneCell' = true ∧ Sl w 1 p x.pre.length (sv x.pre) := by
  obtain ⟨p, rfl, hp⟩ := h
  exact ⟨p, rfl, hp.one, hp⟩
theorem verN {B : Nat} {w : World} {X : Value} {x : Ver} (h : VerNew B w X x) : ∃ p, X = .agg #[.int .i64 x.a, .int .i64 x.b, .int .i64 x.c, p] ∧ p.oneCell' = true ∧ Sl w 1 p x.pre.length (sv x.pre) ∧ ∀ g, live p = some g → B ≤ g := by
  obtain ⟨p, rfl, hp, hq⟩ := h
  exact ⟨p, rfl, hp.one, hp, hq⟩
theorem new_live {B g : Nat} {n : Nat} (h : B ≤ g) : ∀ k, live (.slice (some ⟨g, 0, none⟩) n n) = some k → B ≤ k := by
  intro k hk
  have := live_own hk
  simp [Value.ownBlock] at this
  omega
theorem BdsNew.one {B g : Nat} {w : World} {b : Bd} {q : Value} (h : Sl w 5 (.slice (some ⟨g, 0, none⟩) 1 1) 1 (bdC (b, q))) (hg : B ≤ g) (hq : Sl w 1 q b.v.pre.length (sv b.v.pre)) (hB : ∀ k, live q = some k → B ≤ k) : BdsNew B w (.slice (some ⟨g, 0, none⟩) 1 1) [b] :=
  ⟨[(b, q)], rfl, by simpa using h, new_live hg, fun x hx => by rw [List.mem_singleton.1 hx]; exact ⟨hq, hB⟩⟩
theorem BdsNew.two {B g : Nat} {w : World} {b c : Bd} {q r : Value} (h : Sl w 5 (.slice (some ⟨g, 0, none⟩) 2 2) 2 (bdC (b, q) ++ bdC (c, r))) (hg : B ≤ g) (hq : Sl w 1 q b.v.pre.length (sv b.v.pre)) (hB : ∀ k, live q = some k → B ≤ k) (hr : Sl w 1 r c.v.pre.length (sv c.v.pre)) (hC : ∀ k, live r = some k → B ≤ k) : BdsNew B w (.slice (some ⟨g, 0, none⟩) 2 2) [b, c] :=
  ⟨[(b, q), (c, r)], rfl, by simpa using h, new_live hg, fun x hx => by simp at hx; rcases hx with rfl | rfl; { exact ⟨hq, hB⟩ }; exact ⟨hr, hC⟩⟩
theorem cells5 {x y : Array Value} (hx : x.size = 5) (hy : y.size = 5) : ∀ v ∈ [Value.agg x, Value.agg y], v.cells.size = 5 := by
  intro v hv
  simp at hv
  rcases hv with rfl | rfl <;> assumption
theorem cells5a {x : Array Value} (hx : x.size = 5) : ∀ v ∈ [Value.agg x], v.cells.size = 5 := by
  intro v hv
  rw [List.mem_singleton.1 hv]
  exact hx
theorem parse_i64 {s : T} {v : Ver} (h : parseV (cutB 45 s) = some v) : I64 v := by
  have := parse_parts h
  simp only [I64]; omega
theorem next_pre (v : Ver) (n : Int) : (nextV v n).pre = [] := by
  unfold nextV; repeat' split
  all_goals rfl

set_option maxHeartbeats 4000000 in
theorem word (s : T) (hl : s.length ≤ 1000000) (w : World) : Calls Tryz.prog 31 #[vs s] w fun e w' => K0 w w' ∧ ∃ p, e = .returned (.tuple #[p, .bool (boundsB s).isSome]) ∧ (∀ l, boundsB s = some l → BdsNew w.heap.size w' p l) := by
  refine H.enter Tryz.func31 Tryz.ntmps31 rfl rfl ?_; dsimp only [H.args]
  repeat' (first | (refine CL.seq ?_) | (refine CL.region ?_) | (refine Gt.nil ?_; refine RW.nilw [0, 2, 3, 4, 5, 6, 7, 8, 20, 21, 22, 24, 26, 31, 35] ?_; dsimp only [H.keep, H.look, H.Fr.put, Nat.beq]) | (refine Gt.assign ?_; refine RW.y (Y.assign rfl) rfl ?_) | (refine Gt.move ?_; refine RW.y (Y.move rfl) rfl ?_))
  refine RW.fn rfl rfl ((signed s hl w).mono ?_)
  rintro e w1 ⟨hk1, rfl⟩
  have hdl : (s.drop (signOf s).length).length ≤ 1000000 := by rw [List.length_drop]; omega
  repeat' (first | (refine CL.seq ?_) | (refine CL.region ?_) | (refine Gt.nil ?_; refine RW.nilw [0, 2, 3, 4, 5, 6, 7, 8, 20, 21, 22, 24, 26, 31, 35] ?_; dsimp only [H.keep, H.look, H.Fr.put, Nat.beq]) | (refine Gt.assign ?_; refine RW.y (Y.assign rfl) rfl ?_) | (refine Gt.move ?_; refine RW.y (Y.move rfl) rfl ?_) | (refine Gt.extract ?_; refine RW.y (Y.extract rfl rfl) rfl ?_))
  refine RW.fn rfl rfl ((parseN _ hdl w1).mono ?_)
  rintro e w2 ⟨hk2, V, rfl, hV⟩
  obtain ⟨p, rfl, hp1, hp, hpl⟩ := verN hV
  have hz1 := hk1.size
  have hz2 := hk2.size
  have hbB : boundsB s = (parseV (cutB 45 (s.drop (signOf s).length))).map (expand (signOf s)) := rfl
  rw [hbB]
  generalize signOf s = g at *
  cases hpv : parseV (cutB 45 (s.drop g.length)) with
  | none =>
    rw [hpv] at hp
    dsimp only [verR, Option.map_none] at hp ⊢
    repeat' (first | (refine Gt.move ?_; refine RW.y (Y.move rfl) rfl ?_) | (refine Gt.extract ?_; refine RW.y (Y.extract rfl rfl) rfl ?_))
    refine RW.varN rfl rfl rfl (verCells hp1) rfl (fun w3 hb3 hk3 hlt3 => ?_)
    repeat' (first | (refine CL.seq ?_) | (refine CL.region ?_) | (refine CL.condP rfl (fun _ => ?_) (fun _ => ?_) <;> try (exfalso; omega)) | (refine CL.ret ?_) | (refine Gt.nil ?_; refine RW.nilw [0, 2, 3, 4, 5, 6, 7, 8, 20, 21, 22, 24, 26, 31, 35] ?_; dsimp only [H.keep, H.look, H.Fr.put, Nat.beq]) | (refine Gt.assign ?_; refine RW.y (Y.assign rfl) rfl ?_) | (refine Gt.move ?_; refine RW.y (Y.move rfl) rfl ?_) | (refine Gt.neq ?_; refine RW.y (Y.nei rfl rfl) rfl ?_))
    exact FQ.two rfl rfl rfl rfl ⟨(hk1.trans0 hk2).trans0 hk3, _, rfl, fun l hl => by cases hl⟩
  | some v =>
    rw [hpv] at hp
    have hi64 := parse_i64 hpv
    have hpp := parse_parts hpv
    dsimp only [verR, Option.map_some] at hp ⊢
    repeat' (first | (refine Gt.move ?_; refine RW.y (Y.move rfl) rfl ?_) | (refine Gt.extract ?_; refine RW.y (Y.extract rfl rfl) rfl ?_))
    refine RW.varN rfl rfl rfl (verCells hp1) rfl (fun w3 hb3 hk3 hlt3 => ?_)
    repeat' (first | (refine CL.seq ?_) | (refine CL.region ?_) | (refine CL.skip ?_) | (refine CL.condP rfl (fun _ => ?_) (fun _ => ?_) <;> try (exfalso; omega)) | (refine CL.block ?_) | (refine CL.exit ?_) | (refine Ex.hit ?_) | (refine Ex.miss rfl ?_) | (refine CL.done ?_) | (refine Nm.block ?_) | (refine Gt.nil ?_; refine RW.nilw [0, 2, 3, 4, 5, 6, 7, 8, 20, 21, 22, 24, 26, 31, 35] ?_; dsimp only [H.keep, H.look, H.Fr.put, Nat.beq]) | (refine Gt.assign ?_; refine RW.y (Y.assign rfl) rfl ?_) | (refine Gt.move ?_; refine RW.y (Y.move rfl) rfl ?_) | (refine Gt.load ?_; first | (refine RW.y (Y.loadB rfl (by assumption) rfl) rfl ?_) | (refine RW.y (Y.loadBlock rfl (by assumption) rfl) rfl ?_)) | (refine Gt.eql ?_; first | (refine RW.y (Y.eqs rfl rfl) rfl ?_) | (refine RW.y (Y.eqi rfl rfl) rfl ?_)) | (refine Gt.fieldAddr ?_; refine RW.y (Y.fieldAddr rfl (by rfl)) rfl ?_) | (refine Gt.neq ?_; refine RW.y (Y.nei rfl rfl) rfl ?_) | (refine Gt.gtr ?_; refine RW.y (Y.gtr rfl rfl) rfl ?_) | (refine RW.y (Y.build (ps := [(0, _), (1, _)]) rfl rfl) rfl ?_))
    · have hg : g = [] := by assumption
      have he : expand g v = [⟨[61], v⟩] := by rw [expand, if_pos hg]
      rw [he]
      refine RW.buildL (ps := [(0, _)]) (l := [_]) rfl rfl rfl (cells5a rfl) rfl rfl (fun w4 hb4 hk4 hlt4 => ?_)
      repeat' (first | (refine CL.ret ?_) | (refine Rt.block ?_) | (refine Gt.nil ?_; refine RW.nilw [0, 2, 3, 4, 5, 6, 7, 8, 20, 21, 22, 24, 26, 31, 35] ?_; dsimp only [H.keep, H.look, H.Fr.put, Nat.beq]) | (refine Gt.assign ?_; refine RW.y (Y.assign rfl) rfl ?_))
      refine FQ.two rfl rfl rfl rfl ⟨((hk1.trans0 hk2).trans0 hk3).trans0 hk4, _, rfl, fun l hl => ?_⟩
      obtain rfl := Option.some.inj hl
      exact BdsNew.one (q := p) (sl_new hb4 rfl (by decide)) (by have := hk3.size; omega) (hp.keep0 (hk3.trans0 hk4)) (fun k h => by have := hpl k h; omega)
    · have hg : g = [94] := by assumption
      have ha : v.a > 0 := by assumption
      have he : expand g v = [⟨[62, 61], v⟩, ⟨[60], nextV v 0⟩] := by rw [expand, if_neg (by assumption), if_pos hg, if_pos ha]
      rw [he]
      refine CL.draw (fun w' => K0 w3 w') (by kernel_rfl) (fun w4 hheap hk4 => ?_)
      have hS : K0 w3 w4 := hk4
      skip
      refine AW.take 0 rfl (by kernel_rfl) (by kernel_rfl) (by kernel_rfl) rfl (by assumption) (fun w hS => Y.loadBlock rfl (hS.at0 hb3) rfl) ?_
      refine AW.take 1 rfl (by kernel_rfl) (by kernel_rfl) (by kernel_rfl) rfl (by assumption) (fun w hS => Y.build (ps := [(0, _), (1, _)]) (c := #[vs [62, 61], .int .i64 v.a, .int .i64 v.b, .int .i64 v.c, p]) rfl rfl) ?_
      refine AW.take 2 rfl (by kernel_rfl) (by kernel_rfl) (by kernel_rfl) rfl (by assumption) (fun w hS => Y.loadBlock rfl (hS.at0 hb3) rfl) ?_
      refine AW.take 3 rfl (by kernel_rfl) (by kernel_rfl) (by kernel_rfl) rfl (by assumption) (fun w hS => Y.move rfl) ?_
      refine AW.next 4 rfl (by kernel_rfl) ?_
      refine RW.fn rfl rfl ((next _ v _ w4 ⟨p, rfl, hp.keep0 ((hk3.trans0 hk4))⟩ hi64).mono ?_)
      rintro e w5 ⟨hk5, rfl⟩
      refine RW.nil (Nm.then (rebase0 hS hk5 fun hS => ?_))
      refine AW.take 5 rfl (by kernel_rfl) (by kernel_rfl) (by kernel_rfl) rfl (by assumption) (fun w hS => Y.build (ps := [(0, _), (1, _)]) (c := #[vs [60], .int .i64 (nextV v _).a, .int .i64 (nextV v _).b, .int .i64 (nextV v _).c, .slice none 0 0]) rfl rfl) ?_
      refine AW.next 6 rfl (by kernel_rfl) ?_
      refine RW.buildL (ps := [(0, _), (1, _)]) (l := [_, _]) rfl rfl rfl (cells5 rfl rfl) rfl rfl (fun w6 hb6 hk6 hlt6 => ?_)
      refine RW.nil (Nm.then (rebase0 hS hk6 fun hS => ?_))
      refine AW.take 7 rfl (by kernel_rfl) (by kernel_rfl) (by kernel_rfl) rfl (by assumption) (fun w hS => Y.assign rfl) ?_
      refine AW.take 8 rfl (by kernel_rfl) (by kernel_rfl) (by kernel_rfl) rfl (by assumption) (fun w hS => Y.assign rfl) ?_
      refine AW.donew [2, 3] (by kernel_rfl) ?_
      dsimp only [H.keep, H.look, H.Fr.put, Nat.beq]
      repeat' (first | (refine CL.ret ?_) | (refine Rt.block ?_))
      refine FQ.two rfl rfl rfl rfl ⟨((((hk1.trans0 hk2).trans0 hk3).trans0 hk4).trans0 hk5).trans0 hk6, _, rfl, fun l hl => ?_⟩
      obtain rfl := Option.some.inj hl
      have hsl : Sl w6 5 (.slice (some ⟨w5.heap.size, 0, none⟩) 2 2) 2 _ := sl_new hb6 rfl (by decide)
      exact BdsNew.two (q := p) (r := .slice none 0 0) hsl (by have := hk3.size; have := hk4.size; have := hk5.size; omega) (hp.keep0 (((hk3.trans0 hk4).trans0 hk5).trans0 hk6)) (fun k h => by have := hpl k h; omega) (by rw [next_pre]; exact Sl.nil _ _) nolive
    · have hg : g = [94] := by assumption
      have ha : ¬ v.a > 0 := by assumption
      have hb : v.b = 0 := by assumption
      have he : expand g v = [⟨[62, 61], v⟩, ⟨[60], nextV v 2⟩] := by rw [expand, if_neg (by assumption), if_pos hg, if_neg ha, if_neg (by omega)]
      rw [he]
      refine CL.draw (fun w' => K0 w3 w') (by kernel_rfl) (fun w4 hheap hk4 => ?_)
      have hS : K0 w3 w4 := hk4
      skip
      refine AW.take 0 rfl (by kernel_rfl) (by kernel_rfl) (by kernel_rfl) rfl (by assumption) (fun w hS => Y.loadBlock rfl (hS.at0 hb3) rfl) ?_
      refine AW.take 1 rfl (by kernel_rfl) (by kernel_rfl) (by kernel_rfl) rfl (by assumption) (fun w hS => Y.build (ps := [(0, _), (1, _)]) (c := #[vs [62, 61], .int .i64 v.a, .int .i64 v.b, .int .i64 v.c, p]) rfl rfl) ?_
      refine AW.take 2 rfl (by kernel_rfl) (by kernel_rfl) (by kernel_rfl) rfl (by assumption) (fun w hS => Y.loadBlock rfl (hS.at0 hb3) rfl) ?_
      refine AW.take 3 rfl (by kernel_rfl) (by kernel_rfl) (by kernel_rfl) rfl (by assumption) (fun w hS => Y.move rfl) ?_
      refine AW.next 4 rfl (by kernel_rfl) ?_
      refine RW.fn rfl rfl ((next _ v _ w4 ⟨p, rfl, hp.keep0 ((hk3.trans0 hk4))⟩ hi64).mono ?_)
      rintro e w5 ⟨hk5, rfl⟩
      refine RW.nil (Nm.then (rebase0 hS hk5 fun hS => ?_))
      refine AW.take 5 rfl (by kernel_rfl) (by kernel_rfl) (by kernel_rfl) rfl (by assumption) (fun w hS => Y.build (ps := [(0, _), (1, _)]) (c := #[vs [60], .int .i64 (nextV v _).a, .int .i64 (nextV v _).b, .int .i64 (nextV v _).c, .slice none 0 0]) rfl rfl) ?_
      refine AW.next 6 rfl (by kernel_rfl) ?_
      refine RW.buildL (ps := [(0, _), (1, _)]) (l := [_, _]) rfl rfl rfl (cells5 rfl rfl) rfl rfl (fun w6 hb6 hk6 hlt6 => ?_)
      refine RW.nil (Nm.then (rebase0 hS hk6 fun hS => ?_))
      refine AW.take 7 rfl (by kernel_rfl) (by kernel_rfl) (by kernel_rfl) rfl (by assumption) (fun w hS => Y.assign rfl) ?_
      refine AW.take 8 rfl (by kernel_rfl) (by kernel_rfl) (by kernel_rfl) rfl (by assumption) (fun w hS => Y.assign rfl) ?_
      refine AW.donew [2, 3] (by kernel_rfl) ?_
      dsimp only [H.keep, H.look, H.Fr.put, Nat.beq]
      repeat' (first | (refine CL.ret ?_) | (refine Rt.block ?_))
      refine FQ.two rfl rfl rfl rfl ⟨((((hk1.trans0 hk2).trans0 hk3).trans0 hk4).trans0 hk5).trans0 hk6, _, rfl, fun l hl => ?_⟩
      obtain rfl := Option.some.inj hl
      have hsl : Sl w6 5 (.slice (some ⟨w5.heap.size, 0, none⟩) 2 2) 2 _ := sl_new hb6 rfl (by decide)
      exact BdsNew.two (q := p) (r := .slice none 0 0) hsl (by have := hk3.size; have := hk4.size; have := hk5.size; omega) (hp.keep0 (((hk3.trans0 hk4).trans0 hk5).trans0 hk6)) (fun k h => by have := hpl k h; omega) (by rw [next_pre]; exact Sl.nil _ _) nolive
    · have hg : g = [94] := by assumption
      have ha : ¬ v.a > 0 := by assumption
      have hb : ¬ v.b = 0 := by assumption
      have he : expand g v = [⟨[62, 61], v⟩, ⟨[60], nextV v 1⟩] := by rw [expand, if_neg (by assumption), if_pos hg, if_neg ha, if_pos (by omega)]
      rw [he]
      refine CL.draw (fun w' => K0 w3 w') (by kernel_rfl) (fun w4 hheap hk4 => ?_)
      have hS : K0 w3 w4 := hk4
      skip
      refine AW.take 0 rfl (by kernel_rfl) (by kernel_rfl) (by kernel_rfl) rfl (by assumption) (fun w hS => Y.loadBlock rfl (hS.at0 hb3) rfl) ?_
      refine AW.take 1 rfl (by kernel_rfl) (by kernel_rfl) (by kernel_rfl) rfl (by assumption) (fun w hS => Y.build (ps := [(0, _), (1, _)]) (c := #[vs [62, 61], .int .i64 v.a, .int .i64 v.b, .int .i64 v.c, p]) rfl rfl) ?_
      refine AW.take 2 rfl (by kernel_rfl) (by kernel_rfl) (by kernel_rfl) rfl (by assumption) (fun w hS => Y.loadBlock rfl (hS.at0 hb3) rfl) ?_
      refine AW.take 3 rfl (by kernel_rfl) (by kernel_rfl) (by kernel_rfl) rfl (by assumption) (fun w hS => Y.move rfl) ?_
      refine AW.next 4 rfl (by kernel_rfl) ?_
      refine RW.fn rfl rfl ((next _ v _ w4 ⟨p, rfl, hp.keep0 ((hk3.trans0 hk4))⟩ hi64).mono ?_)
      rintro e w5 ⟨hk5, rfl⟩
      refine RW.nil (Nm.then (rebase0 hS hk5 fun hS => ?_))
      refine AW.take 5 rfl (by kernel_rfl) (by kernel_rfl) (by kernel_rfl) rfl (by assumption) (fun w hS => Y.build (ps := [(0, _), (1, _)]) (c := #[vs [60], .int .i64 (nextV v _).a, .int .i64 (nextV v _).b, .int .i64 (nextV v _).c, .slice none 0 0]) rfl rfl) ?_
      refine AW.next 6 rfl (by kernel_rfl) ?_
      refine RW.buildL (ps := [(0, _), (1, _)]) (l := [_, _]) rfl rfl rfl (cells5 rfl rfl) rfl rfl (fun w6 hb6 hk6 hlt6 => ?_)
      refine RW.nil (Nm.then (rebase0 hS hk6 fun hS => ?_))
      refine AW.take 7 rfl (by kernel_rfl) (by kernel_rfl) (by kernel_rfl) rfl (by assumption) (fun w hS => Y.assign rfl) ?_
      refine AW.take 8 rfl (by kernel_rfl) (by kernel_rfl) (by kernel_rfl) rfl (by assumption) (fun w hS => Y.assign rfl) ?_
      refine AW.donew [2, 3] (by kernel_rfl) ?_
      dsimp only [H.keep, H.look, H.Fr.put, Nat.beq]
      repeat' (first | (refine CL.ret ?_) | (refine Rt.block ?_))
      refine FQ.two rfl rfl rfl rfl ⟨((((hk1.trans0 hk2).trans0 hk3).trans0 hk4).trans0 hk5).trans0 hk6, _, rfl, fun l hl => ?_⟩
      obtain rfl := Option.some.inj hl
      have hsl : Sl w6 5 (.slice (some ⟨w5.heap.size, 0, none⟩) 2 2) 2 _ := sl_new hb6 rfl (by decide)
      exact BdsNew.two (q := p) (r := .slice none 0 0) hsl (by have := hk3.size; have := hk4.size; have := hk5.size; omega) (hp.keep0 (((hk3.trans0 hk4).trans0 hk5).trans0 hk6)) (fun k h => by have := hpl k h; omega) (by rw [next_pre]; exact Sl.nil _ _) nolive
    · have hg : g = [126] := by assumption
      have he : expand g v = [⟨[62, 61], v⟩, ⟨[60], nextV v 1⟩] := by rw [expand, if_neg (by assumption), if_neg (by assumption), if_pos hg]
      rw [he]
      refine CL.draw (fun w' => K0 w3 w') (by kernel_rfl) (fun w4 hheap hk4 => ?_)
      have hS : K0 w3 w4 := hk4
      skip
      refine AW.take 0 rfl (by kernel_rfl) (by kernel_rfl) (by kernel_rfl) rfl (by assumption) (fun w hS => Y.loadBlock rfl (hS.at0 hb3) rfl) ?_
      refine AW.take 1 rfl (by kernel_rfl) (by kernel_rfl) (by kernel_rfl) rfl (by assumption) (fun w hS => Y.build (ps := [(0, _), (1, _)]) (c := #[vs [62, 61], .int .i64 v.a, .int .i64 v.b, .int .i64 v.c, p]) rfl rfl) ?_
      refine AW.take 2 rfl (by kernel_rfl) (by kernel_rfl) (by kernel_rfl) rfl (by assumption) (fun w hS => Y.loadBlock rfl (hS.at0 hb3) rfl) ?_
      refine AW.take 3 rfl (by kernel_rfl) (by kernel_rfl) (by kernel_rfl) rfl (by assumption) (fun w hS => Y.move rfl) ?_
      refine AW.next 4 rfl (by kernel_rfl) ?_
      refine RW.fn rfl rfl ((next _ v _ w4 ⟨p, rfl, hp.keep0 ((hk3.trans0 hk4))⟩ hi64).mono ?_)
      rintro e w5 ⟨hk5, rfl⟩
      refine RW.nil (Nm.then (rebase0 hS hk5 fun hS => ?_))
      refine AW.take 5 rfl (by kernel_rfl) (by kernel_rfl) (by kernel_rfl) rfl (by assumption) (fun w hS => Y.build (ps := [(0, _), (1, _)]) (c := #[vs [60], .int .i64 (nextV v _).a, .int .i64 (nextV v _).b, .int .i64 (nextV v _).c, .slice none 0 0]) rfl rfl) ?_
      refine AW.next 6 rfl (by kernel_rfl) ?_
      refine RW.buildL (ps := [(0, _), (1, _)]) (l := [_, _]) rfl rfl rfl (cells5 rfl rfl) rfl rfl (fun w6 hb6 hk6 hlt6 => ?_)
      refine RW.nil (Nm.then (rebase0 hS hk6 fun hS => ?_))
      refine AW.take 7 rfl (by kernel_rfl) (by kernel_rfl) (by kernel_rfl) rfl (by assumption) (fun w hS => Y.assign rfl) ?_
      refine AW.take 8 rfl (by kernel_rfl) (by kernel_rfl) (by kernel_rfl) rfl (by assumption) (fun w hS => Y.assign rfl) ?_
      refine AW.donew [2, 3] (by kernel_rfl) ?_
      dsimp only [H.keep, H.look, H.Fr.put, Nat.beq]
      repeat' (first | (refine CL.ret ?_) | (refine Rt.block ?_))
      refine FQ.two rfl rfl rfl rfl ⟨((((hk1.trans0 hk2).trans0 hk3).trans0 hk4).trans0 hk5).trans0 hk6, _, rfl, fun l hl => ?_⟩
      obtain rfl := Option.some.inj hl
      have hsl : Sl w6 5 (.slice (some ⟨w5.heap.size, 0, none⟩) 2 2) 2 _ := sl_new hb6 rfl (by decide)
      exact BdsNew.two (q := p) (r := .slice none 0 0) hsl (by have := hk3.size; have := hk4.size; have := hk5.size; omega) (hp.keep0 (((hk3.trans0 hk4).trans0 hk5).trans0 hk6)) (fun k h => by have := hpl k h; omega) (by rw [next_pre]; exact Sl.nil _ _) nolive
    · have he : expand g v = [⟨g, v⟩] := by rw [expand, if_neg (by assumption), if_neg (by assumption), if_neg (by assumption)]
      rw [he]
      refine RW.buildL (ps := [(0, _)]) (l := [_]) rfl rfl rfl (cells5a rfl) rfl rfl (fun w4 hb4 hk4 hlt4 => ?_)
      repeat' (first | (refine CL.ret ?_) | (refine Gt.nil ?_; refine RW.nilw [0, 2, 3, 4, 5, 6, 7, 8, 20, 21, 22, 24, 26, 31, 35] ?_; dsimp only [H.keep, H.look, H.Fr.put, Nat.beq]) | (refine Gt.assign ?_; refine RW.y (Y.assign rfl) rfl ?_))
      refine FQ.two rfl rfl rfl rfl ⟨((hk1.trans0 hk2).trans0 hk3).trans0 hk4, _, rfl, fun l hl => ?_⟩
      obtain rfl := Option.some.inj hl
      exact BdsNew.one (q := p) (sl_new hb4 rfl (by decide)) (by have := hk3.size; omega) (hp.keep0 (hk3.trans0 hk4)) (fun k h => by have := hpl k h; omega)
end Go.Proofs.YtjfdhafmbcppjaaGreatDoor.Sp

namespace Go.Proofs.YtjfdhafmbcppjaaGreatDoor.Sp
open Go.RowKit H S Ve
attribute [local irreducible] H.CL H.RW H.CW H.Yd H.thenK H.blockQ Go.Calls

theorem filter_snoc (l : List T) (i : Nat) (h : i < l.length) : (l.take (i + 1)).filter (fun x => decide (x ≠ [])) = (l.take i).filter (fun x => decide (x ≠ [])) ++ (if l.getD i [] = [] then [] else [l.getD i []]) := by
  rw [take_snoc [] l i h, List.filter_append]
  congr 1
  by_cases hx : l.getD i [] = []
  · rw [hx]; rfl
  · rw [if_neg hx]; generalize l.getD i [] = x at hx; simp [hx]
theorem refWords (s : T) (hl : s.length ≤ 1000000) (w : World) : Calls Tryz.prog 32 #[vs s] w fun e w' => ∃ v', e = .returned v' ∧ w'.ownsRow w.heap.size strT 1 v' (wordsB s).length (sv (wordsB s)) ∧ K0 w w' := by
  have hsl := splitB_len 32 s
  have hcn : s.count 32 ≤ s.length := List.count_le_length
  refine H.enter Tryz.func32 Tryz.ntmps32 rfl rfl ?_; dsimp only [H.args]
  repeat' (first | (refine CL.seq ?_) | (refine CL.region ?_) | (refine Gt.nil ?_; refine RW.nilw [0, 2, 3, 4, 5, 11, 18] ?_; dsimp only [H.keep, H.look, H.Fr.put, Nat.beq]) | (refine Gt.move ?_; refine RW.y (Y.move rfl) rfl ?_) | (refine Gt.assign ?_; refine RW.y (Y.assign rfl) rfl ?_))
  refine RW.fn rfl rfl ((refSplit s 32 (by omega) w).mono ?_)
  rintro e w1 ⟨v, rfl, hw, hk1⟩
  have hwb : wordsB s = (splitB 32 s).filter (fun x => decide (x ≠ [])) := rfl
  rw [hwb]
  have hs1 := Sl.of_own hw
  generalize splitB 32 s = l at *
  have hsz1 := hk1.size
  repeat' (first | (refine CL.seq ?_) | (refine CL.region ?_) | (refine CL.block ?_) | (refine Gt.nil ?_; refine RW.nilw [0, 2, 3, 4, 5, 11, 18] ?_; dsimp only [H.keep, H.look, H.Fr.put, Nat.beq]) | (refine Gt.assign ?_; refine RW.y (Y.assign rfl) rfl ?_))
  refine CL.loopS [3, 4, 5] (fun m vals wr => ∃ (i : Nat) (u : Value), vals = [u, v, .int .i64 (i : Int)] ∧ m = l.length - i ∧ i ≤ l.length ∧ wr.ownsRow w1.heap.size strT 1 u ((l.take i).filter (fun x => decide (x ≠ []))).length (sv ((l.take i).filter (fun x => decide (x ≠ [])))) ∧ K0 w1 wr) l.length ⟨_, rfl, 0, _, rfl, rfl, Nat.zero_le _, World.ownsRow_nil _ _ _ _, Kept.refl _ _⟩ ?_
  rintro m vals wr ⟨i, u, rfl, rfl, hi, how, hkr⟩
  dsimp only [List.zip, List.zipWith]
  have hsr := hs1.keep0 hkr
  have hsz := hkr.size
  have hfl : ((l.take i).filter (fun x => decide (x ≠ []))).length ≤ (l.take i).length := List.length_filter_le _ _
  rw [List.length_take] at hfl
  rcases Nat.lt_or_ge i l.length with hlt | hge
  · have hf := filter_snoc l i hlt
    repeat' (first | (refine CL.seq ?_) | (refine CL.region ?_) | (refine CL.skip ?_) | (refine CL.condP rfl (fun _ => ?_) (fun _ => ?_) <;> try (exfalso; omega)) | (refine CL.block ?_) | (refine CL.done ?_) | (refine Nm.block ?_) | (refine Nm.then ?_) | (refine Gt.nil ?_; refine RW.nilw [0, 2, 3, 4, 5, 11, 18] ?_; dsimp only [H.keep, H.look, H.Fr.put, Nat.beq]) | (refine Gt.move ?_; refine RW.y (Y.move rfl) rfl ?_) | (refine Gt.assign ?_; refine RW.y (Y.assign rfl) rfl ?_) | (refine Gt.idx ?_; refine RW.elemS rfl rfl rfl rfl (by assumption) (by omega) (by omega) ?_) | (refine Gt.len ?_; (refine RW.y (Y.lenx rfl (by assumption)) rfl ?_)) | (refine Gt.lss ?_; refine RW.y (Y.lss rfl rfl) rfl ?_) | (refine Gt.neq ?_; refine RW.y (Y.nes rfl rfl) rfl ?_) | (refine Gt.add ?_; refine RW.y (Y.add64 rfl rfl (by omega) (by omega)) rfl ?_))
    · rename_i h
      rw [Int.toNat_natCast] at h
      rw [if_neg h] at hf
      refine RW.app1 rfl rfl rfl rfl how rfl rfl rfl rfl (one_vs _) (by omega) (by omega) (by omega) (fun u' w2 how' hk' hl' => ?_)
      repeat' (first | (refine CL.region ?_) | (refine CL.done ?_) | (refine Nm.block ?_) | (refine Nm.then ?_) | (refine Gt.nil ?_; refine RW.nilw [0, 2, 3, 4, 5, 11, 18] ?_; dsimp only [H.keep, H.look, H.Fr.put, Nat.beq]) | (refine Gt.move ?_; refine RW.y (Y.move rfl) rfl ?_) | (refine Gt.assign ?_; refine RW.y (Y.assign rfl) rfl ?_) | (refine Gt.add ?_; refine RW.y (Y.add64 rfl rfl (by omega) (by omega)) rfl ?_))
      rw [Int.toNat_natCast] at how'
      refine ⟨l.length - (i + 1), _, rfl, rfl, rfl, by omega, i + 1, u', rfl, rfl, by omega, ?_, hkr.trans hk' fun k h => .inr (how.lt k h).1⟩
      rw [hf]
      simpa [Value.cells] using how'
    · rename_i h
      rw [Int.toNat_natCast] at h
      have h : l.getD i [] = [] := Decidable.byContradiction fun c => h c
      rw [if_pos h, List.append_nil] at hf
      exact ⟨l.length - (i + 1), _, rfl, rfl, rfl, by omega, i + 1, u, rfl, rfl, by omega, by rw [hf]; exact how, hkr⟩
  · have hi : i = l.length := by omega
    subst hi
    rw [List.take_length] at how
    repeat' (first | (refine CL.seq ?_) | (refine CL.region ?_) | (refine CL.condP rfl (fun _ => ?_) (fun _ => ?_) <;> try (exfalso; omega)) | (refine CL.exit ?_) | (refine Ex.then ?_) | (refine Ex.hit ?_) | (refine CL.ret ?_) | (refine Gt.nil ?_; refine RW.nilw [0, 2, 3, 4, 5, 11, 18] ?_; dsimp only [H.keep, H.look, H.Fr.put, Nat.beq]) | (refine Gt.move ?_; refine RW.y (Y.move rfl) rfl ?_) | (refine Gt.assign ?_; refine RW.y (Y.assign rfl) rfl ?_) | (refine Gt.len ?_; (refine RW.y (Y.lenx rfl (by assumption)) rfl ?_)) | (refine Gt.lss ?_; refine RW.y (Y.lss rfl rfl) rfl ?_))
    exact FQ.one rfl rfl rfl ⟨_, rfl, own_base how (fun g hg => by have := (how.lt g hg).1; omega), hk1.trans0 hkr⟩

theorem take1 {s : T} (h : s ≠ []) : s.take 1 = [s.getD 0 0] := by
  cases s with
  | nil => exact absurd rfl h
  | cons a r => rfl
theorem sign1 {s : T} (h : s ≠ []) {c : UInt8} (e : ((s.getD 0 0).toNat : Int) = (c.toNat : Int)) : s.take 1 = [c] := by rw [take1 h, u8_eq e]
theorem sign1n {s : T} (h : s ≠ []) {c : UInt8} (e : ¬ ((s.getD 0 0).toNat : Int) = (c.toNat : Int)) : ¬ s.take 1 = [c] := by
  rw [take1 h]; intro q; apply e; rw [(List.cons.inj q).1]
theorem sA {s : T} (h : s.take 2 = [60, 61] ∨ s.take 2 = [62, 61]) : signOf s = s.take 2 := by rw [signOf, if_pos h]
theorem not2 {s : T} (h : s.length ≤ 1 ∨ (¬ s.take 2 = [60, 61] ∧ ¬ s.take 2 = [62, 61])) : ¬ (s.take 2 = [60, 61] ∨ s.take 2 = [62, 61]) := by
  rcases h with h | h
  · intro c
    have : (s.take 2).length ≤ 1 := by rw [List.length_take]; omega
    rcases c with c | c <;> rw [c] at this <;> simp at this
  · intro c; rcases c with c | c; { exact h.1 c }; exact h.2 c
theorem sB {s : T} (h0 : s ≠ []) (h : s.length ≤ 1 ∨ (¬ s.take 2 = [60, 61] ∧ ¬ s.take 2 = [62, 61])) (hc : ((s.getD 0 0).toNat : Int) = 61 ∨ ((s.getD 0 0).toNat : Int) = 60 ∨ ((s.getD 0 0).toNat : Int) = 62 ∨ ((s.getD 0 0).toNat : Int) = 94 ∨ ((s.getD 0 0).toNat : Int) = 126) : signOf s = s.take 1 := by
  rw [signOf, if_neg (not2 h), if_pos]
  rcases hc with c | c | c | c | c
  · exact .inr (.inr (.inl (sign1 h0 c)))
  · exact .inl (sign1 h0 c)
  · exact .inr (.inl (sign1 h0 c))
  · exact .inr (.inr (.inr (.inl (sign1 h0 c))))
  · exact .inr (.inr (.inr (.inr (sign1 h0 c))))
theorem sC {s : T} (h0 : s ≠ []) (h : s.length ≤ 1 ∨ (¬ s.take 2 = [60, 61] ∧ ¬ s.take 2 = [62, 61])) (hc : ¬ ((s.getD 0 0).toNat : Int) = 61 ∧ ¬ ((s.getD 0 0).toNat : Int) = 60 ∧ ¬ ((s.getD 0 0).toNat : Int) = 62 ∧ ¬ ((s.getD 0 0).toNat : Int) = 94 ∧ ¬ ((s.getD 0 0).toNat : Int) = 126) : signOf s = [] := by
  rw [signOf, if_neg (not2 h), if_neg]
  rintro (c | c | c | c | c)
  · exact sign1n (c := 60) h0 hc.2.1 c
  · exact sign1n (c := 62) h0 hc.2.2.1 c
  · exact sign1n (c := 61) h0 hc.1 c
  · exact sign1n (c := 94) h0 hc.2.2.2.1 c
  · exact sign1n (c := 126) h0 hc.2.2.2.2 c
theorem bdCells {s : T} {a b c : Int} {p : Value} (hp : p.oneCell' = true) : ∀ z ∈ (#[vs s, .int .i64 a, .int .i64 b, .int .i64 c, p] : Array Value).toList, z.oneCell' = true := by
  intro z hz
  simp at hz
  rcases hz with rfl | rfl | rfl | rfl | rfl <;> first | rfl | exact hp


set_option maxHeartbeats 4000000 in
theorem refBounds (s : T) (h0 : s ≠ []) (hl : s.length ≤ 1000000) (w : World) : Calls Tryz.prog 33 #[vs s] w fun e w' => K0 w w' ∧ ∃ p, e = .returned (.tuple #[p, .bool (boundsB s).isSome]) ∧ (∀ l, boundsB s = some l → BdsNew w.heap.size w' p l) := by
  have hpos : 0 < s.length := List.length_pos_iff.2 h0
  refine H.enter Tryz.func33 Tryz.ntmps33 rfl rfl ?_; dsimp only [H.args]
  repeat' (first | (refine CL.seq ?_) | (refine CL.region ?_) | (refine Gt.nil ?_; refine RW.nilw [0, 2, 3, 4, 5, 6, 7, 8, 9, 25, 60, 63, 64, 69, 73, 76, 83] ?_; dsimp only [H.keep, H.look, H.Fr.put, Nat.beq]) | (refine Gt.assign ?_; refine RW.y (Y.assign rfl) rfl ?_))
  refine CL.cutS [0, 2, 3, 4] (fun vals wr => vals = [vs s, .slice none 0 0, .bool false, vs (signOf s)] ∧ wr = w) (by simp) ?_ ?_
  · repeat' (first | (refine CL.seq ?_) | (refine CL.region ?_) | (refine CL.skip ?_) | (refine CL.condP rfl (fun _ => ?_) (fun _ => ?_) <;> try (exfalso; omega)) | (refine CL.condT rfl ?_) | (refine CL.condF rfl ?_) | (refine CL.block ?_) | (refine CL.done ?_) | (refine Nm.block ?_) | (refine Nm.then ?_) | (refine Gt.nil ?_; refine RW.nilw [0, 2, 3, 4, 5, 6, 7, 8, 9, 25, 60, 63, 64, 69, 73, 76, 83] ?_; dsimp only [H.keep, H.look, H.Fr.put, Nat.beq]) | (refine Gt.assign ?_; refine RW.y (Y.assign rfl) rfl ?_) | (refine Gt.guard ?_; first | (refine RW.part rfl rfl rfl (fun _ => ?_) (fun _ => ?_) <;> try (exfalso; omega)) | (refine RW.on rfl rfl rfl ?_) | (refine RW.off1 rfl rfl rfl rfl rfl ?_) | (refine RW.offu rfl rfl rfl rfl ?_)) | (refine Gt.move ?_; refine RW.y (Y.move rfl) rfl ?_) | (refine Gt.pick ?_; first | (refine RW.y (Y.pickT rfl rfl) rfl ?_) | (refine RW.y (Y.pickF rfl rfl) rfl ?_)) | (refine Gt.eql ?_; first | (refine RW.y (Y.eqs rfl rfl) rfl ?_) | (refine RW.y (Y.eqi rfl rfl) rfl ?_)) | (refine Gt.index ?_; refine RW.y (Y.idxs rfl rfl (by omega) (by omega)) rfl ?_) | (refine Gt.slice ?_; (refine RW.y (Y.cuth rfl rfl (by omega) (by omega)) rfl ?_)) | (refine Gt.gtr ?_; refine RW.y (Y.gtr rfl rfl) rfl ?_) | (refine Gt.len ?_; refine RW.y (Y.lens rfl) rfl ?_))
    all_goals first
      | (refine ⟨_, rfl, rfl, rfl, ?_, rfl⟩; rw [sA (s := s) (by first | exact .inl (by assumption) | exact .inr (by assumption))] <;> try rfl)
      | (refine ⟨_, rfl, rfl, rfl, ?_, rfl⟩; rw [sB h0 (by first | exact .inl (by omega) | exact .inr ⟨by assumption, by assumption⟩) (by first | exact .inl (by assumption) | exact .inr (.inl (by assumption)) | exact .inr (.inr (.inl (by assumption))) | exact .inr (.inr (.inr (.inl (by assumption)))) | exact .inr (.inr (.inr (.inr (by assumption)))))] <;> try rfl)
      | (refine ⟨_, rfl, rfl, rfl, ?_, rfl⟩; rw [sC h0 (by first | exact .inl (by omega) | exact .inr ⟨by assumption, by assumption⟩) ⟨by assumption, by assumption, by assumption, by assumption, by assumption⟩] <;> try rfl)
  · rintro vals wr ⟨rfl, rfl⟩
    dsimp only [List.zip, List.zipWith]
    have hbB : boundsB s = (parseV (cutB 45 (s.drop (signOf s).length))).map (expand (signOf s)) := rfl
    have hgl : (signOf s).length ≤ s.length := by
      rw [signOf]; repeat' split
      all_goals first | (rw [List.length_take]; omega) | simp
    rw [hbB]
    generalize signOf s = g at *
    have hdl : (s.drop g.length).length ≤ 2000000 := by rw [List.length_drop]; omega
    repeat' (first | (refine CL.seq ?_) | (refine CL.region ?_) | (refine Gt.move ?_; refine RW.y (Y.move rfl) rfl ?_) | (refine Gt.slice ?_; (refine RW.y (Y.cutl rfl rfl (by omega) (by omega)) rfl ?_)) | (refine Gt.len ?_; refine RW.y (Y.lens rfl) rfl ?_))
    refine RW.fn rfl rfl ((versionOfN _ (by rw [Int.toNat_natCast]; exact hdl) wr).mono ?_)
    rw [Int.toNat_natCast]
    rintro e w2 ⟨hk2, V, rfl, hV⟩
    obtain ⟨p, rfl, hp1, hp, hpl⟩ := verN hV
    have hz2 := hk2.size
    cases hpv : parseV (cutB 45 (s.drop g.length)) with
    | none =>
      rw [hpv] at hp
      dsimp only [verR, Option.map_none] at hp ⊢
      repeat' (first | (refine Gt.move ?_; refine RW.y (Y.move rfl) rfl ?_) | (refine Gt.extract ?_; refine RW.y (Y.extract rfl rfl) rfl ?_))
      refine RW.varN rfl rfl rfl (verCells hp1) rfl (fun w3 hb3 hk3 hlt3 => ?_)
      repeat' (first | (refine CL.seq ?_) | (refine CL.region ?_) | (refine CL.condP rfl (fun _ => ?_) (fun _ => ?_) <;> try (exfalso; omega)) | (refine CL.ret ?_) | (refine Gt.nil ?_; refine RW.nilw [0, 2, 3, 4, 5, 6, 7, 8, 9, 25, 60, 63, 64, 69, 73, 76, 83] ?_; dsimp only [H.keep, H.look, H.Fr.put, Nat.beq]) | (refine Gt.assign ?_; refine RW.y (Y.assign rfl) rfl ?_) | (refine Gt.move ?_; refine RW.y (Y.move rfl) rfl ?_) | (refine Gt.neq ?_; refine RW.y (Y.nei rfl rfl) rfl ?_))
      exact FQ.two rfl rfl rfl rfl ⟨hk2.trans0 hk3, _, rfl, fun l hl => by cases hl⟩
    | some v =>
      rw [hpv] at hp
      have hi64 := parse_i64 hpv
      have hpp := parse_parts hpv
      dsimp only [verR, Option.map_some] at hp ⊢
      repeat' (first | (refine Gt.move ?_; refine RW.y (Y.move rfl) rfl ?_) | (refine Gt.extract ?_; refine RW.y (Y.extract rfl rfl) rfl ?_))
      refine RW.varN rfl rfl rfl (verCells hp1) rfl (fun w3 hb3 hk3 hlt3 => ?_)
      repeat' (first | (refine CL.seq ?_) | (refine CL.region ?_) | (refine CL.skip ?_) | (refine CL.condP rfl (fun _ => ?_) (fun _ => ?_) <;> try (exfalso; omega)) | (refine Gt.nil ?_; refine RW.nilw [0, 2, 3, 4, 5, 6, 7, 8, 9, 25, 60, 63, 64, 69, 73, 76, 83] ?_; dsimp only [H.keep, H.look, H.Fr.put, Nat.beq]) | (refine Gt.assign ?_; refine RW.y (Y.assign rfl) rfl ?_) | (refine Gt.move ?_; refine RW.y (Y.move rfl) rfl ?_) | (refine Gt.load ?_; (refine RW.y (Y.loadBlock rfl (by assumption) rfl) rfl ?_)) | (refine Gt.neq ?_; refine RW.y (Y.nei rfl rfl) rfl ?_) | (refine RW.y (Y.build (ps := [(0, _), (1, _)]) rfl rfl) rfl ?_))
      refine RW.varN (u := #[vs [62, 61], .int .i64 v.a, .int .i64 v.b, .int .i64 v.c, p]) rfl rfl rfl (bdCells hp1) rfl (fun w4 hb4 hk4 hlt4 => ?_)
      have hb3' := hk4.at0 hb3
      repeat' (first | (refine CL.seq ?_) | (refine CL.region ?_) | (refine CL.skip ?_) | (refine CL.condP rfl (fun _ => ?_) (fun _ => ?_) <;> try (exfalso; omega)) | (refine CL.block ?_) | (refine CL.done ?_) | (refine Nm.block ?_) | (refine Gt.nil ?_; refine RW.nilw [0, 2, 3, 4, 5, 6, 7, 8, 9, 25, 60, 63, 64, 69, 73, 76, 83] ?_; dsimp only [H.keep, H.look, H.Fr.put, Nat.beq]) | (refine Gt.assign ?_; refine RW.y (Y.assign rfl) rfl ?_) | (refine Gt.move ?_; refine RW.y (Y.move rfl) rfl ?_) | (refine Gt.load ?_; first | (refine RW.y (Y.loadB rfl (by assumption) rfl) rfl ?_) | (refine RW.y (Y.loadBlock rfl (by assumption) rfl) rfl ?_)) | (refine Gt.eql ?_; (refine RW.y (Y.eqs rfl rfl) rfl ?_)) | (refine Gt.gtr ?_; refine RW.y (Y.gtr rfl rfl) rfl ?_) | (refine Gt.fieldAddr ?_; refine RW.y (Y.fieldAddr rfl (by rfl)) rfl ?_) | (refine RW.y (Y.build (ps := [(0, _), (1, _)]) rfl rfl) rfl ?_))
      · have hg : g = [] := by assumption
        have he : expand g v = [⟨[61], v⟩] := by rw [expand, if_pos hg]
        rw [he]
        refine RW.buildL (ps := [(0, _)]) (l := [.agg #[vs [61], .int .i64 v.a, .int .i64 v.b, .int .i64 v.c, p]]) rfl rfl rfl (cells5a rfl) rfl rfl (fun w5 hb5 hk5 hlt5 => ?_)
        repeat' (first | (refine CL.ret ?_) | (refine Rt.block ?_) | (refine Gt.nil ?_; refine RW.nilw [0, 2, 3, 4, 5, 6, 7, 8, 9, 25, 60, 63, 64, 69, 73, 76, 83] ?_; dsimp only [H.keep, H.look, H.Fr.put, Nat.beq]) | (refine Gt.assign ?_; refine RW.y (Y.assign rfl) rfl ?_))
        refine FQ.two rfl rfl rfl rfl ⟨((hk2.trans0 hk3).trans0 hk4).trans0 hk5, _, rfl, fun l hl => ?_⟩
        obtain rfl := Option.some.inj hl
        exact BdsNew.one (q := p) (sl_new hb5 rfl (by decide)) (by have := hk3.size; have := hk4.size; omega) (hp.keep0 ((hk3.trans0 hk4).trans0 hk5)) hpl
      · have hg : g = [94] := by assumption
        have he : expand g v = [⟨[62, 61], v⟩, ⟨[60], nextV v 0⟩] := by rw [expand, if_neg (by assumption), if_pos hg, if_pos (by assumption)]
        rw [he]
        refine CL.draw (fun w' => K0 w4 w') (by kernel_rfl) (fun w5 hheap hk5 => ?_)
        have hS : K0 w4 w5 := hk5
        skip
        refine AW.take 0 rfl (by kernel_rfl) (by kernel_rfl) (by kernel_rfl) rfl (by assumption) (fun w hS => Y.loadBlock rfl (hS.at0 hb4) rfl) ?_
        refine AW.take 1 rfl (by kernel_rfl) (by kernel_rfl) (by kernel_rfl) rfl (by assumption) (fun w hS => Y.loadBlock rfl (hS.at0 hb3') rfl) ?_
        refine AW.take 2 rfl (by kernel_rfl) (by kernel_rfl) (by kernel_rfl) rfl (by assumption) (fun w hS => Y.move rfl) ?_
        refine AW.next 3 rfl (by kernel_rfl) ?_
        refine RW.fn rfl rfl ((refNext _ v _ w5 ⟨p, rfl, hp.keep0 ((hk3.trans0 hk4).trans0 hk5)⟩ hi64).mono ?_)
        rintro e w6 ⟨hk6, rfl⟩
        refine RW.nil (Nm.then (rebase0 hS hk6 fun hS => ?_))
        refine AW.take 4 rfl (by kernel_rfl) (by kernel_rfl) (by kernel_rfl) rfl (by assumption) (fun w hS => Y.build (ps := [(0, _), (1, _)]) (c := #[vs [60], .int .i64 (nextV v _).a, .int .i64 (nextV v _).b, .int .i64 (nextV v _).c, .slice none 0 0]) rfl rfl) ?_
        refine AW.next 5 rfl (by kernel_rfl) ?_
        refine RW.buildL (ps := [(0, _), (1, _)]) (l := [_, _]) rfl rfl rfl (cells5 rfl rfl) rfl rfl (fun w7 hb7 hk7 hlt7 => ?_)
        refine RW.nil (Nm.then (rebase0 hS hk7 fun hS => ?_))
        refine AW.take 6 rfl (by kernel_rfl) (by kernel_rfl) (by kernel_rfl) rfl (by assumption) (fun w hS => Y.assign rfl) ?_
        refine AW.take 7 rfl (by kernel_rfl) (by kernel_rfl) (by kernel_rfl) rfl (by assumption) (fun w hS => Y.assign rfl) ?_
        refine AW.donew [2, 3] (by kernel_rfl) ?_
        dsimp only [H.keep, H.look, H.Fr.put, Nat.beq]
        repeat' (first | (refine CL.ret ?_) | (refine Rt.block ?_))
        refine FQ.two rfl rfl rfl rfl ⟨((((hk2.trans0 hk3).trans0 hk4).trans0 hk5).trans0 hk6).trans0 hk7, _, rfl, fun l hl => ?_⟩
        obtain rfl := Option.some.inj hl
        have hsl : Sl w7 5 (.slice (some ⟨w6.heap.size, 0, none⟩) 2 2) 2 _ := sl_new hb7 rfl (by decide)
        exact BdsNew.two (q := p) (r := .slice none 0 0) hsl (by have := hk3.size; have := hk4.size; have := hk5.size; have := hk6.size; omega) (hp.keep0 ((((hk3.trans0 hk4).trans0 hk5).trans0 hk6).trans0 hk7)) hpl (by rw [next_pre]; exact Sl.nil _ _) nolive
      · have hg : g = [94] := by assumption
        have he : expand g v = [⟨[62, 61], v⟩, ⟨[60], nextV v 1⟩] := by rw [expand, if_neg (by assumption), if_pos hg, if_neg (by assumption), if_pos (by assumption)]
        rw [he]
        refine CL.draw (fun w' => K0 w4 w') (by kernel_rfl) (fun w5 hheap hk5 => ?_)
        have hS : K0 w4 w5 := hk5
        skip
        refine AW.take 0 rfl (by kernel_rfl) (by kernel_rfl) (by kernel_rfl) rfl (by assumption) (fun w hS => Y.loadBlock rfl (hS.at0 hb4) rfl) ?_
        refine AW.take 1 rfl (by kernel_rfl) (by kernel_rfl) (by kernel_rfl) rfl (by assumption) (fun w hS => Y.loadBlock rfl (hS.at0 hb3') rfl) ?_
        refine AW.take 2 rfl (by kernel_rfl) (by kernel_rfl) (by kernel_rfl) rfl (by assumption) (fun w hS => Y.move rfl) ?_
        refine AW.next 3 rfl (by kernel_rfl) ?_
        refine RW.fn rfl rfl ((refNext _ v _ w5 ⟨p, rfl, hp.keep0 ((hk3.trans0 hk4).trans0 hk5)⟩ hi64).mono ?_)
        rintro e w6 ⟨hk6, rfl⟩
        refine RW.nil (Nm.then (rebase0 hS hk6 fun hS => ?_))
        refine AW.take 4 rfl (by kernel_rfl) (by kernel_rfl) (by kernel_rfl) rfl (by assumption) (fun w hS => Y.build (ps := [(0, _), (1, _)]) (c := #[vs [60], .int .i64 (nextV v _).a, .int .i64 (nextV v _).b, .int .i64 (nextV v _).c, .slice none 0 0]) rfl rfl) ?_
        refine AW.next 5 rfl (by kernel_rfl) ?_
        refine RW.buildL (ps := [(0, _), (1, _)]) (l := [_, _]) rfl rfl rfl (cells5 rfl rfl) rfl rfl (fun w7 hb7 hk7 hlt7 => ?_)
        refine RW.nil (Nm.then (rebase0 hS hk7 fun hS => ?_))
        refine AW.take 6 rfl (by kernel_rfl) (by kernel_rfl) (by kernel_rfl) rfl (by assumption) (fun w hS => Y.assign rfl) ?_
        refine AW.take 7 rfl (by kernel_rfl) (by kernel_rfl) (by kernel_rfl) rfl (by assumption) (fun w hS => Y.assign rfl) ?_
        refine AW.donew [2, 3] (by kernel_rfl) ?_
        dsimp only [H.keep, H.look, H.Fr.put, Nat.beq]
        repeat' (first | (refine CL.ret ?_) | (refine Rt.block ?_))
        refine FQ.two rfl rfl rfl rfl ⟨((((hk2.trans0 hk3).trans0 hk4).trans0 hk5).trans0 hk6).trans0 hk7, _, rfl, fun l hl => ?_⟩
        obtain rfl := Option.some.inj hl
        have hsl : Sl w7 5 (.slice (some ⟨w6.heap.size, 0, none⟩) 2 2) 2 _ := sl_new hb7 rfl (by decide)
        exact BdsNew.two (q := p) (r := .slice none 0 0) hsl (by have := hk3.size; have := hk4.size; have := hk5.size; have := hk6.size; omega) (hp.keep0 ((((hk3.trans0 hk4).trans0 hk5).trans0 hk6).trans0 hk7)) hpl (by rw [next_pre]; exact Sl.nil _ _) nolive
      · have hg : g = [94] := by assumption
        have he : expand g v = [⟨[62, 61], v⟩, ⟨[60], nextV v 2⟩] := by rw [expand, if_neg (by assumption), if_pos hg, if_neg (by assumption), if_neg (by assumption)]
        rw [he]
        refine CL.draw (fun w' => K0 w4 w') (by kernel_rfl) (fun w5 hheap hk5 => ?_)
        have hS : K0 w4 w5 := hk5
        skip
        refine AW.take 0 rfl (by kernel_rfl) (by kernel_rfl) (by kernel_rfl) rfl (by assumption) (fun w hS => Y.loadBlock rfl (hS.at0 hb4) rfl) ?_
        refine AW.take 1 rfl (by kernel_rfl) (by kernel_rfl) (by kernel_rfl) rfl (by assumption) (fun w hS => Y.loadBlock rfl (hS.at0 hb3') rfl) ?_
        refine AW.take 2 rfl (by kernel_rfl) (by kernel_rfl) (by kernel_rfl) rfl (by assumption) (fun w hS => Y.move rfl) ?_
        refine AW.next 3 rfl (by kernel_rfl) ?_
        refine RW.fn rfl rfl ((refNext _ v _ w5 ⟨p, rfl, hp.keep0 ((hk3.trans0 hk4).trans0 hk5)⟩ hi64).mono ?_)
        rintro e w6 ⟨hk6, rfl⟩
        refine RW.nil (Nm.then (rebase0 hS hk6 fun hS => ?_))
        refine AW.take 4 rfl (by kernel_rfl) (by kernel_rfl) (by kernel_rfl) rfl (by assumption) (fun w hS => Y.build (ps := [(0, _), (1, _)]) (c := #[vs [60], .int .i64 (nextV v _).a, .int .i64 (nextV v _).b, .int .i64 (nextV v _).c, .slice none 0 0]) rfl rfl) ?_
        refine AW.next 5 rfl (by kernel_rfl) ?_
        refine RW.buildL (ps := [(0, _), (1, _)]) (l := [_, _]) rfl rfl rfl (cells5 rfl rfl) rfl rfl (fun w7 hb7 hk7 hlt7 => ?_)
        refine RW.nil (Nm.then (rebase0 hS hk7 fun hS => ?_))
        refine AW.take 6 rfl (by kernel_rfl) (by kernel_rfl) (by kernel_rfl) rfl (by assumption) (fun w hS => Y.assign rfl) ?_
        refine AW.take 7 rfl (by kernel_rfl) (by kernel_rfl) (by kernel_rfl) rfl (by assumption) (fun w hS => Y.assign rfl) ?_
        refine AW.donew [2, 3] (by kernel_rfl) ?_
        dsimp only [H.keep, H.look, H.Fr.put, Nat.beq]
        repeat' (first | (refine CL.ret ?_) | (refine Rt.block ?_))
        refine FQ.two rfl rfl rfl rfl ⟨((((hk2.trans0 hk3).trans0 hk4).trans0 hk5).trans0 hk6).trans0 hk7, _, rfl, fun l hl => ?_⟩
        obtain rfl := Option.some.inj hl
        have hsl : Sl w7 5 (.slice (some ⟨w6.heap.size, 0, none⟩) 2 2) 2 _ := sl_new hb7 rfl (by decide)
        exact BdsNew.two (q := p) (r := .slice none 0 0) hsl (by have := hk3.size; have := hk4.size; have := hk5.size; have := hk6.size; omega) (hp.keep0 ((((hk3.trans0 hk4).trans0 hk5).trans0 hk6).trans0 hk7)) hpl (by rw [next_pre]; exact Sl.nil _ _) nolive
      · have hg : g = [126] := by assumption
        have he : expand g v = [⟨[62, 61], v⟩, ⟨[60], nextV v 1⟩] := by rw [expand, if_neg (by assumption), if_neg (by assumption), if_pos hg]
        rw [he]
        refine CL.draw (fun w' => K0 w4 w') (by kernel_rfl) (fun w5 hheap hk5 => ?_)
        have hS : K0 w4 w5 := hk5
        skip
        refine AW.take 0 rfl (by kernel_rfl) (by kernel_rfl) (by kernel_rfl) rfl (by assumption) (fun w hS => Y.loadBlock rfl (hS.at0 hb4) rfl) ?_
        refine AW.take 1 rfl (by kernel_rfl) (by kernel_rfl) (by kernel_rfl) rfl (by assumption) (fun w hS => Y.loadBlock rfl (hS.at0 hb3') rfl) ?_
        refine AW.next 2 rfl (by kernel_rfl) ?_
        refine RW.fn rfl rfl ((refNext _ v _ w5 ⟨p, rfl, hp.keep0 ((hk3.trans0 hk4).trans0 hk5)⟩ hi64).mono ?_)
        rintro e w6 ⟨hk6, rfl⟩
        refine RW.nil (Nm.then (rebase0 hS hk6 fun hS => ?_))
        refine AW.take 3 rfl (by kernel_rfl) (by kernel_rfl) (by kernel_rfl) rfl (by assumption) (fun w hS => Y.build (ps := [(0, _), (1, _)]) (c := #[vs [60], .int .i64 (nextV v _).a, .int .i64 (nextV v _).b, .int .i64 (nextV v _).c, .slice none 0 0]) rfl rfl) ?_
        refine AW.next 4 rfl (by kernel_rfl) ?_
        refine RW.buildL (ps := [(0, _), (1, _)]) (l := [_, _]) rfl rfl rfl (cells5 rfl rfl) rfl rfl (fun w7 hb7 hk7 hlt7 => ?_)
        refine RW.nil (Nm.then (rebase0 hS hk7 fun hS => ?_))
        refine AW.take 5 rfl (by kernel_rfl) (by kernel_rfl) (by kernel_rfl) rfl (by assumption) (fun w hS => Y.assign rfl) ?_
        refine AW.take 6 rfl (by kernel_rfl) (by kernel_rfl) (by kernel_rfl) rfl (by assumption) (fun w hS => Y.assign rfl) ?_
        refine AW.donew [2, 3] (by kernel_rfl) ?_
        dsimp only [H.keep, H.look, H.Fr.put, Nat.beq]
        repeat' (first | (refine CL.ret ?_) | (refine Rt.block ?_))
        refine FQ.two rfl rfl rfl rfl ⟨((((hk2.trans0 hk3).trans0 hk4).trans0 hk5).trans0 hk6).trans0 hk7, _, rfl, fun l hl => ?_⟩
        obtain rfl := Option.some.inj hl
        have hsl : Sl w7 5 (.slice (some ⟨w6.heap.size, 0, none⟩) 2 2) 2 _ := sl_new hb7 rfl (by decide)
        exact BdsNew.two (q := p) (r := .slice none 0 0) hsl (by have := hk3.size; have := hk4.size; have := hk5.size; have := hk6.size; omega) (hp.keep0 ((((hk3.trans0 hk4).trans0 hk5).trans0 hk6).trans0 hk7)) hpl (by rw [next_pre]; exact Sl.nil _ _) nolive
      · have he : expand g v = [⟨g, v⟩] := by rw [expand, if_neg (by assumption), if_neg (by assumption), if_neg (by assumption)]
        rw [he]
        refine RW.buildL (ps := [(0, _)]) (l := [.agg #[vs g, .int .i64 v.a, .int .i64 v.b, .int .i64 v.c, p]]) rfl rfl rfl (cells5a rfl) rfl rfl (fun w5 hb5 hk5 hlt5 => ?_)
        repeat' (first | (refine CL.ret ?_) | (refine Gt.nil ?_; refine RW.nilw [0, 2, 3, 4, 5, 6, 7, 8, 9, 25, 60, 63, 64, 69, 73, 76, 83] ?_; dsimp only [H.keep, H.look, H.Fr.put, Nat.beq]) | (refine Gt.assign ?_; refine RW.y (Y.assign rfl) rfl ?_))
        refine FQ.two rfl rfl rfl rfl ⟨((hk2.trans0 hk3).trans0 hk4).trans0 hk5, _, rfl, fun l hl => ?_⟩
        obtain rfl := Option.some.inj hl
        exact BdsNew.one (q := p) (sl_new hb5 rfl (by decide)) (by have := hk3.size; have := hk4.size; omega) (hp.keep0 ((hk3.trans0 hk4).trans0 hk5)) hpl
end Go.Proofs.YtjfdhafmbcppjaaGreatDoor.Sp

namespace Go.Proofs.YtjfdhafmbcppjaaGreatDoor.Sp
open Go.RowKit H S Ve

abbrev orT : TypeId := 65
def BdsOn (A : Nat → Prop) (w : World) (p : Value) (l : List Bd) : Prop := ∃ L : List (Bd × Value), L.map (·.1) = l ∧ Sl w 5 p L.length (L.flatMap bdC) ∧ (∀ g, live p = some g → A g) ∧ ∀ x ∈ L, Sl w 1 x.2 x.1.v.pre.length (sv x.1.v.pre) ∧ ∀ g, live x.2 = some g → A g
theorem BdsNew.on {B : Nat} {w : World} {p : Value} {l : List Bd} (h : BdsNew B w p l) : BdsOn (fun g => B ≤ g) w p l := h
theorem BdsOn.at {A : Nat → Prop} {w : World} {p : Value} {l : List Bd} (h : BdsOn A w p l) : BdsAt w p l := by
  obtain ⟨L, h1, h2, _, h3⟩ := h; exact ⟨L, h1, h2, fun x hx => (h3 x hx).1⟩
theorem BdsOn.mono {A A' : Nat → Prop} {w : World} {p : Value} {l : List Bd} (h : BdsOn A w p l) (hA : ∀ g, g < w.heap.size → A g → A' g) : BdsOn A' w p l := by
  obtain ⟨L, h1, h2, h3, h4⟩ := h
  exact ⟨L, h1, h2, fun g hg => hA g (h2.lt hg) (h3 g hg), fun x hx => ⟨(h4 x hx).1, fun g hg => hA g ((h4 x hx).1.lt hg) ((h4 x hx).2 g hg)⟩⟩
theorem BdsOn.keep {A S : Nat → Prop} {w w' : World} {p : Value} {l : List Bd} (h : BdsOn A w p l) (k : Kept S w w') (hS : ∀ g, g < w.heap.size → A g → ¬ S g) : BdsOn A w' p l := by
  obtain ⟨L, h1, h2, h3, h4⟩ := h
  exact ⟨L, h1, h2.keep k fun g hg => hS g (h2.lt hg) (h3 g hg), h3, fun x hx => ⟨(h4 x hx).1.keep k fun g hg => hS g ((h4 x hx).1.lt hg) ((h4 x hx).2 g hg), (h4 x hx).2⟩⟩
theorem BdsOn.one {A : Nat → Prop} {w : World} {p : Value} {l : List Bd} (h : BdsOn A w p l) : p.oneCell' = true := by
  obtain ⟨L, h1, h2, _⟩ := h; exact h2.one

/-- A row of bounds that grows. -/
def BI (w : World) (B : Nat) (u : Value) (l : List Bd) : Prop := ∃ L : List (Bd × Value), L.map (·.1) = l ∧ w.ownsRow B bdT' 5 u L.length (L.flatMap bdC) ∧ ∀ x ∈ L, Sl w 1 x.2 x.1.v.pre.length (sv x.1.v.pre) ∧ ∀ g, live x.2 = some g → B ≤ g ∧ u.ownBlock ≠ some g
theorem BI.nil (w : World) (B : Nat) : BI w B (.slice none 0 0) [] := ⟨[], rfl, World.ownsRow_nil _ _ _ _, fun x hx => by cases hx⟩
theorem BI.keep {S : Nat → Prop} {w w' : World} {B : Nat} {u : Value} {l : List Bd} (h : BI w B u l) (k : Kept S w w') (hS : ∀ g, B ≤ g → g < w.heap.size → ¬ S g) : BI w' B u l := by
  obtain ⟨L, h1, h2, h3⟩ := h
  exact ⟨L, h1, own_kept h2 k fun g hg => hS g (h2.lt g hg).1 (h2.lt g hg).2, fun x hx => ⟨(h3 x hx).1.keep k fun g hg => hS g ((h3 x hx).2 g hg).1 ((h3 x hx).1.lt hg), (h3 x hx).2⟩⟩
theorem BI.new {w : World} {B : Nat} {u : Value} {l : List Bd} (h : BI w B u l) : BdsNew B w u l := by
  obtain ⟨L, h1, h2, h3⟩ := h
  exact ⟨L, h1, Sl.of_own h2, fun g hg => (h2.lt g (live_own hg)).1, fun x hx => ⟨(h3 x hx).1, fun g hg => ((h3 x hx).2 g hg).1⟩⟩
theorem BI.own {w : World} {B : Nat} {u : Value} {l : List Bd} (h : BI w B u l) : ∀ g, u.ownBlock = some g → B ≤ g ∧ g < w.heap.size := by
  obtain ⟨L, h1, h2, h3⟩ := h
  exact fun g hg => h2.lt g hg
theorem BI.len {w : World} {B : Nat} {u : Value} {l : List Bd} (h : BI w B u l) : ∃ xs, w.ownsRow B bdT' 5 u l.length xs := by
  obtain ⟨L, rfl, h2, h3⟩ := h
  exact ⟨_, by rw [List.length_map]; exact h2⟩
theorem bdC_one {x : Bd × Value} (h : x.2.oneCell' = true) : ∀ z ∈ bdC x, z.oneCell' = true := by
  intro z hz
  simp [bdC] at hz
  rcases hz with rfl | rfl | rfl | rfl | rfl <;> first | rfl | exact h
section
variable {M : Option (Option Nat)} {P : Program} {ops : Array Oper} {Q : Post} {rest : List Oper} {f : Fr} {w : World} {d : Nat} {ty : TypeId} {pos : String} {af : Array Edge}
/-- append of bounds that were laid behind C. -/
theorem RW.appB {t : TypeId} {z : Value} {b : Nat} [ht : Und P t (.slice bdT')] [hi : Inf P bdT' z 5 b] {s x : Operand} {u vx : Value} (hs : f.ev s = some u) (hx : f.ev x = some vx) (hd : Nat.blt d f.n = true) {B C : Nat} (hz : z.cells.size = 5)
    {l m : List Bd} (h : BI w B u l) (hn : BdsNew C w vx m) (hC : ∀ g, u.ownBlock = some g → g < C) (hBC : B ≤ C) (hl : l.length ≤ 1000000) (hm : m.length ≤ 1000000) (hb : b ≤ 1000) (hB : B ≤ w.heap.size)
    (k : ∀ v' w', BI w' B v' (l ++ m) → Kept (fun k => u.ownBlock = some k) w w' → Lies w u v' → RW M P ops Q rest (f.put d v') w') :
    RW M P ops Q (op1 d (.call { callee := .builtin .append, args := #[s, x], argTypes := #[t, t] }) ty pos af :: rest) f w := by
  obtain ⟨L, rfl, h2, h3⟩ := h
  obtain ⟨K, rfl, g2, g3, g4⟩ := hn
  rw [List.length_map] at hl hm
  have hbb : (L.length + K.length) * b ≤ 2000000 * 1000 := Nat.mul_le_mul (by omega) hb
  refine RW.app hs hx hd hz rfl h2 g2 (fun y hy => ?_) (by omega) (by omega) hB fun v' w' how hk hlies => k v' w' ⟨L ++ K, by simp, ?_, ?_⟩ hk hlies
  · obtain ⟨x, hx, hy⟩ := List.mem_flatMap.1 hy
    exact bdC_one (g4 x hx).1.one y hy
  · rw [List.length_append, List.flatMap_append]; exact how
  · intro x hx
    have hold : Sl w 1 x.2 x.1.v.pre.length (sv x.1.v.pre) ∧ ∀ g, live x.2 = some g → B ≤ g ∧ u.ownBlock ≠ some g := by
      rcases List.mem_append.1 hx with hx | hx
      · exact h3 x hx
      · exact ⟨(g4 x hx).1, fun g hg => ⟨Nat.le_trans hBC ((g4 x hx).2 g hg), fun c => by have := hC g c; have := (g4 x hx).2 g hg; omega⟩⟩
    refine ⟨hold.1.keep hk fun g hg => (hold.2 g hg).2, fun g hg => ⟨(hold.2 g hg).1, fun c => ?_⟩⟩
    rcases hlies g c with e | e
    · exact (hold.2 g hg).2 e
    · have := hold.1.lt hg; omega
end

/-- A row of lists of bounds that grows. -/
def OI (w : World) (B : Nat) (q : Value) (o : List (List Bd)) : Prop := ∃ R : List (List Bd × Value), R.map (·.1) = o ∧ w.ownsRow B orT 1 q R.length (R.map (·.2)) ∧ ∀ x ∈ R, BdsOn (fun g => B ≤ g ∧ q.ownBlock ≠ some g) w x.2 x.1
/-- Lists of bounds in memory; in memory that was not there below B. -/
def OrAt (w : World) (p : Value) (o : List (List Bd)) : Prop := ∃ R : List (List Bd × Value), R.map (·.1) = o ∧ Sl w 1 p R.length (R.map (·.2)) ∧ ∀ x ∈ R, BdsAt w x.2 x.1
def OrNew (B : Nat) (w : World) (p : Value) (o : List (List Bd)) : Prop := ∃ R : List (List Bd × Value), R.map (·.1) = o ∧ Sl w 1 p R.length (R.map (·.2)) ∧ (∀ g, live p = some g → B ≤ g) ∧ ∀ x ∈ R, BdsNew B w x.2 x.1
theorem OrNew.at {B : Nat} {w : World} {p : Value} {o : List (List Bd)} (h : OrNew B w p o) : OrAt w p o := by
  obtain ⟨R, h1, h2, _, h3⟩ := h; exact ⟨R, h1, h2, fun x hx => (h3 x hx).at⟩
theorem OrAt.keep0 {w w' : World} {p : Value} {o : List (List Bd)} (h : OrAt w p o) (k : K0 w w') : OrAt w' p o := by
  obtain ⟨R, h1, h2, h3⟩ := h; exact ⟨R, h1, h2.keep0 k, fun x hx => (h3 x hx).keep0 k⟩
theorem OI.nil (w : World) (B : Nat) : OI w B (.slice none 0 0) [] := ⟨[], rfl, World.ownsRow_nil _ _ _ _, fun x hx => by cases hx⟩
theorem OI.keep {S : Nat → Prop} {w w' : World} {B : Nat} {q : Value} {o : List (List Bd)} (h : OI w B q o) (k : Kept S w w') (hS : ∀ g, B ≤ g → g < w.heap.size → ¬ S g) : OI w' B q o := by
  obtain ⟨R, h1, h2, h3⟩ := h
  exact ⟨R, h1, own_kept h2 k fun g hg => hS g (h2.lt g hg).1 (h2.lt g hg).2, fun x hx => (h3 x hx).keep k fun g hg hA => hS g hA.1 hg⟩
theorem OI.new {w : World} {B : Nat} {q : Value} {o : List (List Bd)} (h : OI w B q o) : OrNew B w q o := by
  obtain ⟨R, h1, h2, h3⟩ := h
  exact ⟨R, h1, Sl.of_own h2, fun g hg => (h2.lt g (live_own hg)).1, fun x hx => (h3 x hx).mono fun g _ h => h.1⟩
theorem OI.own {w : World} {B : Nat} {q : Value} {o : List (List Bd)} (h : OI w B q o) : ∀ g, q.ownBlock = some g → B ≤ g ∧ g < w.heap.size := by
  obtain ⟨R, h1, h2, h3⟩ := h
  exact fun g hg => h2.lt g hg
theorem OI.sl {w : World} {B : Nat} {q : Value} {o : List (List Bd)} (h : OI w B q o) : ∃ xs, Sl w 1 q o.length xs := by
  obtain ⟨R, rfl, h2, h3⟩ := h
  exact ⟨_, by rw [List.length_map]; exact Sl.of_own h2⟩
section
variable {M : Option (Option Nat)} {P : Program} {ops : Array Oper} {Q : Post} {rest : List Oper} {f : Fr} {w : World} {d : Nat} {ty : TypeId} {pos : String} {af : Array Edge}
/-- append of one list of bounds that was laid behind C. -/
theorem RW.appO {t ty1 : TypeId} {d1 : Nat} {pos1 : String} {af1 : Array Edge} {z : Value} {b : Nat} [ht : Und P t (.slice orT)] [hi : Inf P orT z 1 b] {s x : Operand} {q u : Value} (hx : f.ev x = some u) (hs : (f.put d1 (.slice (some ⟨w.heap.size, 0, none⟩) 1 1)).ev s = some q) (hd1 : Nat.blt d1 f.n = true) (hd : Nat.blt d f.n = true) {B C : Nat} (hz : z.cells.size = 1)
    {o : List (List Bd)} {l : List Bd} (h : OI w B q o) (hn : BdsNew C w u l) (hC : ∀ g, q.ownBlock = some g → g < C) (hBC : B ≤ C) (hl : o.length ≤ 1000000) (hb : b ≤ 1000) (hB : B ≤ w.heap.size)
    (k : ∀ v' w', OI w' B v' (o ++ [l]) → Kept (fun k => q.ownBlock = some k) w w' → Lies w q v' → RW M P ops Q rest ((f.put d1 (.slice (some ⟨w.heap.size, 0, none⟩) 1 1)).put d v') w') :
    RW M P ops Q (op1 d1 (.buildSlice t 1 #[(0, x)]) ty1 pos1 af1 :: op1 d (.call { callee := .builtin .append, args := #[s, .tmp d1], argTypes := #[t, t] }) ty pos af :: rest) f w := by
  obtain ⟨R, rfl, h2, h3⟩ := h
  rw [List.length_map] at hl
  have h1u := hn.on.one
  have hcu : u.cells = #[u] := by obtain ⟨L, _, g2, _⟩ := hn; exact g2.cells
  have hbb : (R.length + 1) * b ≤ 1000001 * 1000 := Nat.mul_le_mul (by omega) hb
  refine RW.app1 hx hs hd1 hd h2 hz (by rw [hcu]; rfl) rfl rfl (fun y hy => ?_) hB (by omega) (by omega) fun v' w' how hk hlies => k v' w' ⟨R ++ [(l, u)], by simp, ?_, ?_⟩ hk hlies
  · rw [hcu] at hy; simp at hy; rw [hy]; exact h1u
  · rw [List.length_append, List.map_append]; rw [hcu] at how; exact how
  · intro x hx
    have hold : BdsOn (fun g => B ≤ g ∧ q.ownBlock ≠ some g) w x.2 x.1 := by
      rcases List.mem_append.1 hx with hx | hx
      · exact h3 x hx
      · rw [List.mem_singleton.1 hx]
        exact hn.on.mono fun g _ hg => ⟨Nat.le_trans hBC hg, fun c => by have := hC g c; omega⟩
    have h3' : BdsOn (fun g => (B ≤ g ∧ q.ownBlock ≠ some g) ∧ v'.ownBlock ≠ some g) w x.2 x.1 := hold.mono fun g hlt hA => ⟨hA, fun c => by rcases hlies g c with e | e; { exact hA.2 e }; omega⟩
    exact (h3'.keep hk fun g _ hA => hA.1.2).mono fun g _ hA => ⟨hA.1.1, hA.2⟩
end
end Go.Proofs.YtjfdhafmbcppjaaGreatDoor.Sp

namespace Go.Proofs.YtjfdhafmbcppjaaGreatDoor.Sp
open Go.RowKit H S Ve
attribute [local irreducible] H.CL H.RW H.CW H.Yd H.thenK H.blockQ Go.Calls

abbrev spnT : TypeId := 25
def SpanNew (B : Nat) (w : World) (V : Value) (s : Spn) : Prop := ∃ p, V = .agg #[.bool s.any, p] ∧ OrNew B w p s.or
def SpanAt (w : World) (V : Value) (s : Spn) : Prop := ∃ p, V = .agg #[.bool s.any, p] ∧ OrAt w p s.or
theorem SpanNew.at {B : Nat} {w : World} {V : Value} {s : Spn} (h : SpanNew B w V s) : SpanAt w V s := by obtain ⟨p, h1, h2⟩ := h; exact ⟨p, h1, h2.at⟩
theorem SpanAt.keep0 {w w' : World} {V : Value} {s : Spn} (h : SpanAt w V s) (k : K0 w w') : SpanAt w' V s := by obtain ⟨p, h1, h2⟩ := h; exact ⟨p, h1, h2.keep0 k⟩
theorem OrNew.nil (B : Nat) (w : World) : OrNew B w (.slice none 0 0) [] := ⟨[], rfl, Sl.nil _ _, nolive, fun x hx => by cases hx⟩
theorem spnCells {b : Bool} {p : Value} (hp : p.oneCell' = true) : ∀ z ∈ (#[.bool b, p] : Array Value).toList, z.oneCell' = true := by
  intro z hz
  simp at hz
  rcases hz with rfl | rfl <;> first | rfl | exact hp
theorem star_of {l : List T} (h : l.length = 1) (h2 : l.getD 0 [] = [42]) : l = [[42]] := by
  match l, h with
  | [x], _ => simp at h2; rw [h2]

theorem OrNew.mono {B B' : Nat} {w : World} {p : Value} {o : List (List Bd)} (h : OrNew B w p o) (hB : B' ≤ B) : OrNew B' w p o := by
  obtain ⟨R, h1, h2, h3, h4⟩ := h
  exact ⟨R, h1, h2, fun g hg => Nat.le_trans hB (h3 g hg), fun x hx => (h4 x hx).on.mono fun g _ hg => Nat.le_trans hB hg⟩
theorem bounds_len {s : T} {b : List Bd} (h : boundsB s = some b) : b.length ≤ 2 := by
  rw [boundsB, Option.map_eq_some_iff] at h
  obtain ⟨v, _, rfl⟩ := h
  unfold expand
  repeat' split
  all_goals simp
theorem drop_at (l : List T) (k : Nat) (h : k < l.length) : l.drop k = l.getD k [] :: l.drop (k + 1) := by
  rw [List.drop_eq_getElem_cons h]; simp [List.getD_eq_getElem?_getD, h]

set_option maxHeartbeats 4000000 in
theorem refSpanOf (s : T) (hl : s.length ≤ 1000000) (w : World) : Calls Tryz.prog 11 #[vs s] w fun e w' => K0 w w' ∧ ∃ V, e = .returned (.tuple #[V, .int .i64 (spanR (spanB s)).2]) ∧ SpanNew w.heap.size w' V (spanR (spanB s)).1 := by
  refine H.enter Tryz.func11 Tryz.ntmps11 rfl rfl ?_; dsimp only [H.args]
  repeat' (first | (refine CL.seq ?_) | (refine CL.region ?_))
  refine RW.alloc rfl (fun w1 hb1 hk1 hlt1 => ?_)
  repeat' (first | (refine CL.seq ?_) | (refine CL.region ?_) | (refine Gt.nil ?_; refine RW.nilw [0, 2, 3, 4, 5, 6, 7, 8, 9, 10, 11, 12, 13, 14, 25, 30, 51, 65, 70, 85, 90, 102] ?_; dsimp only [H.keep, H.look, H.Fr.put, Nat.beq]) | (refine Gt.move ?_; refine RW.y (Y.move rfl) rfl ?_) | (refine Gt.assign ?_; refine RW.y (Y.assign rfl) rfl ?_))
  refine RW.fn rfl rfl ((refWords s hl w1).mono ?_)
  rintro e w2 ⟨v2, rfl, how2, hk2⟩
  have hs2 := Sl.of_own how2
  have hbr2 := hk2.at0 hb1
  have hz1 := hk1.size
  have hz2 := hk2.size
  have hK2 : K0 w w2 := hk1.trans0 hk2
  repeat' (first | (refine CL.seq ?_) | (refine Gt.nil ?_; refine RW.nilw [0, 2, 3, 4, 5, 6, 7, 8, 9, 10, 11, 12, 13, 14, 25, 30, 51, 65, 70, 85, 90, 102] ?_; dsimp only [H.keep, H.look, H.Fr.put, Nat.beq]) | (refine Gt.assign ?_; refine RW.y (Y.assign rfl) rfl ?_))
  refine CL.cutS [0, 2, 3, 4, 25] (fun vals wr => vals = [vs s, .pointer (some ⟨w.heap.size, 0, none⟩), .int .i64 0, v2, .bool (decide (wordsB s = [[42]]))] ∧ wr = w2) (by simp) ?_ ?_
  · repeat' (first | (refine CL.region ?_) | (refine CL.done ?_) | (refine Nm.then ?_) | (refine Gt.nil ?_; refine RW.nilw [0, 2, 3, 4, 5, 6, 7, 8, 9, 10, 11, 12, 13, 14, 25, 30, 51, 65, 70, 85, 90, 102] ?_; dsimp only [H.keep, H.look, H.Fr.put, Nat.beq]) | (refine Gt.move ?_; refine RW.y (Y.move rfl) rfl ?_) | (refine Gt.guard ?_; first | (refine RW.part rfl rfl rfl (fun _ => ?_) (fun _ => ?_) <;> try (exfalso; omega)) | (refine RW.on rfl rfl rfl ?_) | (refine RW.off1 rfl rfl rfl rfl rfl ?_)) | (refine Gt.len ?_; (refine RW.y (Y.lenx rfl (by assumption)) rfl ?_)) | (refine Gt.pick ?_; first | (refine RW.y (Y.pickT rfl rfl) rfl ?_) | (refine RW.y (Y.pickF rfl rfl) rfl ?_)) | (refine Gt.idx ?_; (refine RW.elemSOn rfl rfl rfl rfl (by assumption) (by omega) (by omega) rfl rfl rfl ?_)) | (refine Gt.eql ?_; first | (refine RW.y (Y.eqi rfl rfl) rfl ?_) | (refine RW.y (Y.eqs rfl rfl) rfl ?_)))
    · refine ⟨_, rfl, rfl, rfl, ?_, rfl⟩
      rename_i h1
      have he : decide ((wordsB s).getD (Int.toNat 0) [] = [42]) = decide (wordsB s = [[42]]) := by
        refine decide_eq_decide.2 ⟨fun h => star_of (by omega) h, fun h => by rw [h]; rfl⟩
      rw [he]
    · refine ⟨_, rfl, rfl, rfl, ?_, rfl⟩
      rename_i h1
      rw [show decide (wordsB s = [[42]]) = false from decide_eq_false fun h => h1 (by rw [h]; rfl)]
  rintro vals wr ⟨rfl, rfl⟩
  dsimp only [List.zip, List.zipWith]
  repeat' (first | (refine CL.seq ?_) | (refine CL.region ?_) | (refine CL.skip ?_) | (refine CL.condP rfl (fun _ => ?_) (fun _ => ?_) <;> try (exfalso; omega)) | (refine RW.y (Y.build (ps := [(0, _)]) (l := [_]) (c := #[.bool true, .slice none 0 0]) rfl rfl) rfl ?_))
  · rename_i hst
    have hsp : spanB s = some ⟨true, []⟩ := by rw [spanB, if_pos hst]
    rw [hsp]
    simp only [spanR]
    refine RW.storeBlock rfl rfl rfl (spnCells rfl) hbr2 rfl (fun w3 hb3 hk3 => ?_)
    repeat' (first | (refine CL.ret ?_) | (refine Gt.nil ?_; refine RW.nilw [0, 2, 3, 4, 5, 6, 7, 8, 9, 10, 11, 12, 13, 14, 25, 30, 51, 65, 70, 85, 90, 102] ?_; dsimp only [H.keep, H.look, H.Fr.put, Nat.beq]) | (refine Gt.assign ?_; refine RW.y (Y.assign rfl) rfl ?_))
    exact FQ.res (rs := [.cell 2 25, .tmp 3]) (vs := [_, _]) rfl rfl ⟨⟨_, rfl, load_block hb3 rfl⟩, rfl, trivial⟩ rfl (⟨hK2.trans hk3 fun k h => .inr (by rw [h]; exact Nat.le_refl _), _, rfl, _, rfl, OrNew.nil _ _⟩)
  rename_i hst
  refine RW.alloc rfl (fun w3 hb3 hk3 hlt3 => ?_)
  repeat' (first | (refine CL.seq ?_) | (refine CL.region ?_) | (refine CL.block ?_) | (refine Gt.nil ?_; refine RW.nilw [0, 2, 3, 4, 5, 6, 7, 8, 9, 10, 11, 12, 13, 14, 25, 30, 51, 65, 70, 85, 90, 102] ?_; dsimp only [H.keep, H.look, H.Fr.put, Nat.beq]) | (refine Gt.assign ?_; refine RW.y (Y.assign rfl) rfl ?_))
  have hz3 := hk3.size
  have hpad : orB s = ((s.take 0).drop 0 ++ (orB (s.drop 0)).headD []) :: (orB (s.drop 0)).tail := by
    simp only [List.take_zero, List.drop_zero, List.nil_append]
    cases h : orB s with
    | nil => exact absurd h (orB_ne s)
    | cons a r => rfl
  refine CL.loopS [0, 2, 3, 5, 6, 7, 8] (fun m vals wx => ∃ (i j : Nat) (u : Value) (done : List T), vals = [vs s, .pointer (some ⟨w.heap.size, 0, none⟩), .int .i64 0, .pointer (some ⟨wr.heap.size, 0, none⟩), u, .int .i64 (j : Int), .int .i64 (i : Int)] ∧ m = s.length + 2 - i ∧ i ≤ s.length + 2 ∧ done.length ≤ i ∧ wx.ownsRow w3.heap.size strT 1 u done.length (sv done) ∧ K0 w3 wx ∧
      (if i ≤ s.length then j ≤ i ∧ orB s = done ++ ((s.take i).drop j ++ (orB (s.drop i)).headD []) :: (orB (s.drop i)).tail else orB s = done)) (s.length + 2) ⟨_, rfl, 0, 0, _, [], rfl, rfl, by omega, Nat.zero_le _, World.ownsRow_nil _ _ _ _, Kept.refl _ _, by rw [if_pos (Nat.zero_le _)]; exact ⟨Nat.le_refl _, hpad⟩⟩ ?_
  rintro m vals wx ⟨i, j, u, done, rfl, rfl, hi, hdl, how, hkx, hsp⟩
  dsimp only [List.zip, List.zipWith]
  have hzx := hkx.size
  rcases Nat.lt_or_ge s.length i with hgt | hle
  · rw [if_neg (by omega)] at hsp
    have hd : done = orB s := hsp.symm
    subst hd
    have hsu := Sl.of_own how
    have hbrx := hkx.at0 (hk3.at0 hbr2)
    have hb3x := hkx.at0 hb3
    have hK3 : K0 w wx := (hK2.trans0 hk3).trans0 hkx
    have hol := orB_len s
    repeat' (first | (refine CL.seq ?_) | (refine CL.region ?_) | (refine CL.skip ?_) | (refine CL.condP rfl (fun _ => ?_) (fun _ => ?_) <;> try (exfalso; omega)) | (refine CL.block ?_) | (refine CL.exit ?_) | (refine Ex.then ?_) | (refine Ex.hit ?_) | (refine Gt.nil ?_; refine RW.nilw [0, 2, 3, 4, 5, 6, 7, 8, 9, 10, 11, 12, 13, 14, 25, 30, 51, 65, 70, 85, 90, 102] ?_; dsimp only [H.keep, H.look, H.Fr.put, Nat.beq]) | (refine RW.y (Y.build (ps := []) (l := []) (c := #[.bool false, .slice none 0 0]) rfl rfl) rfl ?_) | (refine Gt.move ?_; refine RW.y (Y.move rfl) rfl ?_) | (refine Gt.assign ?_; refine RW.y (Y.assign rfl) rfl ?_) | (refine Gt.len ?_; first | (refine RW.y (Y.lenx rfl (by assumption)) rfl ?_) | (refine RW.y (Y.lens rfl) rfl ?_)) | (refine Gt.gtr ?_; refine RW.y (Y.gtr rfl rfl) rfl ?_) | (refine Gt.leq ?_; refine RW.y (Y.leq rfl rfl) rfl ?_))
    · rename_i h8
      have hsp : spanB s = none := by rw [spanB, if_neg hst, if_neg (by omega)]
      rw [hsp]
      simp only [spanR]
      refine RW.storeBlock rfl rfl rfl (spnCells rfl) hbrx rfl (fun w4 hb4 hk4 => ?_)
      repeat' (first | (refine CL.ret ?_) | (refine Gt.nil ?_; refine RW.nilw [0, 2, 3, 4, 5, 6, 7, 8, 9, 10, 11, 12, 13, 14, 25, 30, 51, 65, 70, 85, 90, 102] ?_; dsimp only [H.keep, H.look, H.Fr.put, Nat.beq]) | (refine Gt.assign ?_; refine RW.y (Y.assign rfl) rfl ?_))
      exact FQ.res (rs := [.cell 2 25, .tmp 3]) (vs := [_, _]) rfl rfl ⟨⟨_, rfl, load_block hb4 rfl⟩, rfl, trivial⟩ rfl (⟨hK3.trans hk4 fun k h => .inr (by rw [h]; exact Nat.le_refl _), _, rfl, _, rfl, OrNew.nil _ _⟩)
    rename_i h8
    have hspB : spanB s = (rdL (orB s) []).map (⟨false, ·⟩) := by rw [spanB, if_neg hst, if_pos (by omega)]
    have hml : ∀ x ∈ orB s, x.length ≤ 1000000 := fun x hx => Nat.le_trans (orB_mem s x hx) hl
    rw [hspB]
    have hul : ∀ g, live u = some g → w3.heap.size ≤ g := fun g hg => (how.lt g (live_own hg)).1
    have hux : ∀ g, live u = some g → g < wx.heap.size := fun g hg => hsu.lt hg
    generalize orB s = l at *
    refine CL.loopS [2, 3, 5, 6, 9] (fun m vals wy => ∃ (k : Nat) (q : Value) (acc : List (List Bd)), vals = [.pointer (some ⟨w.heap.size, 0, none⟩), .int .i64 0, .pointer (some ⟨wr.heap.size, 0, none⟩), u, .int .i64 (k : Int)] ∧ m = l.length - k ∧ k ≤ l.length ∧ acc.length = k ∧ rdL l [] = rdL (l.drop k) acc ∧ OI wy wx.heap.size q acc ∧ wy.heap[w.heap.size]? = some (.cells #[.bool false, .slice none 0 0] spnT (0, 0)) ∧ wy.heap[wr.heap.size]? = some (.cells #[.bool false, q] spnT (0, 0)) ∧ Sl wy 1 u l.length (sv l) ∧ Kept (fun k => k = wr.heap.size) wx wy) l.length ⟨_, rfl, 0, _, [], rfl, rfl, Nat.zero_le _, rfl, rfl, OI.nil _ _, hbrx, hb3x, hsu, Kept.refl _ _⟩ ?_
    rintro m vals wy ⟨k, q, acc, rfl, rfl, hk, hal, hrd, hoi, hbry, hb5y, hsu, hky⟩
    dsimp only [List.zip, List.zipWith]
    have hzy := hky.size
    rcases Nat.lt_or_ge k l.length with hlt | hge
    · repeat' (first | (refine CL.seq ?_) | (refine CL.region ?_) | (refine CL.skip ?_) | (refine CL.condP rfl (fun _ => ?_) (fun _ => ?_) <;> try (exfalso; omega)) | (refine CL.block ?_) | (refine Gt.nil ?_; refine RW.nilw [0, 2, 3, 4, 5, 6, 7, 8, 9, 10, 11, 12, 13, 14, 25, 30, 51, 65, 70, 85, 90, 102] ?_; dsimp only [H.keep, H.look, H.Fr.put, Nat.beq]) | (refine Gt.move ?_; refine RW.y (Y.move rfl) rfl ?_) | (refine Gt.len ?_; (refine RW.y (Y.lenx rfl (by assumption)) rfl ?_)) | (refine Gt.lss ?_; refine RW.y (Y.lss rfl rfl) rfl ?_) | (refine Gt.idx ?_; (refine RW.elemS rfl rfl rfl rfl (by assumption) (by omega) (by omega) ?_)))
      refine RW.fn rfl rfl ((refWords _ (hml _ (by rw [Int.toNat_natCast]; exact getD_mem [] hlt)) wy).mono ?_)
      rw [Int.toNat_natCast]
      rintro e wz ⟨vw, rfl, how, hkz⟩
      have hsw := Sl.of_own how
      have hwl := wordsB_len (l.getD k [])
      have hxl : (l.getD k []).length ≤ 1000000 := hml _ (getD_mem [] hlt)
      have hlB : listB (l.getD k []) = if 1 ≤ (wordsB (l.getD k [])).length ∧ (wordsB (l.getD k [])).length ≤ 8 then rdW (wordsB (l.getD k [])) [] else none := rfl
      rw [drop_at l k hlt, rdL] at hrd
      generalize wordsB (l.getD k []) = wl at *
      have hKz : K0 w wz := (hK3.trans hky fun k h => .inr (by have h' : k = wr.heap.size := h; omega)).trans0 hkz
      have hzz := hkz.size
      have hbz := hkz.at0 hbry
      have hnone : listB (l.getD k []) = none → Option.map (fun x => (⟨false, x⟩ : Spn)) (rdL l []) = none := fun h => by rw [hrd, h]; rfl
      repeat' (first | (refine CL.seq ?_) | (refine CL.region ?_) | (refine CL.skip ?_) | (refine CL.condP rfl (fun _ => ?_) (fun _ => ?_) <;> try (exfalso; omega)) | (refine CL.condT rfl ?_) | (refine CL.block ?_) | (refine Gt.nil ?_; refine RW.nilw [0, 2, 3, 4, 5, 6, 7, 8, 9, 10, 11, 12, 13, 14, 25, 30, 51, 65, 70, 85, 90, 102] ?_; dsimp only [H.keep, H.look, H.Fr.put, Nat.beq]) | (refine RW.y (Y.build (ps := []) (l := []) (c := #[.bool false, .slice none 0 0]) rfl rfl) rfl ?_) | (refine Gt.move ?_; refine RW.y (Y.move rfl) rfl ?_) | (refine Gt.guard ?_; first | (refine RW.part rfl rfl rfl (fun _ => ?_) (fun _ => ?_) <;> try (exfalso; omega)) | (refine RW.on rfl rfl rfl ?_) | (refine RW.off1 rfl rfl rfl rfl rfl ?_)) | (refine Gt.assign ?_; refine RW.y (Y.assign rfl) rfl ?_) | (refine Gt.len ?_; (refine RW.y (Y.lenx rfl (by assumption)) rfl ?_)) | (refine Gt.pick ?_; first | (refine RW.y (Y.pickT rfl rfl) rfl ?_) | (refine RW.y (Y.pickF rfl rfl) rfl ?_)) | (refine Gt.lss ?_; refine RW.y (Y.lss rfl rfl) rfl ?_) | (refine Gt.gtr ?_; refine RW.y (Y.gtr rfl rfl) rfl ?_))
      · rw [hnone (by rw [hlB, if_neg (by omega)])]
        simp only [spanR]
        have hbF := hbz
        have hKF := hKz
        refine RW.storeBlock rfl rfl rfl (spnCells rfl) hbF rfl (fun wq hbq hkq => ?_)
        repeat' (first | (refine CL.ret ?_) | (refine Rt.then ?_) | (refine Rt.block ?_) | (refine Gt.nil ?_; refine RW.nilw [0, 2, 3, 4, 5, 6, 7, 8, 9, 10, 11, 12, 13, 14, 25, 30, 51, 65, 70, 85, 90, 102] ?_; dsimp only [H.keep, H.look, H.Fr.put, Nat.beq]) | (refine Gt.assign ?_; refine RW.y (Y.assign rfl) rfl ?_))
        exact FQ.res (rs := [.cell 2 25, .tmp 3]) (vs := [_, _]) rfl rfl ⟨⟨_, rfl, load_block hbq rfl⟩, rfl, trivial⟩ rfl (⟨hKF.trans hkq fun k h => .inr (by rw [h]; exact Nat.le_refl _), _, rfl, _, rfl, OrNew.nil _ _⟩)
      · rw [hnone (by rw [hlB, if_neg (by omega)])]
        simp only [spanR]
        have hbF := hbz
        have hKF := hKz
        refine RW.storeBlock rfl rfl rfl (spnCells rfl) hbF rfl (fun wq hbq hkq => ?_)
        repeat' (first | (refine CL.ret ?_) | (refine Rt.then ?_) | (refine Rt.block ?_) | (refine Gt.nil ?_; refine RW.nilw [0, 2, 3, 4, 5, 6, 7, 8, 9, 10, 11, 12, 13, 14, 25, 30, 51, 65, 70, 85, 90, 102] ?_; dsimp only [H.keep, H.look, H.Fr.put, Nat.beq]) | (refine Gt.assign ?_; refine RW.y (Y.assign rfl) rfl ?_))
        exact FQ.res (rs := [.cell 2 25, .tmp 3]) (vs := [_, _]) rfl rfl ⟨⟨_, rfl, load_block hbq rfl⟩, rfl, trivial⟩ rfl (⟨hKF.trans hkq fun k h => .inr (by rw [h]; exact Nat.le_refl _), _, rfl, _, rfl, OrNew.nil _ _⟩)
      rw [if_pos (by omega)] at hlB
      refine CL.loopS [2, 3, 5, 6, 9, 10, 11, 12] (fun m vals wv => ∃ (n : Nat) (uu : Value) (bacc : List Bd), vals = [.pointer (some ⟨w.heap.size, 0, none⟩), .int .i64 0, .pointer (some ⟨wr.heap.size, 0, none⟩), u, .int .i64 (k : Int), vw, uu, .int .i64 (n : Int)] ∧ m = wl.length - n ∧ n ≤ wl.length ∧ bacc.length ≤ 2 * n ∧ rdW wl [] = rdW (wl.drop n) bacc ∧ BI wv wz.heap.size uu bacc ∧ K0 wz wv) wl.length ⟨_, rfl, 0, _, [], rfl, rfl, Nat.zero_le _, Nat.le_refl _, rfl, BI.nil _ _, Kept.refl _ _⟩ ?_
      rintro m vals wv ⟨n, uu, bacc, rfl, rfl, hn, hbl, hrw, hbi, hkv⟩
      dsimp only [List.zip, List.zipWith]
      have hzv := hkv.size
      have hswv := hsw.keep0 hkv
      have hbv := hkv.at0 hbz
      have hKv := hKz.trans0 hkv
      rcases Nat.lt_or_ge n wl.length with hnl | hng
      · have hw1 := hwl _ (getD_mem [] hnl)
        repeat' (first | (refine CL.seq ?_) | (refine CL.region ?_) | (refine CL.skip ?_) | (refine CL.condP rfl (fun _ => ?_) (fun _ => ?_) <;> try (exfalso; omega)) | (refine CL.block ?_) | (refine Gt.nil ?_; refine RW.nilw [0, 2, 3, 4, 5, 6, 7, 8, 9, 10, 11, 12, 13, 14, 25, 30, 51, 65, 70, 85, 90, 102] ?_; dsimp only [H.keep, H.look, H.Fr.put, Nat.beq]) | (refine Gt.move ?_; refine RW.y (Y.move rfl) rfl ?_) | (refine Gt.len ?_; (refine RW.y (Y.lenx rfl (by assumption)) rfl ?_)) | (refine Gt.lss ?_; refine RW.y (Y.lss rfl rfl) rfl ?_) | (refine Gt.idx ?_; (refine RW.elemS rfl rfl rfl rfl (by assumption) (by omega) (by omega) ?_)))
        refine RW.fn rfl rfl ((refBounds _ (by rw [Int.toNat_natCast]; exact hw1.2) (by rw [Int.toNat_natCast]; omega) wv).mono ?_)
        rw [Int.toNat_natCast]
        rintro e w5 ⟨hk5, p, rfl, hp⟩
        rw [drop_at wl n hnl, rdW] at hrw
        have hz5 := hk5.size
        cases hbd : boundsB (wl.getD n []) with
        | none =>
          rw [hbd] at hrw
          repeat' (first | (refine CL.seq ?_) | (refine CL.region ?_) | (refine CL.condT rfl ?_) | (refine Gt.nil ?_; refine RW.nilw [0, 2, 3, 4, 5, 6, 7, 8, 9, 10, 11, 12, 13, 14, 25, 30, 51, 65, 70, 85, 90, 102] ?_; dsimp only [H.keep, H.look, H.Fr.put, Nat.beq]) | (refine RW.y (Y.build (ps := []) (l := []) (c := #[.bool false, .slice none 0 0]) rfl rfl) rfl ?_) | (refine Gt.move ?_; refine RW.y (Y.move rfl) rfl ?_) | (refine Gt.assign ?_; refine RW.y (Y.assign rfl) rfl ?_) | (refine Gt.extract ?_; refine RW.y (Y.extract rfl rfl) rfl ?_) | (refine Gt.not ?_; (refine RW.y (Y.notb rfl) rfl ?_)))
          rw [hnone (by rw [hlB, hrw])]
          simp only [spanR]
          have hbF := hk5.at0 hbv
          have hKF := hKv.trans0 hk5
          refine RW.storeBlock rfl rfl rfl (spnCells rfl) hbF rfl (fun wq hbq hkq => ?_)
          repeat' (first | (refine CL.ret ?_) | (refine Rt.then ?_) | (refine Rt.block ?_) | (refine Gt.nil ?_; refine RW.nilw [0, 2, 3, 4, 5, 6, 7, 8, 9, 10, 11, 12, 13, 14, 25, 30, 51, 65, 70, 85, 90, 102] ?_; dsimp only [H.keep, H.look, H.Fr.put, Nat.beq]) | (refine Gt.assign ?_; refine RW.y (Y.assign rfl) rfl ?_))
          exact FQ.res (rs := [.cell 2 25, .tmp 3]) (vs := [_, _]) rfl rfl ⟨⟨_, rfl, load_block hbq rfl⟩, rfl, trivial⟩ rfl (⟨hKF.trans hkq fun k h => .inr (by rw [h]; exact Nat.le_refl _), _, rfl, _, rfl, OrNew.nil _ _⟩)
        | some b =>
          rw [hbd] at hrw
          have hb2 := bounds_len hbd
          repeat' (first | (refine CL.seq ?_) | (refine CL.region ?_) | (refine CL.skip ?_) | (refine CL.condF rfl ?_) | (refine Gt.nil ?_; refine RW.nilw [0, 2, 3, 4, 5, 6, 7, 8, 9, 10, 11, 12, 13, 14, 25, 30, 51, 65, 70, 85, 90, 102] ?_; dsimp only [H.keep, H.look, H.Fr.put, Nat.beq]) | (refine Gt.move ?_; refine RW.y (Y.move rfl) rfl ?_) | (refine Gt.assign ?_; refine RW.y (Y.assign rfl) rfl ?_) | (refine Gt.extract ?_; refine RW.y (Y.extract rfl rfl) rfl ?_) | (refine Gt.not ?_; (refine RW.y (Y.notb rfl) rfl ?_)))
          refine RW.appB rfl rfl rfl rfl (hbi.keep hk5 fun _ _ _ c => c) (hp b hbd) (fun g hg => (hbi.own g hg).2) hzv (by omega) (by omega) (by decide) (by omega) (fun v' w6 hbi' hk6 hl6 => ?_)
          repeat' (first | (refine CL.region ?_) | (refine CL.done ?_) | (refine Nm.block ?_) | (refine Nm.then ?_) | (refine Gt.nil ?_; refine RW.nilw [0, 2, 3, 4, 5, 6, 7, 8, 9, 10, 11, 12, 13, 14, 25, 30, 51, 65, 70, 85, 90, 102] ?_; dsimp only [H.keep, H.look, H.Fr.put, Nat.beq]) | (refine Gt.move ?_; refine RW.y (Y.move rfl) rfl ?_) | (refine Gt.assign ?_; refine RW.y (Y.assign rfl) rfl ?_) | (refine Gt.add ?_; refine RW.y (Y.add64 rfl rfl (by omega) (by omega)) rfl ?_))
          exact ⟨wl.length - (n + 1), _, rfl, rfl, rfl, by omega, n + 1, v', bacc ++ b, rfl, rfl, by omega, by rw [List.length_append]; omega, hrw, hbi', (hkv.trans0 hk5).trans hk6 fun g hg => .inr (hbi.own g hg).1⟩
      · have hn : n = wl.length := by omega
        subst hn
        rw [List.drop_length, rdW] at hrw
        rw [hlB, hrw] at hrd
        have hb5v := hkv.at0 (hkz.at0 hb5y)
        obtain ⟨xs, hslq⟩ := hoi.sl
        have hq1 := hslq.one
        have hoiv := (hoi.keep hkz fun _ _ _ c => c).keep hkv fun _ _ _ c => c
        repeat' (first | (refine CL.seq ?_) | (refine CL.region ?_) | (refine CL.condP rfl (fun _ => ?_) (fun _ => ?_) <;> try (exfalso; omega)) | (refine CL.exit ?_) | (refine Ex.then ?_) | (refine Ex.hit ?_) | (refine Gt.nil ?_; refine RW.nilw [0, 2, 3, 4, 5, 6, 7, 8, 9, 10, 11, 12, 13, 14, 25, 30, 51, 65, 70, 85, 90, 102] ?_; dsimp only [H.keep, H.look, H.Fr.put, Nat.beq]) | (refine Gt.move ?_; refine RW.y (Y.move rfl) rfl ?_) | (refine Gt.len ?_; (refine RW.y (Y.lenx rfl (by assumption)) rfl ?_)) | (refine Gt.load ?_; (refine RW.y (Y.loadB rfl (by assumption) rfl) rfl ?_)) | (refine Gt.lss ?_; refine RW.y (Y.lss rfl rfl) rfl ?_) | (refine Gt.fieldAddr ?_; refine RW.y (Y.fieldAddr rfl (by rfl)) rfl ?_))
        refine RW.appO rfl rfl rfl rfl rfl hoiv hbi.new (fun g hg => by have := (hoi.own g hg).2; omega) (by omega) (by omega) (by decide) (by omega) (fun q' w6 hoi' hk6 hl6 => ?_)
        have hqr : ¬ q.ownBlock = some wr.heap.size := fun c => by have := (hoi.own _ c).1; omega
        have hqw : ¬ q.ownBlock = some w.heap.size := fun c => by have := (hoi.own _ c).1; omega
        have hb56 := hk6.at hb5v hqr
        obtain ⟨xs', hslq'⟩ := hoi'.sl
        repeat' ((refine Gt.fieldAddr ?_; refine RW.y (Y.fieldAddr rfl (by rfl)) rfl ?_))
        refine RW.storeB rfl rfl hslq'.one hb56 (show (_ : Nat) < 2 from by decide) (fun w7 hb7 hk7 => ?_)
        repeat' (first | (refine CL.region ?_) | (refine CL.done ?_) | (refine Nm.block ?_) | (refine Nm.then ?_) | (refine Gt.nil ?_; refine RW.nilw [0, 2, 3, 4, 5, 6, 7, 8, 9, 10, 11, 12, 13, 14, 25, 30, 51, 65, 70, 85, 90, 102] ?_; dsimp only [H.keep, H.look, H.Fr.put, Nat.beq]) | (refine Gt.move ?_; refine RW.y (Y.move rfl) rfl ?_) | (refine Gt.assign ?_; refine RW.y (Y.assign rfl) rfl ?_) | (refine Gt.add ?_; refine RW.y (Y.add64 rfl rfl (by omega) (by omega)) rfl ?_))
        have hz6 := hk6.size
        have hqo : ∀ g, q.ownBlock = some g → wx.heap.size ≤ g := fun g hg => (hoi.own g hg).1
        refine ⟨l.length - (k + 1), _, rfl, rfl, rfl, by omega, k + 1, q', acc ++ [bacc], rfl, rfl, by omega, by simp; omega, hrd, hoi'.keep hk7 fun g h1 _ c => by have c' : g = wr.heap.size := c; omega, hk7.at (hk6.at hbv hqw) (fun c => by have c' : w.heap.size = wr.heap.size := c; omega), hb7, ?_, ?_⟩
        · exact (((hsu.keep0 hkz).keep0 hkv).keep hk6 fun g hg c => by have := hqo g c; have := hux g hg; omega).keep hk7 fun g hg c => by have := hul g hg; have c' : g = wr.heap.size := c; omega
        · exact (((hky.trans0 hkz).trans0 hkv).trans hk6 fun g h => .inr (hqo g h)).trans hk7 fun g h => .inl h
    · have hk : k = l.length := by omega
      subst hk
      rw [List.drop_length, rdL] at hrd
      rw [hrd]
      obtain ⟨xs, hslq⟩ := hoi.sl
      simp only [Option.map_some, spanR]
      repeat' (first | (refine CL.seq ?_) | (refine CL.region ?_) | (refine CL.condP rfl (fun _ => ?_) (fun _ => ?_) <;> try (exfalso; omega)) | (refine CL.exit ?_) | (refine Ex.then ?_) | (refine Ex.hit ?_) | (refine Gt.nil ?_; refine RW.nilw [0, 2, 3, 4, 5, 6, 7, 8, 9, 10, 11, 12, 13, 14, 25, 30, 51, 65, 70, 85, 90, 102] ?_; dsimp only [H.keep, H.look, H.Fr.put, Nat.beq]) | (refine RW.y (Y.loadBlock rfl hb5y rfl) rfl ?_) | (refine Gt.move ?_; refine RW.y (Y.move rfl) rfl ?_) | (refine Gt.len ?_; (refine RW.y (Y.lenx rfl (by assumption)) rfl ?_)) | (refine Gt.lss ?_; refine RW.y (Y.lss rfl rfl) rfl ?_))
      refine RW.storeBlock rfl rfl rfl (spnCells hslq.one) hbry rfl (fun w4 hb4 hk4 => ?_)
      repeat' (first | (refine CL.ret ?_) | (refine Gt.nil ?_; refine RW.nilw [0, 2, 3, 4, 5, 6, 7, 8, 9, 10, 11, 12, 13, 14, 25, 30, 51, 65, 70, 85, 90, 102] ?_; dsimp only [H.keep, H.look, H.Fr.put, Nat.beq]) | (refine Gt.assign ?_; refine RW.y (Y.assign rfl) rfl ?_))
      exact FQ.res (rs := [.cell 2 25, .tmp 3]) (vs := [_, _]) rfl rfl ⟨⟨_, rfl, load_block hb4 rfl⟩, rfl, trivial⟩ rfl (⟨(hK3.trans hky fun k h => .inr (by have h' : k = wr.heap.size := h; omega)).trans hk4 fun k h => .inr (by rw [h]; exact Nat.le_refl _), _, rfl, _, rfl, (hoi.keep hk4 fun g h1 _ c => by have c' : g = w.heap.size := c; omega).new.mono (by omega)⟩)
  rw [if_pos hle] at hsp
  obtain ⟨hji, hsp⟩ := hsp
  have hi2 : ((i : Int) + 2).toNat = i + 2 := by omega
  have hi0 : ((i : Int)).toNat = i := by omega
  have hj0 : ((j : Int)).toNat = j := by omega
  have hstep : ∀ h : i < s.length, ¬ (s.getD i 0 = 124 ∧ (s.drop (i + 1)).take 1 = [124]) → orB s = done ++ ((s.take (i + 1)).drop j ++ (orB (s.drop (i + 1))).headD []) :: (orB (s.drop (i + 1))).tail := by
    intro h hn
    have hdrop : s.drop i = s.getD i 0 :: s.drop (i + 1) := by rw [List.drop_eq_getElem_cons h]; simp [List.getD_eq_getElem?_getD, h]
    have htk : (s.take (i + 1)).drop j = (s.take i).drop j ++ [s.getD i 0] := by
      rw [List.take_succ_eq_append_getElem h, List.drop_append_of_le_length (by rw [List.length_take]; omega)]
      simp [List.getD_eq_getElem?_getD, h]
    rw [hdrop, orB_cons _ _ hn] at hsp
    rw [hsp, htk]
    simp
  have hnbar : ∀ h : i < s.length, ¬ (s.take (i + 2)).drop i = [124, 124] → ¬ (s.getD i 0 = 124 ∧ (s.drop (i + 1)).take 1 = [124]) := by
    intro h hn c
    apply hn
    have hdrop : s.drop i = s.getD i 0 :: s.drop (i + 1) := by rw [List.drop_eq_getElem_cons h]; simp [List.getD_eq_getElem?_getD, h]
    rw [List.drop_take, show i + 2 - i = 2 from by omega, hdrop, List.take_succ_cons, c.1, c.2]
  repeat' (first | (refine CL.seq ?_) | (refine CL.region ?_) | (refine CL.skip ?_) | (refine CL.condP rfl (fun _ => ?_) (fun _ => ?_) <;> try (exfalso; omega)) | (refine CL.condT rfl ?_) | (refine CL.condF rfl ?_) | (refine CL.block ?_) | (refine CL.done ?_) | (refine Nm.block ?_) | (refine Nm.then ?_) | (refine Gt.nil ?_; refine RW.nilw [0, 2, 3, 4, 5, 6, 7, 8, 9, 10, 11, 12, 13, 14, 25, 30, 51, 65, 70, 85, 90, 102] ?_; dsimp only [H.keep, H.look, H.Fr.put, Nat.beq]) | (refine Gt.move ?_; refine RW.y (Y.move rfl) rfl ?_) | (refine Gt.guard ?_; first | (refine RW.part rfl rfl rfl (fun _ => ?_) (fun _ => ?_) <;> try (exfalso; omega)) | (refine RW.on rfl rfl rfl ?_) | (refine RW.off1 rfl rfl rfl rfl rfl ?_) | (refine RW.offu rfl rfl rfl rfl ?_)) | (refine Gt.assign ?_; refine RW.y (Y.assign rfl) rfl ?_) | (refine Gt.add ?_; refine RW.y (Y.add64 rfl rfl (by omega) (by omega)) rfl ?_) | (refine Gt.len ?_; (refine RW.y (Y.lens rfl) rfl ?_)) | (refine Gt.pick ?_; first | (refine RW.y (Y.pickT rfl rfl) rfl ?_) | (refine RW.y (Y.pickF rfl rfl) rfl ?_)) | (refine Gt.lss ?_; refine RW.y (Y.lss rfl rfl) rfl ?_) | (refine Gt.eql ?_; first | (refine RW.y (Y.eqi rfl rfl) rfl ?_) | (refine RW.y (Y.eqs rfl rfl) rfl ?_)) | (refine Gt.slice ?_; refine RW.y (Y.cutlh rfl rfl rfl (by omega) (by omega) (by omega)) rfl ?_) | (refine Gt.leq ?_; refine RW.y (Y.leq rfl rfl) rfl ?_))
  · rename_i h1
    have hil : i = s.length := by omega
    rw [hi0, hj0]
    refine RW.app1 rfl rfl rfl rfl how rfl rfl rfl rfl (one_vs _) (by omega) (by omega) (by omega) (fun u' w4 how' hk' hl' => ?_)
    repeat' (first | (refine CL.seq ?_) | (refine CL.region ?_) | (refine CL.done ?_) | (refine Nm.block ?_) | (refine Nm.then ?_) | (refine Gt.nil ?_; refine RW.nilw [0, 2, 3, 4, 5, 6, 7, 8, 9, 10, 11, 12, 13, 14, 25, 30, 51, 65, 70, 85, 90, 102] ?_; dsimp only [H.keep, H.look, H.Fr.put, Nat.beq]) | (refine Gt.move ?_; refine RW.y (Y.move rfl) rfl ?_) | (refine Gt.assign ?_; refine RW.y (Y.assign rfl) rfl ?_) | (refine Gt.add ?_; refine RW.y (Y.add64 rfl rfl (by omega) (by omega)) rfl ?_))
    refine ⟨s.length + 2 - (i + 2), _, rfl, rfl, rfl, by omega, i + 2, i + 2, u', done ++ [(s.take i).drop j], ?_, rfl, by omega, by simp; omega, by simpa [Value.cells] using how', hkx.trans hk' fun k h => .inr (how.lt k h).1, ?_⟩
    · rw [show ((i + 2 : Nat) : Int) = (i : Int) + 2 from by omega, show (i : Int) + 1 + 1 = (i : Int) + 2 from by omega]
    · rw [if_neg (by omega), hsp, hil, List.drop_length]; simp [orB]
  · rename_i h1 h2 h3
    rw [hi0, hi2] at h3
    rw [hi0, hj0]
    have h4 := h3
    rw [List.drop_take, show i + 2 - i = 2 from by omega] at h4
    have hd2 : s.drop i = 124 :: 124 :: s.drop (i + 2) := by
      have := List.take_append_drop 2 (s.drop i)
      rw [h4, List.drop_drop] at this
      exact this.symm
    rw [hd2, orB_bars] at hsp
    have hlen2 : i + 2 ≤ s.length := by have := congrArg List.length hd2; simp at this; omega
    have hpad2 : orB (s.drop (i + 2)) = (orB (s.drop (i + 2))).headD [] :: (orB (s.drop (i + 2))).tail := by
      cases h : orB (s.drop (i + 2)) with
      | nil => exact absurd h (orB_ne _)
      | cons a r => rfl
    refine RW.app1 rfl rfl rfl rfl how rfl rfl rfl rfl (one_vs _) (by omega) (by omega) (by omega) (fun u' w4 how' hk' hl' => ?_)
    repeat' (first | (refine CL.seq ?_) | (refine CL.region ?_) | (refine CL.done ?_) | (refine Nm.block ?_) | (refine Nm.then ?_) | (refine Gt.nil ?_; refine RW.nilw [0, 2, 3, 4, 5, 6, 7, 8, 9, 10, 11, 12, 13, 14, 25, 30, 51, 65, 70, 85, 90, 102] ?_; dsimp only [H.keep, H.look, H.Fr.put, Nat.beq]) | (refine Gt.move ?_; refine RW.y (Y.move rfl) rfl ?_) | (refine Gt.assign ?_; refine RW.y (Y.assign rfl) rfl ?_) | (refine Gt.add ?_; refine RW.y (Y.add64 rfl rfl (by omega) (by omega)) rfl ?_))
    refine ⟨s.length + 2 - (i + 2), _, rfl, rfl, rfl, by omega, i + 2, i + 2, u', done ++ [(s.take i).drop j], ?_, rfl, by omega, by simp; omega, by simpa [Value.cells] using how', hkx.trans hk' fun k h => .inr (how.lt k h).1, ?_⟩
    · rw [show ((i + 2 : Nat) : Int) = (i : Int) + 2 from by omega, show (i : Int) + 1 + 1 = (i : Int) + 2 from by omega]
    · rw [if_pos hlen2]
      refine ⟨Nat.le_refl _, ?_⟩
      have hnil : (s.take (i + 2)).drop (i + 2) = [] := by rw [List.drop_eq_nil_iff, List.length_take]; omega
      rw [hnil, List.nil_append, ← hpad2, hsp]
      simp
  · rename_i h1 h2 h3
    rw [hi0, hi2] at h3
    have hlt : i < s.length := by omega
    exact ⟨s.length + 2 - (i + 1), _, rfl, rfl, rfl, by omega, i + 1, j, u, done, rfl, rfl, by omega, by omega, how, hkx, by rw [if_pos (by omega)]; exact ⟨by omega, hstep hlt (hnbar hlt h3)⟩⟩
  · rename_i h1 h2
    have hlt : i < s.length := by omega
    have hn : ¬ (s.getD i 0 = 124 ∧ (s.drop (i + 1)).take 1 = [124]) := by
      intro c
      rw [List.drop_eq_nil_of_le (by omega)] at c
      simp at c
    exact ⟨s.length + 2 - (i + 1), _, rfl, rfl, rfl, by omega, i + 1, j, u, done, rfl, rfl, by omega, by omega, how, hkx, by rw [if_pos (by omega)]; exact ⟨by omega, hstep hlt hn⟩⟩
end Go.Proofs.YtjfdhafmbcppjaaGreatDoor.Sp

namespace Go.Proofs.YtjfdhafmbcppjaaGreatDoor.Sp
open Go.RowKit H S Ve
attribute [local irreducible] H.CL H.RW H.CW H.Yd H.thenK H.blockQ Go.Calls

def BdAt (w : World) (X : Value) (b : Bd) : Prop := ∃ p, X = .agg #[vs b.sign, .int .i64 b.v.a, .int .i64 b.v.b, .int .i64 b.v.c, p] ∧ Sl w 1 p b.v.pre.length (sv b.v.pre)
theorem BdAt.keep0 {w w' : World} {X : Value} {b : Bd} (h : BdAt w X b) (k : K0 w w') : BdAt w' X b := by obtain ⟨p, h1, h2⟩ := h; exact ⟨p, h1, h2.keep0 k⟩
theorem load4 {w : World} {g : Nat} {s a b c p : Value} {e : TypeId} {fz : Nat × Nat} (h : w.heap[g]? = some (.cells #[s, a, b, c, p] e fz)) : ∀ j v, ([a, b, c, p] : List Value)[j]? = some v → w.cell? ((⟨g, 1, none⟩ : Addr).add j) = some v := by
  intro j v hv
  match j, hv with
  | 0, hv => simp at hv; subst hv; simp [World.cell?, Addr.add, h]
  | 1, hv => simp at hv; subst hv; simp [World.cell?, Addr.add, h]
  | 2, hv => simp at hv; subst hv; simp [World.cell?, Addr.add, h]
  | 3, hv => simp at hv; subst hv; simp [World.cell?, Addr.add, h]
  | (j + 4), hv => simp at hv

theorem holds (X V : Value) (b : Bd) (x : Ver) (w : World) (hX : BdAt w X b) (hV : VerAt w V x) (fb : Fit b.v) (fx : Fit x) : Calls Tryz.prog 44 #[X, V] w fun e w' => K0 w w' ∧ e = .returned (.bool (holdsB b x)) := by
  obtain ⟨p, rfl, hp⟩ := hX
  obtain ⟨q, rfl, hq1, hq⟩ := verC hV
  refine H.enter Tryz.func44 Tryz.ntmps44 rfl rfl ?_; dsimp only [H.args]
  repeat' (first | (refine CL.seq ?_) | (refine CL.region ?_))
  refine RW.box rfl rfl (fun w1 hb1 hk1 hlt1 => ?_)
  have hb1' : w1.heap[w.heap.size]? = some (.cells #[vs b.sign, .int .i64 b.v.a, .int .i64 b.v.b, .int .i64 b.v.c, p] bdT' (0, 0)) := hb1
  refine RW.box rfl rfl (fun w2 hb2 hk2 hlt2 => ?_)
  have hb2' : w2.heap[w1.heap.size]? = some (.cells #[.int .i64 x.a, .int .i64 x.b, .int .i64 x.c, q] verT (0, 0)) := hb2
  have hb12 := hk2.at0 hb1'
  have hK2 := hk1.trans0 hk2
  repeat' (first | (refine CL.seq ?_) | (refine CL.region ?_) | (refine Gt.nil ?_; refine RW.nilw [0, 1, 2, 3, 4, 5, 11, 12, 16, 20, 24, 28] ?_; dsimp only [H.keep, H.look, H.Fr.put, Nat.beq]) | (refine RW.y (Y.loadN (cs := [_, _, _, _]) rfl rfl (load4 hb12)) rfl ?_) | (refine Gt.assign ?_; refine RW.y (Y.assign rfl) rfl ?_) | (refine Gt.load ?_; (refine RW.y (Y.loadBlock rfl (by assumption) rfl) rfl ?_)) | (refine Gt.fieldAddr ?_; refine RW.y (Y.fieldAddr rfl (by rfl)) rfl ?_))
  refine RW.fn rfl rfl ((cmpW _ _ x b.v w2 ⟨q, rfl, hq.keep0 hK2⟩ ⟨p, rfl, hp.keep0 hK2⟩ fx fb).mono ?_)
  rintro e w3 ⟨hk3, rfl⟩
  have hb13 := hk3.at0 hb12
  have hK3 := hK2.trans0 hk3
  have hh : ∀ r : Bool, r = holdsB b x → Ending.returned (.bool r) = .returned (.bool (holdsB b x)) := fun r h => by rw [h]
  repeat' (first | (refine CL.seq ?_) | (refine CL.region ?_) | (refine CL.skip ?_) | (refine CL.condP rfl (fun _ => ?_) (fun _ => ?_) <;> try (exfalso; omega)) | (refine CL.block ?_) | (refine CL.ret ?_) | (refine Rt.block ?_) | (refine CL.done ?_) | (refine Nm.block ?_) | (refine Gt.nil ?_; refine RW.nilw [0, 1, 2, 3, 4, 5, 11, 12, 16, 20, 24, 28] ?_; dsimp only [H.keep, H.look, H.Fr.put, Nat.beq]) | (refine Gt.assign ?_; refine RW.y (Y.assign rfl) rfl ?_) | (refine Gt.eql ?_; first | (refine RW.y (Y.eqs rfl rfl) rfl ?_) | (refine RW.y (Y.eqi rfl rfl) rfl ?_)) | (refine Gt.move ?_; refine RW.y (Y.move rfl) rfl ?_) | (refine Gt.load ?_; (refine RW.y (Y.loadB rfl (by assumption) rfl) rfl ?_)) | (refine Gt.fieldAddr ?_; refine RW.y (Y.fieldAddr rfl (by rfl)) rfl ?_) | (refine Gt.lss ?_; refine RW.y (Y.lss rfl rfl) rfl ?_) | (refine Gt.leq ?_; refine RW.y (Y.leq rfl rfl) rfl ?_) | (refine Gt.gtr ?_; refine RW.y (Y.gtr rfl rfl) rfl ?_) | (refine Gt.geq ?_; refine RW.y (Y.geq rfl rfl) rfl ?_))
  all_goals
    refine FQ.one rfl rfl rfl ⟨hK3, hh _ ?_⟩
    unfold holdsB
    repeat' (first | rw [if_pos (by assumption)] | rw [if_neg (by assumption)])

theorem refHolds (X V : Value) (b : Bd) (x : Ver) (w : World) (hX : BdAt w X b) (hV : VerAt w V x) (fb : Fit b.v) (fx : Fit x) : Calls Tryz.prog 47 #[X, V] w fun e w' => K0 w w' ∧ e = .returned (.bool (holdsB b x)) := by
  obtain ⟨p, rfl, hp⟩ := hX
  obtain ⟨q, rfl, hq1, hq⟩ := verC hV
  refine H.enter Tryz.func47 Tryz.ntmps47 rfl rfl ?_; dsimp only [H.args]
  repeat' (first | (refine CL.seq ?_) | (refine CL.region ?_))
  refine RW.box rfl rfl (fun w1 hb1 hk1 hlt1 => ?_)
  have hb1' : w1.heap[w.heap.size]? = some (.cells #[vs b.sign, .int .i64 b.v.a, .int .i64 b.v.b, .int .i64 b.v.c, p] bdT' (0, 0)) := hb1
  refine RW.box rfl rfl (fun w2 hb2 hk2 hlt2 => ?_)
  have hb2' : w2.heap[w1.heap.size]? = some (.cells #[.int .i64 x.a, .int .i64 x.b, .int .i64 x.c, q] verT (0, 0)) := hb2
  have hb12 := hk2.at0 hb1'
  have hK2 := hk1.trans0 hk2
  repeat' (first | (refine CL.seq ?_) | (refine CL.region ?_) | (refine Gt.nil ?_; refine RW.nilw [0, 1, 2, 3, 4, 5, 11, 12, 16, 20, 24, 28] ?_; dsimp only [H.keep, H.look, H.Fr.put, Nat.beq]) | (refine RW.y (Y.loadN (cs := [_, _, _, _]) rfl rfl (load4 hb12)) rfl ?_) | (refine Gt.assign ?_; refine RW.y (Y.assign rfl) rfl ?_) | (refine Gt.load ?_; (refine RW.y (Y.loadBlock rfl (by assumption) rfl) rfl ?_)) | (refine Gt.fieldAddr ?_; refine RW.y (Y.fieldAddr rfl (by rfl)) rfl ?_))
  refine RW.fn rfl rfl ((refCmp _ _ x b.v w2 ⟨q, rfl, hq.keep0 hK2⟩ ⟨p, rfl, hp.keep0 hK2⟩ fx fb).mono ?_)
  rintro e w3 ⟨hk3, rfl⟩
  have hb13 := hk3.at0 hb12
  have hK3 := hK2.trans0 hk3
  have hh : ∀ r : Bool, r = holdsB b x → Ending.returned (.bool r) = .returned (.bool (holdsB b x)) := fun r h => by rw [h]
  repeat' (first | (refine CL.seq ?_) | (refine CL.region ?_) | (refine CL.skip ?_) | (refine CL.condP rfl (fun _ => ?_) (fun _ => ?_) <;> try (exfalso; omega)) | (refine CL.block ?_) | (refine CL.ret ?_) | (refine Rt.block ?_) | (refine CL.done ?_) | (refine Nm.block ?_) | (refine Gt.nil ?_; refine RW.nilw [0, 1, 2, 3, 4, 5, 11, 12, 16, 20, 24, 28] ?_; dsimp only [H.keep, H.look, H.Fr.put, Nat.beq]) | (refine Gt.assign ?_; refine RW.y (Y.assign rfl) rfl ?_) | (refine Gt.eql ?_; first | (refine RW.y (Y.eqs rfl rfl) rfl ?_) | (refine RW.y (Y.eqi rfl rfl) rfl ?_)) | (refine Gt.move ?_; refine RW.y (Y.move rfl) rfl ?_) | (refine Gt.load ?_; (refine RW.y (Y.loadB rfl (by assumption) rfl) rfl ?_)) | (refine Gt.fieldAddr ?_; refine RW.y (Y.fieldAddr rfl (by rfl)) rfl ?_) | (refine Gt.lss ?_; refine RW.y (Y.lss rfl rfl) rfl ?_) | (refine Gt.leq ?_; refine RW.y (Y.leq rfl rfl) rfl ?_) | (refine Gt.gtr ?_; refine RW.y (Y.gtr rfl rfl) rfl ?_) | (refine Gt.geq ?_; refine RW.y (Y.geq rfl rfl) rfl ?_))
  all_goals
    refine FQ.one rfl rfl rfl ⟨hK3, hh _ ?_⟩
    unfold holdsB
    repeat' (first | rw [if_pos (by assumption)] | rw [if_neg (by assumption)])


theorem near (X V : Value) (b : Bd) (x : Ver) (w : World) (hX : BdAt w X b) (hV : VerAt w V x) : Calls Tryz.prog 46 #[X, V] w fun e w' => K0 w w' ∧ e = .returned (.bool (nearB b x)) := by
  obtain ⟨p, rfl, hp⟩ := hX
  obtain ⟨q, rfl, hq1, hq⟩ := verC hV
  refine H.enter Tryz.func46 Tryz.ntmps46 rfl rfl ?_; dsimp only [H.args]
  repeat' (first | (refine CL.seq ?_) | (refine CL.region ?_))
  refine RW.box rfl rfl (fun w1 hb1 hk1 hlt1 => ?_)
  have hb1' : w1.heap[w.heap.size]? = some (.cells #[vs b.sign, .int .i64 b.v.a, .int .i64 b.v.b, .int .i64 b.v.c, p] bdT' (0, 0)) := hb1
  refine RW.box rfl rfl (fun w2 hb2 hk2 hlt2 => ?_)
  have hb2' : w2.heap[w1.heap.size]? = some (.cells #[.int .i64 x.a, .int .i64 x.b, .int .i64 x.c, q] verT (0, 0)) := hb2
  have hb12 := hk2.at0 hb1'
  have hK2 := hk1.trans0 hk2
  have hp2 := hp.keep0 hK2
  have hh : ∀ r : Bool, r = nearB b x → Ending.returned (.bool r) = .returned (.bool (nearB b x)) := fun r h => by rw [h]
  have hpe : decide (b.v.pre ≠ []) = decide (0 < (b.v.pre.length : Int)) := by
    refine decide_eq_decide.2 ⟨fun h => by have := List.length_pos_iff.2 h; omega, fun h => List.length_pos_iff.1 (by omega)⟩
  repeat' (first | (refine CL.seq ?_) | (refine CL.region ?_) | (refine CL.ret ?_) | (refine Gt.nil ?_; refine RW.nilw [0, 1, 2, 3, 4] ?_; dsimp only [H.keep, H.look, H.Fr.put, Nat.beq]) | (refine Gt.fieldAddr ?_; refine RW.y (Y.fieldAddr rfl (by rfl)) rfl ?_) | (refine Gt.guard ?_; first | (refine RW.part rfl rfl rfl (fun _ => ?_) (fun _ => ?_) <;> try (exfalso; omega)) | (refine RW.on rfl rfl rfl ?_) | (refine RW.off1 rfl rfl rfl rfl rfl ?_)) | (refine Gt.load ?_; refine RW.y (Y.loadB rfl (by assumption) rfl) rfl ?_) | (refine Gt.move ?_; refine RW.y (Y.move rfl) rfl ?_) | (refine Gt.eql ?_; refine RW.y (Y.eqi rfl rfl) rfl ?_) | (refine Gt.pick ?_; first | (refine RW.y (Y.pickT rfl rfl) rfl ?_) | (refine RW.y (Y.pickF rfl rfl) rfl ?_)) | (refine Gt.assign ?_; refine RW.y (Y.assign rfl) rfl ?_) | (refine Gt.len ?_; (refine RW.y (Y.lenx rfl (by assumption)) rfl ?_)) | (refine Gt.gtr ?_; refine RW.y (Y.gtr rfl rfl) rfl ?_))
  · rename_i h1 h2 h3
    refine FQ.one rfl rfl rfl ⟨hK2, hh _ ?_⟩
    rw [nearB, hpe, decide_eq_true h1, decide_eq_true h2, decide_eq_true h3]; rfl
  · rename_i h1 h2 h3
    refine FQ.one rfl rfl rfl ⟨hK2, hh _ ?_⟩
    rw [nearB, decide_eq_false h3]; simp
  · rename_i h1 h2
    refine FQ.one rfl rfl rfl ⟨hK2, hh _ ?_⟩
    rw [nearB, decide_eq_false h2]; simp
  · rename_i h1
    refine FQ.one rfl rfl rfl ⟨hK2, hh _ ?_⟩
    rw [nearB, hpe, decide_eq_false h1]; simp
end Go.Proofs.YtjfdhafmbcppjaaGreatDoor.Sp

namespace Go.Proofs.YtjfdhafmbcppjaaGreatDoor.Sp
open Go.RowKit H S Ve
attribute [local irreducible] H.CL H.RW H.CW H.Yd H.thenK H.blockQ Go.Calls

/-- The version that a closure has caught. -/
def Caught (w : World) (g : Nat) (x : Ver) : Prop := ∃ q, w.heap[g]? = some (.cells #[.int .i64 x.a, .int .i64 x.b, .int .i64 x.c, q] verT (0, 0)) ∧ Sl w 1 q x.pre.length (sv x.pre)
theorem Caught.keep0 {w w' : World} {g : Nat} {x : Ver} (h : Caught w g x) (k : K0 w w') : Caught w' g x := by obtain ⟨q, h1, h2⟩ := h; exact ⟨q, k.at0 h1, h2.keep0 k⟩
theorem lamNot (X : Value) (g : Nat) (b : Bd) (x : Ver) (w : World) (hX : BdAt w X b) (hV : Caught w g x) (fb : Fit b.v) (fx : Fit x) : Calls Tryz.prog 43 #[X, .pointer (some ⟨g, 0, none⟩)] w fun e w' => K0 w w' ∧ e = .returned (.bool (!holdsB b x)) := by
  obtain ⟨p, rfl, hp⟩ := hX
  obtain ⟨q, hg, hq⟩ := hV
  refine H.enter Tryz.func43 Tryz.ntmps43 rfl rfl ?_; dsimp only [H.args]
  repeat' (first | (refine CL.seq ?_) | (refine CL.region ?_))
  refine RW.box rfl rfl (fun w1 hb1 hk1 hlt1 => ?_)
  have hb1' : w1.heap[w.heap.size]? = some (.cells #[vs b.sign, .int .i64 b.v.a, .int .i64 b.v.b, .int .i64 b.v.c, p] bdT' (0, 0)) := hb1
  have hg1 := hk1.at0 hg
  repeat' (first | (refine CL.seq ?_) | (refine CL.region ?_) | (refine Gt.nil ?_; refine RW.nilw [0, 1, 2, 3] ?_; dsimp only [H.keep, H.look, H.Fr.put, Nat.beq]) | (refine Gt.assign ?_; refine RW.y (Y.assign rfl) rfl ?_) | (refine Gt.load ?_; (refine RW.y (Y.loadBlock rfl (by assumption) rfl) rfl ?_)))
  refine RW.fn rfl rfl ((holds _ _ b x w1 ⟨p, rfl, hp.keep0 hk1⟩ ⟨q, rfl, hq.keep0 hk1⟩ fb fx).mono ?_)
  rintro e w2 ⟨hk2, rfl⟩
  repeat' (first | (refine CL.ret ?_) | (refine Gt.nil ?_; refine RW.nilw [0, 1, 2, 3] ?_; dsimp only [H.keep, H.look, H.Fr.put, Nat.beq]) | (refine Gt.assign ?_; refine RW.y (Y.assign rfl) rfl ?_) | (refine Gt.not ?_; (refine RW.y (Y.notb rfl) rfl ?_)))
  exact FQ.one rfl rfl rfl ⟨hk1.trans0 hk2, rfl⟩
theorem lamNear (X : Value) (g : Nat) (b : Bd) (x : Ver) (w : World) (hX : BdAt w X b) (hV : Caught w g x) : Calls Tryz.prog 45 #[X, .pointer (some ⟨g, 0, none⟩)] w fun e w' => K0 w w' ∧ e = .returned (.bool (nearB b x)) := by
  obtain ⟨p, rfl, hp⟩ := hX
  obtain ⟨q, hg, hq⟩ := hV
  refine H.enter Tryz.func45 Tryz.ntmps45 rfl rfl ?_; dsimp only [H.args]
  repeat' (first | (refine CL.seq ?_) | (refine CL.region ?_))
  refine RW.box rfl rfl (fun w1 hb1 hk1 hlt1 => ?_)
  have hb1' : w1.heap[w.heap.size]? = some (.cells #[vs b.sign, .int .i64 b.v.a, .int .i64 b.v.b, .int .i64 b.v.c, p] bdT' (0, 0)) := hb1
  have hg1 := hk1.at0 hg
  repeat' (first | (refine CL.seq ?_) | (refine CL.region ?_) | (refine Gt.nil ?_; refine RW.nilw [0, 1, 2, 3] ?_; dsimp only [H.keep, H.look, H.Fr.put, Nat.beq]) | (refine Gt.assign ?_; refine RW.y (Y.assign rfl) rfl ?_) | (refine Gt.load ?_; (refine RW.y (Y.loadBlock rfl (by assumption) rfl) rfl ?_)))
  refine RW.fn rfl rfl ((near _ _ b x w1 ⟨p, rfl, hp.keep0 hk1⟩ ⟨q, rfl, hq.keep0 hk1⟩).mono ?_)
  rintro e w2 ⟨hk2, rfl⟩
  repeat' (first | (refine CL.ret ?_) | (refine Gt.nil ?_; refine RW.nilw [0, 1, 2, 3] ?_; dsimp only [H.keep, H.look, H.Fr.put, Nat.beq]) | (refine Gt.assign ?_; refine RW.y (Y.assign rfl) rfl ?_))
  exact FQ.one rfl rfl rfl ⟨hk1.trans0 hk2, rfl⟩

theorem idxNot (v : Value) (L : List (Bd × Value)) (g : Nat) (x : Ver) (w : World) (hs : Sl w 5 v L.length (L.flatMap bdC)) (hm : ∀ y ∈ L, Sl w 1 y.2 y.1.v.pre.length (sv y.1.v.pre)) (hV : Caught w g x) (fb : ∀ y ∈ L, Fit y.1.v) (fx : Fit x) (hl : L.length ≤ 1000000) : Calls Tryz.prog 72 #[v, .func (.func 43) #[] #[.pointer (some ⟨g, 0, none⟩)]] w fun e w' => K0 w w' ∧ ∃ n : Int, e = .returned (.int .i64 n) ∧ (0 ≤ n ↔ L.any (fun y => !holdsB y.1 x) = true) := by
  refine H.enter Tryz.func72 Tryz.ntmps72 rfl rfl ?_; dsimp only [H.args]
  repeat' (first | (refine CL.seq ?_) | (refine CL.region ?_) | (refine CL.block ?_) | (refine Gt.nil ?_; refine RW.nilw [0, 1, 4, 5, 7, 8, 9, 16] ?_; dsimp only [H.keep, H.look, H.Fr.put, Nat.beq]) | (refine Gt.move ?_; refine RW.y (Y.move rfl) rfl ?_) | (refine Gt.assign ?_; refine RW.y (Y.assign rfl) rfl ?_) | (refine Gt.len ?_; (refine RW.y (Y.lenx rfl (by assumption)) rfl ?_)))
  refine CL.loopS [0, 1, 4, 7, 8] (fun k vals wr => ∃ (i : Nat) (n : Int), vals = [v, .func (.func 43) #[] #[.pointer (some ⟨g, 0, none⟩)], .int .i64 n, .int .i64 (L.length : Int), .int .i64 (i : Int)] ∧ k = L.length - i ∧ i ≤ L.length ∧ (L.take i).any (fun y => !holdsB y.1 x) = false ∧ K0 w wr) L.length ⟨_, rfl, 0, 0, rfl, rfl, Nat.zero_le _, rfl, Kept.refl _ _⟩ ?_
  rintro k vals wr ⟨i, n, rfl, rfl, hi, hall, hkr⟩
  dsimp only [List.zip, List.zipWith]
  have hsr := hs.keep0 hkr
  rcases Nat.lt_or_ge i L.length with hlt | hge
  · have hmem : L.getD i default ∈ L := getD_mem default hlt
    repeat' (first | (refine CL.seq ?_) | (refine CL.region ?_) | (refine CL.skip ?_) | (refine CL.condP rfl (fun _ => ?_) (fun _ => ?_) <;> try (exfalso; omega)) | (refine CL.block ?_) | (refine Gt.nil ?_; refine RW.nilw [0, 1, 4, 5, 7, 8, 9, 16] ?_; dsimp only [H.keep, H.look, H.Fr.put, Nat.beq]) | (refine Gt.move ?_; refine RW.y (Y.move rfl) rfl ?_) | (refine Gt.assign ?_; refine RW.y (Y.assign rfl) rfl ?_) | (refine Gt.lss ?_; refine RW.y (Y.lss rfl rfl) rfl ?_) | (refine Gt.idx ?_; (refine RW.elemA rfl rfl rfl rfl (by assumption) (fun _ => by rfl) rfl (by omega) (by omega) (fun _ => ?_))))
    rw [Int.toNat_natCast]
    refine RW.fnv (cap := [.pointer (some ⟨g, 0, none⟩)]) rfl rfl rfl ((lamNot _ g (L.getD i default).1 x wr ⟨(L.getD i default).2, rfl, (hm _ hmem).keep0 hkr⟩ (hV.keep0 hkr) (fb _ hmem) fx).mono ?_)
    rintro e w' ⟨hk', rfl⟩
    have hst : (L.take (i + 1)).any (fun y => !holdsB y.1 x) = ((L.take i).any (fun y => !holdsB y.1 x) || (fun y : Bd × Value => !holdsB y.1 x) (L.getD i default)) := by
      rw [take_snoc default L i hlt, List.any_append]; simp
    rw [hall, Bool.false_or] at hst
    cases hm : (fun y : Bd × Value => !holdsB y.1 x) (L.getD i default)
    · simp only at hm
      rw [hm]
      repeat' (first | (refine CL.region ?_) | (refine CL.skip ?_) | (refine CL.condF rfl ?_) | (refine CL.done ?_) | (refine Nm.block ?_) | (refine Nm.then ?_) | (refine Gt.nil ?_; refine RW.nilw [0, 1, 4, 5, 7, 8, 9, 16] ?_; dsimp only [H.keep, H.look, H.Fr.put, Nat.beq]) | (refine Gt.move ?_; refine RW.y (Y.move rfl) rfl ?_) | (refine Gt.add ?_; refine RW.y (Y.add64 rfl rfl (by omega) (by omega)) rfl ?_))
      exact ⟨L.length - (i + 1), _, rfl, rfl, rfl, by omega, i + 1, n, rfl, rfl, by omega, by rw [hst]; exact hm, hkr.trans0 hk'⟩
    · simp only at hm
      rw [hm]
      repeat' (first | (refine CL.seq ?_) | (refine CL.region ?_) | (refine CL.condT rfl ?_) | (refine CL.ret ?_) | (refine Rt.then ?_) | (refine Rt.block ?_) | (refine Gt.nil ?_; refine RW.nilw [0, 1, 4, 5, 7, 8, 9, 16] ?_; dsimp only [H.keep, H.look, H.Fr.put, Nat.beq]) | (refine Gt.move ?_; refine RW.y (Y.move rfl) rfl ?_) | (refine Gt.assign ?_; refine RW.y (Y.assign rfl) rfl ?_))
      exact FQ.one rfl rfl rfl ⟨hkr.trans0 hk', _, rfl, iff_of_true (by omega) (List.any_eq_true.2 ⟨_, hmem, hm⟩)⟩
  · have hi : i = L.length := by omega
    subst hi
    rw [List.take_length] at hall
    repeat' (first | (refine CL.seq ?_) | (refine CL.region ?_) | (refine CL.condP rfl (fun _ => ?_) (fun _ => ?_) <;> try (exfalso; omega)) | (refine CL.exit ?_) | (refine Ex.then ?_) | (refine Ex.hit ?_) | (refine CL.ret ?_) | (refine Gt.nil ?_; refine RW.nilw [0, 1, 4, 5, 7, 8, 9, 16] ?_; dsimp only [H.keep, H.look, H.Fr.put, Nat.beq]) | (refine Gt.assign ?_; refine RW.y (Y.assign rfl) rfl ?_) | (refine Gt.lss ?_; refine RW.y (Y.lss rfl rfl) rfl ?_))
    exact FQ.one rfl rfl rfl ⟨hkr, _, rfl, iff_of_false (by decide) (by rw [hall]; decide)⟩

theorem anyNot (v : Value) (l : List Bd) (g : Nat) (x : Ver) (w : World) (hb : BdsAt w v l) (hV : Caught w g x) (fb : ∀ y ∈ l, Fit y.v) (fx : Fit x) (hl : l.length ≤ 1000000) : Calls Tryz.prog 42 #[v, .func (.func 43) #[] #[.pointer (some ⟨g, 0, none⟩)]] w fun e w' => K0 w w' ∧ e = .returned (.bool (l.any (fun b => !holdsB b x))) := by
  obtain ⟨L, rfl, hs, hm⟩ := hb
  rw [List.length_map] at hl
  refine H.enter Tryz.func42 Tryz.ntmps42 rfl rfl ?_; dsimp only [H.args]
  repeat' (first | (refine CL.seq ?_) | (refine CL.region ?_) | (refine Gt.nil ?_; refine RW.nilw [0, 1, 4] ?_; dsimp only [H.keep, H.look, H.Fr.put, Nat.beq]) | (refine Gt.assign ?_; refine RW.y (Y.assign rfl) rfl ?_) | (refine Gt.move ?_; refine RW.y (Y.move rfl) rfl ?_))
  refine RW.fn rfl rfl ((idxNot v L g x w hs hm hV (fun y hy => fb _ (List.mem_map_of_mem hy)) fx hl).mono ?_)
  rintro e w' ⟨hk, n, rfl, hn⟩
  repeat' (first | (refine CL.ret ?_) | (refine Gt.nil ?_; refine RW.nilw [0, 1, 4] ?_; dsimp only [H.keep, H.look, H.Fr.put, Nat.beq]) | (refine Gt.assign ?_; refine RW.y (Y.assign rfl) rfl ?_) | (refine Gt.geq ?_; refine RW.y (Y.geq rfl rfl) rfl ?_))
  refine FQ.one rfl rfl rfl ⟨hk, ?_⟩
  rw [List.any_map, show decide (n ≥ 0) = L.any (fun y => !holdsB y.1 x) from by rw [Bool.eq_iff_iff, decide_eq_true_eq]; exact hn]
  rfl

theorem idxNear (v : Value) (L : List (Bd × Value)) (g : Nat) (x : Ver) (w : World) (hs : Sl w 5 v L.length (L.flatMap bdC)) (hm : ∀ y ∈ L, Sl w 1 y.2 y.1.v.pre.length (sv y.1.v.pre)) (hV : Caught w g x) (fb : ∀ y ∈ L, Fit y.1.v) (fx : Fit x) (hl : L.length ≤ 1000000) : Calls Tryz.prog 72 #[v, .func (.func 45) #[] #[.pointer (some ⟨g, 0, none⟩)]] w fun e w' => K0 w w' ∧ ∃ n : Int, e = .returned (.int .i64 n) ∧ (0 ≤ n ↔ L.any (fun y => nearB y.1 x) = true) := by
  refine H.enter Tryz.func72 Tryz.ntmps72 rfl rfl ?_; dsimp only [H.args]
  repeat' (first | (refine CL.seq ?_) | (refine CL.region ?_) | (refine CL.block ?_) | (refine Gt.nil ?_; refine RW.nilw [0, 1, 4, 5, 7, 8, 9, 16] ?_; dsimp only [H.keep, H.look, H.Fr.put, Nat.beq]) | (refine Gt.move ?_; refine RW.y (Y.move rfl) rfl ?_) | (refine Gt.assign ?_; refine RW.y (Y.assign rfl) rfl ?_) | (refine Gt.len ?_; (refine RW.y (Y.lenx rfl (by assumption)) rfl ?_)))
  refine CL.loopS [0, 1, 4, 7, 8] (fun k vals wr => ∃ (i : Nat) (n : Int), vals = [v, .func (.func 45) #[] #[.pointer (some ⟨g, 0, none⟩)], .int .i64 n, .int .i64 (L.length : Int), .int .i64 (i : Int)] ∧ k = L.length - i ∧ i ≤ L.length ∧ (L.take i).any (fun y => nearB y.1 x) = false ∧ K0 w wr) L.length ⟨_, rfl, 0, 0, rfl, rfl, Nat.zero_le _, rfl, Kept.refl _ _⟩ ?_
  rintro k vals wr ⟨i, n, rfl, rfl, hi, hall, hkr⟩
  dsimp only [List.zip, List.zipWith]
  have hsr := hs.keep0 hkr
  rcases Nat.lt_or_ge i L.length with hlt | hge
  · have hmem : L.getD i default ∈ L := getD_mem default hlt
    repeat' (first | (refine CL.seq ?_) | (refine CL.region ?_) | (refine CL.skip ?_) | (refine CL.condP rfl (fun _ => ?_) (fun _ => ?_) <;> try (exfalso; omega)) | (refine CL.block ?_) | (refine Gt.nil ?_; refine RW.nilw [0, 1, 4, 5, 7, 8, 9, 16] ?_; dsimp only [H.keep, H.look, H.Fr.put, Nat.beq]) | (refine Gt.move ?_; refine RW.y (Y.move rfl) rfl ?_) | (refine Gt.assign ?_; refine RW.y (Y.assign rfl) rfl ?_) | (refine Gt.lss ?_; refine RW.y (Y.lss rfl rfl) rfl ?_) | (refine Gt.idx ?_; (refine RW.elemA rfl rfl rfl rfl (by assumption) (fun _ => by rfl) rfl (by omega) (by omega) (fun _ => ?_))))
    rw [Int.toNat_natCast]
    refine RW.fnv (cap := [.pointer (some ⟨g, 0, none⟩)]) rfl rfl rfl ((lamNear _ g (L.getD i default).1 x wr ⟨(L.getD i default).2, rfl, (hm _ hmem).keep0 hkr⟩ (hV.keep0 hkr)).mono ?_)
    rintro e w' ⟨hk', rfl⟩
    have hst : (L.take (i + 1)).any (fun y => nearB y.1 x) = ((L.take i).any (fun y => nearB y.1 x) || (fun y : Bd × Value => nearB y.1 x) (L.getD i default)) := by
      rw [take_snoc default L i hlt, List.any_append]; simp
    rw [hall, Bool.false_or] at hst
    cases hm : (fun y : Bd × Value => nearB y.1 x) (L.getD i default)
    · simp only at hm
      rw [hm]
      repeat' (first | (refine CL.region ?_) | (refine CL.skip ?_) | (refine CL.condF rfl ?_) | (refine CL.done ?_) | (refine Nm.block ?_) | (refine Nm.then ?_) | (refine Gt.nil ?_; refine RW.nilw [0, 1, 4, 5, 7, 8, 9, 16] ?_; dsimp only [H.keep, H.look, H.Fr.put, Nat.beq]) | (refine Gt.move ?_; refine RW.y (Y.move rfl) rfl ?_) | (refine Gt.add ?_; refine RW.y (Y.add64 rfl rfl (by omega) (by omega)) rfl ?_))
      exact ⟨L.length - (i + 1), _, rfl, rfl, rfl, by omega, i + 1, n, rfl, rfl, by omega, by rw [hst]; exact hm, hkr.trans0 hk'⟩
    · simp only at hm
      rw [hm]
      repeat' (first | (refine CL.seq ?_) | (refine CL.region ?_) | (refine CL.condT rfl ?_) | (refine CL.ret ?_) | (refine Rt.then ?_) | (refine Rt.block ?_) | (refine Gt.nil ?_; refine RW.nilw [0, 1, 4, 5, 7, 8, 9, 16] ?_; dsimp only [H.keep, H.look, H.Fr.put, Nat.beq]) | (refine Gt.move ?_; refine RW.y (Y.move rfl) rfl ?_) | (refine Gt.assign ?_; refine RW.y (Y.assign rfl) rfl ?_))
      exact FQ.one rfl rfl rfl ⟨hkr.trans0 hk', _, rfl, iff_of_true (by omega) (List.any_eq_true.2 ⟨_, hmem, hm⟩)⟩
  · have hi : i = L.length := by omega
    subst hi
    rw [List.take_length] at hall
    repeat' (first | (refine CL.seq ?_) | (refine CL.region ?_) | (refine CL.condP rfl (fun _ => ?_) (fun _ => ?_) <;> try (exfalso; omega)) | (refine CL.exit ?_) | (refine Ex.then ?_) | (refine Ex.hit ?_) | (refine CL.ret ?_) | (refine Gt.nil ?_; refine RW.nilw [0, 1, 4, 5, 7, 8, 9, 16] ?_; dsimp only [H.keep, H.look, H.Fr.put, Nat.beq]) | (refine Gt.assign ?_; refine RW.y (Y.assign rfl) rfl ?_) | (refine Gt.lss ?_; refine RW.y (Y.lss rfl rfl) rfl ?_))
    exact FQ.one rfl rfl rfl ⟨hkr, _, rfl, iff_of_false (by decide) (by rw [hall]; decide)⟩

theorem anyNear (v : Value) (l : List Bd) (g : Nat) (x : Ver) (w : World) (hb : BdsAt w v l) (hV : Caught w g x) (fb : ∀ y ∈ l, Fit y.v) (fx : Fit x) (hl : l.length ≤ 1000000) : Calls Tryz.prog 42 #[v, .func (.func 45) #[] #[.pointer (some ⟨g, 0, none⟩)]] w fun e w' => K0 w w' ∧ e = .returned (.bool (l.any (fun b => nearB b x))) := by
  obtain ⟨L, rfl, hs, hm⟩ := hb
  rw [List.length_map] at hl
  refine H.enter Tryz.func42 Tryz.ntmps42 rfl rfl ?_; dsimp only [H.args]
  repeat' (first | (refine CL.seq ?_) | (refine CL.region ?_) | (refine Gt.nil ?_; refine RW.nilw [0, 1, 4] ?_; dsimp only [H.keep, H.look, H.Fr.put, Nat.beq]) | (refine Gt.assign ?_; refine RW.y (Y.assign rfl) rfl ?_) | (refine Gt.move ?_; refine RW.y (Y.move rfl) rfl ?_))
  refine RW.fn rfl rfl ((idxNear v L g x w hs hm hV (fun y hy => fb _ (List.mem_map_of_mem hy)) fx hl).mono ?_)
  rintro e w' ⟨hk, n, rfl, hn⟩
  repeat' (first | (refine CL.ret ?_) | (refine Gt.nil ?_; refine RW.nilw [0, 1, 4] ?_; dsimp only [H.keep, H.look, H.Fr.put, Nat.beq]) | (refine Gt.assign ?_; refine RW.y (Y.assign rfl) rfl ?_) | (refine Gt.geq ?_; refine RW.y (Y.geq rfl rfl) rfl ?_))
  refine FQ.one rfl rfl rfl ⟨hk, ?_⟩
  rw [List.any_map, show decide (n ≥ 0) = L.any (fun y => nearB y.1 x) from by rw [Bool.eq_iff_iff, decide_eq_true_eq]; exact hn]
  rfl
end Go.Proofs.YtjfdhafmbcppjaaGreatDoor.Sp

namespace Go.Proofs.YtjfdhafmbcppjaaGreatDoor.Sp
open Go.RowKit H S Ve
attribute [local irreducible] H.CL H.RW H.CW H.Yd H.thenK H.blockQ Go.Calls

theorem all_any (l : List Bd) (x : Ver) : l.all (fun b => holdsB b x) = !l.any (fun b => !holdsB b x) := by
  rw [Bool.eq_iff_iff]; simp
theorem lamList (v : Value) (l : List Bd) (g : Nat) (x : Ver) (w : World) (hb : BdsAt w v l) (hV : Caught w g x) (fb : ∀ y ∈ l, Fit y.v) (fx : Fit x) (hl : l.length ≤ 1000000) : Calls Tryz.prog 41 #[v, .pointer (some ⟨g, 0, none⟩)] w fun e w' => K0 w w' ∧ e = .returned (.bool (hasL l x)) := by
  refine H.enter Tryz.func41 Tryz.ntmps41 rfl rfl ?_; dsimp only [H.args]
  repeat' (first | (refine CL.seq ?_) | (refine CL.region ?_) | (refine Gt.nil ?_; refine RW.nilw [0, 1, 3, 6] ?_; dsimp only [H.keep, H.look, H.Fr.put, Nat.beq]) | (refine Gt.assign ?_; refine RW.y (Y.assign rfl) rfl ?_) | (refine Gt.move ?_; refine RW.y (Y.move rfl) rfl ?_) | (refine Gt.makeFunc ?_; refine RW.y (Y.makeFunc rfl rfl) rfl ?_))
  refine RW.fn rfl rfl ((anyNot v l g x w hb hV fb fx hl).mono ?_)
  rintro e w1 ⟨hk1, rfl⟩
  have hV1 := hV.keep0 hk1
  obtain ⟨q, hg1, hq1⟩ := id hV1
  have hh : ∀ r : Bool, r = hasL l x → Ending.returned (.bool r) = .returned (.bool (hasL l x)) := fun r h => by rw [h]
  have hpe : decide (x.pre = []) = decide ((x.pre.length : Int) = 0) := by
    refine decide_eq_decide.2 ⟨fun h => by rw [h]; rfl, fun h => List.eq_nil_of_length_eq_zero (by omega)⟩
  cases hany : l.any (fun b => !holdsB b x)
  · repeat' (first | (refine CL.seq ?_) | (refine CL.region ?_) | (refine CL.skip ?_) | (refine CL.condF rfl ?_) | (refine CL.ret ?_) | (refine Gt.nil ?_; refine RW.nilw [0, 1, 3, 6] ?_; dsimp only [H.keep, H.look, H.Fr.put, Nat.beq]) | (refine Gt.assign ?_; refine RW.y (Y.assign rfl) rfl ?_) | (refine Gt.guard ?_; first | (refine RW.part rfl rfl rfl (fun _ => ?_) (fun _ => ?_) <;> try (exfalso; omega)) | (refine RW.on rfl rfl rfl ?_) | (refine RW.off1 rfl rfl rfl rfl rfl ?_)) | (refine Gt.move ?_; refine RW.y (Y.move rfl) rfl ?_) | (refine Gt.makeFunc ?_; refine RW.y (Y.makeFunc rfl rfl) rfl ?_) | (refine Gt.fieldAddr ?_; refine RW.y (Y.fieldAddr rfl (by rfl)) rfl ?_) | (refine Gt.load ?_; refine RW.y (Y.loadB rfl (by assumption) rfl) rfl ?_) | (refine Gt.len ?_; (refine RW.y (Y.lenx rfl (by assumption)) rfl ?_)) | (refine Gt.eql ?_; refine RW.y (Y.eqi rfl rfl) rfl ?_) | (refine Gt.pick ?_; (refine RW.y (Y.pickT rfl rfl) rfl ?_)))
    · rename_i h1
      refine FQ.one rfl rfl rfl ⟨hk1, hh _ ?_⟩
      rw [hasL, all_any, hany, hpe, decide_eq_true h1]; rfl
    · rename_i h1
      refine RW.fn rfl rfl ((anyNear v l g x w1 (hb.keep0 hk1) hV1 fb fx hl).mono ?_)
      rintro e w2 ⟨hk2, rfl⟩
      repeat' (first | (refine CL.ret ?_) | (refine Gt.nil ?_; refine RW.nilw [0, 1, 3, 6] ?_; dsimp only [H.keep, H.look, H.Fr.put, Nat.beq]) | (refine Gt.assign ?_; refine RW.y (Y.assign rfl) rfl ?_) | (refine Gt.pick ?_; (refine RW.y (Y.pickF rfl rfl) rfl ?_)))
      refine FQ.one rfl rfl rfl ⟨hk1.trans0 hk2, hh _ ?_⟩
      rw [hasL, all_any, hany, hpe, decide_eq_false h1]; rfl
  · repeat' (first | (refine CL.seq ?_) | (refine CL.region ?_) | (refine CL.condT rfl ?_) | (refine CL.ret ?_) | (refine Gt.nil ?_; refine RW.nilw [0, 1, 3, 6] ?_; dsimp only [H.keep, H.look, H.Fr.put, Nat.beq]) | (refine Gt.assign ?_; refine RW.y (Y.assign rfl) rfl ?_))
    refine FQ.one rfl rfl rfl ⟨hk1, hh _ ?_⟩
    rw [hasL, all_any, hany]; rfl

theorem idxList (v : Value) (R : List (List Bd × Value)) (g : Nat) (x : Ver) (w : World) (hs : Sl w 1 v R.length (R.map (fun y => y.2))) (hm : ∀ y ∈ R, BdsAt w y.2 y.1) (hV : Caught w g x) (fb : ∀ y ∈ R, y.1.length ≤ 1000000 ∧ ∀ z ∈ y.1, Fit z.v) (fx : Fit x) (hl : R.length ≤ 1000000) : Calls Tryz.prog 71 #[v, .func (.func 41) #[] #[.pointer (some ⟨g, 0, none⟩)]] w fun e w' => K0 w w' ∧ ∃ n : Int, e = .returned (.int .i64 n) ∧ (0 ≤ n ↔ R.any (fun y => hasL y.1 x) = true) := by
  refine H.enter Tryz.func71 Tryz.ntmps71 rfl rfl ?_; dsimp only [H.args]
  repeat' (first | (refine CL.seq ?_) | (refine CL.region ?_) | (refine CL.block ?_) | (refine Gt.nil ?_; refine RW.nilw [0, 1, 4, 5, 7, 8, 9, 16] ?_; dsimp only [H.keep, H.look, H.Fr.put, Nat.beq]) | (refine Gt.move ?_; refine RW.y (Y.move rfl) rfl ?_) | (refine Gt.assign ?_; refine RW.y (Y.assign rfl) rfl ?_) | (refine Gt.len ?_; (refine RW.y (Y.lenx rfl (by assumption)) rfl ?_)))
  refine CL.loopS [0, 1, 4, 7, 8] (fun k vals wr => ∃ (i : Nat) (n : Int), vals = [v, .func (.func 41) #[] #[.pointer (some ⟨g, 0, none⟩)], .int .i64 n, .int .i64 (R.length : Int), .int .i64 (i : Int)] ∧ k = R.length - i ∧ i ≤ R.length ∧ (R.take i).any (fun y => hasL y.1 x) = false ∧ K0 w wr) R.length ⟨_, rfl, 0, 0, rfl, rfl, Nat.zero_le _, rfl, Kept.refl _ _⟩ ?_
  rintro k vals wr ⟨i, n, rfl, rfl, hi, hall, hkr⟩
  dsimp only [List.zip, List.zipWith]
  have hsr := hs.keep0 hkr
  rcases Nat.lt_or_ge i R.length with hlt | hge
  · have hmem : R.getD i default ∈ R := getD_mem default hlt
    repeat' (first | (refine CL.seq ?_) | (refine CL.region ?_) | (refine CL.skip ?_) | (refine CL.condP rfl (fun _ => ?_) (fun _ => ?_) <;> try (exfalso; omega)) | (refine CL.block ?_) | (refine Gt.nil ?_; refine RW.nilw [0, 1, 4, 5, 7, 8, 9, 16] ?_; dsimp only [H.keep, H.look, H.Fr.put, Nat.beq]) | (refine Gt.move ?_; refine RW.y (Y.move rfl) rfl ?_) | (refine Gt.assign ?_; refine RW.y (Y.assign rfl) rfl ?_) | (refine Gt.lss ?_; refine RW.y (Y.lss rfl rfl) rfl ?_) | (refine Gt.idx ?_; refine RW.elemM rfl rfl rfl rfl (by assumption) (by omega) (by omega) ?_))
    rw [Int.toNat_natCast]
    refine RW.fnv (cap := [.pointer (some ⟨g, 0, none⟩)]) rfl rfl rfl ((lamList _ (R.getD i default).1 g x wr ((hm _ hmem).keep0 hkr) (hV.keep0 hkr) (fb _ hmem).2 fx (fb _ hmem).1).mono ?_)
    rintro e w' ⟨hk', rfl⟩
    have hst : (R.take (i + 1)).any (fun y => hasL y.1 x) = ((R.take i).any (fun y => hasL y.1 x) || hasL (R.getD i default).1 x) := by
      rw [take_snoc default R i hlt, List.any_append]; simp
    rw [hall, Bool.false_or] at hst
    cases hm : hasL (R.getD i default).1 x
    · repeat' (first | (refine CL.region ?_) | (refine CL.skip ?_) | (refine CL.condF rfl ?_) | (refine CL.done ?_) | (refine Nm.block ?_) | (refine Nm.then ?_) | (refine Gt.nil ?_; refine RW.nilw [0, 1, 4, 5, 7, 8, 9, 16] ?_; dsimp only [H.keep, H.look, H.Fr.put, Nat.beq]) | (refine Gt.move ?_; refine RW.y (Y.move rfl) rfl ?_) | (refine Gt.add ?_; refine RW.y (Y.add64 rfl rfl (by omega) (by omega)) rfl ?_))
      exact ⟨R.length - (i + 1), _, rfl, rfl, rfl, by omega, i + 1, n, rfl, rfl, by omega, by rw [hst]; exact hm, hkr.trans0 hk'⟩
    · repeat' (first | (refine CL.seq ?_) | (refine CL.region ?_) | (refine CL.condT rfl ?_) | (refine CL.ret ?_) | (refine Rt.then ?_) | (refine Rt.block ?_) | (refine Gt.nil ?_; refine RW.nilw [0, 1, 4, 5, 7, 8, 9, 16] ?_; dsimp only [H.keep, H.look, H.Fr.put, Nat.beq]) | (refine Gt.move ?_; refine RW.y (Y.move rfl) rfl ?_) | (refine Gt.assign ?_; refine RW.y (Y.assign rfl) rfl ?_))
      exact FQ.one rfl rfl rfl ⟨hkr.trans0 hk', _, rfl, iff_of_true (by omega) (List.any_eq_true.2 ⟨_, hmem, hm⟩)⟩
  · have hi : i = R.length := by omega
    subst hi
    rw [List.take_length] at hall
    repeat' (first | (refine CL.seq ?_) | (refine CL.region ?_) | (refine CL.condP rfl (fun _ => ?_) (fun _ => ?_) <;> try (exfalso; omega)) | (refine CL.exit ?_) | (refine Ex.then ?_) | (refine Ex.hit ?_) | (refine CL.ret ?_) | (refine Gt.nil ?_; refine RW.nilw [0, 1, 4, 5, 7, 8, 9, 16] ?_; dsimp only [H.keep, H.look, H.Fr.put, Nat.beq]) | (refine Gt.assign ?_; refine RW.y (Y.assign rfl) rfl ?_) | (refine Gt.lss ?_; refine RW.y (Y.lss rfl rfl) rfl ?_))
    exact FQ.one rfl rfl rfl ⟨hkr, _, rfl, iff_of_false (by decide) (by rw [hall]; decide)⟩

/-- A span that fits a machine. -/
def FitS (s : Spn) : Prop := s.or.length ≤ 1000000 ∧ ∀ l ∈ s.or, l.length ≤ 1000000 ∧ ∀ z ∈ l, Fit z.v
theorem anyList (v : Value) (o : List (List Bd)) (g : Nat) (x : Ver) (w : World) (ho : OrAt w v o) (hV : Caught w g x) (fo : o.length ≤ 1000000 ∧ ∀ l ∈ o, l.length ≤ 1000000 ∧ ∀ z ∈ l, Fit z.v) (fx : Fit x) : Calls Tryz.prog 40 #[v, .func (.func 41) #[] #[.pointer (some ⟨g, 0, none⟩)]] w fun e w' => K0 w w' ∧ e = .returned (.bool (o.any (fun l => hasL l x))) := by
  obtain ⟨R, rfl, hs, hm⟩ := ho
  rw [List.length_map] at fo
  refine H.enter Tryz.func40 Tryz.ntmps40 rfl rfl ?_; dsimp only [H.args]
  repeat' (first | (refine CL.seq ?_) | (refine CL.region ?_) | (refine Gt.nil ?_; refine RW.nilw [0, 1, 4] ?_; dsimp only [H.keep, H.look, H.Fr.put, Nat.beq]) | (refine Gt.assign ?_; refine RW.y (Y.assign rfl) rfl ?_) | (refine Gt.move ?_; refine RW.y (Y.move rfl) rfl ?_))
  refine RW.fn rfl rfl ((idxList v R g x w hs hm hV (fun y hy => fo.2 _ (List.mem_map_of_mem hy)) fx fo.1).mono ?_)
  rintro e w' ⟨hk, n, rfl, hn⟩
  repeat' (first | (refine CL.ret ?_) | (refine Gt.nil ?_; refine RW.nilw [0, 1, 4] ?_; dsimp only [H.keep, H.look, H.Fr.put, Nat.beq]) | (refine Gt.assign ?_; refine RW.y (Y.assign rfl) rfl ?_) | (refine Gt.geq ?_; refine RW.y (Y.geq rfl rfl) rfl ?_))
  refine FQ.one rfl rfl rfl ⟨hk, ?_⟩
  rw [List.any_map, show decide (n ≥ 0) = R.any (fun y => hasL y.1 x) from by rw [Bool.eq_iff_iff, decide_eq_true_eq]; exact hn]
  rfl
theorem OrAt.one {w : World} {p : Value} {o : List (List Bd)} (h : OrAt w p o) : p.oneCell' = true := by obtain ⟨R, _, h2, _⟩ := h; exact h2.one

theorem has (X V : Value) (s : Spn) (x : Ver) (w : World) (hX : SpanAt w X s) (hV : VerAt w V x) (fs : FitS s) (fx : Fit x) : Calls Tryz.prog 16 #[X, V] w fun e w' => K0 w w' ∧ e = .returned (.bool (hasB s x)) := by
  obtain ⟨p, rfl, hp⟩ := hX
  obtain ⟨q, rfl, hq1, hq⟩ := verC hV
  refine H.enter Tryz.func16 Tryz.ntmps16 rfl rfl ?_; dsimp only [H.args]
  repeat' (first | (refine CL.seq ?_) | (refine CL.region ?_))
  refine RW.box rfl rfl (fun w1 hb1 hk1 hlt1 => ?_)
  have hb1' : w1.heap[w.heap.size]? = some (.cells #[.bool s.any, p] spnT (0, 0)) := hb1
  refine RW.box rfl rfl (fun w2 hb2 hk2 hlt2 => ?_)
  have hb2' : w2.heap[w1.heap.size]? = some (.cells #[.int .i64 x.a, .int .i64 x.b, .int .i64 x.c, q] verT (0, 0)) := hb2
  have hb12 := hk2.at0 hb1'
  have hK2 := hk1.trans0 hk2
  have hq2 := hq.keep0 hK2
  have hh : ∀ r : Bool, r = hasB s x → Ending.returned (.bool r) = .returned (.bool (hasB s x)) := fun r h => by rw [h]
  have hpe : decide (x.pre = []) = decide ((x.pre.length : Int) = 0) := by
    refine decide_eq_decide.2 ⟨fun h => by rw [h]; rfl, fun h => List.eq_nil_of_length_eq_zero (by omega)⟩
  cases ha : s.any
  · rw [ha] at hb12
    repeat' (first | (refine CL.seq ?_) | (refine CL.region ?_) | (refine CL.skip ?_) | (refine CL.condF rfl ?_) | (refine Gt.nil ?_; refine RW.nilw [0, 1, 2, 3, 4, 6] ?_; dsimp only [H.keep, H.look, H.Fr.put, Nat.beq]) | (refine Gt.assign ?_; refine RW.y (Y.assign rfl) rfl ?_) | (refine Gt.fieldAddr ?_; refine RW.y (Y.fieldAddr rfl (by rfl)) rfl ?_) | (refine Gt.load ?_; refine RW.y (Y.loadB rfl (by assumption) rfl) rfl ?_) | (refine Gt.makeFunc ?_; refine RW.y (Y.makeFunc rfl rfl) rfl ?_))
    refine RW.fn rfl rfl ((anyList p s.or w1.heap.size x w2 (hp.keep0 hK2) ⟨q, hb2', hq2⟩ fs fx).mono ?_)
    rintro e w3 ⟨hk3, rfl⟩
    repeat' (first | (refine CL.ret ?_) | (refine Gt.nil ?_; refine RW.nilw [0, 1, 2, 3, 4, 6] ?_; dsimp only [H.keep, H.look, H.Fr.put, Nat.beq]) | (refine Gt.assign ?_; refine RW.y (Y.assign rfl) rfl ?_))
    refine FQ.one rfl rfl rfl ⟨hK2.trans0 hk3, hh _ ?_⟩
    rw [hasB, ha]; rfl
  · rw [ha] at hb12
    repeat' (first | (refine CL.seq ?_) | (refine CL.region ?_) | (refine CL.condT rfl ?_) | (refine CL.ret ?_) | (refine Gt.nil ?_; refine RW.nilw [0, 1, 2, 3, 4, 6] ?_; dsimp only [H.keep, H.look, H.Fr.put, Nat.beq]) | (refine Gt.assign ?_; refine RW.y (Y.assign rfl) rfl ?_) | (refine Gt.fieldAddr ?_; refine RW.y (Y.fieldAddr rfl (by rfl)) rfl ?_) | (refine Gt.load ?_; refine RW.y (Y.loadB rfl (by assumption) rfl) rfl ?_) | (refine Gt.len ?_; (refine RW.y (Y.lenx rfl (by assumption)) rfl ?_)) | (refine Gt.eql ?_; refine RW.y (Y.eqi rfl rfl) rfl ?_))
    refine FQ.one rfl rfl rfl ⟨hK2, hh _ ?_⟩
    rw [hasB, ha, if_pos rfl, hpe]
end Go.Proofs.YtjfdhafmbcppjaaGreatDoor.Sp

namespace Go.Proofs.YtjfdhafmbcppjaaGreatDoor.Sp
open Go.RowKit H S Ve
attribute [local irreducible] H.CL H.RW H.CW H.Yd H.thenK H.blockQ Go.Calls

theorem refHas (X V : Value) (s : Spn) (x : Ver) (w : World) (hX : SpanAt w X s) (hV : VerAt w V x) (fs : FitS s) (fx : Fit x) : Calls Tryz.prog 17 #[X, V] w fun e w' => K0 w w' ∧ e = .returned (.bool (hasB s x)) := by
  obtain ⟨p, rfl, R, hR, hs, hm⟩ := hX
  obtain ⟨q, rfl, hq1, hq⟩ := verC hV
  refine H.enter Tryz.func17 Tryz.ntmps17 rfl rfl ?_; dsimp only [H.args]
  repeat' (first | (refine CL.seq ?_) | (refine CL.region ?_))
  refine RW.box rfl rfl (fun w1 hb1 hk1 hlt1 => ?_)
  have hb1' : w1.heap[w.heap.size]? = some (.cells #[.bool s.any, p] spnT (0, 0)) := hb1
  refine RW.box rfl rfl (fun w2 hb2 hk2 hlt2 => ?_)
  have hb2' : w2.heap[w1.heap.size]? = some (.cells #[.int .i64 x.a, .int .i64 x.b, .int .i64 x.c, q] verT (0, 0)) := hb2
  have hb12 := hk2.at0 hb1'
  have hK2 := hk1.trans0 hk2
  have hq2 := hq.keep0 hK2
  have hs2 := hs.keep0 hK2
  have hh : ∀ r : Bool, r = hasB s x → Ending.returned (.bool r) = .returned (.bool (hasB s x)) := fun r h => by rw [h]
  have hpe : decide (x.pre = []) = decide ((x.pre.length : Int) = 0) := by
    refine decide_eq_decide.2 ⟨fun h => by rw [h]; rfl, fun h => List.eq_nil_of_length_eq_zero (by omega)⟩
  cases ha : s.any
  · rw [ha] at hb12
    repeat' (first | (refine CL.seq ?_) | (refine CL.region ?_) | (refine CL.skip ?_) | (refine CL.condF rfl ?_) | (refine CL.block ?_) | (refine Gt.nil ?_; refine RW.nilw [0, 1, 2, 3, 4, 5, 6, 7, 8, 9, 11, 20, 34, 86] ?_; dsimp only [H.keep, H.look, H.Fr.put, Nat.beq]) | (refine Gt.load ?_; (refine RW.y (Y.loadB rfl (by assumption) rfl) rfl ?_)) | (refine Gt.fieldAddr ?_; refine RW.y (Y.fieldAddr rfl (by rfl)) rfl ?_) | (refine Gt.assign ?_; refine RW.y (Y.assign rfl) rfl ?_))
    have hso : s.or = R.map (·.1) := hR.symm
    have hrl : R.length ≤ 1000000 := by have := fs.1; rw [hso, List.length_map] at this; exact this
    refine CL.loopS [2, 3, 5] (fun m vals wr => ∃ i : Nat, vals = [.pointer (some ⟨w.heap.size, 0, none⟩), .pointer (some ⟨w1.heap.size, 0, none⟩), .int .i64 (i : Int)] ∧ m = R.length - i ∧ i ≤ R.length ∧ (R.take i).any (fun y => hasL y.1 x) = false ∧ K0 w2 wr) R.length ⟨_, rfl, 0, rfl, rfl, Nat.zero_le _, rfl, Kept.refl _ _⟩ ?_
    rintro m vals wr ⟨i, rfl, rfl, hi, hall, hkr⟩
    dsimp only [List.zip, List.zipWith]
    have hsr := hs2.keep0 hkr
    have hbr1 := hkr.at0 hb12
    have hbr2 := hkr.at0 hb2'
    have hqr := hq2.keep0 hkr
    rcases Nat.lt_or_ge i R.length with hlt | hge
    · have hmem : R.getD i default ∈ R := getD_mem default hlt
      obtain ⟨L, hL, hsL, hmL⟩ := (hm _ hmem).keep0 (hK2.trans0 hkr)
      repeat' (first | (refine CL.seq ?_) | (refine CL.region ?_) | (refine CL.skip ?_) | (refine CL.condP rfl (fun _ => ?_) (fun _ => ?_) <;> try (exfalso; omega)) | (refine CL.block ?_) | (refine Gt.nil ?_; refine RW.nilw [0, 1, 2, 3, 4, 5, 6, 7, 8, 9, 11, 20, 34, 86] ?_; dsimp only [H.keep, H.look, H.Fr.put, Nat.beq]) | (refine Gt.load ?_; (refine RW.y (Y.loadB rfl (by assumption) rfl) rfl ?_)) | (refine Gt.fieldAddr ?_; refine RW.y (Y.fieldAddr rfl (by rfl)) rfl ?_) | (refine Gt.move ?_; refine RW.y (Y.move rfl) rfl ?_) | (refine Gt.len ?_; (refine RW.y (Y.lenx rfl (by assumption)) rfl ?_)) | (refine Gt.lss ?_; refine RW.y (Y.lss rfl rfl) rfl ?_))
      refine CL.draw (fun w' => K0 wr w') (by kernel_rfl) (fun w3 hheap hk3 => ?_)
      have hS : K0 wr w3 := hk3
      skip
      refine AW.take 0 rfl (by kernel_rfl) (by kernel_rfl) (by kernel_rfl) rfl (by assumption) (fun w hS => Y.fieldAddr rfl (by rfl)) ?_
      refine AW.take 1 rfl (by kernel_rfl) (by kernel_rfl) (by kernel_rfl) rfl (by assumption) (fun w hS => Y.loadB rfl (hS.at0 hbr2) rfl) ?_
      refine AW.take 2 rfl (by kernel_rfl) (by kernel_rfl) (by kernel_rfl) rfl (by assumption) (fun w hS => Y.lenx rfl (hqr.keep0 hS)) ?_
      refine AW.take 3 rfl (by kernel_rfl) (by kernel_rfl) (by kernel_rfl) rfl (by assumption) (fun w hS => Y.eqi rfl rfl) ?_
      refine AW.take 4 rfl (by kernel_rfl) (by kernel_rfl) (by kernel_rfl) rfl (by assumption) (fun w hS => Y.assign rfl) ?_
      refine AW.take 5 rfl (by kernel_rfl) (by kernel_rfl) (by kernel_rfl) rfl (by assumption) (fun w hS => Y.assign rfl) ?_
      refine AW.donew [2, 3, 5, 6, 7] (by kernel_rfl) ?_
      dsimp only [H.keep, H.look, H.Fr.put, Nat.beq]
      repeat' (first | (refine CL.seq ?_) | (refine CL.region ?_) | (refine CL.block ?_) | (refine Gt.nil ?_; refine RW.nilw [0, 1, 2, 3, 4, 5, 6, 7, 8, 9, 11, 20, 34, 86] ?_; dsimp only [H.keep, H.look, H.Fr.put, Nat.beq]) | (refine Gt.assign ?_; refine RW.y (Y.assign rfl) rfl ?_))
      have hs3 := hsr.keep0 hk3
      have hb31 := hk3.at0 hbr1
      have hb32 := hk3.at0 hbr2
      have hL3 := hsL.keep0 hk3
      have hfL := fs.2 _ (by rw [hso]; exact List.mem_map_of_mem hmem)
      have hLlen : L.length ≤ 1000000 := by have := hfL.1; rw [← hL, List.length_map] at this; exact this
      have hti : ((i : Int)).toNat = i := Int.toNat_natCast i
      refine CL.loopS [2, 3, 5, 6, 7, 8] (fun m vals wv => ∃ k : Nat, vals = [.pointer (some ⟨w.heap.size, 0, none⟩), .pointer (some ⟨w1.heap.size, 0, none⟩), .int .i64 (i : Int), .bool ((L.take k).all (fun y => holdsB y.1 x)), .bool (decide ((x.pre.length : Int) = 0) || (L.take k).any (fun y => nearB y.1 x)), .int .i64 (k : Int)] ∧ m = L.length - k ∧ k ≤ L.length ∧ K0 w3 wv) L.length ⟨_, rfl, 0, by simp, rfl, Nat.zero_le _, Kept.refl _ _⟩ ?_
      rintro m vals wv ⟨k, rfl, rfl, hk, hkv⟩
      dsimp only [List.zip, List.zipWith]
      have hsv := hs3.keep0 hkv
      have hv1 := hkv.at0 hb31
      have hv2 := hkv.at0 hb32
      have hLv := hL3.keep0 hkv
      rw [← hti] at hLv
      rcases Nat.lt_or_ge k L.length with hkl | hkg
      · have hkm : L.getD k default ∈ L := getD_mem default hkl
        have fyv : Fit (L.getD k default).1.v := hfL.2 _ (by rw [← hL]; exact List.mem_map_of_mem hkm)
        have hy := (hmL _ hkm).keep0 ((hk3).trans0 hkv)
        repeat' (first | (refine CL.seq ?_) | (refine CL.region ?_) | (refine CL.skip ?_) | (refine CL.condP rfl (fun _ => ?_) (fun _ => ?_) <;> try (exfalso; omega)) | (refine CL.block ?_) | (refine Gt.nil ?_; refine RW.nilw [0, 1, 2, 3, 4, 5, 6, 7, 8, 9, 11, 20, 34, 86] ?_; dsimp only [H.keep, H.look, H.Fr.put, Nat.beq]) | (refine Gt.load ?_; (refine RW.y (Y.loadB rfl (by assumption) rfl) rfl ?_)) | (refine Gt.fieldAddr ?_; refine RW.y (Y.fieldAddr rfl (by rfl)) rfl ?_) | (refine Gt.move ?_; refine RW.y (Y.move rfl) rfl ?_) | (refine Gt.len ?_; (refine RW.y (Y.lenx rfl (by assumption)) rfl ?_)) | (refine Gt.lss ?_; refine RW.y (Y.lss rfl rfl) rfl ?_) | (refine Gt.idx ?_; first | (refine RW.elemM rfl rfl rfl rfl (by assumption) (by omega) (by omega) ?_) | (refine RW.elemA rfl rfl rfl rfl (by assumption) (fun _ => by rfl) rfl (by omega) (by omega) (fun _ => ?_))))
        refine RW.varN (u := #[vs (L.getD k default).1.sign, .int .i64 (L.getD k default).1.v.a, .int .i64 (L.getD k default).1.v.b, .int .i64 (L.getD k default).1.v.c, (L.getD k default).2]) rfl rfl rfl (bdCells hy.one) rfl (fun w4 hb4 hk4 hlt4 => ?_)
        have hv24 := hk4.at0 hv2
        have hy4 := hy.keep0 hk4
        have hst6 : (L.take (k + 1)).all (fun y => holdsB y.1 x) = ((L.take k).all (fun y => holdsB y.1 x) && holdsB (L.getD k default).1 x) := by rw [take_snoc default L k hkl, List.all_append]; simp
        have hst7 : (L.take (k + 1)).any (fun y => nearB y.1 x) = ((L.take k).any (fun y => nearB y.1 x) || nearB (L.getD k default).1 x) := by rw [take_snoc default L k hkl, List.any_append]; simp
        generalize L.getD k default = y at *
        have hk34 := hk3.trans0 hkv
        have hyV : BdAt w4 (.agg #[vs y.1.sign, .int .i64 y.1.v.a, .int .i64 y.1.v.b, .int .i64 y.1.v.c, y.2]) y.1 := ⟨y.2, rfl, hy4⟩
        have hxV : VerAt w4 (.agg #[.int .i64 x.a, .int .i64 x.b, .int .i64 x.c, q]) x := ⟨q, rfl, hqr.keep0 ((hk34).trans0 hk4)⟩
        have hyl : decide (y.1.v.pre ≠ []) = decide (0 < (y.1.v.pre.length : Int)) := by
          refine decide_eq_decide.2 ⟨fun h => by have := List.length_pos_iff.2 h; omega, fun h => List.length_pos_iff.1 (by omega)⟩
        have hb7 : ∀ b6 b7 : Bool, b6 = ((L.take k).all (fun y => holdsB y.1 x) && holdsB y.1 x) → b7 = ((decide ((x.pre.length : Int) = 0) || (L.take k).any (fun y => nearB y.1 x)) || nearB y.1 x) → [Value.pointer (some ⟨w.heap.size, 0, none⟩), .pointer (some ⟨w1.heap.size, 0, none⟩), .int .i64 (i : Int), .bool b6, .bool b7, .int .i64 ((k : Int) + 1)] = [Value.pointer (some ⟨w.heap.size, 0, none⟩), .pointer (some ⟨w1.heap.size, 0, none⟩), .int .i64 (i : Int), .bool ((L.take (k + 1)).all (fun y => holdsB y.1 x)), .bool (decide ((x.pre.length : Int) = 0) || (L.take (k + 1)).any (fun y => nearB y.1 x)), .int .i64 ((k + 1 : Nat) : Int)] := by rintro _ _ rfl rfl; rw [hst6, hst7, Bool.or_assoc]; rfl
        cases h6 : (L.take k).all (fun y => holdsB y.1 x)
        · rw [h6, Bool.false_and] at hb7
          cases h7 : (decide ((x.pre.length : Int) = 0) || (L.take k).any (fun y => nearB y.1 x))
          · rw [h7, Bool.false_or] at hb7
            repeat' (first | (refine CL.seq ?_) | (refine CL.region ?_) | (refine CL.done ?_) | (refine Nm.block ?_) | (refine Nm.then ?_) | (refine Gt.nil ?_; refine RW.nilw [0, 1, 2, 3, 4, 5, 6, 7, 8, 9, 11, 20, 34, 86] ?_; dsimp only [H.keep, H.look, H.Fr.put, Nat.beq]) | (refine Gt.load ?_; (refine RW.y (Y.loadB rfl (by assumption) rfl) rfl ?_)) | (refine Gt.guard ?_; first | (refine RW.part rfl rfl rfl (fun _ => ?_) (fun _ => ?_) <;> try (exfalso; omega)) | (refine RW.on rfl rfl rfl ?_) | (refine RW.off1 rfl rfl rfl rfl rfl ?_)) | (refine Gt.fieldAddr ?_; refine RW.y (Y.fieldAddr rfl (by rfl)) rfl ?_) | (refine Gt.move ?_; refine RW.y (Y.move rfl) rfl ?_) | (refine Gt.assign ?_; refine RW.y (Y.assign rfl) rfl ?_) | (refine Gt.pick ?_; first | (refine RW.y (Y.pickT rfl rfl) rfl ?_) | (refine RW.y (Y.pickF rfl rfl) rfl ?_)) | (refine Gt.len ?_; (refine RW.y (Y.lenx rfl (by assumption)) rfl ?_)) | (refine Gt.eql ?_; refine RW.y (Y.eqi rfl rfl) rfl ?_) | (refine Gt.add ?_; refine RW.y (Y.add64 rfl rfl (by omega) (by omega)) rfl ?_) | (refine Gt.gtr ?_; refine RW.y (Y.gtr rfl rfl) rfl ?_))
            · rename_i g1 g2 g3
              refine ⟨L.length - (k + 1), _, rfl, rfl, rfl, by omega, k + 1, hb7 _ _ rfl ?_, rfl, by omega, hkv.trans0 hk4⟩
              rw [nearB, hyl, decide_eq_true g1, decide_eq_true g2, decide_eq_true g3]; rfl
            · rename_i g1 g2 g3
              refine ⟨L.length - (k + 1), _, rfl, rfl, rfl, by omega, k + 1, hb7 _ _ rfl ?_, rfl, by omega, hkv.trans0 hk4⟩
              rw [nearB, decide_eq_false g3]; simp
            · rename_i g1 g2
              refine ⟨L.length - (k + 1), _, rfl, rfl, rfl, by omega, k + 1, hb7 _ _ rfl ?_, rfl, by omega, hkv.trans0 hk4⟩
              rw [nearB, decide_eq_false g2]; simp
            · rename_i g1
              refine ⟨L.length - (k + 1), _, rfl, rfl, rfl, by omega, k + 1, hb7 _ _ rfl ?_, rfl, by omega, hkv.trans0 hk4⟩
              rw [nearB, hyl, decide_eq_false g1]; rfl
          · rw [h7, Bool.true_or] at hb7
            repeat' (first | (refine CL.seq ?_) | (refine CL.region ?_) | (refine CL.done ?_) | (refine Nm.block ?_) | (refine Nm.then ?_) | (refine Gt.nil ?_; refine RW.nilw [0, 1, 2, 3, 4, 5, 6, 7, 8, 9, 11, 20, 34, 86] ?_; dsimp only [H.keep, H.look, H.Fr.put, Nat.beq]) | (refine Gt.guard ?_; first | (refine RW.off1 rfl rfl rfl rfl rfl ?_) | (refine RW.offu rfl rfl rfl rfl ?_)) | (refine Gt.move ?_; refine RW.y (Y.move rfl) rfl ?_) | (refine Gt.assign ?_; refine RW.y (Y.assign rfl) rfl ?_) | (refine Gt.pick ?_; first | (refine RW.y (Y.pickT rfl rfl) rfl ?_) | (refine RW.y (Y.pickF rfl rfl) rfl ?_)) | (refine Gt.add ?_; refine RW.y (Y.add64 rfl rfl (by omega) (by omega)) rfl ?_))
            exact ⟨L.length - (k + 1), _, rfl, rfl, rfl, by omega, k + 1, hb7 _ _ rfl rfl, rfl, by omega, hkv.trans0 hk4⟩
        · rw [h6, Bool.true_and] at hb7
          cases h7 : (decide ((x.pre.length : Int) = 0) || (L.take k).any (fun y => nearB y.1 x))
          · rw [h7, Bool.false_or] at hb7
            repeat' (first | (refine CL.seq ?_) | (refine CL.region ?_) | (refine Gt.nil ?_; refine RW.nilw [0, 1, 2, 3, 4, 5, 6, 7, 8, 9, 11, 20, 34, 86] ?_; dsimp only [H.keep, H.look, H.Fr.put, Nat.beq]) | (refine Gt.load ?_; (refine RW.y (Y.loadBlock rfl (by assumption) rfl) rfl ?_)) | (refine Gt.guard ?_; (refine RW.on rfl rfl rfl ?_)) | (refine Gt.move ?_; refine RW.y (Y.move rfl) rfl ?_))
            refine RW.fn rfl rfl ((refHolds _ _ y.1 x w4 hyV hxV fyv fx).mono ?_)
            rintro e w5 ⟨hk5, rfl⟩
            have hv25 := hk5.at0 hv24
            have hb45 := hk5.at0 hb4
            have hy5 := hy4.keep0 hk5
            repeat' (first | (refine CL.region ?_) | (refine CL.done ?_) | (refine Nm.block ?_) | (refine Nm.then ?_) | (refine Gt.nil ?_; refine RW.nilw [0, 1, 2, 3, 4, 5, 6, 7, 8, 9, 11, 20, 34, 86] ?_; dsimp only [H.keep, H.look, H.Fr.put, Nat.beq]) | (refine Gt.load ?_; (refine RW.y (Y.loadB rfl (by assumption) rfl) rfl ?_)) | (refine Gt.guard ?_; first | (refine RW.part rfl rfl rfl (fun _ => ?_) (fun _ => ?_) <;> try (exfalso; omega)) | (refine RW.on rfl rfl rfl ?_) | (refine RW.off1 rfl rfl rfl rfl rfl ?_)) | (refine Gt.fieldAddr ?_; refine RW.y (Y.fieldAddr rfl (by rfl)) rfl ?_) | (refine Gt.move ?_; refine RW.y (Y.move rfl) rfl ?_) | (refine Gt.assign ?_; refine RW.y (Y.assign rfl) rfl ?_) | (refine Gt.pick ?_; first | (refine RW.y (Y.pickT rfl rfl) rfl ?_) | (refine RW.y (Y.pickF rfl rfl) rfl ?_)) | (refine Gt.len ?_; (refine RW.y (Y.lenx rfl (by assumption)) rfl ?_)) | (refine Gt.eql ?_; refine RW.y (Y.eqi rfl rfl) rfl ?_) | (refine Gt.add ?_; refine RW.y (Y.add64 rfl rfl (by omega) (by omega)) rfl ?_) | (refine Gt.gtr ?_; refine RW.y (Y.gtr rfl rfl) rfl ?_))
            · rename_i g1 g2 g3
              refine ⟨L.length - (k + 1), _, rfl, rfl, rfl, by omega, k + 1, hb7 _ _ rfl ?_, rfl, by omega, (hkv.trans0 hk4).trans0 hk5⟩
              rw [nearB, hyl, decide_eq_true g1, decide_eq_true g2, decide_eq_true g3]; rfl
            · rename_i g1 g2 g3
              refine ⟨L.length - (k + 1), _, rfl, rfl, rfl, by omega, k + 1, hb7 _ _ rfl ?_, rfl, by omega, (hkv.trans0 hk4).trans0 hk5⟩
              rw [nearB, decide_eq_false g3]; simp
            · rename_i g1 g2
              refine ⟨L.length - (k + 1), _, rfl, rfl, rfl, by omega, k + 1, hb7 _ _ rfl ?_, rfl, by omega, (hkv.trans0 hk4).trans0 hk5⟩
              rw [nearB, decide_eq_false g2]; simp
            · rename_i g1
              refine ⟨L.length - (k + 1), _, rfl, rfl, rfl, by omega, k + 1, hb7 _ _ rfl ?_, rfl, by omega, (hkv.trans0 hk4).trans0 hk5⟩
              rw [nearB, hyl, decide_eq_false g1]; rfl
          · rw [h7, Bool.true_or] at hb7
            repeat' (first | (refine CL.seq ?_) | (refine CL.region ?_) | (refine Gt.nil ?_; refine RW.nilw [0, 1, 2, 3, 4, 5, 6, 7, 8, 9, 11, 20, 34, 86] ?_; dsimp only [H.keep, H.look, H.Fr.put, Nat.beq]) | (refine Gt.load ?_; (refine RW.y (Y.loadBlock rfl (by assumption) rfl) rfl ?_)) | (refine Gt.guard ?_; (refine RW.on rfl rfl rfl ?_)) | (refine Gt.move ?_; refine RW.y (Y.move rfl) rfl ?_))
            refine RW.fn rfl rfl ((refHolds _ _ y.1 x w4 hyV hxV fyv fx).mono ?_)
            rintro e w5 ⟨hk5, rfl⟩
            repeat' (first | (refine CL.region ?_) | (refine CL.done ?_) | (refine Nm.block ?_) | (refine Nm.then ?_) | (refine Gt.nil ?_; refine RW.nilw [0, 1, 2, 3, 4, 5, 6, 7, 8, 9, 11, 20, 34, 86] ?_; dsimp only [H.keep, H.look, H.Fr.put, Nat.beq]) | (refine Gt.guard ?_; first | (refine RW.off1 rfl rfl rfl rfl rfl ?_) | (refine RW.offu rfl rfl rfl rfl ?_)) | (refine Gt.move ?_; refine RW.y (Y.move rfl) rfl ?_) | (refine Gt.assign ?_; refine RW.y (Y.assign rfl) rfl ?_) | (refine Gt.pick ?_; (refine RW.y (Y.pickT rfl rfl) rfl ?_)) | (refine Gt.add ?_; refine RW.y (Y.add64 rfl rfl (by omega) (by omega)) rfl ?_))
            exact ⟨L.length - (k + 1), _, rfl, rfl, rfl, by omega, k + 1, hb7 _ _ rfl rfl, rfl, by omega, (hkv.trans0 hk4).trans0 hk5⟩
      · have hk : k = L.length := by omega
        subst hk
        rw [List.take_length]
        have hh1 : hasL (R.getD i default).1 x = (L.all (fun y => holdsB y.1 x) && (decide ((x.pre.length : Int) = 0) || L.any (fun y => nearB y.1 x))) := by rw [hasL, ← hL, List.all_map, List.any_map, hpe]; rfl
        have hst : (R.take (i + 1)).any (fun y => hasL y.1 x) = ((R.take i).any (fun y => hasL y.1 x) || hasL (R.getD i default).1 x) := by rw [take_snoc default R i hlt, List.any_append]; simp
        rw [hall, Bool.false_or, hh1] at hst
        have hKv := ((hK2.trans0 hkr).trans0 hk3).trans0 hkv
        repeat' (first | (refine CL.seq ?_) | (refine CL.region ?_) | (refine CL.skip ?_) | (refine CL.condP rfl (fun _ => ?_) (fun _ => ?_) <;> try (exfalso; omega)) | (refine CL.condF rfl ?_) | (refine CL.cond rfl (fun _ => ?_) (fun _ => ?_)) | (refine CL.exit ?_) | (refine Ex.then ?_) | (refine Ex.hit ?_) | (refine CL.ret ?_) | (refine Rt.then ?_) | (refine Rt.block ?_) | (refine CL.done ?_) | (refine Nm.block ?_) | (refine Nm.then ?_) | (refine Gt.nil ?_; refine RW.nilw [0, 1, 2, 3, 4, 5, 6, 7, 8, 9, 11, 20, 34, 86] ?_; dsimp only [H.keep, H.look, H.Fr.put, Nat.beq]) | (refine Gt.load ?_; (refine RW.y (Y.loadB rfl (by assumption) rfl) rfl ?_)) | (refine Gt.guard ?_; first | (refine RW.on rfl rfl rfl ?_) | (refine RW.off1 rfl rfl rfl rfl rfl ?_) | (refine RW.partb rfl rfl rfl (fun _ => ?_) (fun _ => ?_))) | (refine Gt.fieldAddr ?_; refine RW.y (Y.fieldAddr rfl (by rfl)) rfl ?_) | (refine Gt.move ?_; refine RW.y (Y.move rfl) rfl ?_) | (refine Gt.assign ?_; refine RW.y (Y.assign rfl) rfl ?_) | (refine Gt.pick ?_; first | (refine RW.y (Y.pickT rfl rfl) rfl ?_) | (refine RW.y (Y.pickF rfl rfl) rfl ?_)) | (refine Gt.len ?_; (refine RW.y (Y.lenx rfl (by assumption)) rfl ?_)) | (refine Gt.lss ?_; refine RW.y (Y.lss rfl rfl) rfl ?_) | (refine Gt.idx ?_; (refine RW.elemM rfl rfl rfl rfl (by assumption) (by omega) (by omega) ?_)) | (refine Gt.add ?_; refine RW.y (Y.add64 rfl rfl (by omega) (by omega)) rfl ?_))
        · rename_i g1 g2
          refine FQ.one rfl rfl rfl ⟨hKv, hh _ ?_⟩
          rw [hasB, ha, hso, List.any_map]
          exact (List.any_eq_true.2 ⟨_, hmem, by rw [Function.comp, hh1, g1, g2]; rfl⟩).symm
        · rename_i g1 g2
          exact ⟨R.length - (i + 1), _, rfl, rfl, rfl, by omega, i + 1, rfl, rfl, by omega, by rw [hst, g1, g2]; rfl, (hkr.trans0 hk3).trans0 hkv⟩
        · rename_i g1
          exact ⟨R.length - (i + 1), _, rfl, rfl, rfl, by omega, i + 1, rfl, rfl, by omega, by rw [hst, g1]; rfl, (hkr.trans0 hk3).trans0 hkv⟩
    · have hi : i = R.length := by omega
      subst hi
      rw [List.take_length] at hall
      repeat' (first | (refine CL.seq ?_) | (refine CL.region ?_) | (refine CL.condP rfl (fun _ => ?_) (fun _ => ?_) <;> try (exfalso; omega)) | (refine CL.exit ?_) | (refine Ex.then ?_) | (refine Ex.hit ?_) | (refine CL.ret ?_) | (refine Gt.nil ?_; refine RW.nilw [0, 1, 2, 3, 4, 5, 6, 7, 8, 9, 11, 20, 34, 86] ?_; dsimp only [H.keep, H.look, H.Fr.put, Nat.beq]) | (refine Gt.load ?_; (refine RW.y (Y.loadB rfl (by assumption) rfl) rfl ?_)) | (refine Gt.fieldAddr ?_; refine RW.y (Y.fieldAddr rfl (by rfl)) rfl ?_) | (refine Gt.move ?_; refine RW.y (Y.move rfl) rfl ?_) | (refine Gt.assign ?_; refine RW.y (Y.assign rfl) rfl ?_) | (refine Gt.len ?_; (refine RW.y (Y.lenx rfl (by assumption)) rfl ?_)) | (refine Gt.lss ?_; refine RW.y (Y.lss rfl rfl) rfl ?_))
      refine FQ.one rfl rfl rfl ⟨hK2.trans0 hkr, hh _ ?_⟩
      rw [hasB, ha, hso, List.any_map]
      exact hall.symm
  · rw [ha] at hb12
    repeat' (first | (refine CL.seq ?_) | (refine CL.region ?_) | (refine CL.condT rfl ?_) | (refine CL.ret ?_) | (refine Gt.nil ?_; refine RW.nilw [0, 1, 2, 3, 4, 5, 6, 7, 8, 9, 11, 20, 34, 86] ?_; dsimp only [H.keep, H.look, H.Fr.put, Nat.beq]) | (refine Gt.load ?_; (refine RW.y (Y.loadB rfl (by assumption) rfl) rfl ?_)) | (refine Gt.fieldAddr ?_; refine RW.y (Y.fieldAddr rfl (by rfl)) rfl ?_) | (refine Gt.assign ?_; refine RW.y (Y.assign rfl) rfl ?_) | (refine Gt.len ?_; (refine RW.y (Y.lenx rfl (by assumption)) rfl ?_)) | (refine Gt.eql ?_; refine RW.y (Y.eqi rfl rfl) rfl ?_))
    refine FQ.one rfl rfl rfl ⟨hK2, hh _ ?_⟩
    rw [hasB, ha, if_pos rfl, hpe]
end Go.Proofs.YtjfdhafmbcppjaaGreatDoor.Sp

namespace Go.Proofs.YtjfdhafmbcppjaaGreatDoor.H
open Go.RowKit
section
variable {P : Program} {ops : Array Oper} {Q : Post} {f : Fr} {w : World} {S : World → Prop}
theorem AW.takeOffU (i : Nat) {op : Op} {ty : TypeId} {pos : String} {af : Array Edge} {d j t : Nat} {b : Bool} {n : Nat} {l : Array Bool} (hi : ops[i]? = some { dst := some d, op := op, type := ty, pos := pos, after := af, guard := some (j, b) }) (hs : Region.noSelect ops = true) (hf : Region.free .any ops l i = true) (hr : (Region.ready .any ops l).contains i = true)
    [PI Q] (hj : (ops[j]?).bind (·.dst) = some t) (hn : Nat.blt t f.n = true) (hv : look f.e t = some undef) (hd : Nat.blt d f.n = true) (hS : S w) (k : AW P ops Q S n (l.setIfInBounds i true) (f.put d undef) w) : AW P ops Q S (n + 1) l f w := by
  intro a ha
  exact wpAnyH_take hi hs hf hr (PI.lift _ _) (.inr ⟨by cases b <;> simp [Region.wanted, yieldsU ha hj hn hv], rfl⟩) hS (k _ (ha.put undef hd))
end
/-- The cells of an element of a row. -/
theorem elCells {α : Type} [Inhabited α] {w : World} {sz : Nat} {v : Value} {l : List α} {enc : α → List Value} (hs : Sl w sz v l.length (l.flatMap enc)) (he : ∀ x, (enc x).length = sz) {i : Nat} (hi : i < l.length) : ∀ (j : Nat) (u : Value), (enc (l.getD i default))[j]? = some u → w.cell? ((Value.spot v ((i : Int).toNat * sz)).add j) = some u := by
  intro j u hu
  obtain ⟨g, o, h2, h3⟩ := spot_ptr hs (by omega) (i * sz)
  have hj : j < sz := by have := (List.getElem?_eq_some_iff.1 hu).1; rw [he] at this; exact this
  rw [Int.toNat_natCast, h2, addr_add, ← h3 j]
  refine hs.cell ?_
  rw [cells_at he l i j (l.getD i default) (by simp [List.getD_eq_getElem?_getD, hi]) hj, hu]
theorem elPtr {w : World} {sz : Nat} {v : Value} {n : Nat} {xs : List Value} (hs : Sl w sz v n xs) (hn : 0 < n) (k : Nat) : ∃ g o, Value.spot v k = ⟨g, o, none⟩ := by
  obtain ⟨g, o, h2, _⟩ := spot_ptr hs hn k
  exact ⟨g, o, h2⟩
end Go.Proofs.YtjfdhafmbcppjaaGreatDoor.H

namespace Go.Proofs.YtjfdhafmbcppjaaGreatDoor.Sp
open Go.RowKit H S Ve
attribute [local irreducible] H.CL H.RW H.CW H.Yd H.thenK H.blockQ Go.Calls

/-- The cells of a version. -/
def verCl (x : Ver × Value) : List Value := [.int .i64 x.1.a, .int .i64 x.1.b, .int .i64 x.1.c, x.2]
/-- Versions in memory. -/
def VersAt (w : World) (v : Value) (l : List Ver) : Prop := ∃ L : List (Ver × Value), L.map (·.1) = l ∧ Sl w 4 v L.length (L.flatMap verCl) ∧ ∀ x ∈ L, Sl w 1 x.2 x.1.pre.length (sv x.1.pre)
theorem VersAt.keep0 {w w' : World} {v : Value} {l : List Ver} (h : VersAt w v l) (k : K0 w w') : VersAt w' v l := by
  obtain ⟨L, h1, h2, h3⟩ := h; exact ⟨L, h1, h2.keep0 k, fun x hx => (h3 x hx).keep0 k⟩
theorem verCl_len : ∀ x, (verCl x).length = 4 := fun _ => rfl
theorem bestF_bd (s : Spn) (l : List Ver) : ∀ i : Nat, -1 ≤ bestF s l i ∧ bestF s l i < i
  | 0 => by simp [bestF]
  | i + 1 => by
    have := bestF_bd s l i
    rw [bestF]
    split <;> omega
theorem getD_map (L : List (Ver × Value)) (i : Nat) (h : i < L.length) : (L.map (·.1)).getD i default = (L.getD i default).1 := by
  simp [List.getD_eq_getElem?_getD, h]
theorem VerAt.mk {w : World} {x : Ver × Value} (h : Sl w 1 x.2 x.1.pre.length (sv x.1.pre)) : VerAt w (.agg (verCl x).toArray) x.1 := ⟨x.2, rfl, h⟩

set_option maxHeartbeats 1000000 in
theorem best (X v : Value) (s : Spn) (l : List Ver) (w : World) (hX : SpanAt w X s) (hv : VersAt w v l) (fs : FitS s) (fl : l.length ≤ 1000000 ∧ ∀ x ∈ l, Fit x) : Calls Tryz.prog 20 #[X, v] w fun e w' => K0 w w' ∧ e = .returned (.tuple #[.int .i64 (max (bestF s l l.length) 0), .bool (decide (bestF s l l.length ≥ 0))]) := by
  obtain ⟨p, rfl, hp⟩ := hX
  obtain ⟨L, rfl, hs, hm⟩ := hv
  rw [List.length_map] at fl
  refine H.enter Tryz.func20 Tryz.ntmps20 rfl rfl ?_; dsimp only [H.args]
  repeat' (first | (refine CL.seq ?_) | (refine CL.region ?_))
  refine RW.box rfl rfl (fun w1 hb1 hk1 hlt1 => ?_)
  have hb1' : w1.heap[w.heap.size]? = some (.cells #[.bool s.any, p] spnT (0, 0)) := hb1
  have hs1 := hs.keep0 hk1
  repeat' (first | (refine CL.seq ?_) | (refine CL.region ?_) | (refine CL.block ?_) | (refine Gt.nil ?_; refine RW.nilw [0, 1, 2, 4, 5, 6, 7, 8, 9, 10, 11, 12, 31] ?_; dsimp only [H.keep, H.look, H.Fr.put, Nat.beq]) | (refine Gt.move ?_; refine RW.y (Y.move rfl) rfl ?_) | (refine Gt.assign ?_; refine RW.y (Y.assign rfl) rfl ?_) | (refine Gt.len ?_; (refine RW.y (Y.lenx rfl (by assumption)) rfl ?_)))
  refine CL.loopS [1, 2, 6, 9, 10, 11] (fun m vals wr => ∃ i : Nat, vals = [v, .pointer (some ⟨w.heap.size, 0, none⟩), .int .i64 (bestF s (L.map (·.1)) i), v, .int .i64 (L.length : Int), .int .i64 (i : Int)] ∧ m = L.length - i ∧ i ≤ L.length ∧ K0 w1 wr) L.length ⟨_, rfl, 0, rfl, rfl, Nat.zero_le _, Kept.refl _ _⟩ ?_
  rintro m vals wr ⟨i, rfl, rfl, hi, hkr⟩
  dsimp only [List.zip, List.zipWith]
  have hsr := hs1.keep0 hkr
  have hbr := hkr.at0 hb1'
  have hbd := bestF_bd s (L.map (·.1)) i
  rcases Nat.lt_or_ge i L.length with hlt | hge
  · have hmem : L.getD i default ∈ L := getD_mem default hlt
    have hx := (hm _ hmem).keep0 (hk1.trans0 hkr)
    have fx : Fit (L.getD i default).1 := fl.2 _ (List.mem_map_of_mem hmem)
    have hstep : bestF s (L.map (·.1)) (i + 1) = if (hasB s (L.getD i default).1 && (decide (bestF s (L.map (·.1)) i < 0) || decide (0 < cmpV (L.getD i default).1 ((L.map (·.1)).getD (bestF s (L.map (·.1)) i).toNat default)))) = true then (i : Int) else bestF s (L.map (·.1)) i := by rw [bestF, getD_map L i hlt]
    repeat' (first | (refine CL.seq ?_) | (refine CL.region ?_) | (refine CL.skip ?_) | (refine CL.condP rfl (fun _ => ?_) (fun _ => ?_) <;> try (exfalso; omega)) | (refine CL.block ?_) | (refine Gt.nil ?_; refine RW.nilw [0, 1, 2, 4, 5, 6, 7, 8, 9, 10, 11, 12, 31] ?_; dsimp only [H.keep, H.look, H.Fr.put, Nat.beq]) | (refine Gt.move ?_; refine RW.y (Y.move rfl) rfl ?_) | (refine Gt.lss ?_; refine RW.y (Y.lss rfl rfl) rfl ?_) | (refine Gt.idx ?_; (refine RW.elemA rfl rfl rfl rfl (by assumption) (fun _ => by rfl) rfl (by omega) (by omega) (fun _ => ?_))))
    refine RW.alloc rfl (fun w2 hb2 hk2 hlt2 => ?_)
    repeat' ((refine Gt.assign ?_; refine RW.y (Y.assign rfl) rfl ?_))
    rw [Int.toNat_natCast]
    refine RW.storeBlock rfl rfl rfl (verCells hx.one) hb2 rfl (fun w3 hb3 hk3 => ?_)
    have hk13 : K0 w1 w3 := (hkr.trans0 hk2).trans hk3 fun k h => .inr (by rw [show k = wr.heap.size from h]; exact hkr.size)
    have hs3 := hs1.keep0 hk13
    have hb13 := hk13.at0 hb1'
    have hx3 := (hm _ hmem).keep0 (hk1.trans0 hk13)
    have hX3 : ∀ {w'}, K0 w3 w' → SpanAt w' (.agg #[.bool s.any, p]) s := fun h => ⟨p, rfl, hp.keep0 ((hk1.trans0 hk13).trans0 h)⟩
    have hV3 : ∀ {w'}, K0 w3 w' → VerAt w' (.agg (verCl (L.getD i default)).toArray) (L.getD i default).1 := fun h => VerAt.mk (hx3.keep0 h)
    repeat' (first | (refine CL.seq ?_) | (refine Gt.nil ?_; refine RW.nilw [0, 1, 2, 4, 5, 6, 7, 8, 9, 10, 11, 12, 31] ?_; dsimp only [H.keep, H.look, H.Fr.put, Nat.beq]))
    refine CL.draw (fun w' => K0 w3 w') (by kernel_rfl) (fun w4 hheap hk4 => ?_)
    have hS : K0 w3 w4 := hk4
    skip
    refine AW.take 0 rfl (by kernel_rfl) (by kernel_rfl) (by kernel_rfl) rfl (by assumption) (fun w hS => Y.loadBlock rfl (hS.at0 hb13) rfl) ?_
    refine AW.take 1 rfl (by kernel_rfl) (by kernel_rfl) (by kernel_rfl) rfl (by assumption) (fun w hS => Y.loadBlock rfl (hS.at0 hb3) rfl) ?_
    refine AW.next 2 rfl (by kernel_rfl) ?_
    refine RW.fn rfl rfl ((has _ _ s _ w4 (hX3 hk4) (hV3 hk4) fs fx).mono ?_)
    rintro e w5 ⟨hk5, rfl⟩
    refine RW.nil (Nm.then (rebase0 hS hk5 fun hS => ?_))
    have hk15 := (hk13.trans0 hk4).trans0 hk5
    have hfin : ∀ (b : Bool) (w6 : World), K0 w5 w6 → b = (hasB s (L.getD i default).1 && (decide (bestF s (L.map (·.1)) i < 0) || decide (0 < cmpV (L.getD i default).1 ((L.map (·.1)).getD (bestF s (L.map (·.1)) i).toNat default)))) → bestF s (L.map (·.1)) (i + 1) = if b = true then (i : Int) else bestF s (L.map (·.1)) i := by
      intro b w6 _ hb; rw [hstep, ← hb]
    cases hh : hasB s (L.getD i default).1
    · rw [hh, Bool.false_and] at hfin
      skip
      refine AW.take 3 rfl (by kernel_rfl) (by kernel_rfl) (by kernel_rfl) rfl (by assumption) (fun w hS => Y.move rfl) ?_
      refine AW.takeOff 4 rfl (by kernel_rfl) (by kernel_rfl) (by kernel_rfl) rfl rfl rfl rfl rfl (by assumption) ?_
      refine AW.takeOff 5 rfl (by kernel_rfl) (by kernel_rfl) (by kernel_rfl) rfl rfl rfl rfl rfl (by assumption) ?_
      refine AW.takeOff 6 rfl (by kernel_rfl) (by kernel_rfl) (by kernel_rfl) rfl rfl rfl rfl rfl (by assumption) ?_
      refine AW.takeOffU 7 rfl (by kernel_rfl) (by kernel_rfl) (by kernel_rfl) rfl rfl rfl rfl (by assumption) ?_
      refine AW.takeOffU 8 rfl (by kernel_rfl) (by kernel_rfl) (by kernel_rfl) rfl rfl rfl rfl (by assumption) ?_
      refine AW.takeOffU 9 rfl (by kernel_rfl) (by kernel_rfl) (by kernel_rfl) rfl rfl rfl rfl (by assumption) ?_
      refine AW.takeOffU 10 rfl (by kernel_rfl) (by kernel_rfl) (by kernel_rfl) rfl rfl rfl rfl (by assumption) ?_
      refine AW.takeOffU 11 rfl (by kernel_rfl) (by kernel_rfl) (by kernel_rfl) rfl rfl rfl rfl (by assumption) ?_
      refine AW.takeOffU 12 rfl (by kernel_rfl) (by kernel_rfl) (by kernel_rfl) rfl rfl rfl rfl (by assumption) ?_
      refine AW.takeOffU 13 rfl (by kernel_rfl) (by kernel_rfl) (by kernel_rfl) rfl rfl rfl rfl (by assumption) ?_
      refine AW.takeOff 14 rfl (by kernel_rfl) (by kernel_rfl) (by kernel_rfl) rfl rfl rfl rfl rfl (by assumption) ?_
      refine AW.take 15 rfl (by kernel_rfl) (by kernel_rfl) (by kernel_rfl) rfl (by assumption) (fun w hS => by exact Y.pickF rfl rfl) ?_
      refine AW.donew [1, 2, 6, 7, 9, 10, 11, 31] (by kernel_rfl) ?_
      dsimp only [H.keep, H.look, H.Fr.put, Nat.beq]
      repeat' (first | (refine CL.region ?_) | (refine CL.skip ?_) | (refine CL.condF rfl ?_) | (refine CL.done ?_) | (refine Nm.block ?_) | (refine Nm.then ?_) | (refine Gt.nil ?_; refine RW.nilw [0, 1, 2, 4, 5, 6, 7, 8, 9, 10, 11, 12, 31] ?_; dsimp only [H.keep, H.look, H.Fr.put, Nat.beq]) | (refine Gt.move ?_; refine RW.y (Y.move rfl) rfl ?_) | (refine Gt.add ?_; refine RW.y (Y.add64 rfl rfl (by omega) (by omega)) rfl ?_))
      exact ⟨L.length - (i + 1), _, rfl, rfl, rfl, by omega, i + 1, by rw [hfin _ _ (Kept.refl _ _) rfl]; rfl, rfl, by omega, hk15⟩
    · rw [hh, Bool.true_and] at hfin
      skip
      refine AW.take 3 rfl (by kernel_rfl) (by kernel_rfl) (by kernel_rfl) rfl (by assumption) (fun w hS => Y.move rfl) ?_
      refine AW.takeOn 4 rfl (by kernel_rfl) (by kernel_rfl) (by kernel_rfl) rfl rfl rfl rfl (by assumption) (fun w hS => Y.move rfl) ?_
      refine AW.takeOn 5 rfl (by kernel_rfl) (by kernel_rfl) (by kernel_rfl) rfl rfl rfl rfl (by assumption) (fun w hS => Y.lss rfl rfl) ?_
      refine AW.takeOn 6 rfl (by kernel_rfl) (by kernel_rfl) (by kernel_rfl) rfl rfl rfl rfl (by assumption) (fun w hS => Y.move rfl) ?_
      refine AW.split (t := 22) rfl (fun hn => ?_) (fun hn => ?_)
      · rw [hn, Bool.true_or] at hfin
        skip
        refine AW.takeOff 7 rfl (by kernel_rfl) (by kernel_rfl) (by kernel_rfl) rfl rfl rfl rfl rfl (by assumption) ?_
        refine AW.takeOff 8 rfl (by kernel_rfl) (by kernel_rfl) (by kernel_rfl) rfl rfl rfl rfl rfl (by assumption) ?_
        refine AW.takeOff 9 rfl (by kernel_rfl) (by kernel_rfl) (by kernel_rfl) rfl rfl rfl rfl rfl (by assumption) ?_
        refine AW.takeOff 10 rfl (by kernel_rfl) (by kernel_rfl) (by kernel_rfl) rfl rfl rfl rfl rfl (by assumption) ?_
        refine AW.takeOff 11 rfl (by kernel_rfl) (by kernel_rfl) (by kernel_rfl) rfl rfl rfl rfl rfl (by assumption) ?_
        refine AW.takeOff 12 rfl (by kernel_rfl) (by kernel_rfl) (by kernel_rfl) rfl rfl rfl rfl rfl (by assumption) ?_
        refine AW.takeOff 13 rfl (by kernel_rfl) (by kernel_rfl) (by kernel_rfl) rfl rfl rfl rfl rfl (by assumption) ?_
        refine AW.takeOn 14 rfl (by kernel_rfl) (by kernel_rfl) (by kernel_rfl) rfl rfl rfl rfl (by assumption) (fun w hS => by exact Y.pickT rfl rfl) ?_
        refine AW.take 15 rfl (by kernel_rfl) (by kernel_rfl) (by kernel_rfl) rfl (by assumption) (fun w hS => by exact Y.pickT rfl rfl) ?_
        refine AW.donew [1, 2, 6, 7, 9, 10, 11, 31] (by kernel_rfl) ?_
        dsimp only [H.keep, H.look, H.Fr.put, Nat.beq]
        repeat' (first | (refine CL.region ?_) | (refine CL.condT rfl ?_) | (refine CL.done ?_) | (refine Nm.block ?_) | (refine Nm.then ?_) | (refine Gt.nil ?_; refine RW.nilw [0, 1, 2, 4, 5, 6, 7, 8, 9, 10, 11, 12, 31] ?_; dsimp only [H.keep, H.look, H.Fr.put, Nat.beq]) | (refine Gt.move ?_; refine RW.y (Y.move rfl) rfl ?_) | (refine Gt.assign ?_; refine RW.y (Y.assign rfl) rfl ?_) | (refine Gt.add ?_; refine RW.y (Y.add64 rfl rfl (by omega) (by omega)) rfl ?_))
        exact ⟨L.length - (i + 1), _, rfl, rfl, rfl, by omega, i + 1, by rw [hfin _ _ (Kept.refl _ _) rfl]; rfl, rfl, by omega, hk15⟩
      · rw [hn, Bool.false_or] at hfin
        have hn' := of_decide_eq_false hn
        obtain ⟨c, hc⟩ : ∃ c : Nat, bestF s (L.map (·.1)) i = (c : Int) := ⟨(bestF s (L.map (·.1)) i).toNat, by omega⟩
        rw [hc] at hfin hbd ⊢
        have hcl : c < L.length := by omega
        rw [Int.toNat_natCast, getD_map L c hcl] at hfin
        have hs5 := hs3.keep0 (hk4.trans0 hk5)
        have hmc : L.getD c default ∈ L := getD_mem default hcl
        have hcell : ∀ {w' : World}, K0 w5 w' → ∀ (j : Nat) (u : Value), (verCl (L.getD c default))[j]? = some u → w'.cell? ((Value.spot v ((c : Int).toNat * 4)).add j) = some u := fun h => elCells (hs5.keep0 h) verCl_len hcl
        have hb35 := hk5.at0 (hk4.at0 hb3)
        skip
        refine AW.takeOn 7 rfl (by kernel_rfl) (by kernel_rfl) (by kernel_rfl) rfl rfl rfl rfl (by assumption) (fun w hS => Y.loadBlock rfl (hS.at0 hb35) rfl) ?_
        refine AW.takeOn 8 rfl (by kernel_rfl) (by kernel_rfl) (by kernel_rfl) rfl rfl rfl rfl (by assumption) (fun w hS => Y.move rfl) ?_
        refine AW.takeOn 9 rfl (by kernel_rfl) (by kernel_rfl) (by kernel_rfl) rfl rfl rfl rfl (by assumption) (fun w hS => Y.move rfl) ?_
        refine AW.takeOn 10 rfl (by kernel_rfl) (by kernel_rfl) (by kernel_rfl) rfl rfl rfl rfl (by assumption) (fun w hS => Y.idx rfl rfl (hs5.keep0 hS) (by omega) (by omega)) ?_
        refine AW.takeOn 11 rfl (by kernel_rfl) (by kernel_rfl) (by kernel_rfl) rfl rfl rfl rfl (by assumption) (fun w hS => Y.loadN (cs := verCl (L.getD c default)) rfl rfl (hcell hS)) ?_
        refine AW.next 12 rfl (by kernel_rfl) ?_
        refine RW.on rfl rfl rfl ?_
        refine RW.fn rfl rfl ((cmpW _ _ _ _ w5 (hV3 (hk4.trans0 hk5)) (VerAt.mk ((hm _ hmc).keep0 (hk1.trans0 hk15))) fx (fl.2 _ (List.mem_map_of_mem hmc))).mono ?_)
        rintro e w6 ⟨hk6, rfl⟩
        refine RW.nil (Nm.then (rebase0 hS hk6 fun hS => ?_))
        refine AW.takeOn 13 rfl (by kernel_rfl) (by kernel_rfl) (by kernel_rfl) rfl rfl rfl rfl (by assumption) (fun w hS => Y.gtr rfl rfl) ?_
        refine AW.takeOn 14 rfl (by kernel_rfl) (by kernel_rfl) (by kernel_rfl) rfl rfl rfl rfl (by assumption) (fun w hS => by exact Y.pickF rfl rfl) ?_
        refine AW.take 15 rfl (by kernel_rfl) (by kernel_rfl) (by kernel_rfl) rfl (by assumption) (fun w hS => by exact Y.pickT rfl rfl) ?_
        refine AW.donew [1, 2, 6, 7, 9, 10, 11, 31] (by kernel_rfl) ?_
        dsimp only [H.keep, H.look, H.Fr.put, Nat.beq]
        repeat' (first | (refine CL.region ?_) | (refine CL.skip ?_) | (refine CL.condP rfl (fun _ => ?_) (fun _ => ?_) <;> try (exfalso; omega)) | (refine CL.done ?_) | (refine Nm.block ?_) | (refine Nm.then ?_) | (refine Gt.nil ?_; refine RW.nilw [0, 1, 2, 4, 5, 6, 7, 8, 9, 10, 11, 12, 31] ?_; dsimp only [H.keep, H.look, H.Fr.put, Nat.beq]) | (refine Gt.move ?_; refine RW.y (Y.move rfl) rfl ?_) | (refine Gt.assign ?_; refine RW.y (Y.assign rfl) rfl ?_) | (refine Gt.add ?_; refine RW.y (Y.add64 rfl rfl (by omega) (by omega)) rfl ?_))
        · rename_i g1
          exact ⟨L.length - (i + 1), _, rfl, rfl, rfl, by omega, i + 1, by rw [hfin true _ hk6 (decide_eq_true g1).symm]; rfl, rfl, by omega, hk15.trans0 hk6⟩
        · rename_i g1
          exact ⟨L.length - (i + 1), _, rfl, rfl, rfl, by omega, i + 1, by rw [hfin false _ hk6 (decide_eq_false g1).symm]; rfl, rfl, by omega, hk15.trans0 hk6⟩
  · have hi : i = L.length := by omega
    subst hi
    rw [List.length_map]
    repeat' (first | (refine CL.seq ?_) | (refine CL.region ?_) | (refine CL.condP rfl (fun _ => ?_) (fun _ => ?_) <;> try (exfalso; omega)) | (refine CL.exit ?_) | (refine Ex.then ?_) | (refine Ex.hit ?_) | (refine CL.ret ?_) | (refine Gt.nil ?_; refine RW.nilw [0, 1, 2, 4, 5, 6, 7, 8, 9, 10, 11, 12, 31] ?_; dsimp only [H.keep, H.look, H.Fr.put, Nat.beq]) | (refine Gt.move ?_; refine RW.y (Y.move rfl) rfl ?_) | (refine Gt.assign ?_; refine RW.y (Y.assign rfl) rfl ?_) | (refine Gt.lss ?_; refine RW.y (Y.lss rfl rfl) rfl ?_) | (refine Gt.call ?_; refine RW.y (Y.max2 rfl rfl) rfl ?_) | (refine Gt.geq ?_; refine RW.y (Y.geq rfl rfl) rfl ?_))
    exact FQ.two rfl rfl rfl rfl ⟨hk1.trans0 hkr, rfl⟩
end Go.Proofs.YtjfdhafmbcppjaaGreatDoor.Sp

