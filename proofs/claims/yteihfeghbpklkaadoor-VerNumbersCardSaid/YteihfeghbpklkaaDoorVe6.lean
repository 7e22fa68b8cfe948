/-
  Versions, walked: Cmp, the program's.
-/
import Derived.Test.YteihfeghbpklkaaDoorVe5
namespace Go.Proofs.YteihfeghbpklkaaDoor.Ve
open Go.RowKit H S
attribute [local irreducible] H.CL H.RW H.CW H.Yd H.thenK H.blockQ Go.Calls

/-- A version whose marks are short enough for a machine. -/
def Fit (v : Ver) : Prop := v.pre.length ≤ 1000000 ∧ ∀ s ∈ v.pre, s.length ≤ 1000000
theorem cmpI_bd (a b : Int) : -1 ≤ cmpI a b ∧ cmpI a b ≤ 1 := by unfold cmpI; split <;> (try split) <;> omega

theorem cmp0 (l : List T) : cmpI l.length 0 = if l = [] then 0 else 1 := by
  cases l with
  | nil => rfl
  | cons a r => rw [if_neg (by simp), cmpI, if_neg (by omega), if_pos (by simp)]

set_option maxHeartbeats 1000000 in
theorem cmpW (X Y : Value) (x y : Ver) (w : World) (hX : VerAt w X x) (hY : VerAt w Y y) (fx : Fit x) (fy : Fit y) : Calls Tryd.prog 16 #[X, Y] w fun e w' => K0 w w' ∧ e = .returned (.int .i64 (cmpV x y)) := by
  obtain ⟨p, rfl, hp⟩ := hX
  obtain ⟨q, rfl, hq⟩ := hY
  refine H.enter Tryd.func16 Tryd.ntmps16 rfl rfl ?_; dsimp only [H.args]
  repeat' (first | (refine CL.seq ?_) | (refine CL.region ?_) | (refine CL.skip ?_) | (refine CL.condP rfl (fun _ => ?_) (fun _ => ?_) <;> try (exfalso; omega)) | (refine CL.condT rfl ?_) | (refine CL.condF rfl ?_) | (refine CL.cond rfl (fun _ => ?_) (fun _ => ?_)) | (refine CL.block ?_) | (refine CL.exit ?_) | (refine Ex.then ?_) | (refine Ex.hit ?_) | (refine Ex.miss rfl ?_) | (refine CL.ret ?_) | (refine Rt.then ?_) | (refine Rt.block ?_) | (refine Pn.then ?_) | (refine Pn.block ?_) | (refine CL.done ?_) | (refine Nm.block ?_) | (refine Nm.then ?_) | (refine Gt.nil ?_; refine RW.nilw [0, 1, 2, 3, 4, 5, 23, 27] ?_; dsimp only [H.keep, H.look, H.Fr.put, Nat.beq]) | (refine Gt.fieldAddr ?_; refine RW.y (Y.fieldAddr rfl (by rfl)) rfl ?_) | (refine Gt.guard ?_; first | (refine RW.part rfl rfl rfl (fun _ => ?_) (fun _ => ?_) <;> try (exfalso; omega)) | (refine RW.on rfl rfl rfl ?_) | (refine RW.off1 rfl rfl rfl rfl rfl ?_) | (refine RW.off rfl rfl rfl rfl rfl ?_) | (refine RW.offu rfl rfl rfl rfl ?_) | (refine RW.partb rfl rfl rfl (fun _ => ?_) (fun _ => ?_))) | (refine Gt.load ?_; refine RW.y (Y.loadB rfl (by assumption) rfl) rfl ?_) | (refine Gt.assign ?_; refine RW.y (Y.assign rfl) rfl ?_) | (refine Gt.len ?_; first | (refine RW.y (Y.lenv rfl) rfl ?_) | (refine RW.y (Y.lenx rfl (by assumption)) rfl ?_)) | (refine Gt.move ?_; refine RW.y (Y.move rfl) rfl ?_) | (refine Gt.eql ?_; refine RW.y (Y.eqi rfl rfl) rfl ?_) | (refine Gt.neq ?_; refine RW.y (Y.nei rfl rfl) rfl ?_) | (refine Gt.pick ?_; first | (refine RW.y (Y.pickT rfl rfl) rfl ?_) | (refine RW.y (Y.pickF rfl rfl) rfl ?_)) | (refine Gt.sub ?_; refine RW.y (Y.sub64 rfl rfl (by omega) (by omega)) rfl ?_))
  refine RW.box rfl rfl (fun w1 hb1 hk1 hlt1 => ?_)
  repeat' (first | (refine CL.seq ?_) | (refine CL.region ?_) | (refine CL.skip ?_) | (refine CL.condP rfl (fun _ => ?_) (fun _ => ?_) <;> try (exfalso; omega)) | (refine CL.condT rfl ?_) | (refine CL.condF rfl ?_) | (refine CL.cond rfl (fun _ => ?_) (fun _ => ?_)) | (refine CL.block ?_) | (refine CL.exit ?_) | (refine Ex.then ?_) | (refine Ex.hit ?_) | (refine Ex.miss rfl ?_) | (refine CL.ret ?_) | (refine Rt.then ?_) | (refine Rt.block ?_) | (refine Pn.then ?_) | (refine Pn.block ?_) | (refine CL.done ?_) | (refine Nm.block ?_) | (refine Nm.then ?_) | (refine Gt.nil ?_; refine RW.nilw [0, 1, 2, 3, 4, 5, 23, 27] ?_; dsimp only [H.keep, H.look, H.Fr.put, Nat.beq]) | (refine Gt.fieldAddr ?_; refine RW.y (Y.fieldAddr rfl (by rfl)) rfl ?_) | (refine Gt.guard ?_; first | (refine RW.part rfl rfl rfl (fun _ => ?_) (fun _ => ?_) <;> try (exfalso; omega)) | (refine RW.on rfl rfl rfl ?_) | (refine RW.off1 rfl rfl rfl rfl rfl ?_) | (refine RW.off rfl rfl rfl rfl rfl ?_) | (refine RW.offu rfl rfl rfl rfl ?_) | (refine RW.partb rfl rfl rfl (fun _ => ?_) (fun _ => ?_))) | (refine Gt.load ?_; refine RW.y (Y.loadB rfl (by assumption) rfl) rfl ?_) | (refine Gt.assign ?_; refine RW.y (Y.assign rfl) rfl ?_) | (refine Gt.len ?_; first | (refine RW.y (Y.lenv rfl) rfl ?_) | (refine RW.y (Y.lenx rfl (by assumption)) rfl ?_)) | (refine Gt.move ?_; refine RW.y (Y.move rfl) rfl ?_) | (refine Gt.eql ?_; refine RW.y (Y.eqi rfl rfl) rfl ?_) | (refine Gt.neq ?_; refine RW.y (Y.nei rfl rfl) rfl ?_) | (refine Gt.pick ?_; first | (refine RW.y (Y.pickT rfl rfl) rfl ?_) | (refine RW.y (Y.pickF rfl rfl) rfl ?_)) | (refine Gt.sub ?_; refine RW.y (Y.sub64 rfl rfl (by omega) (by omega)) rfl ?_))
  refine RW.box rfl rfl (fun w2 hb2 hk2 hlt2 => ?_)
  have hX2 : w2.heap[w.heap.size]? = some (.cells #[.int .i64 x.a, .int .i64 x.b, .int .i64 x.c, p] verT (0, 0)) := hk2.at0 hb1
  have hY2 : w2.heap[w1.heap.size]? = some (.cells #[.int .i64 y.a, .int .i64 y.b, .int .i64 y.c, q] verT (0, 0)) := hb2
  have hK2 : K0 w w2 := hk1.trans0 hk2
  repeat' (first | (refine CL.seq ?_) | (refine CL.region ?_) | (refine CL.skip ?_) | (refine CL.condP rfl (fun _ => ?_) (fun _ => ?_) <;> try (exfalso; omega)) | (refine CL.condT rfl ?_) | (refine CL.condF rfl ?_) | (refine CL.cond rfl (fun _ => ?_) (fun _ => ?_)) | (refine CL.block ?_) | (refine CL.exit ?_) | (refine Ex.then ?_) | (refine Ex.hit ?_) | (refine Ex.miss rfl ?_) | (refine CL.ret ?_) | (refine Rt.then ?_) | (refine Rt.block ?_) | (refine Pn.then ?_) | (refine Pn.block ?_) | (refine CL.done ?_) | (refine Nm.block ?_) | (refine Nm.then ?_) | (refine Gt.nil ?_; refine RW.nilw [0, 1, 2, 3, 4, 5, 23, 27] ?_; dsimp only [H.keep, H.look, H.Fr.put, Nat.beq]) | (refine Gt.fieldAddr ?_; refine RW.y (Y.fieldAddr rfl (by rfl)) rfl ?_) | (refine Gt.guard ?_; first | (refine RW.part rfl rfl rfl (fun _ => ?_) (fun _ => ?_) <;> try (exfalso; omega)) | (refine RW.on rfl rfl rfl ?_) | (refine RW.off1 rfl rfl rfl rfl rfl ?_) | (refine RW.off rfl rfl rfl rfl rfl ?_) | (refine RW.offu rfl rfl rfl rfl ?_) | (refine RW.partb rfl rfl rfl (fun _ => ?_) (fun _ => ?_))) | (refine Gt.load ?_; refine RW.y (Y.loadB rfl (by assumption) rfl) rfl ?_) | (refine Gt.assign ?_; refine RW.y (Y.assign rfl) rfl ?_) | (refine Gt.len ?_; first | (refine RW.y (Y.lenv rfl) rfl ?_) | (refine RW.y (Y.lenx rfl (by assumption)) rfl ?_)) | (refine Gt.move ?_; refine RW.y (Y.move rfl) rfl ?_) | (refine Gt.eql ?_; refine RW.y (Y.eqi rfl rfl) rfl ?_) | (refine Gt.neq ?_; refine RW.y (Y.nei rfl rfl) rfl ?_) | (refine Gt.pick ?_; first | (refine RW.y (Y.pickT rfl rfl) rfl ?_) | (refine RW.y (Y.pickF rfl rfl) rfl ?_)) | (refine Gt.sub ?_; refine RW.y (Y.sub64 rfl rfl (by omega) (by omega)) rfl ?_))
  refine CL.draw (fun w' => K0 w2 w') (by kernel_rfl) (fun w3 hheap hk3 => ?_)
  have hS : K0 w2 w3 := hk3
  skip
  refine AW.take 0 rfl (by kernel_rfl) (by kernel_rfl) (by kernel_rfl) rfl (by assumption) (fun w hS => Y.fieldAddr rfl (by rfl)) ?_
  refine AW.take 1 rfl (by kernel_rfl) (by kernel_rfl) (by kernel_rfl) rfl (by assumption) (fun w hS => Y.loadB rfl (hS.at0 hX2) rfl) ?_
  refine AW.take 2 rfl (by kernel_rfl) (by kernel_rfl) (by kernel_rfl) rfl (by assumption) (fun w hS => Y.fieldAddr rfl (by rfl)) ?_
  refine AW.take 3 rfl (by kernel_rfl) (by kernel_rfl) (by kernel_rfl) rfl (by assumption) (fun w hS => Y.loadB rfl (hS.at0 hY2) rfl) ?_
  refine AW.take 5 rfl (by kernel_rfl) (by kernel_rfl) (by kernel_rfl) rfl (by assumption) (fun w hS => Y.fieldAddr rfl (by rfl)) ?_
  refine AW.take 6 rfl (by kernel_rfl) (by kernel_rfl) (by kernel_rfl) rfl (by assumption) (fun w hS => Y.loadB rfl (hS.at0 hX2) rfl) ?_
  refine AW.take 7 rfl (by kernel_rfl) (by kernel_rfl) (by kernel_rfl) rfl (by assumption) (fun w hS => Y.fieldAddr rfl (by rfl)) ?_
  refine AW.take 8 rfl (by kernel_rfl) (by kernel_rfl) (by kernel_rfl) rfl (by assumption) (fun w hS => Y.loadB rfl (hS.at0 hY2) rfl) ?_
  refine AW.take 10 rfl (by kernel_rfl) (by kernel_rfl) (by kernel_rfl) rfl (by assumption) (fun w hS => Y.fieldAddr rfl (by rfl)) ?_
  refine AW.take 11 rfl (by kernel_rfl) (by kernel_rfl) (by kernel_rfl) rfl (by assumption) (fun w hS => Y.loadB rfl (hS.at0 hX2) rfl) ?_
  refine AW.take 12 rfl (by kernel_rfl) (by kernel_rfl) (by kernel_rfl) rfl (by assumption) (fun w hS => Y.fieldAddr rfl (by rfl)) ?_
  refine AW.take 13 rfl (by kernel_rfl) (by kernel_rfl) (by kernel_rfl) rfl (by assumption) (fun w hS => Y.loadB rfl (hS.at0 hY2) rfl) ?_
  refine AW.next 4 rfl (by kernel_rfl) ?_
  refine RW.fn rfl rfl ((compareI x.a y.a w3).mono ?_)
  rintro e w' ⟨rfl, rfl⟩
  refine RW.nil (Nm.then ⟨hS, ?_⟩)
  refine AW.next 9 rfl (by kernel_rfl) ?_
  refine RW.fn rfl rfl ((compareI x.b y.b w3).mono ?_)
  rintro e w' ⟨rfl, rfl⟩
  refine RW.nil (Nm.then ⟨hS, ?_⟩)
  refine AW.next 14 rfl (by kernel_rfl) ?_
  refine RW.fn rfl rfl ((compareI x.c y.c w3).mono ?_)
  rintro e w' ⟨rfl, rfl⟩
  refine RW.nil (Nm.then ⟨hS, ?_⟩)
  refine AW.next 15 rfl (by kernel_rfl) ?_
  refine RW.buildL (ps := [(0, _), (1, _), (2, _)]) (l := [cmpI x.a y.a, cmpI x.b y.b, cmpI x.c y.c].map (Value.int .i64)) rfl rfl rfl int_cells rfl rfl (fun w4 hb4 hk4 hlt4 => ?_)
  have hK4 : K0 w w4 := (hK2.trans0 hk3).trans0 hk4
  have hX4 := hk4.at0 (hS.at0 hX2)
  have hY4 := hk4.at0 (hS.at0 hY2)
  refine RW.nil (Nm.then (rebase0 hS hk4 fun hS => ?_))
  refine AW.next 16 rfl (by kernel_rfl) ?_
  refine RW.fn rfl rfl ((orInt _ [cmpI x.a y.a, cmpI x.b y.b, cmpI x.c y.c] w4 (show (3 : Nat) ≤ 1000 from by decide) (sl_new hb4 rfl (show (3 : Nat) ≤ 1000000 from by decide))).mono ?_)
  rintro e w' ⟨rfl, rfl⟩
  refine RW.nil (Nm.then ⟨hS, ?_⟩)
  refine AW.take 17 rfl (by kernel_rfl) (by kernel_rfl) (by kernel_rfl) rfl (by assumption) (fun w hS => Y.assign rfl) ?_
  refine AW.donew [2, 3, 4, 5] (by kernel_rfl) ?_
  dsimp only [H.keep, H.look, H.Fr.put, Nat.beq]
  have hp4 := hp.keep0 hK4
  have hq4 := hq.keep0 hK4
  have hor : cmpV x y = if orI [cmpI x.a y.a, cmpI x.b y.b, cmpI x.c y.c] ≠ 0 then orI [cmpI x.a y.a, cmpI x.b y.b, cmpI x.c y.c] else cmpP x.pre y.pre := by
    simp only [cmpV, orI]
    by_cases h1 : cmpI x.a y.a = 0 <;> by_cases h2 : cmpI x.b y.b = 0 <;> by_cases h3 : cmpI x.c y.c = 0 <;> simp [h1, h2, h3]
  have c1 := cmpI_bd x.pre.length 0
  have c2 := cmpI_bd y.pre.length 0
  generalize orI [cmpI x.a y.a, cmpI x.b y.b, cmpI x.c y.c] = o at *
  repeat' (first | (refine CL.seq ?_) | (refine CL.region ?_) | (refine CL.skip ?_) | (refine CL.condP rfl (fun _ => ?_) (fun _ => ?_) <;> try (exfalso; omega)) | (refine CL.condT rfl ?_) | (refine CL.condF rfl ?_) | (refine CL.cond rfl (fun _ => ?_) (fun _ => ?_)) | (refine CL.block ?_) | (refine CL.exit ?_) | (refine Ex.then ?_) | (refine Ex.hit ?_) | (refine Ex.miss rfl ?_) | (refine CL.ret ?_) | (refine Rt.then ?_) | (refine Rt.block ?_) | (refine Pn.then ?_) | (refine Pn.block ?_) | (refine CL.done ?_) | (refine Nm.block ?_) | (refine Nm.then ?_) | (refine Gt.nil ?_; refine RW.nilw [0, 1, 2, 3, 4, 5, 23, 27] ?_; dsimp only [H.keep, H.look, H.Fr.put, Nat.beq]) | (refine Gt.fieldAddr ?_; refine RW.y (Y.fieldAddr rfl (by rfl)) rfl ?_) | (refine Gt.guard ?_; first | (refine RW.part rfl rfl rfl (fun _ => ?_) (fun _ => ?_) <;> try (exfalso; omega)) | (refine RW.on rfl rfl rfl ?_) | (refine RW.off1 rfl rfl rfl rfl rfl ?_) | (refine RW.off rfl rfl rfl rfl rfl ?_) | (refine RW.offu rfl rfl rfl rfl ?_) | (refine RW.partb rfl rfl rfl (fun _ => ?_) (fun _ => ?_))) | (refine Gt.load ?_; refine RW.y (Y.loadB rfl (by assumption) rfl) rfl ?_) | (refine Gt.assign ?_; refine RW.y (Y.assign rfl) rfl ?_) | (refine Gt.len ?_; first | (refine RW.y (Y.lenv rfl) rfl ?_) | (refine RW.y (Y.lenx rfl (by assumption)) rfl ?_)) | (refine Gt.move ?_; refine RW.y (Y.move rfl) rfl ?_) | (refine Gt.eql ?_; refine RW.y (Y.eqi rfl rfl) rfl ?_) | (refine Gt.neq ?_; refine RW.y (Y.nei rfl rfl) rfl ?_) | (refine Gt.pick ?_; first | (refine RW.y (Y.pickT rfl rfl) rfl ?_) | (refine RW.y (Y.pickF rfl rfl) rfl ?_)) | (refine Gt.sub ?_; refine RW.y (Y.sub64 rfl rfl (by omega) (by omega)) rfl ?_))
  · rename_i h
    exact FQ.one rfl rfl rfl ⟨hK4, ret_int (by rw [hor, if_pos h])⟩
  · rename_i h h1
    have hx0 : x.pre = [] := List.length_eq_zero_iff.1 (by omega)
    refine CL.draw (fun w' => K0 w4 w') (by kernel_rfl) (fun w5 hheap5 hk5 => ?_)
    have hS : K0 w4 w5 := hk5
    skip
    refine AW.take 0 rfl (by kernel_rfl) (by kernel_rfl) (by kernel_rfl) rfl (by assumption) (fun w hS => Y.fieldAddr rfl (by rfl)) ?_
    refine AW.take 1 rfl (by kernel_rfl) (by kernel_rfl) (by kernel_rfl) rfl (by assumption) (fun w hS => Y.loadB rfl (hS.at0 hY4) rfl) ?_
    refine AW.take 2 rfl (by kernel_rfl) (by kernel_rfl) (by kernel_rfl) rfl (by assumption) (fun w hS => Y.lenx rfl (hq4.keep0 hS)) ?_
    refine AW.take 4 rfl (by kernel_rfl) (by kernel_rfl) (by kernel_rfl) rfl (by assumption) (fun w hS => Y.fieldAddr rfl (by rfl)) ?_
    refine AW.take 5 rfl (by kernel_rfl) (by kernel_rfl) (by kernel_rfl) rfl (by assumption) (fun w hS => Y.loadB rfl (hS.at0 hX4) rfl) ?_
    refine AW.take 6 rfl (by kernel_rfl) (by kernel_rfl) (by kernel_rfl) rfl (by assumption) (fun w hS => Y.lenx rfl (hp4.keep0 hS)) ?_
    refine AW.next 3 rfl (by kernel_rfl) ?_
    refine RW.fn rfl rfl ((compareI y.pre.length 0 w5).mono ?_)
    rintro e w' ⟨rfl, rfl⟩
    refine RW.nil (Nm.then ⟨hS, ?_⟩)
    refine AW.next 7 rfl (by kernel_rfl) ?_
    refine RW.fn rfl rfl ((compareI x.pre.length 0 w5).mono ?_)
    rintro e w' ⟨rfl, rfl⟩
    refine RW.nil (Nm.then ⟨hS, ?_⟩)
    refine AW.take 8 rfl (by kernel_rfl) (by kernel_rfl) (by kernel_rfl) rfl (by assumption) (fun w hS => by first | exact Y.sub64 rfl rfl (by omega) (by omega) | exact Y.subN rfl rfl (by first | exact wrap64_id (by omega) (by omega) | exact wrapu64_id (by omega) (by omega) | exact wrapu8_id (by omega) (by omega) | exact wrapu16_id (by omega) (by omega) | exact wrapu32_id (by omega) (by omega))) ?_
    refine AW.take 9 rfl (by kernel_rfl) (by kernel_rfl) (by kernel_rfl) rfl (by assumption) (fun w hS => Y.assign rfl) ?_
    refine AW.donew [4] (by kernel_rfl) ?_
    dsimp only [H.keep, H.look, H.Fr.put, Nat.beq]
    repeat' (first | (refine CL.seq ?_) | (refine CL.region ?_) | (refine CL.skip ?_) | (refine CL.condP rfl (fun _ => ?_) (fun _ => ?_) <;> try (exfalso; omega)) | (refine CL.condT rfl ?_) | (refine CL.condF rfl ?_) | (refine CL.cond rfl (fun _ => ?_) (fun _ => ?_)) | (refine CL.block ?_) | (refine CL.exit ?_) | (refine Ex.then ?_) | (refine Ex.hit ?_) | (refine Ex.miss rfl ?_) | (refine CL.ret ?_) | (refine Rt.then ?_) | (refine Rt.block ?_) | (refine Pn.then ?_) | (refine Pn.block ?_) | (refine CL.done ?_) | (refine Nm.block ?_) | (refine Nm.then ?_) | (refine Gt.nil ?_; refine RW.nilw [0, 1, 2, 3, 4, 5, 23, 27] ?_; dsimp only [H.keep, H.look, H.Fr.put, Nat.beq]) | (refine Gt.fieldAddr ?_; refine RW.y (Y.fieldAddr rfl (by rfl)) rfl ?_) | (refine Gt.guard ?_; first | (refine RW.part rfl rfl rfl (fun _ => ?_) (fun _ => ?_) <;> try (exfalso; omega)) | (refine RW.on rfl rfl rfl ?_) | (refine RW.off1 rfl rfl rfl rfl rfl ?_) | (refine RW.off rfl rfl rfl rfl rfl ?_) | (refine RW.offu rfl rfl rfl rfl ?_) | (refine RW.partb rfl rfl rfl (fun _ => ?_) (fun _ => ?_))) | (refine Gt.load ?_; refine RW.y (Y.loadB rfl (by assumption) rfl) rfl ?_) | (refine Gt.assign ?_; refine RW.y (Y.assign rfl) rfl ?_) | (refine Gt.len ?_; first | (refine RW.y (Y.lenv rfl) rfl ?_) | (refine RW.y (Y.lenx rfl (by assumption)) rfl ?_)) | (refine Gt.move ?_; refine RW.y (Y.move rfl) rfl ?_) | (refine Gt.eql ?_; refine RW.y (Y.eqi rfl rfl) rfl ?_) | (refine Gt.neq ?_; refine RW.y (Y.nei rfl rfl) rfl ?_) | (refine Gt.pick ?_; first | (refine RW.y (Y.pickT rfl rfl) rfl ?_) | (refine RW.y (Y.pickF rfl rfl) rfl ?_)) | (refine Gt.sub ?_; refine RW.y (Y.sub64 rfl rfl (by omega) (by omega)) rfl ?_))
    refine FQ.one rfl rfl rfl ⟨hK4.trans0 hk5, ret_int ?_⟩
    rw [hor, if_neg h, cmp0, cmp0, cmpP]
    first
      | (rw [if_pos hx0, if_pos hx0]; by_cases c : y.pre = [] <;> simp [c])
      | (rw [if_pos hy0, if_neg (fun c => h1 (by rw [c]; rfl)), if_neg (fun c => h1 (by rw [c]; rfl)), if_pos hy0]; rfl)
  · rename_i h h1 h2
    have hy0 : y.pre = [] := List.length_eq_zero_iff.1 (by omega)
    refine CL.draw (fun w' => K0 w4 w') (by kernel_rfl) (fun w5 hheap5 hk5 => ?_)
    have hS : K0 w4 w5 := hk5
    skip
    refine AW.take 0 rfl (by kernel_rfl) (by kernel_rfl) (by kernel_rfl) rfl (by assumption) (fun w hS => Y.fieldAddr rfl (by rfl)) ?_
    refine AW.take 1 rfl (by kernel_rfl) (by kernel_rfl) (by kernel_rfl) rfl (by assumption) (fun w hS => Y.loadB rfl (hS.at0 hY4) rfl) ?_
    refine AW.take 2 rfl (by kernel_rfl) (by kernel_rfl) (by kernel_rfl) rfl (by assumption) (fun w hS => Y.lenx rfl (hq4.keep0 hS)) ?_
    refine AW.take 4 rfl (by kernel_rfl) (by kernel_rfl) (by kernel_rfl) rfl (by assumption) (fun w hS => Y.fieldAddr rfl (by rfl)) ?_
    refine AW.take 5 rfl (by kernel_rfl) (by kernel_rfl) (by kernel_rfl) rfl (by assumption) (fun w hS => Y.loadB rfl (hS.at0 hX4) rfl) ?_
    refine AW.take 6 rfl (by kernel_rfl) (by kernel_rfl) (by kernel_rfl) rfl (by assumption) (fun w hS => Y.lenx rfl (hp4.keep0 hS)) ?_
    refine AW.next 3 rfl (by kernel_rfl) ?_
    refine RW.fn rfl rfl ((compareI y.pre.length 0 w5).mono ?_)
    rintro e w' ⟨rfl, rfl⟩
    refine RW.nil (Nm.then ⟨hS, ?_⟩)
    refine AW.next 7 rfl (by kernel_rfl) ?_
    refine RW.fn rfl rfl ((compareI x.pre.length 0 w5).mono ?_)
    rintro e w' ⟨rfl, rfl⟩
    refine RW.nil (Nm.then ⟨hS, ?_⟩)
    refine AW.take 8 rfl (by kernel_rfl) (by kernel_rfl) (by kernel_rfl) rfl (by assumption) (fun w hS => by first | exact Y.sub64 rfl rfl (by omega) (by omega) | exact Y.subN rfl rfl (by first | exact wrap64_id (by omega) (by omega) | exact wrapu64_id (by omega) (by omega) | exact wrapu8_id (by omega) (by omega) | exact wrapu16_id (by omega) (by omega) | exact wrapu32_id (by omega) (by omega))) ?_
    refine AW.take 9 rfl (by kernel_rfl) (by kernel_rfl) (by kernel_rfl) rfl (by assumption) (fun w hS => Y.assign rfl) ?_
    refine AW.donew [4] (by kernel_rfl) ?_
    dsimp only [H.keep, H.look, H.Fr.put, Nat.beq]
    repeat' (first | (refine CL.seq ?_) | (refine CL.region ?_) | (refine CL.skip ?_) | (refine CL.condP rfl (fun _ => ?_) (fun _ => ?_) <;> try (exfalso; omega)) | (refine CL.condT rfl ?_) | (refine CL.condF rfl ?_) | (refine CL.cond rfl (fun _ => ?_) (fun _ => ?_)) | (refine CL.block ?_) | (refine CL.exit ?_) | (refine Ex.then ?_) | (refine Ex.hit ?_) | (refine Ex.miss rfl ?_) | (refine CL.ret ?_) | (refine Rt.then ?_) | (refine Rt.block ?_) | (refine Pn.then ?_) | (refine Pn.block ?_) | (refine CL.done ?_) | (refine Nm.block ?_) | (refine Nm.then ?_) | (refine Gt.nil ?_; refine RW.nilw [0, 1, 2, 3, 4, 5, 23, 27] ?_; dsimp only [H.keep, H.look, H.Fr.put, Nat.beq]) | (refine Gt.fieldAddr ?_; refine RW.y (Y.fieldAddr rfl (by rfl)) rfl ?_) | (refine Gt.guard ?_; first | (refine RW.part rfl rfl rfl (fun _ => ?_) (fun _ => ?_) <;> try (exfalso; omega)) | (refine RW.on rfl rfl rfl ?_) | (refine RW.off1 rfl rfl rfl rfl rfl ?_) | (refine RW.off rfl rfl rfl rfl rfl ?_) | (refine RW.offu rfl rfl rfl rfl ?_) | (refine RW.partb rfl rfl rfl (fun _ => ?_) (fun _ => ?_))) | (refine Gt.load ?_; refine RW.y (Y.loadB rfl (by assumption) rfl) rfl ?_) | (refine Gt.assign ?_; refine RW.y (Y.assign rfl) rfl ?_) | (refine Gt.len ?_; first | (refine RW.y (Y.lenv rfl) rfl ?_) | (refine RW.y (Y.lenx rfl (by assumption)) rfl ?_)) | (refine Gt.move ?_; refine RW.y (Y.move rfl) rfl ?_) | (refine Gt.eql ?_; refine RW.y (Y.eqi rfl rfl) rfl ?_) | (refine Gt.neq ?_; refine RW.y (Y.nei rfl rfl) rfl ?_) | (refine Gt.pick ?_; first | (refine RW.y (Y.pickT rfl rfl) rfl ?_) | (refine RW.y (Y.pickF rfl rfl) rfl ?_)) | (refine Gt.sub ?_; refine RW.y (Y.sub64 rfl rfl (by omega) (by omega)) rfl ?_))
    refine FQ.one rfl rfl rfl ⟨hK4.trans0 hk5, ret_int ?_⟩
    rw [hor, if_neg h, cmp0, cmp0, cmpP]
    first
      | (rw [if_pos hx0, if_pos hx0]; by_cases c : y.pre = [] <;> simp [c])
      | (rw [if_pos hy0, if_neg (fun c => h1 (by rw [c]; rfl)), if_neg (fun c => h1 (by rw [c]; rfl)), if_pos hy0]; rfl)
  · rename_i h h1 h2
    refine RW.fn rfl rfl ((compareMarks p q x.pre y.pre w4 (by have := fx.1; omega) (by have := fy.1; omega) (fun s h => Nat.le_trans (fx.2 s h) (by decide)) (fun s h => Nat.le_trans (fy.2 s h) (by decide)) hp4 hq4).mono ?_)
    rintro e w5 ⟨hk5, rfl⟩
    repeat' (first | (refine CL.seq ?_) | (refine CL.region ?_) | (refine CL.skip ?_) | (refine CL.condP rfl (fun _ => ?_) (fun _ => ?_) <;> try (exfalso; omega)) | (refine CL.condT rfl ?_) | (refine CL.condF rfl ?_) | (refine CL.cond rfl (fun _ => ?_) (fun _ => ?_)) | (refine CL.block ?_) | (refine CL.exit ?_) | (refine Ex.then ?_) | (refine Ex.hit ?_) | (refine Ex.miss rfl ?_) | (refine CL.ret ?_) | (refine Rt.then ?_) | (refine Rt.block ?_) | (refine Pn.then ?_) | (refine Pn.block ?_) | (refine CL.done ?_) | (refine Nm.block ?_) | (refine Nm.then ?_) | (refine Gt.nil ?_; refine RW.nilw [0, 1, 2, 3, 4, 5, 23, 27] ?_; dsimp only [H.keep, H.look, H.Fr.put, Nat.beq]) | (refine Gt.fieldAddr ?_; refine RW.y (Y.fieldAddr rfl (by rfl)) rfl ?_) | (refine Gt.guard ?_; first | (refine RW.part rfl rfl rfl (fun _ => ?_) (fun _ => ?_) <;> try (exfalso; omega)) | (refine RW.on rfl rfl rfl ?_) | (refine RW.off1 rfl rfl rfl rfl rfl ?_) | (refine RW.off rfl rfl rfl rfl rfl ?_) | (refine RW.offu rfl rfl rfl rfl ?_) | (refine RW.partb rfl rfl rfl (fun _ => ?_) (fun _ => ?_))) | (refine Gt.load ?_; refine RW.y (Y.loadB rfl (by assumption) rfl) rfl ?_) | (refine Gt.assign ?_; refine RW.y (Y.assign rfl) rfl ?_) | (refine Gt.len ?_; first | (refine RW.y (Y.lenv rfl) rfl ?_) | (refine RW.y (Y.lenx rfl (by assumption)) rfl ?_)) | (refine Gt.move ?_; refine RW.y (Y.move rfl) rfl ?_) | (refine Gt.eql ?_; refine RW.y (Y.eqi rfl rfl) rfl ?_) | (refine Gt.neq ?_; refine RW.y (Y.nei rfl rfl) rfl ?_) | (refine Gt.pick ?_; first | (refine RW.y (Y.pickT rfl rfl) rfl ?_) | (refine RW.y (Y.pickF rfl rfl) rfl ?_)) | (refine Gt.sub ?_; refine RW.y (Y.sub64 rfl rfl (by omega) (by omega)) rfl ?_))
    exact FQ.one rfl rfl rfl ⟨hK4.trans0 hk5, ret_int (by rw [hor, if_neg h, cmpP, if_neg (fun c => h1 (by rw [c]; rfl)), if_neg (fun c => h2 (by rw [c]; rfl))])⟩
end Go.Proofs.YteihfeghbpklkaaDoor.Ve
