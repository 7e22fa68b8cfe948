/-
  The law VerOrder.
-/
import Derived.Test.YteihfeghbpklkaaDoorVe14
import Derived.Test.YteihfeghbpklkaaDoorVe15
namespace Go.Proofs.YteihfeghbpklkaaDoor.Ve
open Go.RowKit H S
attribute [local irreducible] H.CL H.RW H.CW H.Yd H.thenK H.blockQ Go.Calls

theorem Y.neb {P : Program} {f : Fr} {w : World} {d : Nat} {t yt ty : TypeId} {pos : String} {af : Array Edge} {x y : Operand} {a b : Bool} [ht : Und P t .bool] (hx : f.ev x = some (.bool a)) (hy : f.ev y = some (.bool b)) : Yd P f (op1 d (.binOp .neq t x y yt) ty pos af) (.bool (decide (a ≠ b))) w :=
  Y.bin hx hy (by simp) (by simp) (by rw [run_neq_bool w t a b ht.out]; cases a <;> cases b <;> rfl)
theorem Y.nebE {P : Program} {f : Fr} {w : World} {d : Nat} {t yt ty : TypeId} {pos : String} {af : Array Edge} {x y : Operand} {a b : Bool} [ht : Und P t .bool] (hx : f.ev x = some (.bool a)) (hy : f.ev y = some (.bool b)) (h : a = b) : Yd P f (op1 d (.binOp .neq t x y yt) ty pos af) (.bool false) w := by
  have := Y.neb (P := P) (w := w) (d := d) (t := t) (yt := yt) (ty := ty) (pos := pos) (af := af) hx hy
  simpa [h] using this

set_option maxHeartbeats 2000000 in
theorem lawOrder (s t u : T) (hs : s.length ≤ 2000000) (ht : t.length ≤ 2000000) (hu : u.length ≤ 2000000) (w : World) (hT : Tb w) : Calls Tryd.prog 5 #[vs s, vs t, vs u] w fun e w' => e = .returned (.bool true) ∧ K0 w w' := by
  refine H.enter Tryd.func5 Tryd.ntmps5 rfl rfl ?_; dsimp only [H.args]
  repeat' (first | (refine CL.seq ?_) | (refine CL.region ?_) | (refine CL.skip ?_) | (refine CL.condP rfl (fun _ => ?_) (fun _ => ?_) <;> try (exfalso; omega)) | (refine CL.condT rfl ?_) | (refine CL.condF rfl ?_) | (refine CL.cond rfl (fun _ => ?_) (fun _ => ?_)) | (refine CL.block ?_) | (refine CL.exit ?_) | (refine Ex.then ?_) | (refine Ex.hit ?_) | (refine Ex.miss rfl ?_) | (refine CL.ret ?_) | (refine Rt.then ?_) | (refine Rt.block ?_) | (refine Pn.then ?_) | (refine Pn.block ?_) | (refine CL.done ?_) | (refine Nm.block ?_) | (refine Nm.then ?_) | (refine Gt.nil ?_; refine RW.nilw [0, 1, 2, 6, 7, 8, 9, 10, 11, 12, 13, 14, 15, 17, 42, 73] ?_; dsimp only [H.keep, H.look, H.Fr.put, Nat.beq]) | (refine Gt.move ?_; refine RW.y (Y.move rfl) rfl ?_) | (refine Gt.guard ?_; first | (refine RW.part rfl rfl rfl (fun _ => ?_) (fun _ => ?_) <;> try (exfalso; omega)) | (refine RW.on rfl rfl rfl ?_) | (refine RW.off1 rfl rfl rfl rfl rfl ?_) | (refine RW.off rfl rfl rfl rfl rfl ?_) | (refine RW.offu rfl rfl rfl rfl ?_) | (refine RW.partb rfl rfl rfl (fun _ => ?_) (fun _ => ?_))) | (refine Gt.pick ?_; first | (refine RW.y (Y.pickT rfl rfl) rfl ?_) | (refine RW.y (Y.pickF rfl rfl) rfl ?_)) | (refine Gt.load ?_; first | (refine RW.y (Y.loadB rfl (by assumption) rfl) rfl ?_) | (refine RW.y (Y.loadBlock rfl (by assumption) rfl) rfl ?_)) | (refine Gt.assign ?_; refine RW.y (Y.assign rfl) rfl ?_) | (refine Gt.extract ?_; refine RW.y (Y.extract rfl rfl) rfl ?_) | (refine Gt.neq ?_; first | (refine RW.y (Y.nei rfl rfl) rfl ?_) | (refine RW.y (Y.nes rfl rfl) rfl ?_) | (refine RW.y (Y.nepn rfl rfl) rfl ?_)) | (refine Gt.not ?_; first | (refine RW.y (Y.not rfl) rfl ?_) | (refine RW.y (Y.notb rfl) rfl ?_)) | (refine Gt.leq ?_; refine RW.y (Y.leq rfl rfl) rfl ?_) | (refine Gt.geq ?_; refine RW.y (Y.geq rfl rfl) rfl ?_) | (refine Gt.lss ?_; refine RW.y (Y.lss rfl rfl) rfl ?_) | (refine Gt.neg ?_; first | (refine RW.y (Y.neg64 rfl (by omega) (by omega)) rfl ?_) | (refine RW.y (Y.neg rfl) rfl ?_)) | (refine Gt.eql ?_; first | (refine RW.y (Y.eqi rfl rfl) rfl ?_) | (refine RW.y (Y.eqs rfl rfl) rfl ?_)) | (refine Gt.gtr ?_; refine RW.y (Y.gtr rfl rfl) rfl ?_))
  refine RW.fn rfl rfl ((known w hT).mono ?_)
  rintro e w0 ⟨rfl, hk0⟩
  have fx := parse_fit s
  have fy := parse_fit t
  have fz := parse_fit u
  have bx := parse_bd s
  have by' := parse_bd t
  have hxy : (verR (parseV (cutB 45 s))).2 = 0 → (verR (parseV (cutB 45 t))).2 = 0 → (cmpV (verR (parseV (cutB 45 s))).1 (verR (parseV (cutB 45 t))).1 = 0 ↔ textV (verR (parseV (cutB 45 s))).1 = textV (verR (parseV (cutB 45 t))).1) := by
    cases h1 : parseV (cutB 45 s) with
    | none => intro c; simp [verR] at c
    | some x =>
      cases h2 : parseV (cutB 45 t) with
      | none => intro _ c; simp [verR] at c
      | some y => intro _ _; exact parse_inj h1 h2
  have v1 := versionOf s hs
  have v2 := versionOf t ht
  have v3 := versionOf u hu
  generalize verR (parseV (cutB 45 s)) = r1 at *
  generalize verR (parseV (cutB 45 t)) = r2 at *
  generalize verR (parseV (cutB 45 u)) = r3 at *
  obtain ⟨x, e1⟩ := r1
  obtain ⟨y, e2⟩ := r2
  obtain ⟨z, e3⟩ := r3
  simp only at fx fy fz bx by' hxy v1 v2 v3
  repeat' (first | (refine CL.seq ?_) | (refine CL.region ?_) | (refine CL.skip ?_) | (refine CL.condP rfl (fun _ => ?_) (fun _ => ?_) <;> try (exfalso; omega)) | (refine CL.condT rfl ?_) | (refine CL.condF rfl ?_) | (refine CL.cond rfl (fun _ => ?_) (fun _ => ?_)) | (refine CL.block ?_) | (refine CL.exit ?_) | (refine Ex.then ?_) | (refine Ex.hit ?_) | (refine Ex.miss rfl ?_) | (refine CL.ret ?_) | (refine Rt.then ?_) | (refine Rt.block ?_) | (refine Pn.then ?_) | (refine Pn.block ?_) | (refine CL.done ?_) | (refine Nm.block ?_) | (refine Nm.then ?_) | (refine Gt.nil ?_; refine RW.nilw [0, 1, 2, 6, 7, 8, 9, 10, 11, 12, 13, 14, 15, 17, 42, 73] ?_; dsimp only [H.keep, H.look, H.Fr.put, Nat.beq]) | (refine Gt.move ?_; refine RW.y (Y.move rfl) rfl ?_) | (refine Gt.guard ?_; first | (refine RW.part rfl rfl rfl (fun _ => ?_) (fun _ => ?_) <;> try (exfalso; omega)) | (refine RW.on rfl rfl rfl ?_) | (refine RW.off1 rfl rfl rfl rfl rfl ?_) | (refine RW.off rfl rfl rfl rfl rfl ?_) | (refine RW.offu rfl rfl rfl rfl ?_) | (refine RW.partb rfl rfl rfl (fun _ => ?_) (fun _ => ?_))) | (refine Gt.pick ?_; first | (refine RW.y (Y.pickT rfl rfl) rfl ?_) | (refine RW.y (Y.pickF rfl rfl) rfl ?_)) | (refine Gt.load ?_; first | (refine RW.y (Y.loadB rfl (by assumption) rfl) rfl ?_) | (refine RW.y (Y.loadBlock rfl (by assumption) rfl) rfl ?_)) | (refine Gt.assign ?_; refine RW.y (Y.assign rfl) rfl ?_) | (refine Gt.extract ?_; refine RW.y (Y.extract rfl rfl) rfl ?_) | (refine Gt.neq ?_; first | (refine RW.y (Y.nei rfl rfl) rfl ?_) | (refine RW.y (Y.nes rfl rfl) rfl ?_) | (refine RW.y (Y.nepn rfl rfl) rfl ?_)) | (refine Gt.not ?_; first | (refine RW.y (Y.not rfl) rfl ?_) | (refine RW.y (Y.notb rfl) rfl ?_)) | (refine Gt.leq ?_; refine RW.y (Y.leq rfl rfl) rfl ?_) | (refine Gt.geq ?_; refine RW.y (Y.geq rfl rfl) rfl ?_) | (refine Gt.lss ?_; refine RW.y (Y.lss rfl rfl) rfl ?_) | (refine Gt.neg ?_; first | (refine RW.y (Y.neg64 rfl (by omega) (by omega)) rfl ?_) | (refine RW.y (Y.neg rfl) rfl ?_)) | (refine Gt.eql ?_; first | (refine RW.y (Y.eqi rfl rfl) rfl ?_) | (refine RW.y (Y.eqs rfl rfl) rfl ?_)) | (refine Gt.gtr ?_; refine RW.y (Y.gtr rfl rfl) rfl ?_))
  refine RW.fn rfl rfl ((v1 w0).mono ?_)
  rintro e w1 ⟨hk1, X, rfl, hX⟩
  obtain ⟨p, rfl, op, hp⟩ := hX.cells
  repeat' (first | (refine CL.seq ?_) | (refine CL.region ?_) | (refine CL.skip ?_) | (refine CL.condP rfl (fun _ => ?_) (fun _ => ?_) <;> try (exfalso; omega)) | (refine CL.condT rfl ?_) | (refine CL.condF rfl ?_) | (refine CL.cond rfl (fun _ => ?_) (fun _ => ?_)) | (refine CL.block ?_) | (refine CL.exit ?_) | (refine Ex.then ?_) | (refine Ex.hit ?_) | (refine Ex.miss rfl ?_) | (refine CL.ret ?_) | (refine Rt.then ?_) | (refine Rt.block ?_) | (refine Pn.then ?_) | (refine Pn.block ?_) | (refine CL.done ?_) | (refine Nm.block ?_) | (refine Nm.then ?_) | (refine Gt.nil ?_; refine RW.nilw [0, 1, 2, 6, 7, 8, 9, 10, 11, 12, 13, 14, 15, 17, 42, 73] ?_; dsimp only [H.keep, H.look, H.Fr.put, Nat.beq]) | (refine Gt.move ?_; refine RW.y (Y.move rfl) rfl ?_) | (refine Gt.guard ?_; first | (refine RW.part rfl rfl rfl (fun _ => ?_) (fun _ => ?_) <;> try (exfalso; omega)) | (refine RW.on rfl rfl rfl ?_) | (refine RW.off1 rfl rfl rfl rfl rfl ?_) | (refine RW.off rfl rfl rfl rfl rfl ?_) | (refine RW.offu rfl rfl rfl rfl ?_) | (refine RW.partb rfl rfl rfl (fun _ => ?_) (fun _ => ?_))) | (refine Gt.pick ?_; first | (refine RW.y (Y.pickT rfl rfl) rfl ?_) | (refine RW.y (Y.pickF rfl rfl) rfl ?_)) | (refine Gt.load ?_; first | (refine RW.y (Y.loadB rfl (by assumption) rfl) rfl ?_) | (refine RW.y (Y.loadBlock rfl (by assumption) rfl) rfl ?_)) | (refine Gt.assign ?_; refine RW.y (Y.assign rfl) rfl ?_) | (refine Gt.extract ?_; refine RW.y (Y.extract rfl rfl) rfl ?_) | (refine Gt.neq ?_; first | (refine RW.y (Y.nei rfl rfl) rfl ?_) | (refine RW.y (Y.nes rfl rfl) rfl ?_) | (refine RW.y (Y.nepn rfl rfl) rfl ?_)) | (refine Gt.not ?_; first | (refine RW.y (Y.not rfl) rfl ?_) | (refine RW.y (Y.notb rfl) rfl ?_)) | (refine Gt.leq ?_; refine RW.y (Y.leq rfl rfl) rfl ?_) | (refine Gt.geq ?_; refine RW.y (Y.geq rfl rfl) rfl ?_) | (refine Gt.lss ?_; refine RW.y (Y.lss rfl rfl) rfl ?_) | (refine Gt.neg ?_; first | (refine RW.y (Y.neg64 rfl (by omega) (by omega)) rfl ?_) | (refine RW.y (Y.neg rfl) rfl ?_)) | (refine Gt.eql ?_; first | (refine RW.y (Y.eqi rfl rfl) rfl ?_) | (refine RW.y (Y.eqs rfl rfl) rfl ?_)) | (refine Gt.gtr ?_; refine RW.y (Y.gtr rfl rfl) rfl ?_))
  refine RW.varN rfl rfl rfl (verCells op) rfl (fun w2 hb2 hk2 hlt2 => ?_)
  repeat' (first | (refine CL.seq ?_) | (refine CL.region ?_) | (refine CL.skip ?_) | (refine CL.condP rfl (fun _ => ?_) (fun _ => ?_) <;> try (exfalso; omega)) | (refine CL.condT rfl ?_) | (refine CL.condF rfl ?_) | (refine CL.cond rfl (fun _ => ?_) (fun _ => ?_)) | (refine CL.block ?_) | (refine CL.exit ?_) | (refine Ex.then ?_) | (refine Ex.hit ?_) | (refine Ex.miss rfl ?_) | (refine CL.ret ?_) | (refine Rt.then ?_) | (refine Rt.block ?_) | (refine Pn.then ?_) | (refine Pn.block ?_) | (refine CL.done ?_) | (refine Nm.block ?_) | (refine Nm.then ?_) | (refine Gt.nil ?_; refine RW.nilw [0, 1, 2, 6, 7, 8, 9, 10, 11, 12, 13, 14, 15, 17, 42, 73] ?_; dsimp only [H.keep, H.look, H.Fr.put, Nat.beq]) | (refine Gt.move ?_; refine RW.y (Y.move rfl) rfl ?_) | (refine Gt.guard ?_; first | (refine RW.part rfl rfl rfl (fun _ => ?_) (fun _ => ?_) <;> try (exfalso; omega)) | (refine RW.on rfl rfl rfl ?_) | (refine RW.off1 rfl rfl rfl rfl rfl ?_) | (refine RW.off rfl rfl rfl rfl rfl ?_) | (refine RW.offu rfl rfl rfl rfl ?_) | (refine RW.partb rfl rfl rfl (fun _ => ?_) (fun _ => ?_))) | (refine Gt.pick ?_; first | (refine RW.y (Y.pickT rfl rfl) rfl ?_) | (refine RW.y (Y.pickF rfl rfl) rfl ?_)) | (refine Gt.load ?_; first | (refine RW.y (Y.loadB rfl (by assumption) rfl) rfl ?_) | (refine RW.y (Y.loadBlock rfl (by assumption) rfl) rfl ?_)) | (refine Gt.assign ?_; refine RW.y (Y.assign rfl) rfl ?_) | (refine Gt.extract ?_; refine RW.y (Y.extract rfl rfl) rfl ?_) | (refine Gt.neq ?_; first | (refine RW.y (Y.nei rfl rfl) rfl ?_) | (refine RW.y (Y.nes rfl rfl) rfl ?_) | (refine RW.y (Y.nepn rfl rfl) rfl ?_)) | (refine Gt.not ?_; first | (refine RW.y (Y.not rfl) rfl ?_) | (refine RW.y (Y.notb rfl) rfl ?_)) | (refine Gt.leq ?_; refine RW.y (Y.leq rfl rfl) rfl ?_) | (refine Gt.geq ?_; refine RW.y (Y.geq rfl rfl) rfl ?_) | (refine Gt.lss ?_; refine RW.y (Y.lss rfl rfl) rfl ?_) | (refine Gt.neg ?_; first | (refine RW.y (Y.neg64 rfl (by omega) (by omega)) rfl ?_) | (refine RW.y (Y.neg rfl) rfl ?_)) | (refine Gt.eql ?_; first | (refine RW.y (Y.eqi rfl rfl) rfl ?_) | (refine RW.y (Y.eqs rfl rfl) rfl ?_)) | (refine Gt.gtr ?_; refine RW.y (Y.gtr rfl rfl) rfl ?_))
  refine RW.fn rfl rfl ((v2 w2).mono ?_)
  rintro e w3 ⟨hk3, Y, rfl, hY⟩
  obtain ⟨q, rfl, oq, hq⟩ := hY.cells
  repeat' (first | (refine CL.seq ?_) | (refine CL.region ?_) | (refine CL.skip ?_) | (refine CL.condP rfl (fun _ => ?_) (fun _ => ?_) <;> try (exfalso; omega)) | (refine CL.condT rfl ?_) | (refine CL.condF rfl ?_) | (refine CL.cond rfl (fun _ => ?_) (fun _ => ?_)) | (refine CL.block ?_) | (refine CL.exit ?_) | (refine Ex.then ?_) | (refine Ex.hit ?_) | (refine Ex.miss rfl ?_) | (refine CL.ret ?_) | (refine Rt.then ?_) | (refine Rt.block ?_) | (refine Pn.then ?_) | (refine Pn.block ?_) | (refine CL.done ?_) | (refine Nm.block ?_) | (refine Nm.then ?_) | (refine Gt.nil ?_; refine RW.nilw [0, 1, 2, 6, 7, 8, 9, 10, 11, 12, 13, 14, 15, 17, 42, 73] ?_; dsimp only [H.keep, H.look, H.Fr.put, Nat.beq]) | (refine Gt.move ?_; refine RW.y (Y.move rfl) rfl ?_) | (refine Gt.guard ?_; first | (refine RW.part rfl rfl rfl (fun _ => ?_) (fun _ => ?_) <;> try (exfalso; omega)) | (refine RW.on rfl rfl rfl ?_) | (refine RW.off1 rfl rfl rfl rfl rfl ?_) | (refine RW.off rfl rfl rfl rfl rfl ?_) | (refine RW.offu rfl rfl rfl rfl ?_) | (refine RW.partb rfl rfl rfl (fun _ => ?_) (fun _ => ?_))) | (refine Gt.pick ?_; first | (refine RW.y (Y.pickT rfl rfl) rfl ?_) | (refine RW.y (Y.pickF rfl rfl) rfl ?_)) | (refine Gt.load ?_; first | (refine RW.y (Y.loadB rfl (by assumption) rfl) rfl ?_) | (refine RW.y (Y.loadBlock rfl (by assumption) rfl) rfl ?_)) | (refine Gt.assign ?_; refine RW.y (Y.assign rfl) rfl ?_) | (refine Gt.extract ?_; refine RW.y (Y.extract rfl rfl) rfl ?_) | (refine Gt.neq ?_; first | (refine RW.y (Y.nei rfl rfl) rfl ?_) | (refine RW.y (Y.nes rfl rfl) rfl ?_) | (refine RW.y (Y.nepn rfl rfl) rfl ?_)) | (refine Gt.not ?_; first | (refine RW.y (Y.not rfl) rfl ?_) | (refine RW.y (Y.notb rfl) rfl ?_)) | (refine Gt.leq ?_; refine RW.y (Y.leq rfl rfl) rfl ?_) | (refine Gt.geq ?_; refine RW.y (Y.geq rfl rfl) rfl ?_) | (refine Gt.lss ?_; refine RW.y (Y.lss rfl rfl) rfl ?_) | (refine Gt.neg ?_; first | (refine RW.y (Y.neg64 rfl (by omega) (by omega)) rfl ?_) | (refine RW.y (Y.neg rfl) rfl ?_)) | (refine Gt.eql ?_; first | (refine RW.y (Y.eqi rfl rfl) rfl ?_) | (refine RW.y (Y.eqs rfl rfl) rfl ?_)) | (refine Gt.gtr ?_; refine RW.y (Y.gtr rfl rfl) rfl ?_))
  refine RW.varN rfl rfl rfl (verCells oq) rfl (fun w4 hb4 hk4 hlt4 => ?_)
  repeat' (first | (refine CL.seq ?_) | (refine CL.region ?_) | (refine CL.skip ?_) | (refine CL.condP rfl (fun _ => ?_) (fun _ => ?_) <;> try (exfalso; omega)) | (refine CL.condT rfl ?_) | (refine CL.condF rfl ?_) | (refine CL.cond rfl (fun _ => ?_) (fun _ => ?_)) | (refine CL.block ?_) | (refine CL.exit ?_) | (refine Ex.then ?_) | (refine Ex.hit ?_) | (refine Ex.miss rfl ?_) | (refine CL.ret ?_) | (refine Rt.then ?_) | (refine Rt.block ?_) | (refine Pn.then ?_) | (refine Pn.block ?_) | (refine CL.done ?_) | (refine Nm.block ?_) | (refine Nm.then ?_) | (refine Gt.nil ?_; refine RW.nilw [0, 1, 2, 6, 7, 8, 9, 10, 11, 12, 13, 14, 15, 17, 42, 73] ?_; dsimp only [H.keep, H.look, H.Fr.put, Nat.beq]) | (refine Gt.move ?_; refine RW.y (Y.move rfl) rfl ?_) | (refine Gt.guard ?_; first | (refine RW.part rfl rfl rfl (fun _ => ?_) (fun _ => ?_) <;> try (exfalso; omega)) | (refine RW.on rfl rfl rfl ?_) | (refine RW.off1 rfl rfl rfl rfl rfl ?_) | (refine RW.off rfl rfl rfl rfl rfl ?_) | (refine RW.offu rfl rfl rfl rfl ?_) | (refine RW.partb rfl rfl rfl (fun _ => ?_) (fun _ => ?_))) | (refine Gt.pick ?_; first | (refine RW.y (Y.pickT rfl rfl) rfl ?_) | (refine RW.y (Y.pickF rfl rfl) rfl ?_)) | (refine Gt.load ?_; first | (refine RW.y (Y.loadB rfl (by assumption) rfl) rfl ?_) | (refine RW.y (Y.loadBlock rfl (by assumption) rfl) rfl ?_)) | (refine Gt.assign ?_; refine RW.y (Y.assign rfl) rfl ?_) | (refine Gt.extract ?_; refine RW.y (Y.extract rfl rfl) rfl ?_) | (refine Gt.neq ?_; first | (refine RW.y (Y.nei rfl rfl) rfl ?_) | (refine RW.y (Y.nes rfl rfl) rfl ?_) | (refine RW.y (Y.nepn rfl rfl) rfl ?_)) | (refine Gt.not ?_; first | (refine RW.y (Y.not rfl) rfl ?_) | (refine RW.y (Y.notb rfl) rfl ?_)) | (refine Gt.leq ?_; refine RW.y (Y.leq rfl rfl) rfl ?_) | (refine Gt.geq ?_; refine RW.y (Y.geq rfl rfl) rfl ?_) | (refine Gt.lss ?_; refine RW.y (Y.lss rfl rfl) rfl ?_) | (refine Gt.neg ?_; first | (refine RW.y (Y.neg64 rfl (by omega) (by omega)) rfl ?_) | (refine RW.y (Y.neg rfl) rfl ?_)) | (refine Gt.eql ?_; first | (refine RW.y (Y.eqi rfl rfl) rfl ?_) | (refine RW.y (Y.eqs rfl rfl) rfl ?_)) | (refine Gt.gtr ?_; refine RW.y (Y.gtr rfl rfl) rfl ?_))
  refine RW.fn rfl rfl ((v3 w4).mono ?_)
  rintro e w5 ⟨hk5, Z, rfl, hZ⟩
  obtain ⟨o, rfl, oo, ho⟩ := hZ.cells
  repeat' (first | (refine CL.seq ?_) | (refine CL.region ?_) | (refine CL.skip ?_) | (refine CL.condP rfl (fun _ => ?_) (fun _ => ?_) <;> try (exfalso; omega)) | (refine CL.condT rfl ?_) | (refine CL.condF rfl ?_) | (refine CL.cond rfl (fun _ => ?_) (fun _ => ?_)) | (refine CL.block ?_) | (refine CL.exit ?_) | (refine Ex.then ?_) | (refine Ex.hit ?_) | (refine Ex.miss rfl ?_) | (refine CL.ret ?_) | (refine Rt.then ?_) | (refine Rt.block ?_) | (refine Pn.then ?_) | (refine Pn.block ?_) | (refine CL.done ?_) | (refine Nm.block ?_) | (refine Nm.then ?_) | (refine Gt.nil ?_; refine RW.nilw [0, 1, 2, 6, 7, 8, 9, 10, 11, 12, 13, 14, 15, 17, 42, 73] ?_; dsimp only [H.keep, H.look, H.Fr.put, Nat.beq]) | (refine Gt.move ?_; refine RW.y (Y.move rfl) rfl ?_) | (refine Gt.guard ?_; first | (refine RW.part rfl rfl rfl (fun _ => ?_) (fun _ => ?_) <;> try (exfalso; omega)) | (refine RW.on rfl rfl rfl ?_) | (refine RW.off1 rfl rfl rfl rfl rfl ?_) | (refine RW.off rfl rfl rfl rfl rfl ?_) | (refine RW.offu rfl rfl rfl rfl ?_) | (refine RW.partb rfl rfl rfl (fun _ => ?_) (fun _ => ?_))) | (refine Gt.pick ?_; first | (refine RW.y (Y.pickT rfl rfl) rfl ?_) | (refine RW.y (Y.pickF rfl rfl) rfl ?_)) | (refine Gt.load ?_; first | (refine RW.y (Y.loadB rfl (by assumption) rfl) rfl ?_) | (refine RW.y (Y.loadBlock rfl (by assumption) rfl) rfl ?_)) | (refine Gt.assign ?_; refine RW.y (Y.assign rfl) rfl ?_) | (refine Gt.extract ?_; refine RW.y (Y.extract rfl rfl) rfl ?_) | (refine Gt.neq ?_; first | (refine RW.y (Y.nei rfl rfl) rfl ?_) | (refine RW.y (Y.nes rfl rfl) rfl ?_) | (refine RW.y (Y.nepn rfl rfl) rfl ?_)) | (refine Gt.not ?_; first | (refine RW.y (Y.not rfl) rfl ?_) | (refine RW.y (Y.notb rfl) rfl ?_)) | (refine Gt.leq ?_; refine RW.y (Y.leq rfl rfl) rfl ?_) | (refine Gt.geq ?_; refine RW.y (Y.geq rfl rfl) rfl ?_) | (refine Gt.lss ?_; refine RW.y (Y.lss rfl rfl) rfl ?_) | (refine Gt.neg ?_; first | (refine RW.y (Y.neg64 rfl (by omega) (by omega)) rfl ?_) | (refine RW.y (Y.neg rfl) rfl ?_)) | (refine Gt.eql ?_; first | (refine RW.y (Y.eqi rfl rfl) rfl ?_) | (refine RW.y (Y.eqs rfl rfl) rfl ?_)) | (refine Gt.gtr ?_; refine RW.y (Y.gtr rfl rfl) rfl ?_))
  refine RW.varN rfl rfl rfl (verCells oo) rfl (fun w6 hb6 hk6 hlt6 => ?_)
  have hX6 := (((hk3.trans0 hk4).trans0 hk5).trans0 hk6).at0 hb2
  have hY6 := (hk5.trans0 hk6).at0 hb4
  have hK6 : K0 w w6 := ((((((hk0.trans0 hk1).trans0 hk2).trans0 hk3).trans0 hk4).trans0 hk5).trans0 hk6)
  have ax : ∀ {w'}, K0 w6 w' → VerAt w' (.agg #[.int .i64 x.a, .int .i64 x.b, .int .i64 x.c, p]) x := fun h => VerAt.of ((hp.keep0 (((((hk2.trans0 hk3).trans0 hk4).trans0 hk5).trans0 hk6))).keep0 h)
  have ay : ∀ {w'}, K0 w6 w' → VerAt w' (.agg #[.int .i64 y.a, .int .i64 y.b, .int .i64 y.c, q]) y := fun h => VerAt.of ((hq.keep0 ((hk4.trans0 hk5).trans0 hk6)).keep0 h)
  have az : ∀ {w'}, K0 w6 w' → VerAt w' (.agg #[.int .i64 z.a, .int .i64 z.b, .int .i64 z.c, o]) z := fun h => VerAt.of ((ho.keep0 hk6).keep0 h)
  repeat' (first | (refine CL.seq ?_) | (refine CL.region ?_) | (refine CL.skip ?_) | (refine CL.condP rfl (fun _ => ?_) (fun _ => ?_) <;> try (exfalso; omega)) | (refine CL.condT rfl ?_) | (refine CL.condF rfl ?_) | (refine CL.cond rfl (fun _ => ?_) (fun _ => ?_)) | (refine CL.block ?_) | (refine CL.exit ?_) | (refine Ex.then ?_) | (refine Ex.hit ?_) | (refine Ex.miss rfl ?_) | (refine CL.ret ?_) | (refine Rt.then ?_) | (refine Rt.block ?_) | (refine Pn.then ?_) | (refine Pn.block ?_) | (refine CL.done ?_) | (refine Nm.block ?_) | (refine Nm.then ?_) | (refine Gt.nil ?_; refine RW.nilw [0, 1, 2, 6, 7, 8, 9, 10, 11, 12, 13, 14, 15, 17, 42, 73] ?_; dsimp only [H.keep, H.look, H.Fr.put, Nat.beq]) | (refine Gt.move ?_; refine RW.y (Y.move rfl) rfl ?_) | (refine Gt.guard ?_; first | (refine RW.part rfl rfl rfl (fun _ => ?_) (fun _ => ?_) <;> try (exfalso; omega)) | (refine RW.on rfl rfl rfl ?_) | (refine RW.off1 rfl rfl rfl rfl rfl ?_) | (refine RW.off rfl rfl rfl rfl rfl ?_) | (refine RW.offu rfl rfl rfl rfl ?_) | (refine RW.partb rfl rfl rfl (fun _ => ?_) (fun _ => ?_))) | (refine Gt.pick ?_; first | (refine RW.y (Y.pickT rfl rfl) rfl ?_) | (refine RW.y (Y.pickF rfl rfl) rfl ?_)) | (refine Gt.load ?_; first | (refine RW.y (Y.loadB rfl (by assumption) rfl) rfl ?_) | (refine RW.y (Y.loadBlock rfl (by assumption) rfl) rfl ?_)) | (refine Gt.assign ?_; refine RW.y (Y.assign rfl) rfl ?_) | (refine Gt.extract ?_; refine RW.y (Y.extract rfl rfl) rfl ?_) | (refine Gt.neq ?_; first | (refine RW.y (Y.nei rfl rfl) rfl ?_) | (refine RW.y (Y.nes rfl rfl) rfl ?_) | (refine RW.y (Y.nepn rfl rfl) rfl ?_)) | (refine Gt.not ?_; first | (refine RW.y (Y.not rfl) rfl ?_) | (refine RW.y (Y.notb rfl) rfl ?_)) | (refine Gt.leq ?_; refine RW.y (Y.leq rfl rfl) rfl ?_) | (refine Gt.geq ?_; refine RW.y (Y.geq rfl rfl) rfl ?_) | (refine Gt.lss ?_; refine RW.y (Y.lss rfl rfl) rfl ?_) | (refine Gt.neg ?_; first | (refine RW.y (Y.neg64 rfl (by omega) (by omega)) rfl ?_) | (refine RW.y (Y.neg rfl) rfl ?_)) | (refine Gt.eql ?_; first | (refine RW.y (Y.eqi rfl rfl) rfl ?_) | (refine RW.y (Y.eqs rfl rfl) rfl ?_)) | (refine Gt.gtr ?_; refine RW.y (Y.gtr rfl rfl) rfl ?_))
  · exact FQ.one rfl rfl rfl ⟨rfl, hK6⟩
  · exact FQ.one rfl rfl rfl ⟨rfl, hK6⟩
  · exact FQ.one rfl rfl rfl ⟨rfl, hK6⟩
  rename_i n1 n2 n3
  have hxy := hxy (by simpa using n1) (by simpa using n2)
  have O := cmpV_ord
  refine CL.draw (fun w' => K0 w6 w') (by kernel_rfl) (fun w7 hheap hk7 => ?_)
  have hS : K0 w6 w7 := hk7
  skip
  refine AW.take 0 rfl (by kernel_rfl) (by kernel_rfl) (by kernel_rfl) rfl (by assumption) (fun w hS => Y.loadBlock rfl (hS.at0 hX6) rfl) ?_
  refine AW.take 1 rfl (by kernel_rfl) (by kernel_rfl) (by kernel_rfl) rfl (by assumption) (fun w hS => Y.loadBlock rfl (hS.at0 hY6) rfl) ?_
  refine AW.take 3 rfl (by kernel_rfl) (by kernel_rfl) (by kernel_rfl) rfl (by assumption) (fun w hS => Y.loadBlock rfl (hS.at0 hY6) rfl) ?_
  refine AW.take 4 rfl (by kernel_rfl) (by kernel_rfl) (by kernel_rfl) rfl (by assumption) (fun w hS => Y.loadBlock rfl (hS.at0 hb6) rfl) ?_
  refine AW.take 6 rfl (by kernel_rfl) (by kernel_rfl) (by kernel_rfl) rfl (by assumption) (fun w hS => Y.loadBlock rfl (hS.at0 hX6) rfl) ?_
  refine AW.take 7 rfl (by kernel_rfl) (by kernel_rfl) (by kernel_rfl) rfl (by assumption) (fun w hS => Y.loadBlock rfl (hS.at0 hb6) rfl) ?_
  refine AW.next 2 rfl (by kernel_rfl) ?_
  refine RW.fn rfl rfl ((cmpW _ _ x y w7 (ax hk7) (ay hk7) fx fy).mono ?_)
  rintro e w8 ⟨hk8, rfl⟩
  refine RW.nil (Nm.then (rebase0 hS hk8 fun hS => ?_))
  skip
  refine AW.next 5 rfl (by kernel_rfl) ?_
  refine RW.fn rfl rfl ((cmpW _ _ y z w8 (ay (hk7.trans0 hk8)) (az (hk7.trans0 hk8)) fy fz).mono ?_)
  rintro e w9 ⟨hk9, rfl⟩
  refine RW.nil (Nm.then (rebase0 hS hk9 fun hS => ?_))
  refine AW.next 8 rfl (by kernel_rfl) ?_
  refine RW.fn rfl rfl ((cmpW _ _ x z w9 (ax ((hk7.trans0 hk8).trans0 hk9)) (az ((hk7.trans0 hk8).trans0 hk9)) fx fz).mono ?_)
  rintro e w10 ⟨hk10, rfl⟩
  refine RW.nil (Nm.then (rebase0 hS hk10 fun hS => ?_))
  refine AW.take 9 rfl (by kernel_rfl) (by kernel_rfl) (by kernel_rfl) rfl (by assumption) (fun w hS => Y.assign rfl) ?_
  refine AW.take 10 rfl (by kernel_rfl) (by kernel_rfl) (by kernel_rfl) rfl (by assumption) (fun w hS => Y.assign rfl) ?_
  refine AW.take 11 rfl (by kernel_rfl) (by kernel_rfl) (by kernel_rfl) rfl (by assumption) (fun w hS => Y.assign rfl) ?_
  refine AW.donew [6, 7, 9, 13, 14, 15] (by kernel_rfl) ?_
  dsimp only [H.keep, H.look, H.Fr.put, Nat.beq]
  have hk610 : K0 w6 w10 := ((hk7.trans0 hk8).trans0 hk9).trans0 hk10
  have hX10 := hk610.at0 hX6
  have hY10 := hk610.at0 hY6
  have bd := cmpV_bd x y
  have T1 : cmpV x y ≤ 0 → cmpV y z ≤ 0 → cmpV x z ≤ 0 := O.trans x y z
  have T2 : cmpV x y ≤ 0 → cmpV y z < 0 → cmpV x z < 0 := fun h1 h2 => O.lt h1 h2
  have T3 : 0 ≤ cmpV x y → 0 ≤ cmpV y z → 0 ≤ cmpV x z := fun h1 h2 => O.ge h1 h2
  repeat' (first | (refine CL.seq ?_) | (refine CL.region ?_) | (refine CL.skip ?_) | (refine CL.condP rfl (fun _ => ?_) (fun _ => ?_) <;> try (exfalso; omega)) | (refine CL.condT rfl ?_) | (refine CL.condF rfl ?_) | (refine CL.cond rfl (fun _ => ?_) (fun _ => ?_)) | (refine CL.block ?_) | (refine CL.exit ?_) | (refine Ex.then ?_) | (refine Ex.hit ?_) | (refine Ex.miss rfl ?_) | (refine CL.ret ?_) | (refine Rt.then ?_) | (refine Rt.block ?_) | (refine Pn.then ?_) | (refine Pn.block ?_) | (refine CL.done ?_) | (refine Nm.block ?_) | (refine Nm.then ?_) | (refine Gt.nil ?_; refine RW.nilw [0, 1, 2, 6, 7, 8, 9, 10, 11, 12, 13, 14, 15, 17, 42, 73] ?_; dsimp only [H.keep, H.look, H.Fr.put, Nat.beq]) | (refine Gt.move ?_; refine RW.y (Y.move rfl) rfl ?_) | (refine Gt.guard ?_; first | (refine RW.part rfl rfl rfl (fun _ => ?_) (fun _ => ?_) <;> try (exfalso; omega)) | (refine RW.on rfl rfl rfl ?_) | (refine RW.off1 rfl rfl rfl rfl rfl ?_) | (refine RW.off rfl rfl rfl rfl rfl ?_) | (refine RW.offu rfl rfl rfl rfl ?_) | (refine RW.partb rfl rfl rfl (fun _ => ?_) (fun _ => ?_))) | (refine Gt.pick ?_; first | (refine RW.y (Y.pickT rfl rfl) rfl ?_) | (refine RW.y (Y.pickF rfl rfl) rfl ?_)) | (refine Gt.load ?_; first | (refine RW.y (Y.loadB rfl (by assumption) rfl) rfl ?_) | (refine RW.y (Y.loadBlock rfl (by assumption) rfl) rfl ?_)) | (refine Gt.assign ?_; refine RW.y (Y.assign rfl) rfl ?_) | (refine Gt.extract ?_; refine RW.y (Y.extract rfl rfl) rfl ?_) | (refine Gt.neq ?_; first | (refine RW.y (Y.nei rfl rfl) rfl ?_) | (refine RW.y (Y.nes rfl rfl) rfl ?_) | (refine RW.y (Y.nepn rfl rfl) rfl ?_)) | (refine Gt.not ?_; first | (refine RW.y (Y.not rfl) rfl ?_) | (refine RW.y (Y.notb rfl) rfl ?_)) | (refine Gt.leq ?_; refine RW.y (Y.leq rfl rfl) rfl ?_) | (refine Gt.geq ?_; refine RW.y (Y.geq rfl rfl) rfl ?_) | (refine Gt.lss ?_; refine RW.y (Y.lss rfl rfl) rfl ?_) | (refine Gt.neg ?_; first | (refine RW.y (Y.neg64 rfl (by omega) (by omega)) rfl ?_) | (refine RW.y (Y.neg rfl) rfl ?_)) | (refine Gt.eql ?_; first | (refine RW.y (Y.eqi rfl rfl) rfl ?_) | (refine RW.y (Y.eqs rfl rfl) rfl ?_)) | (refine Gt.gtr ?_; refine RW.y (Y.gtr rfl rfl) rfl ?_))
  refine CL.draw (fun w' => K0 w10 w') (by kernel_rfl) (fun w11 hheap11 hk11 => ?_)
  have hS : K0 w10 w11 := hk11
  have hk611 := hk610.trans0 hk11
  skip
  refine AW.take 0 rfl (by kernel_rfl) (by kernel_rfl) (by kernel_rfl) rfl (by assumption) (fun w hS => Y.loadBlock rfl (hS.at0 hX10) rfl) ?_
  refine AW.take 1 rfl (by kernel_rfl) (by kernel_rfl) (by kernel_rfl) rfl (by assumption) (fun w hS => Y.loadBlock rfl (hS.at0 hX10) rfl) ?_
  refine AW.next 2 rfl (by kernel_rfl) ?_
  refine RW.fn rfl rfl ((cmpW _ _ x x w11 (ax hk611) (ax hk611) fx fx).mono ?_)
  rintro e w12 ⟨hk12, rfl⟩
  rw [O.self x]
  refine RW.nil (Nm.then (rebase0 hS hk12 fun hS => ?_))
  have hX12 := hk12.at0 (hk11.at0 hX10)
  have hY12 := hk12.at0 (hk11.at0 hY10)
  have hk612 := hk611.trans0 hk12
  refine AW.take 3 rfl (by kernel_rfl) (by kernel_rfl) (by kernel_rfl) rfl (by assumption) (fun w hS => Y.neiS rfl rfl) ?_
  refine AW.take 4 rfl (by kernel_rfl) (by kernel_rfl) (by kernel_rfl) rfl (by assumption) (fun w hS => Y.move rfl) ?_
  refine AW.takeOn 5 rfl (by kernel_rfl) (by kernel_rfl) (by kernel_rfl) rfl rfl rfl rfl (by assumption) (fun w hS => Y.loadBlock rfl (hS.at0 hY12) rfl) ?_
  refine AW.takeOn 6 rfl (by kernel_rfl) (by kernel_rfl) (by kernel_rfl) rfl rfl rfl rfl (by assumption) (fun w hS => Y.loadBlock rfl (hS.at0 hX12) rfl) ?_
  refine AW.takeOn 8 rfl (by kernel_rfl) (by kernel_rfl) (by kernel_rfl) rfl rfl rfl rfl (by assumption) (fun w hS => Y.move rfl) ?_
  refine AW.takeOn 9 rfl (by kernel_rfl) (by kernel_rfl) (by kernel_rfl) rfl rfl rfl rfl (by assumption) (fun w hS => Y.neg64 rfl (by omega) (by omega)) ?_
  refine AW.next 7 rfl (by kernel_rfl) ?_
  refine RW.on rfl rfl rfl ?_
  refine RW.fn rfl rfl ((cmpW _ _ y x w12 (ay hk612) (ax hk612) fy fx).mono ?_)
  rintro e w13 ⟨hk13, rfl⟩
  rw [show cmpV y x = 0 - cmpV x y from by rw [O.anti x y]; omega]
  refine RW.nil (Nm.then (rebase0 hS hk13 fun hS => ?_))
  have hX13 := hk13.at0 hX12
  have hY13 := hk13.at0 hY12
  have hk613 := hk612.trans0 hk13
  refine AW.takeOn 10 rfl (by kernel_rfl) (by kernel_rfl) (by kernel_rfl) rfl rfl rfl rfl (by assumption) (fun w hS => Y.neiS rfl rfl) ?_
  refine AW.take 11 rfl (by kernel_rfl) (by kernel_rfl) (by kernel_rfl) rfl (by assumption) (fun w hS => by first | exact Y.pickT rfl rfl | exact Y.pickF rfl rfl) ?_
  refine AW.take 12 rfl (by kernel_rfl) (by kernel_rfl) (by kernel_rfl) rfl (by assumption) (fun w hS => Y.move rfl) ?_
  refine AW.takeOn 13 rfl (by kernel_rfl) (by kernel_rfl) (by kernel_rfl) rfl rfl rfl rfl (by assumption) (fun w hS => Y.move rfl) ?_
  refine AW.takeOn 14 rfl (by kernel_rfl) (by kernel_rfl) (by kernel_rfl) rfl rfl rfl rfl (by assumption) (fun w hS => by first | exact Y.eqsR rfl rfl | exact Y.eqi rfl rfl | exact Y.eqb rfl rfl | exact Y.eqs rfl rfl | exact Y.eqpn rfl rfl) ?_
  refine AW.takeOn 15 rfl (by kernel_rfl) (by kernel_rfl) (by kernel_rfl) rfl rfl rfl rfl (by assumption) (fun w hS => Y.loadBlock rfl (hS.at0 hX13) rfl) ?_
  refine AW.takeOn 17 rfl (by kernel_rfl) (by kernel_rfl) (by kernel_rfl) rfl rfl rfl rfl (by assumption) (fun w hS => Y.loadBlock rfl (hS.at0 hY13) rfl) ?_
  refine AW.next 16 rfl (by kernel_rfl) ?_
  refine RW.on rfl rfl rfl ?_
  refine RW.fn rfl rfl ((text _ x w13 (ax hk613) fx (hT.keep0 (hK6.trans0 hk613)) (by omega) (by omega) (by omega)).mono ?_)
  rintro e w14 ⟨hk14, rfl⟩
  refine RW.nil (Nm.then (rebase0 hS hk14 fun hS => ?_))
  refine AW.next 18 rfl (by kernel_rfl) ?_
  refine RW.on rfl rfl rfl ?_
  refine RW.fn rfl rfl ((text _ y w14 (ay (hk613.trans0 hk14)) fy (hT.keep0 ((hK6.trans0 hk613).trans0 hk14)) (by omega) (by omega) (by omega)).mono ?_)
  rintro e w15 ⟨hk15, rfl⟩
  refine RW.nil (Nm.then (rebase0 hS hk15 fun hS => ?_))
  have hbb : decide (cmpV x y = 0) = decide (textV x = textV y) := by rw [Bool.eq_iff_iff, decide_eq_true_eq, decide_eq_true_eq]; exact hxy
  refine AW.takeOn 19 rfl (by kernel_rfl) (by kernel_rfl) (by kernel_rfl) rfl rfl rfl rfl (by assumption) (fun w hS => by first | exact Y.eqsR rfl rfl | exact Y.eqi rfl rfl | exact Y.eqb rfl rfl | exact Y.eqs rfl rfl | exact Y.eqpn rfl rfl) ?_
  refine AW.takeOn 20 rfl (by kernel_rfl) (by kernel_rfl) (by kernel_rfl) rfl rfl rfl rfl (by assumption) (fun w hS => Y.nebE rfl rfl hbb) ?_
  refine AW.take 21 rfl (by kernel_rfl) (by kernel_rfl) (by kernel_rfl) rfl (by assumption) (fun w hS => by first | exact Y.pickT rfl rfl | exact Y.pickF rfl rfl) ?_
  refine AW.donew [6, 13, 14, 15, 73] (by kernel_rfl) ?_
  dsimp only [H.keep, H.look, H.Fr.put, Nat.beq]
  have hK15 : K0 w w15 := (((hK6.trans0 hk613).trans0 hk14).trans0 hk15)
  generalize cmpV x y = c1 at *
  generalize cmpV y z = c2 at *
  generalize cmpV x z = c3 at *
  clear hxy hbb
  repeat' (first | (refine CL.seq ?_) | (refine CL.region ?_) | (refine CL.skip ?_) | (refine CL.condP rfl (fun _ => ?_) (fun _ => ?_) <;> try (exfalso; omega)) | (refine CL.condT rfl ?_) | (refine CL.condF rfl ?_) | (refine CL.cond rfl (fun _ => ?_) (fun _ => ?_)) | (refine CL.block ?_) | (refine CL.exit ?_) | (refine Ex.then ?_) | (refine Ex.hit ?_) | (refine Ex.miss rfl ?_) | (refine CL.ret ?_) | (refine Rt.then ?_) | (refine Rt.block ?_) | (refine Pn.then ?_) | (refine Pn.block ?_) | (refine CL.done ?_) | (refine Nm.block ?_) | (refine Nm.then ?_) | (refine Gt.nil ?_; refine RW.nilw [0, 1, 2, 6, 7, 8, 9, 10, 11, 12, 13, 14, 15, 17, 42, 73] ?_; dsimp only [H.keep, H.look, H.Fr.put, Nat.beq]) | (refine Gt.move ?_; refine RW.y (Y.move rfl) rfl ?_) | (refine Gt.guard ?_; first | (refine RW.part rfl rfl rfl (fun _ => ?_) (fun _ => ?_) <;> try (exfalso; omega)) | (refine RW.on rfl rfl rfl ?_) | (refine RW.off1 rfl rfl rfl rfl rfl ?_) | (refine RW.off rfl rfl rfl rfl rfl ?_) | (refine RW.offu rfl rfl rfl rfl ?_) | (refine RW.partb rfl rfl rfl (fun _ => ?_) (fun _ => ?_))) | (refine Gt.pick ?_; first | (refine RW.y (Y.pickT rfl rfl) rfl ?_) | (refine RW.y (Y.pickF rfl rfl) rfl ?_)) | (refine Gt.load ?_; first | (refine RW.y (Y.loadB rfl (by assumption) rfl) rfl ?_) | (refine RW.y (Y.loadBlock rfl (by assumption) rfl) rfl ?_)) | (refine Gt.assign ?_; refine RW.y (Y.assign rfl) rfl ?_) | (refine Gt.extract ?_; refine RW.y (Y.extract rfl rfl) rfl ?_) | (refine Gt.neq ?_; first | (refine RW.y (Y.nei rfl rfl) rfl ?_) | (refine RW.y (Y.nes rfl rfl) rfl ?_) | (refine RW.y (Y.nepn rfl rfl) rfl ?_)) | (refine Gt.not ?_; first | (refine RW.y (Y.not rfl) rfl ?_) | (refine RW.y (Y.notb rfl) rfl ?_)) | (refine Gt.leq ?_; refine RW.y (Y.leq rfl rfl) rfl ?_) | (refine Gt.geq ?_; refine RW.y (Y.geq rfl rfl) rfl ?_) | (refine Gt.lss ?_; refine RW.y (Y.lss rfl rfl) rfl ?_) | (refine Gt.neg ?_; first | (refine RW.y (Y.neg64 rfl (by omega) (by omega)) rfl ?_) | (refine RW.y (Y.neg rfl) rfl ?_)) | (refine Gt.eql ?_; first | (refine RW.y (Y.eqi rfl rfl) rfl ?_) | (refine RW.y (Y.eqs rfl rfl) rfl ?_)) | (refine Gt.gtr ?_; refine RW.y (Y.gtr rfl rfl) rfl ?_))
  all_goals first
    | exact FQ.one rfl rfl rfl ⟨rfl, hK15⟩
    | exact FQ.one rfl rfl rfl ⟨by rw [decide_eq_true (by omega)], hK15⟩
end Go.Proofs.YteihfeghbpklkaaDoor.Ve
