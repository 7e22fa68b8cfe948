/-
  It is proved that the statement NetFaults returns true for every input and does not panic. Conditions: none.
-/
import Derived.Test.YtlbegmpikggmlaaQc
import Derived.Test.YtlbegmpikggmlaaQd
import Derived.Test.YtlbegmpikggmlaaQa
import Derived.WalkKit
import Derived.ProofKit
import Derived.OpenShut
import Derived.Carry
import Derived.ChangeArms
import Derived.Deep.Slices
import Derived.Test.YtlbegmpikggmlaaRows
set_option linter.unusedVariables false
namespace Go.Proofs.Ytlbegmpikggmlaa.Ve
open Go.RowKit H S
attribute [local irreducible] H.CL H.RW H.CW H.Yd H.thenK H.blockQ Go.Calls

set_option maxHeartbeats 400000 in
theorem helpStrings (v u : Value) (a b : List (List UInt8)) (w : World) (ha : Sl w 1 v a.length (sv a)) (hb : Sl w 1 u b.length (sv b)) : Calls Try.prog 68 #[v, u] w fun e w' => K0 w w' ∧ e = .returned (.bool (decide (a = b))) := by
  have hml : a.length ≤ 9223372036854775807 := by have := ha.2.1; simpa [maxLen] using this
  refine H.enter Try.func68 Try.ntmps68 rfl rfl ?_; dsimp only [H.args]
  repeat' (first | (refine CL.seq ?_) | (refine CL.region ?_) | (refine CL.skip ?_) | (refine CL.condP rfl (fun _ => ?_) (fun _ => ?_) <;> try (exfalso; omega)) | (refine CL.condT rfl ?_) | (refine CL.condF rfl ?_) | (refine CL.cond rfl (fun _ => ?_) (fun _ => ?_)) | (refine CL.block ?_) | (refine CL.exit ?_) | (refine Ex.then ?_) | (refine Ex.hit ?_) | (refine Ex.miss rfl ?_) | (refine CL.ret ?_) | (refine Rt.then ?_) | (refine Rt.block ?_) | (refine Pn.then ?_) | (refine Pn.block ?_) | (refine CL.done ?_) | (refine Nm.block ?_) | (refine Nm.then ?_) | (refine Gt.nil ?_; refine RW.nilw [0, 1, 4, 5, 10, 14, 25] ?_; dsimp only [H.keep, H.look, H.Fr.put, Nat.beq]) | (refine Gt.move ?_; refine RW.y (Y.move rfl) rfl ?_) | (refine Gt.assign ?_; refine RW.y (Y.assign rfl) rfl ?_) | (refine Gt.len ?_; first | (refine RW.y (Y.lenv rfl) rfl ?_) | (refine RW.y (Y.lenx rfl (by assumption)) rfl ?_)) | (refine Gt.idx ?_; refine RW.elemS rfl rfl rfl rfl (by assumption) (by omega) (by omega) ?_) | (refine Gt.load ?_; refine RW.y (Y.loadB rfl (by assumption) rfl) rfl ?_) | (refine Gt.neq ?_; first | (refine RW.y (Y.nei rfl rfl) rfl ?_) | (refine RW.y (Y.nes rfl rfl) rfl ?_)) | (refine Gt.lss ?_; refine RW.y (Y.lss rfl rfl) rfl ?_) | (refine Gt.add ?_; refine RW.y (Y.add64 rfl rfl (by omega) (by omega)) rfl ?_))
  · rename_i h
    refine FQ.one rfl rfl rfl ⟨Kept.refl _ _, ?_⟩
    rw [decide_eq_false]
    intro c; subst c; exact h rfl
  rename_i hlen
  have hlen' : a.length = b.length := by omega
  refine CL.loopS [0, 1, 5] (fun m vals wr => ∃ (i : Nat), vals = [v, u, .int .i64 (i : Int)] ∧ m = a.length - i ∧ i ≤ a.length ∧ a.take i = b.take i ∧ K0 w wr) a.length ⟨_, rfl, 0, rfl, rfl, Nat.zero_le _, rfl, Kept.refl _ _⟩ ?_
  rintro m vals wr ⟨i, rfl, rfl, hil, heq, hk⟩
  dsimp only [List.zip, List.zipWith]
  have ha' := ha.keep0 hk
  have hb' := hb.keep0 hk
  rcases Nat.lt_or_ge i a.length with hlt | hge
  · repeat' (first | (refine CL.seq ?_) | (refine CL.region ?_) | (refine CL.skip ?_) | (refine CL.condP rfl (fun _ => ?_) (fun _ => ?_) <;> try (exfalso; omega)) | (refine CL.condT rfl ?_) | (refine CL.condF rfl ?_) | (refine CL.cond rfl (fun _ => ?_) (fun _ => ?_)) | (refine CL.block ?_) | (refine CL.exit ?_) | (refine Ex.then ?_) | (refine Ex.hit ?_) | (refine Ex.miss rfl ?_) | (refine CL.ret ?_) | (refine Rt.then ?_) | (refine Rt.block ?_) | (refine Pn.then ?_) | (refine Pn.block ?_) | (refine CL.done ?_) | (refine Nm.block ?_) | (refine Nm.then ?_) | (refine Gt.nil ?_; refine RW.nilw [0, 1, 4, 5, 10, 14, 25] ?_; dsimp only [H.keep, H.look, H.Fr.put, Nat.beq]) | (refine Gt.move ?_; refine RW.y (Y.move rfl) rfl ?_) | (refine Gt.assign ?_; refine RW.y (Y.assign rfl) rfl ?_) | (refine Gt.len ?_; first | (refine RW.y (Y.lenv rfl) rfl ?_) | (refine RW.y (Y.lenx rfl (by assumption)) rfl ?_)) | (refine Gt.idx ?_; refine RW.elemS rfl rfl rfl rfl (by assumption) (by omega) (by omega) ?_) | (refine Gt.load ?_; refine RW.y (Y.loadB rfl (by assumption) rfl) rfl ?_) | (refine Gt.neq ?_; first | (refine RW.y (Y.nei rfl rfl) rfl ?_) | (refine RW.y (Y.nes rfl rfl) rfl ?_)) | (refine Gt.lss ?_; refine RW.y (Y.lss rfl rfl) rfl ?_) | (refine Gt.add ?_; refine RW.y (Y.add64 rfl rfl (by omega) (by omega)) rfl ?_))
    refine CL.draw (fun w' => Kept (fun _ => False) wr w') (by kernel_rfl) (fun w4 hheap hk4 => ?_)
    have hS : Kept (fun _ => False) wr w4 := hk4
    have hc1 : ∀ {w' : World}, K0 wr w' → w'.cell? (Value.spot v (((i : Int)).toNat * 1)) = some (vs (a.getD i [])) := fun h => by rw [Int.toNat_natCast, Nat.mul_one]; exact (ha'.keep0 h).cell (sv_at hlt)
    have hc2 : ∀ {w' : World}, K0 wr w' → w'.cell? (Value.spot u (((i : Int)).toNat * 1)) = some (vs (b.getD i [])) := fun h => by rw [Int.toNat_natCast, Nat.mul_one]; exact (hb'.keep0 h).cell (sv_at (by omega))
    skip
    refine AW.take 0 rfl (by kernel_rfl) (by kernel_rfl) (by kernel_rfl) rfl (by assumption) (fun w hS => Y.move rfl) ?_
    refine AW.take 1 rfl (by kernel_rfl) (by kernel_rfl) (by kernel_rfl) rfl (by assumption) (fun w hS => Y.move rfl) ?_
    refine AW.take 2 rfl (by kernel_rfl) (by kernel_rfl) (by kernel_rfl) rfl (by assumption) (fun w hS => Y.idx rfl rfl (ha'.keep0 hS) (by omega) (by omega)) ?_
    refine AW.take 3 rfl (by kernel_rfl) (by kernel_rfl) (by kernel_rfl) rfl (by assumption) (fun w hS => Y.load1 rfl (hc1 hS)) ?_
    refine AW.take 4 rfl (by kernel_rfl) (by kernel_rfl) (by kernel_rfl) rfl (by assumption) (fun w hS => Y.move rfl) ?_
    refine AW.take 5 rfl (by kernel_rfl) (by kernel_rfl) (by kernel_rfl) rfl (by assumption) (fun w hS => Y.move rfl) ?_
    refine AW.take 6 rfl (by kernel_rfl) (by kernel_rfl) (by kernel_rfl) rfl (by assumption) (fun w hS => Y.idx rfl rfl (hb'.keep0 hS) (by omega) (by omega)) ?_
    refine AW.take 7 rfl (by kernel_rfl) (by kernel_rfl) (by kernel_rfl) rfl (by assumption) (fun w hS => Y.load1 rfl (hc2 hS)) ?_
    refine AW.take 8 rfl (by kernel_rfl) (by kernel_rfl) (by kernel_rfl) rfl (by assumption) (fun w hS => by first | exact Y.nei rfl rfl | exact Y.nes rfl rfl | exact Y.nepn rfl rfl) ?_
    refine AW.donew [0, 1, 5, 25] (by kernel_rfl) ?_
    dsimp only [H.keep, H.look, H.Fr.put, Nat.beq]
    repeat' (first | (refine CL.seq ?_) | (refine CL.region ?_) | (refine CL.skip ?_) | (refine CL.condP rfl (fun _ => ?_) (fun _ => ?_) <;> try (exfalso; omega)) | (refine CL.condT rfl ?_) | (refine CL.condF rfl ?_) | (refine CL.cond rfl (fun _ => ?_) (fun _ => ?_)) | (refine CL.block ?_) | (refine CL.exit ?_) | (refine Ex.then ?_) | (refine Ex.hit ?_) | (refine Ex.miss rfl ?_) | (refine CL.ret ?_) | (refine Rt.then ?_) | (refine Rt.block ?_) | (refine Pn.then ?_) | (refine Pn.block ?_) | (refine CL.done ?_) | (refine Nm.block ?_) | (refine Nm.then ?_) | (refine Gt.nil ?_; refine RW.nilw [0, 1, 4, 5, 10, 14, 25] ?_; dsimp only [H.keep, H.look, H.Fr.put, Nat.beq]) | (refine Gt.move ?_; refine RW.y (Y.move rfl) rfl ?_) | (refine Gt.assign ?_; refine RW.y (Y.assign rfl) rfl ?_) | (refine Gt.len ?_; first | (refine RW.y (Y.lenv rfl) rfl ?_) | (refine RW.y (Y.lenx rfl (by assumption)) rfl ?_)) | (refine Gt.idx ?_; refine RW.elemS rfl rfl rfl rfl (by assumption) (by omega) (by omega) ?_) | (refine Gt.load ?_; refine RW.y (Y.loadB rfl (by assumption) rfl) rfl ?_) | (refine Gt.neq ?_; first | (refine RW.y (Y.nei rfl rfl) rfl ?_) | (refine RW.y (Y.nes rfl rfl) rfl ?_)) | (refine Gt.lss ?_; refine RW.y (Y.lss rfl rfl) rfl ?_) | (refine Gt.add ?_; refine RW.y (Y.add64 rfl rfl (by omega) (by omega)) rfl ?_))
    · rename_i h
      refine FQ.one rfl rfl rfl ⟨hk.trans0 hk4, ?_⟩
      rw [decide_eq_false]
      intro c; subst c; exact h rfl
    · rename_i h
      have hx : a.getD i [] = b.getD i [] := Decidable.not_not.1 h
      refine ⟨a.length - (i + 1), _, rfl, rfl, rfl, by omega, i + 1, by simp, rfl, by omega, ?_, hk.trans0 hk4⟩
      have h1 := take_snoc [] a i hlt
      have h2 := take_snoc [] b i (by omega)
      rw [h1, h2, heq]
      rw [hx]
  · have hi : i = a.length := by omega
    subst hi
    rw [List.take_length, hlen', List.take_length] at heq
    repeat' (first | (refine CL.seq ?_) | (refine CL.region ?_) | (refine CL.skip ?_) | (refine CL.condP rfl (fun _ => ?_) (fun _ => ?_) <;> try (exfalso; omega)) | (refine CL.condT rfl ?_) | (refine CL.condF rfl ?_) | (refine CL.cond rfl (fun _ => ?_) (fun _ => ?_)) | (refine CL.block ?_) | (refine CL.exit ?_) | (refine Ex.then ?_) | (refine Ex.hit ?_) | (refine Ex.miss rfl ?_) | (refine CL.ret ?_) | (refine Rt.then ?_) | (refine Rt.block ?_) | (refine Pn.then ?_) | (refine Pn.block ?_) | (refine CL.done ?_) | (refine Nm.block ?_) | (refine Nm.then ?_) | (refine Gt.nil ?_; refine RW.nilw [0, 1, 4, 5, 10, 14, 25] ?_; dsimp only [H.keep, H.look, H.Fr.put, Nat.beq]) | (refine Gt.move ?_; refine RW.y (Y.move rfl) rfl ?_) | (refine Gt.assign ?_; refine RW.y (Y.assign rfl) rfl ?_) | (refine Gt.len ?_; first | (refine RW.y (Y.lenv rfl) rfl ?_) | (refine RW.y (Y.lenx rfl (by assumption)) rfl ?_)) | (refine Gt.idx ?_; refine RW.elemS rfl rfl rfl rfl (by assumption) (by omega) (by omega) ?_) | (refine Gt.load ?_; refine RW.y (Y.loadB rfl (by assumption) rfl) rfl ?_) | (refine Gt.neq ?_; first | (refine RW.y (Y.nei rfl rfl) rfl ?_) | (refine RW.y (Y.nes rfl rfl) rfl ?_)) | (refine Gt.lss ?_; refine RW.y (Y.lss rfl rfl) rfl ?_) | (refine Gt.add ?_; refine RW.y (Y.add64 rfl rfl (by omega) (by omega)) rfl ?_))
    refine FQ.one rfl rfl rfl ⟨hk, ?_⟩
    rw [decide_eq_true heq]

def eqV (x y : Ver) : Bool := decide (x.a = y.a) && decide (x.b = y.b) && decide (x.c = y.c) && decide (x.pre = y.pre)
theorem eqV_self (x : Ver) : eqV x x = true := by simp [eqV]

set_option maxHeartbeats 400000 in
theorem helpVersion (X Y : Value) (x y : Ver) (w : World) (hX : VerAt w X x) (hY : VerAt w Y y) : Calls Try.prog 55 #[X, Y] w fun e w' => K0 w w' ∧ e = .returned (.bool (eqV x y)) := by
  obtain ⟨p, rfl, hp⟩ := hX
  obtain ⟨q, rfl, hq⟩ := hY
  refine H.enter Try.func55 Try.ntmps55 rfl rfl ?_; dsimp only [H.args]
  repeat' (first | (refine CL.seq ?_) | (refine CL.region ?_) | (refine CL.skip ?_) | (refine CL.condP rfl (fun _ => ?_) (fun _ => ?_) <;> try (exfalso; omega)) | (refine CL.condT rfl ?_) | (refine CL.condF rfl ?_) | (refine CL.cond rfl (fun _ => ?_) (fun _ => ?_)) | (refine CL.block ?_) | (refine CL.exit ?_) | (refine Ex.then ?_) | (refine Ex.hit ?_) | (refine Ex.miss rfl ?_) | (refine CL.ret ?_) | (refine Rt.then ?_) | (refine Rt.block ?_) | (refine Pn.then ?_) | (refine Pn.block ?_) | (refine CL.done ?_) | (refine Nm.block ?_) | (refine Nm.then ?_) | (refine Gt.nil ?_; refine RW.nilw [0, 1, 2, 3, 4] ?_; dsimp only [H.keep, H.look, H.Fr.put, Nat.beq]) | (refine Gt.fieldAddr ?_; refine RW.y (Y.fieldAddr rfl (by rfl)) rfl ?_) | (refine Gt.guard ?_; first | (refine RW.part rfl rfl rfl (fun _ => ?_) (fun _ => ?_) <;> try (exfalso; omega)) | (refine RW.on rfl rfl rfl ?_) | (refine RW.off1 rfl rfl rfl rfl rfl ?_) | (refine RW.off rfl rfl rfl rfl rfl ?_) | (refine RW.offu rfl rfl rfl rfl ?_) | (refine RW.partb rfl rfl rfl (fun _ => ?_) (fun _ => ?_))) | (refine Gt.load ?_; refine RW.y (Y.loadB rfl (by assumption) rfl) rfl ?_) | (refine Gt.eql ?_; refine RW.y (Y.eqi rfl rfl) rfl ?_) | (refine Gt.move ?_; refine RW.y (Y.move rfl) rfl ?_) | (refine Gt.pick ?_; first | (refine RW.y (Y.pickT rfl rfl) rfl ?_) | (refine RW.y (Y.pickF rfl rfl) rfl ?_)) | (refine Gt.assign ?_; refine RW.y (Y.assign rfl) rfl ?_))
  refine RW.box rfl rfl (fun w1 hb1 hk1 hlt1 => ?_)
  repeat' (first | (refine CL.seq ?_) | (refine CL.region ?_) | (refine CL.skip ?_) | (refine CL.condP rfl (fun _ => ?_) (fun _ => ?_) <;> try (exfalso; omega)) | (refine CL.condT rfl ?_) | (refine CL.condF rfl ?_) | (refine CL.cond rfl (fun _ => ?_) (fun _ => ?_)) | (refine CL.block ?_) | (refine CL.exit ?_) | (refine Ex.then ?_) | (refine Ex.hit ?_) | (refine Ex.miss rfl ?_) | (refine CL.ret ?_) | (refine Rt.then ?_) | (refine Rt.block ?_) | (refine Pn.then ?_) | (refine Pn.block ?_) | (refine CL.done ?_) | (refine Nm.block ?_) | (refine Nm.then ?_) | (refine Gt.nil ?_; refine RW.nilw [0, 1, 2, 3, 4] ?_; dsimp only [H.keep, H.look, H.Fr.put, Nat.beq]) | (refine Gt.fieldAddr ?_; refine RW.y (Y.fieldAddr rfl (by rfl)) rfl ?_) | (refine Gt.guard ?_; first | (refine RW.part rfl rfl rfl (fun _ => ?_) (fun _ => ?_) <;> try (exfalso; omega)) | (refine RW.on rfl rfl rfl ?_) | (refine RW.off1 rfl rfl rfl rfl rfl ?_) | (refine RW.off rfl rfl rfl rfl rfl ?_) | (refine RW.offu rfl rfl rfl rfl ?_) | (refine RW.partb rfl rfl rfl (fun _ => ?_) (fun _ => ?_))) | (refine Gt.load ?_; refine RW.y (Y.loadB rfl (by assumption) rfl) rfl ?_) | (refine Gt.eql ?_; refine RW.y (Y.eqi rfl rfl) rfl ?_) | (refine Gt.move ?_; refine RW.y (Y.move rfl) rfl ?_) | (refine Gt.pick ?_; first | (refine RW.y (Y.pickT rfl rfl) rfl ?_) | (refine RW.y (Y.pickF rfl rfl) rfl ?_)) | (refine Gt.assign ?_; refine RW.y (Y.assign rfl) rfl ?_))
  refine RW.box rfl rfl (fun w2 hb2 hk2 hlt2 => ?_)
  have hX2 : w2.heap[w.heap.size]? = some (.cells #[.int .i64 x.a, .int .i64 x.b, .int .i64 x.c, p] verT (0, 0)) := hk2.at0 hb1
  have hY2 : w2.heap[w1.heap.size]? = some (.cells #[.int .i64 y.a, .int .i64 y.b, .int .i64 y.c, q] verT (0, 0)) := hb2
  have hK2 : K0 w w2 := hk1.trans0 hk2
  repeat' (first | (refine CL.seq ?_) | (refine CL.region ?_) | (refine CL.skip ?_) | (refine CL.condP rfl (fun _ => ?_) (fun _ => ?_) <;> try (exfalso; omega)) | (refine CL.condT rfl ?_) | (refine CL.condF rfl ?_) | (refine CL.cond rfl (fun _ => ?_) (fun _ => ?_)) | (refine CL.block ?_) | (refine CL.exit ?_) | (refine Ex.then ?_) | (refine Ex.hit ?_) | (refine Ex.miss rfl ?_) | (refine CL.ret ?_) | (refine Rt.then ?_) | (refine Rt.block ?_) | (refine Pn.then ?_) | (refine Pn.block ?_) | (refine CL.done ?_) | (refine Nm.block ?_) | (refine Nm.then ?_) | (refine Gt.nil ?_; refine RW.nilw [0, 1, 2, 3, 4] ?_; dsimp only [H.keep, H.look, H.Fr.put, Nat.beq]) | (refine Gt.fieldAddr ?_; refine RW.y (Y.fieldAddr rfl (by rfl)) rfl ?_) | (refine Gt.guard ?_; first | (refine RW.part rfl rfl rfl (fun _ => ?_) (fun _ => ?_) <;> try (exfalso; omega)) | (refine RW.on rfl rfl rfl ?_) | (refine RW.off1 rfl rfl rfl rfl rfl ?_) | (refine RW.off rfl rfl rfl rfl rfl ?_) | (refine RW.offu rfl rfl rfl rfl ?_) | (refine RW.partb rfl rfl rfl (fun _ => ?_) (fun _ => ?_))) | (refine Gt.load ?_; refine RW.y (Y.loadB rfl (by assumption) rfl) rfl ?_) | (refine Gt.eql ?_; refine RW.y (Y.eqi rfl rfl) rfl ?_) | (refine Gt.move ?_; refine RW.y (Y.move rfl) rfl ?_) | (refine Gt.pick ?_; first | (refine RW.y (Y.pickT rfl rfl) rfl ?_) | (refine RW.y (Y.pickF rfl rfl) rfl ?_)) | (refine Gt.assign ?_; refine RW.y (Y.assign rfl) rfl ?_))
  · rename_i h1 h2 h3
    refine RW.fn rfl rfl ((helpStrings p q x.pre y.pre w2 (hp.keep0 hK2) (hq.keep0 hK2)).mono ?_)
    rintro e w3 ⟨hk3, rfl⟩
    repeat' (first | (refine CL.seq ?_) | (refine CL.region ?_) | (refine CL.skip ?_) | (refine CL.condP rfl (fun _ => ?_) (fun _ => ?_) <;> try (exfalso; omega)) | (refine CL.condT rfl ?_) | (refine CL.condF rfl ?_) | (refine CL.cond rfl (fun _ => ?_) (fun _ => ?_)) | (refine CL.block ?_) | (refine CL.exit ?_) | (refine Ex.then ?_) | (refine Ex.hit ?_) | (refine Ex.miss rfl ?_) | (refine CL.ret ?_) | (refine Rt.then ?_) | (refine Rt.block ?_) | (refine Pn.then ?_) | (refine Pn.block ?_) | (refine CL.done ?_) | (refine Nm.block ?_) | (refine Nm.then ?_) | (refine Gt.nil ?_; refine RW.nilw [0, 1, 2, 3, 4] ?_; dsimp only [H.keep, H.look, H.Fr.put, Nat.beq]) | (refine Gt.fieldAddr ?_; refine RW.y (Y.fieldAddr rfl (by rfl)) rfl ?_) | (refine Gt.guard ?_; first | (refine RW.part rfl rfl rfl (fun _ => ?_) (fun _ => ?_) <;> try (exfalso; omega)) | (refine RW.on rfl rfl rfl ?_) | (refine RW.off1 rfl rfl rfl rfl rfl ?_) | (refine RW.off rfl rfl rfl rfl rfl ?_) | (refine RW.offu rfl rfl rfl rfl ?_) | (refine RW.partb rfl rfl rfl (fun _ => ?_) (fun _ => ?_))) | (refine Gt.load ?_; refine RW.y (Y.loadB rfl (by assumption) rfl) rfl ?_) | (refine Gt.eql ?_; refine RW.y (Y.eqi rfl rfl) rfl ?_) | (refine Gt.move ?_; refine RW.y (Y.move rfl) rfl ?_) | (refine Gt.pick ?_; first | (refine RW.y (Y.pickT rfl rfl) rfl ?_) | (refine RW.y (Y.pickF rfl rfl) rfl ?_)) | (refine Gt.assign ?_; refine RW.y (Y.assign rfl) rfl ?_))
    exact FQ.one rfl rfl rfl ⟨hK2.trans0 hk3, by simp [eqV, h1, h2, h3]⟩
  · rename_i h1 h2 h3
    exact FQ.one rfl rfl rfl ⟨hK2, by simp [eqV, h3]⟩
  · rename_i h1 h2
    exact FQ.one rfl rfl rfl ⟨hK2, by simp [eqV, h2]⟩
  · rename_i h1
    exact FQ.one rfl rfl rfl ⟨hK2, by simp [eqV, h1]⟩

def lightB (v : Ver) : Bool := decide (v.pre.length ≤ 6) && v.pre.all (fun s => decide (s.length ≤ 30))
theorem light_fit {v : Ver} (h : lightB v = true) : Fit v := by
  simp only [lightB, Bool.and_eq_true, decide_eq_true_eq, List.all_eq_true] at h
  exact ⟨by omega, fun s hs => by have := h.2 s hs; omega⟩

end Go.Proofs.Ytlbegmpikggmlaa.Ve

namespace Go.Proofs.Ytlbegmpikggmlaa.Sp
open Go.RowKit H S Ve
attribute [local irreducible] H.CL H.RW H.CW H.Yd H.thenK H.blockQ Go.Calls

theorem bdC_len : ∀ x, (bdC x).length = 5 := fun _ => rfl
theorem bdSpot {w : World} {v : Value} {L : List (Bd × Value)} (hs : Sl w 5 v L.length (L.flatMap bdC)) {k : Nat} (hk : k < L.length) : ∃ g o, Value.spot v ((k : Int).toNat * 5) = ⟨g, o, none⟩ ∧ ∀ w', K0 w w' → w'.cell? ⟨g, o, none⟩ = some (vs (L.getD k default).1.sign) ∧ ∀ j u, ([.int .i64 (L.getD k default).1.v.a, .int .i64 (L.getD k default).1.v.b, .int .i64 (L.getD k default).1.v.c, (L.getD k default).2] : List Value)[j]? = some u → w'.cell? ((⟨g, o + 1, none⟩ : Addr).add j) = some u := by
  obtain ⟨g, o, h1⟩ := elPtr hs (by omega) ((k : Int).toNat * 5)
  refine ⟨g, o, h1, fun w' hk' => ?_⟩
  have h2 := elCells (hs.keep0 hk') bdC_len hk
  rw [h1] at h2
  refine ⟨h2 0 _ rfl, fun j u hu => ?_⟩
  have := h2 (1 + j) u (by rw [Nat.add_comm]; exact hu)
  rw [addr_add] at this ⊢
  rw [Nat.add_assoc]; exact this
theorem getD_or {R : List (List Bd × Value)} {o : List (List Bd)} (h : R.map (·.1) = o) {i : Nat} (hi : i < R.length) : (R.getD i default).1 = o.getD i [] := by
  subst h; simp [List.getD_eq_getElem?_getD, hi]
theorem getD_bd {L : List (Bd × Value)} {l : List Bd} (h : L.map (·.1) = l) {i : Nat} (hi : i < L.length) : (L.getD i default).1 = l.getD i default := by
  subst h; simp [List.getD_eq_getElem?_getD, hi]

set_option maxHeartbeats 2000000 in
theorem helpSpanS (X Y : Value) (s : Spn) (w : World) (hX : SpanAt w X s) (hY : SpanAt w Y s) : Calls Try.prog 69 #[X, Y] w fun e w' => K0 w w' ∧ e = .returned (.bool true) := by
  obtain ⟨p, rfl, R, hR, hs, hm⟩ := hX
  obtain ⟨p', rfl, R', hR', hs', hm'⟩ := hY
  have hRl : R'.length = R.length := by have h1 := congrArg List.length hR; have h2 := congrArg List.length hR'; rw [List.length_map] at h1 h2; omega
  have hmx : R.length ≤ 9223372036854775807 := by have := hs.2.1; simpa [maxLen] using this
  rw [hRl] at hs'
  refine H.enter Try.func69 Try.ntmps69 rfl rfl ?_; dsimp only [H.args]
  repeat' (first | (refine CL.seq ?_) | (refine CL.region ?_))
  refine RW.box rfl rfl (fun w1 hb1 hk1 hlt1 => ?_)
  have hb1' : w1.heap[w.heap.size]? = some (.cells #[.bool s.any, p] spnT (0, 0)) := hb1
  refine RW.box rfl rfl (fun w2 hb2 hk2 hlt2 => ?_)
  have hb2' : w2.heap[w1.heap.size]? = some (.cells #[.bool s.any, p'] spnT (0, 0)) := hb2
  have hb12 := hk2.at0 hb1'
  have hK2 := hk1.trans0 hk2
  have hs2 := hs.keep0 hK2
  have hs2' := hs'.keep0 hK2
  repeat' (first | (refine CL.seq ?_) | (refine CL.region ?_) | (refine CL.skip ?_) | (refine CL.condP rfl (fun _ => ?_) (fun _ => ?_) <;> try (exfalso; omega)) | (refine CL.block ?_) | (refine Gt.nil ?_; refine RW.nilw [0, 1, 2, 3, 4, 5, 6, 20, 25, 40, 48, 91] ?_; dsimp only [H.keep, H.look, H.Fr.put, Nat.beq]) | (refine RW.y (Y.nebS rfl rfl) rfl ?_) | (refine Gt.load ?_; (refine RW.y (Y.loadB rfl (by assumption) rfl) rfl ?_)) | (refine Gt.guard ?_; (refine RW.on rfl rfl rfl ?_)) | (refine Gt.move ?_; refine RW.y (Y.move rfl) rfl ?_) | (refine Gt.fieldAddr ?_; refine RW.y (Y.fieldAddr rfl (by rfl)) rfl ?_) | (refine Gt.assign ?_; refine RW.y (Y.assign rfl) rfl ?_) | (refine Gt.len ?_; (refine RW.y (Y.lenx rfl (by assumption)) rfl ?_)) | (refine Gt.neq ?_; (refine RW.y (Y.nei rfl rfl) rfl ?_)) | (refine Gt.pick ?_; (refine RW.y (Y.pickF rfl rfl) rfl ?_)))
  all_goals try contradiction
  refine CL.loopS [2, 3, 5] (fun m vals wr => ∃ i : Nat, vals = [.pointer (some ⟨w.heap.size, 0, none⟩), .pointer (some ⟨w1.heap.size, 0, none⟩), .int .i64 (i : Int)] ∧ m = R.length - i ∧ i ≤ R.length ∧ K0 w2 wr) R.length ⟨_, rfl, 0, rfl, rfl, Nat.zero_le _, Kept.refl _ _⟩ ?_
  rintro m vals wr ⟨i, rfl, rfl, hi, hkr⟩
  dsimp only [List.zip, List.zipWith]
  have hsr := hs2.keep0 hkr
  have hsr' := hs2'.keep0 hkr
  have hbr1 := hkr.at0 hb12
  have hbr2 := hkr.at0 hb2'
  rcases Nat.lt_or_ge i R.length with hlt | hge
  · have hti : ((i : Int)).toNat = i := Int.toNat_natCast i
    have hKr := hK2.trans0 hkr
    obtain ⟨L, hL, hsL, hmL⟩ := (hm _ (getD_mem default hlt)).keep0 hKr
    obtain ⟨L', hL', hsL', hmL'⟩ := (hm' (R'.getD i default) (getD_mem default (by omega))).keep0 hKr
    rw [getD_or hR hlt] at hL
    rw [getD_or hR' (by omega)] at hL'
    have hLl : L'.length = L.length := by have h1 := congrArg List.length hL; have h2 := congrArg List.length hL'; rw [List.length_map] at h1 h2; omega
    have hmL9 : L.length ≤ 9223372036854775807 := by have := hsL.2.1; simpa [maxLen] using this
    rw [hLl] at hsL'
    have hc1 : ∀ {w' : World}, K0 wr w' → w'.cell? (Value.spot p (((i : Int)).toNat * 1)) = some (R.getD i default).2 := fun h => by rw [hti, Nat.mul_one]; exact (hsr.keep0 h).cell (by simp [List.getD_eq_getElem?_getD, hlt])
    have hc2 : ∀ {w' : World}, K0 wr w' → w'.cell? (Value.spot p' (((i : Int)).toNat * 1)) = some (R'.getD i default).2 := fun h => by rw [hti, Nat.mul_one]; exact (hsr'.keep0 h).cell (by simp [List.getD_eq_getElem?_getD, hlt, hRl])
    repeat' (first | (refine CL.seq ?_) | (refine CL.region ?_) | (refine CL.skip ?_) | (refine CL.condP rfl (fun _ => ?_) (fun _ => ?_) <;> try (exfalso; omega)) | (refine CL.block ?_) | (refine Gt.nil ?_; refine RW.nilw [0, 1, 2, 3, 4, 5, 6, 20, 25, 40, 48, 91] ?_; dsimp only [H.keep, H.look, H.Fr.put, Nat.beq]) | (refine Gt.load ?_; (refine RW.y (Y.loadB rfl (by assumption) rfl) rfl ?_)) | (refine Gt.move ?_; refine RW.y (Y.move rfl) rfl ?_) | (refine Gt.fieldAddr ?_; refine RW.y (Y.fieldAddr rfl (by rfl)) rfl ?_) | (refine Gt.len ?_; (refine RW.y (Y.lenx rfl (by assumption)) rfl ?_)) | (refine Gt.lss ?_; refine RW.y (Y.lss rfl rfl) rfl ?_))
    refine CL.draw (fun w' => K0 wr w') (by kernel_rfl) (fun w3 hheap hk3 => ?_)
    have hS : K0 wr w3 := hk3
    skip
    refine AW.take 0 rfl (by kernel_rfl) (by kernel_rfl) (by kernel_rfl) rfl (by assumption) (fun w hS => Y.fieldAddr rfl (by rfl)) ?_
    refine AW.take 1 rfl (by kernel_rfl) (by kernel_rfl) (by kernel_rfl) rfl (by assumption) (fun w hS => Y.loadB rfl (hS.at0 hbr1) rfl) ?_
    refine AW.take 2 rfl (by kernel_rfl) (by kernel_rfl) (by kernel_rfl) rfl (by assumption) (fun w hS => Y.move rfl) ?_
    refine AW.take 3 rfl (by kernel_rfl) (by kernel_rfl) (by kernel_rfl) rfl (by assumption) (fun w hS => Y.idx rfl rfl (hsr.keep0 hS) (by omega) (by omega)) ?_
    refine AW.take 4 rfl (by kernel_rfl) (by kernel_rfl) (by kernel_rfl) rfl (by assumption) (fun w hS => Y.load1 rfl (hc1 hS)) ?_
    refine AW.take 5 rfl (by kernel_rfl) (by kernel_rfl) (by kernel_rfl) rfl (by assumption) (fun w hS => Y.lenx rfl (hsL.keep0 hS)) ?_
    refine AW.take 6 rfl (by kernel_rfl) (by kernel_rfl) (by kernel_rfl) rfl (by assumption) (fun w hS => Y.fieldAddr rfl (by rfl)) ?_
    refine AW.take 7 rfl (by kernel_rfl) (by kernel_rfl) (by kernel_rfl) rfl (by assumption) (fun w hS => Y.loadB rfl (hS.at0 hbr2) rfl) ?_
    refine AW.take 8 rfl (by kernel_rfl) (by kernel_rfl) (by kernel_rfl) rfl (by assumption) (fun w hS => Y.move rfl) ?_
    refine AW.take 9 rfl (by kernel_rfl) (by kernel_rfl) (by kernel_rfl) rfl (by assumption) (fun w hS => Y.idx rfl rfl (hsr'.keep0 hS) (by omega) (by omega)) ?_
    refine AW.take 10 rfl (by kernel_rfl) (by kernel_rfl) (by kernel_rfl) rfl (by assumption) (fun w hS => Y.load1 rfl (hc2 hS)) ?_
    refine AW.take 11 rfl (by kernel_rfl) (by kernel_rfl) (by kernel_rfl) rfl (by assumption) (fun w hS => Y.lenx rfl (hsL'.keep0 hS)) ?_
    refine AW.take 12 rfl (by kernel_rfl) (by kernel_rfl) (by kernel_rfl) rfl (by assumption) (fun w hS => Y.neiS rfl rfl) ?_
    refine AW.donew [2, 3, 5, 40] (by kernel_rfl) ?_
    dsimp only [H.keep, H.look, H.Fr.put, Nat.beq]
    have hsr3 := hsr.keep0 hk3
    have hsr3' := hsr'.keep0 hk3
    have hb31 := hk3.at0 hbr1
    have hb32 := hk3.at0 hbr2
    have hsL3 := hsL.keep0 hk3
    have hsL3' := hsL'.keep0 hk3
    rw [← hti] at hsL3
    repeat' (first | (refine CL.seq ?_) | (refine CL.region ?_) | (refine CL.skip ?_) | (refine CL.condF rfl ?_) | (refine CL.block ?_) | (refine Gt.nil ?_; refine RW.nilw [0, 1, 2, 3, 4, 5, 6, 20, 25, 40, 48, 91] ?_; dsimp only [H.keep, H.look, H.Fr.put, Nat.beq]) | (refine Gt.assign ?_; refine RW.y (Y.assign rfl) rfl ?_))
    refine CL.loopS [2, 3, 5, 6] (fun m vals wv => ∃ k : Nat, vals = [.pointer (some ⟨w.heap.size, 0, none⟩), .pointer (some ⟨w1.heap.size, 0, none⟩), .int .i64 (i : Int), .int .i64 (k : Int)] ∧ m = L.length - k ∧ k ≤ L.length ∧ K0 w3 wv) L.length ⟨_, rfl, 0, rfl, rfl, Nat.zero_le _, Kept.refl _ _⟩ ?_
    rintro m vals wv ⟨k, rfl, rfl, hk, hkv⟩
    dsimp only [List.zip, List.zipWith]
    have hsv := hsr3.keep0 hkv
    have hsv' := hsr3'.keep0 hkv
    have hv1 := hkv.at0 hb31
    have hv2 := hkv.at0 hb32
    have hLv := hsL3.keep0 hkv
    have hkrv := hk3.trans0 hkv
    rcases Nat.lt_or_ge k L.length with hkl | hkg
    · have hyl := hmL _ (getD_mem default hkl)
      have hyl' := hmL' (L'.getD k default) (getD_mem default (by omega))
      have hq := bdSpot (hsL.keep0 hkrv) hkl
      have hq' := bdSpot (L := L') (by rw [hLl]; exact hsL'.keep0 hkrv) (k := k) (by omega)
      have he : (L'.getD k default).1 = (L.getD k default).1 := by rw [getD_bd hL hkl, getD_bd hL' (by omega)]
      rw [he] at hyl' hq'
      obtain ⟨g, o, hsp, hcs⟩ := hq
      obtain ⟨g', o', hsp', hcs'⟩ := hq'
      repeat' (first | (refine CL.seq ?_) | (refine CL.region ?_) | (refine CL.skip ?_) | (refine CL.condP rfl (fun _ => ?_) (fun _ => ?_) <;> try (exfalso; omega)) | (refine CL.block ?_) | (refine Gt.nil ?_; refine RW.nilw [0, 1, 2, 3, 4, 5, 6, 20, 25, 40, 48, 91] ?_; dsimp only [H.keep, H.look, H.Fr.put, Nat.beq]) | (refine Gt.load ?_; (refine RW.y (Y.loadB rfl (by assumption) rfl) rfl ?_)) | (refine Gt.move ?_; refine RW.y (Y.move rfl) rfl ?_) | (refine Gt.fieldAddr ?_; refine RW.y (Y.fieldAddr rfl (by rfl)) rfl ?_) | (refine Gt.idx ?_; (refine RW.elemM rfl rfl rfl rfl (by assumption) (by omega) (by omega) ?_)) | (refine Gt.len ?_; (refine RW.y (Y.lenx rfl (by assumption)) rfl ?_)) | (refine Gt.lss ?_; refine RW.y (Y.lss rfl rfl) rfl ?_))
      refine CL.draw (fun w' => K0 wv w') (by kernel_rfl) (fun w4 hheap4 hk4 => ?_)
      have hS : K0 wv w4 := hk4
      skip
      refine AW.take 0 rfl (by kernel_rfl) (by kernel_rfl) (by kernel_rfl) rfl (by assumption) (fun w hS => Y.fieldAddr rfl (by rfl)) ?_
      refine AW.take 1 rfl (by kernel_rfl) (by kernel_rfl) (by kernel_rfl) rfl (by assumption) (fun w hS => Y.loadB rfl (hS.at0 hv1) rfl) ?_
      refine AW.take 2 rfl (by kernel_rfl) (by kernel_rfl) (by kernel_rfl) rfl (by assumption) (fun w hS => Y.move rfl) ?_
      refine AW.take 3 rfl (by kernel_rfl) (by kernel_rfl) (by kernel_rfl) rfl (by assumption) (fun w hS => Y.idx rfl rfl (hsv.keep0 hS) (by omega) (by omega)) ?_
      refine AW.take 4 rfl (by kernel_rfl) (by kernel_rfl) (by kernel_rfl) rfl (by assumption) (fun w hS => Y.load1 rfl (hc1 (hkrv.trans0 hS))) ?_
      refine AW.take 5 rfl (by kernel_rfl) (by kernel_rfl) (by kernel_rfl) rfl (by assumption) (fun w hS => Y.move rfl) ?_
      refine AW.take 6 rfl (by kernel_rfl) (by kernel_rfl) (by kernel_rfl) rfl (by assumption) (fun w hS => Y.idx rfl rfl (hsL.keep0 (hkrv.trans0 hS)) (by omega) (by omega)) ?_
      refine AW.take 7 rfl (by kernel_rfl) (by kernel_rfl) (by kernel_rfl) rfl (by assumption) (fun w hS => Y.fieldAddr (congrArg (fun a => some (Value.pointer (some a))) hsp) (by rfl)) ?_
      refine AW.take 8 rfl (by kernel_rfl) (by kernel_rfl) (by kernel_rfl) rfl (by assumption) (fun w hS => Y.load1A rfl (hcs _ hS).1) ?_
      refine AW.take 9 rfl (by kernel_rfl) (by kernel_rfl) (by kernel_rfl) rfl (by assumption) (fun w hS => Y.fieldAddr rfl (by rfl)) ?_
      refine AW.take 10 rfl (by kernel_rfl) (by kernel_rfl) (by kernel_rfl) rfl (by assumption) (fun w hS => Y.loadB rfl (hS.at0 hv2) rfl) ?_
      refine AW.take 11 rfl (by kernel_rfl) (by kernel_rfl) (by kernel_rfl) rfl (by assumption) (fun w hS => Y.move rfl) ?_
      refine AW.take 12 rfl (by kernel_rfl) (by kernel_rfl) (by kernel_rfl) rfl (by assumption) (fun w hS => Y.idx rfl rfl (hsv'.keep0 hS) (by omega) (by omega)) ?_
      refine AW.take 13 rfl (by kernel_rfl) (by kernel_rfl) (by kernel_rfl) rfl (by assumption) (fun w hS => Y.load1 rfl (hc2 (hkrv.trans0 hS))) ?_
      refine AW.take 14 rfl (by kernel_rfl) (by kernel_rfl) (by kernel_rfl) rfl (by assumption) (fun w hS => Y.move rfl) ?_
      refine AW.take 15 rfl (by kernel_rfl) (by kernel_rfl) (by kernel_rfl) rfl (by assumption) (fun w hS => Y.idx rfl rfl (hsL'.keep0 (hkrv.trans0 hS)) (by omega) (by omega)) ?_
      refine AW.take 16 rfl (by kernel_rfl) (by kernel_rfl) (by kernel_rfl) rfl (by assumption) (fun w hS => Y.fieldAddr (congrArg (fun a => some (Value.pointer (some a))) hsp') (by rfl)) ?_
      refine AW.take 17 rfl (by kernel_rfl) (by kernel_rfl) (by kernel_rfl) rfl (by assumption) (fun w hS => Y.load1A rfl (hcs' _ hS).1) ?_
      refine AW.take 18 rfl (by kernel_rfl) (by kernel_rfl) (by kernel_rfl) rfl (by assumption) (fun w hS => Y.nesS rfl rfl) ?_
      refine AW.take 19 rfl (by kernel_rfl) (by kernel_rfl) (by kernel_rfl) rfl (by assumption) (fun w hS => Y.move rfl) ?_
      refine AW.takeOn 20 rfl (by kernel_rfl) (by kernel_rfl) (by kernel_rfl) rfl rfl rfl rfl (by assumption) (fun w hS => Y.fieldAddr rfl (by rfl)) ?_
      refine AW.takeOn 21 rfl (by kernel_rfl) (by kernel_rfl) (by kernel_rfl) rfl rfl rfl rfl (by assumption) (fun w hS => Y.loadB rfl (hS.at0 hv1) rfl) ?_
      refine AW.takeOn 22 rfl (by kernel_rfl) (by kernel_rfl) (by kernel_rfl) rfl rfl rfl rfl (by assumption) (fun w hS => Y.move rfl) ?_
      refine AW.takeOn 23 rfl (by kernel_rfl) (by kernel_rfl) (by kernel_rfl) rfl rfl rfl rfl (by assumption) (fun w hS => Y.idx rfl rfl (hsv.keep0 hS) (by omega) (by omega)) ?_
      refine AW.takeOn 24 rfl (by kernel_rfl) (by kernel_rfl) (by kernel_rfl) rfl rfl rfl rfl (by assumption) (fun w hS => Y.load1 rfl (hc1 (hkrv.trans0 hS))) ?_
      refine AW.takeOn 25 rfl (by kernel_rfl) (by kernel_rfl) (by kernel_rfl) rfl rfl rfl rfl (by assumption) (fun w hS => Y.move rfl) ?_
      refine AW.takeOn 26 rfl (by kernel_rfl) (by kernel_rfl) (by kernel_rfl) rfl rfl rfl rfl (by assumption) (fun w hS => Y.idx rfl rfl (hsL.keep0 (hkrv.trans0 hS)) (by omega) (by omega)) ?_
      refine AW.takeOn 27 rfl (by kernel_rfl) (by kernel_rfl) (by kernel_rfl) rfl rfl rfl rfl (by assumption) (fun w hS => Y.fieldAddr (congrArg (fun a => some (Value.pointer (some a))) hsp) (by rfl)) ?_
      refine AW.takeOn 28 rfl (by kernel_rfl) (by kernel_rfl) (by kernel_rfl) rfl rfl rfl rfl (by assumption) (fun w hS => Y.loadN (cs := [_, _, _, _]) rfl rfl (hcs _ hS).2) ?_
      refine AW.takeOn 29 rfl (by kernel_rfl) (by kernel_rfl) (by kernel_rfl) rfl rfl rfl rfl (by assumption) (fun w hS => Y.fieldAddr rfl (by rfl)) ?_
      refine AW.takeOn 30 rfl (by kernel_rfl) (by kernel_rfl) (by kernel_rfl) rfl rfl rfl rfl (by assumption) (fun w hS => Y.loadB rfl (hS.at0 hv2) rfl) ?_
      refine AW.takeOn 31 rfl (by kernel_rfl) (by kernel_rfl) (by kernel_rfl) rfl rfl rfl rfl (by assumption) (fun w hS => Y.move rfl) ?_
      refine AW.takeOn 32 rfl (by kernel_rfl) (by kernel_rfl) (by kernel_rfl) rfl rfl rfl rfl (by assumption) (fun w hS => Y.idx rfl rfl (hsv'.keep0 hS) (by omega) (by omega)) ?_
      refine AW.takeOn 33 rfl (by kernel_rfl) (by kernel_rfl) (by kernel_rfl) rfl rfl rfl rfl (by assumption) (fun w hS => Y.load1 rfl (hc2 (hkrv.trans0 hS))) ?_
      refine AW.takeOn 34 rfl (by kernel_rfl) (by kernel_rfl) (by kernel_rfl) rfl rfl rfl rfl (by assumption) (fun w hS => Y.move rfl) ?_
      refine AW.takeOn 35 rfl (by kernel_rfl) (by kernel_rfl) (by kernel_rfl) rfl rfl rfl rfl (by assumption) (fun w hS => Y.idx rfl rfl (hsL'.keep0 (hkrv.trans0 hS)) (by omega) (by omega)) ?_
      refine AW.takeOn 36 rfl (by kernel_rfl) (by kernel_rfl) (by kernel_rfl) rfl rfl rfl rfl (by assumption) (fun w hS => Y.fieldAddr (congrArg (fun a => some (Value.pointer (some a))) hsp') (by rfl)) ?_
      refine AW.takeOn 37 rfl (by kernel_rfl) (by kernel_rfl) (by kernel_rfl) rfl rfl rfl rfl (by assumption) (fun w hS => Y.loadN (cs := [_, _, _, _]) rfl rfl (hcs' _ hS).2) ?_
      refine AW.next 38 rfl (by kernel_rfl) ?_
      refine RW.on rfl rfl rfl ?_
      refine RW.fn rfl rfl ((helpVersion _ _ (L.getD k default).1.v (L.getD k default).1.v w4 ⟨_, rfl, hyl.keep0 (hkrv.trans0 hk4)⟩ ⟨_, rfl, hyl'.keep0 (hkrv.trans0 hk4)⟩).mono ?_)
      rintro e w5 ⟨hk5, rfl⟩
      rw [eqV_self]
      refine RW.nil (Nm.then (rebase0 hS hk5 fun hS => ?_))
      refine AW.takeOn 39 rfl (by kernel_rfl) (by kernel_rfl) (by kernel_rfl) rfl rfl rfl rfl (by assumption) (fun w hS => by exact Y.notb rfl) ?_
      refine AW.take 40 rfl (by kernel_rfl) (by kernel_rfl) (by kernel_rfl) rfl (by assumption) (fun w hS => by exact Y.pickF rfl rfl) ?_
      refine AW.donew [2, 3, 5, 6, 91] (by kernel_rfl) ?_
      dsimp only [H.keep, H.look, H.Fr.put, Nat.beq]
      repeat' (first | (refine CL.region ?_) | (refine CL.skip ?_) | (refine CL.condF rfl ?_) | (refine CL.done ?_) | (refine Nm.block ?_) | (refine Nm.then ?_) | (refine Gt.nil ?_; refine RW.nilw [0, 1, 2, 3, 4, 5, 6, 20, 25, 40, 48, 91] ?_; dsimp only [H.keep, H.look, H.Fr.put, Nat.beq]) | (refine Gt.move ?_; refine RW.y (Y.move rfl) rfl ?_) | (refine Gt.assign ?_; refine RW.y (Y.assign rfl) rfl ?_) | (refine Gt.add ?_; refine RW.y (Y.add64 rfl rfl (by omega) (by omega)) rfl ?_))
      exact ⟨L.length - (k + 1), _, rfl, rfl, rfl, by omega, k + 1, rfl, rfl, by omega, (hkv.trans0 hk4).trans0 hk5⟩
    · have hk : k = L.length := by omega
      subst hk
      repeat' (first | (refine CL.seq ?_) | (refine CL.region ?_) | (refine CL.condP rfl (fun _ => ?_) (fun _ => ?_) <;> try (exfalso; omega)) | (refine CL.exit ?_) | (refine Ex.then ?_) | (refine Ex.hit ?_) | (refine CL.done ?_) | (refine Nm.block ?_) | (refine Nm.then ?_) | (refine Gt.nil ?_; refine RW.nilw [0, 1, 2, 3, 4, 5, 6, 20, 25, 40, 48, 91] ?_; dsimp only [H.keep, H.look, H.Fr.put, Nat.beq]) | (refine Gt.load ?_; (refine RW.y (Y.loadB rfl (by assumption) rfl) rfl ?_)) | (refine Gt.move ?_; refine RW.y (Y.move rfl) rfl ?_) | (refine Gt.fieldAddr ?_; refine RW.y (Y.fieldAddr rfl (by rfl)) rfl ?_) | (refine Gt.assign ?_; refine RW.y (Y.assign rfl) rfl ?_) | (refine Gt.idx ?_; (refine RW.elemM rfl rfl rfl rfl (by assumption) (by omega) (by omega) ?_)) | (refine Gt.len ?_; (refine RW.y (Y.lenx rfl (by assumption)) rfl ?_)) | (refine Gt.lss ?_; refine RW.y (Y.lss rfl rfl) rfl ?_) | (refine Gt.add ?_; refine RW.y (Y.add64 rfl rfl (by omega) (by omega)) rfl ?_))
      exact ⟨R.length - (i + 1), _, rfl, rfl, rfl, by omega, i + 1, rfl, rfl, by omega, (hkr.trans0 hk3).trans0 hkv⟩
  · have hi : i = R.length := by omega
    subst hi
    repeat' (first | (refine CL.seq ?_) | (refine CL.region ?_) | (refine CL.condP rfl (fun _ => ?_) (fun _ => ?_) <;> try (exfalso; omega)) | (refine CL.exit ?_) | (refine Ex.then ?_) | (refine Ex.hit ?_) | (refine CL.ret ?_) | (refine Gt.nil ?_; refine RW.nilw [0, 1, 2, 3, 4, 5, 6, 20, 25, 40, 48, 91] ?_; dsimp only [H.keep, H.look, H.Fr.put, Nat.beq]) | (refine Gt.load ?_; (refine RW.y (Y.loadB rfl (by assumption) rfl) rfl ?_)) | (refine Gt.move ?_; refine RW.y (Y.move rfl) rfl ?_) | (refine Gt.fieldAddr ?_; refine RW.y (Y.fieldAddr rfl (by rfl)) rfl ?_) | (refine Gt.assign ?_; refine RW.y (Y.assign rfl) rfl ?_) | (refine Gt.len ?_; (refine RW.y (Y.lenx rfl (by assumption)) rfl ?_)) | (refine Gt.lss ?_; refine RW.y (Y.lss rfl rfl) rfl ?_))
    exact FQ.one rfl rfl rfl ⟨hK2.trans0 hkr, rfl⟩

def lightS (s : Spn) : Bool := decide (s.or.length ≤ 5) && s.or.all (fun l => decide (l.length ≤ 5) && l.all (fun b => decide (b.sign.length ≤ 5) && lightB b.v))
end Go.Proofs.Ytlbegmpikggmlaa.Sp

namespace Go.Proofs.Ytlbegmpikggmlaa.Ne
open Go.RowKit H S Ve Sp
attribute [local irreducible] H.CL H.RW H.CW H.Yd H.thenK H.blockQ Go.Calls

theorem npSpan {w : World} {g o : Nat} {y : Np} (h : ∀ j u, (npC y)[j]? = some u → w.cell? ⟨g, o + j, none⟩ = some u) : ∀ j u, ([.bool y.d.sp.any, y.p] : List Value)[j]? = some u → w.cell? ((⟨g, o + 1, none⟩ : Addr).add j) = some u := fun j u hu => by
  have hj : j < 2 := (List.getElem?_eq_some_iff.1 hu).1
  have h2 := h (1 + j) u (by
    have : j = 0 ∨ j = 1 := by omega
    rcases this with rfl | rfl <;> exact hu)
  rw [addr_add, Nat.add_assoc]; exact h2
theorem helpNeeds (v u : Value) (N M : List Np) (w : World) (hv : GA ndK w v N) (hu : GA ndK w u M) (he : N.map (·.d) = M.map (·.d)) : Calls Try.prog 56 #[v, u] w fun e w' => K0 w w' ∧ e = .returned (.bool true) := by
  have hlen : N.length = M.length := by simpa using congrArg List.length he
  have hs := hv.1
  have ht := hu.1
  have hmx : N.length ≤ 9223372036854775807 := by have := hs.2.1; simpa [maxLen] using this
  refine H.enter Try.func56 Try.ntmps56 rfl rfl ?_; dsimp only [H.args]
  repeat' (first | (refine CL.seq ?_) | (refine CL.region ?_) | (refine CL.skip ?_) | (refine CL.condP rfl (fun _ => ?_) (fun _ => ?_) <;> try (exfalso; omega)) | (refine CL.block ?_) | (refine Gt.nil ?_; refine RW.nilw [0, 1, 4, 5, 10, 14, 54] ?_; dsimp only [H.keep, H.look, H.Fr.put, Nat.beq]) | (refine Gt.move ?_; refine RW.y (Y.move rfl) rfl ?_) | (refine Gt.assign ?_; refine RW.y (Y.assign rfl) rfl ?_) | (refine Gt.len ?_; (refine RW.y (Y.lenx rfl (by assumption)) rfl ?_)) | (refine Gt.neq ?_; (refine RW.y (Y.nei rfl rfl) rfl ?_)))
  refine CL.loopS [0, 1, 5] (fun k vals wr => ∃ i : Nat, vals = [v, u, .int .i64 (i : Int)] ∧ k = N.length - i ∧ i ≤ N.length ∧ K0 w wr) N.length ⟨_, rfl, 0, rfl, rfl, Nat.zero_le _, Kept.refl _ _⟩ ?_
  rintro k vals wr ⟨i, rfl, rfl, hi, hkr⟩
  dsimp only [List.zip, List.zipWith]
  have hvr := hv.keep0 hkr
  have hur := hu.keep0 hkr
  have hsr := hvr.1
  have htr := hur.1
  rcases Nat.lt_or_ge i N.length with hlt | hge
  · have hti : ((i : Int)).toNat = i := Int.toNat_natCast i
    obtain ⟨g1, o1, hsp1, hcl1⟩ := elSpot hsr ndK.len (i := (i : Int)) (by omega) (by omega)
    obtain ⟨g2, o2, hsp2, hcl2⟩ := elSpot htr ndK.len (i := (i : Int)) (by omega) (by omega)
    have hm1 : N.getD ((i : Int)).toNat default ∈ N := getD_mem default (by omega)
    have hm2 : M.getD ((i : Int)).toNat default ∈ M := getD_mem default (by omega)
    have hd : (N.getD ((i : Int)).toNat default).d = (M.getD ((i : Int)).toNat default).d := by
      rw [← getD_map (·.d) default ⟨[], default, []⟩ N _ (by omega), ← getD_map (·.d) default ⟨[], default, []⟩ M _ (by omega), he]
    have hD1 := (hvr.2 _ hm1).1
    have hD2 := (hur.2 _ hm2).1
    generalize N.getD ((i : Int)).toNat default = x at *
    generalize M.getD ((i : Int)).toNat default = y at *
    have hn1 : decide (x.d.name ≠ y.d.name) = false := by rw [hd]; simp
    have hn2 : decide (x.d.text ≠ y.d.text) = false := by rw [hd]; simp
    repeat' (first | (refine CL.seq ?_) | (refine CL.region ?_) | (refine CL.skip ?_) | (refine CL.condP rfl (fun _ => ?_) (fun _ => ?_) <;> try (exfalso; omega)) | (refine CL.block ?_) | (refine Gt.nil ?_; refine RW.nilw [0, 1, 4, 5, 10, 14, 54] ?_; dsimp only [H.keep, H.look, H.Fr.put, Nat.beq]) | (refine Gt.move ?_; refine RW.y (Y.move rfl) rfl ?_) | (refine Gt.len ?_; (refine RW.y (Y.lenx rfl (by assumption)) rfl ?_)) | (refine Gt.lss ?_; refine RW.y (Y.lss rfl rfl) rfl ?_))
    refine CL.draw (fun w' => K0 wr w') (by kernel_rfl) (fun w1 hheap hk1 => ?_)
    have hS : K0 wr w1 := hk1
    skip
    refine AW.take 0 rfl (by kernel_rfl) (by kernel_rfl) (by kernel_rfl) rfl (by assumption) (fun w hS => Y.move rfl) ?_
    refine AW.take 1 rfl (by kernel_rfl) (by kernel_rfl) (by kernel_rfl) rfl (by assumption) (fun w hS => Y.move rfl) ?_
    refine AW.take 2 rfl (by kernel_rfl) (by kernel_rfl) (by kernel_rfl) rfl (by assumption) (fun w hS => Y.idx rfl rfl (hsr.keep0 hS) (by omega) (by omega)) ?_
    refine AW.take 3 rfl (by kernel_rfl) (by kernel_rfl) (by kernel_rfl) rfl (by assumption) (fun w hS => Y.fieldAddr (congrArg (fun a => some (Value.pointer (some a))) hsp1) (by rfl)) ?_
    refine AW.take 4 rfl (by kernel_rfl) (by kernel_rfl) (by kernel_rfl) rfl (by assumption) (fun w hS => Y.load1A rfl (hcl1 _ hS 0 _ rfl)) ?_
    refine AW.take 5 rfl (by kernel_rfl) (by kernel_rfl) (by kernel_rfl) rfl (by assumption) (fun w hS => Y.move rfl) ?_
    refine AW.take 6 rfl (by kernel_rfl) (by kernel_rfl) (by kernel_rfl) rfl (by assumption) (fun w hS => Y.move rfl) ?_
    refine AW.take 7 rfl (by kernel_rfl) (by kernel_rfl) (by kernel_rfl) rfl (by assumption) (fun w hS => Y.idx rfl rfl (htr.keep0 hS) (by omega) (by omega)) ?_
    refine AW.take 8 rfl (by kernel_rfl) (by kernel_rfl) (by kernel_rfl) rfl (by assumption) (fun w hS => Y.fieldAddr (congrArg (fun a => some (Value.pointer (some a))) hsp2) (by rfl)) ?_
    refine AW.take 9 rfl (by kernel_rfl) (by kernel_rfl) (by kernel_rfl) rfl (by assumption) (fun w hS => Y.load1A rfl (hcl2 _ hS 0 _ rfl)) ?_
    refine AW.take 10 rfl (by kernel_rfl) (by kernel_rfl) (by kernel_rfl) rfl (by assumption) (fun w hS => Y.nesE rfl rfl hn1) ?_
    refine AW.take 11 rfl (by kernel_rfl) (by kernel_rfl) (by kernel_rfl) rfl (by assumption) (fun w hS => Y.move rfl) ?_
    refine AW.takeOn 12 rfl (by kernel_rfl) (by kernel_rfl) (by kernel_rfl) rfl rfl rfl rfl (by assumption) (fun w hS => Y.move rfl) ?_
    refine AW.takeOn 13 rfl (by kernel_rfl) (by kernel_rfl) (by kernel_rfl) rfl rfl rfl rfl (by assumption) (fun w hS => Y.move rfl) ?_
    refine AW.takeOn 14 rfl (by kernel_rfl) (by kernel_rfl) (by kernel_rfl) rfl rfl rfl rfl (by assumption) (fun w hS => Y.idx rfl rfl (hsr.keep0 hS) (by omega) (by omega)) ?_
    refine AW.takeOn 15 rfl (by kernel_rfl) (by kernel_rfl) (by kernel_rfl) rfl rfl rfl rfl (by assumption) (fun w hS => Y.fieldAddr (congrArg (fun a => some (Value.pointer (some a))) hsp1) (by rfl)) ?_
    refine AW.takeOn 16 rfl (by kernel_rfl) (by kernel_rfl) (by kernel_rfl) rfl rfl rfl rfl (by assumption) (fun w hS => Y.load1A rfl (hcl1 _ hS 3 _ rfl)) ?_
    refine AW.takeOn 17 rfl (by kernel_rfl) (by kernel_rfl) (by kernel_rfl) rfl rfl rfl rfl (by assumption) (fun w hS => Y.move rfl) ?_
    refine AW.takeOn 18 rfl (by kernel_rfl) (by kernel_rfl) (by kernel_rfl) rfl rfl rfl rfl (by assumption) (fun w hS => Y.move rfl) ?_
    refine AW.takeOn 19 rfl (by kernel_rfl) (by kernel_rfl) (by kernel_rfl) rfl rfl rfl rfl (by assumption) (fun w hS => Y.idx rfl rfl (htr.keep0 hS) (by omega) (by omega)) ?_
    refine AW.takeOn 20 rfl (by kernel_rfl) (by kernel_rfl) (by kernel_rfl) rfl rfl rfl rfl (by assumption) (fun w hS => Y.fieldAddr (congrArg (fun a => some (Value.pointer (some a))) hsp2) (by rfl)) ?_
    refine AW.takeOn 21 rfl (by kernel_rfl) (by kernel_rfl) (by kernel_rfl) rfl rfl rfl rfl (by assumption) (fun w hS => Y.load1A rfl (hcl2 _ hS 3 _ rfl)) ?_
    refine AW.takeOn 22 rfl (by kernel_rfl) (by kernel_rfl) (by kernel_rfl) rfl rfl rfl rfl (by assumption) (fun w hS => Y.nesE rfl rfl hn2) ?_
    refine AW.take 23 rfl (by kernel_rfl) (by kernel_rfl) (by kernel_rfl) rfl (by assumption) (fun w hS => by exact Y.pickF rfl rfl) ?_
    refine AW.take 24 rfl (by kernel_rfl) (by kernel_rfl) (by kernel_rfl) rfl (by assumption) (fun w hS => Y.move rfl) ?_
    refine AW.takeOn 25 rfl (by kernel_rfl) (by kernel_rfl) (by kernel_rfl) rfl rfl rfl rfl (by assumption) (fun w hS => Y.move rfl) ?_
    refine AW.takeOn 26 rfl (by kernel_rfl) (by kernel_rfl) (by kernel_rfl) rfl rfl rfl rfl (by assumption) (fun w hS => Y.move rfl) ?_
    refine AW.takeOn 27 rfl (by kernel_rfl) (by kernel_rfl) (by kernel_rfl) rfl rfl rfl rfl (by assumption) (fun w hS => Y.idx rfl rfl (hsr.keep0 hS) (by omega) (by omega)) ?_
    refine AW.takeOn 28 rfl (by kernel_rfl) (by kernel_rfl) (by kernel_rfl) rfl rfl rfl rfl (by assumption) (fun w hS => Y.fieldAddr (congrArg (fun a => some (Value.pointer (some a))) hsp1) (by rfl)) ?_
    refine AW.takeOn 29 rfl (by kernel_rfl) (by kernel_rfl) (by kernel_rfl) rfl rfl rfl rfl (by assumption) (fun w hS => Y.loadN (cs := [_, _]) rfl rfl (npSpan (hcl1 _ hS))) ?_
    refine AW.takeOn 30 rfl (by kernel_rfl) (by kernel_rfl) (by kernel_rfl) rfl rfl rfl rfl (by assumption) (fun w hS => Y.move rfl) ?_
    refine AW.takeOn 31 rfl (by kernel_rfl) (by kernel_rfl) (by kernel_rfl) rfl rfl rfl rfl (by assumption) (fun w hS => Y.move rfl) ?_
    refine AW.takeOn 32 rfl (by kernel_rfl) (by kernel_rfl) (by kernel_rfl) rfl rfl rfl rfl (by assumption) (fun w hS => Y.idx rfl rfl (htr.keep0 hS) (by omega) (by omega)) ?_
    refine AW.takeOn 33 rfl (by kernel_rfl) (by kernel_rfl) (by kernel_rfl) rfl rfl rfl rfl (by assumption) (fun w hS => Y.fieldAddr (congrArg (fun a => some (Value.pointer (some a))) hsp2) (by rfl)) ?_
    refine AW.takeOn 34 rfl (by kernel_rfl) (by kernel_rfl) (by kernel_rfl) rfl rfl rfl rfl (by assumption) (fun w hS => Y.loadN (cs := [_, _]) rfl rfl (npSpan (hcl2 _ hS))) ?_
    refine AW.next 35 rfl (by kernel_rfl) ?_
    refine RW.on rfl rfl rfl ?_
    refine RW.fn rfl rfl ((helpSpanS _ _ x.d.sp w1 ⟨_, rfl, (OrOn.at hD1).keep0 hk1⟩ ⟨_, by rw [hd], by rw [hd]; exact (OrOn.at hD2).keep0 hk1⟩).mono ?_)
    rintro e w2 ⟨hk2, rfl⟩
    refine RW.nil (Nm.then (rebase0 hS hk2 fun hS => ?_))
    refine AW.takeOn 36 rfl (by kernel_rfl) (by kernel_rfl) (by kernel_rfl) rfl rfl rfl rfl (by assumption) (fun w hS => by exact Y.notb rfl) ?_
    refine AW.take 37 rfl (by kernel_rfl) (by kernel_rfl) (by kernel_rfl) rfl (by assumption) (fun w hS => by exact Y.pickF rfl rfl) ?_
    refine AW.donew [0, 1, 5, 54] (by kernel_rfl) ?_
    dsimp only [H.keep, H.look, H.Fr.put, Nat.beq]
    repeat' (first | (refine CL.region ?_) | (refine CL.skip ?_) | (refine CL.condF rfl ?_) | (refine CL.done ?_) | (refine Nm.block ?_) | (refine Nm.then ?_) | (refine Gt.nil ?_; refine RW.nilw [0, 1, 4, 5, 10, 14, 54] ?_; dsimp only [H.keep, H.look, H.Fr.put, Nat.beq]) | (refine Gt.move ?_; refine RW.y (Y.move rfl) rfl ?_) | (refine Gt.assign ?_; refine RW.y (Y.assign rfl) rfl ?_) | (refine Gt.add ?_; refine RW.y (Y.add64 rfl rfl (by omega) (by omega)) rfl ?_))
    exact ⟨N.length - (i + 1), _, rfl, rfl, rfl, by omega, i + 1, rfl, rfl, by omega, hkr.trans0 (hk1.trans0 hk2)⟩
  · have hi : i = N.length := by omega
    subst hi
    repeat' (first | (refine CL.seq ?_) | (refine CL.region ?_) | (refine CL.condP rfl (fun _ => ?_) (fun _ => ?_) <;> try (exfalso; omega)) | (refine CL.exit ?_) | (refine Ex.then ?_) | (refine Ex.hit ?_) | (refine CL.ret ?_) | (refine Gt.nil ?_; refine RW.nilw [0, 1, 4, 5, 10, 14, 54] ?_; dsimp only [H.keep, H.look, H.Fr.put, Nat.beq]) | (refine Gt.move ?_; refine RW.y (Y.move rfl) rfl ?_) | (refine Gt.assign ?_; refine RW.y (Y.assign rfl) rfl ?_) | (refine Gt.len ?_; (refine RW.y (Y.lenx rfl (by assumption)) rfl ?_)) | (refine Gt.lss ?_; refine RW.y (Y.lss rfl rfl) rfl ?_))
    exact FQ.one rfl rfl rfl ⟨hkr, rfl⟩
theorem helpRow (x y : Rp) (w : World) (hx : rwD w x) (hy : rwD w y) (he : x.val = y.val) : Calls Try.prog 38 #[.agg (rpC x).toArray, .agg (rpC y).toArray] w fun e w' => K0 w w' ∧ e = .returned (.bool true) := by
  have e1 : x.name = y.name := congrArg Rv.name he
  have e2 : x.v = y.v := congrArg Rv.v he
  have e3 : x.sum = y.sum := congrArg Rv.sum he
  have e4 : x.size = y.size := congrArg Rv.size he
  have e5 : x.needs.map (·.d) = y.needs.map (·.d) := congrArg Rv.needs he
  refine H.enter Try.func38 Try.ntmps38 rfl rfl ?_; dsimp only [H.args]
  repeat' (first | (refine CL.seq ?_) | (refine CL.region ?_))
  refine RW.box rfl rfl (fun w1 hb1 hk1 hlt1 => ?_)
  skip
  refine RW.box rfl rfl (fun w2 hb2 hk2 hlt2 => ?_)
  have hb1' : w2.heap[w.heap.size]? = some (.cells (rpC x).toArray irowT (0, 0)) := hk2.at0 hb1
  have hb2' : w2.heap[w1.heap.size]? = some (.cells (rpC y).toArray irowT (0, 0)) := hb2
  have hK := hk1.trans0 hk2
  have h1 := rowBlock hb1'
  have h2 := rowBlock hb2'
  have hv : eqV x.v y.v = true := by rw [e2]; exact eqV_self _
  repeat' (first | (refine CL.seq ?_) | (refine CL.region ?_) | (refine CL.ret ?_) | (refine Gt.nil ?_; refine RW.nilw [0, 1, 2, 3, 4] ?_; dsimp only [H.keep, H.look, H.Fr.put, Nat.beq]) | (refine Gt.fieldAddr ?_; refine RW.y (Y.fieldAddr rfl (by rfl)) rfl ?_) | (refine Gt.guard ?_; first | (refine RW.part rfl rfl rfl (fun _ => ?_) (fun _ => ?_) <;> try (exfalso; omega)) | (refine RW.on rfl rfl rfl ?_) | (refine RW.off1 rfl rfl rfl rfl rfl ?_)) | (refine Gt.load ?_; (refine RW.y (Y.loadB rfl (by assumption) rfl) rfl ?_)) | (refine Gt.move ?_; refine RW.y (Y.move rfl) rfl ?_) | (refine Gt.pick ?_; (refine RW.y (Y.pickF rfl rfl) rfl ?_)) | (refine Gt.assign ?_; refine RW.y (Y.assign rfl) rfl ?_) | (refine Gt.eql ?_; (refine RW.y (Y.eqs rfl rfl) rfl ?_)))
  · refine RW.y (Y.loadN (cs := [_, _, _, _]) rfl rfl h1.ver) rfl ?_
    refine RW.on rfl rfl rfl ?_
    refine RW.y (Y.fieldAddr rfl (by rfl)) rfl ?_
    refine RW.on rfl rfl rfl ?_
    refine RW.y (Y.loadN (cs := [_, _, _, _]) rfl rfl h2.ver) rfl ?_
    refine RW.on rfl rfl rfl ?_
    refine RW.fn rfl rfl ((helpVersion _ _ x.v y.v w2 ⟨_, rfl, hx.1.keep0 hK⟩ ⟨_, rfl, hy.1.keep0 hK⟩).mono ?_)
    rintro e w3 ⟨hk3, rfl⟩
    rw [hv]
    have hb13 := hk3.at0 hb1'
    have hb23 := hk3.at0 hb2'
    have h13 := rowBlock hb13
    have h23 := rowBlock hb23
    have hK3 := hK.trans0 hk3
    repeat' (first | (refine Gt.fieldAddr ?_; refine RW.y (Y.fieldAddr rfl (by rfl)) rfl ?_) | (refine Gt.guard ?_; (refine RW.on rfl rfl rfl ?_)) | (refine Gt.move ?_; refine RW.y (Y.move rfl) rfl ?_) | (refine Gt.pick ?_; (refine RW.y (Y.pickT rfl rfl) rfl ?_)))
    refine RW.y (Y.loadN (cs := x.sum.toList) rfl (by rw [Array.length_toList, x.hsum.1]) h13.sum) rfl ?_
    refine RW.on rfl rfl rfl ?_
    refine RW.y (Y.fieldAddr rfl (by rfl)) rfl ?_
    refine RW.on rfl rfl rfl ?_
    refine RW.y (Y.loadN (cs := x.sum.toList) rfl (by rw [Array.length_toList, x.hsum.1]) (by rw [e3]; exact h23.sum)) rfl ?_
    refine RW.on rfl rfl rfl ?_
    refine RW.y (Y.eqA rfl rfl (by kernel_rfl) (fun i hi => by simpa using x.hsum.2 i hi)) rfl ?_
    repeat' (first | (refine Gt.fieldAddr ?_; refine RW.y (Y.fieldAddr rfl (by rfl)) rfl ?_) | (refine Gt.guard ?_; (refine RW.on rfl rfl rfl ?_)) | (refine Gt.move ?_; refine RW.y (Y.move rfl) rfl ?_) | (refine Gt.pick ?_; (refine RW.y (Y.pickT rfl rfl) rfl ?_)))
    refine RW.y (Y.load1A rfl h13.size) rfl ?_
    refine RW.on rfl rfl rfl ?_
    refine RW.y (Y.fieldAddr rfl (by rfl)) rfl ?_
    refine RW.on rfl rfl rfl ?_
    refine RW.y (Y.load1A rfl h23.size) rfl ?_
    refine RW.on rfl rfl rfl ?_
    refine RW.y (Y.eqiE (c := true) rfl rfl (by rw [e4]; simp)) rfl ?_
    repeat' (first | (refine Gt.fieldAddr ?_; refine RW.y (Y.fieldAddr rfl (by rfl)) rfl ?_) | (refine Gt.guard ?_; (refine RW.on rfl rfl rfl ?_)) | (refine Gt.move ?_; refine RW.y (Y.move rfl) rfl ?_) | (refine Gt.pick ?_; (refine RW.y (Y.pickT rfl rfl) rfl ?_)))
    refine RW.y (Y.load1A rfl h13.needs) rfl ?_
    refine RW.on rfl rfl rfl ?_
    refine RW.y (Y.fieldAddr rfl (by rfl)) rfl ?_
    refine RW.on rfl rfl rfl ?_
    refine RW.y (Y.load1A rfl h23.needs) rfl ?_
    refine RW.on rfl rfl rfl ?_
    refine RW.fn rfl rfl ((helpNeeds _ _ x.needs y.needs w3 (hx.2.1.keep0 hK3) (hy.2.1.keep0 hK3) e5).mono ?_)
    rintro e w4 ⟨hk4, rfl⟩
    repeat' (first | (refine CL.ret ?_) | (refine Gt.nil ?_; refine RW.nilw [0, 1, 2, 3, 4] ?_; dsimp only [H.keep, H.look, H.Fr.put, Nat.beq]) | (refine Gt.pick ?_; (refine RW.y (Y.pickT rfl rfl) rfl ?_)) | (refine Gt.assign ?_; refine RW.y (Y.assign rfl) rfl ?_))
    exact FQ.one rfl rfl rfl ⟨hK3.trans0 hk4, rfl⟩
  · rename_i h
    exact absurd e1 h
theorem helpRows (v u : Value) (R M : List Rp) (w : World) (hv : GA rwK w v R) (hu : GA rwK w u M) (he : R.map Rp.val = M.map Rp.val) : Calls Try.prog 19 #[v, u] w fun e w' => K0 w w' ∧ e = .returned (.bool true) := by
  have hlen : R.length = M.length := by simpa using congrArg List.length he
  have hs := hv.1
  have ht := hu.1
  have hmx : R.length ≤ 9223372036854775807 := by have := hs.2.1; simpa [maxLen] using this
  refine H.enter Try.func19 Try.ntmps19 rfl rfl ?_; dsimp only [H.args]
  repeat' (first | (refine CL.seq ?_) | (refine CL.region ?_) | (refine CL.skip ?_) | (refine CL.condP rfl (fun _ => ?_) (fun _ => ?_) <;> try (exfalso; omega)) | (refine CL.block ?_) | (refine Gt.nil ?_; refine RW.nilw [0, 1, 4, 5, 10, 14, 26] ?_; dsimp only [H.keep, H.look, H.Fr.put, Nat.beq]) | (refine Gt.move ?_; refine RW.y (Y.move rfl) rfl ?_) | (refine Gt.assign ?_; refine RW.y (Y.assign rfl) rfl ?_) | (refine Gt.len ?_; (refine RW.y (Y.lenx rfl (by assumption)) rfl ?_)) | (refine Gt.neq ?_; refine RW.y (Y.nei rfl rfl) rfl ?_))
  refine CL.loopS [0, 1, 5] (fun k vals wr => ∃ i : Nat, vals = [v, u, .int .i64 (i : Int)] ∧ k = R.length - i ∧ i ≤ R.length ∧ K0 w wr) R.length ⟨_, rfl, 0, rfl, rfl, Nat.zero_le _, Kept.refl _ _⟩ ?_
  rintro k vals wr ⟨i, rfl, rfl, hi, hkr⟩
  dsimp only [List.zip, List.zipWith]
  have hvr := hv.keep0 hkr
  have hur := hu.keep0 hkr
  have hsr := hvr.1
  have htr := hur.1
  rcases Nat.lt_or_ge i R.length with hlt | hge
  · have hti : ((i : Int)).toNat = i := Int.toNat_natCast i
    have ha1 := elAll hsr rpC_len (i := (i : Int)) (by omega) (by omega)
    have ha2 := elAll htr rpC_len (i := (i : Int)) (by omega) (by omega)
    have hm1 : R.getD ((i : Int)).toNat default ∈ R := getD_mem default (by omega)
    have hm2 : M.getD ((i : Int)).toNat default ∈ M := getD_mem default (by omega)
    have hd : (R.getD ((i : Int)).toNat default).val = (M.getD ((i : Int)).toNat default).val := by
      rw [← getD_map Rp.val default ⟨[], default, #[], 0, []⟩ R _ (by omega), ← getD_map Rp.val default ⟨[], default, #[], 0, []⟩ M _ (by omega), he]
    have hD1 := hvr.2 _ hm1
    have hD2 := hur.2 _ hm2
    generalize R.getD ((i : Int)).toNat default = x at *
    generalize M.getD ((i : Int)).toNat default = y at *
    repeat' (first | (refine CL.seq ?_) | (refine CL.region ?_) | (refine CL.skip ?_) | (refine CL.condP rfl (fun _ => ?_) (fun _ => ?_) <;> try (exfalso; omega)) | (refine CL.block ?_) | (refine Gt.nil ?_; refine RW.nilw [0, 1, 4, 5, 10, 14, 26] ?_; dsimp only [H.keep, H.look, H.Fr.put, Nat.beq]) | (refine Gt.move ?_; refine RW.y (Y.move rfl) rfl ?_) | (refine Gt.len ?_; (refine RW.y (Y.lenx rfl (by assumption)) rfl ?_)) | (refine Gt.lss ?_; refine RW.y (Y.lss rfl rfl) rfl ?_))
    refine CL.draw (fun w' => K0 wr w') (by kernel_rfl) (fun w1 hheap hk1 => ?_)
    have hS : K0 wr w1 := hk1
    skip
    refine AW.take 0 rfl (by kernel_rfl) (by kernel_rfl) (by kernel_rfl) rfl (by assumption) (fun w hS => Y.move rfl) ?_
    refine AW.take 1 rfl (by kernel_rfl) (by kernel_rfl) (by kernel_rfl) rfl (by assumption) (fun w hS => Y.move rfl) ?_
    refine AW.take 2 rfl (by kernel_rfl) (by kernel_rfl) (by kernel_rfl) rfl (by assumption) (fun w hS => Y.idx rfl rfl (hsr.keep0 hS) (by omega) (by omega)) ?_
    refine AW.take 3 rfl (by kernel_rfl) (by kernel_rfl) (by kernel_rfl) rfl (by assumption) (fun w hS => Y.loadN (cs := rpC x) rfl (rpC_len x) (ha1 _ hS)) ?_
    refine AW.take 4 rfl (by kernel_rfl) (by kernel_rfl) (by kernel_rfl) rfl (by assumption) (fun w hS => Y.move rfl) ?_
    refine AW.take 5 rfl (by kernel_rfl) (by kernel_rfl) (by kernel_rfl) rfl (by assumption) (fun w hS => Y.move rfl) ?_
    refine AW.take 6 rfl (by kernel_rfl) (by kernel_rfl) (by kernel_rfl) rfl (by assumption) (fun w hS => Y.idx rfl rfl (htr.keep0 hS) (by omega) (by omega)) ?_
    refine AW.take 7 rfl (by kernel_rfl) (by kernel_rfl) (by kernel_rfl) rfl (by assumption) (fun w hS => Y.loadN (cs := rpC y) rfl (rpC_len y) (ha2 _ hS)) ?_
    refine AW.next 8 rfl (by kernel_rfl) ?_
    refine RW.fn rfl rfl ((helpRow x y w1 (rwK.keep0 hD1 hk1) (rwK.keep0 hD2 hk1) hd).mono ?_)
    rintro e w2 ⟨hk2, rfl⟩
    refine RW.nil (Nm.then (rebase0 hS hk2 fun hS => ?_))
    refine AW.take 9 rfl (by kernel_rfl) (by kernel_rfl) (by kernel_rfl) rfl (by assumption) (fun w hS => by exact Y.notb rfl) ?_
    refine AW.donew [0, 1, 5, 26] (by kernel_rfl) ?_
    dsimp only [H.keep, H.look, H.Fr.put, Nat.beq]
    repeat' (first | (refine CL.region ?_) | (refine CL.skip ?_) | (refine CL.condF rfl ?_) | (refine CL.done ?_) | (refine Nm.block ?_) | (refine Nm.then ?_) | (refine Gt.nil ?_; refine RW.nilw [0, 1, 4, 5, 10, 14, 26] ?_; dsimp only [H.keep, H.look, H.Fr.put, Nat.beq]) | (refine Gt.move ?_; refine RW.y (Y.move rfl) rfl ?_) | (refine Gt.assign ?_; refine RW.y (Y.assign rfl) rfl ?_) | (refine Gt.add ?_; refine RW.y (Y.add64 rfl rfl (by omega) (by omega)) rfl ?_))
    exact ⟨R.length - (i + 1), _, rfl, rfl, rfl, by omega, i + 1, rfl, rfl, by omega, hkr.trans0 (hk1.trans0 hk2)⟩
  · have hi : i = R.length := by omega
    subst hi
    repeat' (first | (refine CL.seq ?_) | (refine CL.region ?_) | (refine CL.condP rfl (fun _ => ?_) (fun _ => ?_) <;> try (exfalso; omega)) | (refine CL.exit ?_) | (refine Ex.then ?_) | (refine Ex.hit ?_) | (refine CL.ret ?_) | (refine Gt.nil ?_; refine RW.nilw [0, 1, 4, 5, 10, 14, 26] ?_; dsimp only [H.keep, H.look, H.Fr.put, Nat.beq]) | (refine Gt.move ?_; refine RW.y (Y.move rfl) rfl ?_) | (refine Gt.assign ?_; refine RW.y (Y.assign rfl) rfl ?_) | (refine Gt.len ?_; (refine RW.y (Y.lenx rfl (by assumption)) rfl ?_)) | (refine Gt.lss ?_; refine RW.y (Y.lss rfl rfl) rfl ?_))
    exact FQ.one rfl rfl rfl ⟨hkr, rfl⟩
end Go.Proofs.Ytlbegmpikggmlaa.Ne

namespace Go.Proofs.Ytlbegmpikggmlaa.Ne
open Go.RowKit H S Ve Sp
attribute [local irreducible] H.CL H.RW H.CW H.Yd H.thenK H.blockQ Go.Calls

def lightR (L : List Rw) (most : Nat) : Bool := decide (L.length ≤ most) && L.all (fun x => decide (x.needs.length ≤ 4))
theorem light (v : Value) (L : List (Rw × Value)) (most : Nat) (w : World) (hv : GA srK w v L) : Calls Try.prog 8 #[v, .int .i64 (most : Int)] w fun e w' => w = w' ∧ e = .returned (.bool (lightR (L.map (·.1)) most)) := by
  have hs := hv.1
  have hmx : L.length ≤ 9223372036854775807 := by have := hs.2.1; simpa [maxLen] using this
  refine H.enter Try.func8 Try.ntmps8 rfl rfl ?_; dsimp only [H.args]
  repeat' (first | (refine CL.seq ?_) | (refine CL.region ?_) | (refine CL.skip ?_) | (refine CL.condP rfl (fun _ => ?_) (fun _ => ?_) <;> try (exfalso; omega)) | (refine CL.block ?_) | (refine CL.ret ?_) | (refine Gt.nil ?_; refine RW.nilw [0, 1, 4, 5, 9, 13, 22] ?_; dsimp only [H.keep, H.look, H.Fr.put, Nat.beq]) | (refine Gt.move ?_; refine RW.y (Y.move rfl) rfl ?_) | (refine Gt.assign ?_; refine RW.y (Y.assign rfl) rfl ?_) | (refine Gt.len ?_; (refine RW.y (Y.lenx rfl (by assumption)) rfl ?_)) | (refine Gt.gtr ?_; refine RW.y (Y.gtr rfl rfl) rfl ?_))
  · rename_i h
    exact FQ.one rfl rfl rfl ⟨rfl, by rw [lightR, List.length_map, decide_eq_false (by omega)]; rfl⟩
  · rename_i h
    have hle : L.length ≤ most := by omega
    refine CL.loopS [0, 5] (fun k vals wr => ∃ i : Nat, vals = [v, .int .i64 (i : Int)] ∧ k = L.length - i ∧ i ≤ L.length ∧ ((L.map (·.1)).take i).all (fun x => decide (x.needs.length ≤ 4)) = true ∧ w = wr) L.length ⟨_, rfl, 0, rfl, rfl, Nat.zero_le _, rfl, rfl⟩ ?_
    rintro k vals wr ⟨i, rfl, rfl, hi, hall, rfl⟩
    dsimp only [List.zip, List.zipWith]
    rcases Nat.lt_or_ge i L.length with hlt | hge
    · have hti : ((i : Int)).toNat = i := Int.toNat_natCast i
      have hmem : L.getD ((i : Int)).toNat default ∈ L := getD_mem default (by omega)
      have hD := hv.2 _ hmem
      have hg := getD_map (·.1) default default L i hlt
      rw [← hti] at hg
      generalize hxd : L.getD ((i : Int)).toNat default = x at *
      repeat' (first | (refine CL.seq ?_) | (refine CL.region ?_) | (refine CL.skip ?_) | (refine CL.condP rfl (fun _ => ?_) (fun _ => ?_) <;> try (exfalso; omega)) | (refine CL.block ?_) | (refine Gt.nil ?_; refine RW.nilw [0, 1, 4, 5, 9, 13, 22] ?_; dsimp only [H.keep, H.look, H.Fr.put, Nat.beq]) | (refine Gt.move ?_; refine RW.y (Y.move rfl) rfl ?_) | (refine Gt.len ?_; (refine RW.y (Y.lenx rfl (by assumption)) rfl ?_)) | (refine Gt.lss ?_; refine RW.y (Y.lss rfl rfl) rfl ?_) | (refine Gt.idx ?_; (refine RW.elemF rfl rfl rfl rfl rfl rfl (by assumption) (fun _ => by rfl) rfl (by omega) (by omega) (by rfl) (fun _ _ => ?_))))
      rw [hxd]
      refine RW.y (Y.lenx rfl hD) rfl ?_
      repeat' (first | (refine CL.seq ?_) | (refine CL.region ?_) | (refine CL.skip ?_) | (refine CL.condP rfl (fun _ => ?_) (fun _ => ?_) <;> try (exfalso; omega)) | (refine CL.ret ?_) | (refine Rt.then ?_) | (refine Rt.block ?_) | (refine CL.done ?_) | (refine Nm.block ?_) | (refine Nm.then ?_) | (refine Gt.nil ?_; refine RW.nilw [0, 1, 4, 5, 9, 13, 22] ?_; dsimp only [H.keep, H.look, H.Fr.put, Nat.beq]) | (refine Gt.move ?_; refine RW.y (Y.move rfl) rfl ?_) | (refine Gt.assign ?_; refine RW.y (Y.assign rfl) rfl ?_) | (refine Gt.gtr ?_; refine RW.y (Y.gtr rfl rfl) rfl ?_) | (refine Gt.add ?_; refine RW.y (Y.add64 rfl rfl (by omega) (by omega)) rfl ?_))
      · rename_i h4
        refine FQ.one rfl rfl rfl ⟨rfl, ?_⟩
        rw [lightR, Bool.and_eq_false_imp.2 (fun _ => all_false (default : Rw) (i := i) (by rw [List.length_map]; exact hlt) (by rw [← hti, hg]; exact decide_eq_false (by omega)))]
      · rename_i h4
        exact ⟨L.length - (i + 1), _, rfl, rfl, rfl, by omega, i + 1, rfl, rfl, by omega, all_step (default : Rw) (by rw [List.length_map]; exact hlt) hall (by rw [← hti, hg]; exact decide_eq_true (by omega)), rfl⟩
    · have hi : i = L.length := by omega
      subst hi
      rw [List.take_of_length_le (by rw [List.length_map]; omega)] at hall
      repeat' (first | (refine CL.seq ?_) | (refine CL.region ?_) | (refine CL.condP rfl (fun _ => ?_) (fun _ => ?_) <;> try (exfalso; omega)) | (refine CL.exit ?_) | (refine Ex.then ?_) | (refine Ex.hit ?_) | (refine CL.ret ?_) | (refine Gt.nil ?_; refine RW.nilw [0, 1, 4, 5, 9, 13, 22] ?_; dsimp only [H.keep, H.look, H.Fr.put, Nat.beq]) | (refine Gt.move ?_; refine RW.y (Y.move rfl) rfl ?_) | (refine Gt.assign ?_; refine RW.y (Y.assign rfl) rfl ?_) | (refine Gt.len ?_; (refine RW.y (Y.lenx rfl (by assumption)) rfl ?_)) | (refine Gt.lss ?_; refine RW.y (Y.lss rfl rfl) rfl ?_))
      exact FQ.one rfl rfl rfl ⟨rfl, by rw [lightR, hall, List.length_map, decide_eq_true hle]; rfl⟩
theorem cmpT_self (s : T) : cmpT s s = 0 := by
  unfold cmpT
  rw [if_neg, if_pos rfl]
  induction s with
  | nil => simp [Op.bytesLess]
  | cons c s ih => simp [Op.bytesLess]; simpa using ih
theorem cmpI_self (a : Int) : cmpI a a = 0 := by simp [cmpI]
theorem cmpM_self (s : T) : cmpM s s = 0 := by
  unfold cmpM
  by_cases h : digB s = true <;> simp [h, cmpI_self, cmpT_self]
theorem cmpL_self : ∀ x : List T, cmpL x x = 0
  | [] => rfl
  | a :: x => by simp [cmpL, cmpM_self, cmpL_self x]
theorem cmpV_self (x : Ver) : cmpV x x = 0 := by
  simp only [cmpV, cmpI_self, cmpP, cmpL_self, ne_eq, not_true, if_false]
  split <;> rfl
theorem idxI_val (nm : T) (v : Ver) : ∀ (R M : List Rp) (k : Nat), R.map Rp.val = M.map Rp.val → idxI (hitR nm v) R k = idxI (hitR nm v) M k
  | [], [], _, _ => rfl
  | [], _ :: _, _, h => by cases h
  | _ :: _, [], _, h => by cases h
  | x :: R, y :: M, k, h => by
    simp only [List.map_cons, List.cons.injEq] at h
    have e1 : x.name = y.name := congrArg Rv.name h.1
    have e2 : x.v = y.v := congrArg Rv.v h.1
    have e3 : hitR nm v x = hitR nm v y := by rw [hitR, hitR, e1, e2]
    rw [idxI, idxI, e3, idxI_val nm v R M (k + 1) h.2]
theorem arcOf_val (nm : T) (v : Ver) (R M : List Rp) (A : List (List UInt8)) (h : R.map Rp.val = M.map Rp.val) : arcOf nm v R A = arcOf nm v M A := by
  rw [arcOf, arcOf, idxI_val nm v R M 0 h]
theorem arc_one (nm : T) (v : Ver) (r : Rp) (b : List UInt8) : arcOf nm v [r] [b] = if r.name = nm ∧ cmpV r.v v = 0 then some b else none := by
  by_cases h : r.name = nm ∧ cmpV r.v v = 0
  · have hh : hitR nm v r = true := by simp [hitR, h.1, h.2]
    rw [if_pos h, arcOf, idxI, if_pos hh]
    rfl
  · have hh : hitR nm v r = false := by
      rw [Bool.eq_false_iff]; intro c; simp [hitR] at c; exact h c
    rw [if_neg h, arcOf, idxI, hh]
    rfl
theorem list_one {α : Type} {l : List α} (h1 : l.length ≤ 1) (h2 : l ≠ []) : ∃ x, l = [x] := by
  cases l with
  | nil => exact absurd rfl h2
  | cons x l => cases l with
    | nil => exact ⟨x, rfl⟩
    | cons y l => simp at h1
theorem map_one {α β : Type} {f : α → β} {l : List α} {y : β} (h : l.map f = [y]) : ∃ x, l = [x] ∧ f x = y := by
  cases l with
  | nil => cases h
  | cons x l => cases l with
    | nil => exact ⟨x, rfl, by simpa using h⟩
    | cons z l => cases h
/-- One row of numbers in a slice literal. -/
theorem sr_one {w : World} {g : Nat} {x : Rw × Value} {e : TypeId} (hb : w.heap[g]? = some (.cells (rwC x).toArray e (0, 0))) (hD : srK.D w x) : GA srK w (.slice (some ⟨g, 0, none⟩) 1 1) [x] := by
  refine ⟨?_, fun y hy => by rw [List.mem_singleton.1 hy]; exact hD⟩
  have h := sl_new (sz := 5) hb (n := 1) rfl (by decide)
  simpa [srK] using h
set_option maxHeartbeats 2000000 in
theorem known (w : World) : Calls Try.prog 7 #[] w fun e w' => K0 w w' ∧ e = .returned (.bool true) := by
  refine H.enter Try.func7 Try.ntmps7 rfl rfl ?_; dsimp only [H.args]
  repeat' (first | (refine CL.seq ?_) | (refine CL.region ?_) | (refine Gt.nil ?_; refine RW.nilw [0, 1, 2, 4, 5, 6, 7, 24] ?_; dsimp only [H.keep, H.look, H.Fr.put, Nat.beq]) | (refine Gt.assign ?_; refine RW.y (Y.assign rfl) rfl ?_) | (refine RW.y (Y.build (ps := []) rfl rfl) rfl ?_))
  refine RW.build1 rfl rfl rfl rfl (fun w1 hb1 hk1 hlt1 => ?_)
  have hL : GA srK w1 (.slice (some ⟨w.heap.size, 0, none⟩) 1 1) [((⟨0, 0, [], 0, 0⟩ : Rw), .slice none 0 0)] := sr_one (x := ((⟨0, 0, [], 0, 0⟩ : Rw), .slice none 0 0)) hb1 (Sl.nil _ _)
  refine RW.fn rfl rfl ((made _ _ w1 hL (by simp) (fun x hx => by rw [List.mem_singleton.1 hx]; exact ⟨by simp, fun n hn => by cases hn⟩)).mono ?_)
  rintro e w2 ⟨hk2, u, a, R, A, tx, rfl, hI, hRl, hRne, hRn⟩
  obtain ⟨r, rfl⟩ := list_one hRl (hRne (by simp))
  obtain ⟨y, hAy⟩ := list_one (by rw [← hI.len]; simp) (fun c => by have := hI.len; rw [c] at this; simp at this) (l := A)
  subst hAy
  have hrn : r.name = nameK 0 := hRn (by simp)
  obtain ⟨hyl, hy4⟩ := hI.pak y (by simp)
  have hfr := hI.fit r (by simp)
  repeat' (first | (refine CL.seq ?_) | (refine CL.region ?_) | (refine Gt.nil ?_; refine RW.nilw [0, 1, 2, 4, 5, 6, 7, 24] ?_; dsimp only [H.keep, H.look, H.Fr.put, Nat.beq]) | (refine Gt.move ?_; refine RW.y (Y.move rfl) rfl ?_) | (refine Gt.assign ?_; refine RW.y (Y.assign rfl) rfl ?_) | (refine Gt.extract ?_; refine RW.y (Y.extract rfl rfl) rfl ?_))
  refine RW.fn rfl rfl ((netNew u a [r] [y] w2 hI.rows.ga hI.arcs.ga hI.fit (fun z hz => (hI.pak z hz).1) (by simp) (by simp)).mono ?_)
  rintro e w3 ⟨hk3, n, rfl, hn, hnR, hnA, hnF, hnc, hnq, hng, hnd⟩
  have ha3 : Sl w3 1 a 1 [y.2] := hI.arcs.ga.1.keep0 hk3
  have hr3 := hI.rows.ga.keep0 hk3
  have hK3 : K0 w w3 := (hk1.trans0 hk2).trans0 hk3
  obtain ⟨r', hr', hval⟩ := map_one (f := Rp.val) (y := r.val) (by rw [hnR]; rfl)
  obtain ⟨y', hy', hyv⟩ := map_one (f := Prod.fst) (y := y.1) (by rw [hnA]; rfl)
  have hrl := hr3.1
  repeat' (first | (refine CL.seq ?_) | (refine CL.region ?_) | (refine CL.skip ?_) | (refine CL.condP rfl (fun _ => ?_) (fun _ => ?_) <;> try (exfalso; omega)) | (refine Gt.nil ?_; refine RW.nilw [0, 1, 2, 4, 5, 6, 7, 24] ?_; dsimp only [H.keep, H.look, H.Fr.put, Nat.beq]) | (refine Gt.move ?_; refine RW.y (Y.move rfl) rfl ?_) | (refine Gt.guard ?_; (refine RW.on rfl rfl rfl ?_)) | (refine Gt.assign ?_; refine RW.y (Y.assign rfl) rfl ?_) | (refine Gt.pick ?_; (refine RW.y (Y.pickF rfl rfl) rfl ?_)) | (refine Gt.eql ?_; (refine RW.y (Y.eqpn rfl rfl) rfl ?_)) | (refine Gt.len ?_; (refine RW.y (Y.lenx rfl (by assumption)) rfl ?_)) | (refine Gt.neq ?_; refine RW.y (Y.nei rfl rfl) rfl ?_) | (refine RW.y (Y.build (ps := [(0, _)]) rfl rfl) rfl ?_))
  refine RW.fn rfl rfl ((netFault n (1, 0) w3 hn (by rw [hnF]; simp)).mono ?_)
  rintro e w4 ⟨rfl, q4, ht4⟩
  have hrw := hI.rows.ga
  have hrD := hrw.2 r (by simp)
  have hrpre : Sl w2 1 r.pre r.v.pre.length (sv r.v.pre) := hrD.1
  have hrlt : ∀ g, live r.pre = some g → g < w2.heap.size := fun g hg => hrD.2.2.2.2.2 g (hrD.2.2.1 g hg)
  have hrn' : r'.name = r.name := congrArg Rv.name hval
  have hrv' : r'.v = r.v := congrArg Rv.v hval
  have harcA : arcOf [97] r.v [r'] [y.1] = some y.1 := by rw [arc_one, if_pos ⟨hrn'.trans hrn, by rw [hrv', cmpV_self]⟩]
  have harcB : arcOf [98] r.v [r'] [y.1] = none := by rw [arc_one, if_neg (fun c => by rw [hrn', hrn] at c; exact absurd c.1 (by decide))]
  have hrep1 : replyB [y.1] (some y.1) (1, 0) 0 4 = (1, []) := rfl
  have hpart : partB y.1 0 4 = [80, 65, 75, 49] := hy4
  have hrep2 : replyB [y.1] (some y.1) (0, 0) 0 4 = (0, [80, 65, 75, 49]) := by rw [← hpart]; rfl
  have hrep3 : replyB [y.1] none (0, 0) 0 4 = (2, []) := rfl
  have hwr : ∀ k, n.Wr k → w2.heap.size ≤ k := fun k hk => hk.elim (fun h => by omega) fun h => by rw [hnq] at h; cases h
  have hK4 : K0 w2 w4 := hk3.trans ht4.kept fun k h => .inr (hwr k h)
  have hz3 := hk3.size
  have hz4 := hK4.size
  have hwr4 : ∀ k, Nt.Wr { n with F := n.F ++ [(1, 0)], q := q4 } k → w2.heap.size ≤ k := fun k hk => (ht4.wr k hk).elim (hwr k) fun h => by omega
  have hn4 := ht4.at_
  obtain ⟨n4, hn4e⟩ : ∃ n4 : Nt, n4 = { n with F := n.F ++ [(1, 0)], q := q4 } := ⟨_, rfl⟩
  rw [← hn4e] at hn4 hwr4
  have hF4 : n4.F = [(1, 0)] := by rw [hn4e]; show n.F ++ [(1, 0)] = _; rw [hnF]; rfl
  have hA4 : n4.A.map (·.1) = [y.1] := by rw [hn4e]; show n.A.map (·.1) = _; rw [hy', ← hyv]; rfl
  have hR4 : n4.R = [r'] := by rw [hn4e]; exact hr'
  have hc4 : n4.c = 0 := by rw [hn4e]; exact hnc
  have hg4 : n4.g = n.g := by rw [hn4e]
  rw [← hg4]
  obtain ⟨ga, oa, hspa, hrca⟩ := rowSpot (hrw.keep0 hK4) (i := 0) (by omega) (by simp)
  have hrsa := (hrw.keep0 hK4).1
  repeat' (first | (refine CL.seq ?_) | (refine CL.region ?_) | (refine Gt.nil ?_; refine RW.nilw [0, 1, 2, 4, 5, 6, 7, 24] ?_; dsimp only [H.keep, H.look, H.Fr.put, Nat.beq]) | (refine Gt.move ?_; refine RW.y (Y.move rfl) rfl ?_))
  refine RW.y (Y.idx rfl rfl hrsa (by omega) (by simp)) rfl ?_
  refine RW.y (Y.fieldAddr (congrArg (fun a => some (Value.pointer (some a))) hspa) (by rfl)) rfl ?_
  refine RW.y (Y.loadN (cs := [_, _, _, _]) rfl rfl (hrca _ (Kept.refl _ _)).ver) rfl ?_
  repeat' ((refine RW.y (Y.build (ps := [(0, _), (1, _), (3, _)]) rfl rfl) rfl ?_))
  refine RW.fn rfl rfl ((netGet n4 [97] r.v r.pre 0 4 w4 hn4 (by rw [hF4]; simp) (by rw [hc4]; decide) (hrpre.keep0 hK4) (fun k hk c => by have := hwr4 k c; have := hrlt k hk; omega) hfr.v).mono ?_)
  rintro e x5 ⟨v5, q5, rfl, hs5, hl5, hqs5, ht5⟩
  rw [hA4, hR4, hF4, show hdF [(1, 0)] = (1, 0) from rfl, harcA, hrep1] at hs5
  rw [hA4, hR4, hF4, show hdF [(1, 0)] = (1, 0) from rfl, harcA, hrep1]
  have hKx5 : K0 w2 x5 := hK4.trans ht5.kept fun k h => .inr (hwr4 k h)
  obtain ⟨p5, cp5, hve5, _⟩ := hs5.shape
  subst hve5
  refine RW.varN rfl rfl rfl (fun z hz => by simp at hz; rcases hz with rfl | rfl <;> rfl) rfl (fun w5 hb5 hk5 hlt5 => ?_)
  have hz5 := hk5.size
  have hzx5 := ht5.kept.size
  have hK5 : K0 w2 w5 := hKx5.trans0 hk5
  have ht5' := ht5.post hk5 (fun k c => by cases c)
  have hwr5 : ∀ k, Nt.Wr { n4 with F := n4.F.tail, q := q5, c := n4.c + 1 } k → w2.heap.size ≤ k := fun k hk => (ht5.wr k hk).elim (hwr4 k) fun h => by have := hK4.size; omega
  have hn5 := ht5'.at_
  obtain ⟨n5, hn5e⟩ : ∃ n5 : Nt, n5 = { n4 with F := n4.F.tail, q := q5, c := n4.c + 1 } := ⟨_, rfl⟩
  rw [← hn5e] at hn5 hwr5
  have hF5 : n5.F = [] := by rw [hn5e]; show n4.F.tail = _; rw [hF4]; rfl
  have hA5 : n5.A.map (·.1) = [y.1] := by rw [hn5e]; exact hA4
  have hR5 : n5.R = [r'] := by rw [hn5e]; exact hR4
  have hc5 : n5.c = 1 := by rw [hn5e]; show n4.c + 1 = _; rw [hc4]
  have hg5 : n5.g = n4.g := by rw [hn5e]
  rw [← hg5]
  obtain ⟨gb, ob, hspb, hrcb⟩ := rowSpot (hrw.keep0 hK5) (i := 0) (by omega) (by simp)
  have hrsb := (hrw.keep0 hK5).1
  repeat' (first | (refine CL.seq ?_) | (refine CL.region ?_) | (refine Gt.nil ?_; refine RW.nilw [0, 1, 2, 4, 5, 6, 7, 24] ?_; dsimp only [H.keep, H.look, H.Fr.put, Nat.beq]) | (refine Gt.move ?_; refine RW.y (Y.move rfl) rfl ?_))
  refine RW.y (Y.idx rfl rfl hrsb (by omega) (by simp)) rfl ?_
  refine RW.y (Y.fieldAddr (congrArg (fun a => some (Value.pointer (some a))) hspb) (by rfl)) rfl ?_
  refine RW.y (Y.loadN (cs := [_, _, _, _]) rfl rfl (hrcb _ (Kept.refl _ _)).ver) rfl ?_
  repeat' ((refine RW.y (Y.build (ps := [(0, _), (1, _), (3, _)]) rfl rfl) rfl ?_))
  refine RW.fn rfl rfl ((netGet n5 [97] r.v r.pre 0 4 w5 hn5 (by rw [hF5]; simp) (by rw [hc5]; decide) (hrpre.keep0 hK5) (fun k hk c => by have := hwr5 k c; have := hrlt k hk; omega) hfr.v).mono ?_)
  rintro e x6 ⟨v6, q6, rfl, hs6, hl6, hqs6, ht6⟩
  rw [hA5, hR5, hF5, show hdF [] = (0, 0) from rfl, harcA, hrep2] at hs6
  rw [hA5, hR5, hF5, show hdF [] = (0, 0) from rfl, harcA, hrep2]
  have hKx6 : K0 w2 x6 := hK5.trans ht6.kept fun k h => .inr (hwr5 k h)
  obtain ⟨p6, cp6, hve6, _⟩ := hs6.shape
  subst hve6
  refine RW.varN rfl rfl rfl (fun z hz => by simp at hz; rcases hz with rfl | rfl <;> rfl) rfl (fun w6 hb6 hk6 hlt6 => ?_)
  have hz6 := hk6.size
  have hzx6 := ht6.kept.size
  have hK6 : K0 w2 w6 := hKx6.trans0 hk6
  have ht6' := ht6.post hk6 (fun k c => by cases c)
  have hwr6 : ∀ k, Nt.Wr { n5 with F := n5.F.tail, q := q6, c := n5.c + 1 } k → w2.heap.size ≤ k := fun k hk => (ht6.wr k hk).elim (hwr5 k) fun h => by have := hK5.size; omega
  have hn6 := ht6'.at_
  obtain ⟨n6, hn6e⟩ : ∃ n6 : Nt, n6 = { n5 with F := n5.F.tail, q := q6, c := n5.c + 1 } := ⟨_, rfl⟩
  rw [← hn6e] at hn6 hwr6
  have hF6 : n6.F = [] := by rw [hn6e]; show n5.F.tail = _; rw [hF5]; rfl
  have hA6 : n6.A.map (·.1) = [y.1] := by rw [hn6e]; exact hA5
  have hR6 : n6.R = [r'] := by rw [hn6e]; exact hR5
  have hc6 : n6.c = 2 := by rw [hn6e]; show n5.c + 1 = _; rw [hc5]
  have hg6 : n6.g = n5.g := by rw [hn6e]
  rw [← hg6]
  obtain ⟨gc, oc, hspc, hrcc⟩ := rowSpot (hrw.keep0 hK6) (i := 0) (by omega) (by simp)
  have hrsc := (hrw.keep0 hK6).1
  repeat' (first | (refine CL.seq ?_) | (refine CL.region ?_) | (refine Gt.nil ?_; refine RW.nilw [0, 1, 2, 4, 5, 6, 7, 24] ?_; dsimp only [H.keep, H.look, H.Fr.put, Nat.beq]) | (refine Gt.move ?_; refine RW.y (Y.move rfl) rfl ?_))
  refine RW.y (Y.idx rfl rfl hrsc (by omega) (by simp)) rfl ?_
  refine RW.y (Y.fieldAddr (congrArg (fun a => some (Value.pointer (some a))) hspc) (by rfl)) rfl ?_
  refine RW.y (Y.loadN (cs := [_, _, _, _]) rfl rfl (hrcc _ (Kept.refl _ _)).ver) rfl ?_
  repeat' ((refine RW.y (Y.build (ps := [(0, _), (1, _), (3, _)]) rfl rfl) rfl ?_))
  refine RW.fn rfl rfl ((netGet n6 [98] r.v r.pre 0 4 w6 hn6 (by rw [hF6]; simp) (by rw [hc6]; decide) (hrpre.keep0 hK6) (fun k hk c => by have := hwr6 k c; have := hrlt k hk; omega) hfr.v).mono ?_)
  rintro e x7 ⟨v7, q7, rfl, hs7, hl7, hqs7, ht7⟩
  rw [hA6, hR6, hF6, show hdF [] = (0, 0) from rfl, harcB, hrep3] at hs7
  rw [hA6, hR6, hF6, show hdF [] = (0, 0) from rfl, harcB, hrep3]
  have hKx7 : K0 w2 x7 := hK6.trans ht7.kept fun k h => .inr (hwr6 k h)
  obtain ⟨p7, cp7, hve7, _⟩ := hs7.shape
  subst hve7
  refine RW.varN rfl rfl rfl (fun z hz => by simp at hz; rcases hz with rfl | rfl <;> rfl) rfl (fun w7 hb7 hk7 hlt7 => ?_)
  have hz7 := hk7.size
  have hzx7 := ht7.kept.size
  have hK7 : K0 w2 w7 := hKx7.trans0 hk7
  have ht7' := ht7.post hk7 (fun k c => by cases c)
  have hwr7 : ∀ k, Nt.Wr { n6 with F := n6.F.tail, q := q7, c := n6.c + 1 } k → w2.heap.size ≤ k := fun k hk => (ht7.wr k hk).elim (hwr6 k) fun h => by have := hK6.size; omega
  have hn7 := ht7'.at_
  obtain ⟨n7, hn7e⟩ : ∃ n7 : Nt, n7 = { n6 with F := n6.F.tail, q := q7, c := n6.c + 1 } := ⟨_, rfl⟩
  rw [← hn7e] at hn7 hwr7
  have hF7 : n7.F = [] := by rw [hn7e]; show n6.F.tail = _; rw [hF6]; rfl
  have hA7 : n7.A.map (·.1) = [y.1] := by rw [hn7e]; exact hA6
  have hR7 : n7.R = [r'] := by rw [hn7e]; exact hR6
  have hc7 : n7.c = 3 := by rw [hn7e]; show n6.c + 1 = _; rw [hc6]
  have hg7 : n7.g = n6.g := by rw [hn7e]
  rw [← hg7]
  have hlt4 : ∀ k, n4.Wr k → k < w4.heap.size := fun k hk => hn4.lt k (.inl hk)
  have hsub5 : ∀ k, n5.Wr k → n4.Wr k := fun k hk => by rw [hn5e] at hk; exact hk.imp id (hqs5 k)
  have hsub6 : ∀ k, n6.Wr k → n4.Wr k := fun k hk => by rw [hn6e] at hk; exact hsub5 k (hk.imp id (hqs6 k))
  have hb57 := hk7.at0 (ht7.kept.at (hk6.at0 (ht6.kept.at hb5 (fun c => by have := hlt4 _ (hsub5 _ c); omega))) (fun c => by have := hlt4 _ (hsub6 _ c); omega))
  have hb67 := hk7.at0 (ht7.kept.at hb6 (fun c => by have := hlt4 _ (hsub6 _ c); omega))
  have hs67 := ((hs6.keep0 hk6).keep ht7.kept (fun g hg c => by have h1 := hl6 g hg; have := hlt4 _ (hsub6 _ c); omega)).keep0 hk7
  repeat' (first | (refine CL.seq ?_) | (refine CL.region ?_) | (refine Gt.nil ?_; refine RW.nilw [0, 1, 2, 4, 5, 6, 7, 24] ?_; dsimp only [H.keep, H.look, H.Fr.put, Nat.beq]) | (refine Gt.move ?_; refine RW.y (Y.move rfl) rfl ?_) | (refine Gt.guard ?_; first | (refine RW.part rfl rfl rfl (fun _ => ?_) (fun _ => ?_) <;> try (exfalso; omega)) | (refine RW.on rfl rfl rfl ?_)) | (refine Gt.fieldAddr ?_; refine RW.y (Y.fieldAddr rfl (by rfl)) rfl ?_) | (refine Gt.load ?_; (refine RW.y (Y.loadB rfl (by assumption) rfl) rfl ?_)) | (refine Gt.pick ?_; (refine RW.y (Y.pickT rfl rfl) rfl ?_)) | (refine Gt.eql ?_; (refine RW.y (Y.eqi rfl rfl) rfl ?_)))
  refine RW.y (Y.strb rfl hs67) rfl ?_
  repeat' (first | (refine CL.ret ?_) | (refine Gt.nil ?_; refine RW.nilw [0, 1, 2, 4, 5, 6, 7, 24] ?_; dsimp only [H.keep, H.look, H.Fr.put, Nat.beq]) | (refine Gt.move ?_; refine RW.y (Y.move rfl) rfl ?_) | (refine Gt.guard ?_; first | (refine RW.part rfl rfl rfl (fun _ => ?_) (fun _ => ?_) <;> try (exfalso; omega)) | (refine RW.on rfl rfl rfl ?_) | (refine RW.off1 rfl rfl rfl rfl rfl ?_)) | (refine Gt.assign ?_; refine RW.y (Y.assign rfl) rfl ?_) | (refine Gt.fieldAddr ?_; refine RW.y (Y.fieldAddr rfl (by rfl)) rfl ?_) | (refine Gt.load ?_; (refine RW.y (Y.loadB rfl (by assumption) rfl) rfl ?_)) | (refine Gt.pick ?_; first | (refine RW.y (Y.pickT rfl rfl) rfl ?_) | (refine RW.y (Y.pickF rfl rfl) rfl ?_)) | (refine Gt.eql ?_; first | (refine RW.y (Y.eqi rfl rfl) rfl ?_) | (refine RW.y (Y.eqs rfl rfl) rfl ?_)))
  · refine RW.fn rfl rfl ((netCount n7 w7 hn7).mono ?_)
    rintro e w8 ⟨rfl, rfl⟩
    rw [hc7]
    repeat' (first | (refine Gt.move ?_; refine RW.y (Y.move rfl) rfl ?_) | (refine Gt.guard ?_; first | (refine RW.part rfl rfl rfl (fun _ => ?_) (fun _ => ?_) <;> try (exfalso; omega)) | (refine RW.on rfl rfl rfl ?_)) | (refine Gt.pick ?_; (refine RW.y (Y.pickT rfl rfl) rfl ?_)) | (refine Gt.eql ?_; (refine RW.y (Y.eqi rfl rfl) rfl ?_)))
    refine RW.fn rfl rfl ((netRows n7 w7 hn7).mono ?_)
    rintro e w8 ⟨hk8, u8, R8, rfl, hR8, hv8⟩
    have hl8 : R8.length = 1 := by have := congrArg List.length hv8; rw [hR7] at this; simpa using this
    have hs8 := hR8.1
    rw [hl8] at hs8
    repeat' (first | (refine CL.ret ?_) | (refine Gt.nil ?_; refine RW.nilw [0, 1, 2, 4, 5, 6, 7, 24] ?_; dsimp only [H.keep, H.look, H.Fr.put, Nat.beq]) | (refine Gt.guard ?_; (refine RW.on rfl rfl rfl ?_)) | (refine Gt.assign ?_; refine RW.y (Y.assign rfl) rfl ?_) | (refine Gt.pick ?_; (refine RW.y (Y.pickT rfl rfl) rfl ?_)) | (refine Gt.eql ?_; (refine RW.y (Y.eqi rfl rfl) rfl ?_)) | (refine Gt.len ?_; (refine RW.y (Y.lenx rfl (by assumption)) rfl ?_)))
    exact FQ.one rfl rfl rfl ⟨((hk1.trans0 hk2).trans0 hK7).trans0 hk8, rfl⟩
  · rename_i h
    exact absurd rfl h
end Go.Proofs.Ytlbegmpikggmlaa.Ne

namespace Go.Proofs.Ytlbegmpikggmlaa.Ne
open Go.RowKit H S Ve Sp
attribute [local irreducible] H.CL H.RW H.CW H.Yd H.thenK H.blockQ Go.Calls

structure Two (gx gy B : Nat) (w : World) (x y : Nt) : Prop where
  hx : NetAt netT w x
  hy : NetAt rnetT w y
  dx : ∀ k, x.Wr k → ¬ (y.Wr k ∨ y.Rd k)
  dy : ∀ k, y.Wr k → ¬ (x.Wr k ∨ x.Rd k)
  ex : x.g = gx
  ey : y.g = gy
  bx : ∀ k, x.Wr k → k = gx ∨ B ≤ k
  bY : ∀ k, y.Wr k → k = gy ∨ B ≤ k
  hB : B ≤ w.heap.size
structure Same (x y : Nt) : Prop where
  F : x.F = y.F
  R : x.R.map Rp.val = y.R.map Rp.val
  A : x.A.map (·.1) = y.A.map (·.1)
  c : x.c = y.c
theorem Two.keep {gx gy B : Nat} {S : Nat → Prop} {w w' : World} {x y : Nt} (h : Two gx gy B w x y) (k : Kept S w w') (hS : ∀ k, k < w.heap.size → (x.Wr k ∨ x.Rd k ∨ y.Wr k ∨ y.Rd k) → ¬ S k) : Two gx gy B w' x y :=
  ⟨h.hx.keep k fun j hl hj => hS j hl (hj.elim .inl fun h => .inr (.inl h)), h.hy.keep k fun j hl hj => hS j hl (hj.elim (fun h => .inr (.inr (.inl h))) fun h => .inr (.inr (.inr h))), h.dx, h.dy, h.ex, h.ey, h.bx, h.bY, Nat.le_trans h.hB k.size⟩
theorem Two.keep0 {gx gy B : Nat} {w w' : World} {x y : Nt} (h : Two gx gy B w x y) (k : K0 w w') : Two gx gy B w' x y := h.keep k fun _ _ _ c => c
theorem Two.x {gx gy B : Nat} {w w' : World} {x x' y : Nt} (h : Two gx gy B w x y) (t : Turned netT w w' x x') : Two gx gy B w' x' y := by
  have hly := h.hy.lt
  refine ⟨t.at_, h.hy.keep t.kept fun j _ hj c => h.dx j c hj, fun k hk hj => ?_, fun k hk hj => ?_, t.g.trans h.ex, h.ey, fun k hk => ?_, h.bY, Nat.le_trans h.hB t.kept.size⟩
  · rcases t.wr k hk with h1 | h1
    · exact h.dx k h1 hj
    · have := hly k hj; omega
  · rcases hj with hj | hj
    · rcases t.wr k hj with h1 | h1
      · exact h.dx k h1 (.inl hk)
      · have := hly k (.inl hk); omega
    · rcases t.rd k hj with h1 | h1
      · exact h.dy k hk (.inr h1)
      · have := hly k (.inl hk); omega
  · rcases t.wr k hk with h1 | h1
    · exact h.bx k h1
    · exact .inr (Nat.le_trans h.hB h1)
theorem Two.y {gx gy B : Nat} {w w' : World} {x y y' : Nt} (h : Two gx gy B w x y) (t : Turned rnetT w w' y y') : Two gx gy B w' x y' := by
  have hlx := h.hx.lt
  refine ⟨h.hx.keep t.kept fun j _ hj c => h.dy j c hj, t.at_, fun k hk hj => ?_, fun k hk hj => ?_, h.ex, t.g.trans h.ey, h.bx, fun k hk => ?_, Nat.le_trans h.hB t.kept.size⟩
  · rcases hj with hj | hj
    · rcases t.wr k hj with h1 | h1
      · exact h.dy k h1 (.inl hk)
      · have := hlx k (.inl hk); omega
    · rcases t.rd k hj with h1 | h1
      · exact h.dx k hk (.inr h1)
      · have := hlx k (.inl hk); omega
  · rcases t.wr k hk with h1 | h1
    · exact h.dy k h1 hj
    · have := hlx k hj; omega
  · rcases t.wr k hk with h1 | h1
    · exact h.bY k h1
    · exact .inr (Nat.le_trans h.hB h1)
theorem Two.wlt {gx gy B : Nat} {w : World} {x y : Nt} (h : Two gx gy B w x y) (k : Nat) (hk : x.Wr k ∨ y.Wr k) : k < w.heap.size := hk.elim (fun hk => h.hx.lt k (.inl hk)) fun hk => h.hy.lt k (.inl hk)
/-- All that a step of either may write. -/
def Pw (gx gy B : Nat) (k : Nat) : Prop := k = gx ∨ k = gy ∨ B ≤ k
theorem Two.wp {gx gy B : Nat} {w : World} {x y : Nt} (h : Two gx gy B w x y) (k : Nat) (hk : x.Wr k ∨ y.Wr k) : Pw gx gy B k := hk.elim (fun hk => (h.bx k hk).imp id .inr) fun hk => (h.bY k hk).elim (fun h => .inr (.inl h)) fun h => .inr (.inr h)
theorem Same.arc {x y : Nt} (h : Same x y) (nm : T) (v : Ver) : arcOf nm v x.R (x.A.map (·.1)) = arcOf nm v y.R (y.A.map (·.1)) := by rw [h.A, arcOf_val nm v _ _ _ h.R]
/-- The reference's net as it is made. -/
theorem refNew {w : World} {g : Nat} {u a : Value} {R : List Rp} {A : List (List UInt8 × Value)} (hb : w.heap[g]? = some (.cells #[u, a, .slice none 0 0, .int .i64 0] rnetT (0, 0))) (hu : GA rwK w u R) (ha : GA arK w a A) (hn : ∀ k, ((live u = some k ∨ ∃ x ∈ R, x.A k) ∨ (live a = some k ∨ ∃ y ∈ A, live y.2 = some k)) → k ≠ g) (hf : ∀ x ∈ R, FitR x) (hl : ∀ y ∈ A, y.1.length ≤ 30000) (h1 : R.length ≤ 100) (h2 : A.length ≤ 100) : NetAt rnetT w ⟨g, u, a, .slice none 0 0, R, A, [], 0⟩ :=
  ⟨hb, hu, ha, Tl.nil _ _ _ _, fun k hk hr => hn k hr (hk.elim id fun h => by cases h), (fun c => by cases c), hf, hl, h1, h2⟩
/-- append to the reference's faults: the walk of 'w.Faults = append(w.Faults, f)' comes to this. -/
theorem Two.fault {gx gy B : Nat} {w w1 w2 : World} {x y : Nt} {q' : Value} {f : Int × Int} (h : Two gx gy B w x y) (k1 : Kept (fun k => y.q.ownBlock = some k) w w1) (hq : Tl w1 0 fltT 2 q' (y.F.length + 1) (y.F.flatMap fltC ++ fltC f)) (hl : ∀ k, q'.ownBlock = some k → y.q.ownBlock = some k ∨ w.heap.size ≤ k) (hb : w2.heap[y.g]? = some (.cells #[y.u, y.a, q', .int .i64 (y.c : Int)] rnetT (0, 0))) (k2 : Kept (fun k => k = y.g) w1 w2) : Turned rnetT w w2 y { y with F := y.F ++ [f], q := q' } := by
  have hlt := h.hy.lt
  have hk : Kept y.Wr w w2 := (k1.mono fun k h => (.inr h : y.Wr k)).trans (k2.mono fun k h => (.inl h : y.Wr k)) fun k h => .inl h
  refine h.hy.put hk hb rfl (GA.keep h.hy.rows hk fun g _ hg c => h.hy.sep g c (.inl hg)) rfl rfl ?_ h.hy.fit h.hy.rl hl (fun k hk => .inl (.inl hk)) (fun k hk hw hd => by have := hlt k (.inr (.inl hd)); omega)
  have e1 : (y.F ++ [f]).flatMap fltC = y.F.flatMap fltC ++ fltC f := by simp
  show Tl w2 0 fltT 2 q' (y.F ++ [f]).length ((y.F ++ [f]).flatMap fltC)
  rw [e1, List.length_append, List.length_singleton]
  exact hq.keep k2 fun k hk c => (hl k hk).elim (fun h' => h.hy.qg (by rw [h', c])) fun h' => by have := hlt y.g (.inl (.inl rfl)); have h6 : k = y.g := c; omega
theorem netCountG {gp : Nat} (n : Nt) (w : World) (h : NetAt netT w n) (hgp : n.g = gp) : Calls Try.prog 16 #[.pointer (some ⟨gp, 0, none⟩)] w fun e w' => w = w' ∧ e = .returned (.int .i64 (n.c : Int)) := by
  subst hgp
  exact netCount n w h
theorem netRowsG {gp : Nat} (n : Nt) (w : World) (h : NetAt netT w n) (hgp : n.g = gp) : Calls Try.prog 20 #[.pointer (some ⟨gp, 0, none⟩)] w fun e w' => K0 w w' ∧ ∃ u R', e = .returned u ∧ GA rwK w' u R' ∧ R'.map Rp.val = n.R.map Rp.val := by
  subst hgp
  exact netRows n w h
theorem netSetG {gp : Nat} (n : Nt) (u : Value) (R : List Rp) (w : World) (h : NetAt netT w n) (hu : GA rwK w u R) (hf : ∀ x ∈ R, FitR x) (hl : R.length ≤ 100) (hR : ∀ k, (∃ x ∈ R, x.A k) → ¬ n.Wr k) (hgp : n.g = gp) : Calls Try.prog 17 #[.pointer (some ⟨gp, 0, none⟩), u] w fun e w' => e = .returned (.tuple #[]) ∧ ∃ u' R', R'.map Rp.val = R.map Rp.val ∧ NetAt netT w' { n with u := u', R := R' } ∧ Kept n.Wr w w' ∧ (∀ k, ({ n with u := u', R := R' } : Nt).Rd k → n.Rd k ∨ w.heap.size ≤ k ∨ ∃ x ∈ R, x.A k) := by
  subst hgp
  exact netSet n u R w h hu hf hl hR
theorem netFaultG {gp : Nat} (n : Nt) (x : Int × Int) (w : World) (h : NetAt netT w n) (hF : n.F.length ≤ 1000) (hgp : n.g = gp) : Calls Try.prog 12 #[.pointer (some ⟨gp, 0, none⟩), .agg (fltC x).toArray] w fun e w' => e = .returned (.tuple #[]) ∧ ∃ q', Turned netT w w' n { n with F := n.F ++ [x], q := q' } := by
  subst hgp
  exact netFault n x w h hF
theorem netGetG {gp : Nat} (n : Nt) (nm : T) (x0 : Ver) (pv : Value) (off sz : Int) (w : World) (h : NetAt netT w n) (hF : n.F.length ≤ 1000) (hc : n.c ≤ 1000000) (hpv : Sl w 1 pv x0.pre.length (sv x0.pre)) (hpw : ∀ g, live pv = some g → ¬ n.Wr g) (fx : Fit x0) (hgp : n.g = gp) : Calls Try.prog 11 #[.pointer (some ⟨gp, 0, none⟩), .agg (askC nm x0 pv off sz)] w fun e w' => ∃ v q', e = .returned (.agg #[.int .i64 (replyB (n.A.map (·.1)) (arcOf nm x0 n.R (n.A.map (·.1))) (hdF n.F) off sz).1, v]) ∧ Sl w' 1 v (replyB (n.A.map (·.1)) (arcOf nm x0 n.R (n.A.map (·.1))) (hdF n.F) off sz).2.length (bv (replyB (n.A.map (·.1)) (arcOf nm x0 n.R (n.A.map (·.1))) (hdF n.F) off sz).2) ∧ (∀ g, live v = some g → w.heap.size ≤ g) ∧ (∀ k, q'.ownBlock = some k → n.q.ownBlock = some k) ∧ Turned netT w w' n { n with F := n.F.tail, q := q', c := n.c + 1 } := by
  subst hgp
  exact netGet n nm x0 pv off sz w h hF hc hpv hpw fx
theorem refGetG {gp : Nat} (n : Nt) (nm : T) (x0 : Ver) (pv : Value) (off sz : Int) (w : World) (h : NetAt rnetT w n) (hF : n.F.length ≤ 1000) (hc : n.c ≤ 1000000) (hpv : Sl w 1 pv x0.pre.length (sv x0.pre)) (hpw : ∀ g, live pv = some g → ¬ n.Wr g) (fx : Fit x0) (hgp : n.g = gp) : Calls Try.prog 15 #[.pointer (some ⟨gp, 0, none⟩), .agg (askC nm x0 pv off sz)] w fun e w' => ∃ v q', e = .returned (.agg #[.int .i64 (replyB (n.A.map (·.1)) (arcOf nm x0 n.R (n.A.map (·.1))) (hdF n.F) off sz).1, v]) ∧ Sl w' 1 v (replyB (n.A.map (·.1)) (arcOf nm x0 n.R (n.A.map (·.1))) (hdF n.F) off sz).2.length (bv (replyB (n.A.map (·.1)) (arcOf nm x0 n.R (n.A.map (·.1))) (hdF n.F) off sz).2) ∧ (∀ g, live v = some g → w.heap.size ≤ g) ∧ (∀ k, q'.ownBlock = some k → n.q.ownBlock = some k) ∧ Turned rnetT w w' n { n with F := n.F.tail, q := q', c := n.c + 1 } := by
  subst hgp
  exact refGet n nm x0 pv off sz w h hF hc hpv hpw fx
end Go.Proofs.Ytlbegmpikggmlaa.Ne

namespace Go.Proofs.Ytlbegmpikggmlaa.H
open Go.RowKit
section
variable {P : Program} {f : Fr} {w : World} {d : Nat} {ty : TypeId} {pos : String} {af : Array Edge}
theorem Y.field {s off ft : TypeId} {i : Nat} [h : Fld P s i off ft] [h1 : One P ft] {x : Operand} {c : Array Value} {v : Value} (hx : f.ev x = some (.agg c)) (hv : c[off]? = some v) : Yd P f (op1 d (.field s x i) ty pos af) v w := by
  intro a ha
  obtain ⟨fs, fd, hs, hi, ho, hf⟩ := h.out
  have h2 := h1.agg w
  simp [execOp, ha.eval hx, Instr.field, run_underlying hs, hi, asAgg, part, hf, h2, ho, hv]
end
end Go.Proofs.Ytlbegmpikggmlaa.H

namespace Go.Proofs.Ytlbegmpikggmlaa.Ne
open Go.RowKit H S Ve Sp
attribute [local irreducible] H.CL H.RW H.CW H.Yd H.thenK H.blockQ Go.Calls

theorem plain_eq (b : List UInt8) (o l : Int) (h0 : 0 ≤ o) (h1 : 0 ≤ l) : (b.take (min (min o (b.length : Int) + min l 64) (b.length : Int)).toNat).drop (min o (b.length : Int)).toNat = partB b o l := by
  rw [partB, List.drop_take, show max o 0 = o from by omega, show max l 0 = l from by omega]
  rcases Int.le_total o b.length with h | h
  · rw [show (min o (b.length : Int)).toNat = o.toNat from by omega]
    rcases Int.le_total (min l 64) ((b.length : Int) - o) with h2 | h2
    · congr 1
      omega
    · rw [List.take_of_length_le (by rw [List.length_drop]; omega), List.take_of_length_le (by rw [List.length_drop]; omega)]
  · rw [List.drop_eq_nil_of_le (by omega), List.drop_eq_nil_of_le (by omega), List.take_nil, List.take_nil]
theorem take_fix (x : List UInt8) (n : Int) : x.take (min (max n 0) (x.length : Int)).toNat = x.take (max n 0).toNat := by
  rcases Int.le_total (max n 0) x.length with h | h
  · rw [show min (max n 0) (x.length : Int) = max n 0 from by omega]
  · rw [List.take_of_length_le (by omega), List.take_of_length_le (by omega)]
/-- What parts a byte from itself with one bit turned. -/
theorem spoil_at (x : List UInt8) (n : Int) (hx : x ≠ []) : ∃ (m j : Nat), m < x.length ∧ j < 8 ∧ ∀ i, i < x.length → bits .xor .u8 (((spoilB x n).getD i 0).toNat : Int) ((x.getD i 0).toNat : Int) = if i = m then ((2 ^ j : Nat) : Int) else 0 := by
  have hp : 0 < x.length := List.length_pos_iff.2 hx
  have h1 := Int.emod_nonneg n (show (8 * (x.length : Int)) ≠ 0 by omega)
  have h2 := Int.emod_lt_of_pos n (show 0 < (8 * (x.length : Int)) by omega)
  obtain ⟨z, hz⟩ : ∃ z, n % (8 * (x.length : Int)) = z := ⟨_, rfl⟩
  rw [hz] at h1 h2
  refine ⟨(z / 8).toNat, (z % 8).toNat, by omega, by omega, fun i hi => ?_⟩
  have hb := (x.getD i 0).toNat_lt
  rw [spoilB, hz]
  by_cases him : i = (z / 8).toNat
  · rw [if_pos him, him]
    have hj : (z % 8).toNat < 8 := by omega
    have e1 : (x.set (z / 8).toNat (xorBit (x.getD (z / 8).toNat 0) (z % 8).toNat)).getD (z / 8).toNat 0 = xorBit (x.getD (z / 8).toNat 0) (z % 8).toNat := by
      simp [List.getD_eq_getElem?_getD, show (z / 8).toNat < x.length by omega]
    rw [e1]
    have h3 : 2 ^ (z % 8).toNat < 256 := Nat.pow_lt_pow_right (by omega) hj
    have hb2 := (x.getD (z / 8).toNat 0).toNat_lt
    have e2 : (xorBit (x.getD (z / 8).toNat 0) (z % 8).toNat).toNat = (x.getD (z / 8).toNat 0).toNat ^^^ 2 ^ (z % 8).toNat := by
      rw [xorBit, UInt8.toNat_ofNat', Nat.mod_eq_of_lt (Nat.xor_lt_two_pow (n := 8) hb2 h3)]
    rw [e2, u8_xor_nat _ _ (Nat.xor_lt_two_pow (n := 8) hb2 h3) hb2]
    congr 1
    rw [Nat.xor_comm (x.getD (z / 8).toNat 0).toNat, Nat.xor_assoc, Nat.xor_self, Nat.xor_zero]
  · rw [if_neg him]
    have e1 : (x.set (z / 8).toNat (xorBit (x.getD (z / 8).toNat 0) (z % 8).toNat)).getD i 0 = x.getD i 0 := by
      simp [List.getD_eq_getElem?_getD, List.getElem?_set_ne (fun h => him h.symm)]
    rw [e1, u8_xor_nat _ _ hb hb, Nat.xor_self]
    rfl
theorem pow_and (j : Nat) (hj : j < 8) : bits .and .u8 ((2 ^ j : Nat) : Int) (((2 ^ j : Nat) : Int) - 1) = 0 := by
  have : j = 0 ∨ j = 1 ∨ j = 2 ∨ j = 3 ∨ j = 4 ∨ j = 5 ∨ j = 6 ∨ j = 7 := by omega
  rcases this with rfl | rfl | rfl | rfl | rfl | rfl | rfl | rfl <;> rfl
theorem askOne' {nm : T} {x0 : Ver} {pv : Value} {off sz : Int} (h : pv.oneCell' = true) : ∀ z ∈ (askC nm x0 pv off sz).toList, z.oneCell' = true := fun z hz => by
  simp [askC] at hz
  rcases hz with rfl | rfl | rfl | rfl | rfl | rfl | rfl <;> first | rfl | exact h
set_option maxHeartbeats 8000000 in
theorem netFaults (x : Rw) (qv : Value) (kd of le : UInt8) (nn : Int) (w : World) (hx : srK.D w (x, qv)) (hn : ∀ n ∈ x.needs, n < 65536) : Calls Try.prog 4 #[.agg (rwC (x, qv)).toArray, vb kd, .int .i64 nn, vb of, vb le] w fun e w' => K0 w w' ∧ e = .returned (.bool true) := by
  refine H.enter Try.func4 Try.ntmps4 rfl rfl ?_; dsimp only [H.args]
  repeat' (first | (refine CL.seq ?_) | (refine CL.region ?_))
  refine RW.box rfl rfl (fun w0 hb0 hk0 hlt0 => ?_)
  have hb0' : w0.heap[w.heap.size]? = some (.cells (rwC (x, qv)).toArray rowT (0, 0)) := hb0
  repeat' (first | (refine CL.seq ?_) | (refine CL.region ?_) | (refine Gt.nil ?_; refine RW.nilw [0, 1, 2, 3, 4, 5, 10, 11, 12, 14, 15, 16, 17, 18, 19, 20, 21, 22, 23, 25, 29, 95, 97, 98, 109, 128, 135, 139, 153] ?_; dsimp only [H.keep, H.look, H.Fr.put, Nat.beq]) | (refine Gt.assign ?_; refine RW.y (Y.assign rfl) rfl ?_))
  refine RW.fn rfl rfl ((known w0).mono ?_)
  rintro e w1 ⟨hk1, rfl⟩
  have hb1' := hk1.at0 hb0'
  have hK1 := hk0.trans0 hk1
  repeat' (first | (refine CL.seq ?_) | (refine CL.region ?_) | (refine CL.skip ?_) | (refine CL.condF rfl ?_) | (refine Gt.nil ?_; refine RW.nilw [0, 1, 2, 3, 4, 5, 10, 11, 12, 14, 15, 16, 17, 18, 19, 20, 21, 22, 23, 25, 29, 95, 97, 98, 109, 128, 135, 139, 153] ?_; dsimp only [H.keep, H.look, H.Fr.put, Nat.beq]) | (refine Gt.load ?_; (refine RW.y (Y.loadBlock rfl (by assumption) rfl) rfl ?_)) | (refine Gt.not ?_; (refine RW.y (Y.notb rfl) rfl ?_)))
  refine RW.build1 rfl rfl rfl rfl (fun w2 hb2 hk2 hlt2 => ?_)
  have hL2 := sr_one (x := (x, qv)) hb2 (srK.keep0 hx (hK1.trans0 hk2))
  refine RW.fn rfl rfl ((light _ _ 1 w2 hL2).mono ?_)
  rintro e w2' ⟨rfl, rfl⟩
  cases hb : lightR (([(x, qv)] : List (Rw × Value)).map (·.1)) 1
  · repeat' (first | (refine CL.seq ?_) | (refine CL.region ?_) | (refine CL.condT rfl ?_) | (refine CL.ret ?_) | (refine Gt.nil ?_; refine RW.nilw [0, 1, 2, 3, 4, 5, 10, 11, 12, 14, 15, 16, 17, 18, 19, 20, 21, 22, 23, 25, 29, 95, 97, 98, 109, 128, 135, 139, 153] ?_; dsimp only [H.keep, H.look, H.Fr.put, Nat.beq]) | (refine Gt.assign ?_; refine RW.y (Y.assign rfl) rfl ?_) | (refine Gt.not ?_; (refine RW.y (Y.notb rfl) rfl ?_)))
    exact FQ.one rfl rfl rfl ⟨hK1.trans0 hk2, rfl⟩
  have hnn : x.needs.length ≤ 4 := by simpa [lightR] using hb
  have hb2' := hk2.at0 hb1'
  repeat' (first | (refine CL.seq ?_) | (refine CL.region ?_) | (refine CL.skip ?_) | (refine CL.condF rfl ?_) | (refine Gt.nil ?_; refine RW.nilw [0, 1, 2, 3, 4, 5, 10, 11, 12, 14, 15, 16, 17, 18, 19, 20, 21, 22, 23, 25, 29, 95, 97, 98, 109, 128, 135, 139, 153] ?_; dsimp only [H.keep, H.look, H.Fr.put, Nat.beq]) | (refine Gt.load ?_; (refine RW.y (Y.loadBlock rfl (by assumption) rfl) rfl ?_)) | (refine Gt.not ?_; (refine RW.y (Y.notb rfl) rfl ?_)))
  · refine RW.build1 rfl rfl rfl rfl (fun w3 hb3 hk3 hlt3 => ?_)
    have hL3 := sr_one (x := (x, qv)) hb3 (srK.keep0 hx ((hK1.trans0 hk2).trans0 hk3))
    refine RW.fn rfl rfl ((made _ _ w3 hL3 (by simp) (fun y hy => by rw [List.mem_singleton.1 hy]; exact ⟨hnn, hn⟩)).mono ?_)
    rintro e w4 ⟨hk4, u, a, R, A, tx, rfl, hI, hRl, hRne, hRn⟩
    obtain ⟨r, rfl⟩ := list_one hRl (hRne (by simp))
    obtain ⟨y, hAy⟩ := list_one (by rw [← hI.len]; simp) (fun c => by have := hI.len; rw [c] at this; simp at this) (l := A)
    subst hAy
    obtain ⟨hyl, hy4⟩ := hI.pak y (by simp)
    have hfr := hI.fit r (by simp)
    repeat' (first | (refine CL.seq ?_) | (refine CL.region ?_) | (refine Gt.nil ?_; refine RW.nilw [0, 1, 2, 3, 4, 5, 10, 11, 12, 14, 15, 16, 17, 18, 19, 20, 21, 22, 23, 25, 29, 95, 97, 98, 109, 128, 135, 139, 153] ?_; dsimp only [H.keep, H.look, H.Fr.put, Nat.beq]) | (refine Gt.move ?_; refine RW.y (Y.move rfl) rfl ?_) | (refine Gt.assign ?_; refine RW.y (Y.assign rfl) rfl ?_) | (refine Gt.extract ?_; refine RW.y (Y.extract rfl rfl) rfl ?_))
    refine RW.fn rfl rfl ((netNew u a [r] [y] w4 hI.rows.ga hI.arcs.ga hI.fit (fun z hz => (hI.pak z hz).1) (by simp) (by simp)).mono ?_)
    rintro e w5 ⟨hk5, n, rfl, hnt, hnR, hnA, hnF, hnc, hnq, hng, hnd⟩
    obtain ⟨r', hr', hval⟩ := map_one (f := Rp.val) (y := r.val) (by rw [hnR]; rfl)
    have hrn' : r'.name = r.name := congrArg Rv.name hval
    have hrv' : r'.v = r.v := congrArg Rv.v hval
    have hK5 : K0 w w5 := (((hK1.trans0 hk2).trans0 hk3).trans0 hk4).trans0 hk5
    have hnW : ∀ k, n.Wr k → k = n.g := fun k hk => hk.elim id fun h => by rw [hnq] at h; cases h
    obtain ⟨gx, hgx⟩ : ∃ gx, n.g = gx := ⟨_, rfl⟩
    rw [hgx] at hng
    rw [hgx]
    have hgx5 : gx < w5.heap.size := by rw [← hgx]; exact hnt.lt _ (.inl (.inl rfl))
    have hrw5 := hI.rows.ga.keep0 hk5
    have har5 := hI.arcs.ga.keep0 hk5
    have hrD := hI.rows.ga.2 r (by simp)
    have hrlt : ∀ g, live r.pre = some g → g < w4.heap.size := fun g hg => hrD.2.2.2.2.2 g (hrD.2.2.1 g hg)
    have hrpre : Sl w5 1 r.pre r.v.pre.length (sv r.v.pre) := hrD.1.keep0 hk5
    have halt' : ∀ k, (live a = some k ∨ ∃ z ∈ ([y] : List (List UInt8 × Value)), live z.2 = some k) → k < w4.heap.size := fun k hk => by
      rcases hk with h | ⟨z, hz, h⟩
      · exact hI.arcs.ga.1.lt h
      · exact arK.lt w4 z k (hI.arcs.2 z hz).1 h
    have hz0 := hk0.size
    have hz1 := hk1.size
    have hz2 := hk2.size
    have hz3 := hk3.size
    have hz4 := hk4.size
    have hz5 := hk5.size
    obtain ⟨gr, og, hsp, hrc⟩ := rowSpot hrw5 (i := 0) (by omega) (by simp)
    have hrs5 : Sl w5 39 u 1 (([r] : List Rp).flatMap rpC) := hrw5.1
    have hof := of.toNat_lt
    have hle := le.toNat_lt
    have hkd := kd.toNat_lt
    obtain ⟨offI, hoffI⟩ : ∃ z : Int, z = (of.toNat : Int) := ⟨_, rfl⟩
    obtain ⟨lenI, hlenI⟩ : ∃ z : Int, z = (le.toNat : Int) := ⟨_, rfl⟩
    repeat' (first | (refine CL.seq ?_) | (refine Gt.nil ?_; refine RW.nilw [0, 1, 2, 3, 4, 5, 10, 11, 12, 14, 15, 16, 17, 18, 19, 20, 21, 22, 23, 25, 29, 95, 97, 98, 109, 128, 135, 139, 153] ?_; dsimp only [H.keep, H.look, H.Fr.put, Nat.beq]) | (refine Gt.assign ?_; refine RW.y (Y.assign rfl) rfl ?_))
    refine CL.draw (fun w' => K0 w5 w') (by kernel_rfl) (fun w6 hheap hk6 => ?_)
    have hS : K0 w5 w6 := hk6
    skip
    refine AW.take 0 rfl (by kernel_rfl) (by kernel_rfl) (by kernel_rfl) rfl (by assumption) (fun w hS => Y.move rfl) ?_
    refine AW.take 1 rfl (by kernel_rfl) (by kernel_rfl) (by kernel_rfl) rfl (by assumption) (fun w hS => Y.idx rfl rfl (hrs5.keep0 hS) (by omega) (by omega)) ?_
    refine AW.take 2 rfl (by kernel_rfl) (by kernel_rfl) (by kernel_rfl) rfl (by assumption) (fun w hS => Y.fieldAddr (congrArg (fun a => some (Value.pointer (some a))) hsp) (by rfl)) ?_
    refine AW.take 3 rfl (by kernel_rfl) (by kernel_rfl) (by kernel_rfl) rfl (by assumption) (fun w hS => Y.load1A rfl (hrc _ hS).name) ?_
    refine AW.take 4 rfl (by kernel_rfl) (by kernel_rfl) (by kernel_rfl) rfl (by assumption) (fun w hS => Y.move rfl) ?_
    refine AW.take 5 rfl (by kernel_rfl) (by kernel_rfl) (by kernel_rfl) rfl (by assumption) (fun w hS => Y.idx rfl rfl (hrs5.keep0 hS) (by omega) (by omega)) ?_
    refine AW.take 6 rfl (by kernel_rfl) (by kernel_rfl) (by kernel_rfl) rfl (by assumption) (fun w hS => Y.fieldAddr (congrArg (fun a => some (Value.pointer (some a))) hsp) (by rfl)) ?_
    refine AW.take 7 rfl (by kernel_rfl) (by kernel_rfl) (by kernel_rfl) rfl (by assumption) (fun w hS => Y.loadN (cs := [_, _, _, _]) rfl rfl (hrc _ hS).ver) ?_
    refine AW.take 8 rfl (by kernel_rfl) (by kernel_rfl) (by kernel_rfl) rfl (by assumption) (fun w hS => Y.move rfl) ?_
    refine AW.take 9 rfl (by kernel_rfl) (by kernel_rfl) (by kernel_rfl) rfl (by assumption) (fun w hS => Y.convN rfl (wrap64_id (by omega) (by omega))) ?_
    refine AW.take 10 rfl (by kernel_rfl) (by kernel_rfl) (by kernel_rfl) rfl (by assumption) (fun w hS => Y.move rfl) ?_
    refine AW.take 11 rfl (by kernel_rfl) (by kernel_rfl) (by kernel_rfl) rfl (by assumption) (fun w hS => Y.convN rfl (wrap64_id (by omega) (by omega))) ?_
    refine AW.take 12 rfl (by kernel_rfl) (by kernel_rfl) (by kernel_rfl) rfl (by assumption) (fun w hS => Y.build (ps := [(0, _), (1, _), (2, _), (3, _)]) (l := [_, _, _, _]) (c := askC r.name r.v r.pre (of.toNat : Int) (le.toNat : Int)) rfl rfl) ?_
    refine AW.next 13 rfl (by kernel_rfl) ?_
    have hz6 := hk6.size
    refine RW.alloc rfl (fun w7 hb7a hk7 hlt7 => ?_)
    have hS := hS.trans0 hk7
    refine RW.nil (Nm.then ⟨hS, ?_⟩)
    skip
    refine AW.next 14 rfl (by kernel_rfl) ?_
    refine RW.storeBlock rfl rfl rfl (askOne' hrpre.one) hb7a rfl (fun w8 hb8 hk8 => ?_)
    have hS := hS.trans hk8 fun k h => .inr (by omega)
    refine RW.nil (Nm.then ⟨hS, ?_⟩)
    skip
    refine AW.donew [1, 2, 3, 4, 10, 11, 12, 14, 15] (by kernel_rfl) ?_
    dsimp only [H.keep, H.look, H.Fr.put, Nat.beq]
    have hz7 := hk7.size
    have hz8 := hk8.size
    obtain ⟨ga, hgae⟩ : ∃ g, w6.heap.size = g := ⟨_, rfl⟩
    rw [hgae] at hb8
    rw [hgae]
    have hn8 := hnt.keep0 hS
    have hK58 := hS
    obtain ⟨fk, hfk⟩ : ∃ z : Int, z = (kd.toNat : Int) % 5 := ⟨_, rfl⟩
    repeat' (first | (refine CL.seq ?_) | (refine CL.region ?_) | (refine RW.y (Y.convN rfl (wrap64_id (by omega) (by omega))) rfl ?_) | (refine Gt.move ?_; refine RW.y (Y.move rfl) rfl ?_) | (refine Gt.rem ?_; (refine RW.y (Y.remP rfl rfl (by omega) (by omega)) rfl ?_)) | (refine RW.y (Y.build (ps := [(0, _), (1, _)]) rfl rfl) rfl ?_))
    have hcf := netFaultG n (fk, nn) w8 hn8 (by rw [hnF]; simp) hgx
    rw [hfk] at hcf
    refine RW.fn rfl rfl (hcf.mono ?_)
    rintro e wq ⟨rfl, q1, ht1⟩
    rw [← hfk] at ht1
    have hT1 := ht1.at_
    obtain ⟨n1, hn1⟩ : ∃ n1 : Nt, n1 = { n with F := n.F ++ [(fk, nn)], q := q1 } := ⟨_, rfl⟩
    have hF1 : n1.F = [(fk, nn)] := by rw [hn1]; show n.F ++ _ = _; rw [hnF]; rfl
    have hA1 : n1.A.map (·.1) = [y.1] := by rw [hn1]; show n.A.map (·.1) = _; rw [hnA]; rfl
    have hR1 : arcOf r.name r.v n1.R [y.1] = some y.1 := by rw [hn1]; show arcOf r.name r.v n.R [y.1] = _; rw [hr', arc_one, if_pos ⟨hrn', by rw [hrv', cmpV_self]⟩]
    have hc1 : n1.c = 0 := by rw [hn1]; exact hnc
    have hg1 : n1.g = gx := by rw [hn1]; exact hgx
    have hW1 : ∀ k, n1.Wr k → k = gx ∨ w8.heap.size ≤ k := fun k hk => by
      rw [hn1] at hk
      exact (ht1.wr k hk).imp (fun h => (hnW k h).trans hgx) id
    rw [← hn1] at hT1
    have hzq := ht1.kept.size
    have hNlt : ∀ k, n1.Wr k → k < wq.heap.size := fun k hk => hT1.lt k (.inl hk)
    have hknW : ∀ k, n.Wr k → k = gx := fun k h => (hnW k h).trans hgx
    have hNp : ∀ g, live r.pre = some g → ¬ n1.Wr g := fun g hg c => by have h1 := hrlt g hg; rcases hW1 g c with h | h <;> omega
    have hprq : Sl wq 1 r.pre r.v.pre.length (sv r.v.pre) := (hrpre.keep0 hK58).keep ht1.kept fun g hg c => by have h1 := hrlt g hg; have h2 := hknW g c; omega
    have hbA : wq.heap[ga]? = some (.cells (askC r.name r.v r.pre offI lenI) askT (0, 0)) := by rw [hoffI, hlenI]; exact ht1.kept.at hb8 (fun c => by have h2 := hknW _ c; omega)
    have hNa : ¬ n1.Wr ga := fun c => by rcases hW1 ga c with h | h <;> omega
    have harq : GA arK wq a [y] := GA.keep (har5.keep0 hK58) ht1.kept fun g _ hg c => by have h1 := halt' g hg; have h2 := hknW g c; omega
    have hKq : K0 w wq := (hK5.trans0 hK58).trans ht1.kept fun k h => .inr (by have h2 := hknW k h; omega)
    obtain ⟨pl, hpl⟩ : ∃ pl, partB y.1 offI lenI = pl := ⟨_, rfl⟩
    have hd2 : replyB [y.1] (some y.1) (hdF n1.F.tail) offI lenI = (0, pl) := by rw [hF1, ← hpl]; rfl
    obtain ⟨rp, hrp⟩ : ∃ rp, replyB [y.1] (some y.1) (fk, nn) offI lenI = rp := ⟨_, rfl⟩
    have hd1 : replyB [y.1] (some y.1) (hdF n1.F) offI lenI = rp := by rw [hF1]; exact hrp
    repeat' (first | (refine CL.seq ?_) | (refine Gt.nil ?_; refine RW.nilw [0, 1, 2, 3, 4, 5, 10, 11, 12, 14, 15, 16, 17, 18, 19, 20, 21, 22, 23, 25, 29, 95, 97, 98, 109, 128, 135, 139, 153] ?_; dsimp only [H.keep, H.look, H.Fr.put, Nat.beq]))
    refine CL.cutS [1, 2, 3, 4, 10, 12, 16, 17] (fun vals wx => ∃ (g6 g7 : Nat) (p2 : Option Addr) (c2 : Nat) (p5 : Option Addr) (c5 : Nat), vals = [vb kd, .int .i64 nn, vb of, vb le, .bool false, a, .pointer (some ⟨g6, 0, none⟩), .pointer (some ⟨g7, 0, none⟩)] ∧ wx.heap[g6]? = some (.cells #[.int .i64 rp.1, .slice p2 rp.2.length c2] gotT (0, 0)) ∧ wx.heap[g7]? = some (.cells #[.int .i64 0, .slice p5 pl.length c5] gotT (0, 0)) ∧ Sl wx 1 (.slice p2 rp.2.length c2) rp.2.length (bv rp.2) ∧ Sl wx 1 (.slice p5 pl.length c5) pl.length (bv pl) ∧ Kept (fun k => n1.Wr k) wq wx) (by simp) ?_ ?_
    · refine CL.draw (fun w' => Kept (fun k => n1.Wr k) wq w') (by kernel_rfl) (fun wd hheap9 hkd9 => ?_)
      have hS : Kept (fun k => n1.Wr k) wq wd := hkd9.of0
      have hT := hT1.keep0 hkd9
      skip
      refine AW.take 0 rfl (by kernel_rfl) (by kernel_rfl) (by kernel_rfl) rfl (by assumption) (fun w hS => Y.move rfl) ?_
      refine AW.take 1 rfl (by kernel_rfl) (by kernel_rfl) (by kernel_rfl) rfl (by assumption) (fun w hS => Y.loadBlock rfl (hS.at hbA hNa) rfl) ?_
      refine AW.take 3 rfl (by kernel_rfl) (by kernel_rfl) (by kernel_rfl) rfl (by assumption) (fun w hS => Y.move rfl) ?_
      refine AW.take 4 rfl (by kernel_rfl) (by kernel_rfl) (by kernel_rfl) rfl (by assumption) (fun w hS => Y.loadBlock rfl (hS.at hbA hNa) rfl) ?_
      refine AW.three 2 6 7 (by kernel_rfl) rfl rfl rfl ?_ ?_ ?_
      · try have hlt6 := lt_of_at hb6
        try have hlt7 := lt_of_at hb7
        have hcc := netGetG n1 r.name r.v r.pre offI lenI _ hT (by rw [hF1]; simp) (by omega) (hprq.keep hS (fun g hg c => hNp g hg c)) (fun g hg c => hNp g hg c) hfr.v hg1
        refine RW.fn rfl rfl (hcc.mono ?_)
        rintro e wd ⟨v2, q2, rfl, hs2, hl2, hqs2, ht2⟩
        rw [hA1, hR1, hd1] at hs2
        rw [hA1, hR1, hd1]
        obtain ⟨p2, c2, hv2, _⟩ := hs2.shape
        subst hv2
        try have h26 : ∀ g, live (.slice p2 rp.2.length c2) = some g → g ≠ g6 := fun g hg => by have h1 := hl2 g hg; omega
        try have h27 : ∀ g, live (.slice p2 rp.2.length c2) = some g → g ≠ g7 := fun g hg => by have h1 := hl2 g hg; omega
        have hl2 : ∀ g, live (.slice p2 rp.2.length c2) = some g → wq.heap.size ≤ g := fun g hg => by have h1 := hl2 g hg; have h2 := hS.size; omega
        have hT := ht2.at_
        have hkd : Kept (fun k => n1.Wr k) _ wd := ht2.kept
        have hS := hS.trans hkd (fun k h => .inl h)
        try replace hb6 := hkd.at hb6 (fun c => by have := hNlt _ c; omega)
        try replace hb7 := hkd.at hb7 (fun c => by have := hNlt _ c; omega)
        refine RW.nil (Nm.then ⟨hS, ?_⟩)
        refine AW.three 5 6 7 (by kernel_rfl) rfl rfl rfl ?_ ?_ ?_
        · try have hlt6 := lt_of_at hb6
          try have hlt7 := lt_of_at hb7
          have hcc := netGetG { n1 with F := n1.F.tail, q := q2, c := n1.c + 1 } r.name r.v r.pre offI lenI _ hT (by show n1.F.tail.length ≤ 1000; rw [hF1]; simp) (by show n1.c + 1 ≤ 1000000; omega) (hprq.keep hS (fun g hg c => hNp g hg c)) (fun g hg c => hNp g hg (c.imp id (hqs2 g))) hfr.v hg1
          refine RW.fn rfl rfl (hcc.mono ?_)
          rintro e wd ⟨v5, q5, rfl, hs5, hl5, hqs5, ht5⟩
          dsimp only at hs5
          rw [hA1, hR1, hd2] at hs5
          dsimp only
          rw [hA1, hR1, hd2]
          obtain ⟨p5, c5, hv5, _⟩ := hs5.shape
          subst hv5
          try have h56 : ∀ g, live (.slice p5 pl.length c5) = some g → g ≠ g6 := fun g hg => by have h1 := hl5 g hg; omega
          try have h57 : ∀ g, live (.slice p5 pl.length c5) = some g → g ≠ g7 := fun g hg => by have h1 := hl5 g hg; omega
          have hl5 : ∀ g, live (.slice p5 pl.length c5) = some g → wq.heap.size ≤ g := fun g hg => by have h1 := hl5 g hg; have h2 := hS.size; omega
          have hT := ht5.at_
          have hkd : Kept (fun k => n1.Wr k) _ wd := ht5.kept.mono fun k h => h.imp id (hqs2 k)
          have hS := hS.trans hkd (fun k h => .inl h)
          try replace hs2 := hs2.keep hkd (fun g hg c => by have h1 := hl2 g hg; have h2 := hNlt _ c; omega)
          try replace hb6 := hkd.at hb6 (fun c => by have := hNlt _ c; omega)
          try replace hb7 := hkd.at hb7 (fun c => by have := hNlt _ c; omega)
          refine RW.nil (Nm.then ⟨hS, ?_⟩)
          refine AW.two 6 7 rfl rfl (by kernel_rfl) ?_ ?_
          · have hga6 := hS.size
            obtain ⟨g6, hg6⟩ : ∃ g : Nat, wd.heap.size = g := ⟨_, rfl⟩
            try have h67 := lt_of_at hb7
            try have h26 : ∀ g, live (.slice p2 rp.2.length c2) = some g → g ≠ g6 := fun g hg => by have h1 := hs2.lt hg; omega
            try have h56 : ∀ g, live (.slice p5 pl.length c5) = some g → g ≠ g6 := fun g hg => by have h1 := hs5.lt hg; omega
            refine RW.alloc rfl (fun wd hb6 hkn hltn => ?_)
            rw [hg6] at hb6 hltn hga6
            rw [hg6]
            try rw [hg6] at h67
            have hT := hT.keep0 hkn
            have hS := hS.trans0 hkn
            try replace hs2 := hs2.keep0 hkn
            try replace hs5 := hs5.keep0 hkn
            try replace hb7 := hkn.at0 hb7
            refine RW.nil (Nm.then ⟨hS, ?_⟩)
            refine AW.next 7 rfl (by kernel_rfl) ?_
            have hga7 := hS.size
            obtain ⟨g7, hg7⟩ : ∃ g : Nat, wd.heap.size = g := ⟨_, rfl⟩
            try have h67 := lt_of_at hb6
            try have h27 : ∀ g, live (.slice p2 rp.2.length c2) = some g → g ≠ g7 := fun g hg => by have h1 := hs2.lt hg; omega
            try have h57 : ∀ g, live (.slice p5 pl.length c5) = some g → g ≠ g7 := fun g hg => by have h1 := hs5.lt hg; omega
            refine RW.alloc rfl (fun wd hb7 hkn hltn => ?_)
            rw [hg7] at hb7 hltn hga7
            rw [hg7]
            try rw [hg7] at h67
            have hT := hT.keep0 hkn
            have hS := hS.trans0 hkn
            try replace hs2 := hs2.keep0 hkn
            try replace hs5 := hs5.keep0 hkn
            try replace hb6 := hkn.at0 hb6
            refine RW.nil (Nm.then ⟨hS, ?_⟩)
            refine AW.next 8 rfl (by kernel_rfl) ?_
            refine RW.storeBlock rfl rfl rfl (fun z hz => by simp at hz; rcases hz with rfl | rfl <;> rfl) hb6 rfl (fun wd hb6 hkn => ?_)
            have hS := hS.trans hkn (fun k h => .inr (by omega))
            have hs2 := hs2.keep hkn (fun g hg c => h26 g hg c)
            have hs5 := hs5.keep hkn (fun g hg c => h56 g hg c)
            have hb7 := hkn.at hb7 (by omega)
            refine RW.nil (Nm.then ⟨hS, ?_⟩)
            refine AW.next 9 rfl (by kernel_rfl) ?_
            refine RW.storeBlock rfl rfl rfl (fun z hz => by simp at hz; rcases hz with rfl | rfl <;> rfl) hb7 rfl (fun wd hb7 hkn => ?_)
            have hS := hS.trans hkn (fun k h => .inr (by omega))
            have hs2 := hs2.keep hkn (fun g hg c => h27 g hg c)
            have hs5 := hs5.keep hkn (fun g hg c => h57 g hg c)
            have hb6 := hkn.at hb6 (by omega)
            refine RW.nil (Nm.then ⟨hS, ?_⟩)
            refine AW.donew [1, 2, 3, 4, 10, 12, 16, 17] (by kernel_rfl) ?_
            dsimp only [H.keep, H.look, H.Fr.put, Nat.beq]
            repeat' (first | (refine CL.done ?_) | (refine Nm.then ?_))
            exact ⟨_, rfl, rfl, rfl, g6, g7, p2, c2, p5, c5, rfl, hb6, hb7, hs2, hs5, hS⟩
          · have hga7 := hS.size
            obtain ⟨g7, hg7⟩ : ∃ g : Nat, wd.heap.size = g := ⟨_, rfl⟩
            try have h67 := lt_of_at hb6
            try have h27 : ∀ g, live (.slice p2 rp.2.length c2) = some g → g ≠ g7 := fun g hg => by have h1 := hs2.lt hg; omega
            try have h57 : ∀ g, live (.slice p5 pl.length c5) = some g → g ≠ g7 := fun g hg => by have h1 := hs5.lt hg; omega
            refine RW.alloc rfl (fun wd hb7 hkn hltn => ?_)
            rw [hg7] at hb7 hltn hga7
            rw [hg7]
            try rw [hg7] at h67
            have hT := hT.keep0 hkn
            have hS := hS.trans0 hkn
            try replace hs2 := hs2.keep0 hkn
            try replace hs5 := hs5.keep0 hkn
            try replace hb6 := hkn.at0 hb6
            refine RW.nil (Nm.then ⟨hS, ?_⟩)
            refine AW.next 6 rfl (by kernel_rfl) ?_
            have hga6 := hS.size
            obtain ⟨g6, hg6⟩ : ∃ g : Nat, wd.heap.size = g := ⟨_, rfl⟩
            try have h67 := lt_of_at hb7
            try have h26 : ∀ g, live (.slice p2 rp.2.length c2) = some g → g ≠ g6 := fun g hg => by have h1 := hs2.lt hg; omega
            try have h56 : ∀ g, live (.slice p5 pl.length c5) = some g → g ≠ g6 := fun g hg => by have h1 := hs5.lt hg; omega
            refine RW.alloc rfl (fun wd hb6 hkn hltn => ?_)
            rw [hg6] at hb6 hltn hga6
            rw [hg6]
            try rw [hg6] at h67
            have hT := hT.keep0 hkn
            have hS := hS.trans0 hkn
            try replace hs2 := hs2.keep0 hkn
            try replace hs5 := hs5.keep0 hkn
            try replace hb7 := hkn.at0 hb7
            refine RW.nil (Nm.then ⟨hS, ?_⟩)
            refine AW.next 8 rfl (by kernel_rfl) ?_
            refine RW.storeBlock rfl rfl rfl (fun z hz => by simp at hz; rcases hz with rfl | rfl <;> rfl) hb6 rfl (fun wd hb6 hkn => ?_)
            have hS := hS.trans hkn (fun k h => .inr (by omega))
            have hs2 := hs2.keep hkn (fun g hg c => h26 g hg c)
            have hs5 := hs5.keep hkn (fun g hg c => h56 g hg c)
            have hb7 := hkn.at hb7 (by omega)
            refine RW.nil (Nm.then ⟨hS, ?_⟩)
            refine AW.next 9 rfl (by kernel_rfl) ?_
            refine RW.storeBlock rfl rfl rfl (fun z hz => by simp at hz; rcases hz with rfl | rfl <;> rfl) hb7 rfl (fun wd hb7 hkn => ?_)
            have hS := hS.trans hkn (fun k h => .inr (by omega))
            have hs2 := hs2.keep hkn (fun g hg c => h27 g hg c)
            have hs5 := hs5.keep hkn (fun g hg c => h57 g hg c)
            have hb6 := hkn.at hb6 (by omega)
            refine RW.nil (Nm.then ⟨hS, ?_⟩)
            refine AW.donew [1, 2, 3, 4, 10, 12, 16, 17] (by kernel_rfl) ?_
            dsimp only [H.keep, H.look, H.Fr.put, Nat.beq]
            repeat' (first | (refine CL.done ?_) | (refine Nm.then ?_))
            exact ⟨_, rfl, rfl, rfl, g6, g7, p2, c2, p5, c5, rfl, hb6, hb7, hs2, hs5, hS⟩
        · have hga6 := hS.size
          obtain ⟨g6, hg6⟩ : ∃ g : Nat, wd.heap.size = g := ⟨_, rfl⟩
          try have h67 := lt_of_at hb7
          try have h26 : ∀ g, live (.slice p2 rp.2.length c2) = some g → g ≠ g6 := fun g hg => by have h1 := hs2.lt hg; omega
          try have h56 : ∀ g, live (.slice p5 pl.length c5) = some g → g ≠ g6 := fun g hg => by have h1 := hs5.lt hg; omega
          refine RW.alloc rfl (fun wd hb6 hkn hltn => ?_)
          rw [hg6] at hb6 hltn hga6
          rw [hg6]
          try rw [hg6] at h67
          have hT := hT.keep0 hkn
          have hS := hS.trans0 hkn
          try replace hs2 := hs2.keep0 hkn
          try replace hs5 := hs5.keep0 hkn
          try replace hb7 := hkn.at0 hb7
          refine RW.nil (Nm.then ⟨hS, ?_⟩)
          refine AW.two 5 7 rfl rfl (by kernel_rfl) ?_ ?_
          · try have hlt6 := lt_of_at hb6
            try have hlt7 := lt_of_at hb7
            have hcc := netGetG { n1 with F := n1.F.tail, q := q2, c := n1.c + 1 } r.name r.v r.pre offI lenI _ hT (by show n1.F.tail.length ≤ 1000; rw [hF1]; simp) (by show n1.c + 1 ≤ 1000000; omega) (hprq.keep hS (fun g hg c => hNp g hg c)) (fun g hg c => hNp g hg (c.imp id (hqs2 g))) hfr.v hg1
            refine RW.fn rfl rfl (hcc.mono ?_)
            rintro e wd ⟨v5, q5, rfl, hs5, hl5, hqs5, ht5⟩
            dsimp only at hs5
            rw [hA1, hR1, hd2] at hs5
            dsimp only
            rw [hA1, hR1, hd2]
            obtain ⟨p5, c5, hv5, _⟩ := hs5.shape
            subst hv5
            try have h56 : ∀ g, live (.slice p5 pl.length c5) = some g → g ≠ g6 := fun g hg => by have h1 := hl5 g hg; omega
            try have h57 : ∀ g, live (.slice p5 pl.length c5) = some g → g ≠ g7 := fun g hg => by have h1 := hl5 g hg; omega
            have hl5 : ∀ g, live (.slice p5 pl.length c5) = some g → wq.heap.size ≤ g := fun g hg => by have h1 := hl5 g hg; have h2 := hS.size; omega
            have hT := ht5.at_
            have hkd : Kept (fun k => n1.Wr k) _ wd := ht5.kept.mono fun k h => h.imp id (hqs2 k)
            have hS := hS.trans hkd (fun k h => .inl h)
            try replace hs2 := hs2.keep hkd (fun g hg c => by have h1 := hl2 g hg; have h2 := hNlt _ c; omega)
            try replace hb6 := hkd.at hb6 (fun c => by have := hNlt _ c; omega)
            try replace hb7 := hkd.at hb7 (fun c => by have := hNlt _ c; omega)
            refine RW.nil (Nm.then ⟨hS, ?_⟩)
            refine AW.next 7 rfl (by kernel_rfl) ?_
            have hga7 := hS.size
            obtain ⟨g7, hg7⟩ : ∃ g : Nat, wd.heap.size = g := ⟨_, rfl⟩
            try have h67 := lt_of_at hb6
            try have h27 : ∀ g, live (.slice p2 rp.2.length c2) = some g → g ≠ g7 := fun g hg => by have h1 := hs2.lt hg; omega
            try have h57 : ∀ g, live (.slice p5 pl.length c5) = some g → g ≠ g7 := fun g hg => by have h1 := hs5.lt hg; omega
            refine RW.alloc rfl (fun wd hb7 hkn hltn => ?_)
            rw [hg7] at hb7 hltn hga7
            rw [hg7]
            try rw [hg7] at h67
            have hT := hT.keep0 hkn
            have hS := hS.trans0 hkn
            try replace hs2 := hs2.keep0 hkn
            try replace hs5 := hs5.keep0 hkn
            try replace hb6 := hkn.at0 hb6
            refine RW.nil (Nm.then ⟨hS, ?_⟩)
            refine AW.next 8 rfl (by kernel_rfl) ?_
            refine RW.storeBlock rfl rfl rfl (fun z hz => by simp at hz; rcases hz with rfl | rfl <;> rfl) hb6 rfl (fun wd hb6 hkn => ?_)
            have hS := hS.trans hkn (fun k h => .inr (by omega))
            have hs2 := hs2.keep hkn (fun g hg c => h26 g hg c)
            have hs5 := hs5.keep hkn (fun g hg c => h56 g hg c)
            have hb7 := hkn.at hb7 (by omega)
            refine RW.nil (Nm.then ⟨hS, ?_⟩)
            refine AW.next 9 rfl (by kernel_rfl) ?_
            refine RW.storeBlock rfl rfl rfl (fun z hz => by simp at hz; rcases hz with rfl | rfl <;> rfl) hb7 rfl (fun wd hb7 hkn => ?_)
            have hS := hS.trans hkn (fun k h => .inr (by omega))
            have hs2 := hs2.keep hkn (fun g hg c => h27 g hg c)
            have hs5 := hs5.keep hkn (fun g hg c => h57 g hg c)
            have hb6 := hkn.at hb6 (by omega)
            refine RW.nil (Nm.then ⟨hS, ?_⟩)
            refine AW.donew [1, 2, 3, 4, 10, 12, 16, 17] (by kernel_rfl) ?_
            dsimp only [H.keep, H.look, H.Fr.put, Nat.beq]
            repeat' (first | (refine CL.done ?_) | (refine Nm.then ?_))
            exact ⟨_, rfl, rfl, rfl, g6, g7, p2, c2, p5, c5, rfl, hb6, hb7, hs2, hs5, hS⟩
          · have hga7 := hS.size
            obtain ⟨g7, hg7⟩ : ∃ g : Nat, wd.heap.size = g := ⟨_, rfl⟩
            try have h67 := lt_of_at hb6
            try have h27 : ∀ g, live (.slice p2 rp.2.length c2) = some g → g ≠ g7 := fun g hg => by have h1 := hs2.lt hg; omega
            try have h57 : ∀ g, live (.slice p5 pl.length c5) = some g → g ≠ g7 := fun g hg => by have h1 := hs5.lt hg; omega
            refine RW.alloc rfl (fun wd hb7 hkn hltn => ?_)
            rw [hg7] at hb7 hltn hga7
            rw [hg7]
            try rw [hg7] at h67
            have hT := hT.keep0 hkn
            have hS := hS.trans0 hkn
            try replace hs2 := hs2.keep0 hkn
            try replace hs5 := hs5.keep0 hkn
            try replace hb6 := hkn.at0 hb6
            refine RW.nil (Nm.then ⟨hS, ?_⟩)
            refine AW.next 5 rfl (by kernel_rfl) ?_
            try have hlt6 := lt_of_at hb6
            try have hlt7 := lt_of_at hb7
            have hcc := netGetG { n1 with F := n1.F.tail, q := q2, c := n1.c + 1 } r.name r.v r.pre offI lenI _ hT (by show n1.F.tail.length ≤ 1000; rw [hF1]; simp) (by show n1.c + 1 ≤ 1000000; omega) (hprq.keep hS (fun g hg c => hNp g hg c)) (fun g hg c => hNp g hg (c.imp id (hqs2 g))) hfr.v hg1
            refine RW.fn rfl rfl (hcc.mono ?_)
            rintro e wd ⟨v5, q5, rfl, hs5, hl5, hqs5, ht5⟩
            dsimp only at hs5
            rw [hA1, hR1, hd2] at hs5
            dsimp only
            rw [hA1, hR1, hd2]
            obtain ⟨p5, c5, hv5, _⟩ := hs5.shape
            subst hv5
            try have h56 : ∀ g, live (.slice p5 pl.length c5) = some g → g ≠ g6 := fun g hg => by have h1 := hl5 g hg; omega
            try have h57 : ∀ g, live (.slice p5 pl.length c5) = some g → g ≠ g7 := fun g hg => by have h1 := hl5 g hg; omega
            have hl5 : ∀ g, live (.slice p5 pl.length c5) = some g → wq.heap.size ≤ g := fun g hg => by have h1 := hl5 g hg; have h2 := hS.size; omega
            have hT := ht5.at_
            have hkd : Kept (fun k => n1.Wr k) _ wd := ht5.kept.mono fun k h => h.imp id (hqs2 k)
            have hS := hS.trans hkd (fun k h => .inl h)
            try replace hs2 := hs2.keep hkd (fun g hg c => by have h1 := hl2 g hg; have h2 := hNlt _ c; omega)
            try replace hb6 := hkd.at hb6 (fun c => by have := hNlt _ c; omega)
            try replace hb7 := hkd.at hb7 (fun c => by have := hNlt _ c; omega)
            refine RW.nil (Nm.then ⟨hS, ?_⟩)
            refine AW.next 8 rfl (by kernel_rfl) ?_
            refine RW.storeBlock rfl rfl rfl (fun z hz => by simp at hz; rcases hz with rfl | rfl <;> rfl) hb6 rfl (fun wd hb6 hkn => ?_)
            have hS := hS.trans hkn (fun k h => .inr (by omega))
            have hs2 := hs2.keep hkn (fun g hg c => h26 g hg c)
            have hs5 := hs5.keep hkn (fun g hg c => h56 g hg c)
            have hb7 := hkn.at hb7 (by omega)
            refine RW.nil (Nm.then ⟨hS, ?_⟩)
            refine AW.next 9 rfl (by kernel_rfl) ?_
            refine RW.storeBlock rfl rfl rfl (fun z hz => by simp at hz; rcases hz with rfl | rfl <;> rfl) hb7 rfl (fun wd hb7 hkn => ?_)
            have hS := hS.trans hkn (fun k h => .inr (by omega))
            have hs2 := hs2.keep hkn (fun g hg c => h27 g hg c)
            have hs5 := hs5.keep hkn (fun g hg c => h57 g hg c)
            have hb6 := hkn.at hb6 (by omega)
            refine RW.nil (Nm.then ⟨hS, ?_⟩)
            refine AW.donew [1, 2, 3, 4, 10, 12, 16, 17] (by kernel_rfl) ?_
            dsimp only [H.keep, H.look, H.Fr.put, Nat.beq]
            repeat' (first | (refine CL.done ?_) | (refine Nm.then ?_))
            exact ⟨_, rfl, rfl, rfl, g6, g7, p2, c2, p5, c5, rfl, hb6, hb7, hs2, hs5, hS⟩
        · have hga7 := hS.size
          obtain ⟨g7, hg7⟩ : ∃ g : Nat, wd.heap.size = g := ⟨_, rfl⟩
          try have h67 := lt_of_at hb6
          try have h27 : ∀ g, live (.slice p2 rp.2.length c2) = some g → g ≠ g7 := fun g hg => by have h1 := hs2.lt hg; omega
          try have h57 : ∀ g, live (.slice p5 pl.length c5) = some g → g ≠ g7 := fun g hg => by have h1 := hs5.lt hg; omega
          refine RW.alloc rfl (fun wd hb7 hkn hltn => ?_)
          rw [hg7] at hb7 hltn hga7
          rw [hg7]
          try rw [hg7] at h67
          have hT := hT.keep0 hkn
          have hS := hS.trans0 hkn
          try replace hs2 := hs2.keep0 hkn
          try replace hs5 := hs5.keep0 hkn
          try replace hb6 := hkn.at0 hb6
          refine RW.nil (Nm.then ⟨hS, ?_⟩)
          refine AW.two 5 6 rfl rfl (by kernel_rfl) ?_ ?_
          · try have hlt6 := lt_of_at hb6
            try have hlt7 := lt_of_at hb7
            have hcc := netGetG { n1 with F := n1.F.tail, q := q2, c := n1.c + 1 } r.name r.v r.pre offI lenI _ hT (by show n1.F.tail.length ≤ 1000; rw [hF1]; simp) (by show n1.c + 1 ≤ 1000000; omega) (hprq.keep hS (fun g hg c => hNp g hg c)) (fun g hg c => hNp g hg (c.imp id (hqs2 g))) hfr.v hg1
            refine RW.fn rfl rfl (hcc.mono ?_)
            rintro e wd ⟨v5, q5, rfl, hs5, hl5, hqs5, ht5⟩
            dsimp only at hs5
            rw [hA1, hR1, hd2] at hs5
            dsimp only
            rw [hA1, hR1, hd2]
            obtain ⟨p5, c5, hv5, _⟩ := hs5.shape
            subst hv5
            try have h56 : ∀ g, live (.slice p5 pl.length c5) = some g → g ≠ g6 := fun g hg => by have h1 := hl5 g hg; omega
            try have h57 : ∀ g, live (.slice p5 pl.length c5) = some g → g ≠ g7 := fun g hg => by have h1 := hl5 g hg; omega
            have hl5 : ∀ g, live (.slice p5 pl.length c5) = some g → wq.heap.size ≤ g := fun g hg => by have h1 := hl5 g hg; have h2 := hS.size; omega
            have hT := ht5.at_
            have hkd : Kept (fun k => n1.Wr k) _ wd := ht5.kept.mono fun k h => h.imp id (hqs2 k)
            have hS := hS.trans hkd (fun k h => .inl h)
            try replace hs2 := hs2.keep hkd (fun g hg c => by have h1 := hl2 g hg; have h2 := hNlt _ c; omega)
            try replace hb6 := hkd.at hb6 (fun c => by have := hNlt _ c; omega)
            try replace hb7 := hkd.at hb7 (fun c => by have := hNlt _ c; omega)
            refine RW.nil (Nm.then ⟨hS, ?_⟩)
            refine AW.next 6 rfl (by kernel_rfl) ?_
            have hga6 := hS.size
            obtain ⟨g6, hg6⟩ : ∃ g : Nat, wd.heap.size = g := ⟨_, rfl⟩
            try have h67 := lt_of_at hb7
            try have h26 : ∀ g, live (.slice p2 rp.2.length c2) = some g → g ≠ g6 := fun g hg => by have h1 := hs2.lt hg; omega
            try have h56 : ∀ g, live (.slice p5 pl.length c5) = some g → g ≠ g6 := fun g hg => by have h1 := hs5.lt hg; omega
            refine RW.alloc rfl (fun wd hb6 hkn hltn => ?_)
            rw [hg6] at hb6 hltn hga6
            rw [hg6]
            try rw [hg6] at h67
            have hT := hT.keep0 hkn
            have hS := hS.trans0 hkn
            try replace hs2 := hs2.keep0 hkn
            try replace hs5 := hs5.keep0 hkn
            try replace hb7 := hkn.at0 hb7
            refine RW.nil (Nm.then ⟨hS, ?_⟩)
            refine AW.next 8 rfl (by kernel_rfl) ?_
            refine RW.storeBlock rfl rfl rfl (fun z hz => by simp at hz; rcases hz with rfl | rfl <;> rfl) hb6 rfl (fun wd hb6 hkn => ?_)
            have hS := hS.trans hkn (fun k h => .inr (by omega))
            have hs2 := hs2.keep hkn (fun g hg c => h26 g hg c)
            have hs5 := hs5.keep hkn (fun g hg c => h56 g hg c)
            have hb7 := hkn.at hb7 (by omega)
            refine RW.nil (Nm.then ⟨hS, ?_⟩)
            refine AW.next 9 rfl (by kernel_rfl) ?_
            refine RW.storeBlock rfl rfl rfl (fun z hz => by simp at hz; rcases hz with rfl | rfl <;> rfl) hb7 rfl (fun wd hb7 hkn => ?_)
            have hS := hS.trans hkn (fun k h => .inr (by omega))
            have hs2 := hs2.keep hkn (fun g hg c => h27 g hg c)
            have hs5 := hs5.keep hkn (fun g hg c => h57 g hg c)
            have hb6 := hkn.at hb6 (by omega)
            refine RW.nil (Nm.then ⟨hS, ?_⟩)
            refine AW.donew [1, 2, 3, 4, 10, 12, 16, 17] (by kernel_rfl) ?_
            dsimp only [H.keep, H.look, H.Fr.put, Nat.beq]
            repeat' (first | (refine CL.done ?_) | (refine Nm.then ?_))
            exact ⟨_, rfl, rfl, rfl, g6, g7, p2, c2, p5, c5, rfl, hb6, hb7, hs2, hs5, hS⟩
          · have hga6 := hS.size
            obtain ⟨g6, hg6⟩ : ∃ g : Nat, wd.heap.size = g := ⟨_, rfl⟩
            try have h67 := lt_of_at hb7
            try have h26 : ∀ g, live (.slice p2 rp.2.length c2) = some g → g ≠ g6 := fun g hg => by have h1 := hs2.lt hg; omega
            try have h56 : ∀ g, live (.slice p5 pl.length c5) = some g → g ≠ g6 := fun g hg => by have h1 := hs5.lt hg; omega
            refine RW.alloc rfl (fun wd hb6 hkn hltn => ?_)
            rw [hg6] at hb6 hltn hga6
            rw [hg6]
            try rw [hg6] at h67
            have hT := hT.keep0 hkn
            have hS := hS.trans0 hkn
            try replace hs2 := hs2.keep0 hkn
            try replace hs5 := hs5.keep0 hkn
            try replace hb7 := hkn.at0 hb7
            refine RW.nil (Nm.then ⟨hS, ?_⟩)
            refine AW.next 5 rfl (by kernel_rfl) ?_
            try have hlt6 := lt_of_at hb6
            try have hlt7 := lt_of_at hb7
            have hcc := netGetG { n1 with F := n1.F.tail, q := q2, c := n1.c + 1 } r.name r.v r.pre offI lenI _ hT (by show n1.F.tail.length ≤ 1000; rw [hF1]; simp) (by show n1.c + 1 ≤ 1000000; omega) (hprq.keep hS (fun g hg c => hNp g hg c)) (fun g hg c => hNp g hg (c.imp id (hqs2 g))) hfr.v hg1
            refine RW.fn rfl rfl (hcc.mono ?_)
            rintro e wd ⟨v5, q5, rfl, hs5, hl5, hqs5, ht5⟩
            dsimp only at hs5
            rw [hA1, hR1, hd2] at hs5
            dsimp only
            rw [hA1, hR1, hd2]
            obtain ⟨p5, c5, hv5, _⟩ := hs5.shape
            subst hv5
            try have h56 : ∀ g, live (.slice p5 pl.length c5) = some g → g ≠ g6 := fun g hg => by have h1 := hl5 g hg; omega
            try have h57 : ∀ g, live (.slice p5 pl.length c5) = some g → g ≠ g7 := fun g hg => by have h1 := hl5 g hg; omega
            have hl5 : ∀ g, live (.slice p5 pl.length c5) = some g → wq.heap.size ≤ g := fun g hg => by have h1 := hl5 g hg; have h2 := hS.size; omega
            have hT := ht5.at_
            have hkd : Kept (fun k => n1.Wr k) _ wd := ht5.kept.mono fun k h => h.imp id (hqs2 k)
            have hS := hS.trans hkd (fun k h => .inl h)
            try replace hs2 := hs2.keep hkd (fun g hg c => by have h1 := hl2 g hg; have h2 := hNlt _ c; omega)
            try replace hb6 := hkd.at hb6 (fun c => by have := hNlt _ c; omega)
            try replace hb7 := hkd.at hb7 (fun c => by have := hNlt _ c; omega)
            refine RW.nil (Nm.then ⟨hS, ?_⟩)
            refine AW.next 8 rfl (by kernel_rfl) ?_
            refine RW.storeBlock rfl rfl rfl (fun z hz => by simp at hz; rcases hz with rfl | rfl <;> rfl) hb6 rfl (fun wd hb6 hkn => ?_)
            have hS := hS.trans hkn (fun k h => .inr (by omega))
            have hs2 := hs2.keep hkn (fun g hg c => h26 g hg c)
            have hs5 := hs5.keep hkn (fun g hg c => h56 g hg c)
            have hb7 := hkn.at hb7 (by omega)
            refine RW.nil (Nm.then ⟨hS, ?_⟩)
            refine AW.next 9 rfl (by kernel_rfl) ?_
            refine RW.storeBlock rfl rfl rfl (fun z hz => by simp at hz; rcases hz with rfl | rfl <;> rfl) hb7 rfl (fun wd hb7 hkn => ?_)
            have hS := hS.trans hkn (fun k h => .inr (by omega))
            have hs2 := hs2.keep hkn (fun g hg c => h27 g hg c)
            have hs5 := hs5.keep hkn (fun g hg c => h57 g hg c)
            have hb6 := hkn.at hb6 (by omega)
            refine RW.nil (Nm.then ⟨hS, ?_⟩)
            refine AW.donew [1, 2, 3, 4, 10, 12, 16, 17] (by kernel_rfl) ?_
            dsimp only [H.keep, H.look, H.Fr.put, Nat.beq]
            repeat' (first | (refine CL.done ?_) | (refine Nm.then ?_))
            exact ⟨_, rfl, rfl, rfl, g6, g7, p2, c2, p5, c5, rfl, hb6, hb7, hs2, hs5, hS⟩
      · have hga6 := hS.size
        obtain ⟨g6, hg6⟩ : ∃ g : Nat, wd.heap.size = g := ⟨_, rfl⟩
        try have h67 := lt_of_at hb7
        try have h26 : ∀ g, live (.slice p2 rp.2.length c2) = some g → g ≠ g6 := fun g hg => by have h1 := hs2.lt hg; omega
        try have h56 : ∀ g, live (.slice p5 pl.length c5) = some g → g ≠ g6 := fun g hg => by have h1 := hs5.lt hg; omega
        refine RW.alloc rfl (fun wd hb6 hkn hltn => ?_)
        rw [hg6] at hb6 hltn hga6
        rw [hg6]
        try rw [hg6] at h67
        have hT := hT.keep0 hkn
        have hS := hS.trans0 hkn
        try replace hs2 := hs2.keep0 hkn
        try replace hs5 := hs5.keep0 hkn
        try replace hb7 := hkn.at0 hb7
        refine RW.nil (Nm.then ⟨hS, ?_⟩)
        refine AW.two 2 7 rfl rfl (by kernel_rfl) ?_ ?_
        · try have hlt6 := lt_of_at hb6
          try have hlt7 := lt_of_at hb7
          have hcc := netGetG n1 r.name r.v r.pre offI lenI _ hT (by rw [hF1]; simp) (by omega) (hprq.keep hS (fun g hg c => hNp g hg c)) (fun g hg c => hNp g hg c) hfr.v hg1
          refine RW.fn rfl rfl (hcc.mono ?_)
          rintro e wd ⟨v2, q2, rfl, hs2, hl2, hqs2, ht2⟩
          rw [hA1, hR1, hd1] at hs2
          rw [hA1, hR1, hd1]
          obtain ⟨p2, c2, hv2, _⟩ := hs2.shape
          subst hv2
          try have h26 : ∀ g, live (.slice p2 rp.2.length c2) = some g → g ≠ g6 := fun g hg => by have h1 := hl2 g hg; omega
          try have h27 : ∀ g, live (.slice p2 rp.2.length c2) = some g → g ≠ g7 := fun g hg => by have h1 := hl2 g hg; omega
          have hl2 : ∀ g, live (.slice p2 rp.2.length c2) = some g → wq.heap.size ≤ g := fun g hg => by have h1 := hl2 g hg; have h2 := hS.size; omega
          have hT := ht2.at_
          have hkd : Kept (fun k => n1.Wr k) _ wd := ht2.kept
          have hS := hS.trans hkd (fun k h => .inl h)
          try replace hb6 := hkd.at hb6 (fun c => by have := hNlt _ c; omega)
          try replace hb7 := hkd.at hb7 (fun c => by have := hNlt _ c; omega)
          refine RW.nil (Nm.then ⟨hS, ?_⟩)
          refine AW.two 5 7 rfl rfl (by kernel_rfl) ?_ ?_
          · try have hlt6 := lt_of_at hb6
            try have hlt7 := lt_of_at hb7
            have hcc := netGetG { n1 with F := n1.F.tail, q := q2, c := n1.c + 1 } r.name r.v r.pre offI lenI _ hT (by show n1.F.tail.length ≤ 1000; rw [hF1]; simp) (by show n1.c + 1 ≤ 1000000; omega) (hprq.keep hS (fun g hg c => hNp g hg c)) (fun g hg c => hNp g hg (c.imp id (hqs2 g))) hfr.v hg1
            refine RW.fn rfl rfl (hcc.mono ?_)
            rintro e wd ⟨v5, q5, rfl, hs5, hl5, hqs5, ht5⟩
            dsimp only at hs5
            rw [hA1, hR1, hd2] at hs5
            dsimp only
            rw [hA1, hR1, hd2]
            obtain ⟨p5, c5, hv5, _⟩ := hs5.shape
            subst hv5
            try have h56 : ∀ g, live (.slice p5 pl.length c5) = some g → g ≠ g6 := fun g hg => by have h1 := hl5 g hg; omega
            try have h57 : ∀ g, live (.slice p5 pl.length c5) = some g → g ≠ g7 := fun g hg => by have h1 := hl5 g hg; omega
            have hl5 : ∀ g, live (.slice p5 pl.length c5) = some g → wq.heap.size ≤ g := fun g hg => by have h1 := hl5 g hg; have h2 := hS.size; omega
            have hT := ht5.at_
            have hkd : Kept (fun k => n1.Wr k) _ wd := ht5.kept.mono fun k h => h.imp id (hqs2 k)
            have hS := hS.trans hkd (fun k h => .inl h)
            try replace hs2 := hs2.keep hkd (fun g hg c => by have h1 := hl2 g hg; have h2 := hNlt _ c; omega)
            try replace hb6 := hkd.at hb6 (fun c => by have := hNlt _ c; omega)
            try replace hb7 := hkd.at hb7 (fun c => by have := hNlt _ c; omega)
            refine RW.nil (Nm.then ⟨hS, ?_⟩)
            refine AW.next 7 rfl (by kernel_rfl) ?_
            have hga7 := hS.size
            obtain ⟨g7, hg7⟩ : ∃ g : Nat, wd.heap.size = g := ⟨_, rfl⟩
            try have h67 := lt_of_at hb6
            try have h27 : ∀ g, live (.slice p2 rp.2.length c2) = some g → g ≠ g7 := fun g hg => by have h1 := hs2.lt hg; omega
            try have h57 : ∀ g, live (.slice p5 pl.length c5) = some g → g ≠ g7 := fun g hg => by have h1 := hs5.lt hg; omega
            refine RW.alloc rfl (fun wd hb7 hkn hltn => ?_)
            rw [hg7] at hb7 hltn hga7
            rw [hg7]
            try rw [hg7] at h67
            have hT := hT.keep0 hkn
            have hS := hS.trans0 hkn
            try replace hs2 := hs2.keep0 hkn
            try replace hs5 := hs5.keep0 hkn
            try replace hb6 := hkn.at0 hb6
            refine RW.nil (Nm.then ⟨hS, ?_⟩)
            refine AW.next 8 rfl (by kernel_rfl) ?_
            refine RW.storeBlock rfl rfl rfl (fun z hz => by simp at hz; rcases hz with rfl | rfl <;> rfl) hb6 rfl (fun wd hb6 hkn => ?_)
            have hS := hS.trans hkn (fun k h => .inr (by omega))
            have hs2 := hs2.keep hkn (fun g hg c => h26 g hg c)
            have hs5 := hs5.keep hkn (fun g hg c => h56 g hg c)
            have hb7 := hkn.at hb7 (by omega)
            refine RW.nil (Nm.then ⟨hS, ?_⟩)
            refine AW.next 9 rfl (by kernel_rfl) ?_
            refine RW.storeBlock rfl rfl rfl (fun z hz => by simp at hz; rcases hz with rfl | rfl <;> rfl) hb7 rfl (fun wd hb7 hkn => ?_)
            have hS := hS.trans hkn (fun k h => .inr (by omega))
            have hs2 := hs2.keep hkn (fun g hg c => h27 g hg c)
            have hs5 := hs5.keep hkn (fun g hg c => h57 g hg c)
            have hb6 := hkn.at hb6 (by omega)
            refine RW.nil (Nm.then ⟨hS, ?_⟩)
            refine AW.donew [1, 2, 3, 4, 10, 12, 16, 17] (by kernel_rfl) ?_
            dsimp only [H.keep, H.look, H.Fr.put, Nat.beq]
            repeat' (first | (refine CL.done ?_) | (refine Nm.then ?_))
            exact ⟨_, rfl, rfl, rfl, g6, g7, p2, c2, p5, c5, rfl, hb6, hb7, hs2, hs5, hS⟩
          · have hga7 := hS.size
            obtain ⟨g7, hg7⟩ : ∃ g : Nat, wd.heap.size = g := ⟨_, rfl⟩
            try have h67 := lt_of_at hb6
            try have h27 : ∀ g, live (.slice p2 rp.2.length c2) = some g → g ≠ g7 := fun g hg => by have h1 := hs2.lt hg; omega
            try have h57 : ∀ g, live (.slice p5 pl.length c5) = some g → g ≠ g7 := fun g hg => by have h1 := hs5.lt hg; omega
            refine RW.alloc rfl (fun wd hb7 hkn hltn => ?_)
            rw [hg7] at hb7 hltn hga7
            rw [hg7]
            try rw [hg7] at h67
            have hT := hT.keep0 hkn
            have hS := hS.trans0 hkn
            try replace hs2 := hs2.keep0 hkn
            try replace hs5 := hs5.keep0 hkn
            try replace hb6 := hkn.at0 hb6
            refine RW.nil (Nm.then ⟨hS, ?_⟩)
            refine AW.next 5 rfl (by kernel_rfl) ?_
            try have hlt6 := lt_of_at hb6
            try have hlt7 := lt_of_at hb7
            have hcc := netGetG { n1 with F := n1.F.tail, q := q2, c := n1.c + 1 } r.name r.v r.pre offI lenI _ hT (by show n1.F.tail.length ≤ 1000; rw [hF1]; simp) (by show n1.c + 1 ≤ 1000000; omega) (hprq.keep hS (fun g hg c => hNp g hg c)) (fun g hg c => hNp g hg (c.imp id (hqs2 g))) hfr.v hg1
            refine RW.fn rfl rfl (hcc.mono ?_)
            rintro e wd ⟨v5, q5, rfl, hs5, hl5, hqs5, ht5⟩
            dsimp only at hs5
            rw [hA1, hR1, hd2] at hs5
            dsimp only
            rw [hA1, hR1, hd2]
            obtain ⟨p5, c5, hv5, _⟩ := hs5.shape
            subst hv5
            try have h56 : ∀ g, live (.slice p5 pl.length c5) = some g → g ≠ g6 := fun g hg => by have h1 := hl5 g hg; omega
            try have h57 : ∀ g, live (.slice p5 pl.length c5) = some g → g ≠ g7 := fun g hg => by have h1 := hl5 g hg; omega
            have hl5 : ∀ g, live (.slice p5 pl.length c5) = some g → wq.heap.size ≤ g := fun g hg => by have h1 := hl5 g hg; have h2 := hS.size; omega
            have hT := ht5.at_
            have hkd : Kept (fun k => n1.Wr k) _ wd := ht5.kept.mono fun k h => h.imp id (hqs2 k)
            have hS := hS.trans hkd (fun k h => .inl h)
            try replace hs2 := hs2.keep hkd (fun g hg c => by have h1 := hl2 g hg; have h2 := hNlt _ c; omega)
            try replace hb6 := hkd.at hb6 (fun c => by have := hNlt _ c; omega)
            try replace hb7 := hkd.at hb7 (fun c => by have := hNlt _ c; omega)
            refine RW.nil (Nm.then ⟨hS, ?_⟩)
            refine AW.next 8 rfl (by kernel_rfl) ?_
            refine RW.storeBlock rfl rfl rfl (fun z hz => by simp at hz; rcases hz with rfl | rfl <;> rfl) hb6 rfl (fun wd hb6 hkn => ?_)
            have hS := hS.trans hkn (fun k h => .inr (by omega))
            have hs2 := hs2.keep hkn (fun g hg c => h26 g hg c)
            have hs5 := hs5.keep hkn (fun g hg c => h56 g hg c)
            have hb7 := hkn.at hb7 (by omega)
            refine RW.nil (Nm.then ⟨hS, ?_⟩)
            refine AW.next 9 rfl (by kernel_rfl) ?_
            refine RW.storeBlock rfl rfl rfl (fun z hz => by simp at hz; rcases hz with rfl | rfl <;> rfl) hb7 rfl (fun wd hb7 hkn => ?_)
            have hS := hS.trans hkn (fun k h => .inr (by omega))
            have hs2 := hs2.keep hkn (fun g hg c => h27 g hg c)
            have hs5 := hs5.keep hkn (fun g hg c => h57 g hg c)
            have hb6 := hkn.at hb6 (by omega)
            refine RW.nil (Nm.then ⟨hS, ?_⟩)
            refine AW.donew [1, 2, 3, 4, 10, 12, 16, 17] (by kernel_rfl) ?_
            dsimp only [H.keep, H.look, H.Fr.put, Nat.beq]
            repeat' (first | (refine CL.done ?_) | (refine Nm.then ?_))
            exact ⟨_, rfl, rfl, rfl, g6, g7, p2, c2, p5, c5, rfl, hb6, hb7, hs2, hs5, hS⟩
        · have hga7 := hS.size
          obtain ⟨g7, hg7⟩ : ∃ g : Nat, wd.heap.size = g := ⟨_, rfl⟩
          try have h67 := lt_of_at hb6
          try have h27 : ∀ g, live (.slice p2 rp.2.length c2) = some g → g ≠ g7 := fun g hg => by have h1 := hs2.lt hg; omega
          try have h57 : ∀ g, live (.slice p5 pl.length c5) = some g → g ≠ g7 := fun g hg => by have h1 := hs5.lt hg; omega
          refine RW.alloc rfl (fun wd hb7 hkn hltn => ?_)
          rw [hg7] at hb7 hltn hga7
          rw [hg7]
          try rw [hg7] at h67
          have hT := hT.keep0 hkn
          have hS := hS.trans0 hkn
          try replace hs2 := hs2.keep0 hkn
          try replace hs5 := hs5.keep0 hkn
          try replace hb6 := hkn.at0 hb6
          refine RW.nil (Nm.then ⟨hS, ?_⟩)
          refine AW.next 2 rfl (by kernel_rfl) ?_
          try have hlt6 := lt_of_at hb6
          try have hlt7 := lt_of_at hb7
          have hcc := netGetG n1 r.name r.v r.pre offI lenI _ hT (by rw [hF1]; simp) (by omega) (hprq.keep hS (fun g hg c => hNp g hg c)) (fun g hg c => hNp g hg c) hfr.v hg1
          refine RW.fn rfl rfl (hcc.mono ?_)
          rintro e wd ⟨v2, q2, rfl, hs2, hl2, hqs2, ht2⟩
          rw [hA1, hR1, hd1] at hs2
          rw [hA1, hR1, hd1]
          obtain ⟨p2, c2, hv2, _⟩ := hs2.shape
          subst hv2
          try have h26 : ∀ g, live (.slice p2 rp.2.length c2) = some g → g ≠ g6 := fun g hg => by have h1 := hl2 g hg; omega
          try have h27 : ∀ g, live (.slice p2 rp.2.length c2) = some g → g ≠ g7 := fun g hg => by have h1 := hl2 g hg; omega
          have hl2 : ∀ g, live (.slice p2 rp.2.length c2) = some g → wq.heap.size ≤ g := fun g hg => by have h1 := hl2 g hg; have h2 := hS.size; omega
          have hT := ht2.at_
          have hkd : Kept (fun k => n1.Wr k) _ wd := ht2.kept
          have hS := hS.trans hkd (fun k h => .inl h)
          try replace hb6 := hkd.at hb6 (fun c => by have := hNlt _ c; omega)
          try replace hb7 := hkd.at hb7 (fun c => by have := hNlt _ c; omega)
          refine RW.nil (Nm.then ⟨hS, ?_⟩)
          refine AW.next 5 rfl (by kernel_rfl) ?_
          try have hlt6 := lt_of_at hb6
          try have hlt7 := lt_of_at hb7
          have hcc := netGetG { n1 with F := n1.F.tail, q := q2, c := n1.c + 1 } r.name r.v r.pre offI lenI _ hT (by show n1.F.tail.length ≤ 1000; rw [hF1]; simp) (by show n1.c + 1 ≤ 1000000; omega) (hprq.keep hS (fun g hg c => hNp g hg c)) (fun g hg c => hNp g hg (c.imp id (hqs2 g))) hfr.v hg1
          refine RW.fn rfl rfl (hcc.mono ?_)
          rintro e wd ⟨v5, q5, rfl, hs5, hl5, hqs5, ht5⟩
          dsimp only at hs5
          rw [hA1, hR1, hd2] at hs5
          dsimp only
          rw [hA1, hR1, hd2]
          obtain ⟨p5, c5, hv5, _⟩ := hs5.shape
          subst hv5
          try have h56 : ∀ g, live (.slice p5 pl.length c5) = some g → g ≠ g6 := fun g hg => by have h1 := hl5 g hg; omega
          try have h57 : ∀ g, live (.slice p5 pl.length c5) = some g → g ≠ g7 := fun g hg => by have h1 := hl5 g hg; omega
          have hl5 : ∀ g, live (.slice p5 pl.length c5) = some g → wq.heap.size ≤ g := fun g hg => by have h1 := hl5 g hg; have h2 := hS.size; omega
          have hT := ht5.at_
          have hkd : Kept (fun k => n1.Wr k) _ wd := ht5.kept.mono fun k h => h.imp id (hqs2 k)
          have hS := hS.trans hkd (fun k h => .inl h)
          try replace hs2 := hs2.keep hkd (fun g hg c => by have h1 := hl2 g hg; have h2 := hNlt _ c; omega)
          try replace hb6 := hkd.at hb6 (fun c => by have := hNlt _ c; omega)
          try replace hb7 := hkd.at hb7 (fun c => by have := hNlt _ c; omega)
          refine RW.nil (Nm.then ⟨hS, ?_⟩)
          refine AW.next 8 rfl (by kernel_rfl) ?_
          refine RW.storeBlock rfl rfl rfl (fun z hz => by simp at hz; rcases hz with rfl | rfl <;> rfl) hb6 rfl (fun wd hb6 hkn => ?_)
          have hS := hS.trans hkn (fun k h => .inr (by omega))
          have hs2 := hs2.keep hkn (fun g hg c => h26 g hg c)
          have hs5 := hs5.keep hkn (fun g hg c => h56 g hg c)
          have hb7 := hkn.at hb7 (by omega)
          refine RW.nil (Nm.then ⟨hS, ?_⟩)
          refine AW.next 9 rfl (by kernel_rfl) ?_
          refine RW.storeBlock rfl rfl rfl (fun z hz => by simp at hz; rcases hz with rfl | rfl <;> rfl) hb7 rfl (fun wd hb7 hkn => ?_)
          have hS := hS.trans hkn (fun k h => .inr (by omega))
          have hs2 := hs2.keep hkn (fun g hg c => h27 g hg c)
          have hs5 := hs5.keep hkn (fun g hg c => h57 g hg c)
          have hb6 := hkn.at hb6 (by omega)
          refine RW.nil (Nm.then ⟨hS, ?_⟩)
          refine AW.donew [1, 2, 3, 4, 10, 12, 16, 17] (by kernel_rfl) ?_
          dsimp only [H.keep, H.look, H.Fr.put, Nat.beq]
          repeat' (first | (refine CL.done ?_) | (refine Nm.then ?_))
          exact ⟨_, rfl, rfl, rfl, g6, g7, p2, c2, p5, c5, rfl, hb6, hb7, hs2, hs5, hS⟩
      · have hga7 := hS.size
        obtain ⟨g7, hg7⟩ : ∃ g : Nat, wd.heap.size = g := ⟨_, rfl⟩
        try have h67 := lt_of_at hb6
        try have h27 : ∀ g, live (.slice p2 rp.2.length c2) = some g → g ≠ g7 := fun g hg => by have h1 := hs2.lt hg; omega
        try have h57 : ∀ g, live (.slice p5 pl.length c5) = some g → g ≠ g7 := fun g hg => by have h1 := hs5.lt hg; omega
        refine RW.alloc rfl (fun wd hb7 hkn hltn => ?_)
        rw [hg7] at hb7 hltn hga7
        rw [hg7]
        try rw [hg7] at h67
        have hT := hT.keep0 hkn
        have hS := hS.trans0 hkn
        try replace hs2 := hs2.keep0 hkn
        try replace hs5 := hs5.keep0 hkn
        try replace hb6 := hkn.at0 hb6
        refine RW.nil (Nm.then ⟨hS, ?_⟩)
        refine AW.two 2 6 rfl rfl (by kernel_rfl) ?_ ?_
        · try have hlt6 := lt_of_at hb6
          try have hlt7 := lt_of_at hb7
          have hcc := netGetG n1 r.name r.v r.pre offI lenI _ hT (by rw [hF1]; simp) (by omega) (hprq.keep hS (fun g hg c => hNp g hg c)) (fun g hg c => hNp g hg c) hfr.v hg1
          refine RW.fn rfl rfl (hcc.mono ?_)
          rintro e wd ⟨v2, q2, rfl, hs2, hl2, hqs2, ht2⟩
          rw [hA1, hR1, hd1] at hs2
          rw [hA1, hR1, hd1]
          obtain ⟨p2, c2, hv2, _⟩ := hs2.shape
          subst hv2
          try have h26 : ∀ g, live (.slice p2 rp.2.length c2) = some g → g ≠ g6 := fun g hg => by have h1 := hl2 g hg; omega
          try have h27 : ∀ g, live (.slice p2 rp.2.length c2) = some g → g ≠ g7 := fun g hg => by have h1 := hl2 g hg; omega
          have hl2 : ∀ g, live (.slice p2 rp.2.length c2) = some g → wq.heap.size ≤ g := fun g hg => by have h1 := hl2 g hg; have h2 := hS.size; omega
          have hT := ht2.at_
          have hkd : Kept (fun k => n1.Wr k) _ wd := ht2.kept
          have hS := hS.trans hkd (fun k h => .inl h)
          try replace hb6 := hkd.at hb6 (fun c => by have := hNlt _ c; omega)
          try replace hb7 := hkd.at hb7 (fun c => by have := hNlt _ c; omega)
          refine RW.nil (Nm.then ⟨hS, ?_⟩)
          refine AW.two 5 6 rfl rfl (by kernel_rfl) ?_ ?_
          · try have hlt6 := lt_of_at hb6
            try have hlt7 := lt_of_at hb7
            have hcc := netGetG { n1 with F := n1.F.tail, q := q2, c := n1.c + 1 } r.name r.v r.pre offI lenI _ hT (by show n1.F.tail.length ≤ 1000; rw [hF1]; simp) (by show n1.c + 1 ≤ 1000000; omega) (hprq.keep hS (fun g hg c => hNp g hg c)) (fun g hg c => hNp g hg (c.imp id (hqs2 g))) hfr.v hg1
            refine RW.fn rfl rfl (hcc.mono ?_)
            rintro e wd ⟨v5, q5, rfl, hs5, hl5, hqs5, ht5⟩
            dsimp only at hs5
            rw [hA1, hR1, hd2] at hs5
            dsimp only
            rw [hA1, hR1, hd2]
            obtain ⟨p5, c5, hv5, _⟩ := hs5.shape
            subst hv5
            try have h56 : ∀ g, live (.slice p5 pl.length c5) = some g → g ≠ g6 := fun g hg => by have h1 := hl5 g hg; omega
            try have h57 : ∀ g, live (.slice p5 pl.length c5) = some g → g ≠ g7 := fun g hg => by have h1 := hl5 g hg; omega
            have hl5 : ∀ g, live (.slice p5 pl.length c5) = some g → wq.heap.size ≤ g := fun g hg => by have h1 := hl5 g hg; have h2 := hS.size; omega
            have hT := ht5.at_
            have hkd : Kept (fun k => n1.Wr k) _ wd := ht5.kept.mono fun k h => h.imp id (hqs2 k)
            have hS := hS.trans hkd (fun k h => .inl h)
            try replace hs2 := hs2.keep hkd (fun g hg c => by have h1 := hl2 g hg; have h2 := hNlt _ c; omega)
            try replace hb6 := hkd.at hb6 (fun c => by have := hNlt _ c; omega)
            try replace hb7 := hkd.at hb7 (fun c => by have := hNlt _ c; omega)
            refine RW.nil (Nm.then ⟨hS, ?_⟩)
            refine AW.next 6 rfl (by kernel_rfl) ?_
            have hga6 := hS.size
            obtain ⟨g6, hg6⟩ : ∃ g : Nat, wd.heap.size = g := ⟨_, rfl⟩
            try have h67 := lt_of_at hb7
            try have h26 : ∀ g, live (.slice p2 rp.2.length c2) = some g → g ≠ g6 := fun g hg => by have h1 := hs2.lt hg; omega
            try have h56 : ∀ g, live (.slice p5 pl.length c5) = some g → g ≠ g6 := fun g hg => by have h1 := hs5.lt hg; omega
            refine RW.alloc rfl (fun wd hb6 hkn hltn => ?_)
            rw [hg6] at hb6 hltn hga6
            rw [hg6]
            try rw [hg6] at h67
            have hT := hT.keep0 hkn
            have hS := hS.trans0 hkn
            try replace hs2 := hs2.keep0 hkn
            try replace hs5 := hs5.keep0 hkn
            try replace hb7 := hkn.at0 hb7
            refine RW.nil (Nm.then ⟨hS, ?_⟩)
            refine AW.next 8 rfl (by kernel_rfl) ?_
            refine RW.storeBlock rfl rfl rfl (fun z hz => by simp at hz; rcases hz with rfl | rfl <;> rfl) hb6 rfl (fun wd hb6 hkn => ?_)
            have hS := hS.trans hkn (fun k h => .inr (by omega))
            have hs2 := hs2.keep hkn (fun g hg c => h26 g hg c)
            have hs5 := hs5.keep hkn (fun g hg c => h56 g hg c)
            have hb7 := hkn.at hb7 (by omega)
            refine RW.nil (Nm.then ⟨hS, ?_⟩)
            refine AW.next 9 rfl (by kernel_rfl) ?_
            refine RW.storeBlock rfl rfl rfl (fun z hz => by simp at hz; rcases hz with rfl | rfl <;> rfl) hb7 rfl (fun wd hb7 hkn => ?_)
            have hS := hS.trans hkn (fun k h => .inr (by omega))
            have hs2 := hs2.keep hkn (fun g hg c => h27 g hg c)
            have hs5 := hs5.keep hkn (fun g hg c => h57 g hg c)
            have hb6 := hkn.at hb6 (by omega)
            refine RW.nil (Nm.then ⟨hS, ?_⟩)
            refine AW.donew [1, 2, 3, 4, 10, 12, 16, 17] (by kernel_rfl) ?_
            dsimp only [H.keep, H.look, H.Fr.put, Nat.beq]
            repeat' (first | (refine CL.done ?_) | (refine Nm.then ?_))
            exact ⟨_, rfl, rfl, rfl, g6, g7, p2, c2, p5, c5, rfl, hb6, hb7, hs2, hs5, hS⟩
          · have hga6 := hS.size
            obtain ⟨g6, hg6⟩ : ∃ g : Nat, wd.heap.size = g := ⟨_, rfl⟩
            try have h67 := lt_of_at hb7
            try have h26 : ∀ g, live (.slice p2 rp.2.length c2) = some g → g ≠ g6 := fun g hg => by have h1 := hs2.lt hg; omega
            try have h56 : ∀ g, live (.slice p5 pl.length c5) = some g → g ≠ g6 := fun g hg => by have h1 := hs5.lt hg; omega
            refine RW.alloc rfl (fun wd hb6 hkn hltn => ?_)
            rw [hg6] at hb6 hltn hga6
            rw [hg6]
            try rw [hg6] at h67
            have hT := hT.keep0 hkn
            have hS := hS.trans0 hkn
            try replace hs2 := hs2.keep0 hkn
            try replace hs5 := hs5.keep0 hkn
            try replace hb7 := hkn.at0 hb7
            refine RW.nil (Nm.then ⟨hS, ?_⟩)
            refine AW.next 5 rfl (by kernel_rfl) ?_
            try have hlt6 := lt_of_at hb6
            try have hlt7 := lt_of_at hb7
            have hcc := netGetG { n1 with F := n1.F.tail, q := q2, c := n1.c + 1 } r.name r.v r.pre offI lenI _ hT (by show n1.F.tail.length ≤ 1000; rw [hF1]; simp) (by show n1.c + 1 ≤ 1000000; omega) (hprq.keep hS (fun g hg c => hNp g hg c)) (fun g hg c => hNp g hg (c.imp id (hqs2 g))) hfr.v hg1
            refine RW.fn rfl rfl (hcc.mono ?_)
            rintro e wd ⟨v5, q5, rfl, hs5, hl5, hqs5, ht5⟩
            dsimp only at hs5
            rw [hA1, hR1, hd2] at hs5
            dsimp only
            rw [hA1, hR1, hd2]
            obtain ⟨p5, c5, hv5, _⟩ := hs5.shape
            subst hv5
            try have h56 : ∀ g, live (.slice p5 pl.length c5) = some g → g ≠ g6 := fun g hg => by have h1 := hl5 g hg; omega
            try have h57 : ∀ g, live (.slice p5 pl.length c5) = some g → g ≠ g7 := fun g hg => by have h1 := hl5 g hg; omega
            have hl5 : ∀ g, live (.slice p5 pl.length c5) = some g → wq.heap.size ≤ g := fun g hg => by have h1 := hl5 g hg; have h2 := hS.size; omega
            have hT := ht5.at_
            have hkd : Kept (fun k => n1.Wr k) _ wd := ht5.kept.mono fun k h => h.imp id (hqs2 k)
            have hS := hS.trans hkd (fun k h => .inl h)
            try replace hs2 := hs2.keep hkd (fun g hg c => by have h1 := hl2 g hg; have h2 := hNlt _ c; omega)
            try replace hb6 := hkd.at hb6 (fun c => by have := hNlt _ c; omega)
            try replace hb7 := hkd.at hb7 (fun c => by have := hNlt _ c; omega)
            refine RW.nil (Nm.then ⟨hS, ?_⟩)
            refine AW.next 8 rfl (by kernel_rfl) ?_
            refine RW.storeBlock rfl rfl rfl (fun z hz => by simp at hz; rcases hz with rfl | rfl <;> rfl) hb6 rfl (fun wd hb6 hkn => ?_)
            have hS := hS.trans hkn (fun k h => .inr (by omega))
            have hs2 := hs2.keep hkn (fun g hg c => h26 g hg c)
            have hs5 := hs5.keep hkn (fun g hg c => h56 g hg c)
            have hb7 := hkn.at hb7 (by omega)
            refine RW.nil (Nm.then ⟨hS, ?_⟩)
            refine AW.next 9 rfl (by kernel_rfl) ?_
            refine RW.storeBlock rfl rfl rfl (fun z hz => by simp at hz; rcases hz with rfl | rfl <;> rfl) hb7 rfl (fun wd hb7 hkn => ?_)
            have hS := hS.trans hkn (fun k h => .inr (by omega))
            have hs2 := hs2.keep hkn (fun g hg c => h27 g hg c)
            have hs5 := hs5.keep hkn (fun g hg c => h57 g hg c)
            have hb6 := hkn.at hb6 (by omega)
            refine RW.nil (Nm.then ⟨hS, ?_⟩)
            refine AW.donew [1, 2, 3, 4, 10, 12, 16, 17] (by kernel_rfl) ?_
            dsimp only [H.keep, H.look, H.Fr.put, Nat.beq]
            repeat' (first | (refine CL.done ?_) | (refine Nm.then ?_))
            exact ⟨_, rfl, rfl, rfl, g6, g7, p2, c2, p5, c5, rfl, hb6, hb7, hs2, hs5, hS⟩
        · have hga6 := hS.size
          obtain ⟨g6, hg6⟩ : ∃ g : Nat, wd.heap.size = g := ⟨_, rfl⟩
          try have h67 := lt_of_at hb7
          try have h26 : ∀ g, live (.slice p2 rp.2.length c2) = some g → g ≠ g6 := fun g hg => by have h1 := hs2.lt hg; omega
          try have h56 : ∀ g, live (.slice p5 pl.length c5) = some g → g ≠ g6 := fun g hg => by have h1 := hs5.lt hg; omega
          refine RW.alloc rfl (fun wd hb6 hkn hltn => ?_)
          rw [hg6] at hb6 hltn hga6
          rw [hg6]
          try rw [hg6] at h67
          have hT := hT.keep0 hkn
          have hS := hS.trans0 hkn
          try replace hs2 := hs2.keep0 hkn
          try replace hs5 := hs5.keep0 hkn
          try replace hb7 := hkn.at0 hb7
          refine RW.nil (Nm.then ⟨hS, ?_⟩)
          refine AW.next 2 rfl (by kernel_rfl) ?_
          try have hlt6 := lt_of_at hb6
          try have hlt7 := lt_of_at hb7
          have hcc := netGetG n1 r.name r.v r.pre offI lenI _ hT (by rw [hF1]; simp) (by omega) (hprq.keep hS (fun g hg c => hNp g hg c)) (fun g hg c => hNp g hg c) hfr.v hg1
          refine RW.fn rfl rfl (hcc.mono ?_)
          rintro e wd ⟨v2, q2, rfl, hs2, hl2, hqs2, ht2⟩
          rw [hA1, hR1, hd1] at hs2
          rw [hA1, hR1, hd1]
          obtain ⟨p2, c2, hv2, _⟩ := hs2.shape
          subst hv2
          try have h26 : ∀ g, live (.slice p2 rp.2.length c2) = some g → g ≠ g6 := fun g hg => by have h1 := hl2 g hg; omega
          try have h27 : ∀ g, live (.slice p2 rp.2.length c2) = some g → g ≠ g7 := fun g hg => by have h1 := hl2 g hg; omega
          have hl2 : ∀ g, live (.slice p2 rp.2.length c2) = some g → wq.heap.size ≤ g := fun g hg => by have h1 := hl2 g hg; have h2 := hS.size; omega
          have hT := ht2.at_
          have hkd : Kept (fun k => n1.Wr k) _ wd := ht2.kept
          have hS := hS.trans hkd (fun k h => .inl h)
          try replace hb6 := hkd.at hb6 (fun c => by have := hNlt _ c; omega)
          try replace hb7 := hkd.at hb7 (fun c => by have := hNlt _ c; omega)
          refine RW.nil (Nm.then ⟨hS, ?_⟩)
          refine AW.next 5 rfl (by kernel_rfl) ?_
          try have hlt6 := lt_of_at hb6
          try have hlt7 := lt_of_at hb7
          have hcc := netGetG { n1 with F := n1.F.tail, q := q2, c := n1.c + 1 } r.name r.v r.pre offI lenI _ hT (by show n1.F.tail.length ≤ 1000; rw [hF1]; simp) (by show n1.c + 1 ≤ 1000000; omega) (hprq.keep hS (fun g hg c => hNp g hg c)) (fun g hg c => hNp g hg (c.imp id (hqs2 g))) hfr.v hg1
          refine RW.fn rfl rfl (hcc.mono ?_)
          rintro e wd ⟨v5, q5, rfl, hs5, hl5, hqs5, ht5⟩
          dsimp only at hs5
          rw [hA1, hR1, hd2] at hs5
          dsimp only
          rw [hA1, hR1, hd2]
          obtain ⟨p5, c5, hv5, _⟩ := hs5.shape
          subst hv5
          try have h56 : ∀ g, live (.slice p5 pl.length c5) = some g → g ≠ g6 := fun g hg => by have h1 := hl5 g hg; omega
          try have h57 : ∀ g, live (.slice p5 pl.length c5) = some g → g ≠ g7 := fun g hg => by have h1 := hl5 g hg; omega
          have hl5 : ∀ g, live (.slice p5 pl.length c5) = some g → wq.heap.size ≤ g := fun g hg => by have h1 := hl5 g hg; have h2 := hS.size; omega
          have hT := ht5.at_
          have hkd : Kept (fun k => n1.Wr k) _ wd := ht5.kept.mono fun k h => h.imp id (hqs2 k)
          have hS := hS.trans hkd (fun k h => .inl h)
          try replace hs2 := hs2.keep hkd (fun g hg c => by have h1 := hl2 g hg; have h2 := hNlt _ c; omega)
          try replace hb6 := hkd.at hb6 (fun c => by have := hNlt _ c; omega)
          try replace hb7 := hkd.at hb7 (fun c => by have := hNlt _ c; omega)
          refine RW.nil (Nm.then ⟨hS, ?_⟩)
          refine AW.next 8 rfl (by kernel_rfl) ?_
          refine RW.storeBlock rfl rfl rfl (fun z hz => by simp at hz; rcases hz with rfl | rfl <;> rfl) hb6 rfl (fun wd hb6 hkn => ?_)
          have hS := hS.trans hkn (fun k h => .inr (by omega))
          have hs2 := hs2.keep hkn (fun g hg c => h26 g hg c)
          have hs5 := hs5.keep hkn (fun g hg c => h56 g hg c)
          have hb7 := hkn.at hb7 (by omega)
          refine RW.nil (Nm.then ⟨hS, ?_⟩)
          refine AW.next 9 rfl (by kernel_rfl) ?_
          refine RW.storeBlock rfl rfl rfl (fun z hz => by simp at hz; rcases hz with rfl | rfl <;> rfl) hb7 rfl (fun wd hb7 hkn => ?_)
          have hS := hS.trans hkn (fun k h => .inr (by omega))
          have hs2 := hs2.keep hkn (fun g hg c => h27 g hg c)
          have hs5 := hs5.keep hkn (fun g hg c => h57 g hg c)
          have hb6 := hkn.at hb6 (by omega)
          refine RW.nil (Nm.then ⟨hS, ?_⟩)
          refine AW.donew [1, 2, 3, 4, 10, 12, 16, 17] (by kernel_rfl) ?_
          dsimp only [H.keep, H.look, H.Fr.put, Nat.beq]
          repeat' (first | (refine CL.done ?_) | (refine Nm.then ?_))
          exact ⟨_, rfl, rfl, rfl, g6, g7, p2, c2, p5, c5, rfl, hb6, hb7, hs2, hs5, hS⟩
    · rintro vals wx ⟨g6, g7, p2, c2, p5, c5, rfl, hb6, hb7, hs2, hs5, hKx⟩
      dsimp only [List.zip, List.zipWith]
      have hKw : K0 w wx := hKq.trans hKx fun k h => .inr (by rcases hW1 k h with h | h <;> omega)
      have harx : GA arK wx a [y] := GA.keep harq hKx fun g _ hg c => by have h1 := halt' g hg; rcases hW1 g c with h | h <;> omega
      have hsax : Sl wx 1 a 1 [y.2] := harx.1
      have hDx : Sl wx 1 y.2 y.1.length (bv y.1) := harx.2 y (by simp)
      repeat' (first | (refine CL.seq ?_) | (refine CL.region ?_) | (refine Gt.move ?_; refine RW.y (Y.move rfl) rfl ?_))
      refine RW.y (Y.idx rfl rfl hsax (by omega) (by omega)) rfl ?_
      refine RW.y (Y.load1 rfl (hsax.cell rfl)) rfl ?_
      repeat' (first | (refine CL.seq ?_) | (refine CL.region ?_) | (refine Gt.nil ?_; refine RW.nilw [0, 1, 2, 3, 4, 5, 10, 11, 12, 14, 15, 16, 17, 18, 19, 20, 21, 22, 23, 25, 29, 95, 97, 98, 109, 128, 135, 139, 153] ?_; dsimp only [H.keep, H.look, H.Fr.put, Nat.beq]) | (refine Gt.move ?_; refine RW.y (Y.move rfl) rfl ?_) | (refine Gt.assign ?_; refine RW.y (Y.assign rfl) rfl ?_) | (refine Gt.convert ?_; (refine RW.y (Y.convN rfl (by exact wrap64_id (by omega) (by omega))) rfl ?_)) | (refine Gt.len ?_; (refine RW.y (Y.lenx rfl (by assumption)) rfl ?_)) | (refine Gt.call ?_; (refine RW.y (Y.min2 rfl rfl) rfl ?_)) | (refine Gt.add ?_; refine RW.y (Y.add64 rfl rfl (by omega) (by omega)) rfl ?_))
      have hDb : Sl wx 1 y.2 y.1.length (bv y.1) := hDx
      refine RW.sublh rfl rfl rfl rfl hDb (by omega) (by omega) (by omega) (fun v9 hs9 hv9 => ?_)
      have hs9' : Sl wx 1 v9 pl.length (bv pl) := by
        rw [bv_take, bv_drop, plain_eq _ _ _ (by omega) (by omega), ← hoffI, ← hlenI, hpl] at hs9
        have e2 := hs9.len
        simp only [List.length_map, Nat.mul_one] at e2
        rw [e2]
        exact hs9
      repeat' (first | (refine CL.seq ?_) | (refine CL.region ?_) | (refine Gt.nil ?_; refine RW.nilw [0, 1, 2, 3, 4, 5, 10, 11, 12, 14, 15, 16, 17, 18, 19, 20, 21, 22, 23, 25, 29, 95, 97, 98, 109, 128, 135, 139, 153] ?_; dsimp only [H.keep, H.look, H.Fr.put, Nat.beq]) | (refine Gt.move ?_; refine RW.y (Y.move rfl) rfl ?_) | (refine Gt.guard ?_; first | (refine RW.part rfl rfl rfl (fun _ => ?_) (fun _ => ?_) <;> try (exfalso; omega)) | (refine RW.on rfl rfl rfl ?_)) | (refine Gt.assign ?_; refine RW.y (Y.assign rfl) rfl ?_) | (refine Gt.load ?_; (refine RW.y (Y.loadB rfl (by assumption) rfl) rfl ?_)) | (refine Gt.fieldAddr ?_; refine RW.y (Y.fieldAddr rfl (by rfl)) rfl ?_) | (refine Gt.neq ?_; (refine RW.y (Y.nei rfl rfl) rfl ?_)))
      refine RW.y (Y.strb rfl hs5) rfl ?_
      repeat' (first | (refine Gt.move ?_; refine RW.y (Y.move rfl) rfl ?_) | (refine Gt.guard ?_; (refine RW.on rfl rfl rfl ?_)))
      refine RW.y (Y.strb rfl hs9') rfl ?_
      have hrr : rp = if fk = 1 then (1, []) else if fk = 3 then (0, if pl = [] then [] else spoilB pl nn) else if fk = 4 then (0, pl.take pl.length) else if fk = 2 then (0, pl.take (max nn 0).toNat) else (0, pl) := by rw [← hrp]; simp only [replyB, List.getD_cons_zero, hpl]
      rw [hfk] at hrr
      repeat' (first | (refine CL.seq ?_) | (refine CL.region ?_) | (refine CL.skip ?_) | (refine CL.condP rfl (fun _ => ?_) (fun _ => ?_) <;> try (exfalso; omega)) | (refine CL.block ?_) | (refine CL.ret ?_) | (refine Rt.block ?_) | (refine CL.done ?_) | (refine Nm.block ?_) | (refine Gt.nil ?_; refine RW.nilw [0, 1, 2, 3, 4, 5, 10, 11, 12, 14, 15, 16, 17, 18, 19, 20, 21, 22, 23, 25, 29, 95, 97, 98, 109, 128, 135, 139, 153] ?_; dsimp only [H.keep, H.look, H.Fr.put, Nat.beq]) | (refine Gt.move ?_; refine RW.y (Y.move rfl) rfl ?_) | (refine Gt.guard ?_; first | (refine RW.part rfl rfl rfl (fun _ => ?_) (fun _ => ?_) <;> try (exfalso; omega)) | (refine RW.on rfl rfl rfl ?_) | (refine RW.off1 rfl rfl rfl rfl rfl ?_)) | (refine Gt.assign ?_; refine RW.y (Y.assign rfl) rfl ?_) | (refine Gt.load ?_; (refine RW.y (Y.loadB rfl (by assumption) rfl) rfl ?_)) | (refine Gt.fieldAddr ?_; refine RW.y (Y.fieldAddr rfl (by rfl)) rfl ?_) | (refine Gt.len ?_; first | (refine RW.y (Y.lenv rfl) rfl ?_) | (refine RW.y (Y.lenx rfl (by assumption)) rfl ?_)) | (refine Gt.eql ?_; (refine RW.y (Y.eqi rfl rfl) rfl ?_)) | (refine Gt.pick ?_; first | (refine RW.y (Y.pickT rfl rfl) rfl ?_) | (refine RW.y (Y.pickF rfl rfl) rfl ?_)) | (refine Gt.rem ?_; (refine RW.y (Y.remP rfl rfl (by omega) (by omega)) rfl ?_)) | (refine Gt.neq ?_; first | (refine RW.y (Y.nei rfl rfl) rfl ?_) | (refine RW.y (Y.nes rfl rfl) rfl ?_)))
      · rename_i h
        exact absurd rfl h
      · rename_i h1 h2
        rw [if_pos h1] at hrr
        exact FQ.one rfl rfl rfl ⟨hKw, by rw [hrr]; rfl⟩
      · rename_i h1 h2
        rw [if_pos h1] at hrr
        exact absurd (by rw [hrr]) h2
      · rename_i h1 h2
        rw [if_neg h1, if_neg (by omega), if_neg (by omega), if_pos h2] at hrr
        rw [hrr] at hb6 hs2
        refine CL.draw (fun w' => K0 wx w') (by kernel_rfl) (fun wf hheapf hkf => ?_)
        have hS : K0 wx wf := hkf
        skip
        refine AW.take 0 rfl (by kernel_rfl) (by kernel_rfl) (by kernel_rfl) rfl (by assumption) (fun w hS => Y.fieldAddr rfl (by rfl)) ?_
        refine AW.take 1 rfl (by kernel_rfl) (by kernel_rfl) (by kernel_rfl) rfl (by assumption) (fun w hS => Y.loadB rfl (hS.at0 hb6) rfl) ?_
        refine AW.take 2 rfl (by kernel_rfl) (by kernel_rfl) (by kernel_rfl) rfl (by assumption) (fun w hS => Y.eqiE (c := true) rfl rfl (by simp)) ?_
        refine AW.take 3 rfl (by kernel_rfl) (by kernel_rfl) (by kernel_rfl) rfl (by assumption) (fun w hS => Y.move rfl) ?_
        refine AW.takeOn 4 rfl (by kernel_rfl) (by kernel_rfl) (by kernel_rfl) rfl rfl rfl rfl (by assumption) (fun w hS => Y.fieldAddr rfl (by rfl)) ?_
        refine AW.takeOn 5 rfl (by kernel_rfl) (by kernel_rfl) (by kernel_rfl) rfl rfl rfl rfl (by assumption) (fun w hS => Y.loadB rfl (hS.at0 hb6) rfl) ?_
        refine AW.takeOn 6 rfl (by kernel_rfl) (by kernel_rfl) (by kernel_rfl) rfl rfl rfl rfl (by assumption) (fun w hS => Y.strb rfl (hs2.keep0 hS)) ?_
        refine AW.takeOn 7 rfl (by kernel_rfl) (by kernel_rfl) (by kernel_rfl) rfl rfl rfl rfl (by assumption) (fun w hS => Y.move rfl) ?_
        refine AW.takeOn 8 rfl (by kernel_rfl) (by kernel_rfl) (by kernel_rfl) rfl rfl rfl rfl (by assumption) (fun w hS => Y.move rfl) ?_
        refine AW.takeOn 9 rfl (by kernel_rfl) (by kernel_rfl) (by kernel_rfl) rfl rfl rfl rfl (by assumption) (fun w hS => Y.max2 rfl rfl) ?_
        refine AW.takeOn 10 rfl (by kernel_rfl) (by kernel_rfl) (by kernel_rfl) rfl rfl rfl rfl (by assumption) (fun w hS => Y.move rfl) ?_
        refine AW.takeOn 11 rfl (by kernel_rfl) (by kernel_rfl) (by kernel_rfl) rfl rfl rfl rfl (by assumption) (fun w hS => Y.lenx rfl (hs9'.keep0 hS)) ?_
        refine AW.takeOn 12 rfl (by kernel_rfl) (by kernel_rfl) (by kernel_rfl) rfl rfl rfl rfl (by assumption) (fun w hS => Y.min2 rfl rfl) ?_
        refine AW.next 13 rfl (by kernel_rfl) ?_
        refine RW.on rfl rfl rfl ?_
        refine RW.subh rfl rfl rfl (hs9'.keep0 hkf) (by omega) (by omega) (fun v10 hs10 hv10 => ?_)
        rw [bv_take, take_fix] at hs10
        have hs10' : Sl wf 1 v10 (pl.take (max nn 0).toNat).length (bv (pl.take (max nn 0).toNat)) := by
          have e2 := hs10.len
          simp only [List.length_map, Nat.mul_one] at e2
          rw [e2]
          exact hs10
        refine RW.nil (Nm.then (rebase0 hS (Kept.refl _ _) fun hS => ?_))
        refine AW.takeOn 14 rfl (by kernel_rfl) (by kernel_rfl) (by kernel_rfl) rfl rfl rfl rfl (by assumption) (fun w hS => Y.strb rfl (hs10'.keep0 hS)) ?_
        refine AW.takeOn 15 rfl (by kernel_rfl) (by kernel_rfl) (by kernel_rfl) rfl rfl rfl rfl (by assumption) (fun w hS => Y.eqsE (c := true) rfl rfl (by simp)) ?_
        refine AW.take 16 rfl (by kernel_rfl) (by kernel_rfl) (by kernel_rfl) rfl (by assumption) (fun w hS => by exact Y.pickT rfl rfl) ?_
        refine AW.take 17 rfl (by kernel_rfl) (by kernel_rfl) (by kernel_rfl) rfl (by assumption) (fun w hS => Y.assign rfl) ?_
        refine AW.donew [10] (by kernel_rfl) ?_
        dsimp only [H.keep, H.look, H.Fr.put, Nat.beq]
        repeat' (first | (refine CL.ret ?_) | (refine Rt.block ?_))
        exact FQ.one rfl rfl rfl ⟨hKw.trans0 hkf, rfl⟩
      · rename_i h1 h2 h3 h4
        rw [if_neg h1, if_pos h3] at hrr
        refine absurd ?_ h4
        rw [hrr]
        by_cases hp : pl = []
        · rw [if_pos hp, hp]
        · rw [if_neg hp]; simp [spoilB]
      · rename_i h1 h2 h3 h4
        rw [if_neg h1, if_pos h3] at hrr
        rw [hrr] at hb6 hs2
        obtain ⟨gb, hgb⟩ : ∃ gb, (if pl = [] then [] else spoilB pl nn) = gb := ⟨_, rfl⟩
        rw [hgb] at hb6 hs2
        replace hs2 : Sl wx 1 (.slice p2 gb.length c2) gb.length (bv gb) := hs2
        replace hb6 : wx.heap[g6]? = some (.cells #[.int .i64 0, .slice p2 gb.length c2] gotT (0, 0)) := hb6
        have hgl : gb.length = pl.length := by
          rw [← hgb]
          by_cases hp : pl = []
          · rw [if_pos hp, hp]
          · rw [if_neg hp]; simp [spoilB]
        obtain ⟨m, j, hm, hj, hat⟩ : ∃ (m j : Nat), (0 < pl.length → m < pl.length) ∧ j < 8 ∧ ∀ i, i < pl.length → bits .xor .u8 ((gb.getD i 0).toNat : Int) ((pl.getD i 0).toNat : Int) = if i = m then ((2 ^ j : Nat) : Int) else 0 := by
          by_cases hp : pl = []
          · exact ⟨0, 0, fun h => by rw [hp] at h; simp at h, by omega, fun i hi => by rw [hp] at hi; simp at hi⟩
          · rw [if_neg hp] at hgb
            obtain ⟨m, j, h1, h2, h3⟩ := spoil_at pl nn hp
            exact ⟨m, j, fun _ => h1, h2, by rw [← hgb]; exact h3⟩
        have hp1 : 0 < 2 ^ j := Nat.two_pow_pos j
        have hp2 : 2 ^ j < 256 := Nat.pow_lt_pow_right (by omega) (show j < 8 from hj)
        obtain ⟨pj, hpj⟩ : ∃ pj : Nat, 2 ^ j = pj := ⟨_, rfl⟩
        have hpa := pow_and j hj
        rw [hpj] at hat hp1 hp2 hpa
        refine CL.loopS [16, 20, 21, 22] (fun k vals wr => ∃ (i d : Nat), vals = [.pointer (some ⟨g6, 0, none⟩), v9, .int .i64 (d : Int), .int .i64 (i : Int)] ∧ k = pl.length - i ∧ i ≤ pl.length ∧ d = (if m < i then 1 else 0) ∧ K0 wx wr) pl.length ⟨_, rfl, 0, 0, rfl, rfl, Nat.zero_le _, rfl, Kept.refl _ _⟩ ?_
        rintro k vals wr ⟨i, d, rfl, rfl, hi, hd, hKr⟩
        dsimp only [List.zip, List.zipWith]
        have hs9r := hs9'.keep0 hKr
        have hs2r := hs2.keep0 hKr
        have hb6r := hKr.at0 hb6
        have hpll : pl.length ≤ 64 := by rw [← hpl]; exact (partB_len _ _ _).1
        rcases Nat.lt_or_ge i pl.length with hlt | hge
        · have hti : ((i : Int)).toNat = i := Int.toNat_natCast i
          have hg1' : (bv gb)[((i : Int)).toNat * 1]? = some (vb (gb.getD i 0)) := by rw [hti]; simp [List.getD_eq_getElem?_getD, show i < gb.length by omega]
          have hg2' : (bv pl)[((i : Int)).toNat * 1]? = some (vb (pl.getD i 0)) := by rw [hti]; simp [List.getD_eq_getElem?_getD, hlt]
          have hdl : d ≤ 1 := by rw [hd]; split <;> omega
          repeat' (first | (refine CL.seq ?_) | (refine CL.region ?_) | (refine CL.skip ?_) | (refine CL.condP rfl (fun _ => ?_) (fun _ => ?_) <;> try (exfalso; omega)) | (refine Gt.nil ?_; refine RW.nilw [0, 1, 2, 3, 4, 5, 10, 11, 12, 14, 15, 16, 17, 18, 19, 20, 21, 22, 23, 25, 29, 95, 97, 98, 109, 128, 135, 139, 153] ?_; dsimp only [H.keep, H.look, H.Fr.put, Nat.beq]) | (refine Gt.move ?_; refine RW.y (Y.move rfl) rfl ?_) | (refine Gt.len ?_; (refine RW.y (Y.lenx rfl (by assumption)) rfl ?_)) | (refine Gt.lss ?_; refine RW.y (Y.lss rfl rfl) rfl ?_))
          refine CL.block ?_
          repeat' ((refine CL.seq ?_))
          refine CL.draw (fun w' => K0 wr w') (by kernel_rfl) (fun wf hheapf hkf => ?_)
          have hS : K0 wr wf := hkf
          skip
          refine AW.take 0 rfl (by kernel_rfl) (by kernel_rfl) (by kernel_rfl) rfl (by assumption) (fun w hS => Y.fieldAddr rfl (by rfl)) ?_
          refine AW.take 1 rfl (by kernel_rfl) (by kernel_rfl) (by kernel_rfl) rfl (by assumption) (fun w hS => Y.loadB rfl (hS.at0 hb6r) rfl) ?_
          refine AW.take 2 rfl (by kernel_rfl) (by kernel_rfl) (by kernel_rfl) rfl (by assumption) (fun w hS => Y.move rfl) ?_
          refine AW.take 3 rfl (by kernel_rfl) (by kernel_rfl) (by kernel_rfl) rfl (by assumption) (fun w hS => Y.idx rfl rfl (hs2r.keep0 hS) (by omega) (by omega)) ?_
          refine AW.take 4 rfl (by kernel_rfl) (by kernel_rfl) (by kernel_rfl) rfl (by assumption) (fun w hS => Y.load1 rfl ((hs2r.keep0 hS).cell hg1')) ?_
          refine AW.take 5 rfl (by kernel_rfl) (by kernel_rfl) (by kernel_rfl) rfl (by assumption) (fun w hS => Y.move rfl) ?_
          refine AW.take 6 rfl (by kernel_rfl) (by kernel_rfl) (by kernel_rfl) rfl (by assumption) (fun w hS => Y.move rfl) ?_
          refine AW.take 7 rfl (by kernel_rfl) (by kernel_rfl) (by kernel_rfl) rfl (by assumption) (fun w hS => Y.idx rfl rfl (hs9r.keep0 hS) (by omega) (by omega)) ?_
          refine AW.take 8 rfl (by kernel_rfl) (by kernel_rfl) (by kernel_rfl) rfl (by assumption) (fun w hS => Y.load1 rfl ((hs9r.keep0 hS).cell hg2')) ?_
          refine AW.take 9 rfl (by kernel_rfl) (by kernel_rfl) (by kernel_rfl) rfl (by assumption) (fun w hS => Y.bits (by exact .inr (.inr (.inl rfl))) rfl rfl) ?_
          refine AW.take 10 rfl (by kernel_rfl) (by kernel_rfl) (by kernel_rfl) rfl (by assumption) (fun w hS => Y.assign rfl) ?_
          refine AW.donew [16, 20, 21, 22, 23] (by kernel_rfl) ?_
          dsimp only [H.keep, H.look, H.Fr.put, Nat.beq]
          rw [hat i hlt]
          skip
          refine CL.block ?_
          by_cases him : i = m
          · rw [if_pos him]
            have hd0 : d = 0 := by rw [hd, if_neg (by omega)]
            refine CL.loopS [16, 20, 21, 22, 23] (fun k vals wy => ∃ (z : Int) (d : Nat), vals = [.pointer (some ⟨g6, 0, none⟩), v9, .int .i64 (d : Int), .int .i64 (i : Int), .int .u8 z] ∧ ((k = 1 ∧ z = (pj : Int) ∧ d = 0) ∨ (k = 0 ∧ z = 0 ∧ d = 1)) ∧ K0 wr wy) 1 ⟨_, rfl, _, d, rfl, .inl ⟨rfl, rfl, hd0⟩, hkf⟩ ?_
            rintro k vals wy ⟨z, d, rfl, hz, hKy⟩
            dsimp only [List.zip, List.zipWith]
            rcases hz with ⟨rfl, rfl, rfl⟩ | ⟨rfl, rfl, rfl⟩
            · repeat' (first | (refine CL.seq ?_) | (refine CL.region ?_) | (refine CL.skip ?_) | (refine CL.condP rfl (fun _ => ?_) (fun _ => ?_) <;> try (exfalso; omega)) | (refine CL.block ?_) | (refine CL.done ?_) | (refine Nm.block ?_) | (refine Nm.then ?_) | (refine Gt.nil ?_; refine RW.nilw [0, 1, 2, 3, 4, 5, 10, 11, 12, 14, 15, 16, 17, 18, 19, 20, 21, 22, 23, 25, 29, 95, 97, 98, 109, 128, 135, 139, 153] ?_; dsimp only [H.keep, H.look, H.Fr.put, Nat.beq]) | (refine Gt.move ?_; refine RW.y (Y.move rfl) rfl ?_) | (refine Gt.assign ?_; refine RW.y (Y.assign rfl) rfl ?_) | (refine Gt.add ?_; refine RW.y (Y.add64 rfl rfl (by omega) (by omega)) rfl ?_) | (refine Gt.gtr ?_; refine RW.y (Y.gtr rfl rfl) rfl ?_) | (refine Gt.sub ?_; refine RW.y (Y.subN rfl rfl (by exact wrapu8_id (by omega) (by omega))) rfl ?_) | (refine Gt.and ?_; refine RW.y (Y.bits (by exact .inl rfl) rfl rfl) rfl ?_))
              rw [hpa]
              exact ⟨0, _, rfl, rfl, rfl, by omega, 0, 1, rfl, .inr ⟨rfl, rfl, rfl⟩, hKy⟩
            · repeat' (first | (refine CL.seq ?_) | (refine CL.region ?_) | (refine CL.condP rfl (fun _ => ?_) (fun _ => ?_) <;> try (exfalso; omega)) | (refine CL.exit ?_) | (refine Ex.then ?_) | (refine Ex.hit ?_) | (refine CL.done ?_) | (refine Nm.block ?_) | (refine Nm.then ?_) | (refine Gt.nil ?_; refine RW.nilw [0, 1, 2, 3, 4, 5, 10, 11, 12, 14, 15, 16, 17, 18, 19, 20, 21, 22, 23, 25, 29, 95, 97, 98, 109, 128, 135, 139, 153] ?_; dsimp only [H.keep, H.look, H.Fr.put, Nat.beq]) | (refine Gt.move ?_; refine RW.y (Y.move rfl) rfl ?_) | (refine Gt.assign ?_; refine RW.y (Y.assign rfl) rfl ?_) | (refine Gt.add ?_; refine RW.y (Y.add64 rfl rfl (by omega) (by omega)) rfl ?_) | (refine Gt.gtr ?_; refine RW.y (Y.gtr rfl rfl) rfl ?_))
              exact ⟨pl.length - (i + 1), _, rfl, rfl, rfl, by omega, i + 1, 1, rfl, rfl, by omega, by rw [if_pos (by omega)], hKr.trans0 hKy⟩
          · rw [if_neg him]
            refine CL.loopS [16, 20, 21, 22, 23] (fun k vals wy => vals = [.pointer (some ⟨g6, 0, none⟩), v9, .int .i64 (d : Int), .int .i64 (i : Int), .int .u8 0] ∧ K0 wr wy) 0 ⟨_, rfl, rfl, hkf⟩ ?_
            rintro k vals wy ⟨rfl, hKy⟩
            dsimp only [List.zip, List.zipWith]
            repeat' (first | (refine CL.seq ?_) | (refine CL.region ?_) | (refine CL.condP rfl (fun _ => ?_) (fun _ => ?_) <;> try (exfalso; omega)) | (refine CL.exit ?_) | (refine Ex.then ?_) | (refine Ex.hit ?_) | (refine CL.done ?_) | (refine Nm.block ?_) | (refine Nm.then ?_) | (refine Gt.nil ?_; refine RW.nilw [0, 1, 2, 3, 4, 5, 10, 11, 12, 14, 15, 16, 17, 18, 19, 20, 21, 22, 23, 25, 29, 95, 97, 98, 109, 128, 135, 139, 153] ?_; dsimp only [H.keep, H.look, H.Fr.put, Nat.beq]) | (refine Gt.move ?_; refine RW.y (Y.move rfl) rfl ?_) | (refine Gt.assign ?_; refine RW.y (Y.assign rfl) rfl ?_) | (refine Gt.add ?_; refine RW.y (Y.add64 rfl rfl (by omega) (by omega)) rfl ?_) | (refine Gt.gtr ?_; refine RW.y (Y.gtr rfl rfl) rfl ?_))
            refine ⟨pl.length - (i + 1), _, rfl, rfl, rfl, by omega, i + 1, d, rfl, rfl, by omega, ?_, hKr.trans0 hKy⟩
            rw [hd]
            by_cases hmi : m < i
            · rw [if_pos hmi, if_pos (by omega)]
            · rw [if_neg hmi, if_neg (by omega)]
        · have hi : i = pl.length := by omega
          subst hi
          repeat' (first | (refine CL.seq ?_) | (refine CL.region ?_) | (refine CL.condP rfl (fun _ => ?_) (fun _ => ?_) <;> try (exfalso; omega)) | (refine CL.exit ?_) | (refine Ex.then ?_) | (refine Ex.hit ?_) | (refine CL.ret ?_) | (refine Rt.block ?_) | (refine Gt.nil ?_; refine RW.nilw [0, 1, 2, 3, 4, 5, 10, 11, 12, 14, 15, 16, 17, 18, 19, 20, 21, 22, 23, 25, 29, 95, 97, 98, 109, 128, 135, 139, 153] ?_; dsimp only [H.keep, H.look, H.Fr.put, Nat.beq]) | (refine Gt.move ?_; refine RW.y (Y.move rfl) rfl ?_) | (refine Gt.assign ?_; refine RW.y (Y.assign rfl) rfl ?_) | (refine Gt.len ?_; (refine RW.y (Y.lenx rfl (by assumption)) rfl ?_)) | (refine Gt.eql ?_; (refine RW.y (Y.eqi rfl rfl) rfl ?_)) | (refine Gt.call ?_; (refine RW.y (Y.min2 rfl rfl) rfl ?_)) | (refine Gt.lss ?_; refine RW.y (Y.lss rfl rfl) rfl ?_))
          refine FQ.one rfl rfl rfl ⟨hKw.trans0 hKr, ?_⟩
          have e : ((d : Int) = min (pl.length : Int) 1) := by
            rw [hd]
            rcases Nat.eq_zero_or_pos pl.length with h0 | h0
            · rw [if_neg (by omega)]; omega
            · rw [if_pos (hm h0)]; omega
          rw [decide_eq_true e]
      · rename_i h1 h2 h3 h4
        have hrr' : rp = (0, pl) := by
          rw [hrr, if_neg h1, if_neg h3]
          by_cases h5 : (kd.toNat : Int) % 5 = 4
          · rw [if_pos h5, List.take_length]
          · rw [if_neg h5, if_neg h2]
        rw [hrr'] at hs2
        refine RW.y (Y.strb rfl (l := rp.2) (by rw [hrr']; exact hs2)) rfl ?_
        repeat' (first | (refine Gt.move ?_; refine RW.y (Y.move rfl) rfl ?_) | (refine Gt.guard ?_; (refine RW.on rfl rfl rfl ?_)))
        refine RW.y (Y.strb rfl hs9') rfl ?_
        repeat' (first | (refine CL.ret ?_) | (refine Gt.nil ?_; refine RW.nilw [0, 1, 2, 3, 4, 5, 10, 11, 12, 14, 15, 16, 17, 18, 19, 20, 21, 22, 23, 25, 29, 95, 97, 98, 109, 128, 135, 139, 153] ?_; dsimp only [H.keep, H.look, H.Fr.put, Nat.beq]) | (refine Gt.guard ?_; (refine RW.on rfl rfl rfl ?_)) | (refine Gt.assign ?_; refine RW.y (Y.assign rfl) rfl ?_) | (refine Gt.eql ?_; (refine RW.y (Y.eqs rfl rfl) rfl ?_)) | (refine Gt.pick ?_; (refine RW.y (Y.pickT rfl rfl) rfl ?_)))
        exact FQ.one rfl rfl rfl ⟨hKw, by rw [hrr']; simp⟩
      · rename_i h1 h2 h3 h4
        refine absurd ?_ h4
        rw [hrr, if_neg h1, if_neg h3]
        by_cases h5 : (kd.toNat : Int) % 5 = 4
        · rw [if_pos h5]
        · rw [if_neg h5, if_neg h2]
end Go.Proofs.Ytlbegmpikggmlaa.Ne

namespace Go.Proofs.Ytlbegmpikggmlaa.H
open Go.ChangeShapes Go.WideShapes Go.RowKit

/-- What a reading of a type's cells tells. -/
class Opn (P : Program) (t : TypeId) (α : outParam Type) (en : outParam (α → List Value)) (ok : outParam (World → α → Prop)) : Prop where
  out : ∀ (H : Type) (enc : TypeId × Value → H) (W : World) (fuel : Nat) (cs : List Value) (x : DataW H × List MemPlace), DataW.trod enc P W 0 (fun _ => true) true fuel t cs = some x → ∃ a, cs = en a ∧ ok W a
class Cel (P : Program) (t : TypeId) (n : outParam Nat) : Prop where out : P.cellsOf t = n
theorem Cel.of {P : Program} {t : TypeId} {z : Value} {s b : Nat} [h : Inf P t z s b] : Cel P t s := ⟨by
  have h := h.out
  cases hi : P.info? t with
  | none => simp [hi] at h
  | some i =>
    simp only [hi, Option.map_some, Option.some.injEq, Prod.mk.injEq] at h
    simp [Program.cellsOf, hi, h.2.1]⟩
instance {P : Program} {t : TypeId} {z : Value} {s b : Nat} [h : Inf P t z s b] : Cel P t s := Cel.of
class CelS (P : Program) (t : TypeId) (n : outParam Nat) : Prop where
  out : P.cellsOf t = n
  pos : 0 < n

theorem wf_of {k : IntKind} {n : Int} (h : (Lit.int k n).wf = true) : k.min ≤ n ∧ n ≤ k.max := by
  simpa [Lit.wf] using h

instance (priority := low) {P : Program} {t : TypeId} {k : IntKind} [h : Und P t (.int k)] : Opn P t Int (fun n => [.int k n]) (fun _ n => k.min ≤ n ∧ n ≤ k.max) := ⟨fun _ _ _ _ _ _ hx => by
  obtain ⟨n, rfl, rfl, hw⟩ := DataW.trod_int h.out hx
  exact ⟨n, rfl, wf_of hw⟩⟩
instance {P : Program} {t : TypeId} [h : Und P t (.int .i64)] : Opn P t Int (fun n => [.int .i64 n]) (fun _ n => -9223372036854775808 ≤ n ∧ n ≤ 9223372036854775807) := ⟨fun _ _ _ _ _ _ hx => by
  obtain ⟨n, rfl, rfl, hw⟩ := DataW.trod_int h.out hx
  exact ⟨n, rfl, bounds_i64 hw⟩⟩
instance {P : Program} {t : TypeId} [h : Und P t (.int .u64)] : Opn P t Nat (fun n => [.int .u64 (n : Int)]) (fun _ n => n < 18446744073709551616) := ⟨fun _ _ _ _ _ _ hx => by
  obtain ⟨n, rfl, rfl, hw⟩ := DataW.trod_int h.out hx
  have := bounds_u64 hw
  exact ⟨n.toNat, by rw [Int.toNat_of_nonneg this.1], by omega⟩⟩
instance {P : Program} {t : TypeId} [h : Und P t (.int .u8)] : Opn P t UInt8 (fun n => [vb n]) (fun _ _ => True) := ⟨fun _ _ _ _ _ _ hx => by
  obtain ⟨n, rfl, rfl, hw⟩ := DataW.trod_int h.out hx
  have := bounds_u8 hw
  refine ⟨UInt8.ofNat n.toNat, ?_, trivial⟩
  simp only [vb, UInt8.toNat_ofNat']
  congr 2
  omega⟩
instance {P : Program} {t : TypeId} [h : Und P t .bool] : Opn P t Bool (fun b => [.bool b]) (fun _ _ => True) := ⟨fun _ _ _ _ _ _ hx => by
  obtain ⟨n, rfl, rfl⟩ := DataW.trod_bool h.out hx
  exact ⟨n, rfl, trivial⟩⟩
instance {P : Program} {t : TypeId} [h : Und P t .string] : Opn P t (List UInt8) (fun s => [vs s]) (fun _ s => s.length ≤ 9223372036854775807) := ⟨fun _ _ _ _ _ _ hx => by
  obtain ⟨s, rfl, rfl, hw⟩ := DataW.trod_string h.out hx
  refine ⟨s.data.toList, rfl, ?_⟩
  simpa [maxLen] using hw⟩

theorem addr_none {w : World} {a : Addr} {v : Value} (h : w.cell? a = some v) : ∃ c e fz, w.heap[a.block]? = some (.cells c e fz) ∧ a.spot = none ∧ c[a.off]? = some v := by
  unfold World.cell? at h
  split at h
  · rename_i c e fz hc
    split at h
    · cases h
    · rename_i hs
      exact ⟨c, e, fz, hc, by simpa using hs, h⟩
  · cases h

theorem list_grow {L cs : List Value} {off k sz : Nat} (hl : cs.length = sz) (h : ∀ j, j < sz → L[off + k * sz + j]? = cs[j]?) : (L.drop off).take ((k + 1) * sz) = (L.drop off).take (k * sz) ++ cs := by
  rw [Nat.succ_mul, List.take_add]
  congr 1
  apply List.ext_getElem?
  intro j
  rw [List.getElem?_take]
  split
  · rename_i hj
    rw [List.drop_drop, List.getElem?_drop]
    exact h j hj
  · rename_i hj
    rw [List.getElem?_eq_none (by omega)]

/-- A slice's reading. -/
instance {P : Program} {t e : TypeId} {sz : Nat} [h : Und P t (.slice e)] [hc : CelS P e sz] {β : Type} {en : β → List Value} {ok : World → β → Prop} [ho : Opn P e β en ok] :
    Opn P t (Value × List β) (fun p => [p.1]) (fun W p => Sl W sz p.1 p.2.length (p.2.flatMap en) ∧ ∀ x ∈ p.2, ok W x) := ⟨fun H enc W fuel cs x hx => by
  have hpos := hc.pos
  rcases Go.Deep.open_slice h.out hx with ⟨rfl, _⟩ | ⟨a, len, cap, m, n, D, Pl, rfl, _, hl, hm, hmm, _, hel⟩
  · exact ⟨(_, []), rfl, by simpa using Sl.nil W sz, by simp⟩
  have hel : ∀ i, i < cap → ∃ cs', W.cells? 0 (a.add (i * sz)) sz = some cs' ∧ DataW.trod enc P W 0 (fun _ => true) true n e cs' = some (D i, Pl i) := fun i hi => by
    have := hel i (by rw [hmm]; simpa using hi)
    rw [hc.out] at this
    exact this
  by_cases h0 : cap = 0
  · subst h0
    have : len = 0 := by omega
    subst this
    exact ⟨(_, []), rfl, ⟨by simp, by simp, .inl ⟨_, rfl, rfl⟩⟩, by simp⟩
  obtain ⟨cs0, hcs0, _⟩ := hel 0 (by omega)
  obtain ⟨_, hlen0, hat0⟩ := World.cells?_some hcs0
  have h00 := hat0 0 (by omega)
  rw [List.getElem?_eq_getElem (by omega)] at h00
  have hz : (a.add (0 * sz)).add 0 = a := by unfold Addr.add; simp
  rw [hz] at h00
  obtain ⟨c, e', fz, hb, hsp, _⟩ := addr_none h00
  obtain ⟨g, off, sp⟩ := a
  simp only at hsp
  subst hsp
  have hcell : ∀ i, i < cap → ∃ cs', cs'.length = sz ∧ (∃ b, cs' = en b ∧ ok W b) ∧ ∀ j, j < sz → c.toList[off + i * sz + j]? = cs'[j]? := by
    intro i hi
    obtain ⟨cs', h1, h2⟩ := hel i hi
    obtain ⟨_, h4, h5⟩ := World.cells?_some h1
    refine ⟨cs', h4, ho.out H enc W n cs' _ h2, fun j hj => ?_⟩
    have := h5 j hj
    rw [addr_add, addr_add, cell_row (off := 0) hb] at this
    rw [← this, Array.getElem?_toList]
  have grow : ∀ k, k ≤ cap → ∃ xs : List β, xs.length = k ∧ (c.toList.drop off).take (k * sz) = xs.flatMap en ∧ (∀ x ∈ xs, ok W x) ∧ (xs.flatMap en).length = k * sz := by
    intro k
    induction k with
    | zero => intro _; exact ⟨[], rfl, by simp, by simp, by simp⟩
    | succ k ih =>
      intro hk
      obtain ⟨xs, h1, h2, h3, h6⟩ := ih (by omega)
      obtain ⟨cs', h4, ⟨b, rfl, hb'⟩, h5⟩ := hcell k (by omega)
      refine ⟨xs ++ [b], by simp [h1], ?_, ?_, ?_⟩
      · rw [list_grow h4 h5, h2]; simp
      · intro x hx
        rcases List.mem_append.1 hx with hx | hx
        · exact h3 x hx
        · simp only [List.mem_singleton] at hx; subst hx; exact hb'
      · rw [List.flatMap_append, List.length_append, h6]; simp [h4, Nat.succ_mul]
  have hsize : off + cap * sz ≤ c.size := by
    obtain ⟨cs', h4, _, h5⟩ := hcell (cap - 1) (by omega)
    have h6 := h5 (sz - 1) (by omega)
    rw [show cs'[sz - 1]? = some (cs'[sz - 1]'(by omega)) from List.getElem?_eq_getElem (by omega)] at h6
    have h7 := (List.getElem?_eq_some_iff.1 h6).1
    have : (cap - 1) * sz + sz = cap * sz := by
      have : cap = (cap - 1) + 1 := by omega
      conv => rhs; rw [this, Nat.succ_mul]
    simp only [Array.length_toList] at h7
    omega
  obtain ⟨xs, h1, h2, h3, h6⟩ := grow len hl
  subst h1
  exact ⟨(_, xs), rfl, ⟨h6, Nat.le_trans hl hm, .inr ⟨g, off, cap, c, e', fz, rfl, hb, hl, hm, hsize, h2⟩⟩, h3⟩⟩

/-- Fields, one behind the other. -/
class OpnF (P : Program) (ts : List TypeId) (α : outParam Type) (en : outParam (α → List Value)) (ok : outParam (World → α → Prop)) (len : outParam Nat) : Prop where
  out : ∀ (H : Type) (enc : TypeId × Value → H) (W : World) (n off : Nat) (cs : List Value), off + len ≤ cs.length →
    (∀ (pre : List TypeId) (t : TypeId) (post : List TypeId), ts = pre ++ t :: post → ∃ x, DataW.trod enc P W 0 (fun _ => true) true n t ((cs.drop (off + (pre.map P.cellsOf).sum)).take (P.cellsOf t)) = some x) →
    ∃ a, (cs.drop off).take len = en a ∧ ok W a
  sum : (ts.map P.cellsOf).sum = len
instance {P : Program} : OpnF P [] Unit (fun _ => []) (fun _ _ => True) 0 := ⟨fun _ _ _ _ _ _ _ _ => ⟨(), by simp, trivial⟩, rfl⟩
instance {P : Program} {t : TypeId} {ts : List TypeId} {α β : Type} {en : α → List Value} {ok : World → α → Prop} {en' : β → List Value} {ok' : World → β → Prop} {c l : Nat} [hc : Cel P t c] [h1 : Opn P t α en ok] [h2 : OpnF P ts β en' ok' l] :
    OpnF P (t :: ts) (α × β) (fun p => en p.1 ++ en' p.2) (fun W p => ok W p.1 ∧ ok' W p.2) (c + l) := ⟨fun H enc W n off cs hl hf => by
  obtain ⟨x, hx⟩ := hf [] t ts rfl
  simp only [List.map_nil, List.sum_nil, Nat.add_zero] at hx
  rw [hc.out] at hx
  obtain ⟨a, ha, hok⟩ := h1.out H enc W n _ x hx
  obtain ⟨b, hb, hok'⟩ := h2.out H enc W n (off + c) cs (by omega) (fun pre u post he => by
    obtain ⟨y, hy⟩ := hf (t :: pre) u post (by rw [he]; rfl)
    refine ⟨y, ?_⟩
    simp only [List.map_cons, List.sum_cons, hc.out] at hy
    rw [Nat.add_assoc]; exact hy)
  refine ⟨(a, b), ?_, hok, hok'⟩
  rw [List.take_add, ha, List.drop_drop, hb], by rw [List.map_cons, List.sum_cons, hc.out, h2.sum]⟩

def offsOk (P : Program) : Nat → List Field → Bool
  | _, [] => true
  | o, f :: r => f.offset == o && offsOk P (o + P.cellsOf f.type) r

theorem offs_at {P : Program} : ∀ (fs : List Field) (o : Nat), offsOk P o fs = true → ∀ (pre : List Field) (f : Field) (post : List Field), fs = pre ++ f :: post → f.offset = o + ((pre.map (·.type)).map P.cellsOf).sum := by
  intro fs
  induction fs with
  | nil => intro o _ pre f post h; cases pre <;> cases h
  | cons a r ih =>
    intro o h pre f post he
    simp only [offsOk, Bool.and_eq_true, beq_iff_eq] at h
    cases pre with
    | nil => simp only [List.nil_append, List.cons.injEq] at he; obtain ⟨rfl, _⟩ := he; simp [h.1]
    | cons b pre =>
      simp only [List.cons_append, List.cons.injEq] at he
      obtain ⟨rfl, he⟩ := he
      rw [ih _ h.2 pre f post he]
      simp [Nat.add_assoc]

/-- A struct's reading. -/
class StrT (P : Program) (t : TypeId) (ts : outParam (List TypeId)) : Prop where
  out : ∃ fs, P.underlying t = some (.struct fs) ∧ fs.toList.map (·.type) = ts ∧ offsOk P 0 fs.toList = true ∧ P.cellsOf t = (ts.map P.cellsOf).sum
instance {P : Program} {t : TypeId} {ts : List TypeId} [hS : StrT P t ts] {α : Type} {en : α → List Value} {ok : World → α → Prop} {len : Nat} [h : OpnF P ts α en ok len] : Opn P t α en ok := ⟨fun H enc W fuel cs x hx => by
  obtain ⟨fs, hu, hts, hof, hlen⟩ := hS.out
  obtain ⟨xs, n, rfl, rfl, hl, hxl, hf⟩ := DataW.trod_struct hu hx
  rw [hlen, h.sum] at hl
  subst hts
  obtain ⟨a, ha, hok⟩ := h.out H enc W n 0 cs (by omega) (fun pre u post he => by
    obtain ⟨i, hi⟩ : ∃ i, pre.length = i := ⟨_, rfl⟩
    have hlen2 : pre.length < fs.toList.length := by
      have := congrArg List.length he
      simp at this
      simp; omega
    have hpre : (fs.toList.take pre.length).map (·.type) = pre := by rw [List.map_take, he]; simp
    have hget : (fs.toList.map (·.type))[pre.length]? = some u := by rw [he]; simp
    rw [List.getElem?_map, List.getElem?_eq_getElem hlen2] at hget
    simp only [Option.map_some, Option.some.injEq] at hget
    have hfi : fs[pre.length]? = some (fs.toList[pre.length]) := by rw [← Array.getElem?_toList, List.getElem?_eq_getElem hlen2]
    have hoff := offs_at fs.toList 0 hof (fs.toList.take pre.length) (fs.toList[pre.length]) (fs.toList.drop (pre.length + 1)) (by rw [← List.drop_eq_getElem_cons hlen2, List.take_append_drop])
    have h2 := hf pre.length _ hfi
    rw [hget, hoff, hpre] at h2
    rw [h2]
    have : pre.length < xs.length := by rw [hxl]; simpa using hlen2
    exact ⟨_, List.getElem?_eq_getElem this⟩)
  rw [List.drop_zero, List.take_of_length_le (by omega)] at ha
  exact ⟨a, ha, hok⟩⟩

theorem flat_one {α : Type} (f : α → Value) (l : List α) : (l.flatMap fun a => [f a]) = l.map f := by induction l with
  | nil => rfl
  | cons a l ih => rw [List.flatMap_cons, ih]; rfl
theorem Sl.map {α : Type} {f : α → Value} {W : World} {v : Value} {n : Nat} {l : List α} (h : Sl W 1 v n (l.flatMap fun a => [f a])) : Sl W 1 v n (l.map f) := by rw [← flat_one]; exact h

/-- A parameter. -/
class Top (P : Program) (t : TypeId) (α : outParam Type) (tv : outParam (α → Value)) (ok : outParam (World → α → Prop)) : Prop where
  out : ∀ (H : Type) (enc : TypeId × Value → H) (W : World) (base : Nat) (v : Value) (d : DataW H) (p : List MemPlace), Value.okWide P W .any base t v → DataW.Trod enc P W 0 (fun _ => true) true t v d p → ∃ a, v = tv a ∧ ok W a
theorem Top.one {P : Program} {t : TypeId} {desc : TypeDesc} (hu : P.underlying t = some desc) (hd : TypeDesc.isOne desc = true) {α : Type} {c : α → Value} {ok : World → α → Prop} (h : Opn P t α (fun a => [c a]) ok) : Top P t α c ok := ⟨fun H enc W base v d p hv hd' => by
  obtain ⟨fuel, hf⟩ := hd'
  obtain ⟨a, ha, hok⟩ := h.out H enc W fuel _ _ hf
  refine ⟨a, ?_, hok⟩
  have hna : ∀ cs, v ≠ .agg cs := by
    intro cs hcs
    subst hcs
    unfold Value.okWide at hv
    rw [hu] at hv
    cases desc <;> simp_all [TypeDesc.isOne, Cell.okWide, Cell.ok]
  have : v.cells = #[v] := by
    cases v with
    | agg cs => exact absurd rfl (hna cs)
    | _ => rfl
  rw [this] at ha
  simpa using ha⟩
instance {P : Program} {t : TypeId} {k : IntKind} [h : Und P t (.int k)] {α : Type} {c : α → Value} {ok : World → α → Prop} [ho : Opn P t α (fun a => [c a]) ok] : Top P t α c ok := Top.one h.out rfl ho
instance {P : Program} {t : TypeId} [h : Und P t .bool] {α : Type} {c : α → Value} {ok : World → α → Prop} [ho : Opn P t α (fun a => [c a]) ok] : Top P t α c ok := Top.one h.out rfl ho
instance {P : Program} {t : TypeId} [h : Und P t .string] {α : Type} {c : α → Value} {ok : World → α → Prop} [ho : Opn P t α (fun a => [c a]) ok] : Top P t α c ok := Top.one h.out rfl ho
instance {P : Program} {t e : TypeId} [h : Und P t (.slice e)] {α : Type} {c : α → Value} {ok : World → α → Prop} [ho : Opn P t α (fun a => [c a]) ok] : Top P t α c ok := Top.one h.out rfl ho
instance {P : Program} {t : TypeId} {ts : List TypeId} [hS : StrT P t ts] {α : Type} {en : α → List Value} {ok : World → α → Prop} [h : Opn P t α en ok] : Top P t α (fun a => .agg (en a).toArray) ok := ⟨fun H enc W base v d p hv hd' => by
  obtain ⟨fuel, hf⟩ := hd'
  obtain ⟨fs, hu, _⟩ := hS.out
  obtain ⟨cs, rfl, _⟩ := okWide_struct hu hv
  obtain ⟨a, ha, hok⟩ := h.out H enc W fuel _ _ hf
  refine ⟨a, ?_, hok⟩
  have : cs = (en a).toArray := by
    apply Array.ext'
    simpa [Value.cells] using ha
  rw [this]⟩

/-- The parameters, one behind the other. -/
class Tops (P : Program) (ts : List TypeId) (α : outParam Type) (tv : outParam (α → List Value)) (ok : outParam (World → α → Prop)) : Prop where
  out : ∀ (H : Type) (enc : TypeId × Value → H) (W : World) (base : Nat) (l : List Value) (ds : List (DataW H)) (p : List MemPlace), (∀ (j : Nat) t v, ts[j]? = some t → l[j]? = some v → Value.okWide P W .any base t v) →
    DataW.TrodAll enc P W 0 (fun _ => true) true ts l ds p → ∃ a, l = tv a ∧ ok W a
instance {P : Program} : Tops P [] Unit (fun _ => []) (fun _ _ => True) := ⟨fun _ _ _ _ l ds p _ h => by
  obtain ⟨rfl, _⟩ := trodAll_nil h
  exact ⟨(), rfl, trivial⟩⟩
instance {P : Program} {t : TypeId} {ts : List TypeId} {α β : Type} {tv : α → Value} {ok : World → α → Prop} {tv' : β → List Value} {ok' : World → β → Prop} [h1 : Top P t α tv ok] [h2 : Tops P ts β tv' ok'] :
    Tops P (t :: ts) (α × β) (fun p => tv p.1 :: tv' p.2) (fun W p => ok W p.1 ∧ ok' W p.2) := ⟨fun H enc W base l ds p hv h => by
  obtain ⟨v, vs, d, ds', p', q, rfl, rfl, rfl, hd, hr⟩ := trodAll_cons h
  obtain ⟨a, rfl, ha⟩ := h1.out H enc W base v d p' (hv 0 t v rfl rfl) hd
  obtain ⟨b, rfl, hb⟩ := h2.out H enc W base vs ds' q (fun j t' v' h1 h2 => hv (j + 1) t' v' h1 h2) hr
  exact ⟨(a, b), rfl, ha, hb⟩⟩

theorem below_kept {w w' : World} (h : K0 w w') : Below w.heap.size w w' := h.below

theorem trodAll_stays {H : Type} {enc : TypeId × Value → H} {P : Program} (hl : laidOutB P = true) {W W' : World} (hb : Below W.heap.size W W') : ∀ (ts : List TypeId) (l : List Value) (ds : List (DataW H)) (p : List MemPlace), (∀ t ∈ ts, P.readableRec t = true ∧ t < P.types.size) → (∀ x ∈ p, x.block < W.heap.size) →
    DataW.TrodAll enc P W 0 (fun _ => true) true ts l ds p → DataW.TrodAll enc P W' 0 (fun b => decide (b < W.heap.size)) true ts l ds p := by
  intro ts
  induction ts with
  | nil =>
    intro l ds p _ _ h
    obtain ⟨rfl, rfl, rfl⟩ := trodAll_nil h
    exact trodAll_mk0
  | cons t ts ih =>
    intro l ds p hts hp h
    obtain ⟨v, vs, d, ds', p', q, rfl, rfl, rfl, hd, hr⟩ := trodAll_cons h
    have h1 := hts t (by simp)
    exact trodAll_cons_mk (Below.trod hl h1.1 h1.2 hd hb fun x hx => hp x (by simp [hx])) (ih vs ds' q (fun u hu => hts u (by simp [hu])) (fun x hx => hp x (by simp [hx])) hr)

theorem trodAll_length {H : Type} {enc : TypeId × Value → H} {P : Program} {W : World} {sp : Nat → Bool} {hd : Bool} : ∀ (ts : List TypeId) (l : List Value) (ds : List (DataW H)) (p : List MemPlace), DataW.TrodAll enc P W 0 sp hd ts l ds p → ds.length = ts.length := by
  intro ts
  induction ts with
  | nil => intro l ds p h; obtain ⟨_, rfl, _⟩ := trodAll_nil h; rfl
  | cons t ts ih =>
    intro l ds p h
    obtain ⟨v, vs, d, ds', p', q, rfl, rfl, rfl, _, hr⟩ := trodAll_cons h
    simp [ih _ _ _ hr]

/-- A law that returns true and leaves all that there was as it was. -/
theorem law_contract {P : Program} (hlo : laidOutB P = true) {k : FuncId} {f : Func} {s : ChangeSpec} {tb : TypeId} (hb : P.underlying tb = some .bool) (hr : f.resultTypes = #[tb]) (hv : s.vars = [])
    {ts : List TypeId} (hts : f.params.toList = ts) (hps : ∀ t ∈ ts, P.readableRec t = true ∧ t < P.types.size) {α : Type} {tv : α → List Value} {ok : World → α → Prop} [ho : Tops P ts α tv ok]
    (hs : ∀ (H : Type) (ds : List (DataW H)), ds.length = ts.length → s.fn H ds = { results := [.lit (.bool true)], args := ds })
    (walk : ∀ (a : α) (W : World), ok W a → Calls P k (tv a).toArray W fun e W' => e = .returned (.bool true) ∧ K0 W W')
    (H : Type) (enc : TypeId × Value → H) (W : World) (base : Nat) (args : Array Value) (ds gs : List (DataW H)) (before : List MemPlace)
    (hval : ∀ (j : Nat) t v, f.params[j]? = some t → args[j]? = some v → Value.okWide P W .any base t v)
    (hW : DataW.Whole enc P f.params.toList s.vars false W args.toList ds gs before) :
    Calls P k args W fun e W' => ∃ v, e = .returned v ∧ s.post enc P f false true false false W args v W' := by
  have hW' := hW
  rw [hv] at hW
  obtain ⟨p, q, hA, hV, rfl, hfz, hnd⟩ := hW
  obtain ⟨rfl, rfl⟩ := trodVars_none hV
  have hlt : ∀ x ∈ p, x.block < W.heap.size := fun x hx => by have := hW'.lt x (by simp [hx]); simpa using this
  rw [hts] at hA
  obtain ⟨a, ha, hok⟩ := ho.out H enc W base args.toList ds p (fun j t v h1 h2 => hval j t v (by rw [← Array.getElem?_toList, hts]; exact h1) (by rw [← Array.getElem?_toList]; exact h2)) hA
  have hargs : args = (tv a).toArray := by apply Array.ext'; simpa using ha
  subst hargs
  refine (walk a W hok).mono fun e W' ⟨he, hk⟩ => ?_
  have hbel := hk.below
  have hfn := hs H (ds ++ []) (by simpa using trodAll_length _ _ _ _ hA)
  refine ⟨_, he, ds, [], p ++ [], [], p, [], hW', ?_, ?_, ?_, hbel.frame _, fun h => by cases h⟩
  · rw [hfn, hr]; exact trodAll_cons_mk (shut_bool hb _) trodAll_mk0
  · rw [hfn, hts]; simpa using trodAll_stays hlo hbel ts _ ds p hps hlt hA
  · rw [hfn, hv]; exact rfl
end Go.Proofs.Ytlbegmpikggmlaa.H

namespace Go.Proofs.Ytlbegmpikggmlaa.H
open Go.ChangeShapes Go.WideShapes Go.RowKit
/-- An array's type: how many, of what, how many cells each. -/
class ArrT (P : Program) (t : TypeId) (n : outParam Nat) (e : outParam TypeId) (sz : outParam Nat) : Prop where
  out : P.underlying t = some (.array n e)
  el : P.cellsOf e = sz
  all : P.cellsOf t = n * sz
theorem rows_cat {β : Type} {en : β → List Value} {W : World} {ok : World → β → Prop} {sz : Nat} : ∀ (n : Nat) (cs : List Value), cs.length = n * sz → (∀ i, i < n → ∃ b, (cs.drop (i * sz)).take sz = en b ∧ ok W b) → ∃ l : List β, cs = l.flatMap en ∧ l.length = n ∧ ∀ x ∈ l, ok W x
  | 0, cs, h, _ => ⟨[], by rw [Nat.zero_mul] at h; rw [List.length_eq_zero_iff.1 h]; rfl, rfl, by simp⟩
  | n + 1, cs, h, hf => by
    obtain ⟨b, hb, hok⟩ := hf 0 (by omega)
    obtain ⟨l, h1, h2, h3⟩ := rows_cat (en := en) (ok := ok) (W := W) (sz := sz) n (cs.drop sz) (by rw [List.length_drop, h, Nat.succ_mul, Nat.add_sub_cancel]) (fun i hi => by
      obtain ⟨b', h1, h2⟩ := hf (i + 1) (by omega)
      refine ⟨b', ?_, h2⟩
      rw [List.drop_drop, ← h1, Nat.succ_mul, Nat.add_comm])
    refine ⟨b :: l, ?_, by simp [h2], fun x hx => ?_⟩
    · rw [List.flatMap_cons, ← h1, ← hb, Nat.zero_mul, List.drop_zero, List.take_append_drop]
    · rcases List.mem_cons.1 hx with rfl | hx
      · exact hok
      · exact h3 x hx
instance {P : Program} {t e : TypeId} {n sz : Nat} [h : ArrT P t n e sz] {β : Type} {en : β → List Value} {ok : World → β → Prop} [ho : Opn P e β en ok] :
    Opn P t (List β) (fun l => l.flatMap en) (fun W l => l.length = n ∧ ∀ x ∈ l, ok W x) := ⟨fun H enc W fuel cs x hx => by
  obtain ⟨xs, m, rfl, rfl, hl, hxl, hel⟩ := DataW.trod_array h.out hx
  rw [h.all] at hl
  obtain ⟨l, h1, h2, h3⟩ := rows_cat (en := en) (ok := ok) (W := W) n cs hl (fun i hi => by
    have := hel i hi
    rw [h.el, List.getElem?_eq_getElem (by omega)] at this
    obtain ⟨b, hb, hok⟩ := ho.out H enc W m _ _ this
    exact ⟨b, hb, hok⟩)
  exact ⟨l, h1, h2, h3⟩⟩
theorem okWide_arr {P : Program} {w : World} {base : Nat} {t : TypeId} {v : Value} {n : Nat} {e : TypeId} (ht : P.underlying t = some (.array n e)) (h : Value.okWide P w .any base t v) : ∃ cs, v = .agg cs ∧ cs.size = P.cellsOf t := by
  simp only [Value.okWide, ht] at h
  obtain ⟨cs, h1, h2, _⟩ := h
  exact ⟨cs, h1, h2⟩
instance {P : Program} {t e : TypeId} {n sz : Nat} [h : ArrT P t n e sz] {α : Type} {en : α → List Value} {ok : World → α → Prop} [ho : Opn P t α en ok] : Top P t α (fun a => .agg (en a).toArray) ok := ⟨fun H enc W base v d p hv hd' => by
  obtain ⟨fuel, hf⟩ := hd'
  obtain ⟨cs, rfl, _⟩ := okWide_arr h.out hv
  obtain ⟨a, ha, hok⟩ := ho.out H enc W fuel _ _ hf
  refine ⟨a, ?_, hok⟩
  have : cs = (en a).toArray := by
    apply Array.ext'
    simpa [Value.cells] using ha
  rw [this]⟩
/-- The same, of one world. -/
theorem law_contractW {P : Program} (hlo : laidOutB P = true) {k : FuncId} {f : Func} {s : ChangeSpec} {tb : TypeId} (hb : P.underlying tb = some .bool) (hr : f.resultTypes = #[tb]) (hv : s.vars = [])
    {ts : List TypeId} (hts : f.params.toList = ts) (hps : ∀ t ∈ ts, P.readableRec t = true ∧ t < P.types.size) {α : Type} {tv : α → List Value} {ok : World → α → Prop} [ho : Tops P ts α tv ok]
    (hs : ∀ (H : Type) (ds : List (DataW H)), ds.length = ts.length → s.fn H ds = { results := [.lit (.bool true)], args := ds })
    (W : World) (walk : ∀ (a : α), ok W a → Calls P k (tv a).toArray W fun e W' => e = .returned (.bool true) ∧ K0 W W')
    (H : Type) (enc : TypeId × Value → H) (base : Nat) (args : Array Value) (ds gs : List (DataW H)) (before : List MemPlace)
    (hval : ∀ (j : Nat) t v, f.params[j]? = some t → args[j]? = some v → Value.okWide P W .any base t v)
    (hW : DataW.Whole enc P f.params.toList s.vars false W args.toList ds gs before) :
    Calls P k args W fun e W' => ∃ v, e = .returned v ∧ s.post enc P f false true false false W args v W' := by
  have hW' := hW
  rw [hv] at hW
  obtain ⟨p, q, hA, hV, rfl, hfz, hnd⟩ := hW
  obtain ⟨rfl, rfl⟩ := trodVars_none hV
  have hlt : ∀ x ∈ p, x.block < W.heap.size := fun x hx => by have := hW'.lt x (by simp [hx]); simpa using this
  rw [hts] at hA
  obtain ⟨a, ha, hok⟩ := ho.out H enc W base args.toList ds p (fun j t v h1 h2 => hval j t v (by rw [← Array.getElem?_toList, hts]; exact h1) (by rw [← Array.getElem?_toList]; exact h2)) hA
  have hargs : args = (tv a).toArray := by apply Array.ext'; simpa using ha
  subst hargs
  refine (walk a hok).mono fun e W' ⟨he, hk⟩ => ?_
  have hbel := hk.below
  have hfn := hs H (ds ++ []) (by simpa using trodAll_length _ _ _ _ hA)
  refine ⟨_, he, ds, [], p ++ [], [], p, [], hW', ?_, ?_, ?_, hbel.frame _, fun h => by cases h⟩
  · rw [hfn, hr]; exact trodAll_cons_mk (shut_bool hb _) trodAll_mk0
  · rw [hfn, hts]; simpa using trodAll_stays hlo hbel ts _ ds p hps hlt hA
  · rw [hfn, hv]; exact rfl
/-- The same, of one row of arguments. -/
theorem law_contractA {P : Program} (hlo : laidOutB P = true) {k : FuncId} {f : Func} {s : ChangeSpec} {tb : TypeId} (hb : P.underlying tb = some .bool) (hr : f.resultTypes = #[tb]) (hv : s.vars = [])
    {ts : List TypeId} (hts : f.params.toList = ts) (hps : ∀ t ∈ ts, P.readableRec t = true ∧ t < P.types.size) {α : Type} {tv : α → List Value} {ok : World → α → Prop} [ho : Tops P ts α tv ok]
    (hs : ∀ (H : Type) (ds : List (DataW H)), ds.length = ts.length → s.fn H ds = { results := [.lit (.bool true)], args := ds })
    (W : World) (args : Array Value) (walk : ∀ (a : α), args = (tv a).toArray → ok W a → Calls P k (tv a).toArray W fun e W' => e = .returned (.bool true) ∧ K0 W W')
    (H : Type) (enc : TypeId × Value → H) (base : Nat) (ds gs : List (DataW H)) (before : List MemPlace)
    (hval : ∀ (j : Nat) t v, f.params[j]? = some t → args[j]? = some v → Value.okWide P W .any base t v)
    (hW : DataW.Whole enc P f.params.toList s.vars false W args.toList ds gs before) :
    Calls P k args W fun e W' => ∃ v, e = .returned v ∧ s.post enc P f false true false false W args v W' := by
  have hW' := hW
  rw [hv] at hW
  obtain ⟨p, q, hA, hV, rfl, hfz, hnd⟩ := hW
  obtain ⟨rfl, rfl⟩ := trodVars_none hV
  have hlt : ∀ x ∈ p, x.block < W.heap.size := fun x hx => by have := hW'.lt x (by simp [hx]); simpa using this
  rw [hts] at hA
  obtain ⟨a, ha, hok⟩ := ho.out H enc W base args.toList ds p (fun j t v h1 h2 => hval j t v (by rw [← Array.getElem?_toList, hts]; exact h1) (by rw [← Array.getElem?_toList]; exact h2)) hA
  have hargs : args = (tv a).toArray := by apply Array.ext'; simpa using ha
  subst hargs
  refine (walk a rfl hok).mono fun e W' ⟨he, hk⟩ => ?_
  have hbel := hk.below
  have hfn := hs H (ds ++ []) (by simpa using trodAll_length _ _ _ _ hA)
  refine ⟨_, he, ds, [], p ++ [], [], p, [], hW', ?_, ?_, ?_, hbel.frame _, fun h => by cases h⟩
  · rw [hfn, hr]; exact trodAll_cons_mk (shut_bool hb _) trodAll_mk0
  · rw [hfn, hts]; simpa using trodAll_stays hlo hbel ts _ ds p hps hlt hA
  · rw [hfn, hv]; exact rfl
end Go.Proofs.Ytlbegmpikggmlaa.H

set_option maxRecDepth 100000
namespace Go.Proofs.Ytlbegmpikggmlaa.H
instance : CelS Try.prog 1 1 := ⟨by kernel_rfl, by decide⟩
instance : CelS Try.prog 2 1 := ⟨by kernel_rfl, by decide⟩
instance : CelS Try.prog 3 1 := ⟨by kernel_rfl, by decide⟩
instance : CelS Try.prog 4 1 := ⟨by kernel_rfl, by decide⟩
instance : CelS Try.prog 5 1 := ⟨by kernel_rfl, by decide⟩
instance : CelS Try.prog 6 1 := ⟨by kernel_rfl, by decide⟩
instance : CelS Try.prog 7 4 := ⟨by kernel_rfl, by decide⟩
instance : StrT Try.prog 7 [2, 3, 4, 6] := ⟨_, Try.underlying7, rfl, by kernel_rfl, by kernel_rfl⟩
instance : CelS Try.prog 8 4 := ⟨by kernel_rfl, by decide⟩
instance : StrT Try.prog 8 [2, 3, 4, 6] := ⟨_, Try.underlying8, rfl, by kernel_rfl, by kernel_rfl⟩
instance : CelS Try.prog 9 1 := ⟨by kernel_rfl, by decide⟩
instance : CelS Try.prog 10 1 := ⟨by kernel_rfl, by decide⟩
instance : CelS Try.prog 11 1 := ⟨by kernel_rfl, by decide⟩
instance : CelS Try.prog 12 1 := ⟨by kernel_rfl, by decide⟩
instance : CelS Try.prog 13 2 := ⟨by kernel_rfl, by decide⟩
instance : StrT Try.prog 13 [9, 12] := ⟨_, Try.underlying13, rfl, by kernel_rfl, by kernel_rfl⟩
instance : CelS Try.prog 14 2 := ⟨by kernel_rfl, by decide⟩
instance : StrT Try.prog 14 [9, 12] := ⟨_, Try.underlying14, rfl, by kernel_rfl, by kernel_rfl⟩
instance : CelS Try.prog 15 1 := ⟨by kernel_rfl, by decide⟩
instance : CelS Try.prog 16 1 := ⟨by kernel_rfl, by decide⟩
instance : CelS Try.prog 17 1 := ⟨by kernel_rfl, by decide⟩
instance : CelS Try.prog 18 1 := ⟨by kernel_rfl, by decide⟩
instance : StrT Try.prog 18 [17] := ⟨_, Try.underlying18, rfl, by kernel_rfl, by kernel_rfl⟩
instance : CelS Try.prog 19 1 := ⟨by kernel_rfl, by decide⟩
instance : StrT Try.prog 19 [17] := ⟨_, Try.underlying19, rfl, by kernel_rfl, by kernel_rfl⟩
instance : CelS Try.prog 20 1 := ⟨by kernel_rfl, by decide⟩
instance : CelS Try.prog 21 1 := ⟨by kernel_rfl, by decide⟩
instance : CelS Try.prog 22 1 := ⟨by kernel_rfl, by decide⟩
instance : CelS Try.prog 23 5 := ⟨by kernel_rfl, by decide⟩
instance : StrT Try.prog 23 [5, 5, 22, 5, 5] := ⟨_, Try.underlying23, rfl, by kernel_rfl, by kernel_rfl⟩
instance : CelS Try.prog 24 5 := ⟨by kernel_rfl, by decide⟩
instance : StrT Try.prog 24 [5, 5, 22, 5, 5] := ⟨_, Try.underlying24, rfl, by kernel_rfl, by kernel_rfl⟩
instance : CelS Try.prog 25 1 := ⟨by kernel_rfl, by decide⟩
instance : CelS Try.prog 26 1 := ⟨by kernel_rfl, by decide⟩
instance : CelS Try.prog 27 1 := ⟨by kernel_rfl, by decide⟩
instance : CelS Try.prog 28 1 := ⟨by kernel_rfl, by decide⟩
instance : CelS Try.prog 29 1 := ⟨by kernel_rfl, by decide⟩
instance : CelS Try.prog 30 1 := ⟨by kernel_rfl, by decide⟩
instance : CelS Try.prog 32 1 := ⟨by kernel_rfl, by decide⟩
instance : CelS Try.prog 33 1 := ⟨by kernel_rfl, by decide⟩
instance : CelS Try.prog 34 1 := ⟨by kernel_rfl, by decide⟩
instance : CelS Try.prog 35 2 := ⟨by kernel_rfl, by decide⟩
instance : StrT Try.prog 35 [3, 25] := ⟨_, Try.underlying35, rfl, by kernel_rfl, by kernel_rfl⟩
instance : CelS Try.prog 36 2 := ⟨by kernel_rfl, by decide⟩
instance : StrT Try.prog 36 [3, 25] := ⟨_, Try.underlying36, rfl, by kernel_rfl, by kernel_rfl⟩
instance : CelS Try.prog 37 1 := ⟨by kernel_rfl, by decide⟩
instance : CelS Try.prog 38 1 := ⟨by kernel_rfl, by decide⟩
instance : CelS Try.prog 39 4 := ⟨by kernel_rfl, by decide⟩
instance : StrT Try.prog 39 [3, 3, 3, 38] := ⟨_, Try.underlying39, rfl, by kernel_rfl, by kernel_rfl⟩
instance : CelS Try.prog 40 4 := ⟨by kernel_rfl, by decide⟩
instance : StrT Try.prog 40 [3, 3, 3, 38] := ⟨_, Try.underlying40, rfl, by kernel_rfl, by kernel_rfl⟩
instance : CelS Try.prog 41 32 := ⟨by kernel_rfl, by decide⟩
instance : ArrT Try.prog 41 32 5 1 := ⟨Try.underlying41, by kernel_rfl, by kernel_rfl⟩
instance : CelS Try.prog 42 32 := ⟨by kernel_rfl, by decide⟩
instance : ArrT Try.prog 42 32 5 1 := ⟨Try.underlying42, by kernel_rfl, by kernel_rfl⟩
instance : CelS Try.prog 43 1 := ⟨by kernel_rfl, by decide⟩
instance : CelS Try.prog 44 39 := ⟨by kernel_rfl, by decide⟩
instance : StrT Try.prog 44 [9, 40, 42, 3, 43] := ⟨_, Try.underlying44, rfl, by kernel_rfl, by kernel_rfl⟩
instance : CelS Try.prog 45 39 := ⟨by kernel_rfl, by decide⟩
instance : StrT Try.prog 45 [9, 40, 42, 3, 43] := ⟨_, Try.underlying45, rfl, by kernel_rfl, by kernel_rfl⟩
instance : CelS Try.prog 46 7 := ⟨by kernel_rfl, by decide⟩
instance : StrT Try.prog 46 [9, 40, 3, 3] := ⟨_, Try.underlying46, rfl, by kernel_rfl, by kernel_rfl⟩
instance : CelS Try.prog 47 7 := ⟨by kernel_rfl, by decide⟩
instance : StrT Try.prog 47 [9, 40, 3, 3] := ⟨_, Try.underlying47, rfl, by kernel_rfl, by kernel_rfl⟩
instance : CelS Try.prog 48 1 := ⟨by kernel_rfl, by decide⟩
instance : CelS Try.prog 49 1 := ⟨by kernel_rfl, by decide⟩
instance : CelS Try.prog 50 2 := ⟨by kernel_rfl, by decide⟩
instance : StrT Try.prog 50 [3, 3] := ⟨_, Try.underlying50, rfl, by kernel_rfl, by kernel_rfl⟩
instance : CelS Try.prog 51 2 := ⟨by kernel_rfl, by decide⟩
instance : StrT Try.prog 51 [3, 3] := ⟨_, Try.underlying51, rfl, by kernel_rfl, by kernel_rfl⟩
instance : CelS Try.prog 52 1 := ⟨by kernel_rfl, by decide⟩
instance : CelS Try.prog 53 1 := ⟨by kernel_rfl, by decide⟩
instance : CelS Try.prog 54 1 := ⟨by kernel_rfl, by decide⟩
instance : CelS Try.prog 55 4 := ⟨by kernel_rfl, by decide⟩
instance : StrT Try.prog 55 [29, 30, 53, 3] := ⟨_, Try.underlying55, rfl, by kernel_rfl, by kernel_rfl⟩
instance : CelS Try.prog 56 4 := ⟨by kernel_rfl, by decide⟩
instance : StrT Try.prog 56 [29, 30, 53, 3] := ⟨_, Try.underlying56, rfl, by kernel_rfl, by kernel_rfl⟩
instance : CelS Try.prog 58 1 := ⟨by kernel_rfl, by decide⟩
instance : CelS Try.prog 59 1 := ⟨by kernel_rfl, by decide⟩
instance : CelS Try.prog 60 1 := ⟨by kernel_rfl, by decide⟩
instance : CelS Try.prog 61 1 := ⟨by kernel_rfl, by decide⟩
instance : CelS Try.prog 62 1 := ⟨by kernel_rfl, by decide⟩
instance : CelS Try.prog 63 7 := ⟨by kernel_rfl, by decide⟩
instance : StrT Try.prog 63 [5, 5, 5, 3, 3, 51] := ⟨_, Try.underlying63, rfl, by kernel_rfl, by kernel_rfl⟩
instance : CelS Try.prog 64 7 := ⟨by kernel_rfl, by decide⟩
instance : StrT Try.prog 64 [5, 5, 5, 3, 3, 51] := ⟨_, Try.underlying64, rfl, by kernel_rfl, by kernel_rfl⟩
instance : CelS Try.prog 65 1 := ⟨by kernel_rfl, by decide⟩
instance : CelS Try.prog 66 1 := ⟨by kernel_rfl, by decide⟩
instance : CelS Try.prog 67 1 := ⟨by kernel_rfl, by decide⟩
instance : CelS Try.prog 68 1 := ⟨by kernel_rfl, by decide⟩
instance : CelS Try.prog 70 1 := ⟨by kernel_rfl, by decide⟩
instance : CelS Try.prog 71 1 := ⟨by kernel_rfl, by decide⟩
instance : CelS Try.prog 72 1 := ⟨by kernel_rfl, by decide⟩
instance : CelS Try.prog 73 1 := ⟨by kernel_rfl, by decide⟩
instance : CelS Try.prog 74 1 := ⟨by kernel_rfl, by decide⟩
instance : CelS Try.prog 75 1 := ⟨by kernel_rfl, by decide⟩
instance : CelS Try.prog 76 1 := ⟨by kernel_rfl, by decide⟩
instance : CelS Try.prog 77 2 := ⟨by kernel_rfl, by decide⟩
instance : StrT Try.prog 77 [4, 76] := ⟨_, Try.underlying77, rfl, by kernel_rfl, by kernel_rfl⟩
instance : CelS Try.prog 78 2 := ⟨by kernel_rfl, by decide⟩
instance : StrT Try.prog 78 [4, 76] := ⟨_, Try.underlying78, rfl, by kernel_rfl, by kernel_rfl⟩
instance : CelS Try.prog 79 4 := ⟨by kernel_rfl, by decide⟩
instance : StrT Try.prog 79 [9, 78, 9] := ⟨_, Try.underlying79, rfl, by kernel_rfl, by kernel_rfl⟩
instance : CelS Try.prog 80 4 := ⟨by kernel_rfl, by decide⟩
instance : StrT Try.prog 80 [9, 78, 9] := ⟨_, Try.underlying80, rfl, by kernel_rfl, by kernel_rfl⟩
instance : CelS Try.prog 82 1 := ⟨by kernel_rfl, by decide⟩
instance : CelS Try.prog 83 1 := ⟨by kernel_rfl, by decide⟩
instance : CelS Try.prog 84 1 := ⟨by kernel_rfl, by decide⟩
instance : CelS Try.prog 85 4 := ⟨by kernel_rfl, by decide⟩
instance : StrT Try.prog 85 [29, 30, 53, 3] := ⟨_, Try.underlying85, rfl, by kernel_rfl, by kernel_rfl⟩
instance : CelS Try.prog 86 4 := ⟨by kernel_rfl, by decide⟩
instance : StrT Try.prog 86 [29, 30, 53, 3] := ⟨_, Try.underlying86, rfl, by kernel_rfl, by kernel_rfl⟩
instance : CelS Try.prog 87 1 := ⟨by kernel_rfl, by decide⟩
instance : CelS Try.prog 88 1 := ⟨by kernel_rfl, by decide⟩
instance : CelS Try.prog 89 1 := ⟨by kernel_rfl, by decide⟩
instance : CelS Try.prog 90 1 := ⟨by kernel_rfl, by decide⟩
instance : CelS Try.prog 91 1 := ⟨by kernel_rfl, by decide⟩
instance : CelS Try.prog 92 1 := ⟨by kernel_rfl, by decide⟩
instance : CelS Try.prog 93 1 := ⟨by kernel_rfl, by decide⟩
instance : CelS Try.prog 95 1 := ⟨by kernel_rfl, by decide⟩
instance : CelS Try.prog 97 1 := ⟨by kernel_rfl, by decide⟩
instance : CelS Try.prog 98 1 := ⟨by kernel_rfl, by decide⟩
instance : CelS Try.prog 99 1 := ⟨by kernel_rfl, by decide⟩
instance : CelS Try.prog 100 3 := ⟨by kernel_rfl, by decide⟩
instance : StrT Try.prog 100 [9, 4, 25] := ⟨_, Try.underlying100, rfl, by kernel_rfl, by kernel_rfl⟩
instance : CelS Try.prog 101 3 := ⟨by kernel_rfl, by decide⟩
instance : StrT Try.prog 101 [9, 4, 25] := ⟨_, Try.underlying101, rfl, by kernel_rfl, by kernel_rfl⟩
instance : CelS Try.prog 102 1 := ⟨by kernel_rfl, by decide⟩
instance : CelS Try.prog 103 1 := ⟨by kernel_rfl, by decide⟩
instance : CelS Try.prog 104 1 := ⟨by kernel_rfl, by decide⟩
instance : CelS Try.prog 105 1 := ⟨by kernel_rfl, by decide⟩
instance : CelS Try.prog 106 1 := ⟨by kernel_rfl, by decide⟩
instance : CelS Try.prog 108 1 := ⟨by kernel_rfl, by decide⟩
instance : CelS Try.prog 109 1 := ⟨by kernel_rfl, by decide⟩
instance : CelS Try.prog 110 1 := ⟨by kernel_rfl, by decide⟩
instance : CelS Try.prog 111 1 := ⟨by kernel_rfl, by decide⟩
instance : CelS Try.prog 112 1 := ⟨by kernel_rfl, by decide⟩
instance : CelS Try.prog 113 1 := ⟨by kernel_rfl, by decide⟩
instance : CelS Try.prog 114 1 := ⟨by kernel_rfl, by decide⟩
instance : CelS Try.prog 115 1 := ⟨by kernel_rfl, by decide⟩
instance : CelS Try.prog 116 1 := ⟨by kernel_rfl, by decide⟩
instance : CelS Try.prog 117 1 := ⟨by kernel_rfl, by decide⟩
instance : CelS Try.prog 118 1 := ⟨by kernel_rfl, by decide⟩
instance : CelS Try.prog 119 1 := ⟨by kernel_rfl, by decide⟩
instance : CelS Try.prog 120 1 := ⟨by kernel_rfl, by decide⟩
instance : CelS Try.prog 121 8 := ⟨by kernel_rfl, by decide⟩
instance : ArrT Try.prog 121 8 120 1 := ⟨Try.underlying121, by kernel_rfl, by kernel_rfl⟩
instance : CelS Try.prog 122 64 := ⟨by kernel_rfl, by decide⟩
instance : ArrT Try.prog 122 64 120 1 := ⟨Try.underlying122, by kernel_rfl, by kernel_rfl⟩
instance : CelS Try.prog 123 1 := ⟨by kernel_rfl, by decide⟩
instance : CelS Try.prog 124 1 := ⟨by kernel_rfl, by decide⟩
instance : CelS Try.prog 125 5 := ⟨by kernel_rfl, by decide⟩
instance : StrT Try.prog 125 [9, 40] := ⟨_, Try.underlying125, rfl, by kernel_rfl, by kernel_rfl⟩
instance : CelS Try.prog 126 5 := ⟨by kernel_rfl, by decide⟩
instance : StrT Try.prog 126 [9, 40] := ⟨_, Try.underlying126, rfl, by kernel_rfl, by kernel_rfl⟩
instance : CelS Try.prog 127 1 := ⟨by kernel_rfl, by decide⟩
instance : CelS Try.prog 128 1 := ⟨by kernel_rfl, by decide⟩
instance : CelS Try.prog 129 1 := ⟨by kernel_rfl, by decide⟩
instance : CelS Try.prog 130 1 := ⟨by kernel_rfl, by decide⟩
instance : CelS Try.prog 131 1 := ⟨by kernel_rfl, by decide⟩
instance : CelS Try.prog 132 1 := ⟨by kernel_rfl, by decide⟩
instance : CelS Try.prog 133 1 := ⟨by kernel_rfl, by decide⟩
instance : CelS Try.prog 134 1 := ⟨by kernel_rfl, by decide⟩
instance : CelS Try.prog 135 1 := ⟨by kernel_rfl, by decide⟩
instance : CelS Try.prog 136 4 := ⟨by kernel_rfl, by decide⟩
instance : StrT Try.prog 136 [17, 17, 17, 9] := ⟨_, Try.underlying136, rfl, by kernel_rfl, by kernel_rfl⟩
instance : CelS Try.prog 137 4 := ⟨by kernel_rfl, by decide⟩
instance : StrT Try.prog 137 [17, 17, 17, 9] := ⟨_, Try.underlying137, rfl, by kernel_rfl, by kernel_rfl⟩
instance : ArrT Try.prog 138 0 16 1 := ⟨Try.underlying138, by kernel_rfl, by kernel_rfl⟩
instance : StrT Try.prog 139 [138] := ⟨_, Try.underlying139, rfl, by kernel_rfl, by kernel_rfl⟩
instance : StrT Try.prog 140 [138] := ⟨_, Try.underlying140, rfl, by kernel_rfl, by kernel_rfl⟩
instance : CelS Try.prog 141 1 := ⟨by kernel_rfl, by decide⟩
instance : CelS Try.prog 142 1 := ⟨by kernel_rfl, by decide⟩
instance : CelS Try.prog 143 1 := ⟨by kernel_rfl, by decide⟩
instance : CelS Try.prog 144 1 := ⟨by kernel_rfl, by decide⟩
instance : CelS Try.prog 145 1 := ⟨by kernel_rfl, by decide⟩
instance : CelS Try.prog 146 1 := ⟨by kernel_rfl, by decide⟩
instance : CelS Try.prog 147 11 := ⟨by kernel_rfl, by decide⟩
instance : StrT Try.prog 147 [12, 12, 120, 141, 5, 5, 142, 143, 144, 145, 146] := ⟨_, Try.underlying147, rfl, by kernel_rfl, by kernel_rfl⟩
instance : CelS Try.prog 148 11 := ⟨by kernel_rfl, by decide⟩
instance : StrT Try.prog 148 [12, 12, 120, 141, 5, 5, 142, 143, 144, 145, 146] := ⟨_, Try.underlying148, rfl, by kernel_rfl, by kernel_rfl⟩
instance : CelS Try.prog 149 1 := ⟨by kernel_rfl, by decide⟩
end Go.Proofs.Ytlbegmpikggmlaa.H

namespace Go.Proofs.Ytlbegmpikggmlaa.Ne
open Go.RowKit H S Ve Sp
def openF (p : Int × Int × Unit) : Int × Int := (p.1, p.2.1)
theorem openF_cells (l : List (Int × Int × Unit)) : (l.map openF).flatMap fltC = l.flatMap fun p => [Value.int .i64 p.1] ++ ([Value.int .i64 p.2.1] ++ []) := by rw [List.flatMap_map]; rfl
abbrev RawR := UInt8 × UInt8 × (Value × List Int) × UInt8 × UInt8 × Unit
def openR (p : RawR) : Rw × Value := (⟨p.1, p.2.1, p.2.2.1.2.map Int.toNat, p.2.2.2.1, p.2.2.2.2.1⟩, p.2.2.1.1)
theorem openR_cells (l : List RawR) : (l.map openR).flatMap rwC = l.flatMap fun p => [vb p.1] ++ ([vb p.2.1] ++ ([p.2.2.1.1] ++ ([vb p.2.2.2.1] ++ ([vb p.2.2.2.2.1] ++ [])))) := by rw [List.flatMap_map]; rfl
theorem u16_open (l : List Int) (h : ∀ n ∈ l, IntKind.u16.min ≤ n ∧ n ≤ IntKind.u16.max) : u16L (l.map Int.toNat) = (l.flatMap fun n => [Value.int .u16 n]) ∧ ∀ n ∈ l.map Int.toNat, n < 65536 := by
  have e1 : IntKind.u16.min = 0 := rfl
  have e2 : IntKind.u16.max = 65535 := rfl
  refine ⟨?_, fun n hn => ?_⟩
  · induction l with
    | nil => rfl
    | cons x l ih =>
      have hx := h x (List.mem_cons_self ..)
      have h1 := ih fun n hn => h n (List.mem_cons_of_mem _ hn)
      rw [u16L] at h1 ⊢
      rw [List.map_cons, List.map_cons, List.flatMap_cons, h1, Int.toNat_of_nonneg (by omega)]
      rfl
  · obtain ⟨m, hm, rfl⟩ := List.mem_map.1 hn
    have := h m hm
    omega
theorem openR_in {W : World} (p : RawR) (h : Sl W 1 p.2.2.1.1 p.2.2.1.2.length (p.2.2.1.2.flatMap fun n => [Value.int .u16 n])) (h2 : ∀ n ∈ p.2.2.1.2, IntKind.u16.min ≤ n ∧ n ≤ IntKind.u16.max) : srK.D W (openR p) ∧ ∀ n ∈ (openR p).1.needs, n < 65536 := by
  obtain ⟨e1, e2⟩ := u16_open _ h2
  refine ⟨?_, e2⟩
  show Sl W 1 p.2.2.1.1 (p.2.2.1.2.map Int.toNat).length (u16L (p.2.2.1.2.map Int.toNat))
  rw [e1, List.length_map]
  exact h
end Go.Proofs.Ytlbegmpikggmlaa.Ne

namespace Go.Proofs.Ytlbegmpikggmlaa.netFaults
open Go.ChangeShapes Go.WideShapes Go.ChangeAt Go.RowKit
set_option linter.unusedVariables false

theorem own : ownKnob Try.prog.godebug = none := by kernel_rfl
theorem types : ∀ t ∈ ([24, 5, 3, 5, 5] : List TypeId), Try.prog.readableRec t = true ∧ t < Try.prog.types.size := by
  intro t ht
  simp only [List.mem_cons, List.not_mem_nil, or_false] at ht
  rcases ht with rfl | rfl | rfl | rfl | rfl <;> exact ⟨by kernel_rfl, of_decide_eq_true (by kernel_rfl)⟩

set_option maxRecDepth 100000 in
theorem lifted (os : Os) (started : os.Started) (H : Type) (enc : TypeId × Value → H) :
    ReturnsInHanded {} Try.checked os 4 .any (Rows.netFaultsSpec.pre6 enc Try.prog Try.f4 Rows.netFaultsRow.domain false) (Rows.netFaultsSpec.post enc Try.prog Try.f4 false true false false) := by
  refine returnsInHanded_of_change (C := Try.checked) own started (by kernel_rfl) Try.func4
    (ChangeSpec.witness6 (enc := enc) (C := Try.checked) false ⟨#[], #[Value.agg #[.int .u8 0, .int .u8 0, .slice none 0 0, .int .u8 0, .int .u8 0], .int .u8 0, .int .i64 0, .int .u8 0, .int .u8 0], []⟩ 8 (by kernel_rfl) (by kernel_rfl) (by kernel_rfl) (by kernel_rfl)) ?_
  intro W base args ds gs before hval hW _ _
  exact Go.Proofs.Ytlbegmpikggmlaa.H.law_contract (P := Try.prog) (k := 4) (f := Try.f4) (s := Rows.netFaultsSpec) (tb := 4) (by kernel_rfl) Try.underlying4 rfl rfl (ts := [24, 5, 3, 5, 5]) rfl types (fun H ds h => match ds, h with | [d1, d2, d3, d4, d5], _ => rfl)
    (fun a W h => by
  obtain ⟨p, kd, nn, of, le, ⟨⟩⟩ := a
  obtain ⟨k0, _⟩ := h
  have hx := Ne.openR_in p k0.2.2.1.1 k0.2.2.1.2
  exact (Ne.netFaults (Ne.openR p).1 (Ne.openR p).2 kd of le nn W hx.1 hx.2).mono fun _ _ h => ⟨h.2, h.1⟩)
    H enc W base args ds gs before hval hW

theorem over : Rows.netFaultsRow.holds Try.pinned (OpenSpec.ofChange Rows.netFaultsSpec) :=
  OpenClaim.holds_of_wide 4 Try.f4 rfl rfl rfl rfl rfl rfl rfl ⟨rfl, rfl, rfl, rfl, rfl⟩ rfl rfl rfl rfl rfl (by kernel_rfl) Try.func4 (by kernel_rfl)
    (of_decide_eq_true (by kernel_rfl)) (by unfold Func.isWrapper; first | (rw [if_pos (by decide +kernel)]; kernel_rfl) | (rw [if_neg (by decide +kernel)]; exact ⟨rfl, rfl⟩))
    (fun os started H enc _ => lifted os started H enc)

theorem proved : Rows.NetFaultsSaid := over
#print axioms proved
end Go.Proofs.Ytlbegmpikggmlaa.netFaults

