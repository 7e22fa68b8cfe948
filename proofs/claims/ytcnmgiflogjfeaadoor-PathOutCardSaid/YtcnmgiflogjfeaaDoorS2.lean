/-
  strings.LastIndexByte and strings.Split at one byte.
-/
import Derived.Test.YtcnmgiflogjfeaaDoorS1
namespace Go.Proofs.YtcnmgiflogjfeaaDoor.S
open Go.RowKit H
attribute [local irreducible] H.CL H.RW H.CW H.Yd H.thenK H.blockQ Go.Calls

def lastIdxA (c : UInt8) (l : List UInt8) : Nat → Int
  | 0 => -1
  | n + 1 => if l.getD n 0 = c then (n : Int) else lastIdxA c l n
def lastIdx (c : UInt8) (l : List UInt8) : Int := lastIdxA c l l.length
theorem lastIdxA_bd (c : UInt8) (l : List UInt8) : ∀ n, -1 ≤ lastIdxA c l n ∧ lastIdxA c l n < (n : Int) := by
  intro n
  induction n with
  | zero => simp [lastIdxA]
  | succ n ih => unfold lastIdxA; split <;> omega
theorem lastIdx_bd (c : UInt8) (l : List UInt8) : -1 ≤ lastIdx c l ∧ lastIdx c l < (l.length : Int) := lastIdxA_bd c l _

theorem u8_eq {a b : UInt8} (h : (a.toNat : Int) = (b.toNat : Int)) : a = b := UInt8.toNat_inj.1 (by omega)

set_option maxHeartbeats 400000 in
theorem balgLastIndexByte (l : List UInt8) (c : UInt8) (hl : l.length ≤ 4000000000) (w : World) : Calls Tryd.prog 33 #[vs l, vb c] w fun e w' => w = w' ∧ e = .returned (.int .i64 (lastIdx c l)) := by
  refine H.enter Tryd.func33 Tryd.ntmps33 rfl rfl ?_; dsimp only [H.args]
  repeat' (first | (refine CL.seq ?_) | (refine CL.region ?_) | (refine CL.skip ?_) | (refine CL.condP rfl (fun _ => ?_) (fun _ => ?_) <;> try (exfalso; omega)) | (refine CL.condT rfl ?_) | (refine CL.condF rfl ?_) | (refine CL.cond rfl (fun _ => ?_) (fun _ => ?_)) | (refine CL.block ?_) | (refine CL.exit ?_) | (refine Ex.then ?_) | (refine Ex.hit ?_) | (refine Ex.miss rfl ?_) | (refine CL.ret ?_) | (refine Rt.then ?_) | (refine Rt.block ?_) | (refine Pn.then ?_) | (refine Pn.block ?_) | (refine CL.done ?_) | (refine Nm.block ?_) | (refine Nm.then ?_) | (refine Gt.nil ?_; refine RW.nilw [0, 1, 4, 5, 10, 17] ?_; dsimp only [H.keep, H.look, H.Fr.put, Nat.beq]) | (refine Gt.move ?_; refine RW.y (Y.move rfl) rfl ?_) | (refine Gt.assign ?_; refine RW.y (Y.assign rfl) rfl ?_) | (refine Gt.sub ?_; refine RW.y (Y.sub64 rfl rfl (by omega) (by omega)) rfl ?_) | (refine Gt.len ?_; refine RW.y (Y.lens rfl) rfl ?_) | (refine Gt.geq ?_; refine RW.y (Y.geq rfl rfl) rfl ?_) | (refine Gt.index ?_; refine RW.y (Y.idxs rfl rfl (by omega) (by omega)) rfl ?_) | (refine Gt.eql ?_; refine RW.y (Y.eqi rfl rfl) rfl ?_))
  refine CL.loopS [0, 1, 5] (fun m vals wr => ∃ i : Nat, vals = [vs l, vb c, .int .i64 ((i : Int) - 1)] ∧ m = i ∧ i ≤ l.length ∧ lastIdx c l = lastIdxA c l i ∧ wr = w) l.length ⟨_, rfl, l.length, rfl, rfl, Nat.le_refl _, rfl, rfl⟩ ?_
  rintro m vals wr ⟨i, rfl, rfl, hil, hla, rfl⟩
  dsimp only [List.zip, List.zipWith]
  rcases Nat.eq_zero_or_pos m with h0 | h0
  · subst h0
    repeat' (first | (refine CL.seq ?_) | (refine CL.region ?_) | (refine CL.skip ?_) | (refine CL.condP rfl (fun _ => ?_) (fun _ => ?_) <;> try (exfalso; omega)) | (refine CL.condT rfl ?_) | (refine CL.condF rfl ?_) | (refine CL.cond rfl (fun _ => ?_) (fun _ => ?_)) | (refine CL.block ?_) | (refine CL.exit ?_) | (refine Ex.then ?_) | (refine Ex.hit ?_) | (refine Ex.miss rfl ?_) | (refine CL.ret ?_) | (refine Rt.then ?_) | (refine Rt.block ?_) | (refine Pn.then ?_) | (refine Pn.block ?_) | (refine CL.done ?_) | (refine Nm.block ?_) | (refine Nm.then ?_) | (refine Gt.nil ?_; refine RW.nilw [0, 1, 4, 5, 10, 17] ?_; dsimp only [H.keep, H.look, H.Fr.put, Nat.beq]) | (refine Gt.move ?_; refine RW.y (Y.move rfl) rfl ?_) | (refine Gt.assign ?_; refine RW.y (Y.assign rfl) rfl ?_) | (refine Gt.sub ?_; refine RW.y (Y.sub64 rfl rfl (by omega) (by omega)) rfl ?_) | (refine Gt.len ?_; refine RW.y (Y.lens rfl) rfl ?_) | (refine Gt.geq ?_; refine RW.y (Y.geq rfl rfl) rfl ?_) | (refine Gt.index ?_; refine RW.y (Y.idxs rfl rfl (by omega) (by omega)) rfl ?_) | (refine Gt.eql ?_; refine RW.y (Y.eqi rfl rfl) rfl ?_))
    exact FQ.one rfl rfl rfl ⟨rfl, by rw [hla]; rfl⟩
  · obtain ⟨n, rfl⟩ : ∃ n, m = n + 1 := ⟨m - 1, by omega⟩
    have hn : (((n + 1 : Nat) : Int) - 1).toNat = n := by omega
    repeat' (first | (refine CL.seq ?_) | (refine CL.region ?_) | (refine CL.skip ?_) | (refine CL.condP rfl (fun _ => ?_) (fun _ => ?_) <;> try (exfalso; omega)) | (refine CL.condT rfl ?_) | (refine CL.condF rfl ?_) | (refine CL.cond rfl (fun _ => ?_) (fun _ => ?_)) | (refine CL.block ?_) | (refine CL.exit ?_) | (refine Ex.then ?_) | (refine Ex.hit ?_) | (refine Ex.miss rfl ?_) | (refine CL.ret ?_) | (refine Rt.then ?_) | (refine Rt.block ?_) | (refine Pn.then ?_) | (refine Pn.block ?_) | (refine CL.done ?_) | (refine Nm.block ?_) | (refine Nm.then ?_) | (refine Gt.nil ?_; refine RW.nilw [0, 1, 4, 5, 10, 17] ?_; dsimp only [H.keep, H.look, H.Fr.put, Nat.beq]) | (refine Gt.move ?_; refine RW.y (Y.move rfl) rfl ?_) | (refine Gt.assign ?_; refine RW.y (Y.assign rfl) rfl ?_) | (refine Gt.sub ?_; refine RW.y (Y.sub64 rfl rfl (by omega) (by omega)) rfl ?_) | (refine Gt.len ?_; refine RW.y (Y.lens rfl) rfl ?_) | (refine Gt.geq ?_; refine RW.y (Y.geq rfl rfl) rfl ?_) | (refine Gt.index ?_; refine RW.y (Y.idxs rfl rfl (by omega) (by omega)) rfl ?_) | (refine Gt.eql ?_; refine RW.y (Y.eqi rfl rfl) rfl ?_))
    · rename_i h
      rw [hn] at h
      refine FQ.one rfl rfl rfl ⟨rfl, ?_⟩
      rw [hla, lastIdxA, if_pos (u8_eq h)]
      congr 2; omega
    · rename_i h
      rw [hn] at h
      refine ⟨n, _, rfl, rfl, rfl, by omega, n, by simp, rfl, by omega, ?_, rfl⟩
      rw [hla, lastIdxA, if_neg (fun c => h (by rw [c]))]
theorem lastIndexByte (l : List UInt8) (c : UInt8) (hl : l.length ≤ 4000000000) (w : World) : Calls Tryd.prog 26 #[vs l, vb c] w fun e w' => w = w' ∧ e = .returned (.int .i64 (lastIdx c l)) := by
  refine H.enter Tryd.func26 Tryd.ntmps26 rfl rfl ?_; dsimp only [H.args]
  repeat' (first | (refine CL.seq ?_) | (refine CL.region ?_) | (refine CL.skip ?_) | (refine CL.condP rfl (fun _ => ?_) (fun _ => ?_) <;> try (exfalso; omega)) | (refine CL.condT rfl ?_) | (refine CL.condF rfl ?_) | (refine CL.cond rfl (fun _ => ?_) (fun _ => ?_)) | (refine CL.block ?_) | (refine CL.exit ?_) | (refine Ex.then ?_) | (refine Ex.hit ?_) | (refine Ex.miss rfl ?_) | (refine CL.ret ?_) | (refine Rt.then ?_) | (refine Rt.block ?_) | (refine Pn.then ?_) | (refine Pn.block ?_) | (refine CL.done ?_) | (refine Nm.block ?_) | (refine Nm.then ?_) | (refine Gt.nil ?_; refine RW.nilw [0, 1, 4] ?_; dsimp only [H.keep, H.look, H.Fr.put, Nat.beq]) | (refine Gt.assign ?_; refine RW.y (Y.assign rfl) rfl ?_) | (refine Gt.move ?_; refine RW.y (Y.move rfl) rfl ?_))
  refine RW.fn rfl rfl ((balgLastIndexByte l c hl w).mono ?_)
  rintro e w1 ⟨rfl, rfl⟩
  repeat' (first | (refine CL.seq ?_) | (refine CL.region ?_) | (refine CL.skip ?_) | (refine CL.condP rfl (fun _ => ?_) (fun _ => ?_) <;> try (exfalso; omega)) | (refine CL.condT rfl ?_) | (refine CL.condF rfl ?_) | (refine CL.cond rfl (fun _ => ?_) (fun _ => ?_)) | (refine CL.block ?_) | (refine CL.exit ?_) | (refine Ex.then ?_) | (refine Ex.hit ?_) | (refine Ex.miss rfl ?_) | (refine CL.ret ?_) | (refine Rt.then ?_) | (refine Rt.block ?_) | (refine Pn.then ?_) | (refine Pn.block ?_) | (refine CL.done ?_) | (refine Nm.block ?_) | (refine Nm.then ?_) | (refine Gt.nil ?_; refine RW.nilw [0, 1, 4] ?_; dsimp only [H.keep, H.look, H.Fr.put, Nat.beq]) | (refine Gt.assign ?_; refine RW.y (Y.assign rfl) rfl ?_) | (refine Gt.move ?_; refine RW.y (Y.move rfl) rfl ?_))
  exact FQ.one rfl rfl rfl ⟨rfl, rfl⟩
end Go.Proofs.YtcnmgiflogjfeaaDoor.S
