/-
  What ends in a panic is caught; the exported reading methods.
-/
import Derived.Test.YtblbibdjddmfiaaCo5
namespace Go.Proofs.Ytblbibdjddmfiaa.Co
open Go.RowKit H
attribute [local irreducible] H.CL H.RW H.CW H.Yd H.thenK H.blockQ Go.Calls

/-- the post of a deferred call that leaves its caller's frames as they are -/
def SQ (R : Ending → World → Prop) : Post
  | .normal, f, w | .ret, f, w => f.ds = [] ∧ R (.returned (.tuple #[])) w
  | _, _, _ => False

theorem catch_idle (p q : Addr) (w : World) : CallsD Try.prog 46 #[.pointer (some p), .pointer (some q)] .returning w fun e u' w' => e = .returned (.tuple #[]) ∧ u' = .returning ∧ w = w' := by
  refine callsD_of_wpS Try.func46 rfl fun c₀ cs hu => ?_
  apply wpS_seq
  apply wpS_region
  simp [wpOpsS, go_sem, recoverD, hu, Try.ntmps46, Exit.thenS]
  refine wpS_cl (Q := SQ fun e w' => e = .returned (.tuple #[]) ∧ w = w') (f := ⟨19, [], [(2, .nilIface)]⟩) ?_ (Ag.of (by simp) rfl (by simp)) ?_
  · skip
    repeat' (first | (refine CL.seq ?_) | (refine CL.region ?_) | (refine CL.skip ?_) | (refine CL.condP rfl (fun _ => ?_) (fun _ => ?_) <;> try (exfalso; omega)) | (refine CL.condT rfl ?_) | (refine CL.condF rfl ?_) | (refine CL.cond rfl (fun _ => ?_) (fun _ => ?_)) | (refine CL.block ?_) | (refine CL.exit ?_) | (refine Ex.then ?_) | (refine Ex.hit ?_) | (refine Ex.miss rfl ?_) | (refine CL.ret ?_) | (refine Rt.then ?_) | (refine Rt.block ?_) | (refine Pn.then ?_) | (refine Pn.block ?_) | (refine CL.done ?_) | (refine Nm.block ?_) | (refine Nm.then ?_) | (refine Gt.nil ?_; refine RW.nilw [0, 1, 2, 3, 4, 5, 7, 14] ?_; dsimp only [H.keep, H.look, H.Fr.put, Nat.beq]) | (refine RW.y (Y.neNil rfl) rfl ?_) | (refine Gt.move ?_; refine RW.y (Y.move rfl) rfl ?_) | (refine Gt.assign ?_; refine RW.y (Y.assign rfl) rfl ?_) | (refine Gt.extract ?_; refine RW.y (Y.extract rfl rfl) rfl ?_) | (refine Gt.neq ?_; first | (refine RW.y (Y.nei rfl rfl) rfl ?_) | (refine RW.y (Y.nes rfl rfl) rfl ?_) | (refine RW.y (Y.nepn rfl rfl) rfl ?_)) | (refine Gt.not ?_; first | (refine RW.y (Y.not rfl) rfl ?_) | (refine RW.y (Y.notb rfl) rfl ?_)) | (refine Gt.load ?_; refine RW.y (Y.loadB rfl (by assumption) rfl) rfl ?_) | (refine Gt.nilck ?_; refine RW.y (Y.nilck rfl) rfl ?_) | (refine Gt.fieldAddr ?_; refine RW.y (Y.fieldAddr rfl (by rfl)) rfl ?_))
    exact ⟨rfl, rfl, rfl⟩
  · intro e f a w' ha q
    have hres := results_none (fn := Try.f46) rfl a.tmps Try.prog w'
    cases e with
    | normal => exact ⟨ha.defers.trans q.1, .returning, by rw [← hu], _, hres, q.2.1, rfl, q.2.2⟩
    | ret => exact ⟨ha.defers.trans q.1, .returning, by rw [← hu], _, hres, q.2.1, rfl, q.2.2⟩
    | _ => exact q.elim

set_option maxHeartbeats 400000 in
theorem catch_panic (b pr pk : Nat) (l : List UInt8) (x : Bool) (er ek : TypeId) (w : World) (G : Nat → Prop) (hR : Rd w G b l false) (hr : w.heap[pr]? = some (.cells #[.pointer (some ⟨b, 0, none⟩)] er (0, 0))) (hk : w.heap[pk]? = some (.cells #[.bool x] ek (0, 0))) (hpk : ¬ G pk) (hpr : pr ≠ b) :
    CallsD Try.prog 46 #[.pointer (some ⟨pr, 0, none⟩), .pointer (some ⟨pk, 0, none⟩)] (.panicking [{ v := stopv, recovered := false }]) w fun e u' w' => e = .returned (.tuple #[]) ∧ u' = .panicking [{ v := stopv, recovered := true }] ∧
      Rd w' G b l true ∧ w'.heap[pk]? = some (.cells #[.bool false] ek (0, 0)) ∧ Kept (fun k => k = b ∨ k = pk) w w' := by
  refine callsD_of_wpS Try.func46 rfl fun c₀ cs hu => ?_
  apply wpS_seq
  apply wpS_region
  simp [wpOpsS, go_sem, recoverD, hu, Try.ntmps46, Exit.thenS]
  refine wpS_cl (Q := SQ fun e w' => e = .returned (.tuple #[]) ∧ Rd w' G b l true ∧ w'.heap[pk]? = some (.cells #[.bool false] ek (0, 0)) ∧ Kept (fun k => k = b ∨ k = pk) w w') (f := ⟨19, [], [(0, .pointer (some ⟨pr, 0, none⟩)), (1, .pointer (some ⟨pk, 0, none⟩)), (2, stopv)]⟩) ?_ (Ag.of (by simp) rfl (by simp)) ?_
  · skip
    have hR' := hR
    obtain ⟨⟨v, e, hb, hs, hv⟩, hGb, hlt, hsh⟩ := hR'
    have hpkb : pk ≠ b := fun c => hpk (c ▸ hGb)
    repeat' (first | (refine CL.seq ?_) | (refine CL.region ?_) | (refine CL.skip ?_) | (refine CL.condP rfl (fun _ => ?_) (fun _ => ?_) <;> try (exfalso; omega)) | (refine CL.condT rfl ?_) | (refine CL.condF rfl ?_) | (refine CL.cond rfl (fun _ => ?_) (fun _ => ?_)) | (refine CL.block ?_) | (refine CL.exit ?_) | (refine Ex.then ?_) | (refine Ex.hit ?_) | (refine Ex.miss rfl ?_) | (refine CL.ret ?_) | (refine Rt.then ?_) | (refine Rt.block ?_) | (refine Pn.then ?_) | (refine Pn.block ?_) | (refine CL.done ?_) | (refine Nm.block ?_) | (refine Nm.then ?_) | (refine Gt.nil ?_; refine RW.nilw [0, 1, 2, 3, 4, 5, 7, 14] ?_; dsimp only [H.keep, H.look, H.Fr.put, Nat.beq]) | (refine RW.y (Y.neHeld rfl rfl) rfl ?_) | (refine RW.y (Y.assert rfl) rfl ?_) | (refine Gt.move ?_; refine RW.y (Y.move rfl) rfl ?_) | (refine Gt.assign ?_; refine RW.y (Y.assign rfl) rfl ?_) | (refine Gt.extract ?_; refine RW.y (Y.extract rfl rfl) rfl ?_) | (refine Gt.neq ?_; first | (refine RW.y (Y.nei rfl rfl) rfl ?_) | (refine RW.y (Y.nes rfl rfl) rfl ?_) | (refine RW.y (Y.nepn rfl rfl) rfl ?_)) | (refine Gt.not ?_; first | (refine RW.y (Y.not rfl) rfl ?_) | (refine RW.y (Y.notb rfl) rfl ?_)) | (refine Gt.load ?_; refine RW.y (Y.loadB rfl (by assumption) rfl) rfl ?_) | (refine Gt.nilck ?_; refine RW.y (Y.nilck rfl) rfl ?_) | (refine Gt.fieldAddr ?_; refine RW.y (Y.fieldAddr rfl (by rfl)) rfl ?_))
    refine RW.alloc rfl (fun w1 hw1 hk1 hlt1 => ?_)
    repeat' (first | (refine CL.seq ?_) | (refine CL.region ?_) | (refine CL.skip ?_) | (refine CL.condP rfl (fun _ => ?_) (fun _ => ?_) <;> try (exfalso; omega)) | (refine CL.condT rfl ?_) | (refine CL.condF rfl ?_) | (refine CL.cond rfl (fun _ => ?_) (fun _ => ?_)) | (refine CL.block ?_) | (refine CL.exit ?_) | (refine Ex.then ?_) | (refine Ex.hit ?_) | (refine Ex.miss rfl ?_) | (refine CL.ret ?_) | (refine Rt.then ?_) | (refine Rt.block ?_) | (refine Pn.then ?_) | (refine Pn.block ?_) | (refine CL.done ?_) | (refine Nm.block ?_) | (refine Nm.then ?_) | (refine Gt.nil ?_; refine RW.nilw [0, 1, 2, 3, 4, 5, 7, 14] ?_; dsimp only [H.keep, H.look, H.Fr.put, Nat.beq]) | (refine Gt.move ?_; refine RW.y (Y.move rfl) rfl ?_) | (refine Gt.assign ?_; refine RW.y (Y.assign rfl) rfl ?_) | (refine Gt.extract ?_; refine RW.y (Y.extract rfl rfl) rfl ?_) | (refine Gt.neq ?_; first | (refine RW.y (Y.nei rfl rfl) rfl ?_) | (refine RW.y (Y.nes rfl rfl) rfl ?_) | (refine RW.y (Y.nepn rfl rfl) rfl ?_)) | (refine Gt.not ?_; first | (refine RW.y (Y.not rfl) rfl ?_) | (refine RW.y (Y.notb rfl) rfl ?_)) | (refine Gt.load ?_; refine RW.y (Y.loadB rfl (by assumption) rfl) rfl ?_) | (refine Gt.nilck ?_; refine RW.y (Y.nilck rfl) rfl ?_) | (refine Gt.fieldAddr ?_; refine RW.y (Y.fieldAddr rfl (by rfl)) rfl ?_))
    refine RW.storeN (n := 0) (fun w => H.run_sizeOf (P := Try.prog) (t := 72) w) rfl rfl rfl (by simp [Value.cells]) hw1 (by simp [Value.cells]) (fun w2 hw2 hk2 => ?_)
    have hr2 := hk2.at (hk1.at0 hr) (fun c => by have := lt_of_at hr; omega)
    have hb2 := hk2.at (hk1.at0 hb) (fun c => by have := lt_of_at hb; omega)
    have hp2 := hk2.at (hk1.at0 hk) (fun c => by have := lt_of_at hk; omega)
    repeat' (first | (refine CL.seq ?_) | (refine CL.region ?_) | (refine CL.skip ?_) | (refine CL.condP rfl (fun _ => ?_) (fun _ => ?_) <;> try (exfalso; omega)) | (refine CL.condT rfl ?_) | (refine CL.condF rfl ?_) | (refine CL.cond rfl (fun _ => ?_) (fun _ => ?_)) | (refine CL.block ?_) | (refine CL.exit ?_) | (refine Ex.then ?_) | (refine Ex.hit ?_) | (refine Ex.miss rfl ?_) | (refine CL.ret ?_) | (refine Rt.then ?_) | (refine Rt.block ?_) | (refine Pn.then ?_) | (refine Pn.block ?_) | (refine CL.done ?_) | (refine Nm.block ?_) | (refine Nm.then ?_) | (refine Gt.nil ?_; refine RW.nilw [0, 1, 2, 3, 4, 5, 7, 14] ?_; dsimp only [H.keep, H.look, H.Fr.put, Nat.beq]) | (refine Gt.move ?_; refine RW.y (Y.move rfl) rfl ?_) | (refine Gt.assign ?_; refine RW.y (Y.assign rfl) rfl ?_) | (refine Gt.extract ?_; refine RW.y (Y.extract rfl rfl) rfl ?_) | (refine Gt.neq ?_; first | (refine RW.y (Y.nei rfl rfl) rfl ?_) | (refine RW.y (Y.nes rfl rfl) rfl ?_) | (refine RW.y (Y.nepn rfl rfl) rfl ?_)) | (refine Gt.not ?_; first | (refine RW.y (Y.not rfl) rfl ?_) | (refine RW.y (Y.notb rfl) rfl ?_)) | (refine Gt.load ?_; refine RW.y (Y.loadB rfl (by assumption) rfl) rfl ?_) | (refine Gt.nilck ?_; refine RW.y (Y.nilck rfl) rfl ?_) | (refine Gt.fieldAddr ?_; refine RW.y (Y.fieldAddr rfl (by rfl)) rfl ?_))
    refine RW.storeB rfl rfl rfl hb2 (by simp) (fun w3 hb3 hk3 => ?_)
    have hp3 := hk3.at hp2 hpkb
    repeat' (first | (refine CL.seq ?_) | (refine CL.region ?_) | (refine CL.skip ?_) | (refine CL.condP rfl (fun _ => ?_) (fun _ => ?_) <;> try (exfalso; omega)) | (refine CL.condT rfl ?_) | (refine CL.condF rfl ?_) | (refine CL.cond rfl (fun _ => ?_) (fun _ => ?_)) | (refine CL.block ?_) | (refine CL.exit ?_) | (refine Ex.then ?_) | (refine Ex.hit ?_) | (refine Ex.miss rfl ?_) | (refine CL.ret ?_) | (refine Rt.then ?_) | (refine Rt.block ?_) | (refine Pn.then ?_) | (refine Pn.block ?_) | (refine CL.done ?_) | (refine Nm.block ?_) | (refine Nm.then ?_) | (refine Gt.nil ?_; refine RW.nilw [0, 1, 2, 3, 4, 5, 7, 14] ?_; dsimp only [H.keep, H.look, H.Fr.put, Nat.beq]) | (refine Gt.move ?_; refine RW.y (Y.move rfl) rfl ?_) | (refine Gt.assign ?_; refine RW.y (Y.assign rfl) rfl ?_) | (refine Gt.extract ?_; refine RW.y (Y.extract rfl rfl) rfl ?_) | (refine Gt.neq ?_; first | (refine RW.y (Y.nei rfl rfl) rfl ?_) | (refine RW.y (Y.nes rfl rfl) rfl ?_) | (refine RW.y (Y.nepn rfl rfl) rfl ?_)) | (refine Gt.not ?_; first | (refine RW.y (Y.not rfl) rfl ?_) | (refine RW.y (Y.notb rfl) rfl ?_)) | (refine Gt.load ?_; refine RW.y (Y.loadB rfl (by assumption) rfl) rfl ?_) | (refine Gt.nilck ?_; refine RW.y (Y.nilck rfl) rfl ?_) | (refine Gt.fieldAddr ?_; refine RW.y (Y.fieldAddr rfl (by rfl)) rfl ?_))
    refine RW.storeB rfl rfl rfl hp3 (by simp) (fun w4 hp4 hk4 => ?_)
    have hb4 := hk4.at hb3 (fun c => hpkb c.symm)
    repeat' (first | (refine CL.seq ?_) | (refine CL.region ?_) | (refine CL.skip ?_) | (refine CL.condP rfl (fun _ => ?_) (fun _ => ?_) <;> try (exfalso; omega)) | (refine CL.condT rfl ?_) | (refine CL.condF rfl ?_) | (refine CL.cond rfl (fun _ => ?_) (fun _ => ?_)) | (refine CL.block ?_) | (refine CL.exit ?_) | (refine Ex.then ?_) | (refine Ex.hit ?_) | (refine Ex.miss rfl ?_) | (refine CL.ret ?_) | (refine Rt.then ?_) | (refine Rt.block ?_) | (refine Pn.then ?_) | (refine Pn.block ?_) | (refine CL.done ?_) | (refine Nm.block ?_) | (refine Nm.then ?_) | (refine Gt.nil ?_; refine RW.nilw [0, 1, 2, 3, 4, 5, 7, 14] ?_; dsimp only [H.keep, H.look, H.Fr.put, Nat.beq]) | (refine Gt.move ?_; refine RW.y (Y.move rfl) rfl ?_) | (refine Gt.assign ?_; refine RW.y (Y.assign rfl) rfl ?_) | (refine Gt.extract ?_; refine RW.y (Y.extract rfl rfl) rfl ?_) | (refine Gt.neq ?_; first | (refine RW.y (Y.nei rfl rfl) rfl ?_) | (refine RW.y (Y.nes rfl rfl) rfl ?_) | (refine RW.y (Y.nepn rfl rfl) rfl ?_)) | (refine Gt.not ?_; first | (refine RW.y (Y.not rfl) rfl ?_) | (refine RW.y (Y.notb rfl) rfl ?_)) | (refine Gt.load ?_; refine RW.y (Y.loadB rfl (by assumption) rfl) rfl ?_) | (refine Gt.nilck ?_; refine RW.y (Y.nilck rfl) rfl ?_) | (refine Gt.fieldAddr ?_; refine RW.y (Y.fieldAddr rfl (by rfl)) rfl ?_))
    have hk02 : K0 w w2 := hk1.trans hk2 fun k h => .inr (by omega)
    have hk04 : Kept (fun k => k = b ∨ k = pk) w w4 := ((Kept.of0 hk02).trans hk3 fun k h => .inl (.inl h)).trans hk4 fun k h => .inl (.inr h)
    refine ⟨rfl, rfl, ⟨⟨v, e, hb4, hs.keep hk04 fun g hg c => ?_, hv⟩, hGb, fun k h => Nat.lt_of_lt_of_le (hlt k h) hk04.size, hsh⟩, hp4, hk04⟩
    rcases c with c | c
    · exact (hv g hg).2 c
    · exact hpk (c ▸ (hv g hg).1)
  · intro e f a w' ha q
    have hres := results_none (fn := Try.f46) rfl a.tmps Try.prog w'
    cases e with
    | normal => exact ⟨ha.defers.trans q.1, _, rfl, _, hres, q.2.1, rfl, q.2.2⟩
    | ret => exact ⟨ha.defers.trans q.1, _, rfl, _, hres, q.2.1, rfl, q.2.2⟩
    | _ => exact q.elim
end Go.Proofs.Ytblbibdjddmfiaa.Co
