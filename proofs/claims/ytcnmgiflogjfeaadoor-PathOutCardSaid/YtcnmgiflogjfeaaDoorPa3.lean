/-
  The reference's paths, walked: Clean, Join, Parent, Base, Within; lists of texts held against one another.
-/
import Derived.Test.YtcnmgiflogjfeaaDoorPa2
namespace Go.Proofs.YtcnmgiflogjfeaaDoor.Pa
open Go.RowKit H S
attribute [local irreducible] H.CL H.RW H.CW H.Yd H.thenK H.blockQ Go.Calls

theorem refCleanTop (s : List UInt8) (hs1 : s.length ≤ 1000000) (w : World) : Calls Tryd.prog 11 #[vs s] w fun e w' => e = .returned (.tuple #[vs (joinL [] s).1, .int .i64 (joinL [] s).2]) ∧ K0 w w' := by
  have hj : joinL [] s = cleanL s [] := by unfold joinL partsL; simp
  rw [hj]
  refine H.enter Tryd.func11 Tryd.ntmps11 rfl rfl ?_; dsimp only [H.args]
  repeat' (first | (refine CL.seq ?_) | (refine CL.region ?_) | (refine CL.skip ?_) | (refine CL.condP rfl (fun _ => ?_) (fun _ => ?_) <;> try (exfalso; omega)) | (refine CL.condT rfl ?_) | (refine CL.condF rfl ?_) | (refine CL.cond rfl (fun _ => ?_) (fun _ => ?_)) | (refine CL.block ?_) | (refine CL.exit ?_) | (refine Ex.then ?_) | (refine Ex.hit ?_) | (refine Ex.miss rfl ?_) | (refine CL.ret ?_) | (refine Rt.then ?_) | (refine Rt.block ?_) | (refine Pn.then ?_) | (refine Pn.block ?_) | (refine CL.done ?_) | (refine Nm.block ?_) | (refine Nm.then ?_) | (refine Gt.nil ?_; refine RW.nilw [0, 2, 3] ?_; dsimp only [H.keep, H.look, H.Fr.put, Nat.beq]) | (refine Gt.assign ?_; refine RW.y (Y.assign rfl) rfl ?_) | (refine Gt.extract ?_; refine RW.y (Y.extract rfl rfl) rfl ?_) | (refine Gt.move ?_; refine RW.y (Y.move rfl) rfl ?_))
  refine RW.fn rfl rfl ((refClean s (.slice none 0 0) [] hs1 (by simp [total]) w (Sl.nil w 1)).mono ?_)
  rintro e w1 ⟨rfl, hk1⟩
  repeat' (first | (refine CL.seq ?_) | (refine CL.region ?_) | (refine CL.skip ?_) | (refine CL.condP rfl (fun _ => ?_) (fun _ => ?_) <;> try (exfalso; omega)) | (refine CL.condT rfl ?_) | (refine CL.condF rfl ?_) | (refine CL.cond rfl (fun _ => ?_) (fun _ => ?_)) | (refine CL.block ?_) | (refine CL.exit ?_) | (refine Ex.then ?_) | (refine Ex.hit ?_) | (refine Ex.miss rfl ?_) | (refine CL.ret ?_) | (refine Rt.then ?_) | (refine Rt.block ?_) | (refine Pn.then ?_) | (refine Pn.block ?_) | (refine CL.done ?_) | (refine Nm.block ?_) | (refine Nm.then ?_) | (refine Gt.nil ?_; refine RW.nilw [0, 2, 3] ?_; dsimp only [H.keep, H.look, H.Fr.put, Nat.beq]) | (refine Gt.assign ?_; refine RW.y (Y.assign rfl) rfl ?_) | (refine Gt.extract ?_; refine RW.y (Y.extract rfl rfl) rfl ?_) | (refine Gt.move ?_; refine RW.y (Y.move rfl) rfl ?_))
  exact FQ.two rfl rfl rfl rfl ⟨rfl, hk1⟩

theorem total_parts (d : List UInt8) : total (partsL d) ≤ (d.length + 1) * (d.length + 1) := by
  unfold partsL
  split
  · simp [total]
  · have h1 := splitB_mem_len 47 d
    have h2 := splitB_len 47 d
    have h3 : d.count 47 ≤ d.length := List.count_le_length
    have key : ∀ (l : List (List UInt8)) (k : Nat), (∀ s ∈ l, s.length ≤ k) → total l ≤ l.length * (k + 1) := by
      intro l k
      induction l with
      | nil => intro _; simp [total]
      | cons a r ih =>
        intro h
        have h4 := h a (by simp)
        have h5 := ih fun s hs => h s (by simp [hs])
        simp only [total, List.map_cons, List.sum_cons, List.length_cons] at h5 ⊢
        rw [Nat.succ_mul]; omega
    have h6 := key _ d.length h1
    have h7 : (splitB 47 d).length * (d.length + 1) ≤ (d.length + 1) * (d.length + 1) := Nat.mul_le_mul_right _ (by omega)
    omega

theorem refJoin (d s : List UInt8) (hd1 : d.length ≤ 900) (hs1 : s.length ≤ 900) (w : World) : Calls Tryd.prog 22 #[vs d, vs s] w fun e w' => e = .returned (.tuple #[vs (joinL d s).1, .int .i64 (joinL d s).2]) ∧ K0 w w' := by
  have ht := total_parts d
  have hm : (d.length + 1) * (d.length + 1) ≤ 901 * 901 := Nat.mul_le_mul (by omega) (by omega)
  obtain ⟨R, hR⟩ : ∃ R, R = joinL d s := ⟨_, rfl⟩
  rw [← hR]
  unfold joinL at hR
  refine H.enter Tryd.func22 Tryd.ntmps22 rfl rfl ?_; dsimp only [H.args]
  repeat' (first | (refine CL.seq ?_) | (refine CL.region ?_) | (refine CL.skip ?_) | (refine CL.condP rfl (fun _ => ?_) (fun _ => ?_) <;> try (exfalso; omega)) | (refine CL.condT rfl ?_) | (refine CL.condF rfl ?_) | (refine CL.cond rfl (fun _ => ?_) (fun _ => ?_)) | (refine CL.block ?_) | (refine CL.exit ?_) | (refine Ex.then ?_) | (refine Ex.hit ?_) | (refine Ex.miss rfl ?_) | (refine CL.ret ?_) | (refine Rt.then ?_) | (refine Rt.block ?_) | (refine Pn.then ?_) | (refine Pn.block ?_) | (refine CL.done ?_) | (refine Nm.block ?_) | (refine Nm.then ?_) | (refine Gt.nil ?_; refine RW.nilw [0, 1, 4, 5, 16] ?_; dsimp only [H.keep, H.look, H.Fr.put, Nat.beq]) | (refine Gt.assign ?_; refine RW.y (Y.assign rfl) rfl ?_) | (refine Gt.guard ?_; first | (refine RW.part rfl rfl rfl (fun _ => ?_) (fun _ => ?_) <;> try (exfalso; omega)) | (refine RW.on rfl rfl rfl ?_) | (refine RW.off1 rfl rfl rfl rfl rfl ?_) | (refine RW.off rfl rfl rfl rfl rfl ?_) | (refine RW.offu rfl rfl rfl rfl ?_) | (refine RW.partb rfl rfl rfl (fun _ => ?_) (fun _ => ?_))) | (refine Gt.move ?_; refine RW.y (Y.move rfl) rfl ?_) | (refine Gt.len ?_; refine RW.y (Y.lens rfl) rfl ?_) | (refine Gt.add ?_; refine RW.y (Y.add64 rfl rfl (by omega) (by omega)) rfl ?_) | (refine Gt.extract ?_; refine RW.y (Y.extract rfl rfl) rfl ?_) | (refine Gt.neq ?_; refine RW.y (Y.nes rfl rfl) rfl ?_) | (refine Gt.gtr ?_; refine RW.y (Y.gtr rfl rfl) rfl ?_) | (refine Gt.pick ?_; first | (refine RW.y (Y.pickT rfl rfl) rfl ?_) | (refine RW.y (Y.pickF rfl rfl) rfl ?_)))
  · rename_i h1 h2
    rw [if_pos ⟨h1, by omega⟩] at hR
    subst hR
    exact FQ.two rfl rfl rfl rfl ⟨rfl, Kept.refl _ _⟩
  all_goals
    rw [if_neg (by rintro ⟨h1, h2⟩; first | (rename_i h3; exact h3 h1) | omega)] at hR
    refine RW.fn rfl rfl ((refParts d (by omega) w).mono ?_)
    rintro e w1 ⟨v1, rfl, how1, hk1⟩
    repeat' (first | (refine CL.seq ?_) | (refine CL.region ?_) | (refine CL.skip ?_) | (refine CL.condP rfl (fun _ => ?_) (fun _ => ?_) <;> try (exfalso; omega)) | (refine CL.condT rfl ?_) | (refine CL.condF rfl ?_) | (refine CL.cond rfl (fun _ => ?_) (fun _ => ?_)) | (refine CL.block ?_) | (refine CL.exit ?_) | (refine Ex.then ?_) | (refine Ex.hit ?_) | (refine Ex.miss rfl ?_) | (refine CL.ret ?_) | (refine Rt.then ?_) | (refine Rt.block ?_) | (refine Pn.then ?_) | (refine Pn.block ?_) | (refine CL.done ?_) | (refine Nm.block ?_) | (refine Nm.then ?_) | (refine Gt.nil ?_; refine RW.nilw [0, 1, 4, 5, 16] ?_; dsimp only [H.keep, H.look, H.Fr.put, Nat.beq]) | (refine Gt.assign ?_; refine RW.y (Y.assign rfl) rfl ?_) | (refine Gt.guard ?_; first | (refine RW.part rfl rfl rfl (fun _ => ?_) (fun _ => ?_) <;> try (exfalso; omega)) | (refine RW.on rfl rfl rfl ?_) | (refine RW.off1 rfl rfl rfl rfl rfl ?_) | (refine RW.off rfl rfl rfl rfl rfl ?_) | (refine RW.offu rfl rfl rfl rfl ?_) | (refine RW.partb rfl rfl rfl (fun _ => ?_) (fun _ => ?_))) | (refine Gt.move ?_; refine RW.y (Y.move rfl) rfl ?_) | (refine Gt.len ?_; refine RW.y (Y.lens rfl) rfl ?_) | (refine Gt.add ?_; refine RW.y (Y.add64 rfl rfl (by omega) (by omega)) rfl ?_) | (refine Gt.extract ?_; refine RW.y (Y.extract rfl rfl) rfl ?_) | (refine Gt.neq ?_; refine RW.y (Y.nes rfl rfl) rfl ?_) | (refine Gt.gtr ?_; refine RW.y (Y.gtr rfl rfl) rfl ?_) | (refine Gt.pick ?_; first | (refine RW.y (Y.pickT rfl rfl) rfl ?_) | (refine RW.y (Y.pickF rfl rfl) rfl ?_)))
    refine RW.fn rfl rfl ((refClean s v1 (partsL d) (by omega) (by omega) w1 (Sl.of_own how1)).mono ?_)
    rintro e w2 ⟨rfl, hk2⟩
    rw [← hR]
    repeat' (first | (refine CL.seq ?_) | (refine CL.region ?_) | (refine CL.skip ?_) | (refine CL.condP rfl (fun _ => ?_) (fun _ => ?_) <;> try (exfalso; omega)) | (refine CL.condT rfl ?_) | (refine CL.condF rfl ?_) | (refine CL.cond rfl (fun _ => ?_) (fun _ => ?_)) | (refine CL.block ?_) | (refine CL.exit ?_) | (refine Ex.then ?_) | (refine Ex.hit ?_) | (refine Ex.miss rfl ?_) | (refine CL.ret ?_) | (refine Rt.then ?_) | (refine Rt.block ?_) | (refine Pn.then ?_) | (refine Pn.block ?_) | (refine CL.done ?_) | (refine Nm.block ?_) | (refine Nm.then ?_) | (refine Gt.nil ?_; refine RW.nilw [0, 1, 4, 5, 16] ?_; dsimp only [H.keep, H.look, H.Fr.put, Nat.beq]) | (refine Gt.assign ?_; refine RW.y (Y.assign rfl) rfl ?_) | (refine Gt.guard ?_; first | (refine RW.part rfl rfl rfl (fun _ => ?_) (fun _ => ?_) <;> try (exfalso; omega)) | (refine RW.on rfl rfl rfl ?_) | (refine RW.off1 rfl rfl rfl rfl rfl ?_) | (refine RW.off rfl rfl rfl rfl rfl ?_) | (refine RW.offu rfl rfl rfl rfl ?_) | (refine RW.partb rfl rfl rfl (fun _ => ?_) (fun _ => ?_))) | (refine Gt.move ?_; refine RW.y (Y.move rfl) rfl ?_) | (refine Gt.len ?_; refine RW.y (Y.lens rfl) rfl ?_) | (refine Gt.add ?_; refine RW.y (Y.add64 rfl rfl (by omega) (by omega)) rfl ?_) | (refine Gt.extract ?_; refine RW.y (Y.extract rfl rfl) rfl ?_) | (refine Gt.neq ?_; refine RW.y (Y.nes rfl rfl) rfl ?_) | (refine Gt.gtr ?_; refine RW.y (Y.gtr rfl rfl) rfl ?_) | (refine Gt.pick ?_; first | (refine RW.y (Y.pickT rfl rfl) rfl ?_) | (refine RW.y (Y.pickF rfl rfl) rfl ?_)))
    exact FQ.two rfl rfl rfl rfl ⟨rfl, hk1.trans0 hk2⟩

theorem refParent (p : List UInt8) (hp : p.length ≤ 900) (w : World) : Calls Tryd.prog 16 #[vs p] w fun e w' => e = .returned (vs (parentL p)) ∧ K0 w w' := by
  have ht := total_parts p
  have hm : (p.length + 1) * (p.length + 1) ≤ 901 * 901 := Nat.mul_le_mul (by omega) (by omega)
  unfold parentL
  refine H.enter Tryd.func16 Tryd.ntmps16 rfl rfl ?_; dsimp only [H.args]
  repeat' (first | (refine CL.seq ?_) | (refine CL.region ?_) | (refine CL.skip ?_) | (refine CL.condP rfl (fun _ => ?_) (fun _ => ?_) <;> try (exfalso; omega)) | (refine CL.condT rfl ?_) | (refine CL.condF rfl ?_) | (refine CL.cond rfl (fun _ => ?_) (fun _ => ?_)) | (refine CL.block ?_) | (refine CL.exit ?_) | (refine Ex.then ?_) | (refine Ex.hit ?_) | (refine Ex.miss rfl ?_) | (refine CL.ret ?_) | (refine Rt.then ?_) | (refine Rt.block ?_) | (refine Pn.then ?_) | (refine Pn.block ?_) | (refine CL.done ?_) | (refine Nm.block ?_) | (refine Nm.then ?_) | (refine Gt.nil ?_; refine RW.nilw [0, 2, 3, 8] ?_; dsimp only [H.keep, H.look, H.Fr.put, Nat.beq]) | (refine Gt.assign ?_; refine RW.y (Y.assign rfl) rfl ?_) | (refine Gt.move ?_; refine RW.y (Y.move rfl) rfl ?_) | (refine Gt.len ?_; first | (refine RW.y (Y.lenv rfl) rfl ?_) | (refine RW.y (Y.lenx rfl (by assumption)) rfl ?_)) | (refine Gt.eql ?_; refine RW.y (Y.eqi rfl rfl) rfl ?_) | (refine Gt.sub ?_; refine RW.y (Y.sub64 rfl rfl (by omega) (by omega)) rfl ?_))
  refine RW.fn rfl rfl ((refParts p (by omega) w).mono ?_)
  rintro e w1 ⟨v1, rfl, how1, hk1⟩
  have hs1 := Sl.of_own how1
  have htl := total_len (partsL p)
  obtain ⟨l, hl⟩ : ∃ l, l = partsL p := ⟨_, rfl⟩
  rw [← hl] at how1 hs1 ht htl ⊢
  repeat' (first | (refine CL.seq ?_) | (refine CL.region ?_) | (refine CL.skip ?_) | (refine CL.condP rfl (fun _ => ?_) (fun _ => ?_) <;> try (exfalso; omega)) | (refine CL.condT rfl ?_) | (refine CL.condF rfl ?_) | (refine CL.cond rfl (fun _ => ?_) (fun _ => ?_)) | (refine CL.block ?_) | (refine CL.exit ?_) | (refine Ex.then ?_) | (refine Ex.hit ?_) | (refine Ex.miss rfl ?_) | (refine CL.ret ?_) | (refine Rt.then ?_) | (refine Rt.block ?_) | (refine Pn.then ?_) | (refine Pn.block ?_) | (refine CL.done ?_) | (refine Nm.block ?_) | (refine Nm.then ?_) | (refine Gt.nil ?_; refine RW.nilw [0, 2, 3, 8] ?_; dsimp only [H.keep, H.look, H.Fr.put, Nat.beq]) | (refine Gt.assign ?_; refine RW.y (Y.assign rfl) rfl ?_) | (refine Gt.move ?_; refine RW.y (Y.move rfl) rfl ?_) | (refine Gt.len ?_; first | (refine RW.y (Y.lenv rfl) rfl ?_) | (refine RW.y (Y.lenx rfl (by assumption)) rfl ?_)) | (refine Gt.eql ?_; refine RW.y (Y.eqi rfl rfl) rfl ?_) | (refine Gt.sub ?_; refine RW.y (Y.sub64 rfl rfl (by omega) (by omega)) rfl ?_))
  · have : l = [] := List.eq_nil_of_length_eq_zero (by omega)
    subst this
    exact FQ.one rfl rfl rfl ⟨rfl, hk1⟩
  · refine RW.subh rfl rfl rfl hs1 (by omega) (by omega) (fun v2 hs2 _ => ?_)
    have hn : ((l.length : Int) - 1).toNat = l.length - 1 := by omega
    have he : (sv l).take (l.length - 1) = sv l.dropLast := by rw [List.dropLast_eq_take]; exact List.map_take.symm
    have hel : l.dropLast.length = l.length - 1 := List.length_dropLast
    rw [hn, Nat.mul_one, he, ← hel] at hs2
    have := total_drop l
    refine RW.fn rfl rfl ((refGlue v2 l.dropLast w1 hs2 (by omega)).mono ?_)
    rintro e w3 ⟨rfl, rfl⟩
    repeat' (first | (refine CL.seq ?_) | (refine CL.region ?_) | (refine CL.skip ?_) | (refine CL.condP rfl (fun _ => ?_) (fun _ => ?_) <;> try (exfalso; omega)) | (refine CL.condT rfl ?_) | (refine CL.condF rfl ?_) | (refine CL.cond rfl (fun _ => ?_) (fun _ => ?_)) | (refine CL.block ?_) | (refine CL.exit ?_) | (refine Ex.then ?_) | (refine Ex.hit ?_) | (refine Ex.miss rfl ?_) | (refine CL.ret ?_) | (refine Rt.then ?_) | (refine Rt.block ?_) | (refine Pn.then ?_) | (refine Pn.block ?_) | (refine CL.done ?_) | (refine Nm.block ?_) | (refine Nm.then ?_) | (refine Gt.nil ?_; refine RW.nilw [0, 2, 3, 8] ?_; dsimp only [H.keep, H.look, H.Fr.put, Nat.beq]) | (refine Gt.assign ?_; refine RW.y (Y.assign rfl) rfl ?_) | (refine Gt.move ?_; refine RW.y (Y.move rfl) rfl ?_) | (refine Gt.len ?_; first | (refine RW.y (Y.lenv rfl) rfl ?_) | (refine RW.y (Y.lenx rfl (by assumption)) rfl ?_)) | (refine Gt.eql ?_; refine RW.y (Y.eqi rfl rfl) rfl ?_) | (refine Gt.sub ?_; refine RW.y (Y.sub64 rfl rfl (by omega) (by omega)) rfl ?_))
    exact FQ.one rfl rfl rfl ⟨rfl, hk1⟩

theorem refBase (p : List UInt8) (hp : p.length ≤ 900) (w : World) : Calls Tryd.prog 18 #[vs p] w fun e w' => e = .returned (vs (baseL p)) ∧ K0 w w' := by
  have ht := total_parts p
  have hm : (p.length + 1) * (p.length + 1) ≤ 901 * 901 := Nat.mul_le_mul (by omega) (by omega)
  unfold baseL
  refine H.enter Tryd.func18 Tryd.ntmps18 rfl rfl ?_; dsimp only [H.args]
  repeat' (first | (refine CL.seq ?_) | (refine CL.region ?_) | (refine CL.skip ?_) | (refine CL.condP rfl (fun _ => ?_) (fun _ => ?_) <;> try (exfalso; omega)) | (refine CL.condT rfl ?_) | (refine CL.condF rfl ?_) | (refine CL.cond rfl (fun _ => ?_) (fun _ => ?_)) | (refine CL.block ?_) | (refine CL.exit ?_) | (refine Ex.then ?_) | (refine Ex.hit ?_) | (refine Ex.miss rfl ?_) | (refine CL.ret ?_) | (refine Rt.then ?_) | (refine Rt.block ?_) | (refine Pn.then ?_) | (refine Pn.block ?_) | (refine CL.done ?_) | (refine Nm.block ?_) | (refine Nm.then ?_) | (refine Gt.nil ?_; refine RW.nilw [0, 2, 3, 8] ?_; dsimp only [H.keep, H.look, H.Fr.put, Nat.beq]) | (refine Gt.assign ?_; refine RW.y (Y.assign rfl) rfl ?_) | (refine Gt.move ?_; refine RW.y (Y.move rfl) rfl ?_) | (refine Gt.len ?_; first | (refine RW.y (Y.lenv rfl) rfl ?_) | (refine RW.y (Y.lenx rfl (by assumption)) rfl ?_)) | (refine Gt.eql ?_; refine RW.y (Y.eqi rfl rfl) rfl ?_) | (refine Gt.sub ?_; refine RW.y (Y.sub64 rfl rfl (by omega) (by omega)) rfl ?_) | (refine Gt.idx ?_; refine RW.elemS rfl rfl rfl rfl (by assumption) (by omega) (by omega) ?_) | (refine Gt.load ?_; refine RW.y (Y.loadB rfl (by assumption) rfl) rfl ?_))
  refine RW.fn rfl rfl ((refParts p (by omega) w).mono ?_)
  rintro e w1 ⟨v1, rfl, how1, hk1⟩
  have hs1 := Sl.of_own how1
  have htl := total_len (partsL p)
  obtain ⟨l, hl⟩ : ∃ l, l = partsL p := ⟨_, rfl⟩
  rw [← hl] at how1 hs1 ht htl ⊢
  repeat' (first | (refine CL.seq ?_) | (refine CL.region ?_) | (refine CL.skip ?_) | (refine CL.condP rfl (fun _ => ?_) (fun _ => ?_) <;> try (exfalso; omega)) | (refine CL.condT rfl ?_) | (refine CL.condF rfl ?_) | (refine CL.cond rfl (fun _ => ?_) (fun _ => ?_)) | (refine CL.block ?_) | (refine CL.exit ?_) | (refine Ex.then ?_) | (refine Ex.hit ?_) | (refine Ex.miss rfl ?_) | (refine CL.ret ?_) | (refine Rt.then ?_) | (refine Rt.block ?_) | (refine Pn.then ?_) | (refine Pn.block ?_) | (refine CL.done ?_) | (refine Nm.block ?_) | (refine Nm.then ?_) | (refine Gt.nil ?_; refine RW.nilw [0, 2, 3, 8] ?_; dsimp only [H.keep, H.look, H.Fr.put, Nat.beq]) | (refine Gt.assign ?_; refine RW.y (Y.assign rfl) rfl ?_) | (refine Gt.move ?_; refine RW.y (Y.move rfl) rfl ?_) | (refine Gt.len ?_; first | (refine RW.y (Y.lenv rfl) rfl ?_) | (refine RW.y (Y.lenx rfl (by assumption)) rfl ?_)) | (refine Gt.eql ?_; refine RW.y (Y.eqi rfl rfl) rfl ?_) | (refine Gt.sub ?_; refine RW.y (Y.sub64 rfl rfl (by omega) (by omega)) rfl ?_) | (refine Gt.idx ?_; refine RW.elemS rfl rfl rfl rfl (by assumption) (by omega) (by omega) ?_) | (refine Gt.load ?_; refine RW.y (Y.loadB rfl (by assumption) rfl) rfl ?_))
  · have : l = [] := List.eq_nil_of_length_eq_zero (by omega)
    subst this
    exact FQ.one rfl rfl rfl ⟨rfl, hk1⟩
  · have hn : ((l.length : Int) - 1).toNat = l.length - 1 := by omega
    rw [hn]
    have : l.getD (l.length - 1) [] = l.getLastD [] := by
      rw [List.getLastD_eq_getLast?, List.getLast?_eq_getElem?, List.getD_eq_getElem?_getD]
    rw [this]
    exact FQ.one rfl rfl rfl ⟨rfl, hk1⟩

theorem within_ref (p d : List UInt8) (hd : d.length < p.length) : p.take (d.length + 1) = d ++ [47] ↔ (p.take d.length = d ∧ p.getD d.length 0 = 47) := by
  rw [List.take_succ_eq_append_getElem hd]
  have h1 : p.getD d.length 0 = p[d.length] := by rw [List.getD_eq_getElem?_getD, List.getElem?_eq_getElem hd]; rfl
  rw [h1]
  have h2 : (p.take d.length).length = d.length := by rw [List.length_take]; omega
  constructor
  · intro h
    have := List.append_inj h h2
    exact ⟨this.1, by simpa using this.2⟩
  · rintro ⟨h3, h4⟩; rw [h3, h4]

set_option maxHeartbeats 400000 in
theorem refWithin (p d : List UInt8) (w : World) : Calls Tryd.prog 20 #[vs p, vs d] w fun e w' => w = w' ∧ e = .returned (.bool (withinL p d)) := by
  refine H.enter Tryd.func20 Tryd.ntmps20 rfl rfl ?_; dsimp only [H.args]
  repeat' (first | (refine CL.seq ?_) | (refine CL.region ?_) | (refine CL.skip ?_) | (refine CL.condP rfl (fun _ => ?_) (fun _ => ?_) <;> try (exfalso; omega)) | (refine CL.condT rfl ?_) | (refine CL.condF rfl ?_) | (refine CL.cond rfl (fun _ => ?_) (fun _ => ?_)) | (refine CL.block ?_) | (refine CL.exit ?_) | (refine Ex.then ?_) | (refine Ex.hit ?_) | (refine Ex.miss rfl ?_) | (refine CL.ret ?_) | (refine Rt.then ?_) | (refine Rt.block ?_) | (refine Pn.then ?_) | (refine Pn.block ?_) | (refine CL.done ?_) | (refine Nm.block ?_) | (refine Nm.then ?_) | (refine Gt.nil ?_; refine RW.nilw [0, 1, 4] ?_; dsimp only [H.keep, H.look, H.Fr.put, Nat.beq]) | (refine Gt.move ?_; refine RW.y (Y.move rfl) rfl ?_) | (refine Gt.guard ?_; first | (refine RW.part rfl rfl rfl (fun _ => ?_) (fun _ => ?_) <;> try (exfalso; omega)) | (refine RW.on rfl rfl rfl ?_) | (refine RW.off1 rfl rfl rfl rfl rfl ?_) | (refine RW.off rfl rfl rfl rfl rfl ?_) | (refine RW.offu rfl rfl rfl rfl ?_) | (refine RW.partb rfl rfl rfl (fun _ => ?_) (fun _ => ?_))) | (refine Gt.pick ?_; first | (refine RW.y (Y.pickT rfl rfl) rfl ?_) | (refine RW.y (Y.pickF rfl rfl) rfl ?_)) | (refine Gt.len ?_; refine RW.y (Y.lens rfl) rfl ?_) | (refine Gt.eql ?_; first | (refine RW.y (Y.eqs rfl rfl) rfl ?_) | (refine RW.y (Y.eqi rfl rfl) rfl ?_)) | (refine Gt.assign ?_; refine RW.y (Y.assign rfl) rfl ?_) | (refine Gt.gtr ?_; refine RW.y (Y.gtr rfl rfl) rfl ?_) | (refine Gt.slice ?_; refine RW.y (Y.cuth rfl rfl (by omega) (by omega)) rfl ?_) | (refine Gt.index ?_; refine RW.y (Y.idxs rfl rfl (by omega) (by omega)) rfl ?_))
  · rename_i h
    exact FQ.one rfl rfl rfl ⟨rfl, by unfold withinL; rw [decide_eq_true (.inl h)]⟩
  · rename_i h1 h
    exact FQ.one rfl rfl rfl ⟨rfl, by unfold withinL; rw [decide_eq_true (.inr (.inl h))]⟩
  · rename_i h1 h2 h3 h4
    rw [Int.toNat_natCast] at h4
    have hw := within_ref p d (by omega)
    rw [Int.toNat_natCast]
    refine FQ.one rfl rfl rfl ⟨rfl, ?_⟩
    unfold withinL
    congr 2
    rw [decide_eq_decide]
    constructor
    · intro h; exact .inr (.inr (hw.2 ⟨h4, u8_eq (by simpa using h)⟩))
    · rintro (h | h | h)
      · exact absurd h h1
      · exact absurd h h2
      · have := (hw.1 h).2; rw [this]; rfl
  · rename_i h1 h2 h3 h4
    rw [Int.toNat_natCast] at h4
    have hw := within_ref p d (by omega)
    refine FQ.one rfl rfl rfl ⟨rfl, ?_⟩
    unfold withinL
    rw [decide_eq_false]
    rintro (h | h | h)
    · exact h1 h
    · exact h2 h
    · exact h4 (hw.1 h).1
  · rename_i h1 h2 h3
    refine FQ.one rfl rfl rfl ⟨rfl, ?_⟩
    unfold withinL
    rw [decide_eq_false]
    rintro (h | h | h)
    · exact h1 h
    · exact h2 h
    · have := congrArg List.length h
      rw [List.length_take, List.length_append, List.length_singleton] at this
      omega

theorem sv_at {l : List (List UInt8)} {i : Nat} (h : i < l.length) : (sv l)[i]? = some (vs (l.getD i [])) := by
  simp [List.getD_eq_getElem?_getD, h]

set_option maxHeartbeats 400000 in
theorem helpStrings (v u : Value) (a b : List (List UInt8)) (w : World) (ha : Sl w 1 v a.length (sv a)) (hb : Sl w 1 u b.length (sv b)) : Calls Tryd.prog 13 #[v, u] w fun e w' => K0 w w' ∧ e = .returned (.bool (decide (a = b))) := by
  have hml : a.length ≤ 9223372036854775807 := by have := ha.2.1; simpa [maxLen] using this
  refine H.enter Tryd.func13 Tryd.ntmps13 rfl rfl ?_; dsimp only [H.args]
  repeat' (first | (refine CL.seq ?_) | (refine CL.region ?_) | (refine CL.skip ?_) | (refine CL.condP rfl (fun _ => ?_) (fun _ => ?_) <;> try (exfalso; omega)) | (refine CL.condT rfl ?_) | (refine CL.condF rfl ?_) | (refine CL.cond rfl (fun _ => ?_) (fun _ => ?_)) | (refine CL.block ?_) | (refine CL.exit ?_) | (refine Ex.then ?_) | (refine Ex.hit ?_) | (refine Ex.miss rfl ?_) | (refine CL.ret ?_) | (refine Rt.then ?_) | (refine Rt.block ?_) | (refine Pn.then ?_) | (refine Pn.block ?_) | (refine CL.done ?_) | (refine Nm.block ?_) | (refine Nm.then ?_) | (refine Gt.nil ?_; refine RW.nilw [0, 1, 4, 5, 10, 14, 25] ?_; dsimp only [H.keep, H.look, H.Fr.put, Nat.beq]) | (refine Gt.move ?_; refine RW.y (Y.move rfl) rfl ?_) | (refine Gt.assign ?_; refine RW.y (Y.assign rfl) rfl ?_) | (refine Gt.len ?_; first | (refine RW.y (Y.lenv rfl) rfl ?_) | (refine RW.y (Y.lenx rfl (by assumption)) rfl ?_)) | (refine Gt.idx ?_; refine RW.elemS rfl rfl rfl rfl (by assumption) (by omega) (by omega) ?_) | (refine Gt.load ?_; refine RW.y (Y.loadB rfl (by assumption) rfl) rfl ?_) | (refine Gt.neq ?_; first | (refine RW.y (Y.nei rfl rfl) rfl ?_) | (refine RW.y (Y.nes rfl rfl) rfl ?_)) | (refine Gt.lss ?_; refine RW.y (Y.lss rfl rfl) rfl ?_) | (refine Gt.add ?_; refine RW.y (Y.add64 rfl rfl (by omega) (by omega)) rfl ?_))
  · rename_i h
    refine FQ.one rfl rfl rfl ⟨Kept.refl _ _, ?_⟩
    rw [decide_eq_false]
    intro c; subst c; exact h rfl
  rename_i hlen
  have hlen' : a.length = b.length := by omega
  refine CL.loopS [0, 1, 5] (fun m vals wr => ∃ (i : Nat), vals = [v, u, .int .i64 (i : Int)] ∧ m = a.length - i ∧ i ≤ a.length ∧ a.take i = b.take i ∧ K0 w wr) a.length ⟨_, rfl, 0, rfl, rfl, Nat.zero_le _, rfl, Kept.refl _ _⟩ ?_
  rintro m vals wr ⟨i, rfl, rfl, hil, heq, hk⟩
  dsimp only [List.zip, List.zipWith]
  have ha' := ha.keep0 hk
  have hb' := hb.keep0 hk
  rcases Nat.lt_or_ge i a.length with hlt | hge
  · repeat' (first | (refine CL.seq ?_) | (refine CL.region ?_) | (refine CL.skip ?_) | (refine CL.condP rfl (fun _ => ?_) (fun _ => ?_) <;> try (exfalso; omega)) | (refine CL.condT rfl ?_) | (refine CL.condF rfl ?_) | (refine CL.cond rfl (fun _ => ?_) (fun _ => ?_)) | (refine CL.block ?_) | (refine CL.exit ?_) | (refine Ex.then ?_) | (refine Ex.hit ?_) | (refine Ex.miss rfl ?_) | (refine CL.ret ?_) | (refine Rt.then ?_) | (refine Rt.block ?_) | (refine Pn.then ?_) | (refine Pn.block ?_) | (refine CL.done ?_) | (refine Nm.block ?_) | (refine Nm.then ?_) | (refine Gt.nil ?_; refine RW.nilw [0, 1, 4, 5, 10, 14, 25] ?_; dsimp only [H.keep, H.look, H.Fr.put, Nat.beq]) | (refine Gt.move ?_; refine RW.y (Y.move rfl) rfl ?_) | (refine Gt.assign ?_; refine RW.y (Y.assign rfl) rfl ?_) | (refine Gt.len ?_; first | (refine RW.y (Y.lenv rfl) rfl ?_) | (refine RW.y (Y.lenx rfl (by assumption)) rfl ?_)) | (refine Gt.idx ?_; refine RW.elemS rfl rfl rfl rfl (by assumption) (by omega) (by omega) ?_) | (refine Gt.load ?_; refine RW.y (Y.loadB rfl (by assumption) rfl) rfl ?_) | (refine Gt.neq ?_; first | (refine RW.y (Y.nei rfl rfl) rfl ?_) | (refine RW.y (Y.nes rfl rfl) rfl ?_)) | (refine Gt.lss ?_; refine RW.y (Y.lss rfl rfl) rfl ?_) | (refine Gt.add ?_; refine RW.y (Y.add64 rfl rfl (by omega) (by omega)) rfl ?_))
    refine CL.draw (fun w' => Kept (fun _ => False) wr w') (by kernel_rfl) (fun w4 hheap hk4 => ?_)
    have hS : Kept (fun _ => False) wr w4 := hk4
    have hc1 : ∀ {w' : World}, K0 wr w' → w'.cell? (Value.spot v (((i : Int)).toNat * 1)) = some (vs (a.getD i [])) := fun h => by rw [Int.toNat_natCast, Nat.mul_one]; exact (ha'.keep0 h).cell (sv_at hlt)
    have hc2 : ∀ {w' : World}, K0 wr w' → w'.cell? (Value.spot u (((i : Int)).toNat * 1)) = some (vs (b.getD i [])) := fun h => by rw [Int.toNat_natCast, Nat.mul_one]; exact (hb'.keep0 h).cell (sv_at (by omega))
    skip
    refine AW.take 0 rfl (by kernel_rfl) (by kernel_rfl) (by kernel_rfl) rfl (by assumption) (fun w hS => Y.move rfl) ?_
    refine AW.take 1 rfl (by kernel_rfl) (by kernel_rfl) (by kernel_rfl) rfl (by assumption) (fun w hS => Y.move rfl) ?_
    refine AW.take 2 rfl (by kernel_rfl) (by kernel_rfl) (by kernel_rfl) rfl (by assumption) (fun w hS => Y.idx rfl rfl (ha'.keep0 hS) (by omega) (by omega)) ?_
    refine AW.take 3 rfl (by kernel_rfl) (by kernel_rfl) (by kernel_rfl) rfl (by assumption) (fun w hS => Y.load1 rfl (hc1 hS)) ?_
    refine AW.take 4 rfl (by kernel_rfl) (by kernel_rfl) (by kernel_rfl) rfl (by assumption) (fun w hS => Y.move rfl) ?_
    refine AW.take 5 rfl (by kernel_rfl) (by kernel_rfl) (by kernel_rfl) rfl (by assumption) (fun w hS => Y.move rfl) ?_
    refine AW.take 6 rfl (by kernel_rfl) (by kernel_rfl) (by kernel_rfl) rfl (by assumption) (fun w hS => Y.idx rfl rfl (hb'.keep0 hS) (by omega) (by omega)) ?_
    refine AW.take 7 rfl (by kernel_rfl) (by kernel_rfl) (by kernel_rfl) rfl (by assumption) (fun w hS => Y.load1 rfl (hc2 hS)) ?_
    refine AW.take 8 rfl (by kernel_rfl) (by kernel_rfl) (by kernel_rfl) rfl (by assumption) (fun w hS => by first | exact Y.nei rfl rfl | exact Y.nes rfl rfl | exact Y.nepn rfl rfl) ?_
    refine AW.donew [0, 1, 5, 25] (by kernel_rfl) ?_
    dsimp only [H.keep, H.look, H.Fr.put, Nat.beq]
    repeat' (first | (refine CL.seq ?_) | (refine CL.region ?_) | (refine CL.skip ?_) | (refine CL.condP rfl (fun _ => ?_) (fun _ => ?_) <;> try (exfalso; omega)) | (refine CL.condT rfl ?_) | (refine CL.condF rfl ?_) | (refine CL.cond rfl (fun _ => ?_) (fun _ => ?_)) | (refine CL.block ?_) | (refine CL.exit ?_) | (refine Ex.then ?_) | (refine Ex.hit ?_) | (refine Ex.miss rfl ?_) | (refine CL.ret ?_) | (refine Rt.then ?_) | (refine Rt.block ?_) | (refine Pn.then ?_) | (refine Pn.block ?_) | (refine CL.done ?_) | (refine Nm.block ?_) | (refine Nm.then ?_) | (refine Gt.nil ?_; refine RW.nilw [0, 1, 4, 5, 10, 14, 25] ?_; dsimp only [H.keep, H.look, H.Fr.put, Nat.beq]) | (refine Gt.move ?_; refine RW.y (Y.move rfl) rfl ?_) | (refine Gt.assign ?_; refine RW.y (Y.assign rfl) rfl ?_) | (refine Gt.len ?_; first | (refine RW.y (Y.lenv rfl) rfl ?_) | (refine RW.y (Y.lenx rfl (by assumption)) rfl ?_)) | (refine Gt.idx ?_; refine RW.elemS rfl rfl rfl rfl (by assumption) (by omega) (by omega) ?_) | (refine Gt.load ?_; refine RW.y (Y.loadB rfl (by assumption) rfl) rfl ?_) | (refine Gt.neq ?_; first | (refine RW.y (Y.nei rfl rfl) rfl ?_) | (refine RW.y (Y.nes rfl rfl) rfl ?_)) | (refine Gt.lss ?_; refine RW.y (Y.lss rfl rfl) rfl ?_) | (refine Gt.add ?_; refine RW.y (Y.add64 rfl rfl (by omega) (by omega)) rfl ?_))
    · rename_i h
      refine FQ.one rfl rfl rfl ⟨hk.trans0 hk4, ?_⟩
      rw [decide_eq_false]
      intro c; subst c; exact h rfl
    · rename_i h
      have hx : a.getD i [] = b.getD i [] := Decidable.not_not.1 h
      refine ⟨a.length - (i + 1), _, rfl, rfl, rfl, by omega, i + 1, by simp, rfl, by omega, ?_, hk.trans0 hk4⟩
      have h1 := take_snoc a i hlt
      have h2 := take_snoc b i (by omega)
      rw [h1, h2, heq]
      congr 2
  · have hi : i = a.length := by omega
    subst hi
    rw [List.take_length, hlen', List.take_length] at heq
    repeat' (first | (refine CL.seq ?_) | (refine CL.region ?_) | (refine CL.skip ?_) | (refine CL.condP rfl (fun _ => ?_) (fun _ => ?_) <;> try (exfalso; omega)) | (refine CL.condT rfl ?_) | (refine CL.condF rfl ?_) | (refine CL.cond rfl (fun _ => ?_) (fun _ => ?_)) | (refine CL.block ?_) | (refine CL.exit ?_) | (refine Ex.then ?_) | (refine Ex.hit ?_) | (refine Ex.miss rfl ?_) | (refine CL.ret ?_) | (refine Rt.then ?_) | (refine Rt.block ?_) | (refine Pn.then ?_) | (refine Pn.block ?_) | (refine CL.done ?_) | (refine Nm.block ?_) | (refine Nm.then ?_) | (refine Gt.nil ?_; refine RW.nilw [0, 1, 4, 5, 10, 14, 25] ?_; dsimp only [H.keep, H.look, H.Fr.put, Nat.beq]) | (refine Gt.move ?_; refine RW.y (Y.move rfl) rfl ?_) | (refine Gt.assign ?_; refine RW.y (Y.assign rfl) rfl ?_) | (refine Gt.len ?_; first | (refine RW.y (Y.lenv rfl) rfl ?_) | (refine RW.y (Y.lenx rfl (by assumption)) rfl ?_)) | (refine Gt.idx ?_; refine RW.elemS rfl rfl rfl rfl (by assumption) (by omega) (by omega) ?_) | (refine Gt.load ?_; refine RW.y (Y.loadB rfl (by assumption) rfl) rfl ?_) | (refine Gt.neq ?_; first | (refine RW.y (Y.nei rfl rfl) rfl ?_) | (refine RW.y (Y.nes rfl rfl) rfl ?_)) | (refine Gt.lss ?_; refine RW.y (Y.lss rfl rfl) rfl ?_) | (refine Gt.add ?_; refine RW.y (Y.add64 rfl rfl (by omega) (by omega)) rfl ?_))
    refine FQ.one rfl rfl rfl ⟨hk, ?_⟩
    rw [decide_eq_true heq]
end Go.Proofs.YtcnmgiflogjfeaaDoor.Pa
