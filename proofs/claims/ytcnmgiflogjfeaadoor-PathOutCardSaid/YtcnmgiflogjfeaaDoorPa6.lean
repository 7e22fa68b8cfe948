/-
  The program's paths: Join, Clean.
-/
import Derived.Test.YtcnmgiflogjfeaaDoorPa5
namespace Go.Proofs.YtcnmgiflogjfeaaDoor.Pa
open Go.RowKit H S
attribute [local irreducible] H.CL H.RW H.CW H.Yd H.thenK H.blockQ Go.Calls

theorem join_glue : ∀ (l : List (List UInt8)), Go.Lib.join l [47] = glueL l := by
  intro l
  unfold Go.Lib.join
  induction l with
  | nil => rfl
  | cons a r ih =>
    cases r with
    | nil => simp [glueL, List.intercalate]
    | cons b r =>
      rw [glueL, ← ih]
      simp [List.intercalate, List.intersperse]

theorem cleanA_total {stay : Nat} : ∀ (xs : List (List UInt8)) {out r : List (List UInt8)}, cleanA stay out xs = .ok r → total r ≤ total out + total xs := by
  intro xs
  induction xs with
  | nil => intro out r h; cases h; simp [total]
  | cons p xs ih =>
    intro out r h
    have ht : total (p :: xs) = p.length + 1 + total xs := by simp [total]
    simp only [cleanA] at h
    split at h
    · have := ih h; omega
    · split at h
      · split at h
        · cases h
        · have := ih h; have := total_drop out; omega
      · split at h
        · cases h
        · have := ih h; have := total_snoc out p; omega

theorem total_split (d : List UInt8) : total (splitB 47 d) ≤ (d.length + 1) * (d.length + 1) := by
  by_cases h : d = []
  · subst h; simp [splitB, total]
  · have := total_parts d; rwa [partsL, if_neg h] at this

theorem cleanA_err_no {stay : Nat} : ∀ (xs : List (List UInt8)) {out : List (List UInt8)} {n : Int}, cleanA stay out xs = .error n → n = 50 ∨ n = 51 := by
  intro xs
  induction xs with
  | nil => intro out n h; cases h
  | cons p xs ih =>
    intro out n h
    simp only [cleanA] at h
    split at h
    · exact ih h
    · split at h
      · split at h
        · cases h; exact .inr rfl
        · exact ih h
      · split at h
        · cases h; exact .inl rfl
        · exact ih h
theorem walk_err {s : List UInt8} {base : List (List UInt8)} {n : Int} (h : walkL s base = .error n) : n = 50 ∨ n = 51 := by
  unfold walkL at h
  split at h
  · cases h; exact .inr rfl
  · split at h
    · rename_i e hc; cases h; exact cleanA_err_no _ hc
    · split at h
      · cases h; exact .inl rfl
      · cases h
theorem walk_total {s : List UInt8} {base out : List (List UInt8)} (h : walkL s base = .ok out) : total out ≤ total base + total (splitB 47 s) := by
  unfold walkL at h
  split at h
  · cases h
  · split at h
    · cases h
    · rename_i r hc
      split at h
      · cases h
      · cases h; exact cleanA_total _ hc

set_option maxHeartbeats 1000000 in
theorem joinW (d s : List UInt8) (hd1 : d.length ≤ 900) (hs1 : s.length ≤ 900) (w : World) : Calls Tryd.prog 21 #[vs d, vs s] w fun e w' => e = .returned (.tuple #[vs (joinL d s).1, .int .i64 (joinL d s).2]) ∧ K0 w w' := by
  have ht := total_parts d
  have ht2 := total_split s
  have hm : (d.length + 1) * (d.length + 1) ≤ 901 * 901 := Nat.mul_le_mul (by omega) (by omega)
  have hm2 : (s.length + 1) * (s.length + 1) ≤ 901 * 901 := Nat.mul_le_mul (by omega) (by omega)
  have hpl : (partsL d).length ≤ 900 + 1 := by
    unfold partsL
    split
    · simp
    · have h2 := splitB_len 47 d
      have h3 : d.count 47 ≤ d.length := List.count_le_length
      omega
  obtain ⟨R, hR⟩ : ∃ R, R = joinL d s := ⟨_, rfl⟩
  rw [← hR]
  unfold joinL cleanL at hR
  have fin : ∀ o, (match walkL s (partsL d) with | .error e => (([] : List UInt8), e) | .ok out => (glueL out, (0 : Int))) = o → (if s.take 1 = [47] then (([] : List UInt8), (51 : Int)) else match cleanA (partsL d).length (partsL d) (splitB 47 s) with
    | .error e => ([], e)
    | .ok out => if 12 < out.length then ([], 50) else (glueL out, 0)) = o := by
    rintro o rfl
    unfold walkL
    split
    · rfl
    · cases cleanA (partsL d).length (partsL d) (splitB 47 s) with
      | error e => rfl
      | ok out => dsimp only; split <;> rfl
  refine H.enter Tryd.func21 Tryd.ntmps21 rfl rfl ?_; dsimp only [H.args]
  repeat' (first | (refine CL.seq ?_) | (refine CL.region ?_) | (refine CL.skip ?_) | (refine CL.condP rfl (fun _ => ?_) (fun _ => ?_) <;> try (exfalso; omega)) | (refine CL.condT rfl ?_) | (refine CL.condF rfl ?_) | (refine CL.cond rfl (fun _ => ?_) (fun _ => ?_)) | (refine CL.block ?_) | (refine CL.exit ?_) | (refine Ex.then ?_) | (refine Ex.hit ?_) | (refine Ex.miss rfl ?_) | (refine CL.ret ?_) | (refine Rt.then ?_) | (refine Rt.block ?_) | (refine Pn.then ?_) | (refine Pn.block ?_) | (refine CL.done ?_) | (refine Nm.block ?_) | (refine Nm.then ?_) | (refine Gt.nil ?_; refine RW.nilw [0, 1, 4, 5, 6, 7, 8, 12, 19, 28] ?_; dsimp only [H.keep, H.look, H.Fr.put, Nat.beq]) | (refine Gt.assign ?_; refine RW.y (Y.assign rfl) rfl ?_) | (refine Gt.move ?_; refine RW.y (Y.move rfl) rfl ?_) | (refine Gt.len ?_; refine RW.y (Y.lens rfl) rfl ?_) | (refine Gt.add ?_; refine RW.y (Y.add64 rfl rfl (by omega) (by omega)) rfl ?_) | (refine Gt.extract ?_; refine RW.y (Y.extract rfl rfl) rfl ?_) | (refine Gt.neq ?_; first | (refine RW.y (Y.nes rfl rfl) rfl ?_) | (refine RW.y (Y.nei rfl rfl) rfl ?_)) | (refine Gt.gtr ?_; refine RW.y (Y.gtr rfl rfl) rfl ?_))
  · rename_i h1 h2
    rw [if_pos ⟨h1, by omega⟩] at hR
    subst hR
    exact FQ.two rfl rfl rfl rfl ⟨rfl, Kept.refl _ _⟩
  · rename_i h1 h2
    rw [if_neg (fun h => by have := h.2; omega), if_neg (by omega)] at hR
    have hR' := hR.trans (fin _ rfl)
    refine RW.fn rfl rfl ((parts d (by omega) w).mono ?_)
    rintro e w1 ⟨v1, rfl, how1, hk1⟩
    repeat' (first | (refine CL.seq ?_) | (refine CL.region ?_) | (refine CL.skip ?_) | (refine CL.condP rfl (fun _ => ?_) (fun _ => ?_) <;> try (exfalso; omega)) | (refine CL.condT rfl ?_) | (refine CL.condF rfl ?_) | (refine CL.cond rfl (fun _ => ?_) (fun _ => ?_)) | (refine CL.block ?_) | (refine CL.exit ?_) | (refine Ex.then ?_) | (refine Ex.hit ?_) | (refine Ex.miss rfl ?_) | (refine CL.ret ?_) | (refine Rt.then ?_) | (refine Rt.block ?_) | (refine Pn.then ?_) | (refine Pn.block ?_) | (refine CL.done ?_) | (refine Nm.block ?_) | (refine Nm.then ?_) | (refine Gt.nil ?_; refine RW.nilw [0, 1, 4, 5, 6, 7, 8, 12, 19, 28] ?_; dsimp only [H.keep, H.look, H.Fr.put, Nat.beq]) | (refine Gt.assign ?_; refine RW.y (Y.assign rfl) rfl ?_) | (refine Gt.move ?_; refine RW.y (Y.move rfl) rfl ?_) | (refine Gt.len ?_; refine RW.y (Y.lens rfl) rfl ?_) | (refine Gt.add ?_; refine RW.y (Y.add64 rfl rfl (by omega) (by omega)) rfl ?_) | (refine Gt.extract ?_; refine RW.y (Y.extract rfl rfl) rfl ?_) | (refine Gt.neq ?_; first | (refine RW.y (Y.nes rfl rfl) rfl ?_) | (refine RW.y (Y.nei rfl rfl) rfl ?_)) | (refine Gt.gtr ?_; refine RW.y (Y.gtr rfl rfl) rfl ?_))
    refine RW.fn rfl rfl ((walk (partsL d) s (by omega) (by omega) v1 w.heap.size w1 hk1.size how1).mono ?_)
    rintro e w2 ⟨hk2, h2⟩
    have hk02 : K0 w w2 := hk1.trans hk2 fun k h => .inr (how1.lt k h).1
    cases hw : walkL s (partsL d) with
    | error n =>
      rw [hw] at h2 hR'
      have hn := walk_err hw
      dsimp only at h2 hR'
      subst h2 hR'
      repeat' (first | (refine CL.seq ?_) | (refine CL.region ?_) | (refine CL.skip ?_) | (refine CL.condP rfl (fun _ => ?_) (fun _ => ?_) <;> try (exfalso; omega)) | (refine CL.condT rfl ?_) | (refine CL.condF rfl ?_) | (refine CL.cond rfl (fun _ => ?_) (fun _ => ?_)) | (refine CL.block ?_) | (refine CL.exit ?_) | (refine Ex.then ?_) | (refine Ex.hit ?_) | (refine Ex.miss rfl ?_) | (refine CL.ret ?_) | (refine Rt.then ?_) | (refine Rt.block ?_) | (refine Pn.then ?_) | (refine Pn.block ?_) | (refine CL.done ?_) | (refine Nm.block ?_) | (refine Nm.then ?_) | (refine Gt.nil ?_; refine RW.nilw [0, 1, 4, 5, 6, 7, 8, 12, 19, 28] ?_; dsimp only [H.keep, H.look, H.Fr.put, Nat.beq]) | (refine Gt.assign ?_; refine RW.y (Y.assign rfl) rfl ?_) | (refine Gt.move ?_; refine RW.y (Y.move rfl) rfl ?_) | (refine Gt.len ?_; refine RW.y (Y.lens rfl) rfl ?_) | (refine Gt.add ?_; refine RW.y (Y.add64 rfl rfl (by omega) (by omega)) rfl ?_) | (refine Gt.extract ?_; refine RW.y (Y.extract rfl rfl) rfl ?_) | (refine Gt.neq ?_; first | (refine RW.y (Y.nes rfl rfl) rfl ?_) | (refine RW.y (Y.nei rfl rfl) rfl ?_)) | (refine Gt.gtr ?_; refine RW.y (Y.gtr rfl rfl) rfl ?_))
      exact FQ.two rfl rfl rfl rfl ⟨rfl, hk02⟩
    | ok out =>
      rw [hw] at h2 hR'
      have htl := walk_total hw
      have hgl := glueL_len out
      have hol := total_len out
      dsimp only at h2 hR'
      obtain ⟨v2, rfl, how2⟩ := h2
      subst hR'
      repeat' (first | (refine CL.seq ?_) | (refine CL.region ?_) | (refine CL.skip ?_) | (refine CL.condP rfl (fun _ => ?_) (fun _ => ?_) <;> try (exfalso; omega)) | (refine CL.condT rfl ?_) | (refine CL.condF rfl ?_) | (refine CL.cond rfl (fun _ => ?_) (fun _ => ?_)) | (refine CL.block ?_) | (refine CL.exit ?_) | (refine Ex.then ?_) | (refine Ex.hit ?_) | (refine Ex.miss rfl ?_) | (refine CL.ret ?_) | (refine Rt.then ?_) | (refine Rt.block ?_) | (refine Pn.then ?_) | (refine Pn.block ?_) | (refine CL.done ?_) | (refine Nm.block ?_) | (refine Nm.then ?_) | (refine Gt.nil ?_; refine RW.nilw [0, 1, 4, 5, 6, 7, 8, 12, 19, 28] ?_; dsimp only [H.keep, H.look, H.Fr.put, Nat.beq]) | (refine Gt.assign ?_; refine RW.y (Y.assign rfl) rfl ?_) | (refine Gt.move ?_; refine RW.y (Y.move rfl) rfl ?_) | (refine Gt.len ?_; refine RW.y (Y.lens rfl) rfl ?_) | (refine Gt.add ?_; refine RW.y (Y.add64 rfl rfl (by omega) (by omega)) rfl ?_) | (refine Gt.extract ?_; refine RW.y (Y.extract rfl rfl) rfl ?_) | (refine Gt.neq ?_; first | (refine RW.y (Y.nes rfl rfl) rfl ?_) | (refine RW.y (Y.nei rfl rfl) rfl ?_)) | (refine Gt.gtr ?_; refine RW.y (Y.gtr rfl rfl) rfl ?_))
      refine RW.fn rfl rfl ((join v2 out [47] w2 (Sl.of_own how2) (by rw [join_glue]; omega) (by omega)).mono ?_)
      rintro e w3 ⟨rfl, hk3⟩
      rw [join_glue]
      repeat' (first | (refine CL.seq ?_) | (refine CL.region ?_) | (refine CL.skip ?_) | (refine CL.condP rfl (fun _ => ?_) (fun _ => ?_) <;> try (exfalso; omega)) | (refine CL.condT rfl ?_) | (refine CL.condF rfl ?_) | (refine CL.cond rfl (fun _ => ?_) (fun _ => ?_)) | (refine CL.block ?_) | (refine CL.exit ?_) | (refine Ex.then ?_) | (refine Ex.hit ?_) | (refine Ex.miss rfl ?_) | (refine CL.ret ?_) | (refine Rt.then ?_) | (refine Rt.block ?_) | (refine Pn.then ?_) | (refine Pn.block ?_) | (refine CL.done ?_) | (refine Nm.block ?_) | (refine Nm.then ?_) | (refine Gt.nil ?_; refine RW.nilw [0, 1, 4, 5, 6, 7, 8, 12, 19, 28] ?_; dsimp only [H.keep, H.look, H.Fr.put, Nat.beq]) | (refine Gt.assign ?_; refine RW.y (Y.assign rfl) rfl ?_) | (refine Gt.move ?_; refine RW.y (Y.move rfl) rfl ?_) | (refine Gt.len ?_; refine RW.y (Y.lens rfl) rfl ?_) | (refine Gt.add ?_; refine RW.y (Y.add64 rfl rfl (by omega) (by omega)) rfl ?_) | (refine Gt.extract ?_; refine RW.y (Y.extract rfl rfl) rfl ?_) | (refine Gt.neq ?_; first | (refine RW.y (Y.nes rfl rfl) rfl ?_) | (refine RW.y (Y.nei rfl rfl) rfl ?_)) | (refine Gt.gtr ?_; refine RW.y (Y.gtr rfl rfl) rfl ?_))
      exact FQ.two rfl rfl rfl rfl ⟨rfl, hk02.trans0 hk3⟩
  · rename_i h1 h2
    rw [if_neg (fun h => h1 h.1), if_pos (by omega)] at hR
    subst hR
    exact FQ.two rfl rfl rfl rfl ⟨rfl, Kept.refl _ _⟩
  · rename_i h1 h2
    rw [if_neg (fun h => h1 h.1), if_neg (by omega)] at hR
    have hR' := hR.trans (fin _ rfl)
    refine RW.fn rfl rfl ((parts d (by omega) w).mono ?_)
    rintro e w1 ⟨v1, rfl, how1, hk1⟩
    repeat' (first | (refine CL.seq ?_) | (refine CL.region ?_) | (refine CL.skip ?_) | (refine CL.condP rfl (fun _ => ?_) (fun _ => ?_) <;> try (exfalso; omega)) | (refine CL.condT rfl ?_) | (refine CL.condF rfl ?_) | (refine CL.cond rfl (fun _ => ?_) (fun _ => ?_)) | (refine CL.block ?_) | (refine CL.exit ?_) | (refine Ex.then ?_) | (refine Ex.hit ?_) | (refine Ex.miss rfl ?_) | (refine CL.ret ?_) | (refine Rt.then ?_) | (refine Rt.block ?_) | (refine Pn.then ?_) | (refine Pn.block ?_) | (refine CL.done ?_) | (refine Nm.block ?_) | (refine Nm.then ?_) | (refine Gt.nil ?_; refine RW.nilw [0, 1, 4, 5, 6, 7, 8, 12, 19, 28] ?_; dsimp only [H.keep, H.look, H.Fr.put, Nat.beq]) | (refine Gt.assign ?_; refine RW.y (Y.assign rfl) rfl ?_) | (refine Gt.move ?_; refine RW.y (Y.move rfl) rfl ?_) | (refine Gt.len ?_; refine RW.y (Y.lens rfl) rfl ?_) | (refine Gt.add ?_; refine RW.y (Y.add64 rfl rfl (by omega) (by omega)) rfl ?_) | (refine Gt.extract ?_; refine RW.y (Y.extract rfl rfl) rfl ?_) | (refine Gt.neq ?_; first | (refine RW.y (Y.nes rfl rfl) rfl ?_) | (refine RW.y (Y.nei rfl rfl) rfl ?_)) | (refine Gt.gtr ?_; refine RW.y (Y.gtr rfl rfl) rfl ?_))
    refine RW.fn rfl rfl ((walk (partsL d) s (by omega) (by omega) v1 w.heap.size w1 hk1.size how1).mono ?_)
    rintro e w2 ⟨hk2, h2⟩
    have hk02 : K0 w w2 := hk1.trans hk2 fun k h => .inr (how1.lt k h).1
    cases hw : walkL s (partsL d) with
    | error n =>
      rw [hw] at h2 hR'
      have hn := walk_err hw
      dsimp only at h2 hR'
      subst h2 hR'
      repeat' (first | (refine CL.seq ?_) | (refine CL.region ?_) | (refine CL.skip ?_) | (refine CL.condP rfl (fun _ => ?_) (fun _ => ?_) <;> try (exfalso; omega)) | (refine CL.condT rfl ?_) | (refine CL.condF rfl ?_) | (refine CL.cond rfl (fun _ => ?_) (fun _ => ?_)) | (refine CL.block ?_) | (refine CL.exit ?_) | (refine Ex.then ?_) | (refine Ex.hit ?_) | (refine Ex.miss rfl ?_) | (refine CL.ret ?_) | (refine Rt.then ?_) | (refine Rt.block ?_) | (refine Pn.then ?_) | (refine Pn.block ?_) | (refine CL.done ?_) | (refine Nm.block ?_) | (refine Nm.then ?_) | (refine Gt.nil ?_; refine RW.nilw [0, 1, 4, 5, 6, 7, 8, 12, 19, 28] ?_; dsimp only [H.keep, H.look, H.Fr.put, Nat.beq]) | (refine Gt.assign ?_; refine RW.y (Y.assign rfl) rfl ?_) | (refine Gt.move ?_; refine RW.y (Y.move rfl) rfl ?_) | (refine Gt.len ?_; refine RW.y (Y.lens rfl) rfl ?_) | (refine Gt.add ?_; refine RW.y (Y.add64 rfl rfl (by omega) (by omega)) rfl ?_) | (refine Gt.extract ?_; refine RW.y (Y.extract rfl rfl) rfl ?_) | (refine Gt.neq ?_; first | (refine RW.y (Y.nes rfl rfl) rfl ?_) | (refine RW.y (Y.nei rfl rfl) rfl ?_)) | (refine Gt.gtr ?_; refine RW.y (Y.gtr rfl rfl) rfl ?_))
      exact FQ.two rfl rfl rfl rfl ⟨rfl, hk02⟩
    | ok out =>
      rw [hw] at h2 hR'
      have htl := walk_total hw
      have hgl := glueL_len out
      have hol := total_len out
      dsimp only at h2 hR'
      obtain ⟨v2, rfl, how2⟩ := h2
      subst hR'
      repeat' (first | (refine CL.seq ?_) | (refine CL.region ?_) | (refine CL.skip ?_) | (refine CL.condP rfl (fun _ => ?_) (fun _ => ?_) <;> try (exfalso; omega)) | (refine CL.condT rfl ?_) | (refine CL.condF rfl ?_) | (refine CL.cond rfl (fun _ => ?_) (fun _ => ?_)) | (refine CL.block ?_) | (refine CL.exit ?_) | (refine Ex.then ?_) | (refine Ex.hit ?_) | (refine Ex.miss rfl ?_) | (refine CL.ret ?_) | (refine Rt.then ?_) | (refine Rt.block ?_) | (refine Pn.then ?_) | (refine Pn.block ?_) | (refine CL.done ?_) | (refine Nm.block ?_) | (refine Nm.then ?_) | (refine Gt.nil ?_; refine RW.nilw [0, 1, 4, 5, 6, 7, 8, 12, 19, 28] ?_; dsimp only [H.keep, H.look, H.Fr.put, Nat.beq]) | (refine Gt.assign ?_; refine RW.y (Y.assign rfl) rfl ?_) | (refine Gt.move ?_; refine RW.y (Y.move rfl) rfl ?_) | (refine Gt.len ?_; refine RW.y (Y.lens rfl) rfl ?_) | (refine Gt.add ?_; refine RW.y (Y.add64 rfl rfl (by omega) (by omega)) rfl ?_) | (refine Gt.extract ?_; refine RW.y (Y.extract rfl rfl) rfl ?_) | (refine Gt.neq ?_; first | (refine RW.y (Y.nes rfl rfl) rfl ?_) | (refine RW.y (Y.nei rfl rfl) rfl ?_)) | (refine Gt.gtr ?_; refine RW.y (Y.gtr rfl rfl) rfl ?_))
      refine RW.fn rfl rfl ((join v2 out [47] w2 (Sl.of_own how2) (by rw [join_glue]; omega) (by omega)).mono ?_)
      rintro e w3 ⟨rfl, hk3⟩
      rw [join_glue]
      repeat' (first | (refine CL.seq ?_) | (refine CL.region ?_) | (refine CL.skip ?_) | (refine CL.condP rfl (fun _ => ?_) (fun _ => ?_) <;> try (exfalso; omega)) | (refine CL.condT rfl ?_) | (refine CL.condF rfl ?_) | (refine CL.cond rfl (fun _ => ?_) (fun _ => ?_)) | (refine CL.block ?_) | (refine CL.exit ?_) | (refine Ex.then ?_) | (refine Ex.hit ?_) | (refine Ex.miss rfl ?_) | (refine CL.ret ?_) | (refine Rt.then ?_) | (refine Rt.block ?_) | (refine Pn.then ?_) | (refine Pn.block ?_) | (refine CL.done ?_) | (refine Nm.block ?_) | (refine Nm.then ?_) | (refine Gt.nil ?_; refine RW.nilw [0, 1, 4, 5, 6, 7, 8, 12, 19, 28] ?_; dsimp only [H.keep, H.look, H.Fr.put, Nat.beq]) | (refine Gt.assign ?_; refine RW.y (Y.assign rfl) rfl ?_) | (refine Gt.move ?_; refine RW.y (Y.move rfl) rfl ?_) | (refine Gt.len ?_; refine RW.y (Y.lens rfl) rfl ?_) | (refine Gt.add ?_; refine RW.y (Y.add64 rfl rfl (by omega) (by omega)) rfl ?_) | (refine Gt.extract ?_; refine RW.y (Y.extract rfl rfl) rfl ?_) | (refine Gt.neq ?_; first | (refine RW.y (Y.nes rfl rfl) rfl ?_) | (refine RW.y (Y.nei rfl rfl) rfl ?_)) | (refine Gt.gtr ?_; refine RW.y (Y.gtr rfl rfl) rfl ?_))
      exact FQ.two rfl rfl rfl rfl ⟨rfl, hk02.trans0 hk3⟩

theorem clean (s : List UInt8) (hs1 : s.length ≤ 900) (w : World) : Calls Tryd.prog 10 #[vs s] w fun e w' => e = .returned (.tuple #[vs (joinL [] s).1, .int .i64 (joinL [] s).2]) ∧ K0 w w' := by
  refine H.enter Tryd.func10 Tryd.ntmps10 rfl rfl ?_; dsimp only [H.args]
  repeat' (first | (refine CL.seq ?_) | (refine CL.region ?_) | (refine CL.skip ?_) | (refine CL.condP rfl (fun _ => ?_) (fun _ => ?_) <;> try (exfalso; omega)) | (refine CL.condT rfl ?_) | (refine CL.condF rfl ?_) | (refine CL.cond rfl (fun _ => ?_) (fun _ => ?_)) | (refine CL.block ?_) | (refine CL.exit ?_) | (refine Ex.then ?_) | (refine Ex.hit ?_) | (refine Ex.miss rfl ?_) | (refine CL.ret ?_) | (refine Rt.then ?_) | (refine Rt.block ?_) | (refine Pn.then ?_) | (refine Pn.block ?_) | (refine CL.done ?_) | (refine Nm.block ?_) | (refine Nm.then ?_) | (refine Gt.nil ?_; refine RW.nilw [0, 2, 3] ?_; dsimp only [H.keep, H.look, H.Fr.put, Nat.beq]) | (refine Gt.assign ?_; refine RW.y (Y.assign rfl) rfl ?_) | (refine Gt.extract ?_; refine RW.y (Y.extract rfl rfl) rfl ?_) | (refine Gt.move ?_; refine RW.y (Y.move rfl) rfl ?_))
  refine RW.fn rfl rfl ((joinW [] s (by simp) hs1 w).mono ?_)
  rintro e w1 ⟨rfl, hk⟩
  repeat' (first | (refine CL.seq ?_) | (refine CL.region ?_) | (refine CL.skip ?_) | (refine CL.condP rfl (fun _ => ?_) (fun _ => ?_) <;> try (exfalso; omega)) | (refine CL.condT rfl ?_) | (refine CL.condF rfl ?_) | (refine CL.cond rfl (fun _ => ?_) (fun _ => ?_)) | (refine CL.block ?_) | (refine CL.exit ?_) | (refine Ex.then ?_) | (refine Ex.hit ?_) | (refine Ex.miss rfl ?_) | (refine CL.ret ?_) | (refine Rt.then ?_) | (refine Rt.block ?_) | (refine Pn.then ?_) | (refine Pn.block ?_) | (refine CL.done ?_) | (refine Nm.block ?_) | (refine Nm.then ?_) | (refine Gt.nil ?_; refine RW.nilw [0, 2, 3] ?_; dsimp only [H.keep, H.look, H.Fr.put, Nat.beq]) | (refine Gt.assign ?_; refine RW.y (Y.assign rfl) rfl ?_) | (refine Gt.extract ?_; refine RW.y (Y.extract rfl rfl) rfl ?_) | (refine Gt.move ?_; refine RW.y (Y.move rfl) rfl ?_))
  exact FQ.two rfl rfl rfl rfl ⟨rfl, hk⟩
end Go.Proofs.YtcnmgiflogjfeaaDoor.Pa
