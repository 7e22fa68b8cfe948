/-
  Names, ends of texts, lines; the program's and the reference's. Regions that draw their order: one of several may come next. Regions that draw their order and end in writes: what is read before the writes yields what it yields in every world before them. Rows whose beginning was cut off, and that go on growing. A field of a struct that is a value. Arrays that are values: one element; two held against one another. An element of several cells of a row of the call's own written. Sums told and read; the program's and the reference's. Sums read; the program's and the reference's. Elements of rows: where they lie; rows cloned. Pins in memory; lists of pins held against one another; cloned. The reference: pins put in order, told, held against one another. The reference: pins told, held against one another. Regions that draw their order and end in writes, with operations between the writes that touch no memory. Lists put in order by names: plain. Pins put in order in place: few of them, any; many that stand in order. Pins that stand in order are merged without a change; pins put in order. Pins put in order by the library: few, or in order already.
-/
import Derived.Test.YtggodknolmdegaaGreatDoorQb
set_option linter.unusedVariables false
namespace Go.Proofs.YtggodknolmdegaaGreatDoor.Lk
open Go.RowKit H S Ve
attribute [local irreducible] H.CL H.RW H.CW H.Yd H.thenK H.blockQ Go.Calls

theorem small_iff (c : UInt8) : smallB c = true ↔ 97 ≤ (c.toNat : Int) ∧ (c.toNat : Int) ≤ 122 := by
  simp only [smallB, Bool.and_eq_true, decide_eq_true_eq]; omega
theorem nameC_iff (c : UInt8) : nameC c = true ↔ (97 ≤ (c.toNat : Int) ∧ (c.toNat : Int) ≤ 122) ∨ (48 ≤ (c.toNat : Int) ∧ (c.toNat : Int) ≤ 57) ∨ (c.toNat : Int) = 45 := by
  simp only [nameC, Bool.or_eq_true, small_iff, isDig, Bool.and_eq_true, decide_eq_true_eq]; omega
theorem name_iff (s : T) : nameB s = true ↔ (s ≠ [] ∧ s.length ≤ 32 ∧ smallB (s.getD 0 0) = true) ∧ s.all nameC = true := by
  simp only [nameB, Bool.and_eq_true, decide_eq_true_eq]
  have := @List.length_pos_iff _ s
  constructor
  · rintro ⟨⟨⟨a, b⟩, c⟩, d⟩; exact ⟨⟨this.1 a, b, c⟩, d⟩
  · rintro ⟨⟨a, b, c⟩, d⟩; exact ⟨⟨⟨this.2 a, b⟩, c⟩, d⟩

theorem small (c : UInt8) (w : World) : Calls Tryz.prog 63 #[vb c] w fun e w' => w = w' ∧ e = .returned (.bool (smallB c)) := by
  refine H.enter Tryz.func63 Tryz.ntmps63 rfl rfl ?_; dsimp only [H.args]
  repeat' (first | (refine CL.seq ?_) | (refine CL.region ?_) | (refine CL.ret ?_) | (refine Gt.nil ?_; refine RW.nilw [0, 2] ?_; dsimp only [H.keep, H.look, H.Fr.put, Nat.beq]) | (refine Gt.move ?_; refine RW.y (Y.move rfl) rfl ?_) | (refine Gt.guard ?_; first | (refine RW.part rfl rfl rfl (fun _ => ?_) (fun _ => ?_) <;> try (exfalso; omega)) | (refine RW.on rfl rfl rfl ?_) | (refine RW.off1 rfl rfl rfl rfl rfl ?_)) | (refine Gt.assign ?_; refine RW.y (Y.assign rfl) rfl ?_) | (refine Gt.geq ?_; refine RW.y (Y.geq rfl rfl) rfl ?_) | (refine Gt.leq ?_; refine RW.y (Y.leq rfl rfl) rfl ?_) | (refine Gt.pick ?_; first | (refine RW.y (Y.pickT rfl rfl) rfl ?_) | (refine RW.y (Y.pickF rfl rfl) rfl ?_)))
  all_goals exact FQ.one rfl rfl rfl ⟨rfl, retb (by rw [small_iff]; first | (rw [decide_eq_true_eq]; omega) | (exact iff_of_false (by simp) (by omega)))⟩

theorem name (s : T) (hl : s.length ≤ 1000000000000) (w : World) : Calls Tryz.prog 50 #[vs s] w fun e w' => w = w' ∧ e = .returned (.bool (nameB s)) := by
  refine H.enter Tryz.func50 Tryz.ntmps50 rfl rfl ?_; dsimp only [H.args]
  repeat' (first | (refine CL.seq ?_) | (refine CL.region ?_) | (refine CL.condT rfl ?_) | (refine CL.ret ?_) | (refine Gt.nil ?_; refine RW.nilw [0, 2, 3, 4, 17, 19, 20, 21, 26, 29, 36] ?_; dsimp only [H.keep, H.look, H.Fr.put, Nat.beq]) | (refine Gt.move ?_; refine RW.y (Y.move rfl) rfl ?_) | (refine Gt.guard ?_; first | (refine RW.part rfl rfl rfl (fun _ => ?_) (fun _ => ?_) <;> try (exfalso; omega)) | (refine RW.on rfl rfl rfl ?_) | (refine RW.off1 rfl rfl rfl rfl rfl ?_)) | (refine Gt.assign ?_; refine RW.y (Y.assign rfl) rfl ?_) | (refine Gt.pick ?_; first | (refine RW.y (Y.pickT rfl rfl) rfl ?_) | (refine RW.y (Y.pickF rfl rfl) rfl ?_)) | (refine Gt.len ?_; refine RW.y (Y.lens rfl) rfl ?_) | (refine Gt.eql ?_; (refine RW.y (Y.eqs rfl rfl) rfl ?_)) | (refine Gt.gtr ?_; refine RW.y (Y.gtr rfl rfl) rfl ?_))
  · rename_i h
    exact FQ.one rfl rfl rfl ⟨rfl, retb (by rw [name_iff]; simp [h])⟩
  · exact FQ.one rfl rfl rfl ⟨rfl, retb (by rw [name_iff]; simp; omega)⟩
  rename_i hne h32
  have h1 := List.length_pos_iff.2 hne
  repeat' (first | (refine Gt.guard ?_; (refine RW.on rfl rfl rfl ?_)) | (refine Gt.index ?_; refine RW.y (Y.idxs rfl rfl (by omega) (by omega)) rfl ?_))
  refine RW.fn rfl rfl ((small _ w).mono ?_)
  rintro e w' ⟨rfl, rfl⟩
  have e0 : (Int.toNat 0) = 0 := rfl
  rw [e0]
  cases hs : smallB (s.getD 0 0)
  · repeat' (first | (refine CL.seq ?_) | (refine CL.region ?_) | (refine CL.condT rfl ?_) | (refine CL.ret ?_) | (refine Gt.nil ?_; refine RW.nilw [0, 2, 3, 4, 17, 19, 20, 21, 26, 29, 36] ?_; dsimp only [H.keep, H.look, H.Fr.put, Nat.beq]) | (refine Gt.guard ?_; (refine RW.on rfl rfl rfl ?_)) | (refine Gt.assign ?_; refine RW.y (Y.assign rfl) rfl ?_) | (refine Gt.pick ?_; (refine RW.y (Y.pickF rfl rfl) rfl ?_)) | (refine Gt.not ?_; (refine RW.y (Y.notb rfl) rfl ?_)))
    exact FQ.one rfl rfl rfl ⟨rfl, retb (by rw [name_iff, hs]; simp)⟩
  · repeat' (first | (refine CL.seq ?_) | (refine CL.region ?_) | (refine CL.skip ?_) | (refine CL.condF rfl ?_) | (refine CL.block ?_) | (refine Gt.nil ?_; refine RW.nilw [0, 2, 3, 4, 17, 19, 20, 21, 26, 29, 36] ?_; dsimp only [H.keep, H.look, H.Fr.put, Nat.beq]) | (refine Gt.move ?_; refine RW.y (Y.move rfl) rfl ?_) | (refine Gt.guard ?_; (refine RW.on rfl rfl rfl ?_)) | (refine Gt.pick ?_; (refine RW.y (Y.pickF rfl rfl) rfl ?_)) | (refine Gt.len ?_; refine RW.y (Y.lens rfl) rfl ?_) | (refine Gt.not ?_; (refine RW.y (Y.notb rfl) rfl ?_)))
    refine CL.loopS [0, 2, 19, 20] (fun k vals wr => ∃ (i : Nat) (b : Bool), vals = [vs s, .bool b, .int .i64 (s.length : Int), .int .i64 (i : Int)] ∧ k = s.length - i ∧ i ≤ s.length ∧ (s.take i).all nameC = true ∧ wr = w) s.length ⟨_, rfl, 0, false, rfl, rfl, Nat.zero_le _, rfl, rfl⟩ ?_
    rintro k vals wr ⟨i, b, rfl, rfl, hi, hall, rfl⟩
    dsimp only [List.zip, List.zipWith]
    rcases Nat.lt_or_ge i s.length with hlt | hge
    · have hn := nameC_iff (s.getD i 0)
      have hbad : nameC (s.getD i 0) = false → nameB s = false := fun c => by rw [Bool.eq_false_iff, Ne, name_iff, all_false 0 hlt c]; simp
      have hst : nameC (s.getD i 0) = true → (s.take (i + 1)).all nameC = true := fun c => all_step 0 hlt hall c
      repeat' (first | (refine CL.seq ?_) | (refine CL.region ?_) | (refine CL.skip ?_) | (refine CL.condP rfl (fun _ => ?_) (fun _ => ?_) <;> try (exfalso; omega)) | (refine CL.block ?_) | (refine Gt.nil ?_; refine RW.nilw [0, 2, 3, 4, 17, 19, 20, 21, 26, 29, 36] ?_; dsimp only [H.keep, H.look, H.Fr.put, Nat.beq]) | (refine Gt.move ?_; refine RW.y (Y.move rfl) rfl ?_) | (refine Gt.assign ?_; refine RW.y (Y.assign rfl) rfl ?_) | (refine Gt.index ?_; refine RW.y (Y.idxs rfl rfl (by omega) (by omega)) rfl ?_) | (refine Gt.lss ?_; refine RW.y (Y.lss rfl rfl) rfl ?_))
      refine RW.fn rfl rfl ((small _ wr).mono ?_)
      rintro e w' ⟨rfl, rfl⟩
      rw [Int.toNat_natCast]
      have hsi := small_iff (s.getD i 0)
      cases hs2 : smallB (s.getD i 0)
      · rw [hs2] at hsi
        simp only [Bool.false_eq_true, false_iff, not_and] at hsi
        repeat' (first | (refine CL.seq ?_) | (refine CL.region ?_) | (refine CL.skip ?_) | (refine CL.condP rfl (fun _ => ?_) (fun _ => ?_) <;> try (exfalso; omega)) | (refine CL.condF rfl ?_) | (refine CL.exit ?_) | (refine Ex.hit ?_) | (refine Ex.miss rfl ?_) | (refine CL.ret ?_) | (refine Rt.then ?_) | (refine Rt.block ?_) | (refine CL.done ?_) | (refine Nm.block ?_) | (refine Nm.then ?_) | (refine Gt.nil ?_; refine RW.nilw [0, 2, 3, 4, 17, 19, 20, 21, 26, 29, 36] ?_; dsimp only [H.keep, H.look, H.Fr.put, Nat.beq]) | (refine Gt.move ?_; refine RW.y (Y.move rfl) rfl ?_) | (refine Gt.guard ?_; first | (refine RW.part rfl rfl rfl (fun _ => ?_) (fun _ => ?_) <;> try (exfalso; omega)) | (refine RW.on rfl rfl rfl ?_) | (refine RW.off1 rfl rfl rfl rfl rfl ?_)) | (refine Gt.assign ?_; refine RW.y (Y.assign rfl) rfl ?_) | (refine Gt.pick ?_; first | (refine RW.y (Y.pickT rfl rfl) rfl ?_) | (refine RW.y (Y.pickF rfl rfl) rfl ?_)) | (refine Gt.eql ?_; (refine RW.y (Y.eqi rfl rfl) rfl ?_)) | (refine Gt.geq ?_; refine RW.y (Y.geq rfl rfl) rfl ?_) | (refine Gt.leq ?_; refine RW.y (Y.leq rfl rfl) rfl ?_) | (refine Gt.add ?_; refine RW.y (Y.add64 rfl rfl (by omega) (by omega)) rfl ?_))
        all_goals first
          | exact FQ.one rfl rfl rfl ⟨rfl, by rw [hbad (by rw [Bool.eq_false_iff, Ne, hn]; omega)]⟩
          | exact ⟨s.length - (i + 1), _, rfl, rfl, rfl, by omega, i + 1, b, rfl, rfl, by omega, hst (by rw [hn]; omega), rfl⟩
      · rw [hs2] at hsi
        repeat' (first | (refine CL.region ?_) | (refine CL.condT rfl ?_) | (refine CL.exit ?_) | (refine Ex.hit ?_) | (refine Ex.miss rfl ?_) | (refine CL.done ?_) | (refine Nm.block ?_) | (refine Nm.then ?_) | (refine Gt.nil ?_; refine RW.nilw [0, 2, 3, 4, 17, 19, 20, 21, 26, 29, 36] ?_; dsimp only [H.keep, H.look, H.Fr.put, Nat.beq]) | (refine Gt.move ?_; refine RW.y (Y.move rfl) rfl ?_) | (refine Gt.assign ?_; refine RW.y (Y.assign rfl) rfl ?_) | (refine Gt.add ?_; refine RW.y (Y.add64 rfl rfl (by omega) (by omega)) rfl ?_))
        exact ⟨s.length - (i + 1), _, rfl, rfl, rfl, by omega, i + 1, b, rfl, rfl, by omega, hst (by rw [hn]; exact .inl (hsi.1 rfl)), rfl⟩
    · have hi : i = s.length := by omega
      subst hi
      rw [List.take_length] at hall
      repeat' (first | (refine CL.seq ?_) | (refine CL.region ?_) | (refine CL.condP rfl (fun _ => ?_) (fun _ => ?_) <;> try (exfalso; omega)) | (refine CL.exit ?_) | (refine Ex.then ?_) | (refine Ex.hit ?_) | (refine CL.ret ?_) | (refine Gt.nil ?_; refine RW.nilw [0, 2, 3, 4, 17, 19, 20, 21, 26, 29, 36] ?_; dsimp only [H.keep, H.look, H.Fr.put, Nat.beq]) | (refine Gt.assign ?_; refine RW.y (Y.assign rfl) rfl ?_) | (refine Gt.lss ?_; refine RW.y (Y.lss rfl rfl) rfl ?_))
      exact FQ.one rfl rfl rfl ⟨rfl, retb (by rw [name_iff]; exact iff_of_true rfl ⟨⟨hne, by omega, hs⟩, hall⟩)⟩

theorem refName (s : T) (hl : s.length ≤ 1000000000000) (w : World) : Calls Tryz.prog 30 #[vs s] w fun e w' => w = w' ∧ e = .returned (.bool (nameB s)) := by
  have hsm := small_iff (s.getD 0 0)
  have e0 : (Int.toNat 0) = 0 := rfl
  refine H.enter Tryz.func30 Tryz.ntmps30 rfl rfl ?_; dsimp only [H.args]
  repeat' (first | (refine CL.seq ?_) | (refine CL.region ?_) | (refine CL.skip ?_) | (refine CL.condP rfl (fun _ => ?_) (fun _ => ?_) <;> try (exfalso; omega)) | (refine CL.condT rfl ?_) | (refine CL.block ?_) | (refine CL.ret ?_) | (refine Gt.nil ?_; refine RW.nilw [0, 2, 3, 4, 22, 26, 50] ?_; dsimp only [H.keep, H.look, H.Fr.put, Nat.beq]) | (refine Gt.move ?_; refine RW.y (Y.move rfl) rfl ?_) | (refine Gt.guard ?_; first | (refine RW.part rfl rfl rfl (fun _ => ?_) (fun _ => ?_) <;> try (exfalso; omega)) | (refine RW.on rfl rfl rfl ?_) | (refine RW.off1 rfl rfl rfl rfl rfl ?_)) | (refine Gt.assign ?_; refine RW.y (Y.assign rfl) rfl ?_) | (refine Gt.pick ?_; first | (refine RW.y (Y.pickT rfl rfl) rfl ?_) | (refine RW.y (Y.pickF rfl rfl) rfl ?_)) | (refine Gt.len ?_; refine RW.y (Y.lens rfl) rfl ?_) | (refine Gt.lss ?_; refine RW.y (Y.lss rfl rfl) rfl ?_) | (refine Gt.index ?_; refine RW.y (Y.idxs rfl rfl (by omega) (by omega)) rfl ?_) | (refine Gt.gtr ?_; refine RW.y (Y.gtr rfl rfl) rfl ?_))
  · exact FQ.one rfl rfl rfl ⟨rfl, retb (by rw [name_iff]; refine iff_of_false (by simp) (fun c => ?_); have := List.length_pos_iff.2 c.1.1; omega)⟩
  · exact FQ.one rfl rfl rfl ⟨rfl, retb (by rw [name_iff]; refine iff_of_false (by simp) (fun c => ?_); have := c.1.2.1; omega)⟩
  · rename_i h; rw [e0] at h
    exact FQ.one rfl rfl rfl ⟨rfl, retb (by rw [name_iff, hsm]; exact iff_of_false (by simp) (fun c => by omega))⟩
  · rename_i h1 h2 h3 h4; rw [e0] at h3 h4
    exact FQ.one rfl rfl rfl ⟨rfl, retb (by rw [name_iff, hsm]; exact iff_of_false (by simp) (fun c => by omega))⟩
  rename_i h1 h2 h3 h4; rw [e0] at h3 h4
  have hne : s ≠ [] := List.length_pos_iff.1 (by omega)
  refine CL.loopS [0, 2, 3] (fun k vals wr => ∃ (i : Nat) (b : Bool), vals = [vs s, .bool b, .int .i64 (i : Int)] ∧ k = s.length - i ∧ i ≤ s.length ∧ (s.take i).all nameC = true ∧ wr = w) s.length ⟨_, rfl, 0, false, rfl, rfl, Nat.zero_le _, rfl, rfl⟩ ?_
  rintro k vals wr ⟨i, b, rfl, rfl, hi, hall, rfl⟩
  dsimp only [List.zip, List.zipWith]
  rcases Nat.lt_or_ge i s.length with hlt | hge
  · have hi2 : ((i : Int)).toNat = i := Int.toNat_natCast i
    have hs := nameC_iff (s.getD ((i : Int)).toNat 0)
    have hbad : nameC (s.getD ((i : Int)).toNat 0) = false → nameB s = false := fun c => by rw [hi2] at c; rw [Bool.eq_false_iff, Ne, name_iff, all_false 0 hlt c]; simp
    have hst : nameC (s.getD ((i : Int)).toNat 0) = true → (s.take (i + 1)).all nameC = true := fun c => by rw [hi2] at c; exact all_step 0 hlt hall c
    repeat' (first | (refine CL.seq ?_) | (refine CL.region ?_) | (refine CL.skip ?_) | (refine CL.condP rfl (fun _ => ?_) (fun _ => ?_) <;> try (exfalso; omega)) | (refine CL.condF rfl ?_) | (refine CL.block ?_) | (refine CL.ret ?_) | (refine Rt.then ?_) | (refine Rt.block ?_) | (refine CL.done ?_) | (refine Nm.block ?_) | (refine Nm.then ?_) | (refine Gt.nil ?_; refine RW.nilw [0, 2, 3, 4, 22, 26, 50] ?_; dsimp only [H.keep, H.look, H.Fr.put, Nat.beq]) | (refine Gt.move ?_; refine RW.y (Y.move rfl) rfl ?_) | (refine Gt.guard ?_; first | (refine RW.part rfl rfl rfl (fun _ => ?_) (fun _ => ?_) <;> try (exfalso; omega)) | (refine RW.on rfl rfl rfl ?_) | (refine RW.off1 rfl rfl rfl rfl rfl ?_) | (refine RW.offu rfl rfl rfl rfl ?_)) | (refine Gt.assign ?_; refine RW.y (Y.assign rfl) rfl ?_) | (refine Gt.pick ?_; first | (refine RW.y (Y.pickT rfl rfl) rfl ?_) | (refine RW.y (Y.pickF rfl rfl) rfl ?_)) | (refine Gt.len ?_; refine RW.y (Y.lens rfl) rfl ?_) | (refine Gt.lss ?_; refine RW.y (Y.lss rfl rfl) rfl ?_) | (refine Gt.index ?_; refine RW.y (Y.idxs rfl rfl (by omega) (by omega)) rfl ?_) | (refine Gt.geq ?_; refine RW.y (Y.geq rfl rfl) rfl ?_) | (refine Gt.leq ?_; refine RW.y (Y.leq rfl rfl) rfl ?_) | (refine Gt.eql ?_; refine RW.y (Y.eqi rfl rfl) rfl ?_) | (refine Gt.not ?_; first | (refine RW.y (Y.not rfl) rfl ?_) | (refine RW.y (Y.notb rfl) rfl ?_)) | (refine Gt.add ?_; refine RW.y (Y.add64 rfl rfl (by omega) (by omega)) rfl ?_))
    all_goals first
      | exact FQ.one rfl rfl rfl ⟨rfl, by rw [hbad (by rw [Bool.eq_false_iff, Ne, hs]; omega)]⟩
      | exact ⟨s.length - (i + 1), _, rfl, rfl, rfl, by omega, i + 1, b, rfl, rfl, by omega, hst (by rw [hs]; omega), rfl⟩
  · have hi : i = s.length := by omega
    subst hi
    rw [List.take_length] at hall
    repeat' (first | (refine CL.seq ?_) | (refine CL.region ?_) | (refine CL.condP rfl (fun _ => ?_) (fun _ => ?_) <;> try (exfalso; omega)) | (refine CL.exit ?_) | (refine Ex.then ?_) | (refine Ex.hit ?_) | (refine CL.ret ?_) | (refine Gt.nil ?_; refine RW.nilw [0, 2, 3, 4, 22, 26, 50] ?_; dsimp only [H.keep, H.look, H.Fr.put, Nat.beq]) | (refine Gt.move ?_; refine RW.y (Y.move rfl) rfl ?_) | (refine Gt.assign ?_; refine RW.y (Y.assign rfl) rfl ?_) | (refine Gt.len ?_; refine RW.y (Y.lens rfl) rfl ?_) | (refine Gt.lss ?_; refine RW.y (Y.lss rfl rfl) rfl ?_))
    exact FQ.one rfl rfl rfl ⟨rfl, retb (by rw [name_iff]; exact iff_of_true rfl ⟨⟨hne, by omega, hsm.2 (by omega)⟩, hall⟩)⟩

theorem last_drop (s : T) (h : s ≠ []) : s.drop (s.length - 1) = [s.getLastD 0] := by
  rcases List.eq_nil_or_concat s with e | ⟨l, x, rfl⟩
  · exact absurd e h
  · simp [List.getLastD_concat]
theorem sliteHasSuffix (s : T) (c : UInt8) (hl : s.length ≤ 1000000000000) (w : World) : Calls Tryz.prog 47 #[vs s, vs [c]] w fun e w' => w = w' ∧ e = .returned (.bool (decide (s ≠ [] ∧ s.getLastD 0 = c))) := by
  have hc : (([c] : T).length : Int) = 1 := rfl
  refine H.enter Tryz.func47 Tryz.ntmps47 rfl rfl ?_; dsimp only [H.args]
  repeat' (first | (refine CL.seq ?_) | (refine CL.region ?_) | (refine CL.ret ?_) | (refine Gt.nil ?_; refine RW.nilw [0, 1, 4] ?_; dsimp only [H.keep, H.look, H.Fr.put, Nat.beq]) | (refine Gt.move ?_; refine RW.y (Y.move rfl) rfl ?_) | (refine Gt.guard ?_; first | (refine RW.part rfl rfl rfl (fun _ => ?_) (fun _ => ?_) <;> try (exfalso; omega)) | (refine RW.on rfl rfl rfl ?_) | (refine RW.off1 rfl rfl rfl rfl rfl ?_)) | (refine Gt.len ?_; refine RW.y (Y.lens rfl) rfl ?_) | (refine Gt.assign ?_; refine RW.y (Y.assign rfl) rfl ?_) | (refine Gt.geq ?_; refine RW.y (Y.geq rfl rfl) rfl ?_) | (refine Gt.sub ?_; refine RW.y (Y.sub64 rfl rfl (by omega) (by omega)) rfl ?_) | (refine Gt.slice ?_; refine RW.y (Y.cutl rfl rfl (by omega) (by omega)) rfl ?_) | (refine Gt.eql ?_; refine RW.y (Y.eqs rfl rfl) rfl ?_) | (refine Gt.pick ?_; first | (refine RW.y (Y.pickT rfl rfl) rfl ?_) | (refine RW.y (Y.pickF rfl rfl) rfl ?_)))
  · rename_i h
    have h0 : s ≠ [] := List.length_pos_iff.1 (by omega)
    refine FQ.one rfl rfl rfl ⟨rfl, retb ?_⟩
    rw [decide_eq_true_eq, decide_eq_true_eq, hc, show (((s.length : Int)) - 1).toNat = s.length - 1 from by omega, last_drop s h0]
    simp [h0]
  · rename_i h
    exact FQ.one rfl rfl rfl ⟨rfl, retb (by rw [decide_eq_true_eq]; refine iff_of_false (by simp) (fun q => ?_); have := List.length_pos_iff.2 q.1; omega)⟩
theorem hasSuffix (s : T) (c : UInt8) (hl : s.length ≤ 1000000000000) (w : World) : Calls Tryz.prog 23 #[vs s, vs [c]] w fun e w' => w = w' ∧ e = .returned (.bool (decide (s ≠ [] ∧ s.getLastD 0 = c))) := by
  refine H.enter Tryz.func23 Tryz.ntmps23 rfl rfl ?_; dsimp only [H.args]
  repeat' (first | (refine CL.seq ?_) | (refine CL.region ?_) | (refine Gt.nil ?_; refine RW.nilw [0, 1, 4] ?_; dsimp only [H.keep, H.look, H.Fr.put, Nat.beq]) | (refine Gt.assign ?_; refine RW.y (Y.assign rfl) rfl ?_) | (refine Gt.move ?_; refine RW.y (Y.move rfl) rfl ?_))
  refine RW.fn rfl rfl ((sliteHasSuffix s c hl w).mono ?_)
  rintro e w' ⟨rfl, rfl⟩
  repeat' (first | (refine CL.ret ?_) | (refine Gt.nil ?_; refine RW.nilw [0, 1, 4] ?_; dsimp only [H.keep, H.look, H.Fr.put, Nat.beq]) | (refine Gt.assign ?_; refine RW.y (Y.assign rfl) rfl ?_))
  exact FQ.one rfl rfl rfl ⟨rfl, rfl⟩
theorem sliteTrimSuffix (s : T) (c : UInt8) (hl : s.length ≤ 1000000000000) (h0 : s ≠ [] ∧ s.getLastD 0 = c) (w : World) : Calls Tryz.prog 49 #[vs s, vs [c]] w fun e w' => w = w' ∧ e = .returned (vs s.dropLast) := by
  have hc : (([c] : T).length : Int) = 1 := rfl
  have h1 := List.length_pos_iff.2 h0.1
  refine H.enter Tryz.func49 Tryz.ntmps49 rfl rfl ?_; dsimp only [H.args]
  repeat' (first | (refine CL.seq ?_) | (refine CL.region ?_) | (refine Gt.nil ?_; refine RW.nilw [0, 1, 4, 7] ?_; dsimp only [H.keep, H.look, H.Fr.put, Nat.beq]) | (refine Gt.move ?_; refine RW.y (Y.move rfl) rfl ?_) | (refine Gt.assign ?_; refine RW.y (Y.assign rfl) rfl ?_))
  refine RW.fn rfl rfl ((sliteHasSuffix s c hl w).mono ?_)
  rintro e w' ⟨rfl, rfl⟩
  rw [decide_eq_true h0]
  repeat' (first | (refine CL.seq ?_) | (refine CL.region ?_) | (refine CL.condT rfl ?_) | (refine CL.ret ?_) | (refine Gt.nil ?_; refine RW.nilw [0, 1, 4, 7] ?_; dsimp only [H.keep, H.look, H.Fr.put, Nat.beq]) | (refine Gt.move ?_; refine RW.y (Y.move rfl) rfl ?_) | (refine Gt.assign ?_; refine RW.y (Y.assign rfl) rfl ?_) | (refine Gt.len ?_; refine RW.y (Y.lens rfl) rfl ?_) | (refine Gt.sub ?_; refine RW.y (Y.sub64 rfl rfl (by omega) (by omega)) rfl ?_) | (refine Gt.slice ?_; refine RW.y (Y.cuth rfl rfl (by omega) (by omega)) rfl ?_))
  exact FQ.one rfl rfl rfl ⟨rfl, by rw [hc, show (((s.length : Int)) - 1).toNat = s.length - 1 from by omega, List.dropLast_eq_take]⟩
theorem trimSuffix (s : T) (c : UInt8) (hl : s.length ≤ 1000000000000) (h0 : s ≠ [] ∧ s.getLastD 0 = c) (w : World) : Calls Tryz.prog 25 #[vs s, vs [c]] w fun e w' => w = w' ∧ e = .returned (vs s.dropLast) := by
  refine H.enter Tryz.func25 Tryz.ntmps25 rfl rfl ?_; dsimp only [H.args]
  repeat' (first | (refine CL.seq ?_) | (refine CL.region ?_) | (refine Gt.nil ?_; refine RW.nilw [0, 1, 4] ?_; dsimp only [H.keep, H.look, H.Fr.put, Nat.beq]) | (refine Gt.assign ?_; refine RW.y (Y.assign rfl) rfl ?_) | (refine Gt.move ?_; refine RW.y (Y.move rfl) rfl ?_))
  refine RW.fn rfl rfl ((sliteTrimSuffix s c hl h0 w).mono ?_)
  rintro e w' ⟨rfl, rfl⟩
  repeat' (first | (refine CL.ret ?_) | (refine Gt.nil ?_; refine RW.nilw [0, 1, 4] ?_; dsimp only [H.keep, H.look, H.Fr.put, Nat.beq]) | (refine Gt.assign ?_; refine RW.y (Y.assign rfl) rfl ?_))
  exact FQ.one rfl rfl rfl ⟨rfl, rfl⟩
theorem begins (s p : T) (hl : s.length ≤ 1000000000000) (w : World) : Calls Tryz.prog 27 #[vs s, vs p] w fun e w' => w = w' ∧ e = .returned (.bool (decide (s.take p.length = p))) := by
  refine H.enter Tryz.func27 Tryz.ntmps27 rfl rfl ?_; dsimp only [H.args]
  repeat' (first | (refine CL.seq ?_) | (refine CL.region ?_) | (refine CL.ret ?_) | (refine Gt.nil ?_; refine RW.nilw [0, 1, 4] ?_; dsimp only [H.keep, H.look, H.Fr.put, Nat.beq]) | (refine Gt.move ?_; refine RW.y (Y.move rfl) rfl ?_) | (refine Gt.guard ?_; first | (refine RW.part rfl rfl rfl (fun _ => ?_) (fun _ => ?_) <;> try (exfalso; omega)) | (refine RW.on rfl rfl rfl ?_) | (refine RW.off1 rfl rfl rfl rfl rfl ?_)) | (refine Gt.len ?_; refine RW.y (Y.lens rfl) rfl ?_) | (refine Gt.assign ?_; refine RW.y (Y.assign rfl) rfl ?_) | (refine Gt.geq ?_; refine RW.y (Y.geq rfl rfl) rfl ?_) | (refine Gt.slice ?_; refine RW.y (Y.cuth rfl rfl (by omega) (by omega)) rfl ?_) | (refine Gt.eql ?_; refine RW.y (Y.eqs rfl rfl) rfl ?_) | (refine Gt.pick ?_; first | (refine RW.y (Y.pickT rfl rfl) rfl ?_) | (refine RW.y (Y.pickF rfl rfl) rfl ?_)))
  · exact FQ.one rfl rfl rfl ⟨rfl, by simp⟩
  · rename_i h
    exact FQ.one rfl rfl rfl ⟨rfl, retb (by rw [decide_eq_true_eq]; refine iff_of_false (by simp) (fun q => ?_); have := congrArg List.length q; rw [List.length_take] at this; omega)⟩
theorem getLastD_getD (l : List T) : l.getD (l.length - 1) [] = l.getLastD [] := by
  rcases List.eq_nil_or_concat l with e | ⟨a, x, rfl⟩
  · rw [e]; rfl
  · simp [List.getLastD_concat]
/-- Lines: what stands between the bytes 10; an empty last one is none. -/
def linesB (s : T) : List T := if (splitB 10 s).getLastD [] = [] then (splitB 10 s).dropLast else splitB 10 s
theorem lines (s : T) (hl : s.length ≤ 1000000000) (w : World) : Calls Tryz.prog 28 #[vs s] w fun e w' => ∃ v', e = .returned v' ∧ w'.ownsRow w.heap.size strT 1 v' (linesB s).length (sv (linesB s)) ∧ K0 w w' := by
  refine H.enter Tryz.func28 Tryz.ntmps28 rfl rfl ?_; dsimp only [H.args]
  repeat' (first | (refine CL.seq ?_) | (refine CL.region ?_) | (refine Gt.nil ?_; refine RW.nilw [0, 2, 3, 12] ?_; dsimp only [H.keep, H.look, H.Fr.put, Nat.beq]) | (refine Gt.move ?_; refine RW.y (Y.move rfl) rfl ?_) | (refine Gt.assign ?_; refine RW.y (Y.assign rfl) rfl ?_))
  refine RW.fn rfl rfl ((refSplit s 10 hl w).mono ?_)
  rintro e w1 ⟨v1, rfl, how, hk1⟩
  have hs := Sl.of_own how
  have hp := List.length_pos_iff.2 (splitB_ne 10 s)
  have hsm := splitB_len 10 s
  have hcm := List.count_le_length (a := (10 : UInt8)) (l := s)
  have e1 : ((((splitB 10 s).length : Nat) : Int) - 1).toNat = (splitB 10 s).length - 1 := by omega
  repeat' (first | (refine CL.seq ?_) | (refine CL.region ?_) | (refine CL.skip ?_) | (refine CL.condP rfl (fun _ => ?_) (fun _ => ?_) <;> try (exfalso; omega)) | (refine CL.ret ?_) | (refine Gt.nil ?_; refine RW.nilw [0, 2, 3, 12] ?_; dsimp only [H.keep, H.look, H.Fr.put, Nat.beq]) | (refine Gt.move ?_; refine RW.y (Y.move rfl) rfl ?_) | (refine Gt.assign ?_; refine RW.y (Y.assign rfl) rfl ?_) | (refine Gt.len ?_; (refine RW.y (Y.lenx rfl (by assumption)) rfl ?_)) | (refine Gt.sub ?_; refine RW.y (Y.sub64 rfl rfl (by omega) (by omega)) rfl ?_) | (refine Gt.idx ?_; refine RW.elemS rfl rfl rfl rfl (by assumption) (by omega) (by omega) ?_) | (refine Gt.eql ?_; refine RW.y (Y.eqs rfl rfl) rfl ?_))
  · rename_i h
    rw [e1, getLastD_getD] at h
    refine RW.ownh rfl rfl rfl how (by omega) (by omega) (fun v2 how2 hb2 => ?_)
    rw [e1] at how2
    have hd : linesB s = (splitB 10 s).dropLast := if_pos h
    repeat' (first | (refine CL.seq ?_) | (refine CL.region ?_) | (refine CL.ret ?_) | (refine Gt.nil ?_; refine RW.nilw [0, 2, 3, 12] ?_; dsimp only [H.keep, H.look, H.Fr.put, Nat.beq]) | (refine Gt.move ?_; refine RW.y (Y.move rfl) rfl ?_) | (refine Gt.assign ?_; refine RW.y (Y.assign rfl) rfl ?_))
    refine FQ.one rfl rfl rfl ⟨_, rfl, ?_, hk1⟩
    rw [hd, List.length_dropLast, sv, List.dropLast_eq_take, List.map_take]
    rw [Nat.mul_one] at how2
    exact how2
  · rename_i h
    rw [e1, getLastD_getD] at h
    exact FQ.one rfl rfl rfl ⟨_, rfl, by rw [show linesB s = splitB 10 s from if_neg h]; exact how, hk1⟩
theorem stringsIndexByte (l : List UInt8) (c : UInt8) (w : World) : Calls Tryz.prog 69 #[vs l, vb c] w fun e w' => w = w' ∧ e = .returned (.int .i64 (idx c l)) := by
  refine H.enter Tryz.func69 Tryz.ntmps69 rfl rfl ?_; dsimp only [H.args]
  repeat' (first | (refine CL.seq ?_) | (refine CL.region ?_) | (refine Gt.nil ?_; refine RW.nilw [0, 1, 4] ?_; dsimp only [H.keep, H.look, H.Fr.put, Nat.beq]) | (refine Gt.assign ?_; refine RW.y (Y.assign rfl) rfl ?_) | (refine Gt.move ?_; refine RW.y (Y.move rfl) rfl ?_))
  refine RW.fn rfl rfl ((sliteIndexByte l c w).mono ?_)
  rintro e w' ⟨rfl, rfl⟩
  repeat' (first | (refine CL.ret ?_) | (refine Gt.nil ?_; refine RW.nilw [0, 1, 4] ?_; dsimp only [H.keep, H.look, H.Fr.put, Nat.beq]) | (refine Gt.assign ?_; refine RW.y (Y.assign rfl) rfl ?_))
  exact FQ.one rfl rfl rfl ⟨rfl, rfl⟩
end Go.Proofs.YtggodknolmdegaaGreatDoor.Lk

namespace Go.Proofs.YtggodknolmdegaaGreatDoor.H
open Go.RowKit
section
variable {P : Program} {ops : Array Oper} {Q : Post} {f : Fr} {w : World} {S : World → Prop}
theorem AW.three (i j k : Nat) {oi oj ok : Oper} {n : Nat} {l : Array Bool} (hr : Region.ready .any ops l = [i, j, k]) (hi : ops[i]? = some oi) (hj : ops[j]? = some oj) (hk : ops[k]? = some ok) (ki : RW none P ops (thenK (fun f w => S w ∧ AW P ops Q S n (l.setIfInBounds i true) f w) Q) [oi] f w) (kj : RW none P ops (thenK (fun f w => S w ∧ AW P ops Q S n (l.setIfInBounds j true) f w) Q) [oj] f w) (kk : RW none P ops (thenK (fun f w => S w ∧ AW P ops Q S n (l.setIfInBounds k true) f w) Q) [ok] f w) : AW P ops Q S (n + 1) l f w := by
  intro a ha
  refine wpAnyH_all hr (by simp) fun m hm => ?_
  simp only [List.mem_cons, List.not_mem_nil, or_false] at hm
  rcases hm with rfl | rfl | rfl
  · exact AW.one _ hi ki ha
  · exact AW.one _ hj kj ha
  · exact AW.one _ hk kk ha
theorem AW.four (i j k m : Nat) {oi oj ok om : Oper} {n : Nat} {l : Array Bool} (hr : Region.ready .any ops l = [i, j, k, m]) (hi : ops[i]? = some oi) (hj : ops[j]? = some oj) (hk : ops[k]? = some ok) (hm : ops[m]? = some om) (ki : RW none P ops (thenK (fun f w => S w ∧ AW P ops Q S n (l.setIfInBounds i true) f w) Q) [oi] f w) (kj : RW none P ops (thenK (fun f w => S w ∧ AW P ops Q S n (l.setIfInBounds j true) f w) Q) [oj] f w) (kk : RW none P ops (thenK (fun f w => S w ∧ AW P ops Q S n (l.setIfInBounds k true) f w) Q) [ok] f w) (km : RW none P ops (thenK (fun f w => S w ∧ AW P ops Q S n (l.setIfInBounds m true) f w) Q) [om] f w) : AW P ops Q S (n + 1) l f w := by
  intro a ha
  refine wpAnyH_all hr (by simp) fun x hx => ?_
  simp only [List.mem_cons, List.not_mem_nil, or_false] at hx
  rcases hx with rfl | rfl | rfl | rfl
  · exact AW.one _ hi ki ha
  · exact AW.one _ hj kj ha
  · exact AW.one _ hk kk ha
  · exact AW.one _ hm km ha
end
end Go.Proofs.YtggodknolmdegaaGreatDoor.H

namespace Go.Proofs.YtggodknolmdegaaGreatDoor.H
open Go.RowKit
section
variable {P : Program} {ops : Array Oper} {Q : Exit → Act → World → Prop} {md : Region.Mode} {S : World → Prop} {Z : Nat → Bool}
/-- Whatever order is picked: S holds behind every operation that is none of Z. -/
def wpAnyL (P : Program) (md : Region.Mode) (ops : Array Oper) (Q : Exit → Act → World → Prop) (S : World → Prop) (Z : Nat → Bool) : Nat → Array Bool → Act → World → Prop
  | 0, listed, a, w => Region.ready md ops listed = [] ∧ Q .normal a w
  | fuel + 1, listed, a, w =>
    (Region.ready md ops listed = [] → Q .normal a w) ∧
    ∀ i ∈ Region.ready md ops listed, wpOp P ops Q i (fun a' w' => (Z i = false → S w') ∧ wpAnyL P md ops Q S Z fuel (listed.setIfInBounds i true) a' w') a w
theorem wpAny_of_L : ∀ (fuel : Nat) (listed : Array Bool) (a : Act) (w : World), wpAnyL P md ops Q S Z fuel listed a w → wpAny P md ops Q fuel listed a w
  | 0, _, _, _, h => h
  | fuel + 1, _, _, _, h => ⟨h.1, fun i hi => wpOp_mono (fun a' w' h' => wpAny_of_L fuel _ a' w' h'.2) (h.2 i hi)⟩
theorem wpAnyL_first {C : Nat → Prop} {i : Nat} {oi : Oper} {v : Value} (hi : ops[i]? = some oi) (hsel : ∀ (j : Nat) (o : Oper) cs b, ops[j]? = some o → o.op ≠ .select cs b)
    (hQ : ∀ c a w, Q (.panic c) (a.put oi.dst v) w → Q (.panic c) a w) :
    ∀ (fuel : Nat) (listed : Array Bool) (a : Act) (w : World),
      (∀ j oj, ops[j]? = some oj → j ≠ i → listed.getD j true = false → (∀ e ∈ oj.after, Region.binds md e = true → e.on ≠ i) → oi.apart ops oj = true) →
      (∀ j, C j → j ≠ i ∧ listed.getD j true = false ∧ ∃ oj, ops[j]? = some oj ∧ ∃ e ∈ oj.after, Region.binds md e = true ∧ (e.on = i ∨ C e.on)) →
      (∀ j oj, ops[j]? = some oj → Z j = true → j ≠ i → C j) →
      i ∈ Region.ready md ops listed → YieldsIf P ops S oi v a → S w →
      wpAnyL P md ops Q S Z fuel (listed.setIfInBounds i true) (a.put oi.dst v) w → wpAnyL P md ops Q S Z (fuel + 1) listed a w := by
  intro fuel
  induction fuel with
  | zero =>
    intro listed a w _ _ _ hr hy hS H
    refine ⟨fun h => (by rw [h] at hr; cases hr), fun j hj => ?_⟩
    by_cases hji : j = i
    · subst hji; exact hy.wpOp hi hS ⟨fun _ => hS, H⟩
    · have := ready_mono hj hji
      rw [H.1] at this
      cases this
  | succ fuel ih =>
    intro listed a w hfree hwait hzc hr hy hS H
    refine ⟨fun h => (by rw [h] at hr; cases hr), fun j hj => ?_⟩
    by_cases hji : j = i
    · subst hji; exact hy.wpOp hi hS ⟨fun _ => hS, H⟩
    · have h1 := H.2 j (ready_mono hj hji)
      obtain ⟨hjun, oj, hoj, hall⟩ := mem_ready.1 hj
      have hnot : ∀ e ∈ oj.after, Region.binds md e = true → e.on ≠ i := fun e he hb heq => by
        have h1 := hall e he hb
        have h0 := (mem_ready.1 hr).1
        rw [heq] at h1
        rcases Nat.lt_or_ge i listed.size with h' | h'
        · simp [h'] at h0 h1; rw [h0] at h1; cases h1
        · simp [Array.getElem?_eq_none h'] at h1
      have hlisted : ∀ e ∈ oj.after, Region.binds md e = true → listed.getD e.on true = true := fun e he hb => by
        have h1 := hall e he hb
        rcases Nat.lt_or_ge e.on listed.size with h' | h'
        · simp [h'] at h1 ⊢; exact h1
        · simp [Array.getD, Nat.not_lt.2 h']
      have hcj : ¬ C j := fun hc => by
        obtain ⟨_, _, oj', hoj', e, he, hb, ho⟩ := hwait j hc
        rw [hoj] at hoj'
        cases hoj'
        rcases ho with ho | ho
        · exact hnot e he hb ho
        · have := (hwait e.on ho).2.1
          rw [hlisted e he hb] at this
          cases this
      have hz : Z j = false := by
        cases hzj : Z j with
        | false => rfl
        | true => exact absurd (hzc j oj hoj hzj hji) hcj
      have h2 := wpOp_putIf hoj (hfree j oj hoj hji hjun hnot) (fun cs b => hsel i oi cs b hi) (fun cs b => hsel j oj cs b hoj) hQ hy h1
      have hun' : ∀ k, (listed.setIfInBounds j true).getD k true = false → listed.getD k true = false := fun k hun => by
        by_cases hjk : j = k
        · subst hjk; exact hjun
        · rw [getD_set_ne true hjk] at hun; exact hun
      refine wpOp_mono (fun a' w' h3 => ⟨h3.2.1, ih (listed.setIfInBounds j true) a' w' (fun k ok hk hki hun => hfree k ok hk hki (hun' k hun)) (fun k hk => ⟨(hwait k hk).1, by rw [getD_set_ne true (fun (h : j = k) => hcj (by rw [h]; exact hk))]; exact (hwait k hk).2.1, (hwait k hk).2.2⟩) hzc (ready_mono hr (Ne.symm hji)) h3.1 (h3.2.1 hz) ?_⟩) h2
      rw [Array.setIfInBounds_comm _ _ hji]
      exact h3.2.2
theorem wpAnyL_all {rs : List Nat} {fuel : Nat} {listed : Array Bool} {a : Act} {w : World} (hr : Region.ready md ops listed = rs) (hne : rs ≠ [])
    (h : ∀ i ∈ rs, wpOp P ops Q i (fun a' w' => (Z i = false → S w') ∧ wpAnyL P md ops Q S Z fuel (listed.setIfInBounds i true) a' w') a w) : wpAnyL P md ops Q S Z (fuel + 1) listed a w :=
  ⟨fun h0 => absurd (hr ▸ h0) hne, hr ▸ h⟩
theorem wpAnyL_done {listed : Array Bool} {a : Act} {w : World} (hr : Region.ready md ops listed = []) (h : Q .normal a w) :
    ∀ fuel, wpAnyL P md ops Q S Z fuel listed a w
  | 0 => ⟨hr, h⟩
  | _ + 1 => ⟨fun _ => h, by rw [hr]; simp⟩
/-- The writes that are left wait for number i, each one or by others of C. -/
def waits (ops : Array Oper) (Z : Nat → Bool) (l : Array Bool) (C : List Nat) (i : Nat) : Bool :=
  C.all (fun j => !(Nat.beq j i) && !(l.getD j true) && (match ops[j]? with | some o => o.after.any (fun e => Region.binds .any e && (Nat.beq e.on i || C.any (Nat.beq e.on))) | none => false)) && (List.range ops.size).all (fun j => !Z j || Nat.beq j i || C.any (Nat.beq j))
theorem any_beq {C : List Nat} {j : Nat} (h : C.any (Nat.beq j) = true) : j ∈ C := by
  obtain ⟨k, hk, e⟩ := List.any_eq_true.1 h
  rw [Nat.eq_of_beq_eq_true e]; exact hk
theorem waits_spec {l : Array Bool} {C : List Nat} {i : Nat} (h : waits ops Z l C i = true) : (∀ j, j ∈ C → j ≠ i ∧ l.getD j true = false ∧ ∃ oj, ops[j]? = some oj ∧ ∃ e ∈ oj.after, Region.binds .any e = true ∧ (e.on = i ∨ e.on ∈ C)) ∧ (∀ j oj, ops[j]? = some oj → Z j = true → j ≠ i → j ∈ C) := by
  rw [waits, Bool.and_eq_true] at h
  obtain ⟨h1, h2⟩ := h
  refine ⟨fun j hj => ?_, fun j oj ho hz hne => ?_⟩
  · have h3 := List.all_eq_true.1 h1 j hj
    rw [Bool.and_eq_true, Bool.and_eq_true] at h3
    obtain ⟨⟨h3, h4⟩, h5⟩ := h3
    refine ⟨(fun c => by subst c; rw [beq_self] at h3; cases h3), by simpa using h4, ?_⟩
    cases ho : ops[j]? with
    | none => rw [ho] at h5; cases h5
    | some oj =>
      rw [ho] at h5
      simp only [Array.any_eq_true'] at h5
      obtain ⟨e, he, h6⟩ := h5
      rw [Bool.and_eq_true, Bool.or_eq_true] at h6
      exact ⟨oj, rfl, e, he, h6.1, h6.2.imp Nat.eq_of_beq_eq_true any_beq⟩
  · have h3 := List.all_eq_true.1 h2 j (List.mem_range.2 (Array.getElem?_eq_some_iff.1 ho).1)
    rw [Bool.or_eq_true, Bool.or_eq_true] at h3
    rcases h3 with (h3 | h3) | h3
    · rw [hz] at h3; cases h3
    · exact absurd (Nat.eq_of_beq_eq_true h3) hne
    · exact any_beq h3
end
section
variable {P : Program} {ops : Array Oper} {Q : Post} {f : Fr} {w : World} {S : World → Prop} {Z : Nat → Bool}
def AL (P : Program) (ops : Array Oper) (Q : Post) (S : World → Prop) (Z : Nat → Bool) (n : Nat) (l : Array Bool) (f : Fr) (w : World) : Prop := ∀ a, Ag f a → wpAnyL P .any ops (lift Q) S Z n l a w
theorem CL.drawz {cs : List Code} {id : Nat} (S : World → Prop) (Z : Nat → Bool) (hm : P.follows .mixedOrders = true) (h : ∀ w', w'.heap = w.heap → K0 w w' → AL P ops (thenK (CL none P Q cs) Q) S Z ops.size (Array.replicate ops.size false) f w') : CL none P Q (.region id ops true :: cs) f w :=
  fun a ha => wp_region_any hm (wpAny_of_L _ _ _ _ (h { w with drawn := w.drawn + 1 } rfl (Kept.drew w) a ha))
theorem AL.takeY (i : Nat) (C : List Nat) {o : Oper} {d : Option Nat} {v : Value} {n : Nat} {l : Array Bool} (hi : ops[i]? = some o) (hz : waits ops Z l C i = true) (hs : Region.noSelect ops = true) (hf : Region.free .any ops l i = true) (hr : (Region.ready .any ops l).contains i = true)
    [PI Q] (hS : S w) {a : Act} (hy : YieldsIf P ops S o v a) (k : wpAnyL P .any ops (lift Q) S Z n (l.setIfInBounds i true) (a.put o.dst v) w) : wpAnyL P .any ops (lift Q) S Z (n + 1) l a w :=
  wpAnyL_first (C := (· ∈ C)) hi (Region.noSelect_spec hs) (PI.lift _ _) n l a w (Region.free_spec hi hf) (waits_spec hz).1 (waits_spec hz).2 (by simpa using hr) hy hS k
theorem AL.take (i : Nat) (C : List Nat) {op : Op} {ty : TypeId} {pos : String} {af : Array Edge} {d : Nat} {v : Value} {n : Nat} {l : Array Bool} (hi : ops[i]? = some { dst := some d, op := op, type := ty, pos := pos, after := af, guard := none }) (hs : Region.noSelect ops = true) (hf : Region.free .any ops l i = true) (hr : (Region.ready .any ops l).contains i = true) (hz : waits ops Z l C i = true)
    [PI Q] (hd : Nat.blt d f.n = true) (hS : S w) (hy : ∀ w, S w → Yd P f { dst := some d, op := op, type := ty, pos := pos, after := af, guard := none } v w) (k : AL P ops Q S Z n (l.setIfInBounds i true) (f.put d v) w) : AL P ops Q S Z (n + 1) l f w := by
  intro a ha
  exact AL.takeY (d := some d) i C hi hz hs hf hr hS (.inl ⟨by simp [Region.wanted], fun w' hw' => hy w' hw' a ha⟩) (k _ (ha.put v hd))
theorem AL.takeOn (i : Nat) (C : List Nat) {op : Op} {ty : TypeId} {pos : String} {af : Array Edge} {d j t : Nat} {b : Bool} {v : Value} {n : Nat} {l : Array Bool} (hi : ops[i]? = some { dst := some d, op := op, type := ty, pos := pos, after := af, guard := some (j, b) }) (hs : Region.noSelect ops = true) (hf : Region.free .any ops l i = true) (hr : (Region.ready .any ops l).contains i = true) (hz : waits ops Z l C i = true)
    [PI Q] (hj : (ops[j]?).bind (·.dst) = some t) (hn : Nat.blt t f.n = true) (hv : look f.e t = some (.bool b)) (hd : Nat.blt d f.n = true) (hS : S w) (hy : ∀ w, S w → Yd P f { dst := some d, op := op, type := ty, pos := pos, after := af, guard := none } v w) (k : AL P ops Q S Z n (l.setIfInBounds i true) (f.put d v) w) : AL P ops Q S Z (n + 1) l f w := by
  intro a ha
  exact AL.takeY (d := some d) i C hi hz hs hf hr hS (.inl ⟨by simp [Region.wanted, yields ha hj hn hv], fun w' hw' => hy w' hw' a ha⟩) (k _ (ha.put v hd))
theorem AL.takeOff (i : Nat) (C : List Nat) {op : Op} {ty : TypeId} {pos : String} {af : Array Edge} {d j t : Nat} {b c : Bool} {n : Nat} {l : Array Bool} (hi : ops[i]? = some { dst := some d, op := op, type := ty, pos := pos, after := af, guard := some (j, b) }) (hs : Region.noSelect ops = true) (hf : Region.free .any ops l i = true) (hr : (Region.ready .any ops l).contains i = true) (hz : waits ops Z l C i = true)
    [PI Q] (hj : (ops[j]?).bind (·.dst) = some t) (hn : Nat.blt t f.n = true) (hv : look f.e t = some (.bool c)) (hbc : (!c) = b) (hd : Nat.blt d f.n = true) (hS : S w) (k : AL P ops Q S Z n (l.setIfInBounds i true) (f.put d undef) w) : AL P ops Q S Z (n + 1) l f w := by
  intro a ha
  subst hbc
  exact AL.takeY (d := some d) i C hi hz hs hf hr hS (.inr ⟨by cases c <;> simp [Region.wanted, yields ha hj hn hv], rfl⟩) (k _ (ha.put undef hd))
theorem AL.takeOffU (i : Nat) (C : List Nat) {op : Op} {ty : TypeId} {pos : String} {af : Array Edge} {d j t : Nat} {b : Bool} {n : Nat} {l : Array Bool} (hi : ops[i]? = some { dst := some d, op := op, type := ty, pos := pos, after := af, guard := some (j, b) }) (hs : Region.noSelect ops = true) (hf : Region.free .any ops l i = true) (hr : (Region.ready .any ops l).contains i = true) (hz : waits ops Z l C i = true)
    [PI Q] (hj : (ops[j]?).bind (·.dst) = some t) (hn : Nat.blt t f.n = true) (hv : look f.e t = some undef) (hd : Nat.blt d f.n = true) (hS : S w) (k : AL P ops Q S Z n (l.setIfInBounds i true) (f.put d undef) w) : AL P ops Q S Z (n + 1) l f w := by
  intro a ha
  exact AL.takeY (d := some d) i C hi hz hs hf hr hS (.inr ⟨by cases b <;> simp [Region.wanted, yieldsU ha hj hn hv], rfl⟩) (k _ (ha.put undef hd))
theorem AL.donew {cs : List Code} {n : Nat} {l : Array Bool} (g : List Nat) (hr : Region.ready .any ops l = []) (h : CL none P Q cs ⟨f.n, f.ds, keep g f.e⟩ w) : AL P ops (thenK (CL none P Q cs) Q) S Z n l f w := by
  intro a ha
  have hc := RW.nilw (ops := ops) (M := none) g h a ha
  exact wpAnyL_done hr hc n
theorem AL.one (C : World → Prop) (i : Nat) {o : Oper} {n : Nat} {l : Array Bool} (hC : ∀ w, C w → Z i = false → S w) (hi : ops[i]? = some o) (k : RW none P ops (thenK (fun f w => C w ∧ AL P ops Q S Z n (l.setIfInBounds i true) f w) Q) [o] f w) {a : Act} (ha : Ag f a) : wpOp P ops (lift Q) i (fun a' w' => (Z i = false → S w') ∧ wpAnyL P .any ops (lift Q) S Z n (l.setIfInBounds i true) a' w') a w := by
  have h : wpList P ops _ [o] a w := k a ha
  unfold wpList at h
  unfold wpOp
  simp only [hi]
  have hq : ∀ x a w, lift (thenK (fun f w => C w ∧ AL P ops Q S Z n (l.setIfInBounds i true) f w) Q) x a w → match x with
      | .normal => (Z i = false → S w) ∧ wpAnyL P .any ops (lift Q) S Z n (l.setIfInBounds i true) a w
      | x => lift Q x a w := by
    intro x a w ⟨g, hg, q⟩
    cases x with
    | normal => exact ⟨hC w q.1, q.2 a hg⟩
    | _ => exact ⟨g, hg, q⟩
  by_cases hw : Region.wanted o (yielded ops a.tmps) = true
  · rw [if_pos hw] at h
    simp only [hw, if_true]
    rcases h with h | ⟨h1, a0, w0, h2⟩
    · left
      exact oper_mono (fun a w hk => hq .normal a w hk) (fun c a w hk => hq (.panic c) a w hk) (fun a w hk => hq .outgrown a w hk) h
    · exact .inr ⟨h1, a0, w0, hq .outgrown a0 w0 h2⟩
  · rw [if_neg hw] at h
    simp only [hw, if_false, Bool.false_eq_true]
    exact hq .normal _ _ h
/-- The one that may come next; it is none of the last writes. -/
theorem AL.next (i : Nat) {o : Oper} {n : Nat} {l : Array Bool} (hi : ops[i]? = some o) (hr : Region.ready .any ops l = [i]) (k : RW none P ops (thenK (fun f w => S w ∧ AL P ops Q S Z n (l.setIfInBounds i true) f w) Q) [o] f w) : AL P ops Q S Z (n + 1) l f w := by
  intro a ha
  refine wpAnyL_all hr (by simp) fun j hj => ?_
  rw [List.mem_singleton.1 hj]
  exact AL.one S i (fun _ h _ => h) hi k ha
/-- One of the last writes. -/
theorem AL.last (i : Nat) {o : Oper} {n : Nat} {l : Array Bool} (hi : ops[i]? = some o) (hr : Region.ready .any ops l = [i]) (hz : Z i = true) (k : RW none P ops (thenK (fun f w => True ∧ AL P ops Q S Z n (l.setIfInBounds i true) f w) Q) [o] f w) : AL P ops Q S Z (n + 1) l f w := by
  intro a ha
  refine wpAnyL_all hr (by simp) fun j hj => ?_
  rw [List.mem_singleton.1 hj]
  exact AL.one (fun _ => True) i (fun _ _ h => by rw [hz] at h; cases h) hi k ha
theorem AL.two (i j : Nat) {oi oj : Oper} {n : Nat} {l : Array Bool} (hr : Region.ready .any ops l = [i, j]) (hi : ops[i]? = some oi) (hj : ops[j]? = some oj) (ki : RW none P ops (thenK (fun f w => S w ∧ AL P ops Q S Z n (l.setIfInBounds i true) f w) Q) [oi] f w) (kj : RW none P ops (thenK (fun f w => S w ∧ AL P ops Q S Z n (l.setIfInBounds j true) f w) Q) [oj] f w) : AL P ops Q S Z (n + 1) l f w := by
  intro a ha
  refine wpAnyL_all hr (by simp) fun m hm => ?_
  simp only [List.mem_cons, List.not_mem_nil, or_false] at hm
  rcases hm with rfl | rfl
  · exact AL.one S _ (fun _ h _ => h) hi ki ha
  · exact AL.one S _ (fun _ h _ => h) hj kj ha
theorem AL.three (i j k : Nat) {oi oj ok : Oper} {n : Nat} {l : Array Bool} (hr : Region.ready .any ops l = [i, j, k]) (hi : ops[i]? = some oi) (hj : ops[j]? = some oj) (hk : ops[k]? = some ok) (ki : RW none P ops (thenK (fun f w => S w ∧ AL P ops Q S Z n (l.setIfInBounds i true) f w) Q) [oi] f w) (kj : RW none P ops (thenK (fun f w => S w ∧ AL P ops Q S Z n (l.setIfInBounds j true) f w) Q) [oj] f w) (kk : RW none P ops (thenK (fun f w => S w ∧ AL P ops Q S Z n (l.setIfInBounds k true) f w) Q) [ok] f w) : AL P ops Q S Z (n + 1) l f w := by
  intro a ha
  refine wpAnyL_all hr (by simp) fun m hm => ?_
  simp only [List.mem_cons, List.not_mem_nil, or_false] at hm
  rcases hm with rfl | rfl | rfl
  · exact AL.one S _ (fun _ h _ => h) hi ki ha
  · exact AL.one S _ (fun _ h _ => h) hj kj ha
  · exact AL.one S _ (fun _ h _ => h) hk kk ha
end
end Go.Proofs.YtggodknolmdegaaGreatDoor.H

namespace Go.Proofs.YtggodknolmdegaaGreatDoor.H
open Go.RowKit
section
variable {M : Option (Option Nat)} {P : Program} {ops : Array Oper} {Q : Post} {rest : List Oper} {f : Fr} {w : World} {d : Nat} {ty : TypeId} {pos : String} {af : Array Edge}
/-- A slice into a block of the call's own, at any place of it. -/
def Tl (w : World) (base : Nat) (e : TypeId) (sz : Nat) (v : Value) (n : Nat) (xs : List Value) : Prop :=
  xs.length = n * sz ∧ ((v = .slice none 0 0 ∧ n = 0) ∨
   ∃ g off cap cur, v = .slice (some ⟨g, off, none⟩) n cap ∧ base ≤ g ∧ w.heap[g]? = some (.cells cur e (0, 0)) ∧ n ≤ cap ∧ cap ≤ maxLen ∧ off + cap * sz ≤ cur.size ∧ (cur.toList.drop off).take (n * sz) = xs)
theorem Tl.nil (w : World) (base : Nat) (e : TypeId) (sz : Nat) : Tl w base e sz (.slice none 0 0) 0 [] := ⟨by simp, .inl ⟨rfl, rfl⟩⟩
theorem Tl.sl {base : Nat} {e : TypeId} {sz : Nat} {v : Value} {n : Nat} {xs : List Value} (h : Tl w base e sz v n xs) : Sl w sz v n xs := by
  rcases h.2 with ⟨rfl, rfl⟩ | ⟨g, off, cap, cur, rfl, hb, hg, hn, hm, hs, ht⟩
  · exact ⟨h.1, by simp [maxLen], .inl ⟨none, rfl, rfl⟩⟩
  · exact ⟨h.1, Nat.le_trans hn hm, .inr ⟨g, off, cap, cur, e, (0, 0), rfl, hg, hn, hm, hs, ht⟩⟩
theorem Tl.own {base : Nat} {e : TypeId} {sz : Nat} {v : Value} {n : Nat} {xs : List Value} (h : w.ownsRow base e sz v n xs) : Tl w base e sz v n xs := by
  refine ⟨h.1, ?_⟩
  rcases h.2 with h | ⟨g, cap, cur, rfl, hb, hg, hn, hm, hs, ht⟩
  · exact .inl h
  · exact .inr ⟨g, 0, cap, cur, rfl, hb, hg, hn, hm, by omega, by simpa using ht⟩
theorem Tl.keep {S : Nat → Prop} {w' : World} {base : Nat} {e : TypeId} {sz : Nat} {v : Value} {n : Nat} {xs : List Value} (h : Tl w base e sz v n xs) (k : Kept S w w') (hn : ∀ g, v.ownBlock = some g → ¬ S g) : Tl w' base e sz v n xs := by
  refine ⟨h.1, ?_⟩
  rcases h.2 with h | ⟨g, off, cap, cur, rfl, hb, hg, hnc, hm, hs, ht⟩
  · exact .inl h
  · exact .inr ⟨g, off, cap, cur, rfl, hb, k.at hg (hn g rfl), hnc, hm, hs, ht⟩
theorem Tl.keep0 {w' : World} {base : Nat} {e : TypeId} {sz : Nat} {v : Value} {n : Nat} {xs : List Value} (h : Tl w base e sz v n xs) (k : K0 w w') : Tl w' base e sz v n xs := h.keep k fun _ _ c => c
theorem Tl.lt {base : Nat} {e : TypeId} {sz : Nat} {v : Value} {n : Nat} {xs : List Value} (h : Tl w base e sz v n xs) {g : Nat} (hg : v.ownBlock = some g) : base ≤ g ∧ g < w.heap.size := by
  rcases h.2 with ⟨rfl, _⟩ | ⟨g', off, cap, cur, rfl, hb, hg', _⟩
  · cases hg
  · simp only [Value.ownBlock, Option.some.injEq] at hg
    subst hg
    exact ⟨hb, lt_of_at hg'⟩
theorem Tl.from {base : Nat} {e : TypeId} {sz : Nat} {p : Option Addr} {n cap : Nat} {xs : List Value} (h : Tl w base e sz (.slice p n cap) n xs) {a : Nat} (ha : a ≤ n) : Tl w base e sz (.slice (if cap = a then p else p.map (·.add (a * sz))) (n - a) (cap - a)) (n - a) (xs.drop (a * sz)) := by
  refine ⟨by rw [List.length_drop, h.1, Nat.sub_mul], ?_⟩
  rcases h.2 with ⟨h1, rfl⟩ | ⟨g, off, cap', cur, h1, hb, hg, hnc, hm, hs, ht⟩
  · simp only [Value.slice.injEq] at h1
    obtain ⟨rfl, _, rfl⟩ := h1
    left
    have : a = 0 := by omega
    subst this
    simp
  · simp only [Value.slice.injEq, true_and] at h1
    obtain ⟨rfl, rfl⟩ := h1
    right
    by_cases hc : cap = a
    · subst hc
      have hn : n = cap := by omega
      subst hn
      rw [if_pos rfl]
      refine ⟨g, off, n - n, cur, rfl, hb, hg, by omega, by omega, by rw [Nat.sub_self, Nat.zero_mul]; omega, ?_⟩
      rw [Nat.sub_self, Nat.zero_mul, List.take_zero, List.drop_eq_nil_of_le (by rw [h.1]; omega)]
    · rw [if_neg hc]
      refine ⟨g, off + a * sz, cap - a, cur, by simp [addr_add], hb, hg, by omega, by omega, ?_, ?_⟩
      · have : a * sz + (cap - a) * sz = cap * sz := by rw [← Nat.add_mul]; congr 1; omega
        omega
      · rw [← ht, List.drop_take, List.drop_drop, ← Nat.sub_mul]
theorem Tl.shape {base : Nat} {e : TypeId} {sz : Nat} {v : Value} {n : Nat} {xs : List Value} (h : Tl w base e sz v n xs) : ∃ p cap, v = .slice p n cap ∧ n ≤ cap := by
  rcases h.2 with ⟨rfl, rfl⟩ | ⟨g, off, cap, cur, rfl, hb, hg, hnc, _⟩
  · exact ⟨_, _, rfl, Nat.le_refl _⟩
  · exact ⟨_, _, rfl, hnc⟩
theorem run_append_roomO (t ty e : TypeId) (i : TypeInfo) (ht : P.underlying t = some (.slice e)) (hi : P.info? e = some i)
    (g off sLen sCap : Nat) (cur : Array Value) (hg : w.heap[g]? = some (.cells cur e (0, 0)))
    (a : Addr) (m c : Nat) (news : List Value) (hl : news.length = m * i.size) (hnews : ∀ j u, news[j]? = some u → w.cell? (a.add j) = some u) (h1 : ∀ u ∈ news, u.oneCell' = true)
    (hroom : sLen + m ≤ sCap) (hfit : off + sLen * i.size + news.length ≤ cur.size) :
    (Builtin.append_ #[t, t] ty #[.slice (some ⟨g, off, none⟩) sLen sCap, .slice (some a) m c]).run P w =
      .ok (.slice (some ⟨g, off, none⟩) (sLen + m) sCap) (w.setRow g (cur.toList.take (off + sLen * i.size) ++ news ++ cur.toList.drop (off + sLen * i.size + news.length)).toArray) := by
  have hf := run_firstCells_some (P := P) w i.size m a m c news hl hnews
  have hst := run_storeCells_at P g (off + sLen * i.size) e news 0 cur w hg (by simpa using hfit) h1
  simp only [Nat.add_zero] at hst
  simp [Builtin.append_, run_underlying ht, sizeOf, typeInfo, hi, Builtin.lenOf, hroom, hf, addr_add, hst]
theorem run_appT {t u e : TypeId} {z : Value} {sz b : Nat} [ht : Und P t (.slice e)] [hi : Inf P e z sz b] (base : Nat) (hz : z.cells.size = sz) (hsz : 0 < sz) {v : Value} {n : Nat} {xs : List Value} (hown : Tl w base e sz v n xs)
    {vx : Value} {m : Nat} {news : List Value} (hm : 0 < m) (hsrc : Sl w sz vx m news) (h1 : ∀ u ∈ news, u.oneCell' = true) (h63 : n + m ≤ maxLen) (hbytes : (n + m) * b ≤ 140737488355328) (hbase : base ≤ w.heap.size) :
    ∃ v' w', (Builtin.append_ #[t, t] u #[v, vx]).run P w = .ok v' w' ∧ Tl w' base e sz v' (n + m) (xs ++ news) ∧ Kept (fun k => v.ownBlock = some k) w w' ∧ Lies w v v' := by
  rcases hown.2 with ⟨rfl, rfl⟩ | ⟨g0, off0, cap0, cur0, rfl, hb0, hg0, hn0, hm0, hs0, ht0⟩
  · have hx : xs = [] := List.eq_nil_of_length_eq_zero (by simpa using hown.1)
    subst hx
    obtain ⟨v', w', h, h2, h3, h4⟩ := run_app (P := P) (t := t) (u := u) base hz hsz (World.ownsRow_nil w base e sz) hsrc h1 h63 hbytes hbase
    exact ⟨v', w', h, .own h2, (Kept.of_grown h3).mono fun k hk => hk, h4⟩
  have hi' := hi.out
  have h63' : n + m ≤ 9223372036854775807 := by simpa [maxLen] using h63
  cases hinf : P.info? e with
  | none => simp [hinf] at hi'
  | some i =>
    simp only [hinf, Option.map_some, Option.some.injEq, Prod.mk.injEq] at hi'
    obtain ⟨hz', hs', hb'⟩ := hi'
    have ho : ∀ j y, xs[j]? = some y → w.cell? ((⟨g0, off0, none⟩ : Addr).add j) = some y := fun j y hy => by have := hown.sl.cell hy; simpa [Value.spot] using this
    have key : ∃ a cap, vx = .slice (some a) m cap ∧ ∀ j y, news[j]? = some y → w.cell? (a.add j) = some y := by
      rcases hsrc.2.2 with ⟨p, rfl, rfl⟩ | ⟨g, off, cap, cur, e', fz, rfl, hg, hn, hm, ho, htk⟩
      · omega
      · exact ⟨_, cap, rfl, fun j y hy => by have := hsrc.cell hy; simpa [Value.spot] using this⟩
    obtain ⟨a, cap, rfl, hcells⟩ := key
    have hlen : (xs ++ news).length = (n + m) * sz := by rw [List.length_append, hown.1, hsrc.1, Nat.add_mul]
    by_cases hroom : n + m ≤ cap0
    · have hfit : off0 + n * i.size + news.length ≤ cur0.size := by
        have : (n + m) * sz ≤ cap0 * sz := Nat.mul_le_mul_right _ hroom
        rw [hs', hsrc.1, Nat.add_assoc, ← Nat.add_mul]; omega
      have hr := run_append_roomO (P := P) (w := w) t u e i ht.out hinf g0 off0 n cap0 cur0 hg0 a m cap news (by rw [hs']; exact hsrc.1) hcells h1 hroom hfit
      refine ⟨_, _, hr, ⟨hlen, .inr ⟨g0, off0, cap0, _, rfl, hb0, setRow_heap w g0 cur0 _ e _ hg0, hroom, hm0, ?_, ?_⟩⟩, ?_, fun k hk => .inl hk⟩
      · simp only [List.size_toArray, List.length_append, List.length_take, List.length_drop, Array.length_toList]
        omega
      · show ((cur0.toList.take (off0 + n * i.size) ++ news ++ cur0.toList.drop (off0 + n * i.size + news.length)).drop off0).take ((n + m) * sz) = xs ++ news
        rw [List.append_assoc, List.drop_append_of_le_length (by rw [List.length_take, Array.length_toList]; omega), List.drop_take, Nat.add_sub_cancel_left, hs', ht0, ← List.append_assoc, ← hlen]
        exact List.take_left
      · exact (Kept.setRow w g0 _).mono fun k hk => by rw [hk]; rfl
    · have hr := run_append_grow (P := P) w t u e i z ht.out hinf hz' ⟨g0, off0, none⟩ n cap0 xs (by rw [hs']; exact hown.1) ho a m cap news (by rw [hs']; exact hsrc.1) hcells (by omega) (by omega) (growslice_fits (by omega) (by rw [hb']; exact hbytes))
      have hge := grownCap_ge w (n + m) cap0 e
      have hcm : grownCap w (n + m) cap0 e ≤ maxLen := grownCap_le_maxLen w (n + m) cap0 e h63
      refine ⟨_, _, hr, .own ⟨hlen, .inr ⟨w.heap.size, _, _, rfl, hbase, heap_alloc_new w.drew _, hge, hcm, ?_, ?_⟩⟩, ⟨rfl, rfl, rfl, by simp, fun k hk _ => heap_alloc_old w.drew _ hk⟩, fun k hk => .inr (by simp [Value.ownBlock] at hk; omega)⟩
      · simp only [Array.size_append, List.size_toArray, size_zeroCells, hz, hown.1, hsrc.1, ← Nat.add_mul]
        congr 1
        omega
      · simp only [Array.toList_append, List.append_assoc]
        rw [← List.append_assoc, ← hlen]
        exact List.take_left
/-- append to such a row. -/
theorem RW.appT {t e : TypeId} {z : Value} {sz b : Nat} [ht : Und P t (.slice e)] [hi : Inf P e z sz b] {s x : Operand} {v vx : Value} (hs : f.ev s = some v) (hx : f.ev x = some vx) (hd : Nat.blt d f.n = true) {base : Nat} (hz : z.cells.size = sz) (hsz : Nat.blt 0 sz = true) {n : Nat} {xs : List Value} (hown : Tl w base e sz v n xs) {m : Nat} {news : List Value} (hm : 0 < m) (hsrc : Sl w sz vx m news) (h1 : ∀ u ∈ news, u.oneCell' = true) (h63 : n + m ≤ 9223372036854775807) (hbytes : (n + m) * b ≤ 140737488355328) (hbase : base ≤ w.heap.size)
    (k : ∀ v' w', Tl w' base e sz v' (n + m) (xs ++ news) → Kept (fun k => v.ownBlock = some k) w w' → Lies w v v' → RW M P ops Q rest (f.put d v') w') :
    RW M P ops Q (op1 d (.call { callee := .builtin .append, args := #[s, x], argTypes := #[t, t] }) ty pos af :: rest) f w := by
  obtain ⟨v', w', h, h2, h3, h4⟩ := run_appT (P := P) (t := t) (u := ty) base hz (blt_lt hsz) hown hm hsrc h1 (by simpa [maxLen] using h63) hbytes hbase
  refine RW.val rfl rfl hd (fun a ha => ?_) (k v' w' h2 h3 h4)
  simp [execOp, resolve, invoke, builtin, ha.eval hs, ha.eval hx, h]
end
end Go.Proofs.YtggodknolmdegaaGreatDoor.H

namespace Go.Proofs.YtggodknolmdegaaGreatDoor.H
open Go.RowKit
section
variable {P : Program} {f : Fr} {w : World} {d : Nat} {ty : TypeId} {pos : String} {af : Array Edge}
theorem Y.field {s off ft : TypeId} {i : Nat} [h : Fld P s i off ft] [h1 : One P ft] {x : Operand} {c : Array Value} {v : Value} (hx : f.ev x = some (.agg c)) (hv : c[off]? = some v) : Yd P f (op1 d (.field s x i) ty pos af) v w := by
  intro a ha
  obtain ⟨fs, fd, hs, hi, ho, hf⟩ := h.out
  have h2 := h1.agg w
  simp [execOp, ha.eval hx, Instr.field, run_underlying hs, hi, asAgg, part, hf, h2, ho, hv]
end
end Go.Proofs.YtggodknolmdegaaGreatDoor.H

namespace Go.Proofs.YtggodknolmdegaaGreatDoor.H
open Go.RowKit
theorem eqItems_bytes {P : Program} {w : World} {e : TypeId} (he : P.underlying e = some (.int .u8)) (l m : List UInt8) (d : Nat) : ∀ is : List Nat, (∀ i ∈ is, i < l.length ∧ i < m.length) → (Op.eqItems (d + 1) e 1 (bv l).toArray (bv m).toArray is).run P w = .ok (is.all fun i => l.getD i 0 == m.getD i 0) w
  | [], _ => by simp [Op.eqItems]
  | i :: is, h => by
    have hi := h i (by simp)
    have hx : (bv l).toArray[i * 1]? = some (vb (l.getD i 0)) := by simp [List.getElem?_eq_getElem hi.1, List.getD_eq_getElem?_getD]
    have hy : (bv m).toArray[i * 1]? = some (vb (m.getD i 0)) := by simp [List.getElem?_eq_getElem hi.2, List.getD_eq_getElem?_getD]
    have hp : P.plainKey e = true := by simp [Program.plainKey, he]
    have h1 := run_part_plain (P := P) (w := w) hp (xs := (bv l).toArray) (off := i * 1) hx
    have h1' := run_part_plain (P := P) (w := w) hp (xs := (bv m).toArray) (off := i * 1) hy
    have h2 := eqItems_bytes (w := w) he l m d is (fun j hj => h j (by simp [hj]))
    simp only [Op.eqItems, Sem.run_bind, h1, h1', Result.andThen_ok, Op.equalIn, run_underlying he, List.all_cons]
    by_cases hc : l.getD i 0 = m.getD i 0
    · have hc' : l[i]?.getD 0 = m[i]?.getD 0 := by simpa [List.getD_eq_getElem?_getD] using hc
      simp [h2, hc']
    · have hc' : ¬ l[i]?.getD 0 = m[i]?.getD 0 := by simpa [List.getD_eq_getElem?_getD] using hc
      have h3 : ¬ ((l[i]?.getD 0).toNat : Int) = ((m[i]?.getD 0).toNat : Int) := fun c => hc' (UInt8.toNat_inj.1 (by omega))
      have h4 : (l[i]?.getD 0 == m[i]?.getD 0) = false := beq_eq_false_iff_ne.2 hc'
      simp [h2, h3, h4]
theorem all_same (l m : List UInt8) (n : Nat) (hl : l.length = n) (hm : m.length = n) : ((List.range n).all fun i => l.getD i 0 == m.getD i 0) = decide (l = m) := by
  by_cases hc : l = m
  · subst hc; simp
  · rw [decide_eq_false hc, Bool.eq_false_iff]
    intro h
    rw [List.all_eq_true] at h
    apply hc
    apply List.ext_getElem (by omega)
    intro i h1 h2
    have := h i (List.mem_range.2 (by omega))
    rw [beq_iff_eq, List.getD_eq_getElem?_getD, List.getD_eq_getElem?_getD, List.getElem?_eq_getElem h1, List.getElem?_eq_getElem h2] at this
    simpa using this
section
variable {M : Option (Option Nat)} {P : Program} {ops : Array Oper} {Q : Post} {rest : List Oper} {f : Fr} {w : World} {d : Nat} {ty : TypeId} {pos : String} {af : Array Edge}
theorem run_eqBytes {t e : TypeId} {n : Nat} {z : Value} {bb : Nat} [hu : Und P t (.array n e)] [he : Und P e (.int .u8)] [hi : Inf P e z 1 bb] {l m : List UInt8} (hl : l.length = n) (hm : m.length = n) : (Op.equalIn 10000 t (.agg (bv l).toArray) (.agg (bv m).toArray)).run P w = .ok (decide (l = m)) w := by
  obtain ⟨i, hinf⟩ := info_of_underlying he.out
  have hco : P.cellsOf e = 1 := by
    have := hi.out
    rw [hinf] at this
    simp only [Option.map_some, Option.some.injEq, Prod.mk.injEq] at this
    simp only [Program.cellsOf, hinf]
    exact this.2.1
  have h2 := run_equalIn_array (P := P) (w := w) 9999 (bv l).toArray (bv m).toArray hu.out hinf
  rw [hco, eqItems_bytes he.out l m 9998 _ (fun i hi => by have := List.mem_range.1 hi; omega), all_same l m n hl hm] at h2
  exact h2
/-- Rows of bytes held against one another. -/
theorem Y.eqB {t e yt : TypeId} {n : Nat} {z : Value} {bb : Nat} [hu : Und P t (.array n e)] [he : Und P e (.int .u8)] [hi : Inf P e z 1 bb] {x y : Operand} {l m : List UInt8} {c : Bool} (hx : f.ev x = some (.agg (bv l).toArray)) (hy : f.ev y = some (.agg (bv m).toArray)) (hg : P.eqGuardType P.depth t = false) (hl : l.length = n) (hm : m.length = n) (hc : decide (l = m) = c) : Yd P f (op1 d (.binOp .eql t x y yt) ty pos af) (.bool c) w := by
  intro a ha
  have h1 := run_eqGuard_agg (P := P) (w := w) .eql t x y (bv l).toArray (bv m).toArray hg
  have h2 := run_eqBytes (P := P) (w := w) (t := t) hl hm
  simp [execOp, ha.eval hx, ha.eval hy, h1, binOp, Op.equal, Op.maxDepth, h2, hc]
theorem Y.neB {t e yt : TypeId} {n : Nat} {z : Value} {bb : Nat} [hu : Und P t (.array n e)] [he : Und P e (.int .u8)] [hi : Inf P e z 1 bb] {x y : Operand} {l m : List UInt8} {c : Bool} (hx : f.ev x = some (.agg (bv l).toArray)) (hy : f.ev y = some (.agg (bv m).toArray)) (hg : P.eqGuardType P.depth t = false) (hl : l.length = n) (hm : m.length = n) (hc : decide (l ≠ m) = c) : Yd P f (op1 d (.binOp .neq t x y yt) ty pos af) (.bool c) w := by
  intro a ha
  have h1 := run_eqGuard_agg (P := P) (w := w) .neq t x y (bv l).toArray (bv m).toArray hg
  have h2 := run_eqBytes (P := P) (w := w) (t := t) hl hm
  have hc' : (!decide (l = m)) = c := by rw [← hc]; simp
  simp [execOp, ha.eval hx, ha.eval hy, h1, binOp, Op.equal, Op.maxDepth, h2, hc']
/-- An element of an array that is a value. -/
theorem Y.idxV {t e n : TypeId} {z : Value} {b : Nat} [ht : Und P t (.array n e)] [hi : Inf P e z 1 b] [h1 : One P e] {x y : Operand} {k : IntKind} {i : Int} {c : Array Value} {v : Value} (hx : f.ev x = some (.agg c)) (hy : f.ev y = some (.int k i)) (h0 : 0 ≤ i) (h2 : i < (n : Nat)) (hv : c[i.toNat]? = some v) : Yd P f (op1 d (.index t x y) ty pos af) v w := by
  intro a ha
  have hg := h1.agg w
  have hsz := H.run_sizeOf (P := P) (t := e) w
  simp [execOp, ha.eval hx, ha.eval hy, Instr.index, asIntOf, run_underlying ht.out, h0, h2, hsz, part, hg, hv]
end
section
variable {M : Option (Option Nat)} {P : Program} {ops : Array Oper} {Q : Post} {rest : List Oper} {f : Fr} {w : World} {d : Nat} {ty : TypeId} {pos : String} {af : Array Edge}
/-- The block of a row, an element of which is written: the row then. -/
theorem own_put {w w' : World} {base : Nat} {e : TypeId} {sz n cap g i : Nat} {cur : Array Value} {xs u : List Value} (h : w.ownsRow base e sz (.slice (some ⟨g, 0, none⟩) n cap) n xs) (hg : w.heap[g]? = some (.cells cur e (0, 0))) (hi : i < n) (hu : u.length = sz)
    (hb : w'.heap[g]? = some (.cells (cur.toList.take (i * sz) ++ u ++ cur.toList.drop (i * sz + sz)).toArray e (0, 0))) : w'.ownsRow base e sz (.slice (some ⟨g, 0, none⟩) n cap) n (xs.take (i * sz) ++ u ++ xs.drop (i * sz + sz)) := by
  rcases h.2 with ⟨h, _⟩ | ⟨g', cap', cur', hv, hB, hg', hnc, hm, hs, ht⟩
  · cases h
  · cases hv
    rw [hg] at hg'; cases hg'
    have hl := h.1
    have hsz : i * sz + sz ≤ n * sz := by rw [← Nat.succ_mul]; exact Nat.mul_le_mul_right _ hi
    have hcs : n * sz ≤ cur.size := by rw [hs]; exact Nat.mul_le_mul_right _ hnc
    have hcl : cur.toList.length = cur.size := rfl
    refine ⟨?_, .inr ⟨g, cap, _, rfl, hB, hb, hnc, hm, ?_, ?_⟩⟩
    · simp only [List.length_append, List.length_take, List.length_drop]; omega
    · simp only [List.size_toArray, List.length_append, List.length_take, List.length_drop]; omega
    · rw [← ht]
      have e1 : (cur.toList.take (i * sz) ++ u).length = i * sz + sz := by simp only [List.length_append, List.length_take]; omega
      rw [List.take_append, e1, List.take_of_length_le (l := cur.toList.take (i * sz) ++ u) (by omega), List.take_take, Nat.min_eq_left (by omega), List.take_drop, Nat.add_sub_of_le hsz]
end
section
variable {P : Program} {f : Fr} {w : World} {d : Nat} {ty : TypeId} {pos : String} {af : Array Edge}
/-- An array, none of its parts given. -/
theorem Y.zeroA {t e n : TypeId} {z ze : Value} {sz b se be : Nat} [hu : Und P t (.array n e)] [hi : Inf P t z sz b] [he : Inf P e ze se be] : Yd P f (op1 d (.build t #[]) ty pos af) (.agg z.cells) w := by
  intro a ha
  have h1 := run_zeroValue (P := P) (t := t) w
  have h2 := run_sizeOf (P := P) (t := e) w
  simp only [execOp, Sem.run_bind, Instr.build, h1, Result.andThen_ok, run_underlying hu.out, h2]
  simp [Instr.fill]
end
end Go.Proofs.YtggodknolmdegaaGreatDoor.H

namespace Go.Proofs.YtggodknolmdegaaGreatDoor.Lk
open Go.RowKit H S Ve
attribute [local irreducible] H.CL H.RW H.CW H.Yd H.thenK H.blockQ Go.Calls

abbrev u8T : TypeId := 5
abbrev digL : T := [48, 49, 50, 51, 52, 53, 54, 55, 56, 57, 97, 98, 99, 100, 101, 102]
theorem digL_get : ∀ n, n < 16 → digL.getD n 0 = hexD n := by decide +kernel
theorem byte_all {p : UInt8 → Prop} (h : ∀ n, n < 256 → p (UInt8.ofNat n)) (c : UInt8) : p c := by
  have := h c.toNat c.toNat_lt
  rwa [UInt8.ofNat_toNat] at this
theorem digL_idx (c : UInt8) : (isHex c = false ∧ idx c digL < 0) ∨ (isHex c = true ∧ idx c digL = (hexV c : Int)) := by
  revert c
  refine byte_all ?_
  decide +kernel
theorem hexB_snoc (l : T) (x : UInt8) : hexB (l ++ [x]) = hexB l ++ [hexD (x.toNat / 16), hexD (x.toNat % 16)] := by simp [hexB]

section
variable {P : Program} {f : Fr} {w : World} {d : Nat} {ty : TypeId} {pos : String} {af : Array Edge}
theorem shr4Y {t yt : TypeId} {x y : Operand} {n : Nat} (hx : f.ev x = some (.int .u8 (n : Int))) (hy : f.ev y = some (.int .u64 4)) : Yd P f (op1 d (.binOp .shr t x y yt) ty pos af) (.int .u8 ((n / 16 : Nat) : Int)) w := by
  have h := Y.shr (P := P) (w := w) (d := d) (ty := ty) (pos := pos) (af := af) (t := t) (yt := yt) hx hy (by omega)
  have e : ((n : Int)).fdiv (2 ^ (min (Int.toNat 4) IntKind.u8.bits)) = ((n / 16 : Nat) : Int) := by
    show ((n : Int)).fdiv (16 : Nat) = _
    rw [Int.fdiv_eq_ediv_of_nonneg _ (by omega)]; rfl
  rw [e] at h; exact h
theorem and15Y {t yt : TypeId} {x y : Operand} {n : Nat} (hn : n < 256) (hx : f.ev x = some (.int .u8 (n : Int))) (hy : f.ev y = some (.int .u8 15)) : Yd P f (op1 d (.binOp .and t x y yt) ty pos af) (.int .u8 ((n % 16 : Nat) : Int)) w := by
  have h := Y.bits (P := P) (w := w) (d := d) (ty := ty) (pos := pos) (af := af) (t := t) (yt := yt) (op := .and) (.inl rfl) hx hy
  have e : bits .and .u8 (n : Int) 15 = ((n % 16 : Nat) : Int) := by
    have h1 := u8_and_nat n 15 hn (by omega)
    refine h1.trans ?_
    congr 1
    have key : ∀ m : Fin 256, m.val &&& 15 = m.val % 16 := by decide +kernel
    exact key ⟨n, hn⟩
  rw [e] at h; exact h
end
theorem dig_at (n : Nat) (h : n < 16) : digL.getD ((n : Int)).toNat 0 = hexD n := by rw [Int.toNat_natCast]; exact digL_get n h

theorem refHex (l : T) (h32 : l.length = 32) (w : World) : Calls Tryz.prog 42 #[.agg (bv l).toArray] w fun e w' => K0 w w' ∧ e = .returned (vs (hexB l)) := by
  have hl16 : ([48, 49, 50, 51, 52, 53, 54, 55, 56, 57, 97, 98, 99, 100, 101, 102] : T).length = 16 := rfl
  refine H.enter Tryz.func42 Tryz.ntmps42 rfl rfl ?_; dsimp only [H.args]
  repeat' (first | (refine CL.seq ?_) | (refine CL.region ?_))
  refine RW.box rfl rfl (fun w1 hb1 hk1 hlt1 => ?_)
  have hb1' : w1.heap[w.heap.size]? = some (.cells (bv l).toArray 37 (0, 0)) := hb1
  repeat' (first | (refine CL.seq ?_) | (refine CL.region ?_) | (refine CL.block ?_) | (refine Gt.nil ?_; refine RW.nilw [0, 1, 2, 3, 4, 6] ?_; dsimp only [H.keep, H.look, H.Fr.put, Nat.beq]) | (refine Gt.assign ?_; refine RW.y (Y.assign rfl) rfl ?_))
  refine CL.loopS [1, 3, 4] (fun k vals wr => ∃ (i : Nat) (u : Value) (t : List UInt8), vals = [.pointer (some ⟨w.heap.size, 0, none⟩), u, .int .i64 (i : Int)] ∧ k = 32 - i ∧ i ≤ 32 ∧ t = hexB (l.take i) ∧ wr.ownsRow w1.heap.size u8T 1 u t.length (bv t) ∧ K0 w1 wr) 32 ⟨_, rfl, 0, _, [], rfl, rfl, by omega, rfl, World.ownsRow_nil _ _ _ _, Kept.refl _ _⟩ ?_
  rintro k vals wr ⟨i, u, t, rfl, rfl, hi, ht, how, hkr⟩
  dsimp only [List.zip, List.zipWith]
  have hbr := hkr.at0 hb1'
  have hzr := hkr.size
  have htl : t.length = 2 * i := by rw [ht, hexB_len, List.length_take]; omega
  rcases Nat.lt_or_ge i 32 with hlt | hge
  · have hxl : ((bv l).toArray).toList[0 + ((i : Int)).toNat * 1]? = some (vb (l.getD i 0)) := by
      rw [Int.toNat_natCast, Nat.zero_add, Nat.mul_one]; simp only [bv, List.getElem?_map]
      rw [List.getD_eq_getElem?_getD, List.getElem?_eq_getElem (by omega)]; rfl
    generalize hx : l.getD i 0 = x at *
    have hx1 := x.toNat_lt
    have hsn : hexB (l.take (i + 1)) = t ++ [hexD (x.toNat / 16), hexD (x.toNat % 16)] := by rw [take_snoc 0 l i (by omega), hx, hexB_snoc, ht]
    repeat' (first | (refine CL.seq ?_) | (refine CL.region ?_) | (refine CL.skip ?_) | (refine CL.condP rfl (fun _ => ?_) (fun _ => ?_) <;> try (exfalso; omega)) | (refine CL.block ?_) | (refine Gt.nil ?_; refine RW.nilw [0, 1, 2, 3, 4, 6] ?_; dsimp only [H.keep, H.look, H.Fr.put, Nat.beq]) | (refine Gt.move ?_; refine RW.y (Y.move rfl) rfl ?_) | (refine Gt.lss ?_; refine RW.y (Y.lss rfl rfl) rfl ?_))
    have hat : ∀ w', Kept (fun k => u.ownBlock = some k) wr w' → w'.heap[w.heap.size]? = some (.cells (bv l).toArray 37 (0, 0)) := fun w' h => h.at hbr fun q => by have := (how.lt _ q).1; omega
    refine CL.draw (fun w' => Kept (fun k => u.ownBlock = some k) wr w') (by kernel_rfl) (fun w2 hheap hk2 => ?_)
    have hS : Kept (fun k => u.ownBlock = some k) wr w2 := hk2.of0
    skip
    refine AW.take 0 rfl (by kernel_rfl) (by kernel_rfl) (by kernel_rfl) rfl (by assumption) (fun w hS => Y.move rfl) ?_
    refine AW.take 1 rfl (by kernel_rfl) (by kernel_rfl) (by kernel_rfl) rfl (by assumption) (fun w hS => Y.move rfl) ?_
    refine AW.take 2 rfl (by kernel_rfl) (by kernel_rfl) (by kernel_rfl) rfl (by assumption) (fun w hS => Y.idxP rfl rfl (by omega) (by omega)) ?_
    refine AW.take 3 rfl (by kernel_rfl) (by kernel_rfl) (by kernel_rfl) rfl (by assumption) (fun w hS => Y.loadB rfl (hat _ hS) hxl) ?_
    refine AW.take 4 rfl (by kernel_rfl) (by kernel_rfl) (by kernel_rfl) rfl (by assumption) (fun w hS => shr4Y rfl rfl) ?_
    refine AW.take 5 rfl (by kernel_rfl) (by kernel_rfl) (by kernel_rfl) rfl (by assumption) (fun w hS => Y.idxs rfl rfl (by omega) (by omega)) ?_
    refine AW.take 6 rfl (by kernel_rfl) (by kernel_rfl) (by kernel_rfl) rfl (by assumption) (fun w hS => Y.move rfl) ?_
    refine AW.take 7 rfl (by kernel_rfl) (by kernel_rfl) (by kernel_rfl) rfl (by assumption) (fun w hS => Y.idxP rfl rfl (by omega) (by omega)) ?_
    refine AW.take 8 rfl (by kernel_rfl) (by kernel_rfl) (by kernel_rfl) rfl (by assumption) (fun w hS => Y.loadB rfl (hat _ hS) hxl) ?_
    refine AW.take 9 rfl (by kernel_rfl) (by kernel_rfl) (by kernel_rfl) rfl (by assumption) (fun w hS => and15Y hx1 rfl rfl) ?_
    refine AW.take 10 rfl (by kernel_rfl) (by kernel_rfl) (by kernel_rfl) rfl (by assumption) (fun w hS => Y.idxs rfl rfl (by omega) (by omega)) ?_
    refine AW.next 11 rfl (by kernel_rfl) ?_
    have hz2 := hk2.size
    refine RW.build2 rfl rfl rfl rfl rfl rfl (fun w3 hb3 hk3 hlt3 => ?_)
    have hK3 := hk2.trans0 hk3
    have hS : Kept (fun k => u.ownBlock = some k) wr w3 := hK3.of0
    refine RW.nil (Nm.then ⟨hS, ?_⟩)
    skip
    refine AW.next 12 rfl (by kernel_rfl) ?_
    have hs3 : Sl w3 1 (.slice (some ⟨w2.heap.size, 0, none⟩) 2 2) 2 (bv [hexD (x.toNat / 16), hexD (x.toNat % 16)]) := by
      have h : Sl w3 1 (.slice (some ⟨w2.heap.size, 0, none⟩) 2 2) 2 (bv [digL.getD (((x.toNat / 16 : Nat) : Int)).toNat 0, digL.getD (((x.toNat % 16 : Nat) : Int)).toNat 0]) := sl_new hb3 rfl (by decide)
      rw [dig_at _ (by omega), dig_at _ (by omega)] at h
      exact h
    refine RW.app (sz := 1) rfl rfl rfl rfl rfl (own_kept0 how hK3) hs3 (bv_one _) (by omega) (by omega) (by omega) (fun u4 w4 how4 hk4 hl4 => ?_)
    have how4' : w4.ownsRow w1.heap.size u8T 1 u4 (hexB (l.take (i + 1))).length (bv (hexB (l.take (i + 1)))) := by rw [hsn, List.length_append, bv, List.map_append]; exact how4
    have hS : Kept (fun k => u.ownBlock = some k) wr w4 := hK3.of0.trans hk4 fun k h => .inl h
    refine RW.nil (Nm.then ⟨hS, ?_⟩)
    refine AW.take 13 rfl (by kernel_rfl) (by kernel_rfl) (by kernel_rfl) rfl (by assumption) (fun w hS => Y.assign rfl) ?_
    refine AW.donew [1, 3, 4] (by kernel_rfl) ?_
    dsimp only [H.keep, H.look, H.Fr.put, Nat.beq]
    repeat' (first | (refine CL.region ?_) | (refine CL.done ?_) | (refine Nm.block ?_) | (refine Nm.then ?_) | (refine Gt.nil ?_; refine RW.nilw [0, 1, 2, 3, 4, 6] ?_; dsimp only [H.keep, H.look, H.Fr.put, Nat.beq]) | (refine Gt.assign ?_; refine RW.y (Y.assign rfl) rfl ?_) | (refine Gt.move ?_; refine RW.y (Y.move rfl) rfl ?_) | (refine Gt.add ?_; refine RW.y (Y.add64 rfl rfl (by omega) (by omega)) rfl ?_))
    exact ⟨32 - (i + 1), _, rfl, rfl, rfl, by omega, i + 1, u4, _, rfl, rfl, by omega, rfl, how4', hkr.trans hS fun k h => .inr (how.lt k h).1⟩
  · have hi : i = 32 := by omega
    subst hi
    repeat' (first | (refine CL.seq ?_) | (refine CL.region ?_) | (refine CL.condP rfl (fun _ => ?_) (fun _ => ?_) <;> try (exfalso; omega)) | (refine CL.exit ?_) | (refine Ex.then ?_) | (refine Ex.hit ?_) | (refine Gt.nil ?_; refine RW.nilw [0, 1, 2, 3, 4, 6] ?_; dsimp only [H.keep, H.look, H.Fr.put, Nat.beq]) | (refine Gt.move ?_; refine RW.y (Y.move rfl) rfl ?_) | (refine Gt.lss ?_; refine RW.y (Y.lss rfl rfl) rfl ?_))
    refine RW.y (Y.strb rfl (Sl.of_own how)) rfl ?_
    repeat' (first | (refine CL.ret ?_) | (refine Gt.nil ?_; refine RW.nilw [0, 1, 2, 3, 4, 6] ?_; dsimp only [H.keep, H.look, H.Fr.put, Nat.beq]) | (refine Gt.assign ?_; refine RW.y (Y.assign rfl) rfl ?_))
    exact FQ.one rfl rfl rfl ⟨hk1.trans0 hkr, by rw [ht, List.take_of_length_le (by omega)]⟩

theorem hex (l : T) (h32 : l.length = 32) (w : World) : Calls Tryz.prog 39 #[.agg (bv l).toArray] w fun e w' => K0 w w' ∧ e = .returned (vs (hexB l)) := by
  have hl16 : ([48, 49, 50, 51, 52, 53, 54, 55, 56, 57, 97, 98, 99, 100, 101, 102] : T).length = 16 := rfl
  refine H.enter Tryz.func39 Tryz.ntmps39 rfl rfl ?_; dsimp only [H.args]
  repeat' (first | (refine CL.seq ?_) | (refine CL.region ?_))
  refine RW.box rfl rfl (fun w1 hb1 hk1 hlt1 => ?_)
  have hb1' : w1.heap[w.heap.size]? = some (.cells (bv l).toArray 37 (0, 0)) := hb1
  repeat' (first | (refine CL.seq ?_) | (refine CL.region ?_) | (refine Gt.nil ?_; refine RW.nilw [0, 1, 2, 3, 5, 6, 7, 8] ?_; dsimp only [H.keep, H.look, H.Fr.put, Nat.beq]) | (refine Gt.assign ?_; refine RW.y (Y.assign rfl) rfl ?_))
  refine RW.y (Y.loadBlock rfl hb1' (by simp [h32])) rfl ?_
  repeat' (first | (refine CL.block ?_) | (refine Gt.nil ?_; refine RW.nilw [0, 1, 2, 3, 5, 6, 7, 8] ?_; dsimp only [H.keep, H.look, H.Fr.put, Nat.beq]) | (refine Gt.move ?_; refine RW.y (Y.move rfl) rfl ?_))
  refine CL.loopS [3, 6, 7] (fun k vals wr => ∃ (i : Nat) (u : Value) (t : List UInt8), vals = [u, .agg (bv l).toArray, .int .i64 (i : Int)] ∧ k = 32 - i ∧ i ≤ 32 ∧ t = hexB (l.take i) ∧ wr.ownsRow w1.heap.size u8T 1 u t.length (bv t) ∧ K0 w1 wr) 32 ⟨_, rfl, 0, _, [], rfl, rfl, by omega, rfl, World.ownsRow_nil _ _ _ _, Kept.refl _ _⟩ ?_
  rintro k vals wr ⟨i, u, t, rfl, rfl, hi, ht, how, hkr⟩
  dsimp only [List.zip, List.zipWith]
  have hzr := hkr.size
  have htl : t.length = 2 * i := by rw [ht, hexB_len, List.length_take]; omega
  rcases Nat.lt_or_ge i 32 with hlt | hge
  · generalize hx : l.getD i 0 = x at *
    have hx1 := x.toNat_lt
    have hsn : hexB (l.take (i + 1)) = t ++ [hexD (x.toNat / 16), hexD (x.toNat % 16)] := by rw [take_snoc 0 l i (by omega), hx, hexB_snoc, ht]
    have hxl : ((bv l).toArray)[((i : Int)).toNat]? = some (vb x) := by
      rw [Int.toNat_natCast, List.getElem?_toArray]; simp only [bv, List.getElem?_map]
      rw [List.getElem?_eq_getElem (by omega), ← hx, List.getD_eq_getElem?_getD, List.getElem?_eq_getElem (by omega)]; rfl
    repeat' (first | (refine CL.seq ?_) | (refine CL.region ?_) | (refine CL.skip ?_) | (refine CL.condP rfl (fun _ => ?_) (fun _ => ?_) <;> try (exfalso; omega)) | (refine CL.block ?_) | (refine Gt.nil ?_; refine RW.nilw [0, 1, 2, 3, 5, 6, 7, 8] ?_; dsimp only [H.keep, H.look, H.Fr.put, Nat.beq]) | (refine Gt.lss ?_; refine RW.y (Y.lss rfl rfl) rfl ?_))
    refine RW.y (Y.idxV rfl rfl (by omega) (by omega) hxl) rfl ?_
    repeat' (first | (refine Gt.nil ?_; refine RW.nilw [0, 1, 2, 3, 5, 6, 7, 8] ?_; dsimp only [H.keep, H.look, H.Fr.put, Nat.beq]) | (refine Gt.assign ?_; refine RW.y (Y.assign rfl) rfl ?_))
    refine CL.draw (fun w' => Kept (fun k => u.ownBlock = some k) wr w') (by kernel_rfl) (fun w2 hheap hk2 => ?_)
    have hS : Kept (fun k => u.ownBlock = some k) wr w2 := hk2.of0
    skip
    refine AW.take 0 rfl (by kernel_rfl) (by kernel_rfl) (by kernel_rfl) rfl (by assumption) (fun w hS => Y.move rfl) ?_
    refine AW.take 1 rfl (by kernel_rfl) (by kernel_rfl) (by kernel_rfl) rfl (by assumption) (fun w hS => Y.move rfl) ?_
    refine AW.take 2 rfl (by kernel_rfl) (by kernel_rfl) (by kernel_rfl) rfl (by assumption) (fun w hS => shr4Y rfl rfl) ?_
    refine AW.take 3 rfl (by kernel_rfl) (by kernel_rfl) (by kernel_rfl) rfl (by assumption) (fun w hS => Y.idxs rfl rfl (by omega) (by omega)) ?_
    refine AW.take 4 rfl (by kernel_rfl) (by kernel_rfl) (by kernel_rfl) rfl (by assumption) (fun w hS => Y.move rfl) ?_
    refine AW.take 5 rfl (by kernel_rfl) (by kernel_rfl) (by kernel_rfl) rfl (by assumption) (fun w hS => and15Y hx1 rfl rfl) ?_
    refine AW.take 6 rfl (by kernel_rfl) (by kernel_rfl) (by kernel_rfl) rfl (by assumption) (fun w hS => Y.idxs rfl rfl (by omega) (by omega)) ?_
    refine AW.next 7 rfl (by kernel_rfl) ?_
    have hz2 := hk2.size
    refine RW.build2 rfl rfl rfl rfl rfl rfl (fun w3 hb3 hk3 hlt3 => ?_)
    have hK3 := hk2.trans0 hk3
    have hS : Kept (fun k => u.ownBlock = some k) wr w3 := hK3.of0
    refine RW.nil (Nm.then ⟨hS, ?_⟩)
    skip
    refine AW.next 8 rfl (by kernel_rfl) ?_
    have hs3 : Sl w3 1 (.slice (some ⟨w2.heap.size, 0, none⟩) 2 2) 2 (bv [hexD (x.toNat / 16), hexD (x.toNat % 16)]) := by
      have h : Sl w3 1 (.slice (some ⟨w2.heap.size, 0, none⟩) 2 2) 2 (bv [digL.getD (((x.toNat / 16 : Nat) : Int)).toNat 0, digL.getD (((x.toNat % 16 : Nat) : Int)).toNat 0]) := sl_new hb3 rfl (by decide)
      rw [dig_at _ (by omega), dig_at _ (by omega)] at h
      exact h
    refine RW.app (sz := 1) rfl rfl rfl rfl rfl (own_kept0 how hK3) hs3 (bv_one _) (by omega) (by omega) (by omega) (fun u4 w4 how4 hk4 hl4 => ?_)
    have how4' : w4.ownsRow w1.heap.size u8T 1 u4 (hexB (l.take (i + 1))).length (bv (hexB (l.take (i + 1)))) := by rw [hsn, List.length_append, bv, List.map_append]; exact how4
    have hS : Kept (fun k => u.ownBlock = some k) wr w4 := hK3.of0.trans hk4 fun k h => .inl h
    refine RW.nil (Nm.then ⟨hS, ?_⟩)
    refine AW.take 9 rfl (by kernel_rfl) (by kernel_rfl) (by kernel_rfl) rfl (by assumption) (fun w hS => Y.assign rfl) ?_
    refine AW.donew [3, 6, 7] (by kernel_rfl) ?_
    dsimp only [H.keep, H.look, H.Fr.put, Nat.beq]
    repeat' (first | (refine CL.region ?_) | (refine CL.done ?_) | (refine Nm.block ?_) | (refine Nm.then ?_) | (refine Gt.nil ?_; refine RW.nilw [0, 1, 2, 3, 5, 6, 7, 8] ?_; dsimp only [H.keep, H.look, H.Fr.put, Nat.beq]) | (refine Gt.move ?_; refine RW.y (Y.move rfl) rfl ?_) | (refine Gt.add ?_; refine RW.y (Y.add64 rfl rfl (by omega) (by omega)) rfl ?_))
    exact ⟨32 - (i + 1), _, rfl, rfl, rfl, by omega, i + 1, u4, _, rfl, rfl, by omega, rfl, how4', hkr.trans hS fun k h => .inr (how.lt k h).1⟩
  · have hi : i = 32 := by omega
    subst hi
    repeat' (first | (refine CL.seq ?_) | (refine CL.region ?_) | (refine CL.condP rfl (fun _ => ?_) (fun _ => ?_) <;> try (exfalso; omega)) | (refine CL.exit ?_) | (refine Ex.then ?_) | (refine Ex.hit ?_) | (refine Gt.nil ?_; refine RW.nilw [0, 1, 2, 3, 5, 6, 7, 8] ?_; dsimp only [H.keep, H.look, H.Fr.put, Nat.beq]) | (refine Gt.move ?_; refine RW.y (Y.move rfl) rfl ?_) | (refine Gt.lss ?_; refine RW.y (Y.lss rfl rfl) rfl ?_))
    refine RW.y (Y.strb rfl (Sl.of_own how)) rfl ?_
    repeat' (first | (refine CL.ret ?_) | (refine Gt.nil ?_; refine RW.nilw [0, 1, 2, 3, 5, 6, 7, 8] ?_; dsimp only [H.keep, H.look, H.Fr.put, Nat.beq]) | (refine Gt.assign ?_; refine RW.y (Y.assign rfl) rfl ?_))
    exact FQ.one rfl rfl rfl ⟨hk1.trans0 hkr, by rw [ht, List.take_of_length_le (by omega)]⟩

/-- What has been read of a sum, behind i signs. -/
def keyS (K : T) (i : Nat) (v : Nat) : T := K.set (i / 2) (UInt8.ofNat (((K.getD (i / 2) 0).toNat * 16 % 256) ||| v))
def keyAt (s : T) : Nat → T
  | 0 => List.replicate 32 0
  | i + 1 => keyS (keyAt s i) i (hexV (s.getD i 0))
theorem keyAt_len (s : T) : ∀ i, (keyAt s i).length = 32
  | 0 => rfl
  | i + 1 => by rw [keyAt, keyS, List.length_set]; exact keyAt_len s i
theorem nib0 : ∀ v, v < 16 → 0 ||| v = v := by decide +kernel
theorem nib1 : ∀ x, x < 16 → ∀ v, v < 16 → ((UInt8.ofNat x).toNat * 16 % 256) ||| v = 16 * x + v := by decide +kernel
theorem pairB_app : ∀ (a b : T), a.length % 2 = 0 → pairB (a ++ b) = pairB a ++ pairB b
  | [], _, _ => rfl
  | [x], _, h => by simp at h
  | x :: y :: r, b, h => by
    simp only [List.cons_append, pairB]
    rw [pairB_app r b (by simp only [List.length_cons] at h; omega)]
theorem key_even (s : T) (hs : s.length = 64) (hx : s.all isHex = true) : ∀ j, j ≤ 32 → keyAt s (2 * j) = pairB (s.take (2 * j)) ++ List.replicate (32 - j) 0
  | 0, _ => rfl
  | j + 1, h => by
    have ih := key_even s hs hx j (by omega)
    have hp : (pairB (s.take (2 * j))).length = j := by
      have := pair_len (s.take (2 * j)) (by rw [List.length_take]; omega)
      rw [List.length_take] at this; omega
    have hex : ∀ i, i < 64 → hexV (s.getD i 0) < 16 := fun i hi => (hexV_lt (List.all_eq_true.1 hx _ (getD_mem 0 (by omega)))).1
    have h1 : s.take (2 * (j + 1)) = s.take (2 * j) ++ [s.getD (2 * j) 0, s.getD (2 * j + 1) 0] := by
      rw [show 2 * (j + 1) = 2 * j + 1 + 1 from by omega, take_snoc 0 s _ (by omega), take_snoc 0 s _ (by omega), List.append_assoc]; rfl
    have hr : List.replicate (32 - j) (0 : UInt8) = 0 :: List.replicate (32 - (j + 1)) 0 := by
      rw [show 32 - j = 32 - (j + 1) + 1 from by omega, List.replicate_succ]
    rw [show 2 * (j + 1) = 2 * j + 1 + 1 from by omega, keyAt, keyAt, ih, hr, ← show 2 * (j + 1) = 2 * j + 1 + 1 from by omega, h1, pairB_app _ _ (by rw [List.length_take]; omega)]
    have g1 : (pairB (s.take (2 * j)) ++ (0 : UInt8) :: List.replicate (32 - (j + 1)) 0).getD (2 * j / 2) 0 = 0 := by
      rw [show 2 * j / 2 = j from by omega, List.getD_eq_getElem?_getD, List.getElem?_append_right (by omega), hp]; simp
    have s1 : keyS (pairB (s.take (2 * j)) ++ (0 : UInt8) :: List.replicate (32 - (j + 1)) 0) (2 * j) (hexV (s.getD (2 * j) 0)) = pairB (s.take (2 * j)) ++ UInt8.ofNat (hexV (s.getD (2 * j) 0)) :: List.replicate (32 - (j + 1)) 0 := by
      rw [keyS, g1, show 2 * j / 2 = j from by omega, List.set_append_right _ _ (by omega), hp, Nat.sub_self, List.set_cons_zero]
      have := nib0 _ (hex (2 * j) (by omega))
      rw [show (0 : UInt8).toNat * 16 % 256 = 0 from rfl, this]
    have g2 : (pairB (s.take (2 * j)) ++ UInt8.ofNat (hexV (s.getD (2 * j) 0)) :: List.replicate (32 - (j + 1)) 0).getD ((2 * j + 1) / 2) 0 = UInt8.ofNat (hexV (s.getD (2 * j) 0)) := by
      rw [show (2 * j + 1) / 2 = j from by omega, List.getD_eq_getElem?_getD, List.getElem?_append_right (by omega), hp]; simp
    rw [s1, keyS, g2, show (2 * j + 1) / 2 = j from by omega, List.set_append_right _ _ (by omega), hp, Nat.sub_self, List.set_cons_zero, nib1 _ (hex _ (by omega)) _ (hex _ (by omega)), List.append_assoc]
    rfl
theorem key_all {s : T} (hs : s.length = 64) (hx : s.all isHex = true) : keyAt s 64 = pairB s := by
  have := key_even s hs hx 32 (Nat.le_refl _)
  rw [this, List.take_of_length_le (by omega)]; simp
theorem unhex_some {s : T} (hs : s.length = 64) (hx : s.all isHex = true) : unhexB s = some (keyAt s 64) := by rw [unhexB, if_pos ⟨hs, hx⟩, key_all hs hx]
theorem unhex_none {s : T} (h : ¬ (s.length = 64 ∧ s.all isHex = true)) : unhexB s = none := if_neg h
/-- What reading a sum answers. -/
def keyR (s : T) : Value := .tuple #[.agg (bv ((unhexB s).getD (List.replicate 32 0))).toArray, .bool (unhexB s).isSome]
theorem keyR_none {s : T} (h : unhexB s = none) : keyR s = .tuple #[.agg (bv (List.replicate 32 0)).toArray, .bool false] := by rw [keyR, h]; rfl
theorem keyR_some {s k : T} (h : unhexB s = some k) : keyR s = .tuple #[.agg (bv k).toArray, .bool true] := by rw [keyR, h]; rfl
end Go.Proofs.YtggodknolmdegaaGreatDoor.Lk

namespace Go.Proofs.YtggodknolmdegaaGreatDoor.Lk
open Go.RowKit H S Ve
attribute [local irreducible] H.CL H.RW H.CW H.Yd H.thenK H.blockQ Go.Calls keyAt unhexB

section
variable {P : Program} {f : Fr} {w : World} {d : Nat} {ty : TypeId} {pos : String} {af : Array Edge}
theorem shl4Y {t yt : TypeId} {x y : Operand} {n : Nat} (hx : f.ev x = some (.int .u8 (n : Int))) (hy : f.ev y = some (.int .u64 4)) : Yd P f (op1 d (.binOp .shl t x y yt) ty pos af) (.int .u8 ((n * 16 % 256 : Nat) : Int)) w := by
  have h := Y.shl (P := P) (w := w) (d := d) (ty := ty) (pos := pos) (af := af) (t := t) (yt := yt) hx hy (by omega)
  have e : IntKind.u8.wrap ((n : Int) * 2 ^ (min (Int.toNat 4) IntKind.u8.bits)) = ((n * 16 % 256 : Nat) : Int) := by
    show IntKind.u8.wrap ((n : Int) * (16 : Nat)) = _
    rw [wrapu8]; omega
  rw [e] at h; exact h
theorem orBY {t yt : TypeId} {x y : Operand} {n m : Nat} {i : Int} (hx : f.ev x = some (.int .u8 (n : Int))) (hy : f.ev y = some (.int .u8 i)) (hi : i = (m : Int)) (hn : n < 256) (hm : m < 256) : Yd P f (op1 d (.binOp .or t x y yt) ty pos af) (vb (UInt8.ofNat (n ||| m))) w := by
  subst hi
  have h := Y.bits (P := P) (w := w) (d := d) (ty := ty) (pos := pos) (af := af) (t := t) (yt := yt) (op := .or) (.inr (.inl rfl)) hx hy
  have hlt : n ||| m < 2 ^ 8 := Nat.or_lt_two_pow (by omega) (by omega)
  rw [u8_or_nat n m (by omega) (by omega)] at h
  rw [vb, UInt8.toNat_ofNat', Nat.mod_eq_of_lt hlt]; exact h
end
abbrev keyT : TypeId := 37
theorem key_cell (K : T) (i : Nat) (h : i < K.length) : ((bv K).toArray).toList[i]? = some (vb (K.getD i 0)) := by
  simp only [bv, List.getElem?_map]
  rw [List.getD_eq_getElem?_getD, List.getElem?_eq_getElem (by omega)]; rfl
theorem key_put (K : T) (i : Nat) (x : UInt8) : ((bv K).toArray).setIfInBounds i (vb x) = (bv (K.set i x)).toArray := by
  simp [bv, List.map_set]
theorem isHex_iff (c : UInt8) : isHex c = true ↔ (48 ≤ (c.toNat : Int) ∧ (c.toNat : Int) ≤ 57) ∨ (97 ≤ (c.toNat : Int) ∧ (c.toNat : Int) ≤ 102) := by
  simp only [isHex, isDig, Bool.or_eq_true, Bool.and_eq_true, decide_eq_true_eq]; omega
theorem hexV_val (c : UInt8) : hexV c = if c.toNat ≤ 57 then c.toNat - 48 else c.toNat - 87 := rfl

theorem refUnhex (s : T) (hl : s.length ≤ 1000000000000) (w : World) : Calls Tryz.prog 31 #[vs s] w fun e w' => K0 w w' ∧ e = .returned (keyR s) := by
  refine H.enter Tryz.func31 Tryz.ntmps31 rfl rfl ?_; dsimp only [H.args]
  repeat' (first | (refine CL.seq ?_) | (refine CL.region ?_))
  refine RW.alloc rfl (fun w1 hb1 hk1 hlt1 => ?_)
  have hb1' : w1.heap[w.heap.size]? = some (.cells (bv (List.replicate 32 0)).toArray keyT (0, 0)) := hb1
  clear hb1
  repeat' (first | (refine CL.seq ?_) | (refine CL.region ?_) | (refine Gt.nil ?_; refine RW.nilw [0, 2, 3, 4, 5, 6, 7, 10, 13, 20, 29] ?_; dsimp only [H.keep, H.look, H.Fr.put, Nat.beq]) | (refine Gt.assign ?_; refine RW.y (Y.assign rfl) rfl ?_))
  refine RW.alloc rfl (fun w2 hb2 hk2 hlt2 => ?_)
  have hb2' : w2.heap[w1.heap.size]? = some (.cells (bv (List.replicate 32 0)).toArray keyT (0, 0)) := hb2
  clear hb2
  have hb12 := hk2.at0 hb1'
  have hK2 := hk1.trans0 hk2
  repeat' (first | (refine CL.seq ?_) | (refine CL.region ?_) | (refine CL.skip ?_) | (refine CL.condP rfl (fun _ => ?_) (fun _ => ?_) <;> try (exfalso; omega)) | (refine CL.block ?_) | (refine Gt.nil ?_; refine RW.nilw [0, 2, 3, 4, 5, 6, 7, 10, 13, 20, 29] ?_; dsimp only [H.keep, H.look, H.Fr.put, Nat.beq]) | (refine Gt.move ?_; refine RW.y (Y.move rfl) rfl ?_) | (refine Gt.assign ?_; refine RW.y (Y.assign rfl) rfl ?_) | (refine Gt.len ?_; refine RW.y (Y.lens rfl) rfl ?_) | (refine Gt.neq ?_; refine RW.y (Y.nei rfl rfl) rfl ?_))
  · rename_i h
    refine RW.y (Y.loadBlock rfl hb2' (by rfl)) rfl ?_
    refine RW.storeBlock rfl rfl (by rfl) (bv_one _) hb12 (by rfl) (fun w3 hb3 hk3 => ?_)
    repeat' (first | (refine CL.ret ?_) | (refine Gt.nil ?_; refine RW.nilw [0, 2, 3, 4, 5, 6, 7, 10, 13, 20, 29] ?_; dsimp only [H.keep, H.look, H.Fr.put, Nat.beq]) | (refine Gt.assign ?_; refine RW.y (Y.assign rfl) rfl ?_))
    rw [keyR_none (unhex_none fun c => h (by omega))]
    exact FQ.res (rs := [.cell 2 37, .tmp 3]) (vs := [_, _]) rfl rfl ⟨⟨_, rfl, load_block hb3 rfl⟩, rfl, trivial⟩ rfl (⟨hK2.trans hk3 fun k h => .inr (by omega), rfl⟩)
  rename_i h64
  refine CL.loopS [0, 2, 4, 5] (fun k vals wr => ∃ (i : Nat), vals = [vs s, .pointer (some ⟨w.heap.size, 0, none⟩), .pointer (some ⟨w1.heap.size, 0, none⟩), .int .i64 (i : Int)] ∧ k = 64 - i ∧ i ≤ 64 ∧ (s.take i).all isHex = true ∧ wr.heap[w1.heap.size]? = some (.cells (bv (keyAt s i)).toArray keyT (0, 0)) ∧ wr.heap[w.heap.size]? = some (.cells (bv (List.replicate 32 0)).toArray keyT (0, 0)) ∧ K0 w wr) 64 ⟨_, rfl, 0, rfl, rfl, Nat.zero_le _, rfl, by rw [keyAt]; exact hb2', hb12, hK2⟩ ?_
  rintro k vals wr ⟨i, rfl, rfl, hi, hall, hbk, hbo, hkr⟩
  dsimp only [List.zip, List.zipWith]
  rcases Nat.lt_or_ge i 64 with hlt | hge
  · generalize hc : s.getD ((i : Int)).toNat 0 = c at *
    have hi2 : ((i : Int)).toNat = i := Int.toNat_natCast i
    rw [hi2] at hc
    have hs := isHex_iff c
    have hv := hexV_val c
    have hlo : 48 ≤ (c.toNat : Int) → (c.toNat : Int) ≤ 57 → (c.toNat : Int) - 48 = (hexV c : Int) := fun h1 h2 => by rw [hv, if_pos (by omega)]; omega
    have hhi : 97 ≤ (c.toNat : Int) → (c.toNat : Int) - 97 + 10 = (hexV c : Int) := fun h1 => by rw [hv, if_neg (by omega)]; omega
    have hv2 : hexV c < 256 := by have := c.toNat_lt; rw [hv]; split <;> omega
    have hc1 := c.toNat_lt
    have e2 : (keyAt s i).set (0 + ((i : Int) / 2).toNat * 1) (UInt8.ofNat (((keyAt s i).getD (0 + ((i : Int) / 2).toNat * 1) 0).toNat * 16 % 256 ||| hexV c)) = keyAt s (i + 1) := by
      rw [show 0 + ((i : Int) / 2).toNat * 1 = i / 2 from by omega, keyAt, keyS, hc]
    have hbad : isHex c = false → unhexB s = none := fun q => unhex_none fun r => by
      have := all_false (p := isHex) 0 (show i < s.length by omega) (by rw [hc]; exact q)
      rw [this] at r; cases r.2
    have hgood : isHex c = true → (s.take (i + 1)).all isHex = true := fun q => all_step 0 (by omega) hall (by rw [hc]; exact q)
    repeat' (first | (refine CL.seq ?_) | (refine CL.region ?_) | (refine CL.skip ?_) | (refine CL.condP rfl (fun _ => ?_) (fun _ => ?_) <;> try (exfalso; omega)) | (refine CL.condF rfl ?_) | (refine CL.block ?_) | (refine CL.done ?_) | (refine Nm.block ?_) | (refine Gt.nil ?_; refine RW.nilw [0, 2, 3, 4, 5, 6, 7, 10, 13, 20, 29] ?_; dsimp only [H.keep, H.look, H.Fr.put, Nat.beq]) | (refine Gt.move ?_; refine RW.y (Y.move rfl) rfl ?_) | (refine Gt.guard ?_; first | (refine RW.part rfl rfl rfl (fun _ => ?_) (fun _ => ?_) <;> try (exfalso; omega)) | (refine RW.on rfl rfl rfl ?_) | (refine RW.off1 rfl rfl rfl rfl rfl ?_)) | (refine Gt.assign ?_; refine RW.y (Y.assign rfl) rfl ?_) | (refine Gt.geq ?_; refine RW.y (Y.geq rfl rfl) rfl ?_) | (refine Gt.leq ?_; refine RW.y (Y.leq rfl rfl) rfl ?_) | (refine Gt.pick ?_; first | (refine RW.y (Y.pickT rfl rfl) rfl ?_) | (refine RW.y (Y.pickF rfl rfl) rfl ?_)) | (refine Gt.sub ?_; refine RW.y (Y.subN rfl rfl (by exact wrapu8_id (by omega) (by omega))) rfl ?_) | (refine Gt.quo ?_; refine RW.y (Y.quoP rfl rfl (by omega) (by omega) (by exact wrap64_id (by omega) (by omega))) rfl ?_) | (refine Gt.idx ?_; refine RW.y (Y.idxP rfl rfl (by omega) (by omega)) rfl ?_) | (refine Gt.lss ?_; refine RW.y (Y.lss rfl rfl) rfl ?_) | (refine Gt.index ?_; refine RW.y (Y.idxs rfl rfl (by omega) (by omega)) rfl ?_) | (refine Gt.add ?_; (refine RW.y (Y.addN rfl rfl (by exact wrapu8_id (by omega) (by omega))) rfl ?_)))
    all_goals rw [hi2, hc] at *
    · refine RW.y (Y.loadB rfl hbk (key_cell _ _ (by rw [keyAt_len]; omega))) rfl ?_
      refine RW.y (shl4Y rfl rfl) rfl ?_
      refine RW.y (Y.move rfl) rfl ?_
      refine RW.y (orBY (m := hexV c) rfl rfl (by exact hlo (by omega) (by omega)) (by omega) (by omega)) rfl ?_
      repeat' ((refine Gt.idx ?_; refine RW.y (Y.idxP rfl rfl (by omega) (by omega)) rfl ?_))
      refine RW.storeB rfl rfl rfl hbk (by rw [List.size_toArray, List.length_map, keyAt_len]; omega) (fun w3 hb3 hk3 => ?_)
      rw [key_put, e2] at hb3
      repeat' (first | (refine CL.region ?_) | (refine CL.done ?_) | (refine Nm.block ?_) | (refine Nm.then ?_) | (refine Gt.nil ?_; refine RW.nilw [0, 2, 3, 4, 5, 6, 7, 10, 13, 20, 29] ?_; dsimp only [H.keep, H.look, H.Fr.put, Nat.beq]) | (refine Gt.move ?_; refine RW.y (Y.move rfl) rfl ?_) | (refine Gt.assign ?_; refine RW.y (Y.assign rfl) rfl ?_) | (refine Gt.add ?_; (refine RW.y (Y.addN rfl rfl (by exact wrap64_id (by omega) (by omega))) rfl ?_)))
      exact ⟨64 - (i + 1), _, rfl, rfl, rfl, by omega, i + 1, rfl, rfl, by omega, hgood (hs.2 (by omega)), hb3, hk3.at hbo (by omega), hkr.trans hk3 fun k h => .inr (by omega)⟩
    · refine RW.y (Y.loadB rfl hbk (key_cell _ _ (by rw [keyAt_len]; omega))) rfl ?_
      refine RW.y (shl4Y rfl rfl) rfl ?_
      refine RW.y (Y.move rfl) rfl ?_
      refine RW.y (orBY (m := hexV c) rfl rfl (by exact hhi (by omega)) (by omega) (by omega)) rfl ?_
      repeat' ((refine Gt.idx ?_; refine RW.y (Y.idxP rfl rfl (by omega) (by omega)) rfl ?_))
      refine RW.storeB rfl rfl rfl hbk (by rw [List.size_toArray, List.length_map, keyAt_len]; omega) (fun w3 hb3 hk3 => ?_)
      rw [key_put, e2] at hb3
      repeat' (first | (refine CL.region ?_) | (refine CL.done ?_) | (refine Nm.block ?_) | (refine Nm.then ?_) | (refine Gt.nil ?_; refine RW.nilw [0, 2, 3, 4, 5, 6, 7, 10, 13, 20, 29] ?_; dsimp only [H.keep, H.look, H.Fr.put, Nat.beq]) | (refine Gt.move ?_; refine RW.y (Y.move rfl) rfl ?_) | (refine Gt.assign ?_; refine RW.y (Y.assign rfl) rfl ?_) | (refine Gt.add ?_; (refine RW.y (Y.addN rfl rfl (by exact wrap64_id (by omega) (by omega))) rfl ?_)))
      exact ⟨64 - (i + 1), _, rfl, rfl, rfl, by omega, i + 1, rfl, rfl, by omega, hgood (hs.2 (by omega)), hb3, hk3.at hbo (by omega), hkr.trans hk3 fun k h => .inr (by omega)⟩
    · refine RW.y Y.zeroA rfl ?_
      refine RW.storeBlock rfl rfl (by rfl) (bv_one (List.replicate 32 0)) hbo (by rfl) (fun w3 hb3 hk3 => ?_)
      have hb3' : w3.heap[w.heap.size]? = some (.cells (bv (List.replicate 32 0)).toArray keyT (0, 0)) := hb3
      repeat' (first | (refine CL.ret ?_) | (refine Rt.then ?_) | (refine Rt.block ?_) | (refine Gt.nil ?_; refine RW.nilw [0, 2, 3, 4, 5, 6, 7, 10, 13, 20, 29] ?_; dsimp only [H.keep, H.look, H.Fr.put, Nat.beq]) | (refine Gt.assign ?_; refine RW.y (Y.assign rfl) rfl ?_))
      rw [keyR_none (hbad (by rw [Bool.eq_false_iff, Ne, hs]; omega))]
      exact FQ.res (rs := [.cell 2 37, .tmp 3]) (vs := [_, _]) rfl rfl ⟨⟨_, rfl, load_block hb3' rfl⟩, rfl, trivial⟩ rfl (⟨hkr.trans hk3 fun k h => .inr (by omega), rfl⟩)
    · refine RW.y Y.zeroA rfl ?_
      refine RW.storeBlock rfl rfl (by rfl) (bv_one (List.replicate 32 0)) hbo (by rfl) (fun w3 hb3 hk3 => ?_)
      have hb3' : w3.heap[w.heap.size]? = some (.cells (bv (List.replicate 32 0)).toArray keyT (0, 0)) := hb3
      repeat' (first | (refine CL.ret ?_) | (refine Rt.then ?_) | (refine Rt.block ?_) | (refine Gt.nil ?_; refine RW.nilw [0, 2, 3, 4, 5, 6, 7, 10, 13, 20, 29] ?_; dsimp only [H.keep, H.look, H.Fr.put, Nat.beq]) | (refine Gt.assign ?_; refine RW.y (Y.assign rfl) rfl ?_))
      rw [keyR_none (hbad (by rw [Bool.eq_false_iff, Ne, hs]; omega))]
      exact FQ.res (rs := [.cell 2 37, .tmp 3]) (vs := [_, _]) rfl rfl ⟨⟨_, rfl, load_block hb3' rfl⟩, rfl, trivial⟩ rfl (⟨hkr.trans hk3 fun k h => .inr (by omega), rfl⟩)
    · refine RW.y Y.zeroA rfl ?_
      refine RW.storeBlock rfl rfl (by rfl) (bv_one (List.replicate 32 0)) hbo (by rfl) (fun w3 hb3 hk3 => ?_)
      have hb3' : w3.heap[w.heap.size]? = some (.cells (bv (List.replicate 32 0)).toArray keyT (0, 0)) := hb3
      repeat' (first | (refine CL.ret ?_) | (refine Rt.then ?_) | (refine Rt.block ?_) | (refine Gt.nil ?_; refine RW.nilw [0, 2, 3, 4, 5, 6, 7, 10, 13, 20, 29] ?_; dsimp only [H.keep, H.look, H.Fr.put, Nat.beq]) | (refine Gt.assign ?_; refine RW.y (Y.assign rfl) rfl ?_))
      rw [keyR_none (hbad (by rw [Bool.eq_false_iff, Ne, hs]; omega))]
      exact FQ.res (rs := [.cell 2 37, .tmp 3]) (vs := [_, _]) rfl rfl ⟨⟨_, rfl, load_block hb3' rfl⟩, rfl, trivial⟩ rfl (⟨hkr.trans hk3 fun k h => .inr (by omega), rfl⟩)
  · have hi : i = 64 := by omega
    subst hi
    rw [List.take_of_length_le (by omega)] at hall
    repeat' (first | (refine CL.seq ?_) | (refine CL.region ?_) | (refine CL.condP rfl (fun _ => ?_) (fun _ => ?_) <;> try (exfalso; omega)) | (refine CL.exit ?_) | (refine Ex.then ?_) | (refine Ex.hit ?_) | (refine Gt.nil ?_; refine RW.nilw [0, 2, 3, 4, 5, 6, 7, 10, 13, 20, 29] ?_; dsimp only [H.keep, H.look, H.Fr.put, Nat.beq]) | (refine Gt.move ?_; refine RW.y (Y.move rfl) rfl ?_) | (refine Gt.lss ?_; refine RW.y (Y.lss rfl rfl) rfl ?_))
    refine RW.y (Y.loadBlock rfl hbk (by rw [List.size_toArray, List.length_map, keyAt_len]; rfl)) rfl ?_
    refine RW.storeBlock rfl rfl (by rw [List.size_toArray, List.length_map, keyAt_len]; rfl) (bv_one _) hbo (by rfl) (fun w3 hb3 hk3 => ?_)
    repeat' (first | (refine CL.ret ?_) | (refine Gt.nil ?_; refine RW.nilw [0, 2, 3, 4, 5, 6, 7, 10, 13, 20, 29] ?_; dsimp only [H.keep, H.look, H.Fr.put, Nat.beq]) | (refine Gt.assign ?_; refine RW.y (Y.assign rfl) rfl ?_))
    rw [keyR_some (unhex_some (by omega) hall)]
    exact FQ.res (rs := [.cell 2 37, .tmp 3]) (vs := [_, _]) rfl rfl ⟨⟨_, rfl, load_block hb3 (by rw [List.length_map, keyAt_len])⟩, rfl, trivial⟩ rfl (⟨hkr.trans hk3 fun k h => .inr (by omega), rfl⟩)

theorem unhex (s : T) (hl : s.length ≤ 1000000000000) (w : World) : Calls Tryz.prog 52 #[vs s] w fun e w' => K0 w w' ∧ e = .returned (keyR s) := by
  refine H.enter Tryz.func52 Tryz.ntmps52 rfl rfl ?_; dsimp only [H.args]
  repeat' (first | (refine CL.seq ?_) | (refine CL.region ?_))
  refine RW.alloc rfl (fun w1 hb1 hk1 hlt1 => ?_)
  have hb1' : w1.heap[w.heap.size]? = some (.cells (bv (List.replicate 32 0)).toArray keyT (0, 0)) := hb1
  clear hb1
  repeat' (first | (refine CL.seq ?_) | (refine CL.region ?_) | (refine Gt.nil ?_; refine RW.nilw [0, 2, 3, 4, 5, 6, 9, 12, 13, 14, 21] ?_; dsimp only [H.keep, H.look, H.Fr.put, Nat.beq]) | (refine Gt.assign ?_; refine RW.y (Y.assign rfl) rfl ?_))
  refine RW.alloc rfl (fun w2 hb2 hk2 hlt2 => ?_)
  have hb2' : w2.heap[w1.heap.size]? = some (.cells (bv (List.replicate 32 0)).toArray keyT (0, 0)) := hb2
  clear hb2
  have hb12 := hk2.at0 hb1'
  have hK2 := hk1.trans0 hk2
  repeat' (first | (refine CL.seq ?_) | (refine CL.region ?_) | (refine CL.skip ?_) | (refine CL.condP rfl (fun _ => ?_) (fun _ => ?_) <;> try (exfalso; omega)) | (refine CL.block ?_) | (refine Gt.nil ?_; refine RW.nilw [0, 2, 3, 4, 5, 6, 9, 12, 13, 14, 21] ?_; dsimp only [H.keep, H.look, H.Fr.put, Nat.beq]) | (refine Gt.move ?_; refine RW.y (Y.move rfl) rfl ?_) | (refine Gt.len ?_; refine RW.y (Y.lens rfl) rfl ?_) | (refine Gt.neq ?_; refine RW.y (Y.nei rfl rfl) rfl ?_))
  · rename_i h
    refine RW.y Y.zeroA rfl ?_
    refine RW.storeBlock rfl rfl (by rfl) (bv_one (List.replicate 32 0)) hb12 (by rfl) (fun w3 hb3 hk3 => ?_)
    have hb3' : w3.heap[w.heap.size]? = some (.cells (bv (List.replicate 32 0)).toArray keyT (0, 0)) := hb3
    repeat' (first | (refine CL.ret ?_) | (refine Gt.nil ?_; refine RW.nilw [0, 2, 3, 4, 5, 6, 9, 12, 13, 14, 21] ?_; dsimp only [H.keep, H.look, H.Fr.put, Nat.beq]) | (refine Gt.assign ?_; refine RW.y (Y.assign rfl) rfl ?_))
    rw [keyR_none (unhex_none fun c => h (by omega))]
    exact FQ.res (rs := [.cell 2 37, .tmp 3]) (vs := [_, _]) rfl rfl ⟨⟨_, rfl, load_block hb3' rfl⟩, rfl, trivial⟩ rfl (⟨hK2.trans hk3 fun k h => .inr (by omega), rfl⟩)
  rename_i h64
  refine CL.loopS [0, 2, 4, 12, 13] (fun k vals wr => ∃ (i : Nat), vals = [vs s, .pointer (some ⟨w.heap.size, 0, none⟩), .pointer (some ⟨w1.heap.size, 0, none⟩), .int .i64 (s.length : Int), .int .i64 (i : Int)] ∧ k = 64 - i ∧ i ≤ 64 ∧ (s.take i).all isHex = true ∧ wr.heap[w1.heap.size]? = some (.cells (bv (keyAt s i)).toArray keyT (0, 0)) ∧ wr.heap[w.heap.size]? = some (.cells (bv (List.replicate 32 0)).toArray keyT (0, 0)) ∧ K0 w wr) 64 ⟨_, rfl, 0, rfl, rfl, Nat.zero_le _, rfl, by rw [keyAt]; exact hb2', hb12, hK2⟩ ?_
  rintro k vals wr ⟨i, rfl, rfl, hi, hall, hbk, hbo, hkr⟩
  dsimp only [List.zip, List.zipWith]
  rcases Nat.lt_or_ge i 64 with hlt | hge
  · generalize hc : s.getD ((i : Int)).toNat 0 = c at *
    have hi2 : ((i : Int)).toNat = i := Int.toNat_natCast i
    rw [hi2] at hc
    have hc1 := c.toNat_lt
    have e2 : (keyAt s i).set (0 + ((i : Int) / 2).toNat * 1) (UInt8.ofNat (((keyAt s i).getD (0 + ((i : Int) / 2).toNat * 1) 0).toNat * 16 % 256 ||| hexV c)) = keyAt s (i + 1) := by
      rw [show 0 + ((i : Int) / 2).toNat * 1 = i / 2 from by omega, keyAt, keyS, hc]
    have hbad : isHex c = false → unhexB s = none := fun q => unhex_none fun r => by
      have := all_false (p := isHex) 0 (show i < s.length by omega) (by rw [hc]; exact q)
      rw [this] at r; cases r.2
    have hgood : isHex c = true → (s.take (i + 1)).all isHex = true := fun q => all_step 0 (by omega) hall (by rw [hc]; exact q)
    repeat' (first | (refine CL.seq ?_) | (refine CL.region ?_) | (refine CL.skip ?_) | (refine CL.condP rfl (fun _ => ?_) (fun _ => ?_) <;> try (exfalso; omega)) | (refine CL.block ?_) | (refine Gt.nil ?_; refine RW.nilw [0, 2, 3, 4, 5, 6, 9, 12, 13, 14, 21] ?_; dsimp only [H.keep, H.look, H.Fr.put, Nat.beq]) | (refine Gt.move ?_; refine RW.y (Y.move rfl) rfl ?_) | (refine Gt.assign ?_; refine RW.y (Y.assign rfl) rfl ?_) | (refine Gt.lss ?_; refine RW.y (Y.lss rfl rfl) rfl ?_) | (refine Gt.index ?_; refine RW.y (Y.idxs rfl rfl (by omega) (by omega)) rfl ?_))
    refine RW.fn rfl rfl ((stringsIndexByte digL _ wr).mono ?_)
    rintro e w' ⟨rfl, rfl⟩
    rw [hi2, hc]
    rcases digL_idx c with ⟨hx, hi0⟩ | ⟨hx, hi0⟩
    · repeat' (first | (refine CL.seq ?_) | (refine CL.region ?_) | (refine CL.condP rfl (fun _ => ?_) (fun _ => ?_) <;> try (exfalso; omega)) | (refine Gt.nil ?_; refine RW.nilw [0, 2, 3, 4, 5, 6, 9, 12, 13, 14, 21] ?_; dsimp only [H.keep, H.look, H.Fr.put, Nat.beq]) | (refine Gt.move ?_; refine RW.y (Y.move rfl) rfl ?_) | (refine Gt.assign ?_; refine RW.y (Y.assign rfl) rfl ?_) | (refine Gt.lss ?_; refine RW.y (Y.lss rfl rfl) rfl ?_))
      refine RW.y Y.zeroA rfl ?_
      refine RW.storeBlock rfl rfl (by rfl) (bv_one (List.replicate 32 0)) hbo (by rfl) (fun w3 hb3 hk3 => ?_)
      have hb3' : w3.heap[w.heap.size]? = some (.cells (bv (List.replicate 32 0)).toArray keyT (0, 0)) := hb3
      repeat' (first | (refine CL.ret ?_) | (refine Rt.then ?_) | (refine Rt.block ?_) | (refine Gt.nil ?_; refine RW.nilw [0, 2, 3, 4, 5, 6, 9, 12, 13, 14, 21] ?_; dsimp only [H.keep, H.look, H.Fr.put, Nat.beq]) | (refine Gt.assign ?_; refine RW.y (Y.assign rfl) rfl ?_))
      rw [keyR_none (hbad hx)]
      exact FQ.res (rs := [.cell 2 37, .tmp 3]) (vs := [_, _]) rfl rfl ⟨⟨_, rfl, load_block hb3' rfl⟩, rfl, trivial⟩ rfl (⟨hkr.trans hk3 fun k h => .inr (by omega), rfl⟩)
    · rw [hi0]
      have hv2 := (hexV_lt hx).1
      repeat' (first | (refine CL.seq ?_) | (refine CL.region ?_) | (refine CL.skip ?_) | (refine CL.condP rfl (fun _ => ?_) (fun _ => ?_) <;> try (exfalso; omega)) | (refine Gt.nil ?_; refine RW.nilw [0, 2, 3, 4, 5, 6, 9, 12, 13, 14, 21] ?_; dsimp only [H.keep, H.look, H.Fr.put, Nat.beq]) | (refine Gt.move ?_; refine RW.y (Y.move rfl) rfl ?_) | (refine Gt.assign ?_; refine RW.y (Y.assign rfl) rfl ?_) | (refine Gt.lss ?_; refine RW.y (Y.lss rfl rfl) rfl ?_) | (refine Gt.quo ?_; refine RW.y (Y.quoP rfl rfl (by omega) (by omega) (by exact wrap64_id (by omega) (by omega))) rfl ?_) | (refine Gt.idx ?_; refine RW.y (Y.idxP rfl rfl (by omega) (by omega)) rfl ?_))
      refine RW.y (Y.loadB rfl hbk (key_cell _ _ (by rw [keyAt_len]; omega))) rfl ?_
      refine RW.y (shl4Y rfl rfl) rfl ?_
      refine RW.y (Y.move rfl) rfl ?_
      refine RW.y (Y.convN rfl (wrapu8_id (by omega) (by omega))) rfl ?_
      refine RW.y (orBY (m := hexV c) rfl rfl rfl (by omega) (by omega)) rfl ?_
      repeat' ((refine Gt.idx ?_; refine RW.y (Y.idxP rfl rfl (by omega) (by omega)) rfl ?_))
      refine RW.storeB rfl rfl rfl hbk (by rw [List.size_toArray, List.length_map, keyAt_len]; omega) (fun w3 hb3 hk3 => ?_)
      rw [key_put, e2] at hb3
      repeat' (first | (refine CL.region ?_) | (refine CL.done ?_) | (refine Nm.block ?_) | (refine Nm.then ?_) | (refine Gt.nil ?_; refine RW.nilw [0, 2, 3, 4, 5, 6, 9, 12, 13, 14, 21] ?_; dsimp only [H.keep, H.look, H.Fr.put, Nat.beq]) | (refine Gt.move ?_; refine RW.y (Y.move rfl) rfl ?_) | (refine Gt.add ?_; refine RW.y (Y.add64 rfl rfl (by omega) (by omega)) rfl ?_))
      exact ⟨64 - (i + 1), _, rfl, rfl, rfl, by omega, i + 1, rfl, rfl, by omega, hgood hx, hb3, hk3.at hbo (by omega), hkr.trans hk3 fun k h => .inr (by omega)⟩
  · have hi : i = 64 := by omega
    subst hi
    rw [List.take_of_length_le (by omega)] at hall
    repeat' (first | (refine CL.seq ?_) | (refine CL.region ?_) | (refine CL.condP rfl (fun _ => ?_) (fun _ => ?_) <;> try (exfalso; omega)) | (refine CL.exit ?_) | (refine Ex.then ?_) | (refine Ex.hit ?_) | (refine Gt.nil ?_; refine RW.nilw [0, 2, 3, 4, 5, 6, 9, 12, 13, 14, 21] ?_; dsimp only [H.keep, H.look, H.Fr.put, Nat.beq]) | (refine Gt.lss ?_; refine RW.y (Y.lss rfl rfl) rfl ?_))
    refine RW.y (Y.loadBlock rfl hbk (by rw [List.size_toArray, List.length_map, keyAt_len]; rfl)) rfl ?_
    refine RW.storeBlock rfl rfl (by rw [List.size_toArray, List.length_map, keyAt_len]; rfl) (bv_one _) hbo (by rfl) (fun w3 hb3 hk3 => ?_)
    repeat' (first | (refine CL.ret ?_) | (refine Gt.nil ?_; refine RW.nilw [0, 2, 3, 4, 5, 6, 9, 12, 13, 14, 21] ?_; dsimp only [H.keep, H.look, H.Fr.put, Nat.beq]) | (refine Gt.assign ?_; refine RW.y (Y.assign rfl) rfl ?_))
    rw [keyR_some (unhex_some (by omega) hall)]
    exact FQ.res (rs := [.cell 2 37, .tmp 3]) (vs := [_, _]) rfl rfl ⟨⟨_, rfl, load_block hb3 (by rw [List.length_map, keyAt_len])⟩, rfl, trivial⟩ rfl (⟨hkr.trans hk3 fun k h => .inr (by omega), rfl⟩)
end Go.Proofs.YtggodknolmdegaaGreatDoor.Lk

namespace Go.Proofs.YtggodknolmdegaaGreatDoor.H
open Go.RowKit
theorem elSpot {α : Type} [Inhabited α] {w : World} {sz : Nat} {v : Value} {L : List α} {enc : α → List Value} (hs : Sl w sz v L.length (L.flatMap enc)) (he : ∀ x, (enc x).length = sz) {i : Int} (h0 : 0 ≤ i) (hi : i < L.length) : ∃ g o, Value.spot v (i.toNat * sz) = ⟨g, o, none⟩ ∧ ∀ w', K0 w w' → ∀ j u, (enc (L.getD i.toNat default))[j]? = some u → w'.cell? ⟨g, o + j, none⟩ = some u := by
  obtain ⟨n, rfl⟩ : ∃ n : Nat, i = (n : Int) := ⟨i.toNat, by omega⟩
  obtain ⟨g, o, h1⟩ := elPtr hs (by omega) ((n : Int).toNat * sz)
  refine ⟨g, o, h1, fun w' k j u hu => ?_⟩
  rw [Int.toNat_natCast] at hu
  have h2 := elCells (hs.keep0 k) he (show n < L.length by omega) j u hu
  rw [h1, addr_add] at h2
  exact h2
theorem elAll {α : Type} [Inhabited α] {w : World} {sz : Nat} {v : Value} {L : List α} {enc : α → List Value} (hs : Sl w sz v L.length (L.flatMap enc)) (he : ∀ x, (enc x).length = sz) {i : Int} (h0 : 0 ≤ i) (hi : i < L.length) : ∀ w', K0 w w' → ∀ j u, (enc (L.getD i.toNat default))[j]? = some u → w'.cell? ((Value.spot v (i.toNat * sz)).add j) = some u := by
  obtain ⟨n, rfl⟩ : ∃ n : Nat, i = (n : Int) := ⟨i.toNat, by omega⟩
  intro w' k j u hu
  rw [Int.toNat_natCast] at hu
  exact elCells (hs.keep0 k) he (show n < L.length by omega) j u hu
theorem getD_map {α β : Type} (f : α → β) (d : α) (e : β) (l : List α) (i : Nat) (h : i < l.length) : (l.map f).getD i e = f (l.getD i d) := by
  simp [List.getD_eq_getElem?_getD, h]
theorem GA.keep {α : Type} {K : Dp α} {S : Nat → Prop} {w w' : World} {v : Value} {L : List α} (h : GA K w v L) (k : Kept S w w') (hS : ∀ g, g < w.heap.size → (live v = some g ∨ ∃ x ∈ L, K.R x g) → ¬ S g) : GA K w' v L :=
  ⟨h.1.keep k fun g hg => hS g (h.1.lt hg) (.inl hg), fun x hx => K.keep S w w' x (h.2 x hx) k fun g hl hg => hS g hl (.inr ⟨x, hx, hg⟩)⟩
theorem GI.clone {α : Type} {K : Dp α} {w w' : World} {e : TypeId} {u v : Value} {L : List α} (h : GA K w v L) (k : K0 w w') (ho : w'.ownsRow w.heap.size e K.sz u L.length (L.flatMap K.enc)) : GI K w' w.heap.size e u L :=
  ⟨ho, fun x hx => ⟨K.keep0 (h.2 x hx) k, fun g hg c => by have := K.lt w x g (h.2 x hx) hg; have := (ho.lt g c).1; omega⟩⟩
theorem own_block {w : World} {base : Nat} {e : TypeId} {sz n : Nat} {u : Value} {xs : List Value} (h : w.ownsRow base e sz u n xs) (hn : 0 < n) : ∃ g cap cur, u = .slice (some ⟨g, 0, none⟩) n cap ∧ w.heap[g]? = some (.cells cur e (0, 0)) ∧ n * sz ≤ cur.size ∧ base ≤ g := by
  rcases h.2 with ⟨_, h⟩ | ⟨g, cap, cur, rfl, hB, hg, hnc, hm, hs, ht⟩
  · omega
  · exact ⟨g, cap, cur, rfl, hg, by rw [hs]; exact Nat.mul_le_mul_right _ hnc, hB⟩
theorem mem_getD {α : Type} (d : α) {l : List α} {i : Nat} (h : i < l.length) : l.getD i d ∈ l := by
  rw [List.getD_eq_getElem?_getD, List.getElem?_eq_getElem h]; exact List.getElem_mem h
end Go.Proofs.YtggodknolmdegaaGreatDoor.H

namespace Go.Proofs.YtggodknolmdegaaGreatDoor.Lk
open Go.RowKit H S Ve
attribute [local irreducible] H.CL H.RW H.CW H.Yd H.thenK H.blockQ Go.Calls keyAt unhexB

/-- A pin in memory: the pointer of its version's marks. -/
structure Pm where
  d : Pn
  p : Value
  h : d.sum.length = 32
instance : Inhabited Pm := ⟨⟨⟨[], default, List.replicate 32 0⟩, .slice none 0 0, rfl⟩⟩
def pmC (x : Pm) : List Value := [vs x.d.name, .int .i64 x.d.v.a, .int .i64 x.d.v.b, .int .i64 x.d.v.c, x.p] ++ bv x.d.sum
theorem pmC_len (x : Pm) : (pmC x).length = 37 := by simp [pmC, x.h]
theorem pmC_one {x : Pm} (h : x.p.oneCell' = true) : ∀ z ∈ pmC x, z.oneCell' = true := by
  intro z hz
  rcases List.mem_append.1 hz with hz | hz
  · simp at hz
    rcases hz with rfl | rfl | rfl | rfl | rfl <;> first | rfl | exact h
  · exact bv_one _ z hz
def pmK : Dp Pm where
  sz := 37
  enc := pmC
  D := fun w x => Sl w 1 x.p x.d.v.pre.length (sv x.d.v.pre)
  R := fun x g => live x.p = some g
  len := pmC_len
  ones := fun w x h => pmC_one h.one
  keep := fun S w w' x h k hS => h.keep k fun g hg => hS g (h.lt hg) hg
  lt := fun w x g h hg => h.lt hg
abbrev pmT : TypeId := 39
theorem pmVer {w : World} {g o : Nat} {x : Pm} (h : ∀ j u, (pmC x)[j]? = some u → w.cell? ⟨g, o + j, none⟩ = some u) : ∀ j u, ([.int .i64 x.d.v.a, .int .i64 x.d.v.b, .int .i64 x.d.v.c, x.p] : List Value)[j]? = some u → w.cell? ((⟨g, o + 1, none⟩ : Addr).add j) = some u := fun j u hu => by
  have hj : j < 4 := (List.getElem?_eq_some_iff.1 hu).1
  have h2 := h (1 + j) u (by
    rw [pmC, List.getElem?_append_left (by simp; omega), Nat.add_comm 1 j, List.getElem?_cons_succ]; exact hu)
  rw [addr_add, Nat.add_assoc]; exact h2
theorem pmSum {w : World} {g o : Nat} {x : Pm} (h : ∀ j u, (pmC x)[j]? = some u → w.cell? ⟨g, o + j, none⟩ = some u) : ∀ j u, (bv x.d.sum)[j]? = some u → w.cell? ((⟨g, o + 5, none⟩ : Addr).add j) = some u := fun j u hu => by
  have h2 := h (5 + j) u (by
    rw [pmC, List.getElem?_append_right (by simp)]; simpa using hu)
  rw [addr_add, Nat.add_assoc]; exact h2
/-- The cells of a block that is a pin. -/
theorem pmBlock {w : World} {g : Nat} {x : Pm} {e : TypeId} {fz : Nat × Nat} (h : w.heap[g]? = some (.cells (pmC x).toArray e fz)) : ∀ j u, (pmC x)[j]? = some u → w.cell? ⟨g, 0 + j, none⟩ = some u := fun j u hu => by
  rw [Nat.zero_add, cell_row (off := 0) h]; simpa using hu
theorem eqV_iff (x y : Ver) : eqV x y = true ↔ x = y := by
  cases x; cases y; simp [eqV, and_assoc]

theorem cloneP (v : Value) (n : Nat) (xs : List Value) (w : World) (hs : Sl w 37 v n xs) (h1 : ∀ u ∈ xs, u.oneCell' = true) (hn : n ≤ 1000000) : Calls Tryz.prog 33 #[v] w fun e w' => K0 w w' ∧ ∃ u, e = .returned u ∧ w'.ownsRow w.heap.size pmT 37 u n xs := by
  refine H.enter Tryz.func33 Tryz.ntmps33 rfl rfl ?_; dsimp only [H.args]
  repeat' (first | (refine CL.seq ?_) | (refine CL.region ?_) | (refine Gt.nil ?_; refine RW.nilw [0, 2, 4] ?_; dsimp only [H.keep, H.look, H.Fr.put, Nat.beq]) | (refine Gt.assign ?_; refine RW.y (Y.assign rfl) rfl ?_) | (refine Gt.move ?_; refine RW.y (Y.move rfl) rfl ?_))
  obtain ⟨p, cap, rfl, hcap⟩ := hs.shape
  refine RW.y (Y.eqsn rfl rfl) rfl ?_
  cases p with
  | none =>
    have hn : n = 0 := by
      rcases hs.2.2 with ⟨p, h, _⟩ | ⟨g, off, cap, cur, e', fz, h, _⟩
      · cases h; rfl
      · cases h
    subst hn
    have hx : xs = [] := List.eq_nil_of_length_eq_zero (by simpa using hs.1)
    subst hx
    repeat' (first | (refine CL.seq ?_) | (refine CL.region ?_) | (refine CL.condT rfl ?_) | (refine CL.ret ?_) | (refine Gt.nil ?_; refine RW.nilw [0, 2, 4] ?_; dsimp only [H.keep, H.look, H.Fr.put, Nat.beq]) | (refine Gt.assign ?_; refine RW.y (Y.assign rfl) rfl ?_))
    exact FQ.one rfl rfl rfl ⟨Kept.refl _ _, _, rfl, World.ownsRow_nil _ _ _ _⟩
  | some a =>
    repeat' (first | (refine CL.seq ?_) | (refine CL.region ?_) | (refine CL.skip ?_) | (refine CL.condF rfl ?_) | (refine Gt.nil ?_; refine RW.nilw [0, 2, 4] ?_; dsimp only [H.keep, H.look, H.Fr.put, Nat.beq]))
    refine RW.build0 rfl (fun w1 hb1 hk1 hlt1 => ?_)
    have hown := fun sz => own_new (n := 0) (sz := sz) hb1 (Nat.le_refl _) (by simp) (by decide)
    repeat' ((refine Gt.move ?_; refine RW.y (Y.move rfl) rfl ?_))
    refine RW.app (sz := 37) rfl rfl rfl rfl rfl (hown 37) (hs.keep0 hk1) h1 (by omega) (by omega) (by omega) (fun u' w2 how hk2 hl2 => ?_)
    repeat' (first | (refine CL.ret ?_) | (refine Gt.nil ?_; refine RW.nilw [0, 2, 4] ?_; dsimp only [H.keep, H.look, H.Fr.put, Nat.beq]) | (refine Gt.assign ?_; refine RW.y (Y.assign rfl) rfl ?_))
    have how' := how
    rw [Nat.zero_add] at how'
    exact FQ.one rfl rfl rfl ⟨hk1.trans hk2 fun k h => .inr (by simp [Value.ownBlock] at h; omega), _, rfl, how'⟩

theorem helpPins (v u : Value) (N M : List Pm) (w : World) (hv : GA pmK w v N) (hu : GA pmK w u M) (he : N.map (·.d) = M.map (·.d)) : Calls Tryz.prog 11 #[v, u] w fun e w' => K0 w w' ∧ e = .returned (.bool true) := by
  have hlen : N.length = M.length := by simpa using congrArg List.length he
  have hs := hv.1
  have ht := hu.1
  have hmx : N.length ≤ 9223372036854775807 := by have := hs.2.1; simpa [maxLen] using this
  refine H.enter Tryz.func11 Tryz.ntmps11 rfl rfl ?_; dsimp only [H.args]
  repeat' (first | (refine CL.seq ?_) | (refine CL.region ?_) | (refine CL.skip ?_) | (refine CL.condP rfl (fun _ => ?_) (fun _ => ?_) <;> try (exfalso; omega)) | (refine CL.block ?_) | (refine Gt.nil ?_; refine RW.nilw [0, 1, 4, 5, 10, 14, 54] ?_; dsimp only [H.keep, H.look, H.Fr.put, Nat.beq]) | (refine Gt.move ?_; refine RW.y (Y.move rfl) rfl ?_) | (refine Gt.assign ?_; refine RW.y (Y.assign rfl) rfl ?_) | (refine Gt.len ?_; (refine RW.y (Y.lenx rfl (by assumption)) rfl ?_)) | (refine Gt.neq ?_; (refine RW.y (Y.nei rfl rfl) rfl ?_)))
  refine CL.loopS [0, 1, 5] (fun k vals wr => ∃ i : Nat, vals = [v, u, .int .i64 (i : Int)] ∧ k = N.length - i ∧ i ≤ N.length ∧ K0 w wr) N.length ⟨_, rfl, 0, rfl, rfl, Nat.zero_le _, Kept.refl _ _⟩ ?_
  rintro k vals wr ⟨i, rfl, rfl, hi, hkr⟩
  dsimp only [List.zip, List.zipWith]
  have hvr := hv.keep0 hkr
  have hur := hu.keep0 hkr
  have hsr := hvr.1
  have htr := hur.1
  rcases Nat.lt_or_ge i N.length with hlt | hge
  · have hti : ((i : Int)).toNat = i := Int.toNat_natCast i
    obtain ⟨g1, o1, hsp1, hcl1⟩ := elSpot hsr pmK.len (i := (i : Int)) (by omega) (by omega)
    obtain ⟨g2, o2, hsp2, hcl2⟩ := elSpot htr pmK.len (i := (i : Int)) (by omega) (by omega)
    have hm1 : N.getD ((i : Int)).toNat default ∈ N := mem_getD default (by omega)
    have hm2 : M.getD ((i : Int)).toNat default ∈ M := mem_getD default (by omega)
    have hd : (N.getD ((i : Int)).toNat default).d = (M.getD ((i : Int)).toNat default).d := by
      rw [← getD_map (·.d) default default N _ (by omega), ← getD_map (·.d) default default M _ (by omega), he]
    have hD1 : Sl wr 1 _ _ _ := hvr.2 _ hm1
    have hD2 : Sl wr 1 _ _ _ := hur.2 _ hm2
    generalize N.getD ((i : Int)).toNat default = x at *
    generalize M.getD ((i : Int)).toNat default = y at *
    have hn1 : decide (x.d.name ≠ y.d.name) = false := by rw [hd]; simp
    have hn2 : decide (x.d.sum ≠ y.d.sum) = false := by rw [hd]; simp
    have hv : eqV x.d.v y.d.v = true := by rw [hd]; exact eqV_self _
    have hx32 : (bv x.d.sum).length = 32 := by rw [List.length_map, x.h]
    have hy32 : (bv y.d.sum).length = 32 := by rw [List.length_map, y.h]
    repeat' (first | (refine CL.seq ?_) | (refine CL.region ?_) | (refine CL.skip ?_) | (refine CL.condP rfl (fun _ => ?_) (fun _ => ?_) <;> try (exfalso; omega)) | (refine CL.block ?_) | (refine Gt.nil ?_; refine RW.nilw [0, 1, 4, 5, 10, 14, 54] ?_; dsimp only [H.keep, H.look, H.Fr.put, Nat.beq]) | (refine Gt.move ?_; refine RW.y (Y.move rfl) rfl ?_) | (refine Gt.len ?_; (refine RW.y (Y.lenx rfl (by assumption)) rfl ?_)) | (refine Gt.lss ?_; refine RW.y (Y.lss rfl rfl) rfl ?_))
    refine CL.draw (fun w' => K0 wr w') (by kernel_rfl) (fun w1 hheap hk1 => ?_)
    have hS : K0 wr w1 := hk1
    skip
    refine AW.take 0 rfl (by kernel_rfl) (by kernel_rfl) (by kernel_rfl) rfl (by assumption) (fun w hS => Y.move rfl) ?_
    refine AW.take 1 rfl (by kernel_rfl) (by kernel_rfl) (by kernel_rfl) rfl (by assumption) (fun w hS => Y.move rfl) ?_
    refine AW.take 2 rfl (by kernel_rfl) (by kernel_rfl) (by kernel_rfl) rfl (by assumption) (fun w hS => Y.idx rfl rfl (hsr.keep0 hS) (by omega) (by omega)) ?_
    refine AW.take 3 rfl (by kernel_rfl) (by kernel_rfl) (by kernel_rfl) rfl (by assumption) (fun w hS => Y.fieldAddr (congrArg (fun a => some (Value.pointer (some a))) hsp1) (by rfl)) ?_
    refine AW.take 4 rfl (by kernel_rfl) (by kernel_rfl) (by kernel_rfl) rfl (by assumption) (fun w hS => Y.load1A rfl (hcl1 _ hS 0 _ rfl)) ?_
    refine AW.take 5 rfl (by kernel_rfl) (by kernel_rfl) (by kernel_rfl) rfl (by assumption) (fun w hS => Y.move rfl) ?_
    refine AW.take 6 rfl (by kernel_rfl) (by kernel_rfl) (by kernel_rfl) rfl (by assumption) (fun w hS => Y.move rfl) ?_
    refine AW.take 7 rfl (by kernel_rfl) (by kernel_rfl) (by kernel_rfl) rfl (by assumption) (fun w hS => Y.idx rfl rfl (htr.keep0 hS) (by omega) (by omega)) ?_
    refine AW.take 8 rfl (by kernel_rfl) (by kernel_rfl) (by kernel_rfl) rfl (by assumption) (fun w hS => Y.fieldAddr (congrArg (fun a => some (Value.pointer (some a))) hsp2) (by rfl)) ?_
    refine AW.take 9 rfl (by kernel_rfl) (by kernel_rfl) (by kernel_rfl) rfl (by assumption) (fun w hS => Y.load1A rfl (hcl2 _ hS 0 _ rfl)) ?_
    refine AW.take 10 rfl (by kernel_rfl) (by kernel_rfl) (by kernel_rfl) rfl (by assumption) (fun w hS => Y.nesE rfl rfl hn1) ?_
    refine AW.take 11 rfl (by kernel_rfl) (by kernel_rfl) (by kernel_rfl) rfl (by assumption) (fun w hS => Y.move rfl) ?_
    refine AW.takeOn 12 rfl (by kernel_rfl) (by kernel_rfl) (by kernel_rfl) rfl rfl rfl rfl (by assumption) (fun w hS => Y.move rfl) ?_
    refine AW.takeOn 13 rfl (by kernel_rfl) (by kernel_rfl) (by kernel_rfl) rfl rfl rfl rfl (by assumption) (fun w hS => Y.move rfl) ?_
    refine AW.takeOn 14 rfl (by kernel_rfl) (by kernel_rfl) (by kernel_rfl) rfl rfl rfl rfl (by assumption) (fun w hS => Y.idx rfl rfl (hsr.keep0 hS) (by omega) (by omega)) ?_
    refine AW.takeOn 15 rfl (by kernel_rfl) (by kernel_rfl) (by kernel_rfl) rfl rfl rfl rfl (by assumption) (fun w hS => Y.fieldAddr (congrArg (fun a => some (Value.pointer (some a))) hsp1) (by rfl)) ?_
    refine AW.takeOn 16 rfl (by kernel_rfl) (by kernel_rfl) (by kernel_rfl) rfl rfl rfl rfl (by assumption) (fun w hS => Y.loadN (cs := [_, _, _, _]) rfl rfl (pmVer (hcl1 _ hS))) ?_
    refine AW.takeOn 17 rfl (by kernel_rfl) (by kernel_rfl) (by kernel_rfl) rfl rfl rfl rfl (by assumption) (fun w hS => Y.move rfl) ?_
    refine AW.takeOn 18 rfl (by kernel_rfl) (by kernel_rfl) (by kernel_rfl) rfl rfl rfl rfl (by assumption) (fun w hS => Y.move rfl) ?_
    refine AW.takeOn 19 rfl (by kernel_rfl) (by kernel_rfl) (by kernel_rfl) rfl rfl rfl rfl (by assumption) (fun w hS => Y.idx rfl rfl (htr.keep0 hS) (by omega) (by omega)) ?_
    refine AW.takeOn 20 rfl (by kernel_rfl) (by kernel_rfl) (by kernel_rfl) rfl rfl rfl rfl (by assumption) (fun w hS => Y.fieldAddr (congrArg (fun a => some (Value.pointer (some a))) hsp2) (by rfl)) ?_
    refine AW.takeOn 21 rfl (by kernel_rfl) (by kernel_rfl) (by kernel_rfl) rfl rfl rfl rfl (by assumption) (fun w hS => Y.loadN (cs := [_, _, _, _]) rfl rfl (pmVer (hcl2 _ hS))) ?_
    refine AW.next 22 rfl (by kernel_rfl) ?_
    refine RW.on rfl rfl rfl ?_
    refine RW.fn rfl rfl ((helpVersion _ _ x.d.v y.d.v w1 ⟨_, rfl, hD1.keep0 hk1⟩ ⟨_, rfl, hD2.keep0 hk1⟩).mono ?_)
    rintro e w2 ⟨hk2, rfl⟩
    rw [hv]
    refine RW.nil (Nm.then ⟨hS.trans0 hk2, ?_⟩)
    have hS := hS.trans0 hk2
    refine AW.takeOn 23 rfl (by kernel_rfl) (by kernel_rfl) (by kernel_rfl) rfl rfl rfl rfl (by assumption) (fun w hS => by exact Y.notb rfl) ?_
    refine AW.take 24 rfl (by kernel_rfl) (by kernel_rfl) (by kernel_rfl) rfl (by assumption) (fun w hS => by exact Y.pickF rfl rfl) ?_
    refine AW.take 25 rfl (by kernel_rfl) (by kernel_rfl) (by kernel_rfl) rfl (by assumption) (fun w hS => Y.move rfl) ?_
    refine AW.takeOn 26 rfl (by kernel_rfl) (by kernel_rfl) (by kernel_rfl) rfl rfl rfl rfl (by assumption) (fun w hS => Y.move rfl) ?_
    refine AW.takeOn 27 rfl (by kernel_rfl) (by kernel_rfl) (by kernel_rfl) rfl rfl rfl rfl (by assumption) (fun w hS => Y.move rfl) ?_
    refine AW.takeOn 28 rfl (by kernel_rfl) (by kernel_rfl) (by kernel_rfl) rfl rfl rfl rfl (by assumption) (fun w hS => Y.idx rfl rfl (hsr.keep0 hS) (by omega) (by omega)) ?_
    refine AW.takeOn 29 rfl (by kernel_rfl) (by kernel_rfl) (by kernel_rfl) rfl rfl rfl rfl (by assumption) (fun w hS => Y.fieldAddr (congrArg (fun a => some (Value.pointer (some a))) hsp1) (by rfl)) ?_
    refine AW.takeOn 30 rfl (by kernel_rfl) (by kernel_rfl) (by kernel_rfl) rfl rfl rfl rfl (by assumption) (fun w hS => Y.loadN (cs := bv x.d.sum) rfl hx32 (pmSum (hcl1 _ hS))) ?_
    refine AW.takeOn 31 rfl (by kernel_rfl) (by kernel_rfl) (by kernel_rfl) rfl rfl rfl rfl (by assumption) (fun w hS => Y.move rfl) ?_
    refine AW.takeOn 32 rfl (by kernel_rfl) (by kernel_rfl) (by kernel_rfl) rfl rfl rfl rfl (by assumption) (fun w hS => Y.move rfl) ?_
    refine AW.takeOn 33 rfl (by kernel_rfl) (by kernel_rfl) (by kernel_rfl) rfl rfl rfl rfl (by assumption) (fun w hS => Y.idx rfl rfl (htr.keep0 hS) (by omega) (by omega)) ?_
    refine AW.takeOn 34 rfl (by kernel_rfl) (by kernel_rfl) (by kernel_rfl) rfl rfl rfl rfl (by assumption) (fun w hS => Y.fieldAddr (congrArg (fun a => some (Value.pointer (some a))) hsp2) (by rfl)) ?_
    refine AW.takeOn 35 rfl (by kernel_rfl) (by kernel_rfl) (by kernel_rfl) rfl rfl rfl rfl (by assumption) (fun w hS => Y.loadN (cs := bv y.d.sum) rfl hy32 (pmSum (hcl2 _ hS))) ?_
    refine AW.takeOn 36 rfl (by kernel_rfl) (by kernel_rfl) (by kernel_rfl) rfl rfl rfl rfl (by assumption) (fun w hS => Y.neB rfl rfl (by kernel_rfl) x.h y.h hn2) ?_
    refine AW.take 37 rfl (by kernel_rfl) (by kernel_rfl) (by kernel_rfl) rfl (by assumption) (fun w hS => by exact Y.pickF rfl rfl) ?_
    refine AW.donew [0, 1, 5, 54] (by kernel_rfl) ?_
    dsimp only [H.keep, H.look, H.Fr.put, Nat.beq]
    repeat' (first | (refine CL.region ?_) | (refine CL.skip ?_) | (refine CL.condF rfl ?_) | (refine CL.done ?_) | (refine Nm.block ?_) | (refine Nm.then ?_) | (refine Gt.nil ?_; refine RW.nilw [0, 1, 4, 5, 10, 14, 54] ?_; dsimp only [H.keep, H.look, H.Fr.put, Nat.beq]) | (refine Gt.move ?_; refine RW.y (Y.move rfl) rfl ?_) | (refine Gt.assign ?_; refine RW.y (Y.assign rfl) rfl ?_) | (refine Gt.add ?_; refine RW.y (Y.add64 rfl rfl (by omega) (by omega)) rfl ?_))
    exact ⟨N.length - (i + 1), _, rfl, rfl, rfl, by omega, i + 1, rfl, rfl, by omega, hkr.trans0 hS⟩
  · have hi : i = N.length := by omega
    subst hi
    repeat' (first | (refine CL.seq ?_) | (refine CL.region ?_) | (refine CL.condP rfl (fun _ => ?_) (fun _ => ?_) <;> try (exfalso; omega)) | (refine CL.exit ?_) | (refine Ex.then ?_) | (refine Ex.hit ?_) | (refine CL.ret ?_) | (refine Gt.nil ?_; refine RW.nilw [0, 1, 4, 5, 10, 14, 54] ?_; dsimp only [H.keep, H.look, H.Fr.put, Nat.beq]) | (refine Gt.move ?_; refine RW.y (Y.move rfl) rfl ?_) | (refine Gt.assign ?_; refine RW.y (Y.assign rfl) rfl ?_) | (refine Gt.len ?_; (refine RW.y (Y.lenx rfl (by assumption)) rfl ?_)) | (refine Gt.lss ?_; refine RW.y (Y.lss rfl rfl) rfl ?_))
    exact FQ.one rfl rfl rfl ⟨hkr, rfl⟩
end Go.Proofs.YtggodknolmdegaaGreatDoor.Lk

namespace Go.Proofs.YtggodknolmdegaaGreatDoor.Lk
open Go.RowKit H S Ve
attribute [local irreducible] H.CL H.RW H.CW H.Yd H.thenK H.blockQ Go.Calls keyAt unhexB

theorem gts_lt (a b : T) : (!(Op.bytesLess a b || a == b)) = ltT b a := by
  rcases hb : ltT b a with _ | _
  · rcases ha : ltT a b with _ | _
    · have := ltT_tri a b ha hb; subst this; simp
    · have : Op.bytesLess a b = true := ha
      simp [this]
  · have h1 : Op.bytesLess a b = false := ltT_asym hb
    have h2 : (a == b) = false := beq_eq_false_iff_ne.2 fun c => by subst c; rw [ltT_irr] at hb; cases hb
    simp [h1, h2]
theorem take_last {α : Type} (d : α) (l : List α) (a : Nat) (h0 : 0 < a) (h : a ≤ l.length) : l.take a = l.take (a - 1) ++ [l.getD (a - 1) d] := by
  have := take_snoc d l (a - 1) (by omega)
  rwa [show a - 1 + 1 = a from by omega] at this
/-- Where a search from the end stops, a pin is put in. -/
theorem ins_stop (p : Pn) (A : List Pn) (hs : Srt A) (a : Nat) (ha : a ≤ A.length) (h1 : ∀ q ∈ A.drop a, ltT p.name q.name = true) (h2 : a = 0 ∨ ltT p.name (A.getD (a - 1) default).name = false) : insP p A = A.take a ++ p :: A.drop a := by
  have h := insP_at p (A.drop a) (fun q r e => h1 q (by rw [e]; simp)) (A.take a) ?_
  · rwa [List.take_append_drop] at h
  · rcases Nat.eq_zero_or_pos a with h0 | h0
    · subst h0; intro q hq; simp at hq
    · have h3 := h2.resolve_left (by omega)
      have e := take_last default A a h0 ha
      rw [e]
      refine srt_last (a := A.take (a - 1)) ?_ h3
      rw [← e]
      exact srt_left (b := A.drop a) (by rw [List.take_append_drop]; exact hs)
theorem sortP_snoc (l : List Pn) (p : Pn) : sortP (l ++ [p]) = insP p (sortP l) := by simp [sortP]
theorem drop_mem {α : Type} (d : α) {l : List α} {a : Nat} (h0 : 0 < a) (h : a ≤ l.length) {q : α} (hq : q ∈ l.drop (a - 1)) : q = l.getD (a - 1) d ∨ q ∈ l.drop a := by
  rw [List.drop_eq_getElem_cons (by omega)] at hq
  rcases List.mem_cons.1 hq with e | e
  · left; rw [e, List.getD_eq_getElem?_getD, List.getElem?_eq_getElem (by omega)]; rfl
  · right; rwa [show a - 1 + 1 = a from by omega] at e
theorem getD_d (L : List Pm) (i : Nat) (h : i < L.length) : (L.map (·.d)).getD i default = (L.getD i default).d := getD_map (·.d) default default L i h
theorem map_snoc (L : List Pm) (i : Nat) (h : i < L.length) : (L.take (i + 1)).map (·.d) = (L.take i).map (·.d) ++ [(L.getD i default).d] := by rw [take_snoc default L i h, List.map_append]; rfl

theorem refPins (v : Value) (L : List Pm) (w : World) (hv : GA pmK w v L) (hl : L.length ≤ 1000) : Calls Tryz.prog 19 #[v] w fun e w' => K0 w w' ∧ ∃ u L', e = .returned u ∧ GA pmK w' u L' ∧ L'.map (·.d) = sortP (L.map (·.d)) ∧ ∀ y ∈ L', y ∈ L := by
  refine H.enter Tryz.func19 Tryz.ntmps19 rfl rfl ?_; dsimp only [H.args]
  repeat' (first | (refine CL.seq ?_) | (refine CL.region ?_) | (refine CL.block ?_) | (refine Gt.nil ?_; refine RW.nilw [0, 2, 3, 4, 5, 9, 29] ?_; dsimp only [H.keep, H.look, H.Fr.put, Nat.beq]) | (refine Gt.assign ?_; refine RW.y (Y.assign rfl) rfl ?_))
  refine CL.loopS [0, 3, 4] (fun k vals wr => ∃ (i : Nat) (q : Value) (Lo : List Pm), vals = [v, q, .int .i64 (i : Int)] ∧ k = L.length - i ∧ i ≤ L.length ∧ GA pmK wr q Lo ∧ Lo.length = i ∧ Lo.map (·.d) = sortP ((L.take i).map (·.d)) ∧ (∀ y ∈ Lo, y ∈ L) ∧ K0 w wr) L.length ⟨_, rfl, 0, _, [], rfl, rfl, Nat.zero_le _, ⟨Sl.nil _ _, fun x hx => by cases hx⟩, rfl, rfl, (fun y hy => by cases hy), Kept.refl _ _⟩ ?_
  rintro k vals wr ⟨i, q, Lo, rfl, rfl, hi, hq, hLo, hso, hin, hKr⟩
  dsimp only [List.zip, List.zipWith]
  have hsr := hv.1.keep0 hKr
  obtain ⟨p, cap, rfl, hcap⟩ := hq.shape
  rcases Nat.lt_or_ge i L.length with hlt | hge
  · have hti : ((i : Int)).toNat = i := Int.toNat_natCast i
    obtain ⟨X, hX⟩ : ∃ X, X = (L.getD ((i : Int)).toNat default).d := ⟨_, rfl⟩
    have hdl : (Lo.map (·.d)).length = i := by rw [List.length_map, hLo]
    repeat' (first | (refine CL.seq ?_) | (refine CL.region ?_) | (refine CL.skip ?_) | (refine CL.condP rfl (fun _ => ?_) (fun _ => ?_) <;> try (exfalso; omega)) | (refine Gt.nil ?_; refine RW.nilw [0, 2, 3, 4, 5, 9, 29] ?_; dsimp only [H.keep, H.look, H.Fr.put, Nat.beq]) | (refine Gt.move ?_; refine RW.y (Y.move rfl) rfl ?_) | (refine Gt.len ?_; (refine RW.y (Y.lenx rfl (by assumption)) rfl ?_)) | (refine Gt.lss ?_; refine RW.y (Y.lss rfl rfl) rfl ?_))
    refine CL.block ?_
    repeat' (first | (refine CL.seq ?_) | (refine CL.region ?_) | (refine Gt.nil ?_; refine RW.nilw [0, 2, 3, 4, 5, 9, 29] ?_; dsimp only [H.keep, H.look, H.Fr.put, Nat.beq]) | (refine Gt.move ?_; refine RW.y (Y.move rfl) rfl ?_) | (refine Gt.assign ?_; refine RW.y (Y.assign rfl) rfl ?_) | (refine Gt.len ?_; (refine RW.y (Y.lenv rfl) rfl ?_)))
    refine CL.cutS [0, 3, 4, 5] (fun vals wx => ∃ a : Nat, vals = [v, .slice p Lo.length cap, .int .i64 (i : Int), .int .i64 (a : Int)] ∧ a ≤ i ∧ (∀ q ∈ (Lo.map (·.d)).drop a, ltT X.name q.name = true) ∧ (a = 0 ∨ ltT X.name ((Lo.map (·.d)).getD (a - 1) default).name = false) ∧ K0 wr wx) (by simp) ?_ ?_
    · skip
      refine CL.block ?_
      refine CL.loopS [0, 3, 4, 5] (fun k vals wv => ∃ (a : Nat), vals = [v, .slice p Lo.length cap, .int .i64 (i : Int), .int .i64 (a : Int)] ∧ k = a ∧ a ≤ i ∧ (∀ q ∈ (Lo.map (·.d)).drop a, ltT X.name q.name = true) ∧ K0 wr wv) i ⟨_, rfl, i, by rw [hLo], rfl, Nat.le_refl _, (fun q hq => by rw [List.drop_of_length_le (by omega)] at hq; cases hq), Kept.refl _ _⟩ ?_
      rintro k vals wv ⟨a, rfl, hka, ha, hup, hkv⟩
      dsimp only [List.zip, List.zipWith]
      have hsv := hsr.keep0 hkv
      have hqv := hq.1.keep0 hkv
      obtain ⟨g2, o2, hsp2, hcl2⟩ := elSpot hsv pmK.len (i := (i : Int)) (by omega) (by omega)
      repeat' ((refine CL.seq ?_))
      refine CL.draw (fun w' => K0 wv w') (by kernel_rfl) (fun w1 hheap1 hk1 => ?_)
      have hS : K0 wv w1 := hk1
      skip
      skip
      rcases Nat.eq_zero_or_pos a with h0 | h0
      · subst h0
        refine AW.take 0 rfl (by kernel_rfl) (by kernel_rfl) (by kernel_rfl) rfl (by assumption) (fun w hS => Y.move rfl) ?_
        refine AW.take 1 rfl (by kernel_rfl) (by kernel_rfl) (by kernel_rfl) rfl (by assumption) (fun w hS => Y.gtr rfl rfl) ?_
        refine AW.take 2 rfl (by kernel_rfl) (by kernel_rfl) (by kernel_rfl) rfl (by assumption) (fun w hS => Y.move rfl) ?_
        refine AW.takeOff 3 rfl (by kernel_rfl) (by kernel_rfl) (by kernel_rfl) rfl rfl rfl rfl rfl (by assumption) ?_
        refine AW.takeOff 4 rfl (by kernel_rfl) (by kernel_rfl) (by kernel_rfl) rfl rfl rfl rfl rfl (by assumption) ?_
        refine AW.takeOff 5 rfl (by kernel_rfl) (by kernel_rfl) (by kernel_rfl) rfl rfl rfl rfl rfl (by assumption) ?_
        refine AW.takeOff 6 rfl (by kernel_rfl) (by kernel_rfl) (by kernel_rfl) rfl rfl rfl rfl rfl (by assumption) ?_
        refine AW.takeOff 7 rfl (by kernel_rfl) (by kernel_rfl) (by kernel_rfl) rfl rfl rfl rfl rfl (by assumption) ?_
        refine AW.takeOff 8 rfl (by kernel_rfl) (by kernel_rfl) (by kernel_rfl) rfl rfl rfl rfl rfl (by assumption) ?_
        refine AW.takeOff 9 rfl (by kernel_rfl) (by kernel_rfl) (by kernel_rfl) rfl rfl rfl rfl rfl (by assumption) ?_
        refine AW.takeOff 10 rfl (by kernel_rfl) (by kernel_rfl) (by kernel_rfl) rfl rfl rfl rfl rfl (by assumption) ?_
        refine AW.takeOff 11 rfl (by kernel_rfl) (by kernel_rfl) (by kernel_rfl) rfl rfl rfl rfl rfl (by assumption) ?_
        refine AW.takeOff 12 rfl (by kernel_rfl) (by kernel_rfl) (by kernel_rfl) rfl rfl rfl rfl rfl (by assumption) ?_
        refine AW.takeOff 13 rfl (by kernel_rfl) (by kernel_rfl) (by kernel_rfl) rfl rfl rfl rfl rfl (by assumption) ?_
        refine AW.takeOff 14 rfl (by kernel_rfl) (by kernel_rfl) (by kernel_rfl) rfl rfl rfl rfl rfl (by assumption) ?_
        refine AW.take 15 rfl (by kernel_rfl) (by kernel_rfl) (by kernel_rfl) rfl (by assumption) (fun w hS => by exact Y.pickF rfl rfl) ?_
        refine AW.donew [0, 3, 4, 5, 29] (by kernel_rfl) ?_
        dsimp only [H.keep, H.look, H.Fr.put, Nat.beq]
        repeat' (first | (refine CL.condF rfl ?_) | (refine CL.exit ?_) | (refine Ex.then ?_) | (refine Ex.hit ?_) | (refine CL.done ?_) | (refine Nm.then ?_))
        exact ⟨_, rfl, rfl, rfl, 0, rfl, Nat.zero_le _, hup, .inl rfl, hkv.trans0 hk1⟩
      · obtain ⟨g1, o1, hsp1, hcl1⟩ := elSpot hqv pmK.len (i := (a : Int) - 1) (by omega) (by omega)
        have hg0 : decide ((0 : Int) < (a : Int)) = true := decide_eq_true (by omega)
        obtain ⟨bb, hbb⟩ : ∃ bb : Bool, (!(Op.bytesLess (Lo.getD ((a : Int) - 1).toNat default).d.name (L.getD ((i : Int)).toNat default).d.name || (Lo.getD ((a : Int) - 1).toNat default).d.name == (L.getD ((i : Int)).toNat default).d.name)) = bb := ⟨_, rfl⟩
        have hbx := hbb
        rw [gts_lt, ← hX, show ((a : Int) - 1).toNat = a - 1 from by omega, ← getD_d _ _ (by omega)] at hbx
        skip
        refine AW.take 0 rfl (by kernel_rfl) (by kernel_rfl) (by kernel_rfl) rfl (by assumption) (fun w hS => Y.move rfl) ?_
        refine AW.take 1 rfl (by kernel_rfl) (by kernel_rfl) (by kernel_rfl) rfl (by assumption) (fun w hS => Y.gtrT rfl rfl (by omega)) ?_
        refine AW.take 2 rfl (by kernel_rfl) (by kernel_rfl) (by kernel_rfl) rfl (by assumption) (fun w hS => Y.move rfl) ?_
        refine AW.takeOn 3 rfl (by kernel_rfl) (by kernel_rfl) (by kernel_rfl) rfl rfl rfl rfl (by assumption) (fun w hS => Y.move rfl) ?_
        refine AW.takeOn 4 rfl (by kernel_rfl) (by kernel_rfl) (by kernel_rfl) rfl rfl rfl rfl (by assumption) (fun w hS => Y.move rfl) ?_
        refine AW.takeOn 5 rfl (by kernel_rfl) (by kernel_rfl) (by kernel_rfl) rfl rfl rfl rfl (by assumption) (fun w hS => by exact Y.sub64 rfl rfl (by omega) (by omega)) ?_
        refine AW.takeOn 6 rfl (by kernel_rfl) (by kernel_rfl) (by kernel_rfl) rfl rfl rfl rfl (by assumption) (fun w hS => Y.idx rfl rfl (hqv.keep0 hS) (by omega) (by omega)) ?_
        refine AW.takeOn 7 rfl (by kernel_rfl) (by kernel_rfl) (by kernel_rfl) rfl rfl rfl rfl (by assumption) (fun w hS => Y.fieldAddr (congrArg (fun a => some (Value.pointer (some a))) hsp1) (by rfl)) ?_
        refine AW.takeOn 8 rfl (by kernel_rfl) (by kernel_rfl) (by kernel_rfl) rfl rfl rfl rfl (by assumption) (fun w hS => Y.load1A rfl (hcl1 _ hS 0 _ rfl)) ?_
        refine AW.takeOn 9 rfl (by kernel_rfl) (by kernel_rfl) (by kernel_rfl) rfl rfl rfl rfl (by assumption) (fun w hS => Y.move rfl) ?_
        refine AW.takeOn 10 rfl (by kernel_rfl) (by kernel_rfl) (by kernel_rfl) rfl rfl rfl rfl (by assumption) (fun w hS => Y.move rfl) ?_
        refine AW.takeOn 11 rfl (by kernel_rfl) (by kernel_rfl) (by kernel_rfl) rfl rfl rfl rfl (by assumption) (fun w hS => Y.idx rfl rfl (hsv.keep0 hS) (by omega) (by omega)) ?_
        refine AW.takeOn 12 rfl (by kernel_rfl) (by kernel_rfl) (by kernel_rfl) rfl rfl rfl rfl (by assumption) (fun w hS => Y.fieldAddr (congrArg (fun a => some (Value.pointer (some a))) hsp2) (by rfl)) ?_
        refine AW.takeOn 13 rfl (by kernel_rfl) (by kernel_rfl) (by kernel_rfl) rfl rfl rfl rfl (by assumption) (fun w hS => Y.load1A rfl (hcl2 _ hS 0 _ rfl)) ?_
        refine AW.takeOn 14 rfl (by kernel_rfl) (by kernel_rfl) (by kernel_rfl) rfl rfl rfl rfl (by assumption) (fun w hS => Y.gtsE rfl rfl hbb) ?_
        refine AW.take 15 rfl (by kernel_rfl) (by kernel_rfl) (by kernel_rfl) rfl (by assumption) (fun w hS => by exact Y.pickT rfl rfl) ?_
        refine AW.donew [0, 3, 4, 5, 29] (by kernel_rfl) ?_
        dsimp only [H.keep, H.look, H.Fr.put, Nat.beq]
        cases bb
        · repeat' (first | (refine CL.condF rfl ?_) | (refine CL.exit ?_) | (refine Ex.then ?_) | (refine Ex.hit ?_) | (refine CL.done ?_) | (refine Nm.then ?_))
          exact ⟨_, rfl, rfl, rfl, a, rfl, ha, hup, .inr hbx, hkv.trans0 hk1⟩
        · repeat' (first | (refine CL.region ?_) | (refine CL.skip ?_) | (refine CL.condT rfl ?_) | (refine CL.block ?_) | (refine CL.done ?_) | (refine Nm.block ?_) | (refine Nm.then ?_) | (refine Gt.nil ?_; refine RW.nilw [0, 2, 3, 4, 5, 9, 29] ?_; dsimp only [H.keep, H.look, H.Fr.put, Nat.beq]) | (refine Gt.move ?_; refine RW.y (Y.move rfl) rfl ?_) | (refine Gt.assign ?_; refine RW.y (Y.assign rfl) rfl ?_) | (refine Gt.sub ?_; refine RW.y (Y.sub64 rfl rfl (by omega) (by omega)) rfl ?_))
          exact ⟨a - 1, _, rfl, rfl, rfl, by omega, a - 1, by simp; omega, rfl, by omega, (fun q hq => (drop_mem default (by omega) (by omega) hq).elim (fun e => by rw [e]; exact hbx) (hup q)), hkv.trans0 hk1⟩
    · rintro vals wv ⟨a, rfl, ha, hup, hst, hkv⟩
      dsimp only [List.zip, List.zipWith]
      have hsv := hsr.keep0 hkv
      have hel := elAll hsv pmK.len (i := (i : Int)) (by omega) (by omega)
      have hti2 : ((a : Int)).toNat = a := Int.toNat_natCast a
      skip
      refine CL.draw (fun w' => K0 wv w') (by kernel_rfl) (fun w2 hheap hk2 => ?_)
      have hS : K0 wv w2 := hk2
      skip
      refine AW.take 0 rfl (by kernel_rfl) (by kernel_rfl) (by kernel_rfl) rfl (by assumption) (fun w hS => Y.move rfl) ?_
      refine AW.take 1 rfl (by kernel_rfl) (by kernel_rfl) (by kernel_rfl) rfl (by assumption) (fun w hS => Y.move rfl) ?_
      refine AW.take 2 rfl (by kernel_rfl) (by kernel_rfl) (by kernel_rfl) rfl (by assumption) (fun w hS => Y.move rfl) ?_
      refine AW.take 3 rfl (by kernel_rfl) (by kernel_rfl) (by kernel_rfl) rfl (by assumption) (fun w hS => Y.upto rfl rfl rfl (by omega) (by omega)) ?_
      refine AW.take 4 rfl (by kernel_rfl) (by kernel_rfl) (by kernel_rfl) rfl (by assumption) (fun w hS => Y.move rfl) ?_
      refine AW.take 5 rfl (by kernel_rfl) (by kernel_rfl) (by kernel_rfl) rfl (by assumption) (fun w hS => Y.move rfl) ?_
      refine AW.take 6 rfl (by kernel_rfl) (by kernel_rfl) (by kernel_rfl) rfl (by assumption) (fun w hS => Y.idx rfl rfl (hsv.keep0 hS) (by omega) (by omega)) ?_
      refine AW.take 7 rfl (by kernel_rfl) (by kernel_rfl) (by kernel_rfl) rfl (by assumption) (fun w hS => Y.loadN (cs := pmC (L.getD ((i : Int)).toNat default)) rfl (pmC_len _) (hel _ hS)) ?_
      refine AW.take 9 rfl (by kernel_rfl) (by kernel_rfl) (by kernel_rfl) rfl (by assumption) (fun w hS => Y.move rfl) ?_
      refine AW.take 10 rfl (by kernel_rfl) (by kernel_rfl) (by kernel_rfl) rfl (by assumption) (fun w hS => Y.move rfl) ?_
      refine AW.take 11 rfl (by kernel_rfl) (by kernel_rfl) (by kernel_rfl) rfl (by assumption) (fun w hS => Y.from rfl rfl (by omega) (by omega) (by omega)) ?_
      refine AW.next 8 rfl (by kernel_rfl) ?_
      have hz2 := hk2.size
      refine RW.build1 rfl (by show (pmC _).toArray.size = _; rw [List.size_toArray, pmC_len]) rfl rfl (fun w3 hb3 hk3 hlt3 => ?_)
      have hown3 : w3.ownsRow w2.heap.size pmT 37 (.slice (some ⟨w2.heap.size, 0, none⟩) 1 1) 1 (pmC (L.getD ((i : Int)).toNat default)) := own_new hb3 (Nat.le_refl _) (by show (pmC _).toArray.size = _; rw [List.size_toArray, pmC_len]) (by decide)
      have hS := hk2.trans0 hk3
      refine RW.nil (Nm.then ⟨hS, ?_⟩)
      skip
      refine AW.next 12 rfl (by kernel_rfl) ?_
      have hgf := (hq.keep0 ((hkv.trans0 hk2).trans0 hk3)).from rfl (a := a) (by omega) (by omega)
      have hgu := (hq.keep0 (hkv.trans0 hk2)).upto rfl (a := a) (by omega) (by omega)
      have hz3 := hk3.size
      rw [← hti2] at hgf hgu
      refine RW.app (sz := 37) rfl rfl rfl rfl rfl hown3 hgf.1 hgf.ones (by rw [List.length_drop]; omega) (by rw [List.length_drop]; omega) (by omega) (fun u4 w4 how4 hk4 hl4 => ?_)
      have hK34 : K0 w2 w4 := (hk3.trans hk4 fun k h => .inr (by simp [Value.ownBlock] at h; omega))
      have hS := hk2.trans0 hK34
      refine RW.nil (Nm.then ⟨hS, ?_⟩)
      skip
      refine AW.next 13 rfl (by kernel_rfl) ?_
      have hz4 := hk4.size
      have hgu4 := hgu.1.keep0 hK34
      have hlt4 : (L.getD ((i : Int)).toNat default) ∈ L := getD_mem default (by omega)
      refine RW.appA (sz := 37) rfl rfl rfl rfl rfl (.inr ⟨hgu4, ⟨_, by rw [List.length_take]; congr 1 <;> omega⟩, rfl⟩) (by omega) (Sl.of_own how4) (fun z hz => ?_) (by simp only [List.length_take, List.length_drop]; omega) (by simp only [List.length_take, List.length_drop]; omega) (Nat.zero_le _) (fun u5 w5 how5 hk5 hl5 => ?_)
      · rcases List.mem_append.1 hz with hz | hz
        · exact pmK.ones w _ (hv.2 _ hlt4) z hz
        · obtain ⟨y, hy, hz⟩ := List.mem_flatMap.1 hz
          exact pmK.ones w y (hv.2 y (hin y (List.mem_of_mem_drop hy))) z hz
      · have hK25 : K0 w2 w5 := hK34.trans0 (hk5.mono fun k h => by cases h)
        have hS := hk2.trans0 hK25
        refine RW.nil (Nm.then ⟨hS, ?_⟩)
        refine AW.take 14 rfl (by kernel_rfl) (by kernel_rfl) (by kernel_rfl) rfl (by assumption) (fun w hS => Y.assign rfl) ?_
        refine AW.donew [0, 3, 4] (by kernel_rfl) ?_
        dsimp only [H.keep, H.look, H.Fr.put, Nat.beq]
        have hc : u5 = u5 := rfl
        have hf : (Lo.take ((a : Int)).toNat ++ L.getD ((i : Int)).toNat default :: Lo.drop ((a : Int)).toNat).length = i + 1 := by rw [List.length_append, List.length_cons, List.length_take, List.length_drop]; omega
        repeat' (first | (refine CL.region ?_) | (refine CL.done ?_) | (refine Nm.block ?_) | (refine Nm.then ?_) | (refine Gt.nil ?_; refine RW.nilw [0, 2, 3, 4, 5, 9, 29] ?_; dsimp only [H.keep, H.look, H.Fr.put, Nat.beq]) | (refine Gt.move ?_; refine RW.y (Y.move rfl) rfl ?_) | (refine Gt.assign ?_; refine RW.y (Y.assign rfl) rfl ?_) | (refine Gt.add ?_; refine RW.y (Y.add64 rfl rfl (by omega) (by omega)) rfl ?_))
        refine ⟨L.length - (i + 1), _, rfl, rfl, rfl, by omega, i + 1, _, Lo.take ((a : Int)).toNat ++ L.getD ((i : Int)).toNat default :: Lo.drop ((a : Int)).toNat, rfl, rfl, by omega, ⟨?_, fun y hy => ?_⟩, hf, ?_, fun y hy => ?_, hKr.trans0 (hkv.trans0 hS)⟩
        · rw [List.flatMap_append, List.flatMap_cons, hf]
          have h5 := Sl.of_own how5
          rw [show (Lo.take ((a : Int)).toNat).length + (1 + (Lo.drop ((a : Int)).toNat).length) = i + 1 from by rw [List.length_take, List.length_drop]; omega] at h5
          exact h5
        · have hy2 : y ∈ L := by
            rcases List.mem_append.1 hy with h | h
            · exact hin y (List.mem_of_mem_take h)
            · rcases List.mem_cons.1 h with h | h
              · rw [h]; exact hlt4
              · exact hin y (List.mem_of_mem_drop h)
          exact pmK.keep0 (hv.2 y hy2) (hKr.trans0 (hkv.trans0 hS))
        · rw [map_snoc L i hlt, sortP_snoc, ← hso, List.map_append, List.map_cons, List.map_take, List.map_drop, hti2, hti, ins_stop _ _ (by rw [hso]; exact (sortP_ok _).1) a (by omega) (by rw [hti] at hX; rw [← hX]; exact hup) (by rw [hti] at hX; rw [← hX]; exact hst)]
        · rcases List.mem_append.1 hy with h | h
          · exact hin y (List.mem_of_mem_take h)
          · rcases List.mem_cons.1 h with h | h
            · rw [h]; exact hlt4
            · exact hin y (List.mem_of_mem_drop h)
  · have hi : i = L.length := by omega
    subst hi
    repeat' (first | (refine CL.seq ?_) | (refine CL.region ?_) | (refine CL.condP rfl (fun _ => ?_) (fun _ => ?_) <;> try (exfalso; omega)) | (refine CL.exit ?_) | (refine Ex.then ?_) | (refine Ex.hit ?_) | (refine CL.ret ?_) | (refine Gt.nil ?_; refine RW.nilw [0, 2, 3, 4, 5, 9, 29] ?_; dsimp only [H.keep, H.look, H.Fr.put, Nat.beq]) | (refine Gt.move ?_; refine RW.y (Y.move rfl) rfl ?_) | (refine Gt.assign ?_; refine RW.y (Y.assign rfl) rfl ?_) | (refine Gt.len ?_; (refine RW.y (Y.lenx rfl (by assumption)) rfl ?_)) | (refine Gt.lss ?_; refine RW.y (Y.lss rfl rfl) rfl ?_))
    exact FQ.one rfl rfl rfl ⟨hKr, _, Lo, rfl, hq, by rw [hso, List.take_length], hin⟩
end Go.Proofs.YtggodknolmdegaaGreatDoor.Lk

namespace Go.Proofs.YtggodknolmdegaaGreatDoor.Lk
open Go.RowKit H S Ve
attribute [local irreducible] H.CL H.RW H.CW H.Yd H.thenK H.blockQ Go.Calls keyAt unhexB

/-- A pin that fits. -/
structure FitP (p : Pn) : Prop where
  name : p.name.length ≤ 100000
  fit : Fit p.v
  a : p.v.a ≤ 9223372036854775807
  b : p.v.b ≤ 9223372036854775807
  c : p.v.c ≤ 9223372036854775807
  text : (textV p.v).length ≤ 100000
theorem pinT_len (x : Pm) (h : FitP x.d) : (pinT x.d).length ≤ 300000 := by
  have h1 := h.name
  have h2 := h.text
  simp only [pinT, List.length_append, hexB_len, x.h, List.length_cons, List.length_nil]
  omega
theorem pins_len : ∀ (L : List Pm), (∀ x ∈ L, FitP x.d) → ((L.map (·.d)).flatMap pinT).length ≤ L.length * 300000
  | [], _ => by simp
  | x :: r, h => by
    have h1 := pinT_len x (h x (by simp))
    have h2 := pins_len r (fun y hy => h y (by simp [hy]))
    simp only [List.map_cons, List.flatMap_cons, List.length_append, List.length_cons]
    omega
theorem pins_snoc (L : List Pm) (i : Nat) (h : i < L.length) : ((L.take (i + 1)).map (·.d)).flatMap pinT = ((L.take i).map (·.d)).flatMap pinT ++ pinT (L.getD i default).d := by rw [map_snoc L i h, List.flatMap_append]; simp

theorem refLockText (v : Value) (L : List Pm) (w : World) (hv : GA pmK w v L) (hl : L.length ≤ 1000) (hf : ∀ x ∈ L, FitP x.d) : Calls Tryz.prog 14 #[v] w fun e w' => K0 w w' ∧ e = .returned (vs (lockT (L.map (·.d)))) := by
  refine H.enter Tryz.func14 Tryz.ntmps14 rfl rfl ?_; dsimp only [H.args]
  repeat' (first | (refine CL.seq ?_) | (refine CL.region ?_) | (refine Gt.nil ?_; refine RW.nilw [0, 2, 3, 4, 5, 11] ?_; dsimp only [H.keep, H.look, H.Fr.put, Nat.beq]) | (refine Gt.move ?_; refine RW.y (Y.move rfl) rfl ?_) | (refine Gt.assign ?_; refine RW.y (Y.assign rfl) rfl ?_))
  refine RW.fn rfl rfl ((refPins v L w hv hl).mono ?_)
  rintro e w1 ⟨hk1, u, M, rfl, hu, hM, hin⟩
  have hML : M.length = L.length := by
    have := congrArg List.length hM
    rw [List.length_map] at this
    rw [this, (sortP_ok _).2.length_eq, List.length_map]
  repeat' (first | (refine CL.seq ?_) | (refine CL.region ?_) | (refine CL.block ?_) | (refine Gt.nil ?_; refine RW.nilw [0, 2, 3, 4, 5, 11] ?_; dsimp only [H.keep, H.look, H.Fr.put, Nat.beq]) | (refine Gt.assign ?_; refine RW.y (Y.assign rfl) rfl ?_))
  refine CL.loopS [3, 4, 5] (fun k vals wr => ∃ i : Nat, vals = [vs (headL ++ [10] ++ ((M.take i).map (·.d)).flatMap pinT), u, .int .i64 (i : Int)] ∧ k = M.length - i ∧ i ≤ M.length ∧ K0 w1 wr) M.length ⟨_, rfl, 0, rfl, rfl, Nat.zero_le _, Kept.refl _ _⟩ ?_
  rintro k vals wr ⟨i, rfl, rfl, hi, hkr⟩
  dsimp only [List.zip, List.zipWith]
  have hsr := hu.1.keep0 hkr
  rcases Nat.lt_or_ge i M.length with hlt | hge
  · have hti : ((i : Int)).toNat = i := Int.toNat_natCast i
    obtain ⟨g1, o1, hsp1, hcl1⟩ := elSpot hsr pmK.len (i := (i : Int)) (by omega) (by omega)
    have hm1 : M.getD ((i : Int)).toNat default ∈ M := mem_getD default (by omega)
    have hD1 : Sl wr 1 _ _ _ := (hu.keep0 hkr).2 _ hm1
    have hF := hf _ (hin _ hm1)
    have hsn := pins_snoc M i hlt
    have hpl := pins_len (M.take i) (fun y hy => hf y (hin y (List.mem_of_mem_take hy)))
    rw [List.length_take] at hpl
    rw [hti] at hm1 hD1 hF hcl1
    generalize M.getD i default = x at *
    generalize hq : ((M.take i).map (·.d)).flatMap pinT = q at *
    have hx32 : (bv x.d.sum).length = 32 := by rw [List.length_map, x.h]
    have hnl := hF.name
    have htl := hF.text
    have hhl := hexB_len x.d.sum
    rw [x.h] at hhl
    have hll : (headL ++ [10] ++ q).length ≤ 400000000 := by simp only [headL, List.length_append, List.length_cons, List.length_nil]; omega
    have hend : headL ++ [10] ++ (q ++ pinT x.d) = headL ++ [10] ++ q ++ x.d.name ++ [32] ++ textV x.d.v ++ [32] ++ hexB x.d.sum ++ [10] := by simp only [pinT, List.append_assoc]
    generalize headL ++ [10] ++ q = qq at *
    repeat' (first | (refine CL.seq ?_) | (refine CL.region ?_) | (refine CL.skip ?_) | (refine CL.condP rfl (fun _ => ?_) (fun _ => ?_) <;> try (exfalso; omega)) | (refine CL.block ?_) | (refine Gt.nil ?_; refine RW.nilw [0, 2, 3, 4, 5, 11] ?_; dsimp only [H.keep, H.look, H.Fr.put, Nat.beq]) | (refine Gt.move ?_; refine RW.y (Y.move rfl) rfl ?_) | (refine Gt.len ?_; (refine RW.y (Y.lenx rfl (by assumption)) rfl ?_)) | (refine Gt.lss ?_; refine RW.y (Y.lss rfl rfl) rfl ?_))
    refine CL.draw (fun w' => K0 wr w') (by kernel_rfl) (fun w2 hheap hk2 => ?_)
    have hS : K0 wr w2 := hk2
    skip
    refine AW.take 0 rfl (by kernel_rfl) (by kernel_rfl) (by kernel_rfl) rfl (by assumption) (fun w hS => Y.move rfl) ?_
    refine AW.take 1 rfl (by kernel_rfl) (by kernel_rfl) (by kernel_rfl) rfl (by assumption) (fun w hS => Y.move rfl) ?_
    refine AW.take 2 rfl (by kernel_rfl) (by kernel_rfl) (by kernel_rfl) rfl (by assumption) (fun w hS => Y.move rfl) ?_
    refine AW.take 3 rfl (by kernel_rfl) (by kernel_rfl) (by kernel_rfl) rfl (by assumption) (fun w hS => Y.idx rfl rfl (hsr.keep0 hS) (by omega) (by omega)) ?_
    refine AW.take 4 rfl (by kernel_rfl) (by kernel_rfl) (by kernel_rfl) rfl (by assumption) (fun w hS => Y.fieldAddr (congrArg (fun a => some (Value.pointer (some a))) hsp1) (by rfl)) ?_
    refine AW.take 5 rfl (by kernel_rfl) (by kernel_rfl) (by kernel_rfl) rfl (by assumption) (fun w hS => Y.load1A rfl (hcl1 _ hS 0 _ rfl)) ?_
    refine AW.take 6 rfl (by kernel_rfl) (by kernel_rfl) (by kernel_rfl) rfl (by assumption) (fun w hS => by exact Y.cat rfl rfl (by omega)) ?_
    refine AW.take 7 rfl (by kernel_rfl) (by kernel_rfl) (by kernel_rfl) rfl (by assumption) (fun w hS => by exact Y.cat rfl rfl (by (simp only [List.length_append, List.length_cons, List.length_nil]; omega))) ?_
    refine AW.take 8 rfl (by kernel_rfl) (by kernel_rfl) (by kernel_rfl) rfl (by assumption) (fun w hS => Y.move rfl) ?_
    refine AW.take 9 rfl (by kernel_rfl) (by kernel_rfl) (by kernel_rfl) rfl (by assumption) (fun w hS => Y.move rfl) ?_
    refine AW.take 10 rfl (by kernel_rfl) (by kernel_rfl) (by kernel_rfl) rfl (by assumption) (fun w hS => Y.idx rfl rfl (hsr.keep0 hS) (by omega) (by omega)) ?_
    refine AW.take 11 rfl (by kernel_rfl) (by kernel_rfl) (by kernel_rfl) rfl (by assumption) (fun w hS => Y.fieldAddr (congrArg (fun a => some (Value.pointer (some a))) hsp1) (by rfl)) ?_
    refine AW.take 12 rfl (by kernel_rfl) (by kernel_rfl) (by kernel_rfl) rfl (by assumption) (fun w hS => Y.loadN (cs := [_, _, _, _]) rfl rfl (pmVer (hcl1 _ hS))) ?_
    refine AW.take 16 rfl (by kernel_rfl) (by kernel_rfl) (by kernel_rfl) rfl (by assumption) (fun w hS => Y.move rfl) ?_
    refine AW.take 17 rfl (by kernel_rfl) (by kernel_rfl) (by kernel_rfl) rfl (by assumption) (fun w hS => Y.move rfl) ?_
    refine AW.take 18 rfl (by kernel_rfl) (by kernel_rfl) (by kernel_rfl) rfl (by assumption) (fun w hS => Y.idx rfl rfl (hsr.keep0 hS) (by omega) (by omega)) ?_
    refine AW.take 19 rfl (by kernel_rfl) (by kernel_rfl) (by kernel_rfl) rfl (by assumption) (fun w hS => Y.fieldAddr (congrArg (fun a => some (Value.pointer (some a))) hsp1) (by rfl)) ?_
    refine AW.take 20 rfl (by kernel_rfl) (by kernel_rfl) (by kernel_rfl) rfl (by assumption) (fun w hS => Y.loadN (cs := bv x.d.sum) rfl hx32 (pmSum (hcl1 _ hS))) ?_
    refine AW.next 13 rfl (by kernel_rfl) ?_
    refine RW.fn rfl rfl ((refVText _ x.d.v w2 ⟨_, rfl, hD1.keep0 hk2⟩ hF.fit hF.a hF.b hF.c).mono ?_)
    rintro e w3 ⟨hk3, rfl⟩
    refine RW.nil (Nm.then ⟨hS.trans0 hk3, ?_⟩)
    have hS := hS.trans0 hk3
    refine AW.take 14 rfl (by kernel_rfl) (by kernel_rfl) (by kernel_rfl) rfl (by assumption) (fun w hS => by exact Y.cat rfl rfl (by (simp only [List.length_append, List.length_cons, List.length_nil]; omega))) ?_
    refine AW.take 15 rfl (by kernel_rfl) (by kernel_rfl) (by kernel_rfl) rfl (by assumption) (fun w hS => by exact Y.cat rfl rfl (by (simp only [List.length_append, List.length_cons, List.length_nil]; omega))) ?_
    refine AW.next 21 rfl (by kernel_rfl) ?_
    refine RW.fn rfl rfl ((refHex _ x.h w3).mono ?_)
    rintro e w4 ⟨hk4, rfl⟩
    refine RW.nil (Nm.then ⟨hS.trans0 hk4, ?_⟩)
    have hS := hS.trans0 hk4
    refine AW.take 22 rfl (by kernel_rfl) (by kernel_rfl) (by kernel_rfl) rfl (by assumption) (fun w hS => by exact Y.cat rfl rfl (by (simp only [List.length_append, List.length_cons, List.length_nil]; omega))) ?_
    refine AW.take 23 rfl (by kernel_rfl) (by kernel_rfl) (by kernel_rfl) rfl (by assumption) (fun w hS => by exact Y.cat rfl rfl (by (simp only [List.length_append, List.length_cons, List.length_nil]; omega))) ?_
    refine AW.take 24 rfl (by kernel_rfl) (by kernel_rfl) (by kernel_rfl) rfl (by assumption) (fun w hS => Y.assign rfl) ?_
    refine AW.donew [3, 4, 5] (by kernel_rfl) ?_
    dsimp only [H.keep, H.look, H.Fr.put, Nat.beq]
    repeat' (first | (refine CL.region ?_) | (refine CL.done ?_) | (refine Nm.block ?_) | (refine Nm.then ?_) | (refine Gt.nil ?_; refine RW.nilw [0, 2, 3, 4, 5, 11] ?_; dsimp only [H.keep, H.look, H.Fr.put, Nat.beq]) | (refine Gt.move ?_; refine RW.y (Y.move rfl) rfl ?_) | (refine Gt.assign ?_; refine RW.y (Y.assign rfl) rfl ?_) | (refine Gt.add ?_; (refine RW.y (Y.add64 rfl rfl (by omega) (by omega)) rfl ?_)))
    exact ⟨M.length - (i + 1), _, rfl, rfl, rfl, by omega, i + 1, by rw [hsn, hend]; simp, rfl, by omega, hkr.trans0 hS⟩
  · have hi : i = M.length := by omega
    subst hi
    repeat' (first | (refine CL.seq ?_) | (refine CL.region ?_) | (refine CL.condP rfl (fun _ => ?_) (fun _ => ?_) <;> try (exfalso; omega)) | (refine CL.exit ?_) | (refine Ex.then ?_) | (refine Ex.hit ?_) | (refine CL.ret ?_) | (refine Gt.nil ?_; refine RW.nilw [0, 2, 3, 4, 5, 11] ?_; dsimp only [H.keep, H.look, H.Fr.put, Nat.beq]) | (refine Gt.move ?_; refine RW.y (Y.move rfl) rfl ?_) | (refine Gt.assign ?_; refine RW.y (Y.assign rfl) rfl ?_) | (refine Gt.len ?_; (refine RW.y (Y.lenx rfl (by assumption)) rfl ?_)) | (refine Gt.lss ?_; refine RW.y (Y.lss rfl rfl) rfl ?_))
    exact FQ.one rfl rfl rfl ⟨hk1.trans0 hkr, by rw [List.take_length, hM]; rfl⟩

/-- What a pin is held by. -/
def keyP (p : Pn) : T × T × T := (p.name, textV p.v, p.sum)
def sameP (l m : List Pn) : Bool := decide (l.map keyP = m.map keyP)
theorem same_len {l m : List Pn} (h : l.length ≠ m.length) : sameP l m = false := decide_eq_false fun c => h (by simpa using congrArg List.length c)
theorem same_not {l m : List Pn} {i : Nat} (hi : i < l.length) (hl : l.length = m.length) (h : keyP (l.getD i default) ≠ keyP (m.getD i default)) : sameP l m = false := decide_eq_false fun c => h (by
  have := congrArg (fun z : List (T × T × T) => z.getD i default) c
  simp only [List.getD_eq_getElem?_getD, List.getElem?_map, List.getElem?_eq_getElem hi, List.getElem?_eq_getElem (hl ▸ hi)] at this ⊢
  exact this)
theorem same_step {l m : List Pn} {i : Nat} (hi : i < l.length) (hl : l.length = m.length) (h : (l.take i).map keyP = (m.take i).map keyP) (hk : keyP (l.getD i default) = keyP (m.getD i default)) : (l.take (i + 1)).map keyP = (m.take (i + 1)).map keyP := by
  rw [take_snoc default l i hi, take_snoc default m i (by omega), List.map_append, List.map_append, h, List.map_cons, List.map_nil, List.map_cons, List.map_nil, hk]

theorem refSamePins (v u : Value) (N M : List Pm) (w : World) (hv : GA pmK w v N) (hu : GA pmK w u M) (hf : ∀ x ∈ N, FitP x.d) (hg : ∀ x ∈ M, FitP x.d) : Calls Tryz.prog 16 #[v, u] w fun e w' => K0 w w' ∧ e = .returned (.bool (sameP (N.map (·.d)) (M.map (·.d)))) := by
  have hs := hv.1
  have ht := hu.1
  have hmx : N.length ≤ 9223372036854775807 := by have := hs.2.1; simpa [maxLen] using this
  have hNl : (N.map (·.d)).length = N.length := List.length_map _
  have hMl : (M.map (·.d)).length = M.length := List.length_map _
  refine H.enter Tryz.func16 Tryz.ntmps16 rfl rfl ?_; dsimp only [H.args]
  repeat' (first | (refine CL.seq ?_) | (refine CL.region ?_) | (refine CL.skip ?_) | (refine CL.condP rfl (fun _ => ?_) (fun _ => ?_) <;> try (exfalso; omega)) | (refine CL.block ?_) | (refine CL.ret ?_) | (refine Gt.nil ?_; refine RW.nilw [0, 1, 4, 5, 10, 14, 55] ?_; dsimp only [H.keep, H.look, H.Fr.put, Nat.beq]) | (refine Gt.move ?_; refine RW.y (Y.move rfl) rfl ?_) | (refine Gt.assign ?_; refine RW.y (Y.assign rfl) rfl ?_) | (refine Gt.len ?_; (refine RW.y (Y.lenx rfl (by assumption)) rfl ?_)) | (refine Gt.neq ?_; (refine RW.y (Y.nei rfl rfl) rfl ?_)))
  · rename_i h
    exact FQ.one rfl rfl rfl ⟨Kept.refl _ _, by rw [same_len (by omega)]⟩
  rename_i hlen
  refine CL.loopS [0, 1, 5] (fun k vals wr => ∃ i : Nat, vals = [v, u, .int .i64 (i : Int)] ∧ k = N.length - i ∧ i ≤ N.length ∧ ((N.map (·.d)).take i).map keyP = ((M.map (·.d)).take i).map keyP ∧ K0 w wr) N.length ⟨_, rfl, 0, rfl, rfl, Nat.zero_le _, rfl, Kept.refl _ _⟩ ?_
  rintro k vals wr ⟨i, rfl, rfl, hi, hsm, hkr⟩
  dsimp only [List.zip, List.zipWith]
  have hvr := hv.keep0 hkr
  have hur := hu.keep0 hkr
  have hsr := hvr.1
  have htr := hur.1
  rcases Nat.lt_or_ge i N.length with hlt | hge
  · have hti : ((i : Int)).toNat = i := Int.toNat_natCast i
    obtain ⟨g1, o1, hsp1, hcl1⟩ := elSpot hsr pmK.len (i := (i : Int)) (by omega) (by omega)
    obtain ⟨g2, o2, hsp2, hcl2⟩ := elSpot htr pmK.len (i := (i : Int)) (by omega) (by omega)
    rw [hti] at hcl1 hcl2
    have hm1 : N.getD i default ∈ N := mem_getD default (by omega)
    have hm2 : M.getD i default ∈ M := mem_getD default (by omega)
    have hD1 : Sl wr 1 _ _ _ := hvr.2 _ hm1
    have hD2 : Sl wr 1 _ _ _ := hur.2 _ hm2
    have hF := hf _ hm1
    have hG := hg _ hm2
    have hno : keyP (N.getD i default).d ≠ keyP (M.getD i default).d → sameP (N.map (·.d)) (M.map (·.d)) = false := fun c => same_not (i := i) (by omega) (by omega) (by rw [getD_d _ _ (by omega), getD_d _ _ (by omega)]; exact c)
    have hst : keyP (N.getD i default).d = keyP (M.getD i default).d → ((N.map (·.d)).take (i + 1)).map keyP = ((M.map (·.d)).take (i + 1)).map keyP := fun c => same_step (by omega) (by omega) hsm (by rw [getD_d _ _ (by omega), getD_d _ _ (by omega)]; exact c)
    generalize N.getD i default = x at *
    generalize M.getD i default = y at *
    have hx32 : (bv x.d.sum).length = 32 := by rw [List.length_map, x.h]
    have hy32 : (bv y.d.sum).length = 32 := by rw [List.length_map, y.h]
    obtain ⟨b1, hb1⟩ : ∃ b, decide (x.d.name ≠ y.d.name) = b := ⟨_, rfl⟩
    obtain ⟨b2, hb2⟩ : ∃ b, decide (textV x.d.v ≠ textV y.d.v) = b := ⟨_, rfl⟩
    obtain ⟨b3, hb3⟩ : ∃ b, decide (x.d.sum ≠ y.d.sum) = b := ⟨_, rfl⟩
    repeat' (first | (refine CL.seq ?_) | (refine CL.region ?_) | (refine CL.skip ?_) | (refine CL.condP rfl (fun _ => ?_) (fun _ => ?_) <;> try (exfalso; omega)) | (refine CL.block ?_) | (refine Gt.nil ?_; refine RW.nilw [0, 1, 4, 5, 10, 14, 55] ?_; dsimp only [H.keep, H.look, H.Fr.put, Nat.beq]) | (refine Gt.move ?_; refine RW.y (Y.move rfl) rfl ?_) | (refine Gt.len ?_; (refine RW.y (Y.lenx rfl (by assumption)) rfl ?_)) | (refine Gt.lss ?_; refine RW.y (Y.lss rfl rfl) rfl ?_))
    refine CL.draw (fun w' => K0 wr w') (by kernel_rfl) (fun w1 hheap hk1 => ?_)
    have hS : K0 wr w1 := hk1
    skip
    skip
    cases b1 with
    | true =>
      skip
      refine AW.take 0 rfl (by kernel_rfl) (by kernel_rfl) (by kernel_rfl) rfl (by assumption) (fun w hS => Y.move rfl) ?_
      refine AW.take 1 rfl (by kernel_rfl) (by kernel_rfl) (by kernel_rfl) rfl (by assumption) (fun w hS => Y.move rfl) ?_
      refine AW.take 2 rfl (by kernel_rfl) (by kernel_rfl) (by kernel_rfl) rfl (by assumption) (fun w hS => Y.idx rfl rfl (hsr.keep0 hS) (by omega) (by omega)) ?_
      refine AW.take 3 rfl (by kernel_rfl) (by kernel_rfl) (by kernel_rfl) rfl (by assumption) (fun w hS => Y.fieldAddr (congrArg (fun a => some (Value.pointer (some a))) hsp1) (by rfl)) ?_
      refine AW.take 4 rfl (by kernel_rfl) (by kernel_rfl) (by kernel_rfl) rfl (by assumption) (fun w hS => Y.load1A rfl (hcl1 _ hS 0 _ rfl)) ?_
      refine AW.take 5 rfl (by kernel_rfl) (by kernel_rfl) (by kernel_rfl) rfl (by assumption) (fun w hS => Y.move rfl) ?_
      refine AW.take 6 rfl (by kernel_rfl) (by kernel_rfl) (by kernel_rfl) rfl (by assumption) (fun w hS => Y.move rfl) ?_
      refine AW.take 7 rfl (by kernel_rfl) (by kernel_rfl) (by kernel_rfl) rfl (by assumption) (fun w hS => Y.idx rfl rfl (htr.keep0 hS) (by omega) (by omega)) ?_
      refine AW.take 8 rfl (by kernel_rfl) (by kernel_rfl) (by kernel_rfl) rfl (by assumption) (fun w hS => Y.fieldAddr (congrArg (fun a => some (Value.pointer (some a))) hsp2) (by rfl)) ?_
      refine AW.take 9 rfl (by kernel_rfl) (by kernel_rfl) (by kernel_rfl) rfl (by assumption) (fun w hS => Y.load1A rfl (hcl2 _ hS 0 _ rfl)) ?_
      refine AW.take 10 rfl (by kernel_rfl) (by kernel_rfl) (by kernel_rfl) rfl (by assumption) (fun w hS => Y.nesE rfl rfl hb1) ?_
      refine AW.take 11 rfl (by kernel_rfl) (by kernel_rfl) (by kernel_rfl) rfl (by assumption) (fun w hS => Y.move rfl) ?_
      refine AW.takeOff 12 rfl (by kernel_rfl) (by kernel_rfl) (by kernel_rfl) rfl rfl rfl rfl rfl (by assumption) ?_
      refine AW.takeOff 13 rfl (by kernel_rfl) (by kernel_rfl) (by kernel_rfl) rfl rfl rfl rfl rfl (by assumption) ?_
      refine AW.takeOff 14 rfl (by kernel_rfl) (by kernel_rfl) (by kernel_rfl) rfl rfl rfl rfl rfl (by assumption) ?_
      refine AW.takeOff 15 rfl (by kernel_rfl) (by kernel_rfl) (by kernel_rfl) rfl rfl rfl rfl rfl (by assumption) ?_
      refine AW.takeOff 16 rfl (by kernel_rfl) (by kernel_rfl) (by kernel_rfl) rfl rfl rfl rfl rfl (by assumption) ?_
      refine AW.takeOff 17 rfl (by kernel_rfl) (by kernel_rfl) (by kernel_rfl) rfl rfl rfl rfl rfl (by assumption) ?_
      refine AW.takeOff 18 rfl (by kernel_rfl) (by kernel_rfl) (by kernel_rfl) rfl rfl rfl rfl rfl (by assumption) ?_
      refine AW.takeOff 19 rfl (by kernel_rfl) (by kernel_rfl) (by kernel_rfl) rfl rfl rfl rfl rfl (by assumption) ?_
      refine AW.takeOff 20 rfl (by kernel_rfl) (by kernel_rfl) (by kernel_rfl) rfl rfl rfl rfl rfl (by assumption) ?_
      refine AW.takeOff 21 rfl (by kernel_rfl) (by kernel_rfl) (by kernel_rfl) rfl rfl rfl rfl rfl (by assumption) ?_
      refine AW.takeOff 22 rfl (by kernel_rfl) (by kernel_rfl) (by kernel_rfl) rfl rfl rfl rfl rfl (by assumption) ?_
      refine AW.takeOff 23 rfl (by kernel_rfl) (by kernel_rfl) (by kernel_rfl) rfl rfl rfl rfl rfl (by assumption) ?_
      refine AW.takeOff 24 rfl (by kernel_rfl) (by kernel_rfl) (by kernel_rfl) rfl rfl rfl rfl rfl (by assumption) ?_
      refine AW.take 25 rfl (by kernel_rfl) (by kernel_rfl) (by kernel_rfl) rfl (by assumption) (fun w hS => by exact Y.pickT rfl rfl) ?_
      refine AW.take 26 rfl (by kernel_rfl) (by kernel_rfl) (by kernel_rfl) rfl (by assumption) (fun w hS => Y.move rfl) ?_
      refine AW.takeOff 27 rfl (by kernel_rfl) (by kernel_rfl) (by kernel_rfl) rfl rfl rfl rfl rfl (by assumption) ?_
      refine AW.takeOff 28 rfl (by kernel_rfl) (by kernel_rfl) (by kernel_rfl) rfl rfl rfl rfl rfl (by assumption) ?_
      refine AW.takeOff 29 rfl (by kernel_rfl) (by kernel_rfl) (by kernel_rfl) rfl rfl rfl rfl rfl (by assumption) ?_
      refine AW.takeOff 30 rfl (by kernel_rfl) (by kernel_rfl) (by kernel_rfl) rfl rfl rfl rfl rfl (by assumption) ?_
      refine AW.takeOff 31 rfl (by kernel_rfl) (by kernel_rfl) (by kernel_rfl) rfl rfl rfl rfl rfl (by assumption) ?_
      refine AW.takeOff 32 rfl (by kernel_rfl) (by kernel_rfl) (by kernel_rfl) rfl rfl rfl rfl rfl (by assumption) ?_
      refine AW.takeOff 33 rfl (by kernel_rfl) (by kernel_rfl) (by kernel_rfl) rfl rfl rfl rfl rfl (by assumption) ?_
      refine AW.takeOff 34 rfl (by kernel_rfl) (by kernel_rfl) (by kernel_rfl) rfl rfl rfl rfl rfl (by assumption) ?_
      refine AW.takeOff 35 rfl (by kernel_rfl) (by kernel_rfl) (by kernel_rfl) rfl rfl rfl rfl rfl (by assumption) ?_
      refine AW.takeOff 36 rfl (by kernel_rfl) (by kernel_rfl) (by kernel_rfl) rfl rfl rfl rfl rfl (by assumption) ?_
      refine AW.takeOff 37 rfl (by kernel_rfl) (by kernel_rfl) (by kernel_rfl) rfl rfl rfl rfl rfl (by assumption) ?_
      refine AW.take 38 rfl (by kernel_rfl) (by kernel_rfl) (by kernel_rfl) rfl (by assumption) (fun w hS => by exact Y.pickT rfl rfl) ?_
      refine AW.donew [0, 1, 5, 55] (by kernel_rfl) ?_
      dsimp only [H.keep, H.look, H.Fr.put, Nat.beq]
      repeat' (first | (refine CL.seq ?_) | (refine CL.region ?_) | (refine CL.condT rfl ?_) | (refine CL.ret ?_) | (refine Rt.then ?_) | (refine Rt.block ?_) | (refine Gt.nil ?_; refine RW.nilw [0, 1, 4, 5, 10, 14, 55] ?_; dsimp only [H.keep, H.look, H.Fr.put, Nat.beq]) | (refine Gt.assign ?_; refine RW.y (Y.assign rfl) rfl ?_))
      exact FQ.one rfl rfl rfl ⟨hkr.trans0 hS, by rw [hno fun c => by rw [show x.d.name = y.d.name from congrArg (·.1) c] at hb1; simp at hb1]⟩
    | false =>
      skip
      refine AW.take 0 rfl (by kernel_rfl) (by kernel_rfl) (by kernel_rfl) rfl (by assumption) (fun w hS => Y.move rfl) ?_
      refine AW.take 1 rfl (by kernel_rfl) (by kernel_rfl) (by kernel_rfl) rfl (by assumption) (fun w hS => Y.move rfl) ?_
      refine AW.take 2 rfl (by kernel_rfl) (by kernel_rfl) (by kernel_rfl) rfl (by assumption) (fun w hS => Y.idx rfl rfl (hsr.keep0 hS) (by omega) (by omega)) ?_
      refine AW.take 3 rfl (by kernel_rfl) (by kernel_rfl) (by kernel_rfl) rfl (by assumption) (fun w hS => Y.fieldAddr (congrArg (fun a => some (Value.pointer (some a))) hsp1) (by rfl)) ?_
      refine AW.take 4 rfl (by kernel_rfl) (by kernel_rfl) (by kernel_rfl) rfl (by assumption) (fun w hS => Y.load1A rfl (hcl1 _ hS 0 _ rfl)) ?_
      refine AW.take 5 rfl (by kernel_rfl) (by kernel_rfl) (by kernel_rfl) rfl (by assumption) (fun w hS => Y.move rfl) ?_
      refine AW.take 6 rfl (by kernel_rfl) (by kernel_rfl) (by kernel_rfl) rfl (by assumption) (fun w hS => Y.move rfl) ?_
      refine AW.take 7 rfl (by kernel_rfl) (by kernel_rfl) (by kernel_rfl) rfl (by assumption) (fun w hS => Y.idx rfl rfl (htr.keep0 hS) (by omega) (by omega)) ?_
      refine AW.take 8 rfl (by kernel_rfl) (by kernel_rfl) (by kernel_rfl) rfl (by assumption) (fun w hS => Y.fieldAddr (congrArg (fun a => some (Value.pointer (some a))) hsp2) (by rfl)) ?_
      refine AW.take 9 rfl (by kernel_rfl) (by kernel_rfl) (by kernel_rfl) rfl (by assumption) (fun w hS => Y.load1A rfl (hcl2 _ hS 0 _ rfl)) ?_
      refine AW.take 10 rfl (by kernel_rfl) (by kernel_rfl) (by kernel_rfl) rfl (by assumption) (fun w hS => Y.nesE rfl rfl hb1) ?_
      refine AW.take 11 rfl (by kernel_rfl) (by kernel_rfl) (by kernel_rfl) rfl (by assumption) (fun w hS => Y.move rfl) ?_
      refine AW.takeOn 12 rfl (by kernel_rfl) (by kernel_rfl) (by kernel_rfl) rfl rfl rfl rfl (by assumption) (fun w hS => Y.move rfl) ?_
      refine AW.takeOn 13 rfl (by kernel_rfl) (by kernel_rfl) (by kernel_rfl) rfl rfl rfl rfl (by assumption) (fun w hS => Y.move rfl) ?_
      refine AW.takeOn 14 rfl (by kernel_rfl) (by kernel_rfl) (by kernel_rfl) rfl rfl rfl rfl (by assumption) (fun w hS => Y.idx rfl rfl (hsr.keep0 hS) (by omega) (by omega)) ?_
      refine AW.takeOn 15 rfl (by kernel_rfl) (by kernel_rfl) (by kernel_rfl) rfl rfl rfl rfl (by assumption) (fun w hS => Y.fieldAddr (congrArg (fun a => some (Value.pointer (some a))) hsp1) (by rfl)) ?_
      refine AW.takeOn 16 rfl (by kernel_rfl) (by kernel_rfl) (by kernel_rfl) rfl rfl rfl rfl (by assumption) (fun w hS => Y.loadN (cs := [_, _, _, _]) rfl rfl (pmVer (hcl1 _ hS))) ?_
      refine AW.takeOn 18 rfl (by kernel_rfl) (by kernel_rfl) (by kernel_rfl) rfl rfl rfl rfl (by assumption) (fun w hS => Y.move rfl) ?_
      refine AW.takeOn 19 rfl (by kernel_rfl) (by kernel_rfl) (by kernel_rfl) rfl rfl rfl rfl (by assumption) (fun w hS => Y.move rfl) ?_
      refine AW.takeOn 20 rfl (by kernel_rfl) (by kernel_rfl) (by kernel_rfl) rfl rfl rfl rfl (by assumption) (fun w hS => Y.idx rfl rfl (htr.keep0 hS) (by omega) (by omega)) ?_
      refine AW.takeOn 21 rfl (by kernel_rfl) (by kernel_rfl) (by kernel_rfl) rfl rfl rfl rfl (by assumption) (fun w hS => Y.fieldAddr (congrArg (fun a => some (Value.pointer (some a))) hsp2) (by rfl)) ?_
      refine AW.takeOn 22 rfl (by kernel_rfl) (by kernel_rfl) (by kernel_rfl) rfl rfl rfl rfl (by assumption) (fun w hS => Y.loadN (cs := [_, _, _, _]) rfl rfl (pmVer (hcl2 _ hS))) ?_
      refine AW.next 17 rfl (by kernel_rfl) ?_
      refine RW.on rfl rfl rfl ?_
      refine RW.fn rfl rfl ((refVText _ x.d.v w1 ⟨_, rfl, hD1.keep0 hS⟩ hF.fit hF.a hF.b hF.c).mono ?_)
      rintro e w2 ⟨hk2, rfl⟩
      refine RW.nil (Nm.then ⟨hS.trans0 hk2, ?_⟩)
      have hS := hS.trans0 hk2
      skip
      refine AW.next 23 rfl (by kernel_rfl) ?_
      refine RW.on rfl rfl rfl ?_
      refine RW.fn rfl rfl ((refVText _ y.d.v w2 ⟨_, rfl, hD2.keep0 hS⟩ hG.fit hG.a hG.b hG.c).mono ?_)
      rintro e w3 ⟨hk3, rfl⟩
      refine RW.nil (Nm.then ⟨hS.trans0 hk3, ?_⟩)
      have hS := hS.trans0 hk3
      skip
      cases b2 with
      | true =>
        skip
        refine AW.takeOn 24 rfl (by kernel_rfl) (by kernel_rfl) (by kernel_rfl) rfl rfl rfl rfl (by assumption) (fun w hS => Y.nesE rfl rfl hb2) ?_
        refine AW.take 25 rfl (by kernel_rfl) (by kernel_rfl) (by kernel_rfl) rfl (by assumption) (fun w hS => by exact Y.pickF rfl rfl) ?_
        refine AW.take 26 rfl (by kernel_rfl) (by kernel_rfl) (by kernel_rfl) rfl (by assumption) (fun w hS => Y.move rfl) ?_
        refine AW.takeOff 27 rfl (by kernel_rfl) (by kernel_rfl) (by kernel_rfl) rfl rfl rfl rfl rfl (by assumption) ?_
        refine AW.takeOff 28 rfl (by kernel_rfl) (by kernel_rfl) (by kernel_rfl) rfl rfl rfl rfl rfl (by assumption) ?_
        refine AW.takeOff 29 rfl (by kernel_rfl) (by kernel_rfl) (by kernel_rfl) rfl rfl rfl rfl rfl (by assumption) ?_
        refine AW.takeOff 30 rfl (by kernel_rfl) (by kernel_rfl) (by kernel_rfl) rfl rfl rfl rfl rfl (by assumption) ?_
        refine AW.takeOff 31 rfl (by kernel_rfl) (by kernel_rfl) (by kernel_rfl) rfl rfl rfl rfl rfl (by assumption) ?_
        refine AW.takeOff 32 rfl (by kernel_rfl) (by kernel_rfl) (by kernel_rfl) rfl rfl rfl rfl rfl (by assumption) ?_
        refine AW.takeOff 33 rfl (by kernel_rfl) (by kernel_rfl) (by kernel_rfl) rfl rfl rfl rfl rfl (by assumption) ?_
        refine AW.takeOff 34 rfl (by kernel_rfl) (by kernel_rfl) (by kernel_rfl) rfl rfl rfl rfl rfl (by assumption) ?_
        refine AW.takeOff 35 rfl (by kernel_rfl) (by kernel_rfl) (by kernel_rfl) rfl rfl rfl rfl rfl (by assumption) ?_
        refine AW.takeOff 36 rfl (by kernel_rfl) (by kernel_rfl) (by kernel_rfl) rfl rfl rfl rfl rfl (by assumption) ?_
        refine AW.takeOff 37 rfl (by kernel_rfl) (by kernel_rfl) (by kernel_rfl) rfl rfl rfl rfl rfl (by assumption) ?_
        refine AW.take 38 rfl (by kernel_rfl) (by kernel_rfl) (by kernel_rfl) rfl (by assumption) (fun w hS => by exact Y.pickT rfl rfl) ?_
        refine AW.donew [0, 1, 5, 55] (by kernel_rfl) ?_
        dsimp only [H.keep, H.look, H.Fr.put, Nat.beq]
        repeat' (first | (refine CL.seq ?_) | (refine CL.region ?_) | (refine CL.condT rfl ?_) | (refine CL.ret ?_) | (refine Rt.then ?_) | (refine Rt.block ?_) | (refine Gt.nil ?_; refine RW.nilw [0, 1, 4, 5, 10, 14, 55] ?_; dsimp only [H.keep, H.look, H.Fr.put, Nat.beq]) | (refine Gt.assign ?_; refine RW.y (Y.assign rfl) rfl ?_))
        exact FQ.one rfl rfl rfl ⟨hkr.trans0 hS, by rw [hno fun c => by rw [show textV x.d.v = textV y.d.v from congrArg (·.2.1) c] at hb2; simp at hb2]⟩
      | false =>
        skip
        refine AW.takeOn 24 rfl (by kernel_rfl) (by kernel_rfl) (by kernel_rfl) rfl rfl rfl rfl (by assumption) (fun w hS => Y.nesE rfl rfl hb2) ?_
        refine AW.take 25 rfl (by kernel_rfl) (by kernel_rfl) (by kernel_rfl) rfl (by assumption) (fun w hS => by exact Y.pickF rfl rfl) ?_
        refine AW.take 26 rfl (by kernel_rfl) (by kernel_rfl) (by kernel_rfl) rfl (by assumption) (fun w hS => Y.move rfl) ?_
        refine AW.takeOn 27 rfl (by kernel_rfl) (by kernel_rfl) (by kernel_rfl) rfl rfl rfl rfl (by assumption) (fun w hS => Y.move rfl) ?_
        refine AW.takeOn 28 rfl (by kernel_rfl) (by kernel_rfl) (by kernel_rfl) rfl rfl rfl rfl (by assumption) (fun w hS => Y.move rfl) ?_
        refine AW.takeOn 29 rfl (by kernel_rfl) (by kernel_rfl) (by kernel_rfl) rfl rfl rfl rfl (by assumption) (fun w hS => Y.idx rfl rfl (hsr.keep0 hS) (by omega) (by omega)) ?_
        refine AW.takeOn 30 rfl (by kernel_rfl) (by kernel_rfl) (by kernel_rfl) rfl rfl rfl rfl (by assumption) (fun w hS => Y.fieldAddr (congrArg (fun a => some (Value.pointer (some a))) hsp1) (by rfl)) ?_
        refine AW.takeOn 31 rfl (by kernel_rfl) (by kernel_rfl) (by kernel_rfl) rfl rfl rfl rfl (by assumption) (fun w hS => Y.loadN (cs := bv x.d.sum) rfl hx32 (pmSum (hcl1 _ hS))) ?_
        refine AW.takeOn 32 rfl (by kernel_rfl) (by kernel_rfl) (by kernel_rfl) rfl rfl rfl rfl (by assumption) (fun w hS => Y.move rfl) ?_
        refine AW.takeOn 33 rfl (by kernel_rfl) (by kernel_rfl) (by kernel_rfl) rfl rfl rfl rfl (by assumption) (fun w hS => Y.move rfl) ?_
        refine AW.takeOn 34 rfl (by kernel_rfl) (by kernel_rfl) (by kernel_rfl) rfl rfl rfl rfl (by assumption) (fun w hS => Y.idx rfl rfl (htr.keep0 hS) (by omega) (by omega)) ?_
        refine AW.takeOn 35 rfl (by kernel_rfl) (by kernel_rfl) (by kernel_rfl) rfl rfl rfl rfl (by assumption) (fun w hS => Y.fieldAddr (congrArg (fun a => some (Value.pointer (some a))) hsp2) (by rfl)) ?_
        refine AW.takeOn 36 rfl (by kernel_rfl) (by kernel_rfl) (by kernel_rfl) rfl rfl rfl rfl (by assumption) (fun w hS => Y.loadN (cs := bv y.d.sum) rfl hy32 (pmSum (hcl2 _ hS))) ?_
        refine AW.takeOn 37 rfl (by kernel_rfl) (by kernel_rfl) (by kernel_rfl) rfl rfl rfl rfl (by assumption) (fun w hS => Y.neB rfl rfl (by kernel_rfl) x.h y.h hb3) ?_
        refine AW.take 38 rfl (by kernel_rfl) (by kernel_rfl) (by kernel_rfl) rfl (by assumption) (fun w hS => by exact Y.pickF rfl rfl) ?_
        refine AW.donew [0, 1, 5, 55] (by kernel_rfl) ?_
        dsimp only [H.keep, H.look, H.Fr.put, Nat.beq]
        cases b3 with
        | true =>
          repeat' (first | (refine CL.seq ?_) | (refine CL.region ?_) | (refine CL.condT rfl ?_) | (refine CL.ret ?_) | (refine Rt.then ?_) | (refine Rt.block ?_) | (refine Gt.nil ?_; refine RW.nilw [0, 1, 4, 5, 10, 14, 55] ?_; dsimp only [H.keep, H.look, H.Fr.put, Nat.beq]) | (refine Gt.assign ?_; refine RW.y (Y.assign rfl) rfl ?_))
          exact FQ.one rfl rfl rfl ⟨hkr.trans0 hS, by rw [hno fun c => by rw [show x.d.sum = y.d.sum from congrArg (·.2.2) c] at hb3; simp at hb3]⟩
        | false =>
          repeat' (first | (refine CL.region ?_) | (refine CL.skip ?_) | (refine CL.condF rfl ?_) | (refine CL.done ?_) | (refine Nm.block ?_) | (refine Nm.then ?_) | (refine Gt.nil ?_; refine RW.nilw [0, 1, 4, 5, 10, 14, 55] ?_; dsimp only [H.keep, H.look, H.Fr.put, Nat.beq]) | (refine Gt.move ?_; refine RW.y (Y.move rfl) rfl ?_) | (refine Gt.assign ?_; refine RW.y (Y.assign rfl) rfl ?_) | (refine Gt.add ?_; refine RW.y (Y.add64 rfl rfl (by omega) (by omega)) rfl ?_))
          exact ⟨N.length - (i + 1), _, rfl, rfl, rfl, by omega, i + 1, rfl, rfl, by omega, hst (by simp at hb1 hb2 hb3; simp [keyP, hb1, hb2, hb3]), hkr.trans0 hS⟩
  · have hi : i = N.length := by omega
    subst hi
    repeat' (first | (refine CL.seq ?_) | (refine CL.region ?_) | (refine CL.condP rfl (fun _ => ?_) (fun _ => ?_) <;> try (exfalso; omega)) | (refine CL.exit ?_) | (refine Ex.then ?_) | (refine Ex.hit ?_) | (refine CL.ret ?_) | (refine Gt.nil ?_; refine RW.nilw [0, 1, 4, 5, 10, 14, 55] ?_; dsimp only [H.keep, H.look, H.Fr.put, Nat.beq]) | (refine Gt.move ?_; refine RW.y (Y.move rfl) rfl ?_) | (refine Gt.assign ?_; refine RW.y (Y.assign rfl) rfl ?_) | (refine Gt.len ?_; (refine RW.y (Y.lenx rfl (by assumption)) rfl ?_)) | (refine Gt.lss ?_; refine RW.y (Y.lss rfl rfl) rfl ?_))
    exact FQ.one rfl rfl rfl ⟨hkr, by rw [List.take_of_length_le (by omega), List.take_of_length_le (by omega)] at hsm; rw [sameP, decide_eq_true hsm]⟩
end Go.Proofs.YtggodknolmdegaaGreatDoor.Lk

namespace Go.Proofs.YtggodknolmdegaaGreatDoor.H
open Go.RowKit
section
variable {P : Program} {ops : Array Oper} {Q : Exit → Act → World → Prop} {md : Region.Mode} {S : World → Prop} {Z : Nat → Bool}
theorem wpAnyL_firstU {C : Nat → Prop} {i : Nat} {oi : Oper} {v : Value} (hi : ops[i]? = some oi) (hsel : ∀ (j : Nat) (o : Oper) cs b, ops[j]? = some o → o.op ≠ .select cs b)
    (hQ : ∀ c a w, Q (.panic c) (a.put oi.dst v) w → Q (.panic c) a w) :
    ∀ (fuel : Nat) (listed : Array Bool) (a : Act) (w : World),
      (∀ j oj, ops[j]? = some oj → j ≠ i → listed.getD j true = false → (∀ e ∈ oj.after, Region.binds md e = true → e.on ≠ i) → oi.apart ops oj = true) →
      (∀ j, C j → j ≠ i ∧ listed.getD j true = false ∧ ∃ oj, ops[j]? = some oj ∧ ∃ e ∈ oj.after, Region.binds md e = true ∧ (e.on = i ∨ C e.on)) →
      (∀ j oj, ops[j]? = some oj → Z j = true → listed.getD j true = false → j ≠ i → C j) →
      i ∈ Region.ready md ops listed → YieldsIf P ops S oi v a → S w →
      wpAnyL P md ops Q S Z fuel (listed.setIfInBounds i true) (a.put oi.dst v) w → wpAnyL P md ops Q S Z (fuel + 1) listed a w := by
  intro fuel
  induction fuel with
  | zero =>
    intro listed a w _ _ _ hr hy hS H
    refine ⟨fun h => (by rw [h] at hr; cases hr), fun j hj => ?_⟩
    by_cases hji : j = i
    · subst hji; exact hy.wpOp hi hS ⟨fun _ => hS, H⟩
    · have := ready_mono hj hji
      rw [H.1] at this
      cases this
  | succ fuel ih =>
    intro listed a w hfree hwait hzc hr hy hS H
    refine ⟨fun h => (by rw [h] at hr; cases hr), fun j hj => ?_⟩
    by_cases hji : j = i
    · subst hji; exact hy.wpOp hi hS ⟨fun _ => hS, H⟩
    · have h1 := H.2 j (ready_mono hj hji)
      obtain ⟨hjun, oj, hoj, hall⟩ := mem_ready.1 hj
      have hnot : ∀ e ∈ oj.after, Region.binds md e = true → e.on ≠ i := fun e he hb heq => by
        have h1 := hall e he hb
        have h0 := (mem_ready.1 hr).1
        rw [heq] at h1
        rcases Nat.lt_or_ge i listed.size with h' | h'
        · simp [h'] at h0 h1; rw [h0] at h1; cases h1
        · simp [Array.getElem?_eq_none h'] at h1
      have hlisted : ∀ e ∈ oj.after, Region.binds md e = true → listed.getD e.on true = true := fun e he hb => by
        have h1 := hall e he hb
        rcases Nat.lt_or_ge e.on listed.size with h' | h'
        · simp [h'] at h1 ⊢; exact h1
        · simp [Array.getD, Nat.not_lt.2 h']
      have hcj : ¬ C j := fun hc => by
        obtain ⟨_, _, oj', hoj', e, he, hb, ho⟩ := hwait j hc
        rw [hoj] at hoj'
        cases hoj'
        rcases ho with ho | ho
        · exact hnot e he hb ho
        · have := (hwait e.on ho).2.1
          rw [hlisted e he hb] at this
          cases this
      have hz : Z j = false := by
        cases hzj : Z j with
        | false => rfl
        | true => exact absurd (hzc j oj hoj hzj hjun hji) hcj
      have h2 := wpOp_putIf hoj (hfree j oj hoj hji hjun hnot) (fun cs b => hsel i oi cs b hi) (fun cs b => hsel j oj cs b hoj) hQ hy h1
      have hun' : ∀ k, (listed.setIfInBounds j true).getD k true = false → listed.getD k true = false := fun k hun => by
        by_cases hjk : j = k
        · subst hjk; exact hjun
        · rw [getD_set_ne true hjk] at hun; exact hun
      refine wpOp_mono (fun a' w' h3 => ⟨h3.2.1, ih (listed.setIfInBounds j true) a' w' (fun k ok hk hki hun => hfree k ok hk hki (hun' k hun)) (fun k hk => ⟨(hwait k hk).1, by rw [getD_set_ne true (fun (h : j = k) => hcj (by rw [h]; exact hk))]; exact (hwait k hk).2.1, (hwait k hk).2.2⟩) (fun k ok hk hz hun => hzc k ok hk hz (hun' k hun)) (ready_mono hr (Ne.symm hji)) h3.1 (h3.2.1 hz) ?_⟩) h2
      rw [Array.setIfInBounds_comm _ _ hji]
      exact h3.2.2
theorem wpAnyL_firstP {i : Nat} {oi : Oper} {v : Value} (hi : ops[i]? = some oi) (hzi : Z i = true) (hsel : ∀ (j : Nat) (o : Oper) cs b, ops[j]? = some o → o.op ≠ .select cs b)
    (hQ : ∀ c a w, Q (.panic c) (a.put oi.dst v) w → Q (.panic c) a w) :
    ∀ (fuel : Nat) (listed : Array Bool) (a : Act) (w : World),
      (∀ j oj, ops[j]? = some oj → j ≠ i → listed.getD j true = false → (∀ e ∈ oj.after, Region.binds md e = true → e.on ≠ i) → oi.apart ops oj = true) →
      i ∈ Region.ready md ops listed → YieldsIf P ops (fun _ => True) oi v a →
      wpAnyL P md ops Q S Z fuel (listed.setIfInBounds i true) (a.put oi.dst v) w → wpAnyL P md ops Q S Z (fuel + 1) listed a w := by
  intro fuel
  induction fuel with
  | zero =>
    intro listed a w _ hr hy H
    refine ⟨fun h => (by rw [h] at hr; cases hr), fun j hj => ?_⟩
    by_cases hji : j = i
    · subst hji; exact hy.wpOp hi trivial ⟨fun c => (by rw [hzi] at c; cases c), H⟩
    · have := ready_mono hj hji
      rw [H.1] at this
      cases this
  | succ fuel ih =>
    intro listed a w hfree hr hy H
    refine ⟨fun h => (by rw [h] at hr; cases hr), fun j hj => ?_⟩
    by_cases hji : j = i
    · subst hji; exact hy.wpOp hi trivial ⟨fun c => (by rw [hzi] at c; cases c), H⟩
    · have h1 := H.2 j (ready_mono hj hji)
      obtain ⟨hjun, oj, hoj, hall⟩ := mem_ready.1 hj
      have hnot : ∀ e ∈ oj.after, Region.binds md e = true → e.on ≠ i := fun e he hb heq => by
        have h1 := hall e he hb
        have h0 := (mem_ready.1 hr).1
        rw [heq] at h1
        rcases Nat.lt_or_ge i listed.size with h' | h'
        · simp [h'] at h0 h1; rw [h0] at h1; cases h1
        · simp [Array.getElem?_eq_none h'] at h1
      have h2 := wpOp_putIf hoj (hfree j oj hoj hji hjun hnot) (fun cs b => hsel i oi cs b hi) (fun cs b => hsel j oj cs b hoj) hQ hy h1
      have hun' : ∀ k, (listed.setIfInBounds j true).getD k true = false → listed.getD k true = false := fun k hun => by
        by_cases hjk : j = k
        · subst hjk; exact hjun
        · rw [getD_set_ne true hjk] at hun; exact hun
      refine wpOp_mono (fun a' w' h3 => ⟨h3.2.1, ih (listed.setIfInBounds j true) a' w' (fun k ok hk hki hun => hfree k ok hk hki (hun' k hun)) (ready_mono hr (Ne.symm hji)) h3.1 ?_⟩) h2
      rw [Array.setIfInBounds_comm _ _ hji]
      exact h3.2.2
/-- The writes that are left wait for number i, each one or by others of C. -/
def waitsU (ops : Array Oper) (Z : Nat → Bool) (l : Array Bool) (C : List Nat) (i : Nat) : Bool :=
  C.all (fun j => !(Nat.beq j i) && !(l.getD j true) && (match ops[j]? with | some o => o.after.any (fun e => Region.binds .any e && (Nat.beq e.on i || C.any (Nat.beq e.on))) | none => false)) && (List.range ops.size).all (fun j => !Z j || l.getD j true || Nat.beq j i || C.any (Nat.beq j))
theorem waitsU_spec {l : Array Bool} {C : List Nat} {i : Nat} (h : waitsU ops Z l C i = true) : (∀ j, j ∈ C → j ≠ i ∧ l.getD j true = false ∧ ∃ oj, ops[j]? = some oj ∧ ∃ e ∈ oj.after, Region.binds .any e = true ∧ (e.on = i ∨ e.on ∈ C)) ∧ (∀ j oj, ops[j]? = some oj → Z j = true → l.getD j true = false → j ≠ i → j ∈ C) := by
  rw [waitsU, Bool.and_eq_true] at h
  obtain ⟨h1, h2⟩ := h
  refine ⟨fun j hj => ?_, fun j oj ho hz hun hne => ?_⟩
  · have h3 := List.all_eq_true.1 h1 j hj
    rw [Bool.and_eq_true, Bool.and_eq_true] at h3
    obtain ⟨⟨h3, h4⟩, h5⟩ := h3
    refine ⟨(fun c => by subst c; rw [beq_self] at h3; cases h3), by simpa using h4, ?_⟩
    cases ho : ops[j]? with
    | none => rw [ho] at h5; cases h5
    | some oj =>
      rw [ho] at h5
      simp only [Array.any_eq_true'] at h5
      obtain ⟨e, he, h6⟩ := h5
      rw [Bool.and_eq_true, Bool.or_eq_true] at h6
      exact ⟨oj, rfl, e, he, h6.1, h6.2.imp Nat.eq_of_beq_eq_true any_beq⟩
  · have h3 := List.all_eq_true.1 h2 j (List.mem_range.2 (Array.getElem?_eq_some_iff.1 ho).1)
    rw [Bool.or_eq_true, Bool.or_eq_true, Bool.or_eq_true] at h3
    rcases h3 with ((h3 | h3) | h3) | h3
    · rw [hz] at h3; cases h3
    · rw [hun] at h3; cases h3
    · exact absurd (Nat.eq_of_beq_eq_true h3) hne
    · exact any_beq h3
end
section
variable {P : Program} {ops : Array Oper} {Q : Post} {f : Fr} {w : World} {S : World → Prop} {Z : Nat → Bool}
theorem AP.takeY (i : Nat) (C : List Nat) {o : Oper} {d : Option Nat} {v : Value} {n : Nat} {l : Array Bool} (hi : ops[i]? = some o) (hz : waitsU ops Z l C i = true) (hs : Region.noSelect ops = true) (hf : Region.free .any ops l i = true) (hr : (Region.ready .any ops l).contains i = true)
    [PI Q] (hS : S w) {a : Act} (hy : YieldsIf P ops S o v a) (k : wpAnyL P .any ops (lift Q) S Z n (l.setIfInBounds i true) (a.put o.dst v) w) : wpAnyL P .any ops (lift Q) S Z (n + 1) l a w :=
  wpAnyL_firstU (C := (· ∈ C)) hi (Region.noSelect_spec hs) (PI.lift _ _) n l a w (Region.free_spec hi hf) (waitsU_spec hz).1 (waitsU_spec hz).2 (by simpa using hr) hy hS k
theorem AP.take (i : Nat) (C : List Nat) {op : Op} {ty : TypeId} {pos : String} {af : Array Edge} {d : Nat} {v : Value} {n : Nat} {l : Array Bool} (hi : ops[i]? = some { dst := some d, op := op, type := ty, pos := pos, after := af, guard := none }) (hs : Region.noSelect ops = true) (hf : Region.free .any ops l i = true) (hr : (Region.ready .any ops l).contains i = true) (hz : waitsU ops Z l C i = true)
    [PI Q] (hd : Nat.blt d f.n = true) (hS : S w) (hy : ∀ w, S w → Yd P f { dst := some d, op := op, type := ty, pos := pos, after := af, guard := none } v w) (k : AL P ops Q S Z n (l.setIfInBounds i true) (f.put d v) w) : AL P ops Q S Z (n + 1) l f w := by
  intro a ha
  exact AP.takeY (d := some d) i C hi hz hs hf hr hS (.inl ⟨by simp [Region.wanted], fun w' hw' => hy w' hw' a ha⟩) (k _ (ha.put v hd))
theorem AP.takeOn (i : Nat) (C : List Nat) {op : Op} {ty : TypeId} {pos : String} {af : Array Edge} {d j t : Nat} {b : Bool} {v : Value} {n : Nat} {l : Array Bool} (hi : ops[i]? = some { dst := some d, op := op, type := ty, pos := pos, after := af, guard := some (j, b) }) (hs : Region.noSelect ops = true) (hf : Region.free .any ops l i = true) (hr : (Region.ready .any ops l).contains i = true) (hz : waitsU ops Z l C i = true)
    [PI Q] (hj : (ops[j]?).bind (·.dst) = some t) (hn : Nat.blt t f.n = true) (hv : look f.e t = some (.bool b)) (hd : Nat.blt d f.n = true) (hS : S w) (hy : ∀ w, S w → Yd P f { dst := some d, op := op, type := ty, pos := pos, after := af, guard := none } v w) (k : AL P ops Q S Z n (l.setIfInBounds i true) (f.put d v) w) : AL P ops Q S Z (n + 1) l f w := by
  intro a ha
  exact AP.takeY (d := some d) i C hi hz hs hf hr hS (.inl ⟨by simp [Region.wanted, yields ha hj hn hv], fun w' hw' => hy w' hw' a ha⟩) (k _ (ha.put v hd))
theorem AP.takeOff (i : Nat) (C : List Nat) {op : Op} {ty : TypeId} {pos : String} {af : Array Edge} {d j t : Nat} {b c : Bool} {n : Nat} {l : Array Bool} (hi : ops[i]? = some { dst := some d, op := op, type := ty, pos := pos, after := af, guard := some (j, b) }) (hs : Region.noSelect ops = true) (hf : Region.free .any ops l i = true) (hr : (Region.ready .any ops l).contains i = true) (hz : waitsU ops Z l C i = true)
    [PI Q] (hj : (ops[j]?).bind (·.dst) = some t) (hn : Nat.blt t f.n = true) (hv : look f.e t = some (.bool c)) (hbc : (!c) = b) (hd : Nat.blt d f.n = true) (hS : S w) (k : AL P ops Q S Z n (l.setIfInBounds i true) (f.put d undef) w) : AL P ops Q S Z (n + 1) l f w := by
  intro a ha
  subst hbc
  exact AP.takeY (d := some d) i C hi hz hs hf hr hS (.inr ⟨by cases c <;> simp [Region.wanted, yields ha hj hn hv], rfl⟩) (k _ (ha.put undef hd))
theorem AP.takeOffU (i : Nat) (C : List Nat) {op : Op} {ty : TypeId} {pos : String} {af : Array Edge} {d j t : Nat} {b : Bool} {n : Nat} {l : Array Bool} (hi : ops[i]? = some { dst := some d, op := op, type := ty, pos := pos, after := af, guard := some (j, b) }) (hs : Region.noSelect ops = true) (hf : Region.free .any ops l i = true) (hr : (Region.ready .any ops l).contains i = true) (hz : waitsU ops Z l C i = true)
    [PI Q] (hj : (ops[j]?).bind (·.dst) = some t) (hn : Nat.blt t f.n = true) (hv : look f.e t = some undef) (hd : Nat.blt d f.n = true) (hS : S w) (k : AL P ops Q S Z n (l.setIfInBounds i true) (f.put d undef) w) : AL P ops Q S Z (n + 1) l f w := by
  intro a ha
  exact AP.takeY (d := some d) i C hi hz hs hf hr hS (.inr ⟨by cases b <;> simp [Region.wanted, yieldsU ha hj hn hv], rfl⟩) (k _ (ha.put undef hd))
/-- One that yields its value in every world: it may be done at any time. -/
theorem AP.pure (i : Nat) {op : Op} {ty : TypeId} {pos : String} {af : Array Edge} {d : Nat} {v : Value} {n : Nat} {l : Array Bool} (hi : ops[i]? = some { dst := some d, op := op, type := ty, pos := pos, after := af, guard := none }) (hs : Region.noSelect ops = true) (hf : Region.free .any ops l i = true) (hr : (Region.ready .any ops l).contains i = true) (hz : Z i = true)
    [PI Q] (hd : Nat.blt d f.n = true) (hy : ∀ w, Yd P f { dst := some d, op := op, type := ty, pos := pos, after := af, guard := none } v w) (k : AL P ops Q S Z n (l.setIfInBounds i true) (f.put d v) w) : AL P ops Q S Z (n + 1) l f w := by
  intro a ha
  exact wpAnyL_firstP hi hz (Region.noSelect_spec hs) (PI.lift _ _) n l a w (Region.free_spec hi hf) (by simpa using hr) (.inl ⟨by simp [Region.wanted], fun w' _ => hy w' a ha⟩) (k _ (ha.put v hd))
end
section
variable {M : Option (Option Nat)} {P : Program} {ops : Array Oper} {Q : Post} {rest : List Oper} {f : Fr} {w : World} {ty : TypeId} {pos : String} {af : Array Edge}
theorem set_flat {α : Type} {enc : α → List Value} {sz : Nat} (he : ∀ x, (enc x).length = sz) (L : List α) (i : Nat) (hi : i < L.length) (u : α) : (L.flatMap enc).take (i * sz) ++ enc u ++ (L.flatMap enc).drop (i * sz + sz) = (L.set i u).flatMap enc := by
  rw [← Nat.succ_mul, cells_take he, cells_drop he, List.set_eq_take_append_cons_drop, if_pos hi, List.flatMap_append, List.flatMap_cons, List.append_assoc]
/-- An element of several cells of a row of the call's own is written. -/
theorem RW.putEl {α : Type} (K : Dp α) {t e : TypeId} [hm : Many P t K.sz] {x y : Operand} {g base n cap i : Nat} {L : List α} {u : α} (hx : f.ev x = some (.pointer (some ⟨g, i * K.sz, none⟩))) (hy : f.ev y = some (.agg (K.enc u).toArray))
    (how : w.ownsRow base e K.sz (.slice (some ⟨g, 0, none⟩) n cap) n (L.flatMap K.enc)) (hn : n = L.length) (hi : i < n) (h1 : ∀ z ∈ K.enc u, z.oneCell' = true)
    (k : ∀ w', w'.ownsRow base e K.sz (.slice (some ⟨g, 0, none⟩) n cap) n ((L.set i u).flatMap K.enc) → Kept (fun k => k = g) w w' → RW M P ops Q rest f w') : RW M P ops Q (op0 (.store t x y) ty pos af :: rest) f w := by
  have how' := how
  obtain ⟨hl, h | ⟨g', cap', cur, hv, hB, hg, hnc, hmm, hs, ht⟩⟩ := how'
  · cases h.1
  · cases hv
    have hle : i * K.sz + K.sz ≤ cur.size := by
      rw [hs, ← Nat.succ_mul]; exact Nat.mul_le_mul_right _ (by omega)
    refine RW.storeN (n := K.sz) (fun w => hm.size w) hx hy (by show (K.enc u).toArray.size = _; rw [List.size_toArray, K.len]) (fun z hz => h1 z (by simpa [Value.cells] using hz)) hg hle (fun w' hb hk => k w' ?_ hk)
    have := own_put how hg hi (K.len u) (by simpa [Value.cells] using hb)
    rwa [set_flat K.len L i (by omega) u] at this
end
end Go.Proofs.YtggodknolmdegaaGreatDoor.H

namespace Go.Proofs.YtggodknolmdegaaGreatDoor.Lk
open Go.RowKit H S Ve
open Go
section
variable {α : Type} (nm : α → T)
def insN (p : α) : List α → List α
  | [] => [p]
  | q :: r => if ltT (nm p) (nm q) = true then p :: q :: r else q :: insN p r
def sortN (l : List α) : List α := l.foldl (fun acc p => insN nm p acc) []
def SrtN (l : List α) : Prop := l.Pairwise fun a b => ltT (nm b) (nm a) = false
theorem insN_mem (p : α) : ∀ (l : List α) (q : α), q ∈ insN nm p l ↔ q = p ∨ q ∈ l
  | [], q => by simp [insN]
  | a :: r, q => by
    rw [insN]
    split
    · simp
    · rw [List.mem_cons, insN_mem p r q, List.mem_cons]
      constructor
      · rintro (h | h | h) <;> simp [h]
      · rintro (h | h | h) <;> simp [h]
theorem insN_len (p : α) : ∀ l : List α, (insN nm p l).length = l.length + 1
  | [] => rfl
  | a :: r => by
    rw [insN]
    split
    · rfl
    · rw [List.length_cons, insN_len p r, List.length_cons]
theorem insN_srt (p : α) : ∀ l : List α, SrtN nm l → SrtN nm (insN nm p l)
  | [], _ => by simp [insN, SrtN]
  | a :: r, h => by
    have h' := List.pairwise_cons.1 h
    rw [insN]
    split
    · rename_i hlt
      refine List.pairwise_cons.2 ⟨fun q hq => ?_, h⟩
      rcases List.mem_cons.1 hq with rfl | hq
      · exact ltT_asym hlt
      · have h1 := h'.1 q hq
        cases hc : ltT (nm q) (nm p) with
        | false => rfl
        | true => rw [ltT_trans _ _ _ hc hlt] at h1; cases h1
    · rename_i hn
      refine List.pairwise_cons.2 ⟨fun q hq => ?_, insN_srt p r h'.2⟩
      rcases (insN_mem nm p r q).1 hq with rfl | hq
      · simpa using hn
      · exact h'.1 q hq
theorem foldN : ∀ (l acc : List α), SrtN nm acc → SrtN nm (l.foldl (fun acc p => insN nm p acc) acc) ∧ (l.foldl (fun acc p => insN nm p acc) acc).length = acc.length + l.length ∧ ∀ q, q ∈ l.foldl (fun acc p => insN nm p acc) acc ↔ q ∈ acc ∨ q ∈ l
  | [], acc, h => by simp [h]
  | p :: r, acc, h => by
    obtain ⟨h1, h2, h3⟩ := foldN r (insN nm p acc) (insN_srt nm p acc h)
    refine ⟨h1, by rw [List.foldl_cons, h2, insN_len, List.length_cons]; omega, fun q => ?_⟩
    rw [List.foldl_cons, h3, insN_mem, List.mem_cons]
    constructor
    · rintro ((h | h) | h) <;> simp [h]
    · rintro (h | h | h) <;> simp [h]
theorem sortN_srt (l : List α) : SrtN nm (sortN nm l) := (foldN nm l [] (by simp [SrtN])).1
theorem sortN_len (l : List α) : (sortN nm l).length = l.length := by have := (foldN nm l [] (by simp [SrtN])).2.1; simpa [sortN] using this
theorem sortN_mem (l : List α) (q : α) : q ∈ sortN nm l ↔ q ∈ l := by have := (foldN nm l [] (by simp [SrtN])).2.2 q; simpa [sortN] using this
theorem sortN_snoc (l : List α) (p : α) : sortN nm (l ++ [p]) = insN nm p (sortN nm l) := by simp [sortN]
theorem insN_end (p : α) : ∀ l : List α, (∀ q ∈ l, ltT (nm p) (nm q) = false) → insN nm p l = l ++ [p]
  | [], _ => rfl
  | a :: r, h => by
    rw [insN, if_neg (by rw [h a (by simp)]; simp), insN_end p r fun q hq => h q (by simp [hq])]; rfl
theorem insN_at (p : α) (b : List α) (hb : ∀ q r, b = q :: r → ltT (nm p) (nm q) = true) : ∀ a : List α, (∀ q ∈ a, ltT (nm p) (nm q) = false) → insN nm p (a ++ b) = a ++ p :: b
  | [], _ => by
    cases b with
    | nil => rfl
    | cons q r => rw [List.nil_append, insN, if_pos (hb q r rfl)]; rfl
  | x :: a, h => by
    rw [List.cons_append, insN, if_neg (by rw [h x (by simp)]; simp), insN_at p b hb a fun q hq => h q (by simp [hq])]; rfl
theorem srtN_last {p q : α} {a : List α} (h : SrtN nm (a ++ [q])) (hq : ltT (nm p) (nm q) = false) : ∀ z ∈ a ++ [q], ltT (nm p) (nm z) = false := by
  intro z hz
  rcases List.mem_append.1 hz with hz | hz
  · have h1 := (List.pairwise_append.1 h).2.2 z hz q (by simp)
    cases hc : ltT (nm p) (nm z) with
    | false => rfl
    | true =>
      rcases ht : ltT (nm z) (nm q) with _ | _
      · have he := ltT_tri _ _ ht h1
        rw [he, hq] at hc; cases hc
      · rw [ltT_trans _ _ _ hc ht] at hq; cases hq
  · rw [List.mem_singleton.1 hz]; exact hq
/-- Where a search from the end stops: what is put in there. -/
theorem insN_stop (d : α) (p : α) (A : List α) (hs : SrtN nm A) (a : Nat) (ha : a ≤ A.length) (h1 : ∀ q ∈ A.drop a, ltT (nm p) (nm q) = true) (h2 : a = 0 ∨ ltT (nm p) (nm (A.getD (a - 1) d)) = false) : insN nm p A = A.take a ++ p :: A.drop a := by
  have h := insN_at nm p (A.drop a) (fun q r e => h1 q (by rw [e]; simp)) (A.take a) ?_
  · rwa [List.take_append_drop] at h
  · rcases Nat.eq_zero_or_pos a with h0 | h0
    · subst h0; intro q hq; simp at hq
    · have h3 := h2.resolve_left (by omega)
      have e := take_last d A a h0 ha
      rw [e]
      refine srtN_last nm (a := A.take (a - 1)) ?_ h3
      rw [← e]
      have hs' : SrtN nm (A.take a ++ A.drop a) := by rw [List.take_append_drop]; exact hs
      exact (List.pairwise_append.1 hs').1
theorem sortN_from : ∀ (l acc : List α), SrtN nm (acc ++ l) → l.foldl (fun acc p => insN nm p acc) acc = acc ++ l
  | [], acc, _ => by simp
  | p :: r, acc, h => by
    rw [List.foldl_cons, insN_end nm p acc fun q hq => (List.pairwise_append.1 h).2.2 q hq p (by simp)]
    have := sortN_from r (acc ++ [p]) (by rw [List.append_assoc]; exact h)
    rw [this, List.append_assoc]; rfl
theorem sortN_same {l : List α} (h : SrtN nm l) : sortN nm l = l := sortN_from nm l [] h
end
theorem insN_map {α β : Type} (nm : β → T) (f : α → β) (p : α) : ∀ l : List α, (insN (fun x => nm (f x)) p l).map f = insN nm (f p) (l.map f)
  | [] => rfl
  | a :: r => by
    rw [insN, List.map_cons, insN]
    split
    · rfl
    · rw [List.map_cons, insN_map nm f p r]
theorem foldN_map {α β : Type} (nm : β → T) (f : α → β) : ∀ (l acc : List α), (l.foldl (fun acc p => insN (fun x => nm (f x)) p acc) acc).map f = (l.map f).foldl (fun acc p => insN nm p acc) (acc.map f)
  | [], _ => rfl
  | p :: r, acc => by rw [List.foldl_cons, foldN_map nm f r, insN_map, List.map_cons, List.foldl_cons]
theorem sortN_map {α β : Type} (nm : β → T) (f : α → β) (l : List α) : (sortN (fun x => nm (f x)) l).map f = sortN nm (l.map f) := foldN_map nm f l []
theorem insN_insP (p : Pn) : ∀ l : List Pn, insN (·.name) p l = insP p l
  | [] => rfl
  | a :: r => by rw [insN, insP, insN_insP p r]
theorem sortN_sortP (l : List Pn) : sortN (·.name) l = sortP l := by
  have : (fun (acc : List Pn) p => insN (·.name) p acc) = fun acc p => insP p acc := by funext acc p; exact insN_insP p acc
  rw [sortN, this]; rfl
/-- A list whose part from a up to i is in order. -/
def segN {α : Type} (nm : α → T) (X : List α) (a i : Nat) : List α := X.take a ++ sortN nm ((X.take i).drop a) ++ X.drop i
theorem segN_len {α : Type} (nm : α → T) (X : List α) (a i : Nat) (ha : a ≤ i) (hi : i ≤ X.length) : (segN nm X a i).length = X.length := by
  rw [segN, List.length_append, List.length_append, sortN_len, List.length_take, List.length_drop, List.length_take, List.length_drop]; omega
theorem segN_mem {α : Type} (nm : α → T) (X : List α) (a i : Nat) (ha : a ≤ i) (q : α) (h : q ∈ segN nm X a i) : q ∈ X := by
  rw [segN, List.mem_append, List.mem_append, sortN_mem] at h
  rcases h with (h | h) | h
  · exact List.mem_of_mem_take h
  · exact List.mem_of_mem_take (List.mem_of_mem_drop h)
  · exact List.mem_of_mem_drop h
theorem segN_all {α : Type} (nm : α → T) (X : List α) : segN nm X 0 X.length = sortN nm X := by simp [segN]
theorem segN_same {α : Type} (nm : α → T) (X : List α) (a i : Nat) (ha : a ≤ i) (h : SrtN nm X) : segN nm X a i = X := by
  have h1 : SrtN nm ((X.take i).drop a) := List.Pairwise.sublist ((List.drop_sublist _ _).trans (List.take_sublist _ _)) h
  rw [segN, sortN_same nm h1]
  have : X.take a = (X.take i).take a := by rw [List.take_take, Nat.min_eq_left ha]
  rw [this, List.take_append_drop, List.take_append_drop]
/-- The pin that is on its way to its place. -/
def wayN {α : Type} (nm : α → T) (d : α) (X : List α) (a i j : Nat) : List α := X.take a ++ (sortN nm ((X.take i).drop a)).take (j - a) ++ X.getD i d :: ((sortN nm ((X.take i).drop a)).drop (j - a) ++ X.drop (i + 1))
theorem cut_take_drop {α : Type} (X : List α) (a i : Nat) (hi : i ≤ X.length) : ((X.take i).drop a).length = i - a := by rw [List.length_drop, List.length_take]; omega
theorem wayN_first {α : Type} (nm : α → T) (d : α) (X : List α) (a i : Nat) (ha : a ≤ i) (hi : i < X.length) : segN nm X a i = wayN nm d X a i i := by
  have hl := sortN_len nm ((X.take i).drop a)
  rw [cut_take_drop X a i (by omega)] at hl
  rw [segN, wayN, List.take_of_length_le (l := sortN nm _) (by omega), List.drop_of_length_le (l := sortN nm _) (by omega), List.nil_append]
  congr 1
  rw [List.drop_eq_getElem_cons hi, List.getD_eq_getElem?_getD, List.getElem?_eq_getElem hi]; rfl
theorem wayN_last {α : Type} (nm : α → T) (d : α) (X : List α) (a i j : Nat) (ha : a ≤ j) (hj : j ≤ i) (hi : i < X.length) (h1 : ∀ q ∈ (sortN nm ((X.take i).drop a)).drop (j - a), ltT (nm (X.getD i d)) (nm q) = true) (h2 : j = a ∨ ltT (nm (X.getD i d)) (nm ((sortN nm ((X.take i).drop a)).getD (j - a - 1) d)) = false) : wayN nm d X a i j = segN nm X a (i + 1) := by
  have hl := sortN_len nm ((X.take i).drop a)
  rw [cut_take_drop X a i (by omega)] at hl
  have hs := insN_stop nm d (X.getD i d) _ (sortN_srt nm ((X.take i).drop a)) (j - a) (by omega) h1 (h2.imp (fun c => by omega) id)
  have hx : (X.take (i + 1)).drop a = (X.take i).drop a ++ [X.getD i d] := by
    rw [take_snoc d X i hi, List.drop_append_of_le_length (by rw [List.length_take]; omega)]
  rw [segN, hx, sortN_snoc, hs, wayN]
  simp only [List.append_assoc, List.cons_append]
theorem wayN_len {α : Type} (nm : α → T) (d : α) (X : List α) (a i j : Nat) (ha : a ≤ j) (hj : j ≤ i) (hi : i < X.length) : (wayN nm d X a i j).length = X.length := by
  have hl := sortN_len nm ((X.take i).drop a)
  rw [cut_take_drop X a i (by omega)] at hl
  simp only [wayN, List.length_append, List.length_cons, List.length_take, List.length_drop, hl]; omega
theorem wayN_at {α : Type} (nm : α → T) (d : α) (X : List α) (a i j : Nat) (ha : a ≤ j) (hj : j ≤ i) (hi : i < X.length) : (wayN nm d X a i j).getD j d = X.getD i d := by
  have hl := sortN_len nm ((X.take i).drop a)
  rw [cut_take_drop X a i (by omega)] at hl
  have hp : (X.take a ++ (sortN nm ((X.take i).drop a)).take (j - a)).length = j := by rw [List.length_append, List.length_take, List.length_take, hl]; omega
  rw [wayN, List.getD_eq_getElem?_getD, List.getElem?_append_right (by omega), hp, Nat.sub_self]; rfl
theorem wayN_prev {α : Type} (nm : α → T) (d : α) (X : List α) (a i j : Nat) (ha : a < j) (hj : j ≤ i) (hi : i < X.length) : (wayN nm d X a i j).getD (j - 1) d = (sortN nm ((X.take i).drop a)).getD (j - a - 1) d := by
  have hl := sortN_len nm ((X.take i).drop a)
  rw [cut_take_drop X a i (by omega)] at hl
  have hp : (X.take a).length = a := by rw [List.length_take]; omega
  have hq : ((sortN nm ((X.take i).drop a)).take (j - a)).length = j - a := by rw [List.length_take, hl]; omega
  rw [wayN, List.getD_eq_getElem?_getD, List.getElem?_append_left (by rw [List.length_append]; omega), List.getElem?_append_right (by omega), hp, List.getElem?_take, if_pos (by omega), show j - 1 - a = j - a - 1 from by omega, List.getD_eq_getElem?_getD]
theorem wayN_swap {α : Type} (nm : α → T) (d : α) (X : List α) (a i j : Nat) (ha : a < j) (hj : j ≤ i) (hi : i < X.length) : ((wayN nm d X a i j).set j ((wayN nm d X a i j).getD (j - 1) d)).set (j - 1) ((wayN nm d X a i j).getD j d) = wayN nm d X a i (j - 1) := by
  have hl := sortN_len nm ((X.take i).drop a)
  rw [cut_take_drop X a i (by omega)] at hl
  rw [wayN_at nm d X a i j (by omega) hj hi, wayN_prev nm d X a i j ha hj hi]
  generalize hS : sortN nm ((X.take i).drop a) = Sg at *
  have hp : (X.take a).length = a := by rw [List.length_take]; omega
  have ht : Sg.take (j - a) = Sg.take (j - a - 1) ++ [Sg.getD (j - a - 1) d] := take_last d Sg (j - a) (by omega) (by omega)
  have hd : Sg.drop (j - a - 1) = Sg.getD (j - a - 1) d :: Sg.drop (j - a) := by
    rw [List.drop_eq_getElem_cons (by omega), List.getD_eq_getElem?_getD, List.getElem?_eq_getElem (by omega), show j - a - 1 + 1 = j - a from by omega]; rfl
  rw [wayN, wayN, hS, ht, show j - 1 - a = j - a - 1 from by omega, hd]
  generalize hs : Sg.getD (j - a - 1) d = s at *
  generalize hx : X.getD i d = x at *
  have hA : (X.take a ++ Sg.take (j - a - 1)).length = j - 1 := by rw [List.length_append, hp, List.length_take]; omega
  have e1 : X.take a ++ (Sg.take (j - a - 1) ++ [s]) ++ x :: (Sg.drop (j - a) ++ X.drop (i + 1)) = (X.take a ++ Sg.take (j - a - 1)) ++ s :: x :: (Sg.drop (j - a) ++ X.drop (i + 1)) := by simp
  rw [e1]
  generalize X.take a ++ Sg.take (j - a - 1) = A at *
  generalize X.drop (i + 1) = D at *
  rw [List.set_append_right _ _ (by omega), hA, show j - (j - 1) = 1 from by omega, List.set_cons_succ, List.set_cons_zero, List.set_append_right _ _ (by omega), hA, Nat.sub_self, List.set_cons_zero]
  rfl
theorem wayN_mem {α : Type} (nm : α → T) (d : α) (X : List α) (a i j : Nat) (hi : i < X.length) (q : α) (h : q ∈ wayN nm d X a i j) : q ∈ X := by
  rw [wayN, List.mem_append, List.mem_append, List.mem_cons, List.mem_append] at h
  rcases h with (h | h) | h | h | h
  · exact List.mem_of_mem_take h
  · exact List.mem_of_mem_take (List.mem_of_mem_drop ((sortN_mem nm _ q).1 (List.mem_of_mem_take h)))
  · rw [h]; exact getD_mem d hi
  · exact List.mem_of_mem_take (List.mem_of_mem_drop ((sortN_mem nm _ q).1 (List.mem_of_mem_drop h)))
  · exact List.mem_of_mem_drop h
theorem cmpT_lt (a b : T) : decide (cmpT a b < 0) = ltT a b := by
  show decide ((if ltT a b = true then (-1 : Int) else if a = b then 0 else 1) < 0) = ltT a b
  cases h : ltT a b
  · rw [if_neg (by simp)]; split <;> rfl
  · rw [if_pos rfl]; rfl
end Go.Proofs.YtggodknolmdegaaGreatDoor.Lk

namespace Go.Proofs.YtggodknolmdegaaGreatDoor.Lk
open Go.RowKit H S Ve
attribute [local irreducible] H.CL H.RW H.CW H.Yd H.thenK H.blockQ Go.Calls keyAt unhexB

def nmP (x : Pm) : T := x.d.name
theorem pinCmp (x y : Pm) (w : World) : Calls Tryz.prog 35 #[.agg (pmC x).toArray, .agg (pmC y).toArray] w fun e w' => K0 w w' ∧ e = .returned (.int .i64 (cmpT (nmP x) (nmP y))) := by
  refine H.enter Tryz.func35 Tryz.ntmps35 rfl rfl ?_; dsimp only [H.args]
  refine CL.seq ?_
  refine CL.region ?_
  refine RW.box rfl rfl (fun w1 hb1 hk1 hlt1 => ?_)
  refine RW.box rfl rfl (fun w2 hb2 hk2 hlt2 => ?_)
  have hb1' : w2.heap[w.heap.size]? = some (.cells (pmC x).toArray pmT (0, 0)) := hk2.at0 hb1
  have hb2' : w2.heap[w1.heap.size]? = some (.cells (pmC y).toArray pmT (0, 0)) := hb2
  clear hb1 hb2
  repeat' (first | (refine CL.seq ?_) | (refine CL.region ?_) | (refine Gt.nil ?_; refine RW.nilw [0, 1, 2, 3, 4] ?_; dsimp only [H.keep, H.look, H.Fr.put, Nat.beq]) | (refine Gt.assign ?_; refine RW.y (Y.assign rfl) rfl ?_) | (refine Gt.fieldAddr ?_; refine RW.y (Y.fieldAddr rfl (by rfl)) rfl ?_) | (refine Gt.load ?_; refine RW.y (Y.loadB rfl (by assumption) rfl) rfl ?_))
  refine RW.fn rfl rfl ((compareT _ _ w2).mono ?_)
  rintro e w3 ⟨rfl, rfl⟩
  repeat' (first | (refine CL.ret ?_) | (refine Gt.nil ?_; refine RW.nilw [0, 1, 2, 3, 4] ?_; dsimp only [H.keep, H.look, H.Fr.put, Nat.beq]) | (refine Gt.assign ?_; refine RW.y (Y.assign rfl) rfl ?_))
  exact FQ.one rfl rfl rfl ⟨hk1.trans0 hk2, rfl⟩
abbrev cmpV' : Value := .func (.func 35) #[] #[]

theorem segN_self (X : List Pm) (a : Nat) : segN nmP X a a = X := by
  have : (X.take a).drop a = [] := List.drop_of_length_le (by rw [List.length_take]; omega)
  rw [segN, this]; simp [sortN]
theorem segN_one (X : List Pm) (a : Nat) (h : a < X.length) : segN nmP X a (a + 1) = X := by
  have : (X.take (a + 1)).drop a = [X.getD a default] := by rw [take_snoc default X a h, List.drop_append_of_le_length (by rw [List.length_take]; omega), List.drop_of_length_le (by rw [List.length_take]; omega)]; rfl
  rw [segN, this]
  have h2 := take_snoc default X a h
  rw [show sortN nmP [X.getD a default] = [X.getD a default] from rfl, ← h2, List.take_append_drop]
theorem srt_drop (X : List Pm) (a i j : Nat) (ha : a < j) (hj : j ≤ i) (hi : i < X.length) {p : Pm} (h : ∀ q ∈ (sortN nmP ((X.take i).drop a)).drop (j - a), ltT (nmP p) (nmP q) = true) (h2 : ltT (nmP p) (nmP ((sortN nmP ((X.take i).drop a)).getD (j - a - 1) default)) = true) : ∀ q ∈ (sortN nmP ((X.take i).drop a)).drop (j - 1 - a), ltT (nmP p) (nmP q) = true := by
  have hl := sortN_len nmP ((X.take i).drop a)
  rw [cut_take_drop X a i (by omega)] at hl
  intro q hq
  rw [show j - 1 - a = j - a - 1 from by omega] at hq
  rcases drop_mem default (by omega) (by omega) hq with e | e
  · rw [e]; exact h2
  · exact h q e


theorem insertionP (B : Nat) (v : Value) (X : List Pm) (a b : Nat) (w : World) (how : w.ownsRow B pmT 37 v X.length (X.flatMap pmC)) (hD : ∀ x ∈ X, x.p.oneCell' = true) (hab : a ≤ b) (hb : b ≤ X.length) (hl : X.length ≤ 1000000) :
    Calls Tryz.prog 70 #[v, .int .i64 (a : Int), .int .i64 (b : Int), cmpV'] w fun e w' => e = .returned (.tuple #[]) ∧ w'.ownsRow B pmT 37 v X.length ((segN nmP X a b).flatMap pmC) ∧ Kept (fun k => v.ownBlock = some k) w w' := by
  refine H.enter Tryz.func70 Tryz.ntmps70 rfl rfl ?_; dsimp only [H.args]
  repeat' (first | (refine CL.seq ?_) | (refine CL.region ?_) | (refine CL.block ?_) | (refine Gt.nil ?_; refine RW.nilw [0, 1, 2, 3, 8, 9, 14, 34] ?_; dsimp only [H.keep, H.look, H.Fr.put, Nat.beq]) | (refine Gt.move ?_; refine RW.y (Y.move rfl) rfl ?_) | (refine Gt.assign ?_; refine RW.y (Y.assign rfl) rfl ?_) | (refine Gt.add ?_; refine RW.y (Y.add64 rfl rfl (by omega) (by omega)) rfl ?_))
  refine CL.loopS [0, 1, 2, 3, 8] (fun k vals wr => ∃ i : Nat, vals = [v, .int .i64 (a : Int), .int .i64 (b : Int), cmpV', .int .i64 (i : Int)] ∧ k = b - i ∧ a + 1 ≤ i ∧ (i ≤ b ∨ i = a + 1) ∧ wr.ownsRow B pmT 37 v X.length ((segN nmP X a (min i b)).flatMap pmC) ∧ Kept (fun k => v.ownBlock = some k) w wr) (b - (a + 1)) ⟨_, rfl, a + 1, rfl, rfl, Nat.le_refl _, .inr rfl, ?_, Kept.refl _ _⟩ ?_
  · rcases Nat.lt_or_ge a b with h | h
    · rw [Nat.min_eq_left (by omega), segN_one X a (by omega)]; exact how
    · rw [Nat.min_eq_right (by omega), show b = a from by omega, segN_self]; exact how
  rintro k vals wr ⟨i, rfl, rfl, hai, hib, howr, hkr⟩
  dsimp only [List.zip, List.zipWith]
  rcases Nat.lt_or_ge i b with hlt | hge
  · rw [Nat.min_eq_left (by omega), wayN_first nmP default X a i (by omega) (by omega)] at howr
    obtain ⟨g, cap, cur0, rfl, hg0, hc0, hBg⟩ := own_block how (by omega)
    repeat' (first | (refine CL.seq ?_) | (refine CL.region ?_) | (refine CL.skip ?_) | (refine CL.condP rfl (fun _ => ?_) (fun _ => ?_) <;> try (exfalso; omega)) | (refine Gt.nil ?_; refine RW.nilw [0, 1, 2, 3, 8, 9, 14, 34] ?_; dsimp only [H.keep, H.look, H.Fr.put, Nat.beq]) | (refine Gt.move ?_; refine RW.y (Y.move rfl) rfl ?_) | (refine Gt.lss ?_; refine RW.y (Y.lss rfl rfl) rfl ?_))
    refine CL.cutS [0, 1, 2, 3, 8] (fun vals wx => vals = [.slice (some ⟨g, 0, none⟩) X.length cap, .int .i64 (a : Int), .int .i64 (b : Int), cmpV', .int .i64 (i : Int)] ∧ wx.ownsRow B pmT 37 (.slice (some ⟨g, 0, none⟩) X.length cap) X.length ((segN nmP X a (i + 1)).flatMap pmC) ∧ Kept (fun k => k = g) wr wx) (by simp) ?_ ?_
    · refine CL.block ?_
      repeat' (first | (refine CL.seq ?_) | (refine CL.region ?_) | (refine Gt.nil ?_; refine RW.nilw [0, 1, 2, 3, 8, 9, 14, 34] ?_; dsimp only [H.keep, H.look, H.Fr.put, Nat.beq]) | (refine Gt.move ?_; refine RW.y (Y.move rfl) rfl ?_) | (refine Gt.assign ?_; refine RW.y (Y.assign rfl) rfl ?_))
      refine CL.block ?_
      refine CL.loopS [0, 1, 2, 3, 8, 9] (fun k vals wv => ∃ j : Nat, vals = [.slice (some ⟨g, 0, none⟩) X.length cap, .int .i64 (a : Int), .int .i64 (b : Int), cmpV', .int .i64 (i : Int), .int .i64 (j : Int)] ∧ k = j ∧ a ≤ j ∧ j ≤ i ∧ (∀ q ∈ (sortN nmP ((X.take i).drop a)).drop (j - a), ltT (nmP (X.getD i default)) (nmP q) = true) ∧ wv.ownsRow B pmT 37 (.slice (some ⟨g, 0, none⟩) X.length cap) X.length ((wayN nmP default X a i j).flatMap pmC) ∧ Kept (fun k => k = g) wr wv) i ⟨_, rfl, i, rfl, rfl, by omega, Nat.le_refl _, ?_, howr, Kept.refl _ _⟩ ?_
      · intro q hq
        rw [List.drop_of_length_le (by rw [sortN_len, cut_take_drop X a i (by omega)]; omega)] at hq; cases hq
      rintro k vals wv ⟨j, rfl, hkj, haj, hji, hup, hrow, hkv⟩
      dsimp only [List.zip, List.zipWith]
      have hsv := Sl.of_own hrow
      have hUl := wayN_len nmP default X a i j haj hji (by omega)
      have hUm : ∀ q ∈ wayN nmP default X a i j, q ∈ X := wayN_mem nmP default X a i j (by omega)
      have hxj := wayN_at nmP default X a i j haj hji (by omega)
      have hti : ((j : Int)).toNat = j := Int.toNat_natCast j
      have hsw := wayN_swap nmP default X a i j
      have hpr := wayN_prev nmP default X a i j
      have hla := wayN_last nmP default X a i j haj hji (by omega) hup
      have hdn := srt_drop X a i j (p := X.getD i default)
      generalize hU : wayN nmP default X a i j = U at *
      have hsu : Sl wv 37 (.slice (some ⟨g, 0, none⟩) X.length cap) U.length (U.flatMap pmK.enc) := by rw [hUl]; exact hsv
      repeat' ((refine CL.seq ?_))
      refine CL.draw (fun w' => K0 wv w') (by kernel_rfl) (fun w1 hheap1 hk1 => ?_)
      have hS : K0 wv w1 := hk1
      skip
      skip
      rcases Nat.eq_or_lt_of_le haj with h0 | h0
      · subst h0
        refine AW.take 0 rfl (by kernel_rfl) (by kernel_rfl) (by kernel_rfl) rfl (by assumption) (fun w hS => Y.move rfl) ?_
        refine AW.take 1 rfl (by kernel_rfl) (by kernel_rfl) (by kernel_rfl) rfl (by assumption) (fun w hS => Y.move rfl) ?_
        refine AW.take 2 rfl (by kernel_rfl) (by kernel_rfl) (by kernel_rfl) rfl (by assumption) (fun w hS => Y.gtrF rfl rfl (by omega)) ?_
        refine AW.take 3 rfl (by kernel_rfl) (by kernel_rfl) (by kernel_rfl) rfl (by assumption) (fun w hS => Y.move rfl) ?_
        refine AW.takeOff 4 rfl (by kernel_rfl) (by kernel_rfl) (by kernel_rfl) rfl rfl rfl rfl rfl (by assumption) ?_
        refine AW.takeOff 5 rfl (by kernel_rfl) (by kernel_rfl) (by kernel_rfl) rfl rfl rfl rfl rfl (by assumption) ?_
        refine AW.takeOff 6 rfl (by kernel_rfl) (by kernel_rfl) (by kernel_rfl) rfl rfl rfl rfl rfl (by assumption) ?_
        refine AW.takeOff 7 rfl (by kernel_rfl) (by kernel_rfl) (by kernel_rfl) rfl rfl rfl rfl rfl (by assumption) ?_
        refine AW.takeOff 8 rfl (by kernel_rfl) (by kernel_rfl) (by kernel_rfl) rfl rfl rfl rfl rfl (by assumption) ?_
        refine AW.takeOff 9 rfl (by kernel_rfl) (by kernel_rfl) (by kernel_rfl) rfl rfl rfl rfl rfl (by assumption) ?_
        refine AW.takeOff 10 rfl (by kernel_rfl) (by kernel_rfl) (by kernel_rfl) rfl rfl rfl rfl rfl (by assumption) ?_
        refine AW.takeOff 11 rfl (by kernel_rfl) (by kernel_rfl) (by kernel_rfl) rfl rfl rfl rfl rfl (by assumption) ?_
        refine AW.takeOff 12 rfl (by kernel_rfl) (by kernel_rfl) (by kernel_rfl) rfl rfl rfl rfl rfl (by assumption) ?_
        refine AW.takeOff 13 rfl (by kernel_rfl) (by kernel_rfl) (by kernel_rfl) rfl rfl rfl rfl rfl (by assumption) ?_
        refine AW.takeOff 14 rfl (by kernel_rfl) (by kernel_rfl) (by kernel_rfl) rfl rfl rfl rfl rfl (by assumption) ?_
        refine AW.takeOff 15 rfl (by kernel_rfl) (by kernel_rfl) (by kernel_rfl) rfl rfl rfl rfl rfl (by assumption) ?_
        refine AW.take 16 rfl (by kernel_rfl) (by kernel_rfl) (by kernel_rfl) rfl (by assumption) (fun w hS => by exact Y.pickF rfl rfl) ?_
        refine AW.donew [0, 1, 2, 3, 8, 9, 34] (by kernel_rfl) ?_
        dsimp only [H.keep, H.look, H.Fr.put, Nat.beq]
        repeat' (first | (refine CL.condF rfl ?_) | (refine CL.exit ?_) | (refine Ex.then ?_) | (refine Ex.hit ?_) | (refine CL.done ?_) | (refine Nm.block ?_) | (refine Nm.then ?_))
        rw [hla (.inl rfl)] at hrow
        exact ⟨_, rfl, rfl, rfl, rfl, own_kept0 hrow hk1, hkv.trans0 hk1⟩
      · have hti2 : ((j : Int) - 1).toNat = j - 1 := by omega
        have hel1 := elAll hsu pmK.len (i := (j : Int)) (by omega) (by omega)
        have hel2 := elAll hsu pmK.len (i := (j : Int) - 1) (by omega) (by omega)
        rw [hti2] at hel2
        rw [hti] at hel1
        obtain ⟨bb, hbb⟩ : ∃ bb : Bool, decide (cmpT (nmP (U.getD j default)) (nmP (U.getD (j - 1) default)) < 0) = bb := ⟨_, rfl⟩
        skip
        refine AW.take 0 rfl (by kernel_rfl) (by kernel_rfl) (by kernel_rfl) rfl (by assumption) (fun w hS => Y.move rfl) ?_
        refine AW.take 1 rfl (by kernel_rfl) (by kernel_rfl) (by kernel_rfl) rfl (by assumption) (fun w hS => Y.move rfl) ?_
        refine AW.take 2 rfl (by kernel_rfl) (by kernel_rfl) (by kernel_rfl) rfl (by assumption) (fun w hS => Y.gtrT rfl rfl (by omega)) ?_
        refine AW.take 3 rfl (by kernel_rfl) (by kernel_rfl) (by kernel_rfl) rfl (by assumption) (fun w hS => Y.move rfl) ?_
        refine AW.takeOn 4 rfl (by kernel_rfl) (by kernel_rfl) (by kernel_rfl) rfl rfl rfl rfl (by assumption) (fun w hS => Y.move rfl) ?_
        refine AW.takeOn 5 rfl (by kernel_rfl) (by kernel_rfl) (by kernel_rfl) rfl rfl rfl rfl (by assumption) (fun w hS => Y.move rfl) ?_
        refine AW.takeOn 6 rfl (by kernel_rfl) (by kernel_rfl) (by kernel_rfl) rfl rfl rfl rfl (by assumption) (fun w hS => Y.move rfl) ?_
        refine AW.takeOn 7 rfl (by kernel_rfl) (by kernel_rfl) (by kernel_rfl) rfl rfl rfl rfl (by assumption) (fun w hS => Y.idx rfl rfl (hsv.keep0 hS) (by omega) (by omega)) ?_
        refine AW.takeOn 8 rfl (by kernel_rfl) (by kernel_rfl) (by kernel_rfl) rfl rfl rfl rfl (by assumption) (fun w hS => Y.loadN (cs := pmC (U.getD j default)) rfl (pmC_len _) (hel1 _ hS)) ?_
        refine AW.takeOn 9 rfl (by kernel_rfl) (by kernel_rfl) (by kernel_rfl) rfl rfl rfl rfl (by assumption) (fun w hS => Y.move rfl) ?_
        refine AW.takeOn 10 rfl (by kernel_rfl) (by kernel_rfl) (by kernel_rfl) rfl rfl rfl rfl (by assumption) (fun w hS => Y.move rfl) ?_
        refine AW.takeOn 11 rfl (by kernel_rfl) (by kernel_rfl) (by kernel_rfl) rfl rfl rfl rfl (by assumption) (fun w hS => by exact Y.sub64 rfl rfl (by omega) (by omega)) ?_
        refine AW.takeOn 12 rfl (by kernel_rfl) (by kernel_rfl) (by kernel_rfl) rfl rfl rfl rfl (by assumption) (fun w hS => Y.idx rfl rfl (hsv.keep0 hS) (by omega) (by omega)) ?_
        refine AW.takeOn 13 rfl (by kernel_rfl) (by kernel_rfl) (by kernel_rfl) rfl rfl rfl rfl (by assumption) (fun w hS => Y.loadN (cs := pmC (U.getD (j - 1) default)) rfl (pmC_len _) (by rw [hti2]; exact hel2 _ hS)) ?_
        refine AW.next 14 rfl (by kernel_rfl) ?_
        refine RW.on rfl rfl rfl ?_
        refine RW.fnv rfl rfl rfl ((pinCmp _ _ w1).mono ?_)
        rintro e w2 ⟨hk2, rfl⟩
        refine RW.nil (Nm.then ⟨hS.trans0 hk2, ?_⟩)
        have hS := hS.trans0 hk2
        refine AW.takeOn 15 rfl (by kernel_rfl) (by kernel_rfl) (by kernel_rfl) rfl rfl rfl rfl (by assumption) (fun w hS => Y.lssE rfl rfl hbb) ?_
        refine AW.take 16 rfl (by kernel_rfl) (by kernel_rfl) (by kernel_rfl) rfl (by assumption) (fun w hS => by exact Y.pickT rfl rfl) ?_
        refine AW.donew [0, 1, 2, 3, 8, 9, 34] (by kernel_rfl) ?_
        dsimp only [H.keep, H.look, H.Fr.put, Nat.beq]
        rw [cmpT_lt, hxj, hpr h0 hji (by omega)] at hbb
        cases bb
        · repeat' (first | (refine CL.condF rfl ?_) | (refine CL.exit ?_) | (refine Ex.then ?_) | (refine Ex.hit ?_) | (refine CL.done ?_) | (refine Nm.block ?_) | (refine Nm.then ?_))
          rw [hla (.inr hbb)] at hrow
          exact ⟨_, rfl, rfl, rfl, rfl, own_kept0 hrow hS, hkv.trans0 hS⟩
        · have hone : ∀ i, i < X.length → (U.getD i default).p.oneCell' = true := fun i h => hD _ (hUm _ (getD_mem default (by omega)))
          have hspA : Value.spot (.slice (some ⟨g, 0, none⟩) X.length cap) (((j : Int)).toNat * 37) = ⟨g, j * 37, none⟩ := by rw [hti]; simp [Value.spot, addr_add]
          have hspB : Value.spot (.slice (some ⟨g, 0, none⟩) X.length cap) ((((j : Int) - 1)).toNat * 37) = ⟨g, (j - 1) * 37, none⟩ := by rw [hti2]; simp [Value.spot, addr_add]
          have hS2 := hS
          repeat' (first | (refine CL.seq ?_) | (refine CL.skip ?_) | (refine CL.condT rfl ?_) | (refine CL.block ?_))
          have hrow2 := own_kept0 hrow hS
          refine CL.drawz (fun w' => K0 w2 w') (fun j => Nat.beq j 2 || Nat.beq j 3 || Nat.beq j 4 || Nat.beq j 15 || Nat.beq j 16 || Nat.beq j 17) (by kernel_rfl) (fun w4 hheap4 hk4 => ?_)
          have hS4 := hS.trans0 hk4
          have hS : K0 w2 w4 := hk4
          skip
          refine AP.pure 2 rfl (by kernel_rfl) (by kernel_rfl) (by kernel_rfl) rfl rfl (fun w => Y.move rfl) ?_
          refine AP.pure 3 rfl (by kernel_rfl) (by kernel_rfl) (by kernel_rfl) rfl rfl (fun w => Y.move rfl) ?_
          refine AP.pure 4 rfl (by kernel_rfl) (by kernel_rfl) (by kernel_rfl) rfl rfl (fun w => by exact Y.sub64 rfl rfl (by omega) (by omega)) ?_
          refine AP.take 0 [14, 15, 16, 17] rfl (by kernel_rfl) (by kernel_rfl) (by kernel_rfl) (by kernel_rfl) rfl (by assumption) (fun w hS => Y.move rfl) ?_
          refine AP.take 1 [14, 15, 16, 17] rfl (by kernel_rfl) (by kernel_rfl) (by kernel_rfl) (by kernel_rfl) rfl (by assumption) (fun w hS => Y.move rfl) ?_
          refine AP.take 5 [8, 9, 14, 15, 16, 17] rfl (by kernel_rfl) (by kernel_rfl) (by kernel_rfl) (by kernel_rfl) rfl (by assumption) (fun w hS => Y.move rfl) ?_
          refine AP.take 6 [7, 8, 9, 14, 15, 16, 17] rfl (by kernel_rfl) (by kernel_rfl) (by kernel_rfl) (by kernel_rfl) rfl (by assumption) (fun w hS => Y.move rfl) ?_
          refine AP.take 7 [8, 9, 14, 15, 16, 17] rfl (by kernel_rfl) (by kernel_rfl) (by kernel_rfl) (by kernel_rfl) rfl (by assumption) (fun w hS => by exact Y.sub64 rfl rfl (by omega) (by omega)) ?_
          refine AP.take 8 [9, 14, 15, 16, 17] rfl (by kernel_rfl) (by kernel_rfl) (by kernel_rfl) (by kernel_rfl) rfl (by assumption) (fun w hS => Y.idx rfl rfl ((Sl.of_own hrow2).keep0 hS) (by omega) (by omega)) ?_
          refine AP.take 9 [14, 15, 16, 17] rfl (by kernel_rfl) (by kernel_rfl) (by kernel_rfl) (by kernel_rfl) rfl (by assumption) (fun w hS => Y.loadN (cs := pmC (U.getD (j - 1) default)) rfl (pmC_len _) (by rw [hti2]; exact hel2 _ (hS2.trans0 hS))) ?_
          refine AP.take 10 [12, 13, 14, 15, 16, 17] rfl (by kernel_rfl) (by kernel_rfl) (by kernel_rfl) (by kernel_rfl) rfl (by assumption) (fun w hS => Y.move rfl) ?_
          refine AP.take 11 [12, 13, 14, 15, 16, 17] rfl (by kernel_rfl) (by kernel_rfl) (by kernel_rfl) (by kernel_rfl) rfl (by assumption) (fun w hS => Y.move rfl) ?_
          refine AP.take 12 [13, 14, 15, 16, 17] rfl (by kernel_rfl) (by kernel_rfl) (by kernel_rfl) (by kernel_rfl) rfl (by assumption) (fun w hS => Y.idx rfl rfl ((Sl.of_own hrow2).keep0 hS) (by omega) (by omega)) ?_
          refine AP.take 13 [14, 15, 16, 17] rfl (by kernel_rfl) (by kernel_rfl) (by kernel_rfl) (by kernel_rfl) rfl (by assumption) (fun w hS => Y.loadN (cs := pmC (U.getD j default)) rfl (pmC_len _) (hel1 _ (hS2.trans0 hS))) ?_
          refine AP.take 14 [15, 16, 17] rfl (by kernel_rfl) (by kernel_rfl) (by kernel_rfl) (by kernel_rfl) rfl (by assumption) (fun w hS => Y.idx rfl rfl ((Sl.of_own hrow2).keep0 hS) (by omega) (by omega)) ?_
          refine AL.last 15 rfl (by kernel_rfl) rfl ?_
          refine RW.putEl pmK (i := j) (u := U.getD (j - 1) default) (congrArg (fun a => some (Value.pointer (some a))) hspA) rfl (own_kept0 hrow2 hS) hUl.symm (by omega) (pmC_one (hone _ (by omega))) (fun w5 how5 hk5 => ?_)
          refine RW.nil (Nm.then ⟨trivial, ?_⟩)
          refine AL.last 16 rfl (by kernel_rfl) rfl ?_
          refine RW.y (Y.idx rfl rfl (Sl.of_own how5) (by omega) (by omega)) rfl ?_
          refine RW.nil (Nm.then ⟨trivial, ?_⟩)
          refine AL.last 17 rfl (by kernel_rfl) rfl ?_
          refine RW.putEl pmK (i := j - 1) (u := U.getD j default) (congrArg (fun a => some (Value.pointer (some a))) hspB) rfl how5 (by rw [List.length_set, hUl]) (by omega) (pmC_one (hone _ (by omega))) (fun w6 how6 hk6 => ?_)
          refine RW.nil (Nm.then ⟨trivial, ?_⟩)
          refine AL.donew [0, 1, 2, 3, 8, 9] (by kernel_rfl) ?_
          dsimp only [H.keep, H.look, H.Fr.put, Nat.beq]
          rw [hsw h0 hji (by omega)] at how6
          repeat' (first | (refine CL.region ?_) | (refine CL.done ?_) | (refine Nm.block ?_) | (refine Nm.then ?_) | (refine Gt.nil ?_; refine RW.nilw [0, 1, 2, 3, 8, 9, 14, 34] ?_; dsimp only [H.keep, H.look, H.Fr.put, Nat.beq]) | (refine Gt.move ?_; refine RW.y (Y.move rfl) rfl ?_) | (refine Gt.assign ?_; refine RW.y (Y.assign rfl) rfl ?_) | (refine Gt.sub ?_; refine RW.y (Y.sub64 rfl rfl (by omega) (by omega)) rfl ?_))
          exact ⟨j - 1, _, rfl, rfl, rfl, by omega, j - 1, by simp; omega, rfl, by omega, by omega, hdn h0 hji (by omega) hup hbb, how6, hkv.trans ((Kept.of0 hS4).trans hk5 (fun k h => .inl h) |>.trans hk6 fun k h => .inl h) fun k h => .inl h⟩
    · rintro vals wx ⟨rfl, howx, hkx⟩
      dsimp only [List.zip, List.zipWith]
      repeat' (first | (refine CL.region ?_) | (refine CL.done ?_) | (refine Nm.then ?_) | (refine Gt.nil ?_; refine RW.nilw [0, 1, 2, 3, 8, 9, 14, 34] ?_; dsimp only [H.keep, H.look, H.Fr.put, Nat.beq]) | (refine Gt.move ?_; refine RW.y (Y.move rfl) rfl ?_) | (refine Gt.assign ?_; refine RW.y (Y.assign rfl) rfl ?_) | (refine Gt.add ?_; refine RW.y (Y.add64 rfl rfl (by omega) (by omega)) rfl ?_))
      exact ⟨b - (i + 1), _, rfl, rfl, rfl, by omega, i + 1, rfl, rfl, by omega, .inl (by omega), by rw [Nat.min_eq_left (by omega)]; exact howx, hkr.trans hkx fun k h => .inl (by rw [h]; rfl)⟩
  · rw [Nat.min_eq_right (by omega)] at howr
    repeat' (first | (refine CL.seq ?_) | (refine CL.region ?_) | (refine CL.condP rfl (fun _ => ?_) (fun _ => ?_) <;> try (exfalso; omega)) | (refine CL.exit ?_) | (refine Ex.then ?_) | (refine Ex.hit ?_) | (refine CL.done ?_) | (refine Gt.nil ?_; refine RW.nilw [0, 1, 2, 3, 8, 9, 14, 34] ?_; dsimp only [H.keep, H.look, H.Fr.put, Nat.beq]) | (refine Gt.move ?_; refine RW.y (Y.move rfl) rfl ?_) | (refine Gt.lss ?_; refine RW.y (Y.lss rfl rfl) rfl ?_))
    exact FQ.norm (FQ.none rfl rfl ⟨rfl, howr, hkr⟩)

/-- Searches in what stands in order end at the end. -/
theorem srt_le (X : List Pm) (h : SrtN nmP X) (i j : Nat) (hij : i ≤ j) (hj : j < X.length) : decide (cmpT (nmP (X.getD j default)) (nmP (X.getD i default)) < 0) = false := by
  rw [cmpT_lt]
  rcases Nat.eq_or_lt_of_le hij with e | e
  · rw [e]; exact ltT_irr _
  · have := (List.pairwise_iff_getElem.1 h) i j (by omega) hj e
    rw [List.getD_eq_getElem?_getD, List.getD_eq_getElem?_getD, List.getElem?_eq_getElem hj, List.getElem?_eq_getElem (by omega : i < X.length)]
    exact this
end Go.Proofs.YtggodknolmdegaaGreatDoor.Lk

namespace Go.Proofs.YtggodknolmdegaaGreatDoor.Lk
open Go.RowKit H S Ve
attribute [local irreducible] H.CL H.RW H.CW H.Yd H.thenK H.blockQ Go.Calls keyAt unhexB

section
variable {P : Program} {f : Fr} {w : World} {d : Nat} {ty : TypeId} {pos : String} {af : Array Edge}
theorem shr1Y {t yt : TypeId} {x y : Operand} {a : Int} (hx : f.ev x = some (.int .u64 a)) (hy : f.ev y = some (.int .u64 1)) (h0 : 0 ≤ a) : Yd P f (op1 d (.binOp .shr t x y yt) ty pos af) (.int .u64 (a / 2)) w := by
  have h := Y.shr (P := P) (w := w) (d := d) (ty := ty) (pos := pos) (af := af) (t := t) (yt := yt) hx hy (by omega)
  have e : a.fdiv (2 ^ (min (Int.toNat 1) IntKind.u64.bits)) = a / 2 := by
    show a.fdiv (2 : Nat) = _
    rw [Int.fdiv_eq_ediv_of_nonneg _ (by omega)]; rfl
  rw [e] at h; exact h
end

/-- What a merge of what stands in order does. -/
abbrev SymC (v : Value) (X : List Pm) (n : Nat) : Prop := ∀ (a m b : Nat), b - a ≤ n → a < m → m < b → b ≤ X.length → ∀ (w : World), Sl w 37 v X.length (X.flatMap pmC) →
    Calls Tryz.prog 71 #[v, .int .i64 (a : Int), .int .i64 (m : Int), .int .i64 (b : Int), cmpV'] w fun e w' => e = .returned (.tuple #[]) ∧ K0 w w'
set_option maxHeartbeats 1000000 in
theorem symStep (v : Value) (X : List Pm) (hX : SrtN nmP X) (hl : X.length ≤ 1000000) (n : Nat) (ih : SymC v X n) (a m b : Nat) (hn : b - a ≤ n + 1) (h1 : a < m) (h2 : m < b) (h3 : b ≤ X.length) (w : World) (hs : Sl w 37 v X.length (X.flatMap pmC)) :
    Calls Tryz.prog 71 #[v, .int .i64 (a : Int), .int .i64 (m : Int), .int .i64 (b : Int), cmpV'] w fun e w' => e = .returned (.tuple #[]) ∧ K0 w w' := by
  refine H.enter Tryz.func71 Tryz.ntmps71 rfl rfl ?_; dsimp only [H.args]
  repeat' (first | (refine CL.seq ?_) | (refine CL.region ?_) | (refine CL.skip ?_) | (refine CL.condP rfl (fun _ => ?_) (fun _ => ?_) <;> try (exfalso; omega)) | (refine CL.block ?_) | (refine Gt.nil ?_; refine RW.nilw [0, 1, 2, 3, 4, 10, 11, 12, 13, 14, 15, 16, 17, 18, 19, 20, 21, 22, 23, 24, 28, 33, 50, 58, 80, 85, 103, 110, 140, 151, 171, 185, 199, 213] ?_; dsimp only [H.keep, H.look, H.Fr.put, Nat.beq]) | (refine RW.y (shr1Y rfl rfl (by omega)) rfl ?_) | (refine Gt.move ?_; refine RW.y (Y.move rfl) rfl ?_) | (refine Gt.assign ?_; refine RW.y (Y.assign rfl) rfl ?_) | (refine Gt.add ?_; refine RW.y (Y.add64 rfl rfl (by omega) (by omega)) rfl ?_) | (refine Gt.sub ?_; refine RW.y (Y.sub64 rfl rfl (by omega) (by omega)) rfl ?_) | (refine Gt.convert ?_; (refine RW.y (Y.convN rfl (by first | exact wrap64_id (by omega) (by omega) | exact wrapu64_id (by omega) (by omega))) rfl ?_)) | (refine Gt.eql ?_; refine RW.y (Y.eqi rfl rfl) rfl ?_) | (refine Gt.gtr ?_; refine RW.y (Y.gtr rfl rfl) rfl ?_))
  · rename_i hma
    refine CL.loopS [0, 1, 2, 3, 4, 10, 11] (fun k vals wr => ∃ j : Nat, vals = [v, .int .i64 (a : Int), .int .i64 (m : Int), .int .i64 (b : Int), cmpV', .int .i64 (m : Int), .int .i64 (j : Int)] ∧ k = j ∧ m ≤ j ∧ j ≤ b ∧ K0 w wr) b ⟨_, rfl, b, rfl, rfl, by omega, Nat.le_refl _, Kept.refl _ _⟩ ?_
    rintro k vals wr ⟨j, rfl, hkj, hj1, hj2, hkr⟩
    dsimp only [List.zip, List.zipWith]
    have hsr := hs.keep0 hkr
    rcases Nat.lt_or_ge m j with hlt | hge
    · obtain ⟨h, hh⟩ : ∃ h : Nat, ((m : Int) + (j : Int)) / 2 = (h : Int) := ⟨(m + j) / 2, by omega⟩
      have hh1 : m ≤ h := by omega
      have hh2 : h < j := by omega
      have el1 := elAll hsr pmK.len (i := (h : Int)) (by omega) (by omega)
      have el2 := elAll hsr pmK.len (i := (a : Int)) (by omega) (by omega)
      have hbb := srt_le X hX a h (by omega) (by omega)
      rw [show ((h : Int)).toNat = h from Int.toNat_natCast h] at el1
      rw [show ((a : Int)).toNat = a from Int.toNat_natCast a] at el2
      repeat' (first | (refine CL.seq ?_) | (refine CL.region ?_) | (refine CL.skip ?_) | (refine CL.condP rfl (fun _ => ?_) (fun _ => ?_) <;> try (exfalso; omega)) | (refine CL.block ?_) | (refine Gt.nil ?_; refine RW.nilw [0, 1, 2, 3, 4, 10, 11, 12, 13, 14, 15, 16, 17, 18, 19, 20, 21, 22, 23, 24, 28, 33, 50, 58, 80, 85, 103, 110, 140, 151, 171, 185, 199, 213] ?_; dsimp only [H.keep, H.look, H.Fr.put, Nat.beq]) | (refine RW.y (shr1Y rfl rfl (by omega)) rfl ?_) | (refine Gt.move ?_; refine RW.y (Y.move rfl) rfl ?_) | (refine Gt.assign ?_; refine RW.y (Y.assign rfl) rfl ?_) | (refine Gt.lss ?_; refine RW.y (Y.lss rfl rfl) rfl ?_) | (refine Gt.add ?_; refine RW.y (Y.add64 rfl rfl (by omega) (by omega)) rfl ?_) | (refine Gt.convert ?_; (refine RW.y (Y.convN rfl (by first | exact wrap64_id (by omega) (by omega) | exact wrapu64_id (by omega) (by omega))) rfl ?_)))
      rw [hh]
      refine CL.draw (fun w' => K0 wr w') (by kernel_rfl) (fun w1 hheap1 hk1 => ?_)
      have hS : K0 wr w1 := hk1
      skip
      refine AW.take 0 rfl (by kernel_rfl) (by kernel_rfl) (by kernel_rfl) rfl (by assumption) (fun w hS => Y.move rfl) ?_
      refine AW.take 1 rfl (by kernel_rfl) (by kernel_rfl) (by kernel_rfl) rfl (by assumption) (fun w hS => Y.move rfl) ?_
      refine AW.take 2 rfl (by kernel_rfl) (by kernel_rfl) (by kernel_rfl) rfl (by assumption) (fun w hS => Y.move rfl) ?_
      refine AW.take 3 rfl (by kernel_rfl) (by kernel_rfl) (by kernel_rfl) rfl (by assumption) (fun w hS => Y.idx rfl rfl (hsr.keep0 hS) (by omega) (by omega)) ?_
      refine AW.take 4 rfl (by kernel_rfl) (by kernel_rfl) (by kernel_rfl) rfl (by assumption) (fun w hS => Y.loadN (cs := pmC (X.getD h default)) rfl (pmC_len _) (el1 _ hS)) ?_
      refine AW.take 5 rfl (by kernel_rfl) (by kernel_rfl) (by kernel_rfl) rfl (by assumption) (fun w hS => Y.move rfl) ?_
      refine AW.take 6 rfl (by kernel_rfl) (by kernel_rfl) (by kernel_rfl) rfl (by assumption) (fun w hS => Y.move rfl) ?_
      refine AW.take 7 rfl (by kernel_rfl) (by kernel_rfl) (by kernel_rfl) rfl (by assumption) (fun w hS => Y.idx rfl rfl (hsr.keep0 hS) (by omega) (by omega)) ?_
      refine AW.take 8 rfl (by kernel_rfl) (by kernel_rfl) (by kernel_rfl) rfl (by assumption) (fun w hS => Y.loadN (cs := pmC (X.getD a default)) rfl (pmC_len _) (el2 _ hS)) ?_
      refine AW.next 9 rfl (by kernel_rfl) ?_
      refine RW.fnv rfl rfl rfl ((pinCmp _ _ w1).mono ?_)
      rintro e w2 ⟨hk2, rfl⟩
      refine RW.nil (Nm.then ⟨hS.trans0 hk2, ?_⟩)
      have hS := hS.trans0 hk2
      refine AW.take 10 rfl (by kernel_rfl) (by kernel_rfl) (by kernel_rfl) rfl (by assumption) (fun w hS => Y.lssE rfl rfl hbb) ?_
      refine AW.donew [0, 1, 2, 3, 4, 10, 11, 12, 50] (by kernel_rfl) ?_
      dsimp only [H.keep, H.look, H.Fr.put, Nat.beq]
      repeat' (first | (refine CL.region ?_) | (refine CL.condF rfl ?_) | (refine CL.done ?_) | (refine Nm.block ?_) | (refine Nm.then ?_) | (refine Gt.nil ?_; refine RW.nilw [0, 1, 2, 3, 4, 10, 11, 12, 13, 14, 15, 16, 17, 18, 19, 20, 21, 22, 23, 24, 28, 33, 50, 58, 80, 85, 103, 110, 140, 151, 171, 185, 199, 213] ?_; dsimp only [H.keep, H.look, H.Fr.put, Nat.beq]) | (refine Gt.move ?_; refine RW.y (Y.move rfl) rfl ?_) | (refine Gt.assign ?_; refine RW.y (Y.assign rfl) rfl ?_))
      exact ⟨h, _, rfl, rfl, rfl, by omega, h, rfl, rfl, hh1, by omega, hkr.trans0 hS⟩
    · have e : j = m := by omega
      subst e
      repeat' (first | (refine CL.seq ?_) | (refine CL.region ?_) | (refine CL.condP rfl (fun _ => ?_) (fun _ => ?_) <;> try (exfalso; omega)) | (refine CL.block ?_) | (refine CL.exit ?_) | (refine Ex.then ?_) | (refine Ex.hit ?_) | (refine Gt.nil ?_; refine RW.nilw [0, 1, 2, 3, 4, 10, 11, 12, 13, 14, 15, 16, 17, 18, 19, 20, 21, 22, 23, 24, 28, 33, 50, 58, 80, 85, 103, 110, 140, 151, 171, 185, 199, 213] ?_; dsimp only [H.keep, H.look, H.Fr.put, Nat.beq]) | (refine Gt.move ?_; refine RW.y (Y.move rfl) rfl ?_) | (refine Gt.assign ?_; refine RW.y (Y.assign rfl) rfl ?_) | (refine Gt.lss ?_; refine RW.y (Y.lss rfl rfl) rfl ?_))
      refine CL.loopS [0, 1, 2, 3, 4, 10, 13] (fun k vals wt => vals = [v, .int .i64 (a : Int), .int .i64 (j : Int), .int .i64 (b : Int), cmpV', .int .i64 (j : Int), .int .i64 (a : Int)] ∧ wt = wr) 0 ⟨_, rfl, rfl, rfl⟩ ?_
      rintro k vals wt ⟨rfl, rfl⟩
      dsimp only [List.zip, List.zipWith]
      repeat' (first | (refine CL.seq ?_) | (refine CL.region ?_) | (refine CL.condP rfl (fun _ => ?_) (fun _ => ?_) <;> try (exfalso; omega)) | (refine CL.exit ?_) | (refine Ex.then ?_) | (refine Ex.hit ?_) | (refine CL.ret ?_) | (refine Gt.nil ?_; refine RW.nilw [0, 1, 2, 3, 4, 10, 11, 12, 13, 14, 15, 16, 17, 18, 19, 20, 21, 22, 23, 24, 28, 33, 50, 58, 80, 85, 103, 110, 140, 151, 171, 185, 199, 213] ?_; dsimp only [H.keep, H.look, H.Fr.put, Nat.beq]) | (refine Gt.move ?_; refine RW.y (Y.move rfl) rfl ?_) | (refine Gt.lss ?_; refine RW.y (Y.lss rfl rfl) rfl ?_) | (refine Gt.sub ?_; refine RW.y (Y.sub64 rfl rfl (by omega) (by omega)) rfl ?_))
      exact FQ.none rfl rfl ⟨rfl, hkr⟩
  · rename_i hma hbm
    refine CL.loopS [0, 1, 2, 3, 4, 14, 15] (fun k vals wr => ∃ i : Nat, vals = [v, .int .i64 (a : Int), .int .i64 (m : Int), .int .i64 (b : Int), cmpV', .int .i64 (i : Int), .int .i64 (m : Int)] ∧ k = m - i ∧ a ≤ i ∧ i ≤ m ∧ K0 w wr) (m - a) ⟨_, rfl, a, rfl, rfl, Nat.le_refl _, by omega, Kept.refl _ _⟩ ?_
    rintro k vals wr ⟨i, rfl, rfl, hi1, hi2, hkr⟩
    dsimp only [List.zip, List.zipWith]
    have hsr := hs.keep0 hkr
    rcases Nat.lt_or_ge i m with hlt | hge
    · obtain ⟨h, hh⟩ : ∃ h : Nat, ((i : Int) + (m : Int)) / 2 = (h : Int) := ⟨(i + m) / 2, by omega⟩
      have hh1 : i ≤ h := by omega
      have hh2 : h < m := by omega
      have el1 := elAll hsr pmK.len (i := (m : Int)) (by omega) (by omega)
      have el2 := elAll hsr pmK.len (i := (h : Int)) (by omega) (by omega)
      have hbb := srt_le X hX h m (by omega) (by omega)
      rw [show ((m : Int)).toNat = m from Int.toNat_natCast m] at el1
      rw [show ((h : Int)).toNat = h from Int.toNat_natCast h] at el2
      repeat' (first | (refine CL.seq ?_) | (refine CL.region ?_) | (refine CL.skip ?_) | (refine CL.condP rfl (fun _ => ?_) (fun _ => ?_) <;> try (exfalso; omega)) | (refine CL.block ?_) | (refine Gt.nil ?_; refine RW.nilw [0, 1, 2, 3, 4, 10, 11, 12, 13, 14, 15, 16, 17, 18, 19, 20, 21, 22, 23, 24, 28, 33, 50, 58, 80, 85, 103, 110, 140, 151, 171, 185, 199, 213] ?_; dsimp only [H.keep, H.look, H.Fr.put, Nat.beq]) | (refine RW.y (shr1Y rfl rfl (by omega)) rfl ?_) | (refine Gt.move ?_; refine RW.y (Y.move rfl) rfl ?_) | (refine Gt.assign ?_; refine RW.y (Y.assign rfl) rfl ?_) | (refine Gt.lss ?_; refine RW.y (Y.lss rfl rfl) rfl ?_) | (refine Gt.add ?_; refine RW.y (Y.add64 rfl rfl (by omega) (by omega)) rfl ?_) | (refine Gt.convert ?_; (refine RW.y (Y.convN rfl (by first | exact wrap64_id (by omega) (by omega) | exact wrapu64_id (by omega) (by omega))) rfl ?_)))
      rw [hh]
      refine CL.draw (fun w' => K0 wr w') (by kernel_rfl) (fun w1 hheap1 hk1 => ?_)
      have hS : K0 wr w1 := hk1
      skip
      refine AW.take 0 rfl (by kernel_rfl) (by kernel_rfl) (by kernel_rfl) rfl (by assumption) (fun w hS => Y.move rfl) ?_
      refine AW.take 1 rfl (by kernel_rfl) (by kernel_rfl) (by kernel_rfl) rfl (by assumption) (fun w hS => Y.move rfl) ?_
      refine AW.take 2 rfl (by kernel_rfl) (by kernel_rfl) (by kernel_rfl) rfl (by assumption) (fun w hS => Y.move rfl) ?_
      refine AW.take 3 rfl (by kernel_rfl) (by kernel_rfl) (by kernel_rfl) rfl (by assumption) (fun w hS => Y.idx rfl rfl (hsr.keep0 hS) (by omega) (by omega)) ?_
      refine AW.take 4 rfl (by kernel_rfl) (by kernel_rfl) (by kernel_rfl) rfl (by assumption) (fun w hS => Y.loadN (cs := pmC (X.getD m default)) rfl (pmC_len _) (el1 _ hS)) ?_
      refine AW.take 5 rfl (by kernel_rfl) (by kernel_rfl) (by kernel_rfl) rfl (by assumption) (fun w hS => Y.move rfl) ?_
      refine AW.take 6 rfl (by kernel_rfl) (by kernel_rfl) (by kernel_rfl) rfl (by assumption) (fun w hS => Y.move rfl) ?_
      refine AW.take 7 rfl (by kernel_rfl) (by kernel_rfl) (by kernel_rfl) rfl (by assumption) (fun w hS => Y.idx rfl rfl (hsr.keep0 hS) (by omega) (by omega)) ?_
      refine AW.take 8 rfl (by kernel_rfl) (by kernel_rfl) (by kernel_rfl) rfl (by assumption) (fun w hS => Y.loadN (cs := pmC (X.getD h default)) rfl (pmC_len _) (el2 _ hS)) ?_
      refine AW.next 9 rfl (by kernel_rfl) ?_
      refine RW.fnv rfl rfl rfl ((pinCmp _ _ w1).mono ?_)
      rintro e w2 ⟨hk2, rfl⟩
      refine RW.nil (Nm.then ⟨hS.trans0 hk2, ?_⟩)
      have hS := hS.trans0 hk2
      refine AW.take 10 rfl (by kernel_rfl) (by kernel_rfl) (by kernel_rfl) rfl (by assumption) (fun w hS => Y.lssE rfl rfl hbb) ?_
      refine AW.take 11 rfl (by kernel_rfl) (by kernel_rfl) (by kernel_rfl) rfl (by assumption) (fun w hS => Y.notb rfl) ?_
      refine AW.donew [0, 1, 2, 3, 4, 14, 15, 16, 103] (by kernel_rfl) ?_
      dsimp only [H.keep, H.look, H.Fr.put, Nat.beq]
      repeat' (first | (refine CL.region ?_) | (refine CL.condT rfl ?_) | (refine CL.done ?_) | (refine Nm.block ?_) | (refine Nm.then ?_) | (refine Gt.nil ?_; refine RW.nilw [0, 1, 2, 3, 4, 10, 11, 12, 13, 14, 15, 16, 17, 18, 19, 20, 21, 22, 23, 24, 28, 33, 50, 58, 80, 85, 103, 110, 140, 151, 171, 185, 199, 213] ?_; dsimp only [H.keep, H.look, H.Fr.put, Nat.beq]) | (refine Gt.move ?_; refine RW.y (Y.move rfl) rfl ?_) | (refine Gt.assign ?_; refine RW.y (Y.assign rfl) rfl ?_) | (refine Gt.add ?_; refine RW.y (Y.add64 rfl rfl (by omega) (by omega)) rfl ?_))
      exact ⟨m - (h + 1), _, rfl, rfl, rfl, by omega, h + 1, rfl, rfl, by omega, by omega, hkr.trans0 hS⟩
    · have e : i = m := by omega
      subst e
      repeat' (first | (refine CL.seq ?_) | (refine CL.region ?_) | (refine CL.condP rfl (fun _ => ?_) (fun _ => ?_) <;> try (exfalso; omega)) | (refine CL.block ?_) | (refine CL.exit ?_) | (refine Ex.then ?_) | (refine Ex.hit ?_) | (refine Gt.nil ?_; refine RW.nilw [0, 1, 2, 3, 4, 10, 11, 12, 13, 14, 15, 16, 17, 18, 19, 20, 21, 22, 23, 24, 28, 33, 50, 58, 80, 85, 103, 110, 140, 151, 171, 185, 199, 213] ?_; dsimp only [H.keep, H.look, H.Fr.put, Nat.beq]) | (refine Gt.move ?_; refine RW.y (Y.move rfl) rfl ?_) | (refine Gt.assign ?_; refine RW.y (Y.assign rfl) rfl ?_) | (refine Gt.lss ?_; refine RW.y (Y.lss rfl rfl) rfl ?_))
      refine CL.loopS [0, 1, 2, 3, 4, 14, 17] (fun k vals wt => vals = [v, .int .i64 (a : Int), .int .i64 (i : Int), .int .i64 (b : Int), cmpV', .int .i64 (i : Int), .int .i64 (i : Int)] ∧ wt = wr) 0 ⟨_, rfl, rfl, rfl⟩ ?_
      rintro k vals wt ⟨rfl, rfl⟩
      dsimp only [List.zip, List.zipWith]
      repeat' (first | (refine CL.seq ?_) | (refine CL.region ?_) | (refine CL.condP rfl (fun _ => ?_) (fun _ => ?_) <;> try (exfalso; omega)) | (refine CL.exit ?_) | (refine Ex.then ?_) | (refine Ex.hit ?_) | (refine CL.ret ?_) | (refine Gt.nil ?_; refine RW.nilw [0, 1, 2, 3, 4, 10, 11, 12, 13, 14, 15, 16, 17, 18, 19, 20, 21, 22, 23, 24, 28, 33, 50, 58, 80, 85, 103, 110, 140, 151, 171, 185, 199, 213] ?_; dsimp only [H.keep, H.look, H.Fr.put, Nat.beq]) | (refine Gt.move ?_; refine RW.y (Y.move rfl) rfl ?_) | (refine Gt.gtr ?_; refine RW.y (Y.gtr rfl rfl) rfl ?_))
      exact FQ.none rfl rfl ⟨rfl, hkr⟩
  · rename_i hma hbm hmm
    obtain ⟨md, hmd⟩ : ∃ h : Nat, ((a : Int) + (b : Int)) / 2 = (h : Int) := ⟨(a + b) / 2, by omega⟩
    rw [hmd] at hmm
    rw [hmd]
    have hm1 : a < md := by omega
    have hm2 : md < b := by omega
    obtain ⟨s0, hs0⟩ : ∃ h : Nat, (md : Int) + (m : Int) - (b : Int) = (h : Int) := ⟨md + m - b, by omega⟩
    obtain ⟨p0, hp0⟩ : ∃ h : Nat, (md : Int) + (m : Int) - 1 = (h : Int) := ⟨md + m - 1, by omega⟩
    rw [hs0, hp0]
    obtain ⟨r0, hr0⟩ : ∃ h : Nat, h = md := ⟨md, rfl⟩
    have hb1 : s0 ≤ r0 := by omega
    have hb2 : ∀ c, s0 ≤ c → c < r0 → c ≤ p0 - c ∧ p0 - c < X.length ∧ c < p0 := fun c h1 h2 => by omega
    have hq : (.int .i64 (md : Int) : Value) = .int .i64 (r0 : Int) := by rw [hr0]
    refine CL.loopS [0, 1, 2, 3, 4, 18, 19, 20, 21, 22] (fun k vals wr => ∃ s : Nat, vals = [v, .int .i64 (a : Int), .int .i64 (m : Int), .int .i64 (b : Int), cmpV', .int .i64 (md : Int), .int .i64 ((md : Int) + (m : Int)), .int .i64 (s : Int), .int .i64 (r0 : Int), .int .i64 (p0 : Int)] ∧ k = r0 - s ∧ s0 ≤ s ∧ s ≤ r0 ∧ K0 w wr) (r0 - s0) ⟨_, rfl, s0, by simp [hs0, hr0], rfl, Nat.le_refl _, hb1, Kept.refl _ _⟩ ?_
    rintro k vals wr ⟨s, rfl, rfl, hs1, hs2, hkr⟩
    dsimp only [List.zip, List.zipWith]
    have hsr := hs.keep0 hkr
    rcases Nat.lt_or_ge s r0 with hlt | hge
    · obtain ⟨c, hc⟩ : ∃ h : Nat, ((s : Int) + (r0 : Int)) / 2 = (h : Int) := ⟨(s + r0) / 2, by omega⟩
      have hc1 : s ≤ c := by omega
      have hc2 : c < r0 := by omega
      obtain ⟨hc3, hc4, hc5⟩ := hb2 c (by omega) hc2
      have el1 := elAll hsr pmK.len (i := (p0 : Int) - (c : Int)) (by omega) (by omega)
      have el2 := elAll hsr pmK.len (i := (c : Int)) (by omega) (by omega)
      have hbb := srt_le X hX c (p0 - c) hc3 hc4
      have htp : ((p0 : Int) - (c : Int)).toNat = p0 - c := by omega
      rw [htp] at el1
      rw [show ((c : Int)).toNat = c from Int.toNat_natCast c] at el2
      repeat' (first | (refine CL.seq ?_) | (refine CL.region ?_) | (refine CL.skip ?_) | (refine CL.condP rfl (fun _ => ?_) (fun _ => ?_) <;> try (exfalso; omega)) | (refine CL.block ?_) | (refine Gt.nil ?_; refine RW.nilw [0, 1, 2, 3, 4, 10, 11, 12, 13, 14, 15, 16, 17, 18, 19, 20, 21, 22, 23, 24, 28, 33, 50, 58, 80, 85, 103, 110, 140, 151, 171, 185, 199, 213] ?_; dsimp only [H.keep, H.look, H.Fr.put, Nat.beq]) | (refine RW.y (shr1Y rfl rfl (by omega)) rfl ?_) | (refine Gt.move ?_; refine RW.y (Y.move rfl) rfl ?_) | (refine Gt.assign ?_; refine RW.y (Y.assign rfl) rfl ?_) | (refine Gt.lss ?_; refine RW.y (Y.lss rfl rfl) rfl ?_) | (refine Gt.add ?_; refine RW.y (Y.add64 rfl rfl (by omega) (by omega)) rfl ?_) | (refine Gt.convert ?_; (refine RW.y (Y.convN rfl (by first | exact wrap64_id (by omega) (by omega) | exact wrapu64_id (by omega) (by omega))) rfl ?_)))
      rw [hc]
      refine CL.draw (fun w' => K0 wr w') (by kernel_rfl) (fun w1 hheap1 hk1 => ?_)
      have hS : K0 wr w1 := hk1
      skip
      refine AW.take 0 rfl (by kernel_rfl) (by kernel_rfl) (by kernel_rfl) rfl (by assumption) (fun w hS => Y.move rfl) ?_
      refine AW.take 1 rfl (by kernel_rfl) (by kernel_rfl) (by kernel_rfl) rfl (by assumption) (fun w hS => Y.move rfl) ?_
      refine AW.take 2 rfl (by kernel_rfl) (by kernel_rfl) (by kernel_rfl) rfl (by assumption) (fun w hS => Y.move rfl) ?_
      refine AW.take 3 rfl (by kernel_rfl) (by kernel_rfl) (by kernel_rfl) rfl (by assumption) (fun w hS => Y.move rfl) ?_
      refine AW.take 4 rfl (by kernel_rfl) (by kernel_rfl) (by kernel_rfl) rfl (by assumption) (fun w hS => by exact Y.sub64 rfl rfl (by omega) (by omega)) ?_
      refine AW.take 5 rfl (by kernel_rfl) (by kernel_rfl) (by kernel_rfl) rfl (by assumption) (fun w hS => Y.idx rfl rfl (hsr.keep0 hS) (by omega) (by omega)) ?_
      refine AW.take 6 rfl (by kernel_rfl) (by kernel_rfl) (by kernel_rfl) rfl (by assumption) (fun w hS => Y.loadN (cs := pmC (X.getD (p0 - c) default)) rfl (pmC_len _) (by rw [htp]; exact el1 _ hS)) ?_
      refine AW.take 7 rfl (by kernel_rfl) (by kernel_rfl) (by kernel_rfl) rfl (by assumption) (fun w hS => Y.move rfl) ?_
      refine AW.take 8 rfl (by kernel_rfl) (by kernel_rfl) (by kernel_rfl) rfl (by assumption) (fun w hS => Y.move rfl) ?_
      refine AW.take 9 rfl (by kernel_rfl) (by kernel_rfl) (by kernel_rfl) rfl (by assumption) (fun w hS => Y.idx rfl rfl (hsr.keep0 hS) (by omega) (by omega)) ?_
      refine AW.take 10 rfl (by kernel_rfl) (by kernel_rfl) (by kernel_rfl) rfl (by assumption) (fun w hS => Y.loadN (cs := pmC (X.getD c default)) rfl (pmC_len _) (el2 _ hS)) ?_
      refine AW.next 11 rfl (by kernel_rfl) ?_
      refine RW.fnv rfl rfl rfl ((pinCmp _ _ w1).mono ?_)
      rintro e w2 ⟨hk2, rfl⟩
      refine RW.nil (Nm.then ⟨hS.trans0 hk2, ?_⟩)
      have hS := hS.trans0 hk2
      refine AW.take 12 rfl (by kernel_rfl) (by kernel_rfl) (by kernel_rfl) rfl (by assumption) (fun w hS => Y.lssE rfl rfl hbb) ?_
      refine AW.take 13 rfl (by kernel_rfl) (by kernel_rfl) (by kernel_rfl) rfl (by assumption) (fun w hS => Y.notb rfl) ?_
      refine AW.donew [0, 1, 2, 3, 4, 18, 19, 20, 21, 22, 23, 171] (by kernel_rfl) ?_
      dsimp only [H.keep, H.look, H.Fr.put, Nat.beq]
      repeat' (first | (refine CL.region ?_) | (refine CL.condT rfl ?_) | (refine CL.done ?_) | (refine Nm.block ?_) | (refine Nm.then ?_) | (refine Gt.nil ?_; refine RW.nilw [0, 1, 2, 3, 4, 10, 11, 12, 13, 14, 15, 16, 17, 18, 19, 20, 21, 22, 23, 24, 28, 33, 50, 58, 80, 85, 103, 110, 140, 151, 171, 185, 199, 213] ?_; dsimp only [H.keep, H.look, H.Fr.put, Nat.beq]) | (refine Gt.move ?_; refine RW.y (Y.move rfl) rfl ?_) | (refine Gt.assign ?_; refine RW.y (Y.assign rfl) rfl ?_) | (refine Gt.add ?_; refine RW.y (Y.add64 rfl rfl (by omega) (by omega)) rfl ?_))
      exact ⟨r0 - (c + 1), _, rfl, rfl, rfl, by omega, c + 1, rfl, rfl, by omega, by omega, hkr.trans0 hS⟩
    · have e : s = r0 := by omega
      subst e
      repeat' (first | (refine CL.seq ?_) | (refine CL.region ?_) | (refine CL.skip ?_) | (refine CL.condP rfl (fun _ => ?_) (fun _ => ?_) <;> try (exfalso; omega)) | (refine CL.exit ?_) | (refine Ex.then ?_) | (refine Ex.hit ?_) | (refine Gt.nil ?_; refine RW.nilw [0, 1, 2, 3, 4, 10, 11, 12, 13, 14, 15, 16, 17, 18, 19, 20, 21, 22, 23, 24, 28, 33, 50, 58, 80, 85, 103, 110, 140, 151, 171, 185, 199, 213] ?_; dsimp only [H.keep, H.look, H.Fr.put, Nat.beq]) | (refine Gt.move ?_; refine RW.y (Y.move rfl) rfl ?_) | (refine Gt.guard ?_; first | (refine RW.part rfl rfl rfl (fun _ => ?_) (fun _ => ?_) <;> try (exfalso; omega)) | (refine RW.on rfl rfl rfl ?_)) | (refine Gt.assign ?_; refine RW.y (Y.assign rfl) rfl ?_) | (refine Gt.lss ?_; refine RW.y (Y.lss rfl rfl) rfl ?_) | (refine Gt.sub ?_; refine RW.y (Y.sub64 rfl rfl (by omega) (by omega)) rfl ?_) | (refine Gt.pick ?_; (refine RW.y (Y.pickT rfl rfl) rfl ?_)))
      all_goals first
        | exact FQ.norm (FQ.none rfl rfl ⟨rfl, hkr⟩)
        | (rw [show (md : Int) + (m : Int) - (s : Int) = (m : Int) from by omega]
           refine RW.fn rfl rfl ((ih md m b (by omega) (by omega) h2 h3 wr hsr).mono ?_)
           rintro e2 w2 ⟨rfl, hk2⟩
           repeat' (first | (refine CL.done ?_) | (refine Gt.nil ?_; refine RW.nilw [0, 1, 2, 3, 4, 10, 11, 12, 13, 14, 15, 16, 17, 18, 19, 20, 21, 22, 23, 24, 28, 33, 50, 58, 80, 85, 103, 110, 140, 151, 171, 185, 199, 213] ?_; dsimp only [H.keep, H.look, H.Fr.put, Nat.beq]))
           exact FQ.norm (FQ.none rfl rfl ⟨rfl, hkr.trans0 hk2⟩))
        | (rw [show (s : Int) = (m : Int) from by omega]
           refine RW.fn rfl rfl ((ih a m md (by omega) h1 (by omega) (by omega) wr hsr).mono ?_)
           rintro e2 w2 ⟨rfl, hk2⟩
           skip
           exact FQ.norm (FQ.none rfl rfl ⟨rfl, hkr.trans0 hk2⟩))
  · rename_i hma hbm hmm
    obtain ⟨md, hmd⟩ : ∃ h : Nat, ((a : Int) + (b : Int)) / 2 = (h : Int) := ⟨(a + b) / 2, by omega⟩
    rw [hmd] at hmm
    rw [hmd]
    have hm1 : a < md := by omega
    have hm2 : md < b := by omega
    obtain ⟨s0, hs0⟩ : ∃ h : Nat, h = a := ⟨a, rfl⟩
    obtain ⟨p0, hp0⟩ : ∃ h : Nat, (md : Int) + (m : Int) - 1 = (h : Int) := ⟨md + m - 1, by omega⟩
    rw [hp0]
    obtain ⟨r0, hr0⟩ : ∃ h : Nat, h = m := ⟨m, rfl⟩
    have hb1 : s0 ≤ r0 := by omega
    have hb2 : ∀ c, s0 ≤ c → c < r0 → c ≤ p0 - c ∧ p0 - c < X.length ∧ c < p0 := fun c h1 h2 => by omega
    have hq : (.int .i64 (m : Int) : Value) = .int .i64 (r0 : Int) := by rw [hr0]
    refine CL.loopS [0, 1, 2, 3, 4, 18, 19, 20, 21, 22] (fun k vals wr => ∃ s : Nat, vals = [v, .int .i64 (a : Int), .int .i64 (m : Int), .int .i64 (b : Int), cmpV', .int .i64 (md : Int), .int .i64 ((md : Int) + (m : Int)), .int .i64 (s : Int), .int .i64 (r0 : Int), .int .i64 (p0 : Int)] ∧ k = r0 - s ∧ s0 ≤ s ∧ s ≤ r0 ∧ K0 w wr) (r0 - s0) ⟨_, rfl, s0, by simp [hs0, hr0], rfl, Nat.le_refl _, hb1, Kept.refl _ _⟩ ?_
    rintro k vals wr ⟨s, rfl, rfl, hs1, hs2, hkr⟩
    dsimp only [List.zip, List.zipWith]
    have hsr := hs.keep0 hkr
    rcases Nat.lt_or_ge s r0 with hlt | hge
    · obtain ⟨c, hc⟩ : ∃ h : Nat, ((s : Int) + (r0 : Int)) / 2 = (h : Int) := ⟨(s + r0) / 2, by omega⟩
      have hc1 : s ≤ c := by omega
      have hc2 : c < r0 := by omega
      obtain ⟨hc3, hc4, hc5⟩ := hb2 c (by omega) hc2
      have el1 := elAll hsr pmK.len (i := (p0 : Int) - (c : Int)) (by omega) (by omega)
      have el2 := elAll hsr pmK.len (i := (c : Int)) (by omega) (by omega)
      have hbb := srt_le X hX c (p0 - c) hc3 hc4
      have htp : ((p0 : Int) - (c : Int)).toNat = p0 - c := by omega
      rw [htp] at el1
      rw [show ((c : Int)).toNat = c from Int.toNat_natCast c] at el2
      repeat' (first | (refine CL.seq ?_) | (refine CL.region ?_) | (refine CL.skip ?_) | (refine CL.condP rfl (fun _ => ?_) (fun _ => ?_) <;> try (exfalso; omega)) | (refine CL.block ?_) | (refine Gt.nil ?_; refine RW.nilw [0, 1, 2, 3, 4, 10, 11, 12, 13, 14, 15, 16, 17, 18, 19, 20, 21, 22, 23, 24, 28, 33, 50, 58, 80, 85, 103, 110, 140, 151, 171, 185, 199, 213] ?_; dsimp only [H.keep, H.look, H.Fr.put, Nat.beq]) | (refine RW.y (shr1Y rfl rfl (by omega)) rfl ?_) | (refine Gt.move ?_; refine RW.y (Y.move rfl) rfl ?_) | (refine Gt.assign ?_; refine RW.y (Y.assign rfl) rfl ?_) | (refine Gt.lss ?_; refine RW.y (Y.lss rfl rfl) rfl ?_) | (refine Gt.add ?_; refine RW.y (Y.add64 rfl rfl (by omega) (by omega)) rfl ?_) | (refine Gt.convert ?_; (refine RW.y (Y.convN rfl (by first | exact wrap64_id (by omega) (by omega) | exact wrapu64_id (by omega) (by omega))) rfl ?_)))
      rw [hc]
      refine CL.draw (fun w' => K0 wr w') (by kernel_rfl) (fun w1 hheap1 hk1 => ?_)
      have hS : K0 wr w1 := hk1
      skip
      refine AW.take 0 rfl (by kernel_rfl) (by kernel_rfl) (by kernel_rfl) rfl (by assumption) (fun w hS => Y.move rfl) ?_
      refine AW.take 1 rfl (by kernel_rfl) (by kernel_rfl) (by kernel_rfl) rfl (by assumption) (fun w hS => Y.move rfl) ?_
      refine AW.take 2 rfl (by kernel_rfl) (by kernel_rfl) (by kernel_rfl) rfl (by assumption) (fun w hS => Y.move rfl) ?_
      refine AW.take 3 rfl (by kernel_rfl) (by kernel_rfl) (by kernel_rfl) rfl (by assumption) (fun w hS => Y.move rfl) ?_
      refine AW.take 4 rfl (by kernel_rfl) (by kernel_rfl) (by kernel_rfl) rfl (by assumption) (fun w hS => by exact Y.sub64 rfl rfl (by omega) (by omega)) ?_
      refine AW.take 5 rfl (by kernel_rfl) (by kernel_rfl) (by kernel_rfl) rfl (by assumption) (fun w hS => Y.idx rfl rfl (hsr.keep0 hS) (by omega) (by omega)) ?_
      refine AW.take 6 rfl (by kernel_rfl) (by kernel_rfl) (by kernel_rfl) rfl (by assumption) (fun w hS => Y.loadN (cs := pmC (X.getD (p0 - c) default)) rfl (pmC_len _) (by rw [htp]; exact el1 _ hS)) ?_
      refine AW.take 7 rfl (by kernel_rfl) (by kernel_rfl) (by kernel_rfl) rfl (by assumption) (fun w hS => Y.move rfl) ?_
      refine AW.take 8 rfl (by kernel_rfl) (by kernel_rfl) (by kernel_rfl) rfl (by assumption) (fun w hS => Y.move rfl) ?_
      refine AW.take 9 rfl (by kernel_rfl) (by kernel_rfl) (by kernel_rfl) rfl (by assumption) (fun w hS => Y.idx rfl rfl (hsr.keep0 hS) (by omega) (by omega)) ?_
      refine AW.take 10 rfl (by kernel_rfl) (by kernel_rfl) (by kernel_rfl) rfl (by assumption) (fun w hS => Y.loadN (cs := pmC (X.getD c default)) rfl (pmC_len _) (el2 _ hS)) ?_
      refine AW.next 11 rfl (by kernel_rfl) ?_
      refine RW.fnv rfl rfl rfl ((pinCmp _ _ w1).mono ?_)
      rintro e w2 ⟨hk2, rfl⟩
      refine RW.nil (Nm.then ⟨hS.trans0 hk2, ?_⟩)
      have hS := hS.trans0 hk2
      refine AW.take 12 rfl (by kernel_rfl) (by kernel_rfl) (by kernel_rfl) rfl (by assumption) (fun w hS => Y.lssE rfl rfl hbb) ?_
      refine AW.take 13 rfl (by kernel_rfl) (by kernel_rfl) (by kernel_rfl) rfl (by assumption) (fun w hS => Y.notb rfl) ?_
      refine AW.donew [0, 1, 2, 3, 4, 18, 19, 20, 21, 22, 23, 171] (by kernel_rfl) ?_
      dsimp only [H.keep, H.look, H.Fr.put, Nat.beq]
      repeat' (first | (refine CL.region ?_) | (refine CL.condT rfl ?_) | (refine CL.done ?_) | (refine Nm.block ?_) | (refine Nm.then ?_) | (refine Gt.nil ?_; refine RW.nilw [0, 1, 2, 3, 4, 10, 11, 12, 13, 14, 15, 16, 17, 18, 19, 20, 21, 22, 23, 24, 28, 33, 50, 58, 80, 85, 103, 110, 140, 151, 171, 185, 199, 213] ?_; dsimp only [H.keep, H.look, H.Fr.put, Nat.beq]) | (refine Gt.move ?_; refine RW.y (Y.move rfl) rfl ?_) | (refine Gt.assign ?_; refine RW.y (Y.assign rfl) rfl ?_) | (refine Gt.add ?_; refine RW.y (Y.add64 rfl rfl (by omega) (by omega)) rfl ?_))
      exact ⟨r0 - (c + 1), _, rfl, rfl, rfl, by omega, c + 1, rfl, rfl, by omega, by omega, hkr.trans0 hS⟩
    · have e : s = r0 := by omega
      subst e
      repeat' (first | (refine CL.seq ?_) | (refine CL.region ?_) | (refine CL.skip ?_) | (refine CL.condP rfl (fun _ => ?_) (fun _ => ?_) <;> try (exfalso; omega)) | (refine CL.condF rfl ?_) | (refine CL.exit ?_) | (refine Ex.then ?_) | (refine Ex.hit ?_) | (refine CL.done ?_) | (refine Gt.nil ?_; refine RW.nilw [0, 1, 2, 3, 4, 10, 11, 12, 13, 14, 15, 16, 17, 18, 19, 20, 21, 22, 23, 24, 28, 33, 50, 58, 80, 85, 103, 110, 140, 151, 171, 185, 199, 213] ?_; dsimp only [H.keep, H.look, H.Fr.put, Nat.beq]) | (refine Gt.move ?_; refine RW.y (Y.move rfl) rfl ?_) | (refine Gt.guard ?_; first | (refine RW.part rfl rfl rfl (fun _ => ?_) (fun _ => ?_) <;> try (exfalso; omega)) | (refine RW.on rfl rfl rfl ?_) | (refine RW.off1 rfl rfl rfl rfl rfl ?_)) | (refine Gt.assign ?_; refine RW.y (Y.assign rfl) rfl ?_) | (refine Gt.lss ?_; refine RW.y (Y.lss rfl rfl) rfl ?_) | (refine Gt.sub ?_; refine RW.y (Y.sub64 rfl rfl (by omega) (by omega)) rfl ?_) | (refine Gt.pick ?_; first | (refine RW.y (Y.pickT rfl rfl) rfl ?_) | (refine RW.y (Y.pickF rfl rfl) rfl ?_)))
      all_goals first
        | exact FQ.norm (FQ.none rfl rfl ⟨rfl, hkr⟩)
        | (rw [show (md : Int) + (m : Int) - (s : Int) = (m : Int) from by omega]
           refine RW.fn rfl rfl ((ih md m b (by omega) (by omega) h2 h3 wr hsr).mono ?_)
           rintro e2 w2 ⟨rfl, hk2⟩
           skip
           exact FQ.norm (FQ.none rfl rfl ⟨rfl, hkr.trans0 hk2⟩))
        | (rw [show (s : Int) = (m : Int) from by omega]
           refine RW.fn rfl rfl ((ih a m md (by omega) h1 (by omega) (by omega) wr hsr).mono ?_)
           rintro e2 w2 ⟨rfl, hk2⟩
           repeat' (first | (refine CL.seq ?_) | (refine CL.region ?_) | (refine CL.skip ?_) | (refine CL.condF rfl ?_) | (refine CL.done ?_) | (refine Gt.nil ?_; refine RW.nilw [0, 1, 2, 3, 4, 10, 11, 12, 13, 14, 15, 16, 17, 18, 19, 20, 21, 22, 23, 24, 28, 33, 50, 58, 80, 85, 103, 110, 140, 151, 171, 185, 199, 213] ?_; dsimp only [H.keep, H.look, H.Fr.put, Nat.beq]) | (refine Gt.move ?_; refine RW.y (Y.move rfl) rfl ?_) | (refine Gt.guard ?_; first | (refine RW.part rfl rfl rfl (fun _ => ?_) (fun _ => ?_) <;> try (exfalso; omega)) | (refine RW.off1 rfl rfl rfl rfl rfl ?_)) | (refine Gt.lss ?_; refine RW.y (Y.lss rfl rfl) rfl ?_) | (refine Gt.pick ?_; (refine RW.y (Y.pickF rfl rfl) rfl ?_)))
           exact FQ.norm (FQ.none rfl rfl ⟨rfl, hkr.trans0 hk2⟩))
theorem symMergeP (v : Value) (X : List Pm) (hX : SrtN nmP X) (hl : X.length ≤ 1000000) : ∀ n, SymC v X n
  | 0, a, m, b, hn, h1, h2, h3, w, hs => by omega
  | n + 1, a, m, b, hn, h1, h2, h3, w, hs => symStep v X hX hl n (symMergeP v X hX hl n) a m b hn h1 h2 h3 w hs
end Go.Proofs.YtggodknolmdegaaGreatDoor.Lk

namespace Go.Proofs.YtggodknolmdegaaGreatDoor.Lk
open Go.RowKit H S Ve
attribute [local irreducible] H.CL H.RW H.CW H.Yd H.thenK H.blockQ Go.Calls keyAt unhexB

theorem stableFew (B : Nat) (v : Value) (X : List Pm) (w : World) (how : w.ownsRow B pmT 37 v X.length (X.flatMap pmC)) (hD : ∀ x ∈ X, x.p.oneCell' = true) (hl : X.length ≤ 20) :
    Calls Tryz.prog 54 #[v, .int .i64 (X.length : Int), cmpV'] w fun e w' => e = .returned (.tuple #[]) ∧ w'.ownsRow B pmT 37 v X.length ((sortN nmP X).flatMap pmC) ∧ Kept (fun k => v.ownBlock = some k) w w' := by
  refine H.enter Tryz.func54 Tryz.ntmps54 rfl rfl ?_; dsimp only [H.args]
  repeat' (first | (refine CL.seq ?_) | (refine CL.region ?_) | (refine CL.block ?_) | (refine Gt.nil ?_; refine RW.nilw [0, 1, 2, 6, 7, 8, 9, 13, 30, 35, 54] ?_; dsimp only [H.keep, H.look, H.Fr.put, Nat.beq]) | (refine Gt.move ?_; refine RW.y (Y.move rfl) rfl ?_) | (refine Gt.assign ?_; refine RW.y (Y.assign rfl) rfl ?_))
  refine CL.loopS [0, 1, 2, 6, 7, 8] (fun k vals wr => ∃ i : Nat, vals = [v, .int .i64 (X.length : Int), cmpV', .int .i64 20, .int .i64 (i : Int), .int .i64 ((i : Int) + 20)] ∧ k = 20 - i ∧ ((i = 0 ∧ wr = w) ∨ (i = 20 ∧ X.length = 20 ∧ wr.ownsRow B pmT 37 v X.length ((sortN nmP X).flatMap pmC) ∧ Kept (fun k => v.ownBlock = some k) w wr))) 20 ⟨_, rfl, 0, rfl, rfl, .inl ⟨rfl, rfl⟩⟩ ?_
  rintro k vals wr ⟨i, rfl, rfl, ⟨rfl, rfl⟩ | ⟨rfl, hl20, howr, hkr⟩⟩
  · dsimp only [List.zip, List.zipWith]
    rcases Nat.lt_or_ge X.length 20 with hlt | hge
    · repeat' (first | (refine CL.seq ?_) | (refine CL.region ?_) | (refine CL.condP rfl (fun _ => ?_) (fun _ => ?_) <;> try (exfalso; omega)) | (refine CL.exit ?_) | (refine Ex.then ?_) | (refine Ex.hit ?_) | (refine Gt.nil ?_; refine RW.nilw [0, 1, 2, 6, 7, 8, 9, 13, 30, 35, 54] ?_; dsimp only [H.keep, H.look, H.Fr.put, Nat.beq]) | (refine Gt.move ?_; refine RW.y (Y.move rfl) rfl ?_) | (refine Gt.leq ?_; refine RW.y (Y.leq rfl rfl) rfl ?_))
      refine RW.fn rfl rfl ((insertionP B v X 0 X.length wr how hD (Nat.zero_le _) (Nat.le_refl _) (by omega)).mono ?_)
      rintro e w1 ⟨rfl, how1, hk1⟩
      rw [segN_all] at how1
      repeat' (first | (refine CL.block ?_) | (refine Gt.nil ?_; refine RW.nilw [0, 1, 2, 6, 7, 8, 9, 13, 30, 35, 54] ?_; dsimp only [H.keep, H.look, H.Fr.put, Nat.beq]))
      refine CL.loopS [0, 1, 2, 6] (fun k vals wt => vals = [v, .int .i64 (X.length : Int), cmpV', .int .i64 20] ∧ wt = w1) 0 ⟨_, rfl, rfl, rfl⟩ ?_
      rintro k vals wt ⟨rfl, rfl⟩
      dsimp only [List.zip, List.zipWith]
      repeat' (first | (refine CL.seq ?_) | (refine CL.region ?_) | (refine CL.condP rfl (fun _ => ?_) (fun _ => ?_) <;> try (exfalso; omega)) | (refine CL.exit ?_) | (refine Ex.then ?_) | (refine Ex.hit ?_) | (refine CL.done ?_) | (refine Gt.nil ?_; refine RW.nilw [0, 1, 2, 6, 7, 8, 9, 13, 30, 35, 54] ?_; dsimp only [H.keep, H.look, H.Fr.put, Nat.beq]) | (refine Gt.move ?_; refine RW.y (Y.move rfl) rfl ?_) | (refine Gt.lss ?_; refine RW.y (Y.lss rfl rfl) rfl ?_))
      exact FQ.norm (FQ.none rfl rfl ⟨rfl, how1, hk1⟩)
    · have hl20 : X.length = 20 := by omega
      repeat' (first | (refine CL.seq ?_) | (refine CL.region ?_) | (refine CL.skip ?_) | (refine CL.condP rfl (fun _ => ?_) (fun _ => ?_) <;> try (exfalso; omega)) | (refine CL.block ?_) | (refine Gt.nil ?_; refine RW.nilw [0, 1, 2, 6, 7, 8, 9, 13, 30, 35, 54] ?_; dsimp only [H.keep, H.look, H.Fr.put, Nat.beq]) | (refine Gt.move ?_; refine RW.y (Y.move rfl) rfl ?_) | (refine Gt.leq ?_; refine RW.y (Y.leq rfl rfl) rfl ?_))
      refine RW.fn rfl rfl ((insertionP B v X 0 20 wr how hD (Nat.zero_le _) (by omega) (by omega)).mono ?_)
      rintro e w1 ⟨rfl, how1, hk1⟩
      rw [show (20 : Nat) = X.length from hl20.symm, segN_all] at how1
      repeat' (first | (refine CL.seq ?_) | (refine CL.region ?_) | (refine CL.done ?_) | (refine Nm.block ?_) | (refine Nm.then ?_) | (refine Gt.nil ?_; refine RW.nilw [0, 1, 2, 6, 7, 8, 9, 13, 30, 35, 54] ?_; dsimp only [H.keep, H.look, H.Fr.put, Nat.beq]) | (refine Gt.move ?_; refine RW.y (Y.move rfl) rfl ?_) | (refine Gt.assign ?_; refine RW.y (Y.assign rfl) rfl ?_) | (refine Gt.add ?_; refine RW.y (Y.add64 rfl rfl (by omega) (by omega)) rfl ?_))
      exact ⟨0, _, rfl, rfl, rfl, by omega, 20, rfl, rfl, .inr ⟨rfl, hl20, how1, hk1⟩⟩
  · dsimp only [List.zip, List.zipWith]
    repeat' (first | (refine CL.seq ?_) | (refine CL.region ?_) | (refine CL.condP rfl (fun _ => ?_) (fun _ => ?_) <;> try (exfalso; omega)) | (refine CL.exit ?_) | (refine Ex.then ?_) | (refine Ex.hit ?_) | (refine Gt.nil ?_; refine RW.nilw [0, 1, 2, 6, 7, 8, 9, 13, 30, 35, 54] ?_; dsimp only [H.keep, H.look, H.Fr.put, Nat.beq]) | (refine Gt.move ?_; refine RW.y (Y.move rfl) rfl ?_) | (refine Gt.leq ?_; refine RW.y (Y.leq rfl rfl) rfl ?_))
    have hsl := sortN_len nmP X
    have hone : ∀ x ∈ sortN nmP X, x.p.oneCell' = true := fun x hx => hD x ((sortN_mem nmP X x).1 hx)
    have how' : wr.ownsRow B pmT 37 v (sortN nmP X).length ((sortN nmP X).flatMap pmC) := by rw [hsl]; exact howr
    refine RW.fn rfl rfl ((insertionP B v (sortN nmP X) 20 X.length wr how' hone (by omega) (by omega) (by omega)).mono ?_)
    rintro e w1 ⟨rfl, how1, hk1⟩
    rw [segN_same nmP _ _ _ (by omega) (sortN_srt nmP X), hsl] at how1
    repeat' (first | (refine CL.block ?_) | (refine Gt.nil ?_; refine RW.nilw [0, 1, 2, 6, 7, 8, 9, 13, 30, 35, 54] ?_; dsimp only [H.keep, H.look, H.Fr.put, Nat.beq]))
    refine CL.loopS [0, 1, 2, 6] (fun k vals wt => vals = [v, .int .i64 (X.length : Int), cmpV', .int .i64 20] ∧ wt = w1) 0 ⟨_, rfl, rfl, rfl⟩ ?_
    rintro k vals wt ⟨rfl, rfl⟩
    dsimp only [List.zip, List.zipWith]
    repeat' (first | (refine CL.seq ?_) | (refine CL.region ?_) | (refine CL.condP rfl (fun _ => ?_) (fun _ => ?_) <;> try (exfalso; omega)) | (refine CL.exit ?_) | (refine Ex.then ?_) | (refine Ex.hit ?_) | (refine CL.done ?_) | (refine Gt.nil ?_; refine RW.nilw [0, 1, 2, 6, 7, 8, 9, 13, 30, 35, 54] ?_; dsimp only [H.keep, H.look, H.Fr.put, Nat.beq]) | (refine Gt.move ?_; refine RW.y (Y.move rfl) rfl ?_) | (refine Gt.lss ?_; refine RW.y (Y.lss rfl rfl) rfl ?_))
    exact FQ.norm (FQ.none rfl rfl ⟨rfl, how1, hkr.trans hk1 fun k h => .inl h⟩)

theorem stableSrt (B : Nat) (v : Value) (X : List Pm) (w : World) (how : w.ownsRow B pmT 37 v X.length (X.flatMap pmC)) (hD : ∀ x ∈ X, x.p.oneCell' = true) (hX : SrtN nmP X) (hl : X.length ≤ 1000) :
    Calls Tryz.prog 54 #[v, .int .i64 (X.length : Int), cmpV'] w fun e w' => e = .returned (.tuple #[]) ∧ w'.ownsRow B pmT 37 v X.length (X.flatMap pmC) ∧ Kept (fun k => v.ownBlock = some k) w w' := by
  have hsym := symMergeP v X hX (by omega)
  refine H.enter Tryz.func54 Tryz.ntmps54 rfl rfl ?_; dsimp only [H.args]
  repeat' (first | (refine CL.seq ?_) | (refine CL.region ?_) | (refine CL.block ?_) | (refine Gt.nil ?_; refine RW.nilw [0, 1, 2, 6, 7, 8, 9, 13, 30, 35, 54] ?_; dsimp only [H.keep, H.look, H.Fr.put, Nat.beq]) | (refine Gt.move ?_; refine RW.y (Y.move rfl) rfl ?_) | (refine Gt.assign ?_; refine RW.y (Y.assign rfl) rfl ?_))
  refine CL.loopS [0, 1, 2, 6, 7, 8] (fun k vals wr => ∃ i : Nat, vals = [v, .int .i64 (X.length : Int), cmpV', .int .i64 20, .int .i64 (i : Int), .int .i64 ((i : Int) + 20)] ∧ k = X.length - i ∧ i ≤ X.length ∧ wr.ownsRow B pmT 37 v X.length (X.flatMap pmC) ∧ Kept (fun k => v.ownBlock = some k) w wr) X.length ⟨_, rfl, 0, rfl, rfl, Nat.zero_le _, how, Kept.refl _ _⟩ ?_
  rintro k vals wr ⟨i, rfl, rfl, hi, howr, hkr⟩
  dsimp only [List.zip, List.zipWith]
  rcases Nat.lt_or_ge X.length (i + 20) with hlt | hge
  · repeat' (first | (refine CL.seq ?_) | (refine CL.region ?_) | (refine CL.condP rfl (fun _ => ?_) (fun _ => ?_) <;> try (exfalso; omega)) | (refine CL.exit ?_) | (refine Ex.then ?_) | (refine Ex.hit ?_) | (refine Gt.nil ?_; refine RW.nilw [0, 1, 2, 6, 7, 8, 9, 13, 30, 35, 54] ?_; dsimp only [H.keep, H.look, H.Fr.put, Nat.beq]) | (refine Gt.move ?_; refine RW.y (Y.move rfl) rfl ?_) | (refine Gt.leq ?_; refine RW.y (Y.leq rfl rfl) rfl ?_))
    refine RW.fn rfl rfl ((insertionP B v X i X.length wr howr hD hi (Nat.le_refl _) (by omega)).mono ?_)
    rintro e w1 ⟨rfl, how1, hk1⟩
    rw [segN_same nmP _ _ _ hi hX] at how1
    have hk01 := hkr.trans hk1 fun k h => .inl h
    repeat' (first | (refine CL.block ?_) | (refine Gt.nil ?_; refine RW.nilw [0, 1, 2, 6, 7, 8, 9, 13, 30, 35, 54] ?_; dsimp only [H.keep, H.look, H.Fr.put, Nat.beq]))
    refine CL.loopS [0, 1, 2, 6] (fun k vals wt => ∃ s : Nat, vals = [v, .int .i64 (X.length : Int), cmpV', .int .i64 (s : Int)] ∧ k = 2000 - s ∧ 20 ≤ s ∧ s ≤ 2000 ∧ K0 w1 wt) 1980 ⟨_, rfl, 20, rfl, rfl, by omega, by omega, Kept.refl _ _⟩ ?_
    rintro k vals wt ⟨s, rfl, rfl, hs1, hs2, hkt⟩
    dsimp only [List.zip, List.zipWith]
    rcases Nat.lt_or_ge s X.length with hsl | hsl
    · repeat' (first | (refine CL.seq ?_) | (refine CL.region ?_) | (refine CL.skip ?_) | (refine CL.condP rfl (fun _ => ?_) (fun _ => ?_) <;> try (exfalso; omega)) | (refine Gt.nil ?_; refine RW.nilw [0, 1, 2, 6, 7, 8, 9, 13, 30, 35, 54] ?_; dsimp only [H.keep, H.look, H.Fr.put, Nat.beq]) | (refine Gt.move ?_; refine RW.y (Y.move rfl) rfl ?_) | (refine Gt.lss ?_; refine RW.y (Y.lss rfl rfl) rfl ?_))
      refine CL.block ?_
      repeat' (first | (refine CL.seq ?_) | (refine CL.region ?_) | (refine Gt.nil ?_; refine RW.nilw [0, 1, 2, 6, 7, 8, 9, 13, 30, 35, 54] ?_; dsimp only [H.keep, H.look, H.Fr.put, Nat.beq]) | (refine Gt.move ?_; refine RW.y (Y.move rfl) rfl ?_) | (refine Gt.assign ?_; refine RW.y (Y.assign rfl) rfl ?_) | (refine Gt.mul ?_; (refine RW.y (Y.mul64 rfl rfl (by omega) (by omega)) rfl ?_)))
      refine CL.cutS [0, 1, 2, 6, 7] (fun vals wx => ∃ a : Nat, vals = [v, .int .i64 (X.length : Int), cmpV', .int .i64 (s : Int), .int .i64 (a : Int)] ∧ a ≤ X.length ∧ X.length < a + 2 * s ∧ K0 w1 wx) (by simp) ?_ ?_
      · refine CL.block ?_
        refine CL.loopS [0, 1, 2, 6, 7, 8] (fun k vals wx => ∃ a : Nat, vals = [v, .int .i64 (X.length : Int), cmpV', .int .i64 (s : Int), .int .i64 (a : Int), .int .i64 ((a : Int) + 2 * (s : Int))] ∧ k = X.length - a ∧ a ≤ X.length ∧ K0 w1 wx) X.length ⟨_, rfl, 0, by simp, rfl, Nat.zero_le _, hkt⟩ ?_
        rintro k vals wx ⟨a, rfl, rfl, ha, hkx⟩
        dsimp only [List.zip, List.zipWith]
        rcases Nat.lt_or_ge X.length (a + 2 * s) with h2 | h2
        · repeat' (first | (refine CL.seq ?_) | (refine CL.region ?_) | (refine CL.condP rfl (fun _ => ?_) (fun _ => ?_) <;> try (exfalso; omega)) | (refine CL.exit ?_) | (refine Ex.then ?_) | (refine Ex.hit ?_) | (refine CL.done ?_) | (refine Nm.then ?_) | (refine Gt.nil ?_; refine RW.nilw [0, 1, 2, 6, 7, 8, 9, 13, 30, 35, 54] ?_; dsimp only [H.keep, H.look, H.Fr.put, Nat.beq]) | (refine Gt.move ?_; refine RW.y (Y.move rfl) rfl ?_) | (refine Gt.leq ?_; refine RW.y (Y.leq rfl rfl) rfl ?_))
          exact ⟨_, rfl, rfl, rfl, a, rfl, ha, h2, hkx⟩
        · repeat' (first | (refine CL.seq ?_) | (refine CL.region ?_) | (refine CL.skip ?_) | (refine CL.condP rfl (fun _ => ?_) (fun _ => ?_) <;> try (exfalso; omega)) | (refine CL.block ?_) | (refine Gt.nil ?_; refine RW.nilw [0, 1, 2, 6, 7, 8, 9, 13, 30, 35, 54] ?_; dsimp only [H.keep, H.look, H.Fr.put, Nat.beq]) | (refine Gt.move ?_; refine RW.y (Y.move rfl) rfl ?_) | (refine Gt.add ?_; refine RW.y (Y.add64 rfl rfl (by omega) (by omega)) rfl ?_) | (refine Gt.leq ?_; refine RW.y (Y.leq rfl rfl) rfl ?_))
          have hc := hsym X.length a (a + s) (a + 2 * s) (by omega) (by omega) (by omega) h2 wx (Sl.of_own (own_kept0 how1 hkx))
          rw [show ((a + s : Nat) : Int) = (a : Int) + (s : Int) from by omega, show ((a + 2 * s : Nat) : Int) = (a : Int) + 2 * (s : Int) from by omega] at hc
          refine RW.fn rfl rfl (hc.mono ?_)
          rintro e2 w2 ⟨rfl, hk2⟩
          repeat' (first | (refine CL.seq ?_) | (refine CL.region ?_) | (refine CL.done ?_) | (refine Nm.block ?_) | (refine Nm.then ?_) | (refine Gt.nil ?_; refine RW.nilw [0, 1, 2, 6, 7, 8, 9, 13, 30, 35, 54] ?_; dsimp only [H.keep, H.look, H.Fr.put, Nat.beq]) | (refine Gt.move ?_; refine RW.y (Y.move rfl) rfl ?_) | (refine Gt.assign ?_; refine RW.y (Y.assign rfl) rfl ?_) | (refine Gt.add ?_; refine RW.y (Y.add64 rfl rfl (by omega) (by omega)) rfl ?_) | (refine Gt.mul ?_; (refine RW.y (Y.mul64 rfl rfl (by omega) (by omega)) rfl ?_)))
          exact ⟨X.length - (a + 2 * s), _, rfl, rfl, rfl, by omega, a + 2 * s, by simp, rfl, h2, hkx.trans0 hk2⟩
      · rintro vals wx ⟨a, rfl, ha, ha2, hkx⟩
        dsimp only [List.zip, List.zipWith]
        rcases Nat.lt_or_ge (a + s) X.length with h2 | h2
        · repeat' (first | (refine CL.seq ?_) | (refine CL.region ?_) | (refine CL.condP rfl (fun _ => ?_) (fun _ => ?_) <;> try (exfalso; omega)) | (refine Gt.nil ?_; refine RW.nilw [0, 1, 2, 6, 7, 8, 9, 13, 30, 35, 54] ?_; dsimp only [H.keep, H.look, H.Fr.put, Nat.beq]) | (refine Gt.move ?_; refine RW.y (Y.move rfl) rfl ?_) | (refine Gt.assign ?_; refine RW.y (Y.assign rfl) rfl ?_) | (refine Gt.add ?_; refine RW.y (Y.add64 rfl rfl (by omega) (by omega)) rfl ?_) | (refine Gt.lss ?_; refine RW.y (Y.lss rfl rfl) rfl ?_))
          have hc := hsym X.length a (a + s) X.length (by omega) (by omega) h2 (Nat.le_refl _) wx (Sl.of_own (own_kept0 how1 hkx))
          rw [show ((a + s : Nat) : Int) = (a : Int) + (s : Int) from by omega] at hc
          refine RW.fn rfl rfl (hc.mono ?_)
          rintro e2 w2 ⟨rfl, hk2⟩
          repeat' (first | (refine CL.region ?_) | (refine CL.done ?_) | (refine Nm.block ?_) | (refine Nm.then ?_) | (refine Gt.nil ?_; refine RW.nilw [0, 1, 2, 6, 7, 8, 9, 13, 30, 35, 54] ?_; dsimp only [H.keep, H.look, H.Fr.put, Nat.beq]) | (refine Gt.move ?_; refine RW.y (Y.move rfl) rfl ?_) | (refine Gt.assign ?_; refine RW.y (Y.assign rfl) rfl ?_) | (refine Gt.mul ?_; (refine RW.y (Y.mul64 rfl rfl (by omega) (by omega)) rfl ?_)))
          exact ⟨2000 - 2 * s, _, rfl, rfl, rfl, by omega, 2 * s, by simp; omega, rfl, by omega, by omega, hkx.trans0 hk2⟩
        · repeat' (first | (refine CL.seq ?_) | (refine CL.region ?_) | (refine CL.skip ?_) | (refine CL.condP rfl (fun _ => ?_) (fun _ => ?_) <;> try (exfalso; omega)) | (refine CL.done ?_) | (refine Nm.block ?_) | (refine Nm.then ?_) | (refine Gt.nil ?_; refine RW.nilw [0, 1, 2, 6, 7, 8, 9, 13, 30, 35, 54] ?_; dsimp only [H.keep, H.look, H.Fr.put, Nat.beq]) | (refine Gt.move ?_; refine RW.y (Y.move rfl) rfl ?_) | (refine Gt.assign ?_; refine RW.y (Y.assign rfl) rfl ?_) | (refine Gt.add ?_; refine RW.y (Y.add64 rfl rfl (by omega) (by omega)) rfl ?_) | (refine Gt.mul ?_; (refine RW.y (Y.mul64 rfl rfl (by omega) (by omega)) rfl ?_)) | (refine Gt.lss ?_; refine RW.y (Y.lss rfl rfl) rfl ?_))
          exact ⟨2000 - 2 * s, _, rfl, rfl, rfl, by omega, 2 * s, by simp; omega, rfl, by omega, by omega, hkx⟩
    · repeat' (first | (refine CL.seq ?_) | (refine CL.region ?_) | (refine CL.condP rfl (fun _ => ?_) (fun _ => ?_) <;> try (exfalso; omega)) | (refine CL.exit ?_) | (refine Ex.then ?_) | (refine Ex.hit ?_) | (refine CL.done ?_) | (refine Gt.nil ?_; refine RW.nilw [0, 1, 2, 6, 7, 8, 9, 13, 30, 35, 54] ?_; dsimp only [H.keep, H.look, H.Fr.put, Nat.beq]) | (refine Gt.move ?_; refine RW.y (Y.move rfl) rfl ?_) | (refine Gt.lss ?_; refine RW.y (Y.lss rfl rfl) rfl ?_))
      exact FQ.norm (FQ.none rfl rfl ⟨rfl, own_kept0 how1 hkt, hk01.trans0 hkt⟩)
  · repeat' (first | (refine CL.seq ?_) | (refine CL.region ?_) | (refine CL.skip ?_) | (refine CL.condP rfl (fun _ => ?_) (fun _ => ?_) <;> try (exfalso; omega)) | (refine CL.block ?_) | (refine Gt.nil ?_; refine RW.nilw [0, 1, 2, 6, 7, 8, 9, 13, 30, 35, 54] ?_; dsimp only [H.keep, H.look, H.Fr.put, Nat.beq]) | (refine Gt.move ?_; refine RW.y (Y.move rfl) rfl ?_) | (refine Gt.leq ?_; refine RW.y (Y.leq rfl rfl) rfl ?_))
    refine RW.fn rfl rfl ((insertionP B v X i (i + 20) wr howr hD (by omega) hge (by omega)).mono ?_)
    rintro e w1 ⟨rfl, how1, hk1⟩
    rw [segN_same nmP _ _ _ (by omega) hX] at how1
    repeat' (first | (refine CL.seq ?_) | (refine CL.region ?_) | (refine CL.done ?_) | (refine Nm.block ?_) | (refine Nm.then ?_) | (refine Gt.nil ?_; refine RW.nilw [0, 1, 2, 6, 7, 8, 9, 13, 30, 35, 54] ?_; dsimp only [H.keep, H.look, H.Fr.put, Nat.beq]) | (refine Gt.move ?_; refine RW.y (Y.move rfl) rfl ?_) | (refine Gt.assign ?_; refine RW.y (Y.assign rfl) rfl ?_) | (refine Gt.add ?_; refine RW.y (Y.add64 rfl rfl (by omega) (by omega)) rfl ?_))
    exact ⟨X.length - (i + 20), _, rfl, rfl, rfl, by omega, i + 20, by simp, rfl, hge, how1, hkr.trans hk1 fun k h => .inl h⟩

theorem sortPins (B : Nat) (v : Value) (X : List Pm) (w : World) (how : w.ownsRow B pmT 37 v X.length (X.flatMap pmC)) (hD : ∀ x ∈ X, x.p.oneCell' = true) (hX : X.length ≤ 20 ∨ SrtN nmP X) (hl : X.length ≤ 1000) :
    Calls Tryz.prog 34 #[v, cmpV'] w fun e w' => e = .returned (.tuple #[]) ∧ w'.ownsRow B pmT 37 v X.length ((sortN nmP X).flatMap pmC) ∧ Kept (fun k => v.ownBlock = some k) w w' := by
  have hs := Sl.of_own how
  refine H.enter Tryz.func34 Tryz.ntmps34 rfl rfl ?_; dsimp only [H.args]
  repeat' (first | (refine CL.region ?_) | (refine Gt.move ?_; refine RW.y (Y.move rfl) rfl ?_) | (refine Gt.len ?_; (refine RW.y (Y.lenx rfl (by assumption)) rfl ?_)))
  rcases hX with h | h
  · refine RW.fn rfl rfl ((stableFew B v X w how hD h).mono ?_)
    rintro e w1 ⟨rfl, how1, hk1⟩
    repeat' (first | (refine CL.done ?_) | (refine Gt.nil ?_; refine RW.nilw [0, 1] ?_; dsimp only [H.keep, H.look, H.Fr.put, Nat.beq]))
    exact FQ.norm (FQ.none rfl rfl ⟨rfl, how1, hk1⟩)
  · refine RW.fn rfl rfl ((stableSrt B v X w how hD h hl).mono ?_)
    rintro e w1 ⟨rfl, how1, hk1⟩
    repeat' (first | (refine CL.done ?_) | (refine Gt.nil ?_; refine RW.nilw [0, 1] ?_; dsimp only [H.keep, H.look, H.Fr.put, Nat.beq]))
    exact FQ.norm (FQ.none rfl rfl ⟨rfl, by rw [sortN_same nmP h]; exact how1, hk1⟩)
end Go.Proofs.YtggodknolmdegaaGreatDoor.Lk

