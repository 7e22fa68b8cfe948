/-
  Names, ends of texts, lines; the program's and the reference's. Manifests: plain. Manifests, plain: what is read is told and read again. How many needs there may be, how long a manifest: plain. strings.FieldsFunc at a byte below 128: the pieces are the words. Plain. strings.Trim at one byte; strings.FieldsFunc at a space; strings.Index, SplitSeq at two bars. strings.FieldsFunc at a space; strings.Index, SplitSeq at two bars. Spans, walked: a word's sign, its bounds; the program's. Spans, walked: the reference's words, a word's bounds. Spans: rows of bounds, of lists of bounds, that grow; what they keep apart. Spans, walked: the reference's SpanOf. Spans, walked: does a bound hold of a version; is it near to one. Spans, walked: Has, the program's. Spans, walked: Has, the program's. Spans, walked: Has, the reference's. Spans, walked: the best of versions, the program's. Spans, walked: the best of versions, the reference's. Spans, walked: the text, the program's. Spans, walked: the text, the reference's. A range over a function whose iterator reads what the loop's body leaves as it is (T). strings.SplitSeq at two bars, once more: the loop's body leaves the library's variable as it is. The end of a body that holds a range over a function, whatever the results' form. Spans, walked: Parse. Truths held against one another. Spans, walked: the help's comparison, of equal spans; is a span light. Regions that draw their order: one of several may come next. Regions that draw their order and end in writes: what is read before the writes yields what it yields in every world before them. Rows whose beginning was cut off, and that go on growing. A field of a struct that is a value. Arrays that are values: one element; two held against one another. An element of several cells of a row of the call's own written. Elements of rows: where they lie; rows cloned.
-/
import Derived.Test.YtjlkmdmpejpmpaaGreatDoorRb
import Derived.Test.YtjlkmdmpejpmpaaGreatDoorRa
import Derived.Lib.FieldsP
import Derived.Lib.TrimU
import Derived.Shelf.Strings.FieldsFuncAny
set_option linter.unusedVariables false
namespace Go.Proofs.YtjlkmdmpejpmpaaGreatDoor.Lk
open Go.RowKit H S Ve
attribute [local irreducible] H.CL H.RW H.CW H.Yd H.thenK H.blockQ Go.Calls

theorem small_iff (c : UInt8) : smallB c = true ↔ 97 ≤ (c.toNat : Int) ∧ (c.toNat : Int) ≤ 122 := by
  simp only [smallB, Bool.and_eq_true, decide_eq_true_eq]; omega
theorem nameC_iff (c : UInt8) : nameC c = true ↔ (97 ≤ (c.toNat : Int) ∧ (c.toNat : Int) ≤ 122) ∨ (48 ≤ (c.toNat : Int) ∧ (c.toNat : Int) ≤ 57) ∨ (c.toNat : Int) = 45 := by
  simp only [nameC, Bool.or_eq_true, small_iff, isDig, Bool.and_eq_true, decide_eq_true_eq]; omega
theorem name_iff (s : T) : nameB s = true ↔ (s ≠ [] ∧ s.length ≤ 32 ∧ smallB (s.getD 0 0) = true) ∧ s.all nameC = true := by
  simp only [nameB, Bool.and_eq_true, decide_eq_true_eq]
  have := @List.length_pos_iff _ s
  constructor
  · rintro ⟨⟨⟨a, b⟩, c⟩, d⟩; exact ⟨⟨this.1 a, b, c⟩, d⟩
  · rintro ⟨⟨a, b, c⟩, d⟩; exact ⟨⟨⟨this.2 a, b⟩, c⟩, d⟩

theorem small (c : UInt8) (w : World) : Calls Tryz.prog 42 #[vb c] w fun e w' => w = w' ∧ e = .returned (.bool (smallB c)) := by
  refine H.enter Tryz.func42 Tryz.ntmps42 rfl rfl ?_; dsimp only [H.args]
  repeat' (first | (refine CL.seq ?_) | (refine CL.region ?_) | (refine CL.ret ?_) | (refine Gt.nil ?_; refine RW.nilw [0, 2] ?_; dsimp only [H.keep, H.look, H.Fr.put, Nat.beq]) | (refine Gt.move ?_; refine RW.y (Y.move rfl) rfl ?_) | (refine Gt.guard ?_; first | (refine RW.part rfl rfl rfl (fun _ => ?_) (fun _ => ?_) <;> try (exfalso; omega)) | (refine RW.on rfl rfl rfl ?_) | (refine RW.off1 rfl rfl rfl rfl rfl ?_)) | (refine Gt.assign ?_; refine RW.y (Y.assign rfl) rfl ?_) | (refine Gt.geq ?_; refine RW.y (Y.geq rfl rfl) rfl ?_) | (refine Gt.leq ?_; refine RW.y (Y.leq rfl rfl) rfl ?_) | (refine Gt.pick ?_; first | (refine RW.y (Y.pickT rfl rfl) rfl ?_) | (refine RW.y (Y.pickF rfl rfl) rfl ?_)))
  all_goals exact FQ.one rfl rfl rfl ⟨rfl, retb (by rw [small_iff]; first | (rw [decide_eq_true_eq]; omega) | (exact iff_of_false (by simp) (by omega)))⟩

theorem name (s : T) (hl : s.length ≤ 1000000000000) (w : World) : Calls Tryz.prog 15 #[vs s] w fun e w' => w = w' ∧ e = .returned (.bool (nameB s)) := by
  refine H.enter Tryz.func15 Tryz.ntmps15 rfl rfl ?_; dsimp only [H.args]
  repeat' (first | (refine CL.seq ?_) | (refine CL.region ?_) | (refine CL.condT rfl ?_) | (refine CL.ret ?_) | (refine Gt.nil ?_; refine RW.nilw [0, 2, 3, 4, 17, 19, 20, 21, 26, 29, 36] ?_; dsimp only [H.keep, H.look, H.Fr.put, Nat.beq]) | (refine Gt.move ?_; refine RW.y (Y.move rfl) rfl ?_) | (refine Gt.guard ?_; first | (refine RW.part rfl rfl rfl (fun _ => ?_) (fun _ => ?_) <;> try (exfalso; omega)) | (refine RW.on rfl rfl rfl ?_) | (refine RW.off1 rfl rfl rfl rfl rfl ?_)) | (refine Gt.assign ?_; refine RW.y (Y.assign rfl) rfl ?_) | (refine Gt.pick ?_; first | (refine RW.y (Y.pickT rfl rfl) rfl ?_) | (refine RW.y (Y.pickF rfl rfl) rfl ?_)) | (refine Gt.len ?_; refine RW.y (Y.lens rfl) rfl ?_) | (refine Gt.eql ?_; (refine RW.y (Y.eqs rfl rfl) rfl ?_)) | (refine Gt.gtr ?_; refine RW.y (Y.gtr rfl rfl) rfl ?_))
  · rename_i h
    exact FQ.one rfl rfl rfl ⟨rfl, retb (by rw [name_iff]; simp [h])⟩
  · exact FQ.one rfl rfl rfl ⟨rfl, retb (by rw [name_iff]; simp; omega)⟩
  rename_i hne h32
  have h1 := List.length_pos_iff.2 hne
  repeat' (first | (refine Gt.guard ?_; (refine RW.on rfl rfl rfl ?_)) | (refine Gt.index ?_; refine RW.y (Y.idxs rfl rfl (by omega) (by omega)) rfl ?_))
  refine RW.fn rfl rfl ((small _ w).mono ?_)
  rintro e w' ⟨rfl, rfl⟩
  have e0 : (Int.toNat 0) = 0 := rfl
  rw [e0]
  cases hs : smallB (s.getD 0 0)
  · repeat' (first | (refine CL.seq ?_) | (refine CL.region ?_) | (refine CL.condT rfl ?_) | (refine CL.ret ?_) | (refine Gt.nil ?_; refine RW.nilw [0, 2, 3, 4, 17, 19, 20, 21, 26, 29, 36] ?_; dsimp only [H.keep, H.look, H.Fr.put, Nat.beq]) | (refine Gt.guard ?_; (refine RW.on rfl rfl rfl ?_)) | (refine Gt.assign ?_; refine RW.y (Y.assign rfl) rfl ?_) | (refine Gt.pick ?_; (refine RW.y (Y.pickF rfl rfl) rfl ?_)) | (refine Gt.not ?_; (refine RW.y (Y.notb rfl) rfl ?_)))
    exact FQ.one rfl rfl rfl ⟨rfl, retb (by rw [name_iff, hs]; simp)⟩
  · repeat' (first | (refine CL.seq ?_) | (refine CL.region ?_) | (refine CL.skip ?_) | (refine CL.condF rfl ?_) | (refine CL.block ?_) | (refine Gt.nil ?_; refine RW.nilw [0, 2, 3, 4, 17, 19, 20, 21, 26, 29, 36] ?_; dsimp only [H.keep, H.look, H.Fr.put, Nat.beq]) | (refine Gt.move ?_; refine RW.y (Y.move rfl) rfl ?_) | (refine Gt.guard ?_; (refine RW.on rfl rfl rfl ?_)) | (refine Gt.pick ?_; (refine RW.y (Y.pickF rfl rfl) rfl ?_)) | (refine Gt.len ?_; refine RW.y (Y.lens rfl) rfl ?_) | (refine Gt.not ?_; (refine RW.y (Y.notb rfl) rfl ?_)))
    refine CL.loopS [0, 2, 19, 20] (fun k vals wr => ∃ (i : Nat) (b : Bool), vals = [vs s, .bool b, .int .i64 (s.length : Int), .int .i64 (i : Int)] ∧ k = s.length - i ∧ i ≤ s.length ∧ (s.take i).all nameC = true ∧ wr = w) s.length ⟨_, rfl, 0, false, rfl, rfl, Nat.zero_le _, rfl, rfl⟩ ?_
    rintro k vals wr ⟨i, b, rfl, rfl, hi, hall, rfl⟩
    dsimp only [List.zip, List.zipWith]
    rcases Nat.lt_or_ge i s.length with hlt | hge
    · have hn := nameC_iff (s.getD i 0)
      have hbad : nameC (s.getD i 0) = false → nameB s = false := fun c => by rw [Bool.eq_false_iff, Ne, name_iff, all_false 0 hlt c]; simp
      have hst : nameC (s.getD i 0) = true → (s.take (i + 1)).all nameC = true := fun c => all_step 0 hlt hall c
      repeat' (first | (refine CL.seq ?_) | (refine CL.region ?_) | (refine CL.skip ?_) | (refine CL.condP rfl (fun _ => ?_) (fun _ => ?_) <;> try (exfalso; omega)) | (refine CL.block ?_) | (refine Gt.nil ?_; refine RW.nilw [0, 2, 3, 4, 17, 19, 20, 21, 26, 29, 36] ?_; dsimp only [H.keep, H.look, H.Fr.put, Nat.beq]) | (refine Gt.move ?_; refine RW.y (Y.move rfl) rfl ?_) | (refine Gt.assign ?_; refine RW.y (Y.assign rfl) rfl ?_) | (refine Gt.index ?_; refine RW.y (Y.idxs rfl rfl (by omega) (by omega)) rfl ?_) | (refine Gt.lss ?_; refine RW.y (Y.lss rfl rfl) rfl ?_))
      refine RW.fn rfl rfl ((small _ wr).mono ?_)
      rintro e w' ⟨rfl, rfl⟩
      rw [Int.toNat_natCast]
      have hsi := small_iff (s.getD i 0)
      cases hs2 : smallB (s.getD i 0)
      · rw [hs2] at hsi
        simp only [Bool.false_eq_true, false_iff, not_and] at hsi
        repeat' (first | (refine CL.seq ?_) | (refine CL.region ?_) | (refine CL.skip ?_) | (refine CL.condP rfl (fun _ => ?_) (fun _ => ?_) <;> try (exfalso; omega)) | (refine CL.condF rfl ?_) | (refine CL.exit ?_) | (refine Ex.hit ?_) | (refine Ex.miss rfl ?_) | (refine CL.ret ?_) | (refine Rt.then ?_) | (refine Rt.block ?_) | (refine CL.done ?_) | (refine Nm.block ?_) | (refine Nm.then ?_) | (refine Gt.nil ?_; refine RW.nilw [0, 2, 3, 4, 17, 19, 20, 21, 26, 29, 36] ?_; dsimp only [H.keep, H.look, H.Fr.put, Nat.beq]) | (refine Gt.move ?_; refine RW.y (Y.move rfl) rfl ?_) | (refine Gt.guard ?_; first | (refine RW.part rfl rfl rfl (fun _ => ?_) (fun _ => ?_) <;> try (exfalso; omega)) | (refine RW.on rfl rfl rfl ?_) | (refine RW.off1 rfl rfl rfl rfl rfl ?_)) | (refine Gt.assign ?_; refine RW.y (Y.assign rfl) rfl ?_) | (refine Gt.pick ?_; first | (refine RW.y (Y.pickT rfl rfl) rfl ?_) | (refine RW.y (Y.pickF rfl rfl) rfl ?_)) | (refine Gt.eql ?_; (refine RW.y (Y.eqi rfl rfl) rfl ?_)) | (refine Gt.geq ?_; refine RW.y (Y.geq rfl rfl) rfl ?_) | (refine Gt.leq ?_; refine RW.y (Y.leq rfl rfl) rfl ?_) | (refine Gt.add ?_; refine RW.y (Y.add64 rfl rfl (by omega) (by omega)) rfl ?_))
        all_goals first
          | exact FQ.one rfl rfl rfl ⟨rfl, by rw [hbad (by rw [Bool.eq_false_iff, Ne, hn]; omega)]⟩
          | exact ⟨s.length - (i + 1), _, rfl, rfl, rfl, by omega, i + 1, b, rfl, rfl, by omega, hst (by rw [hn]; omega), rfl⟩
      · rw [hs2] at hsi
        repeat' (first | (refine CL.region ?_) | (refine CL.condT rfl ?_) | (refine CL.exit ?_) | (refine Ex.hit ?_) | (refine Ex.miss rfl ?_) | (refine CL.done ?_) | (refine Nm.block ?_) | (refine Nm.then ?_) | (refine Gt.nil ?_; refine RW.nilw [0, 2, 3, 4, 17, 19, 20, 21, 26, 29, 36] ?_; dsimp only [H.keep, H.look, H.Fr.put, Nat.beq]) | (refine Gt.move ?_; refine RW.y (Y.move rfl) rfl ?_) | (refine Gt.assign ?_; refine RW.y (Y.assign rfl) rfl ?_) | (refine Gt.add ?_; refine RW.y (Y.add64 rfl rfl (by omega) (by omega)) rfl ?_))
        exact ⟨s.length - (i + 1), _, rfl, rfl, rfl, by omega, i + 1, b, rfl, rfl, by omega, hst (by rw [hn]; exact .inl (hsi.1 rfl)), rfl⟩
    · have hi : i = s.length := by omega
      subst hi
      rw [List.take_length] at hall
      repeat' (first | (refine CL.seq ?_) | (refine CL.region ?_) | (refine CL.condP rfl (fun _ => ?_) (fun _ => ?_) <;> try (exfalso; omega)) | (refine CL.exit ?_) | (refine Ex.then ?_) | (refine Ex.hit ?_) | (refine CL.ret ?_) | (refine Gt.nil ?_; refine RW.nilw [0, 2, 3, 4, 17, 19, 20, 21, 26, 29, 36] ?_; dsimp only [H.keep, H.look, H.Fr.put, Nat.beq]) | (refine Gt.assign ?_; refine RW.y (Y.assign rfl) rfl ?_) | (refine Gt.lss ?_; refine RW.y (Y.lss rfl rfl) rfl ?_))
      exact FQ.one rfl rfl rfl ⟨rfl, retb (by rw [name_iff]; exact iff_of_true rfl ⟨⟨hne, by omega, hs⟩, hall⟩)⟩

theorem refName (s : T) (hl : s.length ≤ 1000000000000) (w : World) : Calls Tryz.prog 16 #[vs s] w fun e w' => w = w' ∧ e = .returned (.bool (nameB s)) := by
  have hsm := small_iff (s.getD 0 0)
  have e0 : (Int.toNat 0) = 0 := rfl
  refine H.enter Tryz.func16 Tryz.ntmps16 rfl rfl ?_; dsimp only [H.args]
  repeat' (first | (refine CL.seq ?_) | (refine CL.region ?_) | (refine CL.skip ?_) | (refine CL.condP rfl (fun _ => ?_) (fun _ => ?_) <;> try (exfalso; omega)) | (refine CL.condT rfl ?_) | (refine CL.block ?_) | (refine CL.ret ?_) | (refine Gt.nil ?_; refine RW.nilw [0, 2, 3, 4, 22, 26, 50] ?_; dsimp only [H.keep, H.look, H.Fr.put, Nat.beq]) | (refine Gt.move ?_; refine RW.y (Y.move rfl) rfl ?_) | (refine Gt.guard ?_; first | (refine RW.part rfl rfl rfl (fun _ => ?_) (fun _ => ?_) <;> try (exfalso; omega)) | (refine RW.on rfl rfl rfl ?_) | (refine RW.off1 rfl rfl rfl rfl rfl ?_)) | (refine Gt.assign ?_; refine RW.y (Y.assign rfl) rfl ?_) | (refine Gt.pick ?_; first | (refine RW.y (Y.pickT rfl rfl) rfl ?_) | (refine RW.y (Y.pickF rfl rfl) rfl ?_)) | (refine Gt.len ?_; refine RW.y (Y.lens rfl) rfl ?_) | (refine Gt.lss ?_; refine RW.y (Y.lss rfl rfl) rfl ?_) | (refine Gt.index ?_; refine RW.y (Y.idxs rfl rfl (by omega) (by omega)) rfl ?_) | (refine Gt.gtr ?_; refine RW.y (Y.gtr rfl rfl) rfl ?_))
  · exact FQ.one rfl rfl rfl ⟨rfl, retb (by rw [name_iff]; refine iff_of_false (by simp) (fun c => ?_); have := List.length_pos_iff.2 c.1.1; omega)⟩
  · exact FQ.one rfl rfl rfl ⟨rfl, retb (by rw [name_iff]; refine iff_of_false (by simp) (fun c => ?_); have := c.1.2.1; omega)⟩
  · rename_i h; rw [e0] at h
    exact FQ.one rfl rfl rfl ⟨rfl, retb (by rw [name_iff, hsm]; exact iff_of_false (by simp) (fun c => by omega))⟩
  · rename_i h1 h2 h3 h4; rw [e0] at h3 h4
    exact FQ.one rfl rfl rfl ⟨rfl, retb (by rw [name_iff, hsm]; exact iff_of_false (by simp) (fun c => by omega))⟩
  rename_i h1 h2 h3 h4; rw [e0] at h3 h4
  have hne : s ≠ [] := List.length_pos_iff.1 (by omega)
  refine CL.loopS [0, 2, 3] (fun k vals wr => ∃ (i : Nat) (b : Bool), vals = [vs s, .bool b, .int .i64 (i : Int)] ∧ k = s.length - i ∧ i ≤ s.length ∧ (s.take i).all nameC = true ∧ wr = w) s.length ⟨_, rfl, 0, false, rfl, rfl, Nat.zero_le _, rfl, rfl⟩ ?_
  rintro k vals wr ⟨i, b, rfl, rfl, hi, hall, rfl⟩
  dsimp only [List.zip, List.zipWith]
  rcases Nat.lt_or_ge i s.length with hlt | hge
  · have hi2 : ((i : Int)).toNat = i := Int.toNat_natCast i
    have hs := nameC_iff (s.getD ((i : Int)).toNat 0)
    have hbad : nameC (s.getD ((i : Int)).toNat 0) = false → nameB s = false := fun c => by rw [hi2] at c; rw [Bool.eq_false_iff, Ne, name_iff, all_false 0 hlt c]; simp
    have hst : nameC (s.getD ((i : Int)).toNat 0) = true → (s.take (i + 1)).all nameC = true := fun c => by rw [hi2] at c; exact all_step 0 hlt hall c
    repeat' (first | (refine CL.seq ?_) | (refine CL.region ?_) | (refine CL.skip ?_) | (refine CL.condP rfl (fun _ => ?_) (fun _ => ?_) <;> try (exfalso; omega)) | (refine CL.condF rfl ?_) | (refine CL.block ?_) | (refine CL.ret ?_) | (refine Rt.then ?_) | (refine Rt.block ?_) | (refine CL.done ?_) | (refine Nm.block ?_) | (refine Nm.then ?_) | (refine Gt.nil ?_; refine RW.nilw [0, 2, 3, 4, 22, 26, 50] ?_; dsimp only [H.keep, H.look, H.Fr.put, Nat.beq]) | (refine Gt.move ?_; refine RW.y (Y.move rfl) rfl ?_) | (refine Gt.guard ?_; first | (refine RW.part rfl rfl rfl (fun _ => ?_) (fun _ => ?_) <;> try (exfalso; omega)) | (refine RW.on rfl rfl rfl ?_) | (refine RW.off1 rfl rfl rfl rfl rfl ?_) | (refine RW.offu rfl rfl rfl rfl ?_)) | (refine Gt.assign ?_; refine RW.y (Y.assign rfl) rfl ?_) | (refine Gt.pick ?_; first | (refine RW.y (Y.pickT rfl rfl) rfl ?_) | (refine RW.y (Y.pickF rfl rfl) rfl ?_)) | (refine Gt.len ?_; refine RW.y (Y.lens rfl) rfl ?_) | (refine Gt.lss ?_; refine RW.y (Y.lss rfl rfl) rfl ?_) | (refine Gt.index ?_; refine RW.y (Y.idxs rfl rfl (by omega) (by omega)) rfl ?_) | (refine Gt.geq ?_; refine RW.y (Y.geq rfl rfl) rfl ?_) | (refine Gt.leq ?_; refine RW.y (Y.leq rfl rfl) rfl ?_) | (refine Gt.eql ?_; refine RW.y (Y.eqi rfl rfl) rfl ?_) | (refine Gt.not ?_; first | (refine RW.y (Y.not rfl) rfl ?_) | (refine RW.y (Y.notb rfl) rfl ?_)) | (refine Gt.add ?_; refine RW.y (Y.add64 rfl rfl (by omega) (by omega)) rfl ?_))
    all_goals first
      | exact FQ.one rfl rfl rfl ⟨rfl, by rw [hbad (by rw [Bool.eq_false_iff, Ne, hs]; omega)]⟩
      | exact ⟨s.length - (i + 1), _, rfl, rfl, rfl, by omega, i + 1, b, rfl, rfl, by omega, hst (by rw [hs]; omega), rfl⟩
  · have hi : i = s.length := by omega
    subst hi
    rw [List.take_length] at hall
    repeat' (first | (refine CL.seq ?_) | (refine CL.region ?_) | (refine CL.condP rfl (fun _ => ?_) (fun _ => ?_) <;> try (exfalso; omega)) | (refine CL.exit ?_) | (refine Ex.then ?_) | (refine Ex.hit ?_) | (refine CL.ret ?_) | (refine Gt.nil ?_; refine RW.nilw [0, 2, 3, 4, 22, 26, 50] ?_; dsimp only [H.keep, H.look, H.Fr.put, Nat.beq]) | (refine Gt.move ?_; refine RW.y (Y.move rfl) rfl ?_) | (refine Gt.assign ?_; refine RW.y (Y.assign rfl) rfl ?_) | (refine Gt.len ?_; refine RW.y (Y.lens rfl) rfl ?_) | (refine Gt.lss ?_; refine RW.y (Y.lss rfl rfl) rfl ?_))
    exact FQ.one rfl rfl rfl ⟨rfl, retb (by rw [name_iff]; exact iff_of_true rfl ⟨⟨hne, by omega, hsm.2 (by omega)⟩, hall⟩)⟩

theorem begins (s p : T) (hl : s.length ≤ 1000000000000) (w : World) : Calls Tryz.prog 31 #[vs s, vs p] w fun e w' => w = w' ∧ e = .returned (.bool (decide (s.take p.length = p))) := by
  refine H.enter Tryz.func31 Tryz.ntmps31 rfl rfl ?_; dsimp only [H.args]
  repeat' (first | (refine CL.seq ?_) | (refine CL.region ?_) | (refine CL.ret ?_) | (refine Gt.nil ?_; refine RW.nilw [0, 1, 4] ?_; dsimp only [H.keep, H.look, H.Fr.put, Nat.beq]) | (refine Gt.move ?_; refine RW.y (Y.move rfl) rfl ?_) | (refine Gt.guard ?_; first | (refine RW.part rfl rfl rfl (fun _ => ?_) (fun _ => ?_) <;> try (exfalso; omega)) | (refine RW.on rfl rfl rfl ?_) | (refine RW.off1 rfl rfl rfl rfl rfl ?_)) | (refine Gt.len ?_; refine RW.y (Y.lens rfl) rfl ?_) | (refine Gt.assign ?_; refine RW.y (Y.assign rfl) rfl ?_) | (refine Gt.geq ?_; refine RW.y (Y.geq rfl rfl) rfl ?_) | (refine Gt.slice ?_; refine RW.y (Y.cuth rfl rfl (by omega) (by omega)) rfl ?_) | (refine Gt.eql ?_; refine RW.y (Y.eqs rfl rfl) rfl ?_) | (refine Gt.pick ?_; first | (refine RW.y (Y.pickT rfl rfl) rfl ?_) | (refine RW.y (Y.pickF rfl rfl) rfl ?_)))
  · exact FQ.one rfl rfl rfl ⟨rfl, by simp⟩
  · rename_i h
    exact FQ.one rfl rfl rfl ⟨rfl, retb (by rw [decide_eq_true_eq]; refine iff_of_false (by simp) (fun q => ?_); have := congrArg List.length q; rw [List.length_take] at this; omega)⟩
theorem getLastD_getD (l : List T) : l.getD (l.length - 1) [] = l.getLastD [] := by
  rcases List.eq_nil_or_concat l with e | ⟨a, x, rfl⟩
  · rw [e]; rfl
  · simp
/-- Lines: what stands between the bytes 10; an empty last one is none. -/
def linesB (s : T) : List T := if (splitB 10 s).getLastD [] = [] then (splitB 10 s).dropLast else splitB 10 s
theorem lines (s : T) (hl : s.length ≤ 1000000000) (w : World) : Calls Tryz.prog 30 #[vs s] w fun e w' => ∃ v', e = .returned v' ∧ w'.ownsRow w.heap.size strT 1 v' (linesB s).length (sv (linesB s)) ∧ K0 w w' := by
  refine H.enter Tryz.func30 Tryz.ntmps30 rfl rfl ?_; dsimp only [H.args]
  repeat' (first | (refine CL.seq ?_) | (refine CL.region ?_) | (refine Gt.nil ?_; refine RW.nilw [0, 2, 3, 12] ?_; dsimp only [H.keep, H.look, H.Fr.put, Nat.beq]) | (refine Gt.move ?_; refine RW.y (Y.move rfl) rfl ?_) | (refine Gt.assign ?_; refine RW.y (Y.assign rfl) rfl ?_))
  refine RW.fn rfl rfl ((refSplit s 10 hl w).mono ?_)
  rintro e w1 ⟨v1, rfl, how, hk1⟩
  have hs := Sl.of_own how
  have hp := List.length_pos_iff.2 (splitB_ne 10 s)
  have hsm := splitB_len 10 s
  have hcm := List.count_le_length (a := (10 : UInt8)) (l := s)
  have e1 : ((((splitB 10 s).length : Nat) : Int) - 1).toNat = (splitB 10 s).length - 1 := by omega
  repeat' (first | (refine CL.seq ?_) | (refine CL.region ?_) | (refine CL.skip ?_) | (refine CL.condP rfl (fun _ => ?_) (fun _ => ?_) <;> try (exfalso; omega)) | (refine CL.ret ?_) | (refine Gt.nil ?_; refine RW.nilw [0, 2, 3, 12] ?_; dsimp only [H.keep, H.look, H.Fr.put, Nat.beq]) | (refine Gt.move ?_; refine RW.y (Y.move rfl) rfl ?_) | (refine Gt.assign ?_; refine RW.y (Y.assign rfl) rfl ?_) | (refine Gt.len ?_; (refine RW.y (Y.lenx rfl (by assumption)) rfl ?_)) | (refine Gt.sub ?_; refine RW.y (Y.sub64 rfl rfl (by omega) (by omega)) rfl ?_) | (refine Gt.idx ?_; refine RW.elemS rfl rfl rfl rfl (by assumption) (by omega) (by omega) ?_) | (refine Gt.eql ?_; refine RW.y (Y.eqs rfl rfl) rfl ?_))
  · rename_i h
    rw [e1, getLastD_getD] at h
    refine RW.ownh rfl rfl rfl how (by omega) (by omega) (fun v2 how2 hb2 => ?_)
    rw [e1] at how2
    have hd : linesB s = (splitB 10 s).dropLast := if_pos h
    repeat' (first | (refine CL.seq ?_) | (refine CL.region ?_) | (refine CL.ret ?_) | (refine Gt.nil ?_; refine RW.nilw [0, 2, 3, 12] ?_; dsimp only [H.keep, H.look, H.Fr.put, Nat.beq]) | (refine Gt.move ?_; refine RW.y (Y.move rfl) rfl ?_) | (refine Gt.assign ?_; refine RW.y (Y.assign rfl) rfl ?_))
    refine FQ.one rfl rfl rfl ⟨_, rfl, ?_, hk1⟩
    rw [hd, List.length_dropLast, sv, List.dropLast_eq_take, List.map_take]
    rw [Nat.mul_one] at how2
    exact how2
  · rename_i h
    rw [e1, getLastD_getD] at h
    exact FQ.one rfl rfl rfl ⟨_, rfl, by rw [show linesB s = splitB 10 s from if_neg h]; exact how, hk1⟩
end Go.Proofs.YtjlkmdmpejpmpaaGreatDoor.Lk

namespace Go.Proofs.YtjlkmdmpejpmpaaGreatDoor.Ma
open Go.Proofs.YtjlkmdmpejpmpaaGreatDoor.S Go.Proofs.YtjlkmdmpejpmpaaGreatDoor.Ve Go.Proofs.YtjlkmdmpejpmpaaGreatDoor.Sp Go.Proofs.YtjlkmdmpejpmpaaGreatDoor.Od
open Go
/-- A need: a name, a span, its text. -/
structure Nd where
  name : T
  sp : Spn
  text : T
instance : Inhabited Nd := ⟨⟨[], ⟨false, []⟩, []⟩⟩
/-- A manifest. -/
structure Mf where
  name : T
  v : Ver
  needs : List Nd
def zeroM : Mf := ⟨[], ⟨0, 0, 0, []⟩, []⟩
instance : Inhabited Mf := ⟨zeroM⟩
def nameW : T := [110, 97, 109, 101, 32]
def versW : T := [118, 101, 114, 115, 105, 111, 110, 32]
def needW : T := [110, 101, 101, 100, 32]
/-- What stands behind the word need. -/
def needB (s : T) : Option Nd :=
  if (cutB 32 s).2.2 = true ∧ Lk.nameB (cutB 32 s).1 = true then (spanB (cutB 32 s).2.1).map fun x => ⟨(cutB 32 s).1, x, (cutB 32 s).2.1⟩ else none
def silentB (x : T) : Bool := decide (x = []) || decide (x.getD 0 0 = 35)
def hasN (l : List Nd) (nm : T) : Bool := l.any fun d => decide (d.name = nm)
/-- The n-th line that says something. -/
def lineB (n : Nat) (m : Mf) (x : T) : Option Mf := match n with
  | 0 => if x.take 5 = nameW ∧ Lk.nameB (x.drop 5) = true then some ⟨x.drop 5, m.v, m.needs⟩ else none
  | 1 => if x.take 8 = versW then (parseV (cutB 45 (x.drop 8))).map fun v => ⟨m.name, v, m.needs⟩ else none
  | _ => if x.take 5 = needW then (match needB (x.drop 5) with
    | some d => if d.name ≠ m.name ∧ hasN m.needs d.name = false ∧ m.needs.length < 20 then some ⟨m.name, m.v, m.needs ++ [d]⟩ else none
    | none => none) else none
def nmD (d : Nd) : T := d.name
def sortM (m : Mf) : Mf := ⟨m.name, m.v, sortN nmD m.needs⟩
def rdM : List T → Nat → Nat → Mf → Mf × Int × Int
  | [], _, n, m => if n < 2 then (zeroM, 0, 62) else (sortM m, 0, 0)
  | x :: r, i, n, m => if silentB x = true then rdM r (i + 1) n m else match lineB n m x with
    | none => (zeroM, ((i + 1 : Nat) : Int), 62)
    | some m' => rdM r (i + 1) (n + 1) m'
/-- A manifest read. -/
def manB (s : T) : Mf × Int × Int := if s.length ≤ 65536 then rdM (Lk.linesB s) 0 0 zeroM else (zeroM, 0, 62)
def headM (m : Mf) : T := nameW ++ m.name ++ [10] ++ versW ++ textV m.v ++ [10]
def needT (d : Nd) : T := needW ++ d.name ++ [32] ++ d.text ++ [10]
def textM (m : Mf) : T := headM m ++ (sortN nmD m.needs).flatMap needT
/-- A manifest without a need; with one. -/
def remB (m : Mf) (nm : T) : Mf := ⟨m.name, m.v, m.needs.filter fun d => decide (d.name ≠ nm)⟩
def addB (m : Mf) (d : Nd) : Mf × Int :=
  if Lk.nameB d.name = true ∧ d.name ≠ m.name ∧ (hasN m.needs d.name = true ∨ m.needs.length < 20) then (sortM ⟨m.name, m.v, (remB m d.name).needs ++ [d]⟩, 0) else (zeroM, 62)
end Go.Proofs.YtjlkmdmpejpmpaaGreatDoor.Ma

namespace Go.Proofs.YtjlkmdmpejpmpaaGreatDoor.Ma
open Go.Proofs.YtjlkmdmpejpmpaaGreatDoor.S Go.Proofs.YtjlkmdmpejpmpaaGreatDoor.Ve Go.Proofs.YtjlkmdmpejpmpaaGreatDoor.Sp Go.Proofs.YtjlkmdmpejpmpaaGreatDoor.Od
open Go
/-- A need that may stand in a manifest of that name. -/
structure OkD (nm : T) (d : Nd) : Prop where
  name : Lk.nameB d.name = true
  sp : spanB d.text = some d.sp
  ten : (10 : UInt8) ∉ d.text
  len : d.text.length ≤ 3000
  ne : d.name ≠ nm
def DiffD (l : List Nd) : Prop := (l.map nmD).Nodup
/-- A manifest that was read. -/
structure OkM (m : Mf) : Prop where
  name : Lk.nameB m.name = true
  v : ∃ s, parseV (cutB 45 s) = some m.v
  needs : ∀ d ∈ m.needs, OkD m.name d
  diff : DiffD m.needs
  num : m.needs.length ≤ 20
theorem hasN_iff {l : List Nd} {nm : T} : hasN l nm = true ↔ nm ∈ l.map nmD := by
  simp only [hasN, List.any_eq_true, decide_eq_true_eq, List.mem_map, nmD]
theorem hasN_not {l : List Nd} {nm : T} : hasN l nm = false ↔ nm ∉ l.map nmD := by
  rw [← hasN_iff]; simp
theorem diff_snoc {l : List Nd} {d : Nd} (h : DiffD l) (hn : hasN l d.name = false) : DiffD (l ++ [d]) := by
  rw [DiffD, List.map_append, List.map_cons, List.map_nil]
  refine List.nodup_append.2 ⟨h, by simp, fun a ha b hb => ?_⟩
  rw [List.mem_singleton] at hb
  subst hb
  intro c; subst c
  exact hasN_not.1 hn ha
/-- What holds of a manifest under way, behind n lines. -/
structure StM (n : Nat) (m : Mf) : Prop where
  name : 1 ≤ n → Lk.nameB m.name = true
  v : 2 ≤ n → ∃ s, parseV (cutB 45 s) = some m.v
  none : n < 2 → m.needs = []
  needs : ∀ d ∈ m.needs, OkD m.name d
  diff : DiffD m.needs
  num : m.needs.length ≤ 20
theorem needB_some {s : T} {d : Nd} (h : needB s = some d) : Lk.nameB d.name = true ∧ spanB d.text = some d.sp ∧ d.text.length ≤ s.length ∧ (∀ c, c ∈ d.text → c ∈ s) := by
  rw [needB] at h
  split at h
  · rename_i hc
    cases hs : spanB (cutB 32 s).2.1 with
    | none => rw [hs] at h; cases h
    | some x =>
      rw [hs] at h
      cases h
      refine ⟨hc.2, hs, ?_, fun c hm => ?_⟩
      · show (cutB 32 s).2.1.length ≤ s.length
        rw [cutB]; split
        · simp
        · simp only [List.length_drop]; omega
      · have hm : c ∈ (cutB 32 s).2.1 := hm
        rw [cutB] at hm
        split at hm
        · cases hm
        · exact List.mem_of_mem_drop hm
  · cases h
theorem lineB_two (k : Nat) (m : Mf) (x : T) : lineB (k + 2) m x = if x.take 5 = needW then (match needB (x.drop 5) with
    | some d => if d.name ≠ m.name ∧ hasN m.needs d.name = false ∧ m.needs.length < 20 then some ⟨m.name, m.v, m.needs ++ [d]⟩ else none
    | none => none) else none := rfl
theorem line_ok {n : Nat} {m m' : Mf} {x : T} (h : StM n m) (hl : lineB n m x = some m') (h10 : (10 : UInt8) ∉ x) (hx : x.length ≤ 3000) : StM (n + 1) m' := by
  match n, h, hl with
  | 0, h, hl =>
    have hn := h.none (by omega)
    rw [lineB] at hl
    split at hl
    · rename_i hc
      cases hl
      exact ⟨fun _ => hc.2, fun q => by omega, fun _ => hn, fun d hd => (by rw [show ((⟨x.drop 5, m.v, m.needs⟩ : Mf)).needs = [] from hn] at hd; cases hd), h.diff, h.num⟩
    · cases hl
  | 1, h, hl =>
    have hn := h.none (by omega)
    rw [lineB] at hl
    split at hl
    · cases hv : parseV (cutB 45 (x.drop 8)) with
      | none => rw [hv] at hl; cases hl
      | some v =>
        rw [hv] at hl
        cases hl
        exact ⟨fun _ => h.name (by omega), fun _ => ⟨_, hv⟩, fun q => by omega, h.needs, h.diff, h.num⟩
    · cases hl
  | k + 2, h, hl =>
    rw [lineB_two] at hl
    split at hl
    · cases hd : needB (x.drop 5) with
      | none => rw [hd] at hl; cases hl
      | some d =>
        rw [hd] at hl
        simp only at hl
        split at hl
        · rename_i hc
          cases hl
          obtain ⟨a1, a2, a3, a4⟩ := needB_some hd
          refine ⟨fun _ => h.name (by omega), fun _ => h.v (by omega), fun q => by omega, fun e he => ?_, diff_snoc h.diff hc.2.1, by show (m.needs ++ [d]).length ≤ 20; rw [List.length_append, List.length_singleton]; omega⟩
          rcases List.mem_append.1 he with he | he
          · exact h.needs e he
          · rw [List.mem_singleton.1 he]
            exact ⟨a1, a2, fun c => h10 (List.mem_of_mem_drop (a4 _ c)), by have := List.length_drop (i := 5) (l := x); omega, hc.1⟩
        · cases hl
    · cases hl
theorem diff_sort {l : List Nd} (h : DiffD l) : DiffD (sortN nmD l) := by
  have hp : (sortN nmD l).Perm l := by
    have : ∀ (l acc : List Nd), (l.foldl (fun acc p => insN nmD p acc) acc).Perm (acc ++ l) := by
      intro l
      induction l with
      | nil => intro acc; simp
      | cons p r ih =>
        intro acc
        have hi : ∀ (p : Nd) (a : List Nd), (insN nmD p a).Perm (p :: a) := by
          intro p a
          induction a with
          | nil => exact List.Perm.refl _
          | cons q t iht =>
            rw [insN]; split
            · exact List.Perm.refl _
            · exact ((List.perm_cons q).2 iht).trans (List.Perm.swap p q t)
        exact ((ih (insN nmD p acc)).trans ((hi p acc).append_right r)).trans (by
          rw [List.cons_append]; exact (List.perm_middle (l₁ := acc) (l₂ := r) (a := p)).symm)
    exact this l []
  exact ((hp.map nmD).nodup_iff).2 h
theorem rd_inv : ∀ (ls : List T) (i n : Nat) (m m' : Mf) (k : Int), rdM ls i n m = (m', k, 0) → StM n m → (∀ x ∈ ls, (10 : UInt8) ∉ x ∧ x.length ≤ 3000) → OkM m' ∧ SrtN nmD m'.needs
  | [], i, n, m, m', k, h, hs, _ => by
    rw [rdM] at h
    split at h
    · cases h
    · rename_i hn
      cases h
      refine ⟨⟨hs.name (by omega), hs.v (by omega), fun d hd => hs.needs d ((sortN_mem nmD _ d).1 hd), diff_sort hs.diff, by show (sortN nmD m.needs).length ≤ 20; rw [sortN_len]; exact hs.num⟩, sortN_srt nmD _⟩
  | x :: r, i, n, m, m', k, h, hs, hl => by
    rw [rdM] at h
    split at h
    · exact rd_inv r (i + 1) n m m' k h hs fun y hy => hl y (by simp [hy])
    · cases hb : lineB n m x with
      | none => rw [hb] at h; cases h
      | some m2 =>
        rw [hb] at h
        exact rd_inv r (i + 1) (n + 1) m2 m' k h (line_ok hs hb (hl x (by simp)).1 (hl x (by simp)).2) fun y hy => hl y (by simp [hy])

theorem split_all : ∀ ls : List T, (∀ x ∈ ls, (10 : UInt8) ∉ x) → splitB 10 (ls.flatMap (· ++ [10])) = ls ++ [[]]
  | [], _ => rfl
  | x :: r, h => by
    have e : (x :: r).flatMap (· ++ [10]) = x ++ 10 :: r.flatMap (· ++ [10]) := by simp
    rw [e, splitB_snocL 10 x _ (h x (by simp)), split_all r fun y hy => h y (by simp [hy])]; rfl
theorem lines_all (ls : List T) (h : ∀ x ∈ ls, (10 : UInt8) ∉ x) : Lk.linesB (ls.flatMap (· ++ [10])) = ls := by
  rw [Lk.linesB, split_all ls h, List.getLastD_concat, if_pos rfl, List.dropLast_concat]
def lineD (d : Nd) : T := needW ++ d.name ++ [32] ++ d.text
theorem cut_at (a b : T) (h : (32 : UInt8) ∉ a) : cutB 32 (a ++ 32 :: b) = (a, b, true) := by
  have h1 := cut_some 32 (a ++ 32 :: b) a.length (by simp) (by simpa using h) (by simp)
  rw [h1]; simp
theorem need_read {nm : T} {d : Nd} (h : OkD nm d) : needB (d.name ++ [32] ++ d.text) = some d := by
  have h32 := Lk.name_no h.name (c := 32) (by decide)
  have e : d.name ++ [32] ++ d.text = d.name ++ 32 :: d.text := by simp
  rw [needB, e, cut_at _ _ h32, if_pos ⟨rfl, h.name⟩]
  simp only [h.sp, Option.map_some]
theorem rd_needs : ∀ (ds : List Nd) (i n : Nat) (m : Mf), 2 ≤ n → (∀ d ∈ ds, OkD m.name d) → DiffD (m.needs ++ ds) → m.needs.length + ds.length ≤ 20 → rdM (ds.map lineD) i n m = (sortM ⟨m.name, m.v, m.needs ++ ds⟩, 0, 0)
  | [], i, n, m, hn, _, _, _ => by rw [List.map_nil, rdM, if_neg (by omega), List.append_nil]
  | d :: r, i, n, m, hn, ho, hd, hl => by
    have h1 := ho d (by simp)
    have hsil : silentB (lineD d) = false := rfl
    have hnd : hasN m.needs d.name = false := by
      rw [hasN_not]; intro c
      rw [DiffD, List.map_append, List.map_cons] at hd
      exact (List.nodup_append.1 hd).2.2 _ c _ (by simp [nmD]) rfl
    have hlb : lineB n m (lineD d) = some ⟨m.name, m.v, m.needs ++ [d]⟩ := by
      obtain ⟨k, rfl⟩ : ∃ k, n = k + 2 := ⟨n - 2, by omega⟩
      have e : (lineD d).drop 5 = d.name ++ [32] ++ d.text := by simp [lineD, needW]
      have e2 : (lineD d).take 5 = needW := by simp [lineD, needW]
      rw [lineB_two, if_pos e2, e, need_read h1]
      exact if_pos ⟨h1.ne, hnd, by simp only [List.length_cons] at hl; omega⟩
    rw [List.map_cons, rdM, hsil, if_neg (by simp), hlb]
    simp only
    rw [rd_needs r (i + 1) (n + 1) ⟨m.name, m.v, m.needs ++ [d]⟩ (by omega) (fun e he => ho e (by simp [he])) (by rw [List.append_assoc]; exact hd) (by simp only [List.length_append, List.length_cons, List.length_nil] at hl ⊢; omega)]
    rw [List.append_assoc]; rfl
theorem textM_lines (m : Mf) : textM m = ((nameW ++ m.name) :: (versW ++ textV m.v) :: (sortN nmD m.needs).map lineD).flatMap (· ++ [10]) := by
  have e : ∀ l : List Nd, l.flatMap needT = (l.map lineD).flatMap (· ++ [10]) := fun l => by
    induction l with
    | nil => rfl
    | cons d r ih => rw [List.flatMap_cons, ih, List.map_cons, List.flatMap_cons, needT, lineD]
  rw [textM, headM, e, List.flatMap_cons, List.flatMap_cons]
  simp only [List.append_assoc]
theorem text_ten {s : T} {v : Ver} (h : parseV (cutB 45 s) = some v) : (10 : UInt8) ∉ textV v := Lk.text_no h (by decide) (by decide)
theorem textV_len {v : Ver} {s : T} (h : parseV (cutB 45 s) = some v) : (textV v).length ≤ 2000 := by
  have hp := parse_parts h
  have l1 := decI_len v.a (by omega)
  have l2 := decI_len v.b (by omega)
  have l3 := decI_len v.c (by omega)
  have lg := glueC_len 46 100 v.pre (fun s hs => by have := mark_len (List.all_eq_true.1 hp.2.1 s hs); omega)
  have : v.pre.length * (100 + 1) ≤ 5 * 101 := Nat.mul_le_mul hp.1 (Nat.le_refl _)
  rw [textV]
  split <;> simp <;> omega
theorem name_len {s : T} (h : Lk.nameB s = true) : 1 ≤ s.length ∧ s.length ≤ 32 := by
  simp only [Lk.nameB, Bool.and_eq_true, decide_eq_true_eq] at h; omega
theorem textM_len {m : Mf} (h : OkM m) : (textM m).length ≤ 65536 := by
  obtain ⟨s, hs⟩ := h.v
  have h1 := textV_len hs
  have h2 := name_len h.name
  have h3 : ∀ l : List Nd, (∀ d ∈ l, OkD m.name d) → (l.flatMap needT).length ≤ l.length * 3050 := by
    intro l
    induction l with
    | nil => simp
    | cons d r ih =>
      intro hl
      have a1 := hl d (by simp)
      have a2 := ih fun e he => hl e (by simp [he])
      have a3 := name_len a1.name
      have a4 := a1.len
      simp only [List.flatMap_cons, List.length_append, List.length_cons, needT, needW, List.length_nil]; omega
  have h4 := h3 (sortN nmD m.needs) fun d hd => h.needs d ((sortN_mem nmD _ d).1 hd)
  rw [sortN_len] at h4
  have h5 := h.num
  simp only [textM, headM, nameW, versW, List.length_append, List.length_cons, List.length_nil]
  omega
/-- What is told of a manifest is read as it. -/
theorem man_back {m : Mf} (h : OkM m) (hs : SrtN nmD m.needs) : manB (textM m) = (m, 0, 0) := by
  obtain ⟨s, hv⟩ := h.v
  have hso : sortN nmD m.needs = m.needs := sortN_same nmD hs
  have hten : ∀ x ∈ ((nameW ++ m.name) :: (versW ++ textV m.v) :: m.needs.map lineD), (10 : UInt8) ∉ x := by
    intro x hx
    rcases List.mem_cons.1 hx with rfl | hx
    · have := Lk.name_no h.name (c := 10) (by decide)
      simp [nameW, this]
    · rcases List.mem_cons.1 hx with rfl | hx
      · have := text_ten hv
        simp [versW, this]
      · obtain ⟨d, hd, rfl⟩ := List.mem_map.1 hx
        have h1 := h.needs d hd
        have := Lk.name_no h1.name (c := 10) (by decide)
        simp [lineD, needW, this, h1.ten]
  have e : textM m = ((nameW ++ m.name) :: (versW ++ textV m.v) :: m.needs.map lineD).flatMap (· ++ [10]) := by rw [textM_lines, hso]
  have s1 : silentB (nameW ++ m.name) = false := rfl
  have s2 : silentB (versW ++ textV m.v) = false := rfl
  have l1 : lineB 0 zeroM (nameW ++ m.name) = some ⟨m.name, zeroM.v, []⟩ := by
    have e2 : (nameW ++ m.name).drop 5 = m.name := by simp [nameW]
    have e1 : (nameW ++ m.name).take 5 = nameW := by simp [nameW]
    rw [lineB, e1, e2, if_pos ⟨rfl, h.name⟩]; rfl
  have l2 : lineB 1 ⟨m.name, zeroM.v, []⟩ (versW ++ textV m.v) = some ⟨m.name, m.v, []⟩ := by
    have e2 : (versW ++ textV m.v).drop 8 = textV m.v := by simp [versW]
    have e1 : (versW ++ textV m.v).take 8 = versW := by simp [versW]
    rw [lineB, e1, e2, if_pos rfl, parse_text hv, hv]; rfl
  rw [manB, if_pos (textM_len h), e, lines_all _ hten, rdM, s1, if_neg (by simp), l1]
  simp only
  rw [rdM, s2, if_neg (by simp), l2]
  simp only
  rw [rd_needs m.needs 2 2 ⟨m.name, m.v, []⟩ (by omega) h.needs (by rw [List.nil_append]; exact h.diff) (by have := h.num; simpa using this), List.nil_append, sortM]
  rw [hso]
end Go.Proofs.YtjlkmdmpejpmpaaGreatDoor.Ma

namespace Go.Proofs.YtjlkmdmpejpmpaaGreatDoor.Ma
open Go.Proofs.YtjlkmdmpejpmpaaGreatDoor.S Go.Proofs.YtjlkmdmpejpmpaaGreatDoor.Ve Go.Proofs.YtjlkmdmpejpmpaaGreatDoor.Sp Go.Proofs.YtjlkmdmpejpmpaaGreatDoor.Od
open Go
/-- Empty lines behind say nothing. -/
theorem rd_empty : ∀ (n i k : Nat) (m : Mf), rdM (List.replicate n []) i k m = rdM [] 0 k m
  | 0, i, k, m => rfl
  | n + 1, i, k, m => by 
    have hs : silentB [] = true := rfl
    show rdM ([] :: List.replicate n []) i k m = _
    conv => lhs; rw [rdM]
    rw [hs, if_pos rfl, rd_empty n (i + 1) k m]
theorem rd_pad (n : Nat) : ∀ (ls : List T) (i k : Nat) (m : Mf), rdM (ls ++ List.replicate n []) i k m = rdM ls i k m
  | [], i, k, m => by rw [List.nil_append, rd_empty]; rfl
  | x :: r, i, k, m => by
    rw [List.cons_append, rdM, rdM]
    split
    · exact rd_pad n r (i + 1) k m
    · cases lineB k m x with
      | none => rfl
      | some m' => exact rd_pad n r (i + 1) (k + 1) m'
theorem man_lines {ls : List T} (h : ∀ x ∈ ls, (10 : UInt8) ∉ x) : manB (ls.flatMap (· ++ [10])) = if (ls.flatMap (· ++ [10])).length ≤ 65536 then rdM ls 0 0 zeroM else (zeroM, 0, 62) := by
  rw [manB, lines_all ls h]
theorem pad_lines (n : Nat) : (List.replicate n ([] : T)).flatMap (· ++ [10]) = List.replicate n 10 := by
  induction n with
  | zero => rfl
  | succ n ih => rw [List.replicate_succ, List.flatMap_cons, ih, List.replicate_succ]; rfl
theorem man_pad {ls : List T} (h : ∀ x ∈ ls, (10 : UInt8) ∉ x) (n : Nat) : manB (ls.flatMap (· ++ [10]) ++ List.replicate n 10) = if (ls.flatMap (· ++ [10])).length + n ≤ 65536 then rdM ls 0 0 zeroM else (zeroM, 0, 62) := by
  have e : ls.flatMap (· ++ [10]) ++ List.replicate n 10 = (ls ++ List.replicate n []).flatMap (· ++ [10]) := by rw [List.flatMap_append, pad_lines]
  rw [e, man_lines, rd_pad, ← e, List.length_append, List.length_replicate]
  intro x hx
  rcases List.mem_append.1 hx with hx | hx
  · exact h x hx
  · rw [List.eq_of_mem_replicate hx]; simp
def meW : T := [110, 97, 109, 101, 32, 109, 101]
def v1W : T := [118, 101, 114, 115, 105, 111, 110, 32, 49, 46, 48, 46, 48]
def nW : T := [110, 101, 101, 100, 32, 110]
def manyL (k : Nat) : List T := meW :: v1W :: (List.range k).map fun j : Nat => nW ++ decI (j : Int) ++ [32, 42]
def manyT (k : Nat) : T := (manyL k).flatMap (· ++ [10])
theorem manyT_snoc (k : Nat) : manyT (k + 1) = manyT k ++ nW ++ decI (k : Int) ++ [32, 42, 10] := by
  simp only [manyT, manyL, List.range_succ, List.map_append, List.map_cons, List.map_nil, List.flatMap_cons, List.flatMap_append, List.flatMap_nil, List.append_assoc, List.append_nil]
  rfl
theorem many_all : (List.range 24).all (fun k => (manyL k).all (fun x => decide ((10 : UInt8) ∉ x)) && decide ((manyT k).length ≤ 400) && (if k ≤ 20 then decide ((rdM (manyL k) 0 0 zeroM).2.2 = 0) && decide ((rdM (manyL k) 0 0 zeroM).1.needs.length = k) else decide ((rdM (manyL k) 0 0 zeroM).2 = (23, 62)))) = true := by decide +kernel
structure ManyOk (k : Nat) : Prop where
  ten : ∀ x ∈ manyL k, (10 : UInt8) ∉ x
  len : (manyT k).length ≤ 400
  few : k ≤ 20 → (rdM (manyL k) 0 0 zeroM).2.2 = 0 ∧ (rdM (manyL k) 0 0 zeroM).1.needs.length = k
  more : 20 < k → (rdM (manyL k) 0 0 zeroM).2 = (23, 62)
theorem many_ok {k : Nat} (h : k < 24) : ManyOk k := by
  have h1 := List.all_eq_true.1 many_all k (List.mem_range.2 h)
  simp only [Bool.and_eq_true, decide_eq_true_eq, List.all_eq_true] at h1
  refine ⟨h1.1.1, h1.1.2, fun hk => ?_, fun hk => ?_⟩
  · have h2 := h1.2
    rw [if_pos hk] at h2
    simpa using h2
  · have h2 := h1.2
    rw [if_neg (by omega)] at h2
    exact of_decide_eq_true h2
theorem many_man {k : Nat} (h : k < 24) : manB (manyT k) = rdM (manyL k) 0 0 zeroM := by
  have hk := many_ok h
  rw [manyT, man_lines hk.ten]
  exact if_pos (Nat.le_trans hk.len (by decide))
theorem many_pad {k : Nat} (h : k < 24) (n : Nat) : manB (manyT k ++ List.replicate n 10) = if (manyT k).length + n ≤ 65536 then rdM (manyL k) 0 0 zeroM else (zeroM, 0, 62) := man_pad (many_ok h).ten n
end Go.Proofs.YtjlkmdmpejpmpaaGreatDoor.Ma

namespace Go.Proofs.YtjlkmdmpejpmpaaGreatDoor.S
open Go.RowKit H Go.Lib

theorem dec_small {n b0 b1 b2 b3 : Nat} (h : (decodeN n b0 b1 b2 b3).1 = 32) : b0 = 32 := by
  revert h
  unfold decodeN
  repeat' split
  all_goals (simp only; omega)
theorem dec_32 {n b1 b2 b3 : Nat} : decodeN n 32 b1 b2 b3 = (32, 1) := by simp [decodeN]
theorem dec_rest {n b0 b1 b2 b3 : Nat} (h : b0 ≠ 32) : (1 < (decodeN n b0 b1 b2 b3).2 → b1 / 64 = 2) ∧ (2 < (decodeN n b0 b1 b2 b3).2 → b2 / 64 = 2) ∧ (3 < (decodeN n b0 b1 b2 b3).2 → b3 / 64 = 2) ∧ (decodeN n b0 b1 b2 b3).2 ≤ 4 := by
  unfold decodeN
  repeat' split
  all_goals (simp only; omega)
theorem get_at (l : List UInt8) (i : Nat) : (B l).get! i = l.getD i 0 := by
  show (l.toArray)[i]! = _
  simp [List.getD_eq_getElem?_getD, getElem!_def]
  cases l[i]? <;> rfl

/-- No space from a up to b. -/
def NoSp (l : List UInt8) (a b : Nat) : Prop := ∀ i, a ≤ i → i < b → l.getD i 0 ≠ 32
theorem NoSp.not_mem {l : List UInt8} {a b : Nat} (h : NoSp l a b) (hb : b ≤ l.length) : (32 : UInt8) ∉ (l.drop a).take (b - a) := by
  intro hm
  obtain ⟨k, hk, he⟩ := List.getElem_of_mem hm
  simp at hk he
  have := h (a + k) (by omega) (by omega)
  apply this
  rw [List.getD_eq_getElem?_getD, List.getElem?_eq_getElem (by omega)]
  simpa using he
theorem extract_B (l : List UInt8) (a b : Nat) : (B l).extract a b = B ((l.drop a).take (b - a)) := by
  apply ByteArray.ext
  rw [ByteArray.data_extract]
  simp [List.extract_toArray, List.extract_eq_take_drop]

theorem words_end {l : List UInt8} {a : Nat} (h : NoSp l a l.length) (ha : a < l.length) : Sp.wordsB (l.drop a) = [l.drop a] := by
  refine Sp.wordsB_last _ ?_ (by intro c; have := congrArg List.length c; simp at this; omega)
  have := h.not_mem (Nat.le_refl _)
  rwa [List.take_of_length_le (by simp)] at this
theorem words_at {l : List UInt8} {a pos : Nat} (h : NoSp l a pos) (ha : a < pos) (hp : pos < l.length) (h32 : l.getD pos 0 = 32) : Sp.wordsB (l.drop a) = (l.drop a).take (pos - a) :: Sp.wordsB (l.drop (pos + 1)) := by
  have he : l.drop a = (l.drop a).take (pos - a) ++ 32 :: l.drop (pos + 1) := by
    conv => lhs; rw [← List.take_append_drop (pos - a) (l.drop a)]
    rw [List.drop_drop, show a + (pos - a) = pos from by omega, List.drop_eq_getElem_cons hp]
    rw [List.getD_eq_getElem?_getD, List.getElem?_eq_getElem hp] at h32
    simp only [Option.getD_some] at h32
    rw [h32]
  conv => lhs; rw [he]
  refine Sp.wordsB_word _ _ (h.not_mem (by omega)) ?_
  intro c; have := congrArg List.length c; simp at this; omega
theorem words_sp {l : List UInt8} {pos : Nat} (hp : pos < l.length) (h32 : l.getD pos 0 = 32) : Sp.wordsB (l.drop pos) = Sp.wordsB (l.drop (pos + 1)) := by
  rw [List.drop_eq_getElem_cons hp]
  rw [List.getD_eq_getElem?_getD, List.getElem?_eq_getElem hp] at h32
  simp only [Option.getD_some] at h32
  rw [h32, Sp.wordsB_sp]

theorem spans_words (l : List UInt8) : ∀ (f pos : Nat) (st : Option Nat) (acc : List (Nat × Nat)), pos ≤ l.length → l.length ≤ pos + f → (∀ a, st = some a → a < pos ∧ NoSp l a pos) →
    (closeSpans (B l) (spansFromP (fun x => x == 32) (B l) f pos st acc)).map (fun x => (B l).extract x.1 x.2) = acc.map (fun x => (B l).extract x.1 x.2) ++ (Sp.wordsB (l.drop (st.getD pos))).map B := by
  have hsz : (B l).size = l.length := rfl
  have hend : ∀ (f pos : Nat) (st : Option Nat) (acc : List (Nat × Nat)), ¬ pos < l.length → pos ≤ l.length → (∀ a, st = some a → a < pos ∧ NoSp l a pos) →
    (closeSpans (B l) (spansFromP (fun x => x == 32) (B l) f pos st acc)).map (fun x => (B l).extract x.1 x.2) = acc.map (fun x => (B l).extract x.1 x.2) ++ (Sp.wordsB (l.drop (st.getD pos))).map B := by
    intro f pos st acc hn hp hst
    rw [spansFromP_end _ _ _ _ _ _ (by rw [hsz]; exact hn)]
    have he : pos = l.length := by omega
    subst he
    cases st with
    | none => simp [closeSpans, Sp.wordsB, splitB]
    | some a =>
      obtain ⟨h1, h2⟩ := hst a rfl
      simp only [closeSpans, Option.getD_some, hsz]
      rw [List.map_append, words_end h2 h1, List.map_cons, List.map_nil, extract_B, List.take_of_length_le (by simp)]
      simp
  intro f
  induction f with
  | zero => intro pos st acc hp hf hst; exact hend 0 pos st acc (by omega) hp hst
  | succ f ih =>
    intro pos st acc hp hf hst
    by_cases hlt : pos < l.length
    · have hdec := decode_at (B l) pos
      simp only [get_at, hsz] at hdec
      have hle := decodeN_le_n' (l.length - pos) (l.getD pos 0).toNat (l.getD (pos + 1) 0).toNat (l.getD (pos + 2) 0).toNat (l.getD (pos + 3) 0).toNat (by omega)
      have hge := width_pos (B l) pos
      rw [spansFromP.eq_def]
      simp only
      rw [if_pos (by rw [hsz]; exact hlt)]
      by_cases h32 : l.getD pos 0 = 32
      · have hd : Utf8.decode (B l) pos = (32, 1) := by rw [hdec, h32]; exact dec_32
        rw [hd]
        simp only [beq_self_eq_true, if_true]
        cases st with
        | none =>
          simp only
          rw [ih (pos + 1) none acc (by omega) (by omega) (fun a h => by cases h)]
          simp only [Option.getD_none]
          rw [words_sp hlt h32]
        | some a =>
          obtain ⟨h1, h2⟩ := hst a rfl
          simp only
          rw [ih (pos + 1) none _ (by omega) (by omega) (fun a h => by cases h)]
          simp only [Option.getD_none, Option.getD_some]
          rw [words_at h2 h1 hlt h32, List.map_append, List.map_cons, List.map_cons, List.map_nil, extract_B]
          simp
      · have hne : (l.getD pos 0).toNat ≠ 32 := fun c => h32 (UInt8.toNat_inj.1 c)
        have hr := dec_rest (n := l.length - pos) (b1 := (l.getD (pos + 1) 0).toNat) (b2 := (l.getD (pos + 2) 0).toNat) (b3 := (l.getD (pos + 3) 0).toNat) hne
        rw [← hdec] at hr hle
        have hR : ((Utf8.decode (B l) pos).1 == 32) = false := by
          rw [beq_eq_false_iff_ne]; intro c; rw [hdec] at c; exact hne (dec_small c)
        rw [hR]
        simp only [Bool.false_eq_true, if_false]
        obtain ⟨K, hK⟩ : ∃ K, (Utf8.decode (B l) pos).2 = K := ⟨_, rfl⟩
        rw [hK] at hr hle hge ⊢
        have hno : NoSp l pos (pos + K) := by
          intro i h1 h2 c
          have hk : ∀ {j : Nat}, (l.getD j 0).toNat / 64 = 2 → ¬ l.getD j 0 = 32 := fun h c => by rw [c] at h; simp at h
          rcases (by omega : i = pos ∨ i = pos + 1 ∨ i = pos + 2 ∨ i = pos + 3) with rfl | rfl | rfl | rfl
          · exact h32 c
          · exact hk (hr.1 (by omega)) c
          · exact hk (hr.2.1 (by omega)) c
          · exact hk (hr.2.2.1 (by omega)) c
        cases st with
        | none =>
          simp only
          rw [ih (pos + K) (some pos) acc (by omega) (by omega) (fun a h => by cases h; exact ⟨by omega, hno⟩)]
          rfl
        | some a =>
          obtain ⟨h1, h2⟩ := hst a rfl
          simp only
          rw [ih (pos + K) (some a) acc (by omega) (by omega) (fun b h => by cases h; exact ⟨by omega, fun i h3 h4 => by by_cases h5 : i < pos; { exact h2 i h3 h5 }; exact hno i (by omega) h4⟩)]
          rfl
    · exact hend (f + 1) pos st acc hlt hp hst

theorem fields_words (l : List UInt8) : goFieldsP (fun x => x == 32) (B l) = (Sp.wordsB l).map B := by
  have h := spans_words l l.length 0 none [] (Nat.zero_le _) (by omega) (fun a h => by cases h)
  simp only [List.map_nil, List.nil_append, Option.getD_none, List.drop_zero] at h
  exact h
end Go.Proofs.YtjlkmdmpejpmpaaGreatDoor.S

namespace Go.Proofs.YtjlkmdmpejpmpaaGreatDoor.S
open Go.RowKit H
attribute [local irreducible] H.CL H.RW H.CW H.Yd H.thenK H.blockQ Go.Calls

def trL (c : UInt8) : List UInt8 → List UInt8
  | [] => []
  | a :: r => if a = c then trL c r else a :: r
def trR (c : UInt8) (l : List UInt8) : List UInt8 := (trL c l.reverse).reverse
theorem trimLeft (l : List UInt8) (c : UInt8) (hl : l.length ≤ 1000000000000) (w : World) : Calls Tryz.prog 111 #[vs l, vb c] w fun e w' => w = w' ∧ e = .returned (vs (trL c l)) := by
  refine H.enter Tryz.func111 Tryz.ntmps111 rfl rfl ?_; dsimp only [H.args]
  repeat' (first | (refine CL.seq ?_) | (refine CL.region ?_) | (refine CL.skip ?_) | (refine CL.condP rfl (fun _ => ?_) (fun _ => ?_) <;> try (exfalso; omega)) | (refine CL.condT rfl ?_) | (refine CL.condF rfl ?_) | (refine CL.cond rfl (fun _ => ?_) (fun _ => ?_)) | (refine CL.block ?_) | (refine CL.exit ?_) | (refine Ex.then ?_) | (refine Ex.hit ?_) | (refine Ex.miss rfl ?_) | (refine CL.ret ?_) | (refine Rt.then ?_) | (refine Rt.block ?_) | (refine Pn.then ?_) | (refine Pn.block ?_) | (refine CL.done ?_) | (refine Nm.block ?_) | (refine Nm.then ?_) | (refine Gt.nil ?_; refine RW.nilw [0, 1, 4, 13] ?_; dsimp only [H.keep, H.look, H.Fr.put, Nat.beq]) | (refine Gt.move ?_; refine RW.y (Y.move rfl) rfl ?_) | (refine Gt.guard ?_; first | (refine RW.part rfl rfl rfl (fun _ => ?_) (fun _ => ?_) <;> try (exfalso; omega)) | (refine RW.on rfl rfl rfl ?_) | (refine RW.off1 rfl rfl rfl rfl rfl ?_) | (refine RW.off rfl rfl rfl rfl rfl ?_) | (refine RW.offu rfl rfl rfl rfl ?_) | (refine RW.partb rfl rfl rfl (fun _ => ?_) (fun _ => ?_))) | (refine Gt.assign ?_; refine RW.y (Y.assign rfl) rfl ?_) | (refine Gt.len ?_; refine RW.y (Y.lens rfl) rfl ?_) | (refine Gt.gtr ?_; refine RW.y (Y.gtr rfl rfl) rfl ?_) | (refine Gt.index ?_; refine RW.y (Y.idxs rfl rfl (by omega) (by omega)) rfl ?_) | (refine Gt.eql ?_; refine RW.y (Y.eqi rfl rfl) rfl ?_) | (refine Gt.pick ?_; first | (refine RW.y (Y.pickT rfl rfl) rfl ?_) | (refine RW.y (Y.pickF rfl rfl) rfl ?_)) | (refine Gt.slice ?_; refine RW.y (Y.cutl rfl rfl (by omega) (by omega)) rfl ?_))
  refine CL.loopS [0, 1] (fun m vals wr => ∃ r : List UInt8, vals = [vs r, vb c] ∧ m = r.length ∧ trL c r = trL c l ∧ r.length ≤ l.length ∧ wr = w) l.length ⟨_, rfl, l, rfl, rfl, rfl, Nat.le_refl _, rfl⟩ ?_
  rintro m vals wr ⟨r, rfl, rfl, hr, hle, rfl⟩
  dsimp only [List.zip, List.zipWith]
  rcases r with _ | ⟨a, r⟩
  · repeat' (first | (refine CL.seq ?_) | (refine CL.region ?_) | (refine CL.skip ?_) | (refine CL.condP rfl (fun _ => ?_) (fun _ => ?_) <;> try (exfalso; omega)) | (refine CL.condT rfl ?_) | (refine CL.condF rfl ?_) | (refine CL.cond rfl (fun _ => ?_) (fun _ => ?_)) | (refine CL.block ?_) | (refine CL.exit ?_) | (refine Ex.then ?_) | (refine Ex.hit ?_) | (refine Ex.miss rfl ?_) | (refine CL.ret ?_) | (refine Rt.then ?_) | (refine Rt.block ?_) | (refine Pn.then ?_) | (refine Pn.block ?_) | (refine CL.done ?_) | (refine Nm.block ?_) | (refine Nm.then ?_) | (refine Gt.nil ?_; refine RW.nilw [0, 1, 4, 13] ?_; dsimp only [H.keep, H.look, H.Fr.put, Nat.beq]) | (refine Gt.move ?_; refine RW.y (Y.move rfl) rfl ?_) | (refine Gt.guard ?_; first | (refine RW.part rfl rfl rfl (fun _ => ?_) (fun _ => ?_) <;> try (exfalso; omega)) | (refine RW.on rfl rfl rfl ?_) | (refine RW.off1 rfl rfl rfl rfl rfl ?_) | (refine RW.off rfl rfl rfl rfl rfl ?_) | (refine RW.offu rfl rfl rfl rfl ?_) | (refine RW.partb rfl rfl rfl (fun _ => ?_) (fun _ => ?_))) | (refine Gt.assign ?_; refine RW.y (Y.assign rfl) rfl ?_) | (refine Gt.len ?_; refine RW.y (Y.lens rfl) rfl ?_) | (refine Gt.gtr ?_; refine RW.y (Y.gtr rfl rfl) rfl ?_) | (refine Gt.index ?_; refine RW.y (Y.idxs rfl rfl (by omega) (by omega)) rfl ?_) | (refine Gt.eql ?_; refine RW.y (Y.eqi rfl rfl) rfl ?_) | (refine Gt.pick ?_; first | (refine RW.y (Y.pickT rfl rfl) rfl ?_) | (refine RW.y (Y.pickF rfl rfl) rfl ?_)) | (refine Gt.slice ?_; refine RW.y (Y.cutl rfl rfl (by omega) (by omega)) rfl ?_))
    · rename_i h1 h2
      simp at h1
    · exact FQ.one rfl rfl rfl ⟨rfl, by rw [← hr]; rfl⟩
    · exact FQ.one rfl rfl rfl ⟨rfl, by rw [← hr]; rfl⟩
  · repeat' (first | (refine CL.seq ?_) | (refine CL.region ?_) | (refine CL.skip ?_) | (refine CL.condP rfl (fun _ => ?_) (fun _ => ?_) <;> try (exfalso; omega)) | (refine CL.condT rfl ?_) | (refine CL.condF rfl ?_) | (refine CL.cond rfl (fun _ => ?_) (fun _ => ?_)) | (refine CL.block ?_) | (refine CL.exit ?_) | (refine Ex.then ?_) | (refine Ex.hit ?_) | (refine Ex.miss rfl ?_) | (refine CL.ret ?_) | (refine Rt.then ?_) | (refine Rt.block ?_) | (refine Pn.then ?_) | (refine Pn.block ?_) | (refine CL.done ?_) | (refine Nm.block ?_) | (refine Nm.then ?_) | (refine Gt.nil ?_; refine RW.nilw [0, 1, 4, 13] ?_; dsimp only [H.keep, H.look, H.Fr.put, Nat.beq]) | (refine Gt.move ?_; refine RW.y (Y.move rfl) rfl ?_) | (refine Gt.guard ?_; first | (refine RW.part rfl rfl rfl (fun _ => ?_) (fun _ => ?_) <;> try (exfalso; omega)) | (refine RW.on rfl rfl rfl ?_) | (refine RW.off1 rfl rfl rfl rfl rfl ?_) | (refine RW.off rfl rfl rfl rfl rfl ?_) | (refine RW.offu rfl rfl rfl rfl ?_) | (refine RW.partb rfl rfl rfl (fun _ => ?_) (fun _ => ?_))) | (refine Gt.assign ?_; refine RW.y (Y.assign rfl) rfl ?_) | (refine Gt.len ?_; refine RW.y (Y.lens rfl) rfl ?_) | (refine Gt.gtr ?_; refine RW.y (Y.gtr rfl rfl) rfl ?_) | (refine Gt.index ?_; refine RW.y (Y.idxs rfl rfl (by omega) (by omega)) rfl ?_) | (refine Gt.eql ?_; refine RW.y (Y.eqi rfl rfl) rfl ?_) | (refine Gt.pick ?_; first | (refine RW.y (Y.pickT rfl rfl) rfl ?_) | (refine RW.y (Y.pickF rfl rfl) rfl ?_)) | (refine Gt.slice ?_; refine RW.y (Y.cutl rfl rfl (by omega) (by omega)) rfl ?_))
    · rename_i h1 h2
      have h3 : a = c := UInt8.toNat_inj.1 (by simp at h2; omega)
      exact ⟨r.length, _, rfl, rfl, rfl, by simp, r, rfl, rfl, by rw [← hr, trL, if_pos h3], by simp at hle; omega, rfl⟩
    · rename_i h1 h2
      exact FQ.one rfl rfl rfl ⟨rfl, by rw [← hr, trL, if_neg (by intro c'; apply h2; rw [c']; rfl)]⟩
    · rename_i h1
      simp at h1

theorem trR_snoc (c : UInt8) (r : List UInt8) (a : UInt8) : trR c (r ++ [a]) = if a = c then trR c r else r ++ [a] := by
  rw [trR, List.reverse_append, List.reverse_singleton, List.singleton_append, trL]
  split
  · rfl
  · simp
theorem trR_len (c : UInt8) (l : List UInt8) : (trR c l).length ≤ l.length := by
  have h : ∀ m : List UInt8, (trL c m).length ≤ m.length := by
    intro m
    induction m with
    | nil => exact Nat.le_refl _
    | cons a r ih => rw [trL]; split <;> simp; omega
  rw [trR, List.length_reverse]
  have := h l.reverse
  simpa using this
theorem trimRight (l : List UInt8) (c : UInt8) (hl : l.length ≤ 1000000000000) (w : World) : Calls Tryz.prog 112 #[vs l, vb c] w fun e w' => w = w' ∧ e = .returned (vs (trR c l)) := by
  refine H.enter Tryz.func112 Tryz.ntmps112 rfl rfl ?_; dsimp only [H.args]
  repeat' (first | (refine CL.seq ?_) | (refine CL.region ?_) | (refine CL.skip ?_) | (refine CL.condP rfl (fun _ => ?_) (fun _ => ?_) <;> try (exfalso; omega)) | (refine CL.condT rfl ?_) | (refine CL.condF rfl ?_) | (refine CL.cond rfl (fun _ => ?_) (fun _ => ?_)) | (refine CL.block ?_) | (refine CL.exit ?_) | (refine Ex.then ?_) | (refine Ex.hit ?_) | (refine Ex.miss rfl ?_) | (refine CL.ret ?_) | (refine Rt.then ?_) | (refine Rt.block ?_) | (refine Pn.then ?_) | (refine Pn.block ?_) | (refine CL.done ?_) | (refine Nm.block ?_) | (refine Nm.then ?_) | (refine Gt.nil ?_; refine RW.nilw [0, 1, 4, 16] ?_; dsimp only [H.keep, H.look, H.Fr.put, Nat.beq]) | (refine Gt.move ?_; refine RW.y (Y.move rfl) rfl ?_) | (refine Gt.guard ?_; first | (refine RW.part rfl rfl rfl (fun _ => ?_) (fun _ => ?_) <;> try (exfalso; omega)) | (refine RW.on rfl rfl rfl ?_) | (refine RW.off1 rfl rfl rfl rfl rfl ?_) | (refine RW.off rfl rfl rfl rfl rfl ?_) | (refine RW.offu rfl rfl rfl rfl ?_) | (refine RW.partb rfl rfl rfl (fun _ => ?_) (fun _ => ?_))) | (refine Gt.assign ?_; refine RW.y (Y.assign rfl) rfl ?_) | (refine Gt.len ?_; refine RW.y (Y.lens rfl) rfl ?_) | (refine Gt.sub ?_; refine RW.y (Y.sub64 rfl rfl (by omega) (by omega)) rfl ?_) | (refine Gt.gtr ?_; refine RW.y (Y.gtr rfl rfl) rfl ?_) | (refine Gt.index ?_; refine RW.y (Y.idxs rfl rfl (by omega) (by omega)) rfl ?_) | (refine Gt.eql ?_; refine RW.y (Y.eqi rfl rfl) rfl ?_) | (refine Gt.pick ?_; first | (refine RW.y (Y.pickT rfl rfl) rfl ?_) | (refine RW.y (Y.pickF rfl rfl) rfl ?_)) | (refine Gt.slice ?_; refine RW.y (Y.cuth rfl rfl (by omega) (by omega)) rfl ?_))
  refine CL.loopS [0, 1] (fun m vals wr => ∃ r : List UInt8, vals = [vs r, vb c] ∧ m = r.length ∧ trR c r = trR c l ∧ r.length ≤ l.length ∧ wr = w) l.length ⟨_, rfl, l, rfl, rfl, rfl, Nat.le_refl _, rfl⟩ ?_
  rintro m vals wr ⟨r, rfl, rfl, hr, hle, rfl⟩
  dsimp only [List.zip, List.zipWith]
  rcases List.eq_nil_or_concat r with rfl | ⟨q, a, rfl⟩
  · repeat' (first | (refine CL.seq ?_) | (refine CL.region ?_) | (refine CL.skip ?_) | (refine CL.condP rfl (fun _ => ?_) (fun _ => ?_) <;> try (exfalso; omega)) | (refine CL.condT rfl ?_) | (refine CL.condF rfl ?_) | (refine CL.cond rfl (fun _ => ?_) (fun _ => ?_)) | (refine CL.block ?_) | (refine CL.exit ?_) | (refine Ex.then ?_) | (refine Ex.hit ?_) | (refine Ex.miss rfl ?_) | (refine CL.ret ?_) | (refine Rt.then ?_) | (refine Rt.block ?_) | (refine Pn.then ?_) | (refine Pn.block ?_) | (refine CL.done ?_) | (refine Nm.block ?_) | (refine Nm.then ?_) | (refine Gt.nil ?_; refine RW.nilw [0, 1, 4, 16] ?_; dsimp only [H.keep, H.look, H.Fr.put, Nat.beq]) | (refine Gt.move ?_; refine RW.y (Y.move rfl) rfl ?_) | (refine Gt.guard ?_; first | (refine RW.part rfl rfl rfl (fun _ => ?_) (fun _ => ?_) <;> try (exfalso; omega)) | (refine RW.on rfl rfl rfl ?_) | (refine RW.off1 rfl rfl rfl rfl rfl ?_) | (refine RW.off rfl rfl rfl rfl rfl ?_) | (refine RW.offu rfl rfl rfl rfl ?_) | (refine RW.partb rfl rfl rfl (fun _ => ?_) (fun _ => ?_))) | (refine Gt.assign ?_; refine RW.y (Y.assign rfl) rfl ?_) | (refine Gt.len ?_; refine RW.y (Y.lens rfl) rfl ?_) | (refine Gt.sub ?_; refine RW.y (Y.sub64 rfl rfl (by omega) (by omega)) rfl ?_) | (refine Gt.gtr ?_; refine RW.y (Y.gtr rfl rfl) rfl ?_) | (refine Gt.index ?_; refine RW.y (Y.idxs rfl rfl (by omega) (by omega)) rfl ?_) | (refine Gt.eql ?_; refine RW.y (Y.eqi rfl rfl) rfl ?_) | (refine Gt.pick ?_; first | (refine RW.y (Y.pickT rfl rfl) rfl ?_) | (refine RW.y (Y.pickF rfl rfl) rfl ?_)) | (refine Gt.slice ?_; refine RW.y (Y.cuth rfl rfl (by omega) (by omega)) rfl ?_))
    · rename_i h1 h2
      simp at h1
    · exact FQ.one rfl rfl rfl ⟨rfl, by rw [← hr]; rfl⟩
    · exact FQ.one rfl rfl rfl ⟨rfl, by rw [← hr]; rfl⟩
  · rw [List.concat_eq_append] at *
    have hlen : (q ++ [a]).length = q.length + 1 := by simp
    have hd : (q ++ [a]).getD ((((q ++ [a]).length : Nat) : Int) - 1).toNat 0 = a := by
      rw [hlen, show (((q.length + 1 : Nat) : Int) - 1).toNat = q.length from by omega]; simp
    have ht : (q ++ [a]).take ((((q ++ [a]).length : Nat) : Int) - 1).toNat = q := by
      rw [hlen, show (((q.length + 1 : Nat) : Int) - 1).toNat = q.length from by omega]; simp
    repeat' (first | (refine CL.seq ?_) | (refine CL.region ?_) | (refine CL.skip ?_) | (refine CL.condP rfl (fun _ => ?_) (fun _ => ?_) <;> try (exfalso; omega)) | (refine CL.condT rfl ?_) | (refine CL.condF rfl ?_) | (refine CL.cond rfl (fun _ => ?_) (fun _ => ?_)) | (refine CL.block ?_) | (refine CL.exit ?_) | (refine Ex.then ?_) | (refine Ex.hit ?_) | (refine Ex.miss rfl ?_) | (refine CL.ret ?_) | (refine Rt.then ?_) | (refine Rt.block ?_) | (refine Pn.then ?_) | (refine Pn.block ?_) | (refine CL.done ?_) | (refine Nm.block ?_) | (refine Nm.then ?_) | (refine Gt.nil ?_; refine RW.nilw [0, 1, 4, 16] ?_; dsimp only [H.keep, H.look, H.Fr.put, Nat.beq]) | (refine Gt.move ?_; refine RW.y (Y.move rfl) rfl ?_) | (refine Gt.guard ?_; first | (refine RW.part rfl rfl rfl (fun _ => ?_) (fun _ => ?_) <;> try (exfalso; omega)) | (refine RW.on rfl rfl rfl ?_) | (refine RW.off1 rfl rfl rfl rfl rfl ?_) | (refine RW.off rfl rfl rfl rfl rfl ?_) | (refine RW.offu rfl rfl rfl rfl ?_) | (refine RW.partb rfl rfl rfl (fun _ => ?_) (fun _ => ?_))) | (refine Gt.assign ?_; refine RW.y (Y.assign rfl) rfl ?_) | (refine Gt.len ?_; refine RW.y (Y.lens rfl) rfl ?_) | (refine Gt.sub ?_; refine RW.y (Y.sub64 rfl rfl (by omega) (by omega)) rfl ?_) | (refine Gt.gtr ?_; refine RW.y (Y.gtr rfl rfl) rfl ?_) | (refine Gt.index ?_; refine RW.y (Y.idxs rfl rfl (by omega) (by omega)) rfl ?_) | (refine Gt.eql ?_; refine RW.y (Y.eqi rfl rfl) rfl ?_) | (refine Gt.pick ?_; first | (refine RW.y (Y.pickT rfl rfl) rfl ?_) | (refine RW.y (Y.pickF rfl rfl) rfl ?_)) | (refine Gt.slice ?_; refine RW.y (Y.cuth rfl rfl (by omega) (by omega)) rfl ?_))
    · rename_i h1 h2
      have h3 : a = c := UInt8.toNat_inj.1 (by rw [hd] at h2; omega)
      rw [ht]
      exact ⟨q.length, _, rfl, rfl, rfl, by rw [hlen]; omega, q, rfl, rfl, by rw [← hr, trR_snoc, if_pos h3], by omega, rfl⟩
    · rename_i h1 h2
      rw [hd] at h2
      exact FQ.one rfl rfl rfl ⟨rfl, by rw [← hr, trR_snoc, if_neg (by intro c'; apply h2; rw [c'])]⟩

theorem trim (l : List UInt8) (c : UInt8) (hc : c.toNat < 128) (hl : l.length ≤ 1000000000000) (w : World) : Calls Tryz.prog 96 #[vs l, vs [c]] w fun e w' => K0 w w' ∧ e = .returned (vs (trL c (trR c l))) := by
  have hlen := trR_len c l
  have h0 : ([c] : List UInt8).getD (Int.toNat 0) 0 = c := rfl
  have h1l : ([c] : List UInt8).length = 1 := rfl
  refine H.enter Tryz.func96 Tryz.ntmps96 rfl rfl ?_; dsimp only [H.args]
  repeat' (first | (refine CL.seq ?_) | (refine CL.region ?_) | (refine CL.skip ?_) | (refine CL.condP rfl (fun _ => ?_) (fun _ => ?_) <;> try (exfalso; omega)) | (refine CL.condT rfl ?_) | (refine CL.condF rfl ?_) | (refine CL.cond rfl (fun _ => ?_) (fun _ => ?_)) | (refine CL.block ?_) | (refine CL.exit ?_) | (refine Ex.then ?_) | (refine Ex.hit ?_) | (refine Ex.miss rfl ?_) | (refine CL.ret ?_) | (refine Rt.then ?_) | (refine Rt.block ?_) | (refine Pn.then ?_) | (refine Pn.block ?_) | (refine CL.done ?_) | (refine Nm.block ?_) | (refine Nm.then ?_) | (refine Gt.nil ?_; refine RW.nilw [0, 1, 4, 5, 6, 12, 21, 34] ?_; dsimp only [H.keep, H.look, H.Fr.put, Nat.beq]) | (refine Gt.move ?_; refine RW.y (Y.move rfl) rfl ?_) | (refine Gt.guard ?_; first | (refine RW.part rfl rfl rfl (fun _ => ?_) (fun _ => ?_) <;> try (exfalso; omega)) | (refine RW.on rfl rfl rfl ?_) | (refine RW.off1 rfl rfl rfl rfl rfl ?_) | (refine RW.off rfl rfl rfl rfl rfl ?_) | (refine RW.offu rfl rfl rfl rfl ?_) | (refine RW.partb rfl rfl rfl (fun _ => ?_) (fun _ => ?_))) | (refine Gt.assign ?_; refine RW.y (Y.assign rfl) rfl ?_) | (refine Gt.index ?_; refine RW.y (Y.idxs rfl rfl (by omega) (by omega)) rfl ?_) | (refine Gt.eql ?_; first | (refine RW.y (Y.eqs rfl rfl) rfl ?_) | (refine RW.y (Y.eqi rfl rfl) rfl ?_)) | (refine Gt.pick ?_; first | (refine RW.y (Y.pickT rfl rfl) rfl ?_) | (refine RW.y (Y.pickF rfl rfl) rfl ?_)) | (refine Gt.extract ?_; refine RW.y (Y.extract rfl rfl) rfl ?_) | (refine Gt.len ?_; refine RW.y (Y.lens rfl) rfl ?_) | (refine Gt.lss ?_; refine RW.y (Y.lss rfl rfl) rfl ?_))
  · have hl0 : l = [] := by assumption
    exact FQ.one rfl rfl rfl ⟨Kept.refl _ _, by rw [hl0]; rfl⟩
  · exfalso; rename_i h1; simp at h1
  · refine CL.draw (fun w' => K0 w w') (by kernel_rfl) (fun w2 hheap hk2 => ?_)
    have hS : K0 w w2 := hk2
    skip
    refine AW.take 0 rfl (by kernel_rfl) (by kernel_rfl) (by kernel_rfl) rfl (by assumption) (fun w hS => Y.move rfl) ?_
    refine AW.take 1 rfl (by kernel_rfl) (by kernel_rfl) (by kernel_rfl) rfl (by assumption) (fun w hS => Y.move rfl) ?_
    refine AW.take 2 rfl (by kernel_rfl) (by kernel_rfl) (by kernel_rfl) rfl (by assumption) (fun w hS => Y.idxs (a := [c]) rfl rfl (by omega) (by simp)) ?_
    refine AW.take 4 rfl (by kernel_rfl) (by kernel_rfl) (by kernel_rfl) rfl (by assumption) (fun w hS => Y.move rfl) ?_
    refine AW.take 5 rfl (by kernel_rfl) (by kernel_rfl) (by kernel_rfl) rfl (by assumption) (fun w hS => Y.idxs (a := [c]) rfl rfl (by omega) (by simp)) ?_
    refine AW.next 3 rfl (by kernel_rfl) ?_
    refine RW.fn rfl rfl ((trimRight l c hl w2).mono ?_)
    rintro e w3 ⟨rfl, rfl⟩
    refine RW.nil (Nm.then (rebase0 hS (Kept.refl _ w2) fun hS => ?_))
    skip
    refine AW.next 6 rfl (by kernel_rfl) ?_
    refine RW.fn rfl rfl ((trimLeft (trR c l) c (by omega) w2).mono ?_)
    rintro e w3 ⟨rfl, rfl⟩
    refine RW.nil (Nm.then (rebase0 hS (Kept.refl _ w2) fun hS => ?_))
    refine AW.take 7 rfl (by kernel_rfl) (by kernel_rfl) (by kernel_rfl) rfl (by assumption) (fun w hS => Y.assign rfl) ?_
    refine AW.donew [4] (by kernel_rfl) ?_
    dsimp only [H.keep, H.look, H.Fr.put, Nat.beq]
    repeat' (first | (refine CL.seq ?_) | (refine CL.region ?_) | (refine CL.skip ?_) | (refine CL.condP rfl (fun _ => ?_) (fun _ => ?_) <;> try (exfalso; omega)) | (refine CL.condT rfl ?_) | (refine CL.condF rfl ?_) | (refine CL.cond rfl (fun _ => ?_) (fun _ => ?_)) | (refine CL.block ?_) | (refine CL.exit ?_) | (refine Ex.then ?_) | (refine Ex.hit ?_) | (refine Ex.miss rfl ?_) | (refine CL.ret ?_) | (refine Rt.then ?_) | (refine Rt.block ?_) | (refine Pn.then ?_) | (refine Pn.block ?_) | (refine CL.done ?_) | (refine Nm.block ?_) | (refine Nm.then ?_) | (refine Gt.nil ?_; refine RW.nilw [0, 1, 4, 5, 6, 12, 21, 34] ?_; dsimp only [H.keep, H.look, H.Fr.put, Nat.beq]) | (refine Gt.move ?_; refine RW.y (Y.move rfl) rfl ?_) | (refine Gt.guard ?_; first | (refine RW.part rfl rfl rfl (fun _ => ?_) (fun _ => ?_) <;> try (exfalso; omega)) | (refine RW.on rfl rfl rfl ?_) | (refine RW.off1 rfl rfl rfl rfl rfl ?_) | (refine RW.off rfl rfl rfl rfl rfl ?_) | (refine RW.offu rfl rfl rfl rfl ?_) | (refine RW.partb rfl rfl rfl (fun _ => ?_) (fun _ => ?_))) | (refine Gt.assign ?_; refine RW.y (Y.assign rfl) rfl ?_) | (refine Gt.index ?_; refine RW.y (Y.idxs rfl rfl (by omega) (by omega)) rfl ?_) | (refine Gt.eql ?_; first | (refine RW.y (Y.eqs rfl rfl) rfl ?_) | (refine RW.y (Y.eqi rfl rfl) rfl ?_)) | (refine Gt.pick ?_; first | (refine RW.y (Y.pickT rfl rfl) rfl ?_) | (refine RW.y (Y.pickF rfl rfl) rfl ?_)) | (refine Gt.extract ?_; refine RW.y (Y.extract rfl rfl) rfl ?_) | (refine Gt.len ?_; refine RW.y (Y.lens rfl) rfl ?_) | (refine Gt.lss ?_; refine RW.y (Y.lss rfl rfl) rfl ?_))
    exact FQ.one rfl rfl rfl ⟨hk2, rfl⟩
  · exfalso; rename_i h1; rw [h0] at h1; omega

theorem trL_head (c : UInt8) (r : List UInt8) : ∀ m : List UInt8, trL c m ≠ c :: r := by
  intro m
  induction m with
  | nil => simp [trL]
  | cons a m ih =>
    rw [trL]
    split
    · exact ih
    · rename_i h; intro e; simp at e; exact h e.1
theorem trL_suf (c : UInt8) : ∀ m : List UInt8, ∃ p, m = p ++ trL c m := by
  intro m
  induction m with
  | nil => exact ⟨[], rfl⟩
  | cons a m ih =>
    obtain ⟨p, hp⟩ := ih
    rw [trL]
    split
    · exact ⟨a :: p, by rw [List.cons_append, ← hp]⟩
    · exact ⟨[], rfl⟩
theorem trR_last (c : UInt8) (l r : List UInt8) : trR c l ≠ r ++ [c] := by
  intro e
  have := congrArg List.reverse e
  rw [trR, List.reverse_reverse] at this
  simp at this
  exact trL_head c r.reverse l.reverse this
theorem splitB_snoc (c : UInt8) : ∀ l : List UInt8, splitB c (l ++ [c]) = splitB c l ++ [[]] := by
  intro l
  induction l with
  | nil => simp [splitB]
  | cons a l ih =>
    rw [List.cons_append, splitB, splitB, ih]
    split
    · rfl
    · cases h : splitB c l with
      | nil => exact absurd h (splitB_ne c l)
      | cons b m => simp
theorem words_trL : ∀ l : List UInt8, Sp.wordsB (trL 32 l) = Sp.wordsB l := by
  intro l
  induction l with
  | nil => rfl
  | cons a l ih =>
    rw [trL]
    split
    · rename_i h; rw [h, Sp.wordsB_sp, ih]
    · rfl
theorem words_trR (l : List UInt8) : Sp.wordsB (trR 32 l) = Sp.wordsB l := by
  obtain ⟨n, hn⟩ : ∃ n, l.length = n := ⟨_, rfl⟩
  induction n generalizing l with
  | zero => rw [List.eq_nil_of_length_eq_zero hn]; rfl
  | succ n ih =>
    rcases List.eq_nil_or_concat l with rfl | ⟨q, a, rfl⟩
    · rfl
    · rw [List.concat_eq_append] at *
      rw [trR_snoc]
      split
      · rename_i h
        subst h
        rw [ih q (by simpa using hn), Sp.wordsB, Sp.wordsB, splitB_snoc]
        simp
      · rfl
theorem words_none : ∀ (n : Nat) (l : List UInt8), l.length ≤ n → Sp.wordsB l = [] → ∀ c ∈ l, c = 32 := by
  intro n
  induction n with
  | zero => intro l h _ c hc; rw [List.eq_nil_of_length_eq_zero (Nat.le_zero.1 h)] at hc; cases hc
  | succ n ih =>
    intro l h hw c hc
    by_cases h32 : (32 : UInt8) ∈ l
    · obtain ⟨x, r, rfl, hx⟩ := List.eq_append_cons_of_mem h32
      by_cases h0 : x = []
      · subst h0
        rw [List.nil_append, Sp.wordsB_sp] at hw
        rw [List.nil_append] at hc h
        rcases List.mem_cons.1 hc with rfl | hc
        · rfl
        · exact ih r (by simpa using h) hw c hc
      · rw [Sp.wordsB_word x r hx h0] at hw; cases hw
    · by_cases h0 : l = []
      · rw [h0] at hc; cases hc
      · rw [Sp.wordsB_last l h32 h0] at hw; cases hw
/-- One star, maybe with spaces about. -/
theorem trim_star (l : List UInt8) : trL 32 (trR 32 l) = [42] ↔ Sp.wordsB l = [[42]] := by
  constructor
  · intro h
    rw [← words_trR, ← words_trL, h]
    decide
  · intro h
    rw [← words_trR, ← words_trL] at h
    obtain ⟨p, hp⟩ := trL_suf 32 (trR 32 l)
    have hl : ∀ r, trL 32 (trR 32 l) ≠ r ++ [32] := fun r e => trR_last 32 l (p ++ r) (by rw [List.append_assoc, ← e]; exact hp)
    have hh := fun r => trL_head 32 r (trR 32 l)
    generalize trL 32 (trR 32 l) = t at h hl hh
    by_cases h32 : (32 : UInt8) ∈ t
    · obtain ⟨x, r, rfl, hx⟩ := List.eq_append_cons_of_mem h32
      by_cases h0 : x = []
      · subst h0; exact absurd rfl (hh r)
      · rw [Sp.wordsB_word x r hx h0] at h
        simp at h
        have hr := words_none _ r (Nat.le_refl _) h.2
        rcases List.eq_nil_or_concat r with rfl | ⟨q, a, rfl⟩
        · exact absurd rfl (hl x)
        · rw [List.concat_eq_append] at *
          have := hr a (by simp)
          subst this
          exact absurd (by simp) (hl (x ++ 32 :: q))
    · by_cases h0 : t = []
      · rw [h0] at h; cases h
      · rw [Sp.wordsB_last t h32 h0] at h
        simpa using h
end Go.Proofs.YtjlkmdmpejpmpaaGreatDoor.S

namespace Go.Proofs.YtjlkmdmpejpmpaaGreatDoor.S
open Go.RowKit H
attribute [local irreducible] H.CL H.RW H.CW H.Yd H.thenK H.blockQ Go.Calls

theorem spaceLam (x : Nat) (w : World) : Calls Tryz.prog 99 #[.int .i32 (x : Int)] w fun e w' => w = w' ∧ e = .returned (.bool (x == 32)) := by
  refine H.enter Tryz.func99 Tryz.ntmps99 rfl rfl ?_; dsimp only [H.args]
  repeat' (first | (refine CL.seq ?_) | (refine CL.region ?_) | (refine CL.skip ?_) | (refine CL.condP rfl (fun _ => ?_) (fun _ => ?_) <;> try (exfalso; omega)) | (refine CL.condT rfl ?_) | (refine CL.condF rfl ?_) | (refine CL.cond rfl (fun _ => ?_) (fun _ => ?_)) | (refine CL.block ?_) | (refine CL.exit ?_) | (refine Ex.then ?_) | (refine Ex.hit ?_) | (refine Ex.miss rfl ?_) | (refine CL.ret ?_) | (refine Rt.then ?_) | (refine Rt.block ?_) | (refine Pn.then ?_) | (refine Pn.block ?_) | (refine CL.done ?_) | (refine Nm.block ?_) | (refine Nm.then ?_) | (refine Gt.nil ?_; refine RW.nilw [0, 2] ?_; dsimp only [H.keep, H.look, H.Fr.put, Nat.beq]) | (refine Gt.assign ?_; refine RW.y (Y.assign rfl) rfl ?_) | (refine Gt.move ?_; refine RW.y (Y.move rfl) rfl ?_) | (refine Gt.eql ?_; refine RW.y (Y.eqi rfl rfl) rfl ?_))
  refine FQ.one rfl rfl rfl ⟨rfl, ?_⟩
  congr 2
  rw [Bool.eq_iff_iff]
  simp
  omega
theorem fields (l : List UInt8) (hl : l.length ≤ 1000000) (w : World) : Calls Tryz.prog 98 #[vs l, .func (.func 99) #[] #[]] w fun e w' => K0 w w' ∧ ∃ v', e = .returned v' ∧ w'.ownsRow w.heap.size strT 1 v' (Sp.wordsB l).length (sv (Sp.wordsB l)) := by
  have hp : PredAtRunes Tryz.prog 99 #[] (fun x => x == 32) w := by
    intro W x hx hb
    exact (spaceLam x W).mono fun e w' ⟨h1, h2⟩ => ⟨h2, 0, h1.symm⟩
  have h := Any.strings_FieldsFunc_runes Tryz.lays229 99 #[] (enters_of Tryz.func99 (by kernel_rfl) rfl) (fun x => x == 32) (B l) w (by show l.length ≤ _; omega) hp (by kernel_rfl) (by kernel_rfl)
  rw [fields_words, List.length_map, List.map_map] at h
  exact h.mono fun e w' ⟨A, h1, _, h2, h3⟩ => ⟨Kept.of_below h3, _, h1, h2⟩

/-- The library's variable of its machine holds some number. -/
def Ml (w : World) : Prop := ∃ m, w.cell? ⟨0, 0, none⟩ = some (.int .i64 m)
theorem index2 (l : List UInt8) (hl : l.length ≤ 1000000) (w : World) (hM : Ml w) : Calls Tryz.prog 88 #[vs l, vs [124, 124]] w fun e w' => w = w' ∧ e = .returned (.int .i64 (Go.Lib.index l [124, 124])) := by
  obtain ⟨m, hm⟩ := hM
  have h := Tryz.strings_Index (B l) (B [124, 124]) m w (by show l.length < _; omega) hm
  exact h.mono fun e w' ⟨h1, h2⟩ => ⟨h2.symm, h1⟩

/-- The boxes of the closure that splits. -/
def Sp2 (l : List UInt8) (bs bt bv : Nat) (W : World) : Prop :=
  W.heap[bs]? = some (.cells #[vs [124, 124]] strT (0, 0)) ∧ W.heap[bt]? = some (.cells #[vs l] strT (0, 0)) ∧ W.heap[bv]? = some (.cells #[.int .i64 0] 3 (0, 0)) ∧ Ml W
theorem Ml.of {w w' : World} (h : Ml w) (hh : w'.heap[0]? = w.heap[0]?) : Ml w' := by
  obtain ⟨m, hm⟩ := h
  refine ⟨m, ?_⟩
  simp only [World.cell?] at hm ⊢
  rw [hh]; exact hm
theorem Ml.lt {w : World} (h : Ml w) : 0 < w.heap.size := by
  obtain ⟨m, hm⟩ := h
  simp only [World.cell?] at hm
  rcases Nat.lt_or_ge 0 w.heap.size with h | h
  · exact h
  · rw [Array.getElem?_eq_none h] at hm; cases hm
theorem Ml.keep0 {w w' : World} (h : Ml w) (k : K0 w w') : Ml w' := h.of (k.block _ h.lt fun c => c)
theorem Ml.keep {S : Nat → Prop} {w w' : World} (h : Ml w) (k : Kept S w w') (hS : ¬ S 0) : Ml w' := h.of (k.block _ h.lt hS)

theorem splitSeq2 (l : List UInt8) (w : World) (hM : Ml w) : Calls Tryz.prog 97 #[vs l, vs [124, 124]] w fun e w' => K0 w w' ∧ ∃ bs bt bv, e = .returned (.func (.func 140) #[] #[.pointer (some ⟨bs, 0, none⟩), .pointer (some ⟨bt, 0, none⟩), .pointer (some ⟨bv, 0, none⟩)]) ∧
    bt ≠ bs ∧ bt ≠ bv ∧ w.heap.size ≤ bs ∧ w.heap.size ≤ bt ∧ w.heap.size ≤ bv ∧ bs < w'.heap.size ∧ bt < w'.heap.size ∧ bv < w'.heap.size ∧ Sp2 l bs bt bv w' := by
  have h : ∀ w, Ml w → Calls Tryz.prog 118 #[vs l, vs [124, 124], .int .i64 0] w fun e w' => K0 w w' ∧ ∃ bs bt bv, e = .returned (.func (.func 140) #[] #[.pointer (some ⟨bs, 0, none⟩), .pointer (some ⟨bt, 0, none⟩), .pointer (some ⟨bv, 0, none⟩)]) ∧
    bt ≠ bs ∧ bt ≠ bv ∧ w.heap.size ≤ bs ∧ w.heap.size ≤ bt ∧ w.heap.size ≤ bv ∧ bs < w'.heap.size ∧ bt < w'.heap.size ∧ bv < w'.heap.size ∧ Sp2 l bs bt bv w' := by
    intro w hM
    refine H.enter Tryz.func118 Tryz.ntmps118 rfl rfl ?_; dsimp only [H.args]
    repeat' (first | (refine CL.seq ?_) | (refine CL.region ?_) | (refine CL.skip ?_) | (refine CL.condP rfl (fun _ => ?_) (fun _ => ?_) <;> try (exfalso; omega)) | (refine CL.condT rfl ?_) | (refine CL.condF rfl ?_) | (refine CL.cond rfl (fun _ => ?_) (fun _ => ?_)) | (refine CL.block ?_) | (refine CL.exit ?_) | (refine Ex.then ?_) | (refine Ex.hit ?_) | (refine Ex.miss rfl ?_) | (refine CL.ret ?_) | (refine Rt.then ?_) | (refine Rt.block ?_) | (refine Pn.then ?_) | (refine Pn.block ?_) | (refine CL.done ?_) | (refine Nm.block ?_) | (refine Nm.then ?_) | (refine Gt.nil ?_; refine RW.nilw [0, 1, 2, 3, 4, 5, 6] ?_; dsimp only [H.keep, H.look, H.Fr.put, Nat.beq]) | (refine Gt.assign ?_; refine RW.y (Y.assign rfl) rfl ?_) | (refine Gt.makeFunc ?_; refine RW.y (Y.makeFunc rfl rfl) rfl ?_))
    refine RW.box rfl rfl (fun w1 hb1 hk1 hlt1 => ?_)
    refine RW.box rfl rfl (fun w2 hb2 hk2 hlt2 => ?_)
    refine RW.box rfl rfl (fun w3 hb3 hk3 hlt3 => ?_)
    repeat' (first | (refine CL.seq ?_) | (refine CL.region ?_) | (refine CL.skip ?_) | (refine CL.condP rfl (fun _ => ?_) (fun _ => ?_) <;> try (exfalso; omega)) | (refine CL.condT rfl ?_) | (refine CL.condF rfl ?_) | (refine CL.cond rfl (fun _ => ?_) (fun _ => ?_)) | (refine CL.block ?_) | (refine CL.exit ?_) | (refine Ex.then ?_) | (refine Ex.hit ?_) | (refine Ex.miss rfl ?_) | (refine CL.ret ?_) | (refine Rt.then ?_) | (refine Rt.block ?_) | (refine Pn.then ?_) | (refine Pn.block ?_) | (refine CL.done ?_) | (refine Nm.block ?_) | (refine Nm.then ?_) | (refine Gt.nil ?_; refine RW.nilw [0, 1, 2, 3, 4, 5, 6] ?_; dsimp only [H.keep, H.look, H.Fr.put, Nat.beq]) | (refine Gt.assign ?_; refine RW.y (Y.assign rfl) rfl ?_) | (refine Gt.makeFunc ?_; refine RW.y (Y.makeFunc rfl rfl) rfl ?_))
    have hs1 := hk1.size
    have hs2 := hk2.size
    have hs3 := hk3.size
    exact FQ.one rfl rfl rfl ⟨(hk1.trans0 hk2).trans0 hk3, _, _, _, rfl, by omega, by omega, by omega, by omega, by omega, by omega, by omega, by omega, hk3.at0 hb2, (hk2.trans0 hk3).at0 hb1, hb3, hM.keep0 ((hk1.trans0 hk2).trans0 hk3)⟩
  refine H.enter Tryz.func97 Tryz.ntmps97 rfl rfl ?_; dsimp only [H.args]
  repeat' (first | (refine CL.seq ?_) | (refine CL.region ?_) | (refine CL.skip ?_) | (refine CL.condP rfl (fun _ => ?_) (fun _ => ?_) <;> try (exfalso; omega)) | (refine CL.condT rfl ?_) | (refine CL.condF rfl ?_) | (refine CL.cond rfl (fun _ => ?_) (fun _ => ?_)) | (refine CL.block ?_) | (refine CL.exit ?_) | (refine Ex.then ?_) | (refine Ex.hit ?_) | (refine Ex.miss rfl ?_) | (refine CL.ret ?_) | (refine Rt.then ?_) | (refine Rt.block ?_) | (refine Pn.then ?_) | (refine Pn.block ?_) | (refine CL.done ?_) | (refine Nm.block ?_) | (refine Nm.then ?_) | (refine Gt.nil ?_; refine RW.nilw [0, 1, 4] ?_; dsimp only [H.keep, H.look, H.Fr.put, Nat.beq]) | (refine Gt.assign ?_; refine RW.y (Y.assign rfl) rfl ?_) | (refine Gt.move ?_; refine RW.y (Y.move rfl) rfl ?_))
  refine RW.fn rfl rfl ((h w hM).mono ?_)
  rintro e w1 ⟨hk, bs, bt, bv, rfl, hh⟩
  repeat' (first | (refine CL.seq ?_) | (refine CL.region ?_) | (refine CL.skip ?_) | (refine CL.condP rfl (fun _ => ?_) (fun _ => ?_) <;> try (exfalso; omega)) | (refine CL.condT rfl ?_) | (refine CL.condF rfl ?_) | (refine CL.cond rfl (fun _ => ?_) (fun _ => ?_)) | (refine CL.block ?_) | (refine CL.exit ?_) | (refine Ex.then ?_) | (refine Ex.hit ?_) | (refine Ex.miss rfl ?_) | (refine CL.ret ?_) | (refine Rt.then ?_) | (refine Rt.block ?_) | (refine Pn.then ?_) | (refine Pn.block ?_) | (refine CL.done ?_) | (refine Nm.block ?_) | (refine Nm.then ?_) | (refine Gt.nil ?_; refine RW.nilw [0, 1, 4] ?_; dsimp only [H.keep, H.look, H.Fr.put, Nat.beq]) | (refine Gt.assign ?_; refine RW.y (Y.assign rfl) rfl ?_) | (refine Gt.move ?_; refine RW.y (Y.move rfl) rfl ?_))
  exact FQ.one rfl rfl rfl ⟨hk, bs, bt, bv, rfl, hh⟩
end Go.Proofs.YtjlkmdmpejpmpaaGreatDoor.S

namespace Go.Proofs.YtjlkmdmpejpmpaaGreatDoor.Sp
open Go.RowKit H S Ve
attribute [local irreducible] H.CL H.RW H.CW H.Yd H.thenK H.blockQ Go.Calls

abbrev bdT' : TypeId := 93
/-- The cells of a bound. -/
def bdC (x : Bd × Value) : List Value := [vs x.1.sign, .int .i64 x.1.v.a, .int .i64 x.1.v.b, .int .i64 x.1.v.c, x.2]
/-- Bounds in memory. -/
def BdsAt (w : World) (p : Value) (l : List Bd) : Prop := ∃ L : List (Bd × Value), L.map (·.1) = l ∧ Sl w 5 p L.length (L.flatMap bdC) ∧ ∀ x ∈ L, Sl w 1 x.2 x.1.v.pre.length (sv x.1.v.pre)
/-- Bounds in memory that was not there below B. -/
def BdsNew (B : Nat) (w : World) (p : Value) (l : List Bd) : Prop := ∃ L : List (Bd × Value), L.map (·.1) = l ∧ Sl w 5 p L.length (L.flatMap bdC) ∧ (∀ g, live p = some g → B ≤ g) ∧ ∀ x ∈ L, Sl w 1 x.2 x.1.v.pre.length (sv x.1.v.pre) ∧ ∀ g, live x.2 = some g → B ≤ g
theorem BdsAt.keep0 {w w' : World} {p : Value} {l : List Bd} (h : BdsAt w p l) (k : K0 w w') : BdsAt w' p l := by
  obtain ⟨L, h1, h2, h3⟩ := h; exact ⟨L, h1, h2.keep0 k, fun x hx => (h3 x hx).keep0 k⟩
def signsL : List T := [[60, 61], [62, 61], [60], [62], [61], [94], [126]]
/-- The first of the signs that the word begins with. -/
def firstOf : List T → T → T
  | [], _ => []
  | x :: r, w => if w.take x.length = x then x else firstOf r w
theorem firstOf_sign (w : T) : firstOf signsL w = signOf w := by
  simp only [signsL, firstOf, signOf, List.length_cons, List.length_nil, Nat.zero_add, Nat.reduceAdd]
  by_cases h1 : w.take 2 = [60, 61]
  · simp [h1]
  · by_cases h2 : w.take 2 = [62, 61]
    · simp [h2]
    · simp only [h1, h2, or_self, if_false]
      repeat' split
      all_goals simp_all
theorem firstOf_drop (l : List T) (w : T) (i : Nat) (h : i < l.length) : firstOf (l.drop i) w = if w.take (l.getD i []).length = l.getD i [] then l.getD i [] else firstOf (l.drop (i + 1)) w := by
  rw [List.drop_eq_getElem_cons h, firstOf, List.getD_eq_getElem?_getD, List.getElem?_eq_getElem h]
  rfl

theorem text_cells {l : List T} : ∀ v ∈ sv l, v.cells.size = 1 := by
  intro v hv
  obtain ⟨x, _, rfl⟩ := List.mem_map.1 hv
  rfl
theorem signed (s : T) (hl : s.length ≤ 1000000) (w : World) : Calls Tryz.prog 119 #[vs s] w fun e w' => K0 w w' ∧ e = .returned (.tuple #[vs (signOf s), vs (s.drop (signOf s).length)]) := by
  refine H.enter Tryz.func119 Tryz.ntmps119 rfl rfl ?_; dsimp only [H.args]
  repeat' (first | (refine CL.seq ?_) | (refine CL.region ?_) | (refine Gt.nil ?_; refine RW.nilw [0, 2, 3, 5, 6, 7, 8, 9, 14] ?_; dsimp only [H.keep, H.look, H.Fr.put, Nat.beq]) | (refine Gt.assign ?_; refine RW.y (Y.assign rfl) rfl ?_))
  refine RW.buildL (ps := [(0, _), (1, _), (2, _), (3, _), (4, _), (5, _), (6, _)]) (l := sv signsL) rfl rfl rfl text_cells rfl rfl (fun w1 hb1 hk1 hlt1 => ?_)
  have hs1 : Sl w1 1 (.slice (some ⟨w.heap.size, 0, none⟩) 7 7) signsL.length (sv signsL) := sl_new hb1 rfl (by decide)
  repeat' (first | (refine CL.block ?_) | (refine Gt.nil ?_; refine RW.nilw [0, 2, 3, 5, 6, 7, 8, 9, 14] ?_; dsimp only [H.keep, H.look, H.Fr.put, Nat.beq]) | (refine Gt.move ?_; refine RW.y (Y.move rfl) rfl ?_) | (refine Gt.len ?_; (refine RW.y (Y.lenv rfl) rfl ?_)))
  refine CL.loopS [0, 2, 3, 6, 7, 8] (fun m vals wr => ∃ i : Nat, vals = [vs s, vs [], vs [], .slice (some ⟨w.heap.size, 0, none⟩) 7 7, .int .i64 7, .int .i64 (i : Int)] ∧ m = 7 - i ∧ i ≤ 7 ∧ firstOf (signsL.drop i) s = signOf s ∧ K0 w1 wr) 7 ⟨_, rfl, 0, rfl, rfl, by omega, firstOf_sign s, Kept.refl _ _⟩ ?_
  rintro m vals wr ⟨i, rfl, rfl, hi, hf, hkr⟩
  dsimp only [List.zip, List.zipWith]
  have hsr := hs1.keep0 hkr
  have hl7 : signsL.length = 7 := rfl
  rcases Nat.lt_or_ge i 7 with hlt | hge
  · rw [firstOf_drop _ _ _ (by rw [hl7]; exact hlt)] at hf
    repeat' (first | (refine CL.seq ?_) | (refine CL.region ?_) | (refine CL.skip ?_) | (refine CL.condP rfl (fun _ => ?_) (fun _ => ?_) <;> try (exfalso; omega)) | (refine CL.block ?_) | (refine Gt.nil ?_; refine RW.nilw [0, 2, 3, 5, 6, 7, 8, 9, 14] ?_; dsimp only [H.keep, H.look, H.Fr.put, Nat.beq]) | (refine Gt.move ?_; refine RW.y (Y.move rfl) rfl ?_) | (refine Gt.assign ?_; refine RW.y (Y.assign rfl) rfl ?_) | (refine Gt.lss ?_; refine RW.y (Y.lss rfl rfl) rfl ?_) | (refine Gt.idx ?_; refine RW.elemS rfl rfl rfl rfl (by assumption) (by omega) (by omega) ?_))
    refine RW.fn rfl rfl ((hasPrefix s _ wr).mono ?_)
    rintro e w2 ⟨rfl, rfl⟩
    rw [Int.toNat_natCast]
    by_cases hp : s.take (signsL.getD i []).length = signsL.getD i []
    · rw [if_pos hp] at hf
      rw [decide_eq_true hp]
      have hpl : (signsL.getD i []).length ≤ s.length := by have := congrArg List.length hp; rw [List.length_take] at this; omega
      repeat' (first | (refine CL.seq ?_) | (refine CL.condT rfl ?_) | (refine Gt.nil ?_; refine RW.nilw [0, 2, 3, 5, 6, 7, 8, 9, 14] ?_; dsimp only [H.keep, H.look, H.Fr.put, Nat.beq]))
      refine CL.draw (fun w' => K0 wr w') (by kernel_rfl) (fun w2 hheap hk2 => ?_)
      have hS : K0 wr w2 := hk2
      skip
      refine AW.take 0 rfl (by kernel_rfl) (by kernel_rfl) (by kernel_rfl) rfl (by assumption) (fun w hS => Y.move rfl) ?_
      refine AW.take 1 rfl (by kernel_rfl) (by kernel_rfl) (by kernel_rfl) rfl (by assumption) (fun w hS => Y.move rfl) ?_
      refine AW.take 2 rfl (by kernel_rfl) (by kernel_rfl) (by kernel_rfl) rfl (by assumption) (fun w hS => Y.move rfl) ?_
      refine AW.take 3 rfl (by kernel_rfl) (by kernel_rfl) (by kernel_rfl) rfl (by assumption) (fun w hS => by exact Y.lens rfl) ?_
      refine AW.take 4 rfl (by kernel_rfl) (by kernel_rfl) (by kernel_rfl) rfl (by assumption) (fun w hS => Y.cutl rfl rfl (by omega) (by omega)) ?_
      refine AW.take 5 rfl (by kernel_rfl) (by kernel_rfl) (by kernel_rfl) rfl (by assumption) (fun w hS => Y.assign rfl) ?_
      refine AW.take 6 rfl (by kernel_rfl) (by kernel_rfl) (by kernel_rfl) rfl (by assumption) (fun w hS => Y.assign rfl) ?_
      refine AW.donew [2, 3] (by kernel_rfl) ?_
      dsimp only [H.keep, H.look, H.Fr.put, Nat.beq]
      repeat' (first | (refine CL.ret ?_) | (refine Rt.then ?_) | (refine Rt.block ?_))
      refine FQ.two rfl rfl rfl rfl ⟨(hk1.trans0 hkr).trans0 hk2, ?_⟩
      rw [← hf, Int.toNat_natCast]
    · rw [if_neg hp] at hf
      rw [decide_eq_false hp]
      repeat' (first | (refine CL.region ?_) | (refine CL.skip ?_) | (refine CL.condF rfl ?_) | (refine CL.done ?_) | (refine Nm.block ?_) | (refine Nm.then ?_) | (refine Gt.nil ?_; refine RW.nilw [0, 2, 3, 5, 6, 7, 8, 9, 14] ?_; dsimp only [H.keep, H.look, H.Fr.put, Nat.beq]) | (refine Gt.move ?_; refine RW.y (Y.move rfl) rfl ?_) | (refine Gt.add ?_; refine RW.y (Y.add64 rfl rfl (by omega) (by omega)) rfl ?_))
      exact ⟨7 - (i + 1), _, rfl, rfl, rfl, by omega, i + 1, rfl, rfl, by omega, hf, hkr⟩
  · have : i = 7 := by omega
    subst this
    have hf : [] = signOf s := hf
    repeat' (first | (refine CL.seq ?_) | (refine CL.region ?_) | (refine CL.condP rfl (fun _ => ?_) (fun _ => ?_) <;> try (exfalso; omega)) | (refine CL.exit ?_) | (refine Ex.then ?_) | (refine Ex.hit ?_) | (refine CL.ret ?_) | (refine Gt.nil ?_; refine RW.nilw [0, 2, 3, 5, 6, 7, 8, 9, 14] ?_; dsimp only [H.keep, H.look, H.Fr.put, Nat.beq]) | (refine Gt.move ?_; refine RW.y (Y.move rfl) rfl ?_) | (refine Gt.assign ?_; refine RW.y (Y.assign rfl) rfl ?_) | (refine Gt.lss ?_; refine RW.y (Y.lss rfl rfl) rfl ?_))
    exact FQ.two rfl rfl rfl rfl ⟨hk1.trans0 hkr, by rw [← hf]; rfl⟩

theorem verN {B : Nat} {w : World} {X : Value} {x : Ver} (h : VerNew B w X x) : ∃ p, X = .agg #[.int .i64 x.a, .int .i64 x.b, .int .i64 x.c, p] ∧ p.oneCell' = true ∧ Sl w 1 p x.pre.length (sv x.pre) ∧ ∀ g, live p = some g → B ≤ g := by
  obtain ⟨p, rfl, hp, hq⟩ := h
  exact ⟨p, rfl, hp.one, hp, hq⟩
theorem new_live {B g : Nat} {n : Nat} (h : B ≤ g) : ∀ k, live (.slice (some ⟨g, 0, none⟩) n n) = some k → B ≤ k := by
  intro k hk
  have := live_own hk
  simp [Value.ownBlock] at this
  omega
theorem BdsNew.one {B g : Nat} {w : World} {b : Bd} {q : Value} (h : Sl w 5 (.slice (some ⟨g, 0, none⟩) 1 1) 1 (bdC (b, q))) (hg : B ≤ g) (hq : Sl w 1 q b.v.pre.length (sv b.v.pre)) (hB : ∀ k, live q = some k → B ≤ k) : BdsNew B w (.slice (some ⟨g, 0, none⟩) 1 1) [b] :=
  ⟨[(b, q)], rfl, by simpa using h, new_live hg, fun x hx => by rw [List.mem_singleton.1 hx]; exact ⟨hq, hB⟩⟩
theorem BdsNew.two {B g : Nat} {w : World} {b c : Bd} {q r : Value} (h : Sl w 5 (.slice (some ⟨g, 0, none⟩) 2 2) 2 (bdC (b, q) ++ bdC (c, r))) (hg : B ≤ g) (hq : Sl w 1 q b.v.pre.length (sv b.v.pre)) (hB : ∀ k, live q = some k → B ≤ k) (hr : Sl w 1 r c.v.pre.length (sv c.v.pre)) (hC : ∀ k, live r = some k → B ≤ k) : BdsNew B w (.slice (some ⟨g, 0, none⟩) 2 2) [b, c] :=
  ⟨[(b, q), (c, r)], rfl, by simpa using h, new_live hg, fun x hx => by simp at hx; rcases hx with rfl | rfl; { exact ⟨hq, hB⟩ }; exact ⟨hr, hC⟩⟩
theorem cells5 {x y : Array Value} (hx : x.size = 5) (hy : y.size = 5) : ∀ v ∈ [Value.agg x, Value.agg y], v.cells.size = 5 := by
  intro v hv
  simp at hv
  rcases hv with rfl | rfl <;> assumption
theorem cells5a {x : Array Value} (hx : x.size = 5) : ∀ v ∈ [Value.agg x], v.cells.size = 5 := by
  intro v hv
  rw [List.mem_singleton.1 hv]
  exact hx
theorem parse_i64 {s : T} {v : Ver} (h : parseV (cutB 45 s) = some v) : I64 v := by
  have := parse_parts h
  simp only [I64]; omega
theorem next_pre (v : Ver) (n : Int) : (nextV v n).pre = [] := by
  unfold nextV; repeat' split
  all_goals rfl

set_option maxHeartbeats 4000000 in
theorem word (s : T) (hl : s.length ≤ 1000000) (w : World) : Calls Tryz.prog 100 #[vs s] w fun e w' => K0 w w' ∧ ∃ p, e = .returned (.tuple #[p, .bool (boundsB s).isSome]) ∧ (∀ l, boundsB s = some l → BdsNew w.heap.size w' p l) := by
  refine H.enter Tryz.func100 Tryz.ntmps100 rfl rfl ?_; dsimp only [H.args]
  repeat' (first | (refine CL.seq ?_) | (refine CL.region ?_) | (refine Gt.nil ?_; refine RW.nilw [0, 2, 3, 4, 5, 6, 7, 8, 20, 21, 22, 24, 26, 31, 35] ?_; dsimp only [H.keep, H.look, H.Fr.put, Nat.beq]) | (refine Gt.assign ?_; refine RW.y (Y.assign rfl) rfl ?_) | (refine Gt.move ?_; refine RW.y (Y.move rfl) rfl ?_))
  refine RW.fn rfl rfl ((signed s hl w).mono ?_)
  rintro e w1 ⟨hk1, rfl⟩
  have hdl : (s.drop (signOf s).length).length ≤ 1000000 := by rw [List.length_drop]; omega
  repeat' (first | (refine CL.seq ?_) | (refine CL.region ?_) | (refine Gt.nil ?_; refine RW.nilw [0, 2, 3, 4, 5, 6, 7, 8, 20, 21, 22, 24, 26, 31, 35] ?_; dsimp only [H.keep, H.look, H.Fr.put, Nat.beq]) | (refine Gt.assign ?_; refine RW.y (Y.assign rfl) rfl ?_) | (refine Gt.move ?_; refine RW.y (Y.move rfl) rfl ?_) | (refine Gt.extract ?_; refine RW.y (Y.extract rfl rfl) rfl ?_))
  refine RW.fn rfl rfl ((parseN _ hdl w1).mono ?_)
  rintro e w2 ⟨hk2, V, rfl, hV⟩
  obtain ⟨p, rfl, hp1, hp, hpl⟩ := verN hV
  have hz1 := hk1.size
  have hz2 := hk2.size
  have hbB : boundsB s = (parseV (cutB 45 (s.drop (signOf s).length))).map (expand (signOf s)) := rfl
  rw [hbB]
  generalize signOf s = g at *
  cases hpv : parseV (cutB 45 (s.drop g.length)) with
  | none =>
    rw [hpv] at hp
    dsimp only [verR, Option.map_none] at hp ⊢
    repeat' (first | (refine Gt.move ?_; refine RW.y (Y.move rfl) rfl ?_) | (refine Gt.extract ?_; refine RW.y (Y.extract rfl rfl) rfl ?_))
    refine RW.varN rfl rfl rfl (verCells hp1) rfl (fun w3 hb3 hk3 hlt3 => ?_)
    repeat' (first | (refine CL.seq ?_) | (refine CL.region ?_) | (refine CL.condP rfl (fun _ => ?_) (fun _ => ?_) <;> try (exfalso; omega)) | (refine CL.ret ?_) | (refine Gt.nil ?_; refine RW.nilw [0, 2, 3, 4, 5, 6, 7, 8, 20, 21, 22, 24, 26, 31, 35] ?_; dsimp only [H.keep, H.look, H.Fr.put, Nat.beq]) | (refine Gt.assign ?_; refine RW.y (Y.assign rfl) rfl ?_) | (refine Gt.move ?_; refine RW.y (Y.move rfl) rfl ?_) | (refine Gt.neq ?_; refine RW.y (Y.nei rfl rfl) rfl ?_))
    exact FQ.two rfl rfl rfl rfl ⟨(hk1.trans0 hk2).trans0 hk3, _, rfl, fun l hl => by cases hl⟩
  | some v =>
    rw [hpv] at hp
    have hi64 := parse_i64 hpv
    have hpp := parse_parts hpv
    dsimp only [verR, Option.map_some] at hp ⊢
    repeat' (first | (refine Gt.move ?_; refine RW.y (Y.move rfl) rfl ?_) | (refine Gt.extract ?_; refine RW.y (Y.extract rfl rfl) rfl ?_))
    refine RW.varN rfl rfl rfl (verCells hp1) rfl (fun w3 hb3 hk3 hlt3 => ?_)
    repeat' (first | (refine CL.seq ?_) | (refine CL.region ?_) | (refine CL.skip ?_) | (refine CL.condP rfl (fun _ => ?_) (fun _ => ?_) <;> try (exfalso; omega)) | (refine CL.block ?_) | (refine CL.exit ?_) | (refine Ex.hit ?_) | (refine Ex.miss rfl ?_) | (refine CL.done ?_) | (refine Nm.block ?_) | (refine Gt.nil ?_; refine RW.nilw [0, 2, 3, 4, 5, 6, 7, 8, 20, 21, 22, 24, 26, 31, 35] ?_; dsimp only [H.keep, H.look, H.Fr.put, Nat.beq]) | (refine Gt.assign ?_; refine RW.y (Y.assign rfl) rfl ?_) | (refine Gt.move ?_; refine RW.y (Y.move rfl) rfl ?_) | (refine Gt.load ?_; first | (refine RW.y (Y.loadB rfl (by assumption) rfl) rfl ?_) | (refine RW.y (Y.loadBlock rfl (by assumption) rfl) rfl ?_)) | (refine Gt.eql ?_; first | (refine RW.y (Y.eqs rfl rfl) rfl ?_) | (refine RW.y (Y.eqi rfl rfl) rfl ?_)) | (refine Gt.fieldAddr ?_; refine RW.y (Y.fieldAddr rfl (by rfl)) rfl ?_) | (refine Gt.neq ?_; refine RW.y (Y.nei rfl rfl) rfl ?_) | (refine Gt.gtr ?_; refine RW.y (Y.gtr rfl rfl) rfl ?_) | (refine RW.y (Y.build (ps := [(0, _), (1, _)]) rfl rfl) rfl ?_))
    · have hg : g = [] := by assumption
      have he : expand g v = [⟨[61], v⟩] := by rw [expand, if_pos hg]
      rw [he]
      refine RW.buildL (ps := [(0, _)]) (l := [_]) rfl rfl rfl (cells5a rfl) rfl rfl (fun w4 hb4 hk4 hlt4 => ?_)
      repeat' (first | (refine CL.ret ?_) | (refine Rt.block ?_) | (refine Gt.nil ?_; refine RW.nilw [0, 2, 3, 4, 5, 6, 7, 8, 20, 21, 22, 24, 26, 31, 35] ?_; dsimp only [H.keep, H.look, H.Fr.put, Nat.beq]) | (refine Gt.assign ?_; refine RW.y (Y.assign rfl) rfl ?_))
      refine FQ.two rfl rfl rfl rfl ⟨((hk1.trans0 hk2).trans0 hk3).trans0 hk4, _, rfl, fun l hl => ?_⟩
      obtain rfl := Option.some.inj hl
      exact BdsNew.one (q := p) (sl_new hb4 rfl (by decide)) (by have := hk3.size; omega) (hp.keep0 (hk3.trans0 hk4)) (fun k h => by have := hpl k h; omega)
    · have hg : g = [94] := by assumption
      have ha : v.a > 0 := by assumption
      have he : expand g v = [⟨[62, 61], v⟩, ⟨[60], nextV v 0⟩] := by rw [expand, if_neg (by assumption), if_pos hg, if_pos ha]
      rw [he]
      refine CL.draw (fun w' => K0 w3 w') (by kernel_rfl) (fun w4 hheap hk4 => ?_)
      have hS : K0 w3 w4 := hk4
      skip
      refine AW.take 0 rfl (by kernel_rfl) (by kernel_rfl) (by kernel_rfl) rfl (by assumption) (fun w hS => Y.loadBlock rfl (hS.at0 hb3) rfl) ?_
      refine AW.take 1 rfl (by kernel_rfl) (by kernel_rfl) (by kernel_rfl) rfl (by assumption) (fun w hS => Y.build (ps := [(0, _), (1, _)]) (c := #[vs [62, 61], .int .i64 v.a, .int .i64 v.b, .int .i64 v.c, p]) rfl rfl) ?_
      refine AW.take 2 rfl (by kernel_rfl) (by kernel_rfl) (by kernel_rfl) rfl (by assumption) (fun w hS => Y.loadBlock rfl (hS.at0 hb3) rfl) ?_
      refine AW.take 3 rfl (by kernel_rfl) (by kernel_rfl) (by kernel_rfl) rfl (by assumption) (fun w hS => Y.move rfl) ?_
      refine AW.next 4 rfl (by kernel_rfl) ?_
      refine RW.fn rfl rfl ((next _ v _ w4 ⟨p, rfl, hp.keep0 ((hk3.trans0 hk4))⟩ hi64).mono ?_)
      rintro e w5 ⟨hk5, rfl⟩
      refine RW.nil (Nm.then (rebase0 hS hk5 fun hS => ?_))
      refine AW.take 5 rfl (by kernel_rfl) (by kernel_rfl) (by kernel_rfl) rfl (by assumption) (fun w hS => Y.build (ps := [(0, _), (1, _)]) (c := #[vs [60], .int .i64 (nextV v _).a, .int .i64 (nextV v _).b, .int .i64 (nextV v _).c, .slice none 0 0]) rfl rfl) ?_
      refine AW.next 6 rfl (by kernel_rfl) ?_
      refine RW.buildL (ps := [(0, _), (1, _)]) (l := [_, _]) rfl rfl rfl (cells5 rfl rfl) rfl rfl (fun w6 hb6 hk6 hlt6 => ?_)
      refine RW.nil (Nm.then (rebase0 hS hk6 fun hS => ?_))
      refine AW.take 7 rfl (by kernel_rfl) (by kernel_rfl) (by kernel_rfl) rfl (by assumption) (fun w hS => Y.assign rfl) ?_
      refine AW.take 8 rfl (by kernel_rfl) (by kernel_rfl) (by kernel_rfl) rfl (by assumption) (fun w hS => Y.assign rfl) ?_
      refine AW.donew [2, 3] (by kernel_rfl) ?_
      dsimp only [H.keep, H.look, H.Fr.put, Nat.beq]
      repeat' (first | (refine CL.ret ?_) | (refine Rt.block ?_))
      refine FQ.two rfl rfl rfl rfl ⟨((((hk1.trans0 hk2).trans0 hk3).trans0 hk4).trans0 hk5).trans0 hk6, _, rfl, fun l hl => ?_⟩
      obtain rfl := Option.some.inj hl
      have hsl : Sl w6 5 (.slice (some ⟨w5.heap.size, 0, none⟩) 2 2) 2 _ := sl_new hb6 rfl (by decide)
      exact BdsNew.two (q := p) (r := .slice none 0 0) hsl (by have := hk3.size; have := hk4.size; have := hk5.size; omega) (hp.keep0 (((hk3.trans0 hk4).trans0 hk5).trans0 hk6)) (fun k h => by have := hpl k h; omega) (by rw [next_pre]; exact Sl.nil _ _) nolive
    · have hg : g = [94] := by assumption
      have ha : ¬ v.a > 0 := by assumption
      have hb : v.b = 0 := by assumption
      have he : expand g v = [⟨[62, 61], v⟩, ⟨[60], nextV v 2⟩] := by rw [expand, if_neg (by assumption), if_pos hg, if_neg ha, if_neg (by omega)]
      rw [he]
      refine CL.draw (fun w' => K0 w3 w') (by kernel_rfl) (fun w4 hheap hk4 => ?_)
      have hS : K0 w3 w4 := hk4
      skip
      refine AW.take 0 rfl (by kernel_rfl) (by kernel_rfl) (by kernel_rfl) rfl (by assumption) (fun w hS => Y.loadBlock rfl (hS.at0 hb3) rfl) ?_
      refine AW.take 1 rfl (by kernel_rfl) (by kernel_rfl) (by kernel_rfl) rfl (by assumption) (fun w hS => Y.build (ps := [(0, _), (1, _)]) (c := #[vs [62, 61], .int .i64 v.a, .int .i64 v.b, .int .i64 v.c, p]) rfl rfl) ?_
      refine AW.take 2 rfl (by kernel_rfl) (by kernel_rfl) (by kernel_rfl) rfl (by assumption) (fun w hS => Y.loadBlock rfl (hS.at0 hb3) rfl) ?_
      refine AW.take 3 rfl (by kernel_rfl) (by kernel_rfl) (by kernel_rfl) rfl (by assumption) (fun w hS => Y.move rfl) ?_
      refine AW.next 4 rfl (by kernel_rfl) ?_
      refine RW.fn rfl rfl ((next _ v _ w4 ⟨p, rfl, hp.keep0 ((hk3.trans0 hk4))⟩ hi64).mono ?_)
      rintro e w5 ⟨hk5, rfl⟩
      refine RW.nil (Nm.then (rebase0 hS hk5 fun hS => ?_))
      refine AW.take 5 rfl (by kernel_rfl) (by kernel_rfl) (by kernel_rfl) rfl (by assumption) (fun w hS => Y.build (ps := [(0, _), (1, _)]) (c := #[vs [60], .int .i64 (nextV v _).a, .int .i64 (nextV v _).b, .int .i64 (nextV v _).c, .slice none 0 0]) rfl rfl) ?_
      refine AW.next 6 rfl (by kernel_rfl) ?_
      refine RW.buildL (ps := [(0, _), (1, _)]) (l := [_, _]) rfl rfl rfl (cells5 rfl rfl) rfl rfl (fun w6 hb6 hk6 hlt6 => ?_)
      refine RW.nil (Nm.then (rebase0 hS hk6 fun hS => ?_))
      refine AW.take 7 rfl (by kernel_rfl) (by kernel_rfl) (by kernel_rfl) rfl (by assumption) (fun w hS => Y.assign rfl) ?_
      refine AW.take 8 rfl (by kernel_rfl) (by kernel_rfl) (by kernel_rfl) rfl (by assumption) (fun w hS => Y.assign rfl) ?_
      refine AW.donew [2, 3] (by kernel_rfl) ?_
      dsimp only [H.keep, H.look, H.Fr.put, Nat.beq]
      repeat' (first | (refine CL.ret ?_) | (refine Rt.block ?_))
      refine FQ.two rfl rfl rfl rfl ⟨((((hk1.trans0 hk2).trans0 hk3).trans0 hk4).trans0 hk5).trans0 hk6, _, rfl, fun l hl => ?_⟩
      obtain rfl := Option.some.inj hl
      have hsl : Sl w6 5 (.slice (some ⟨w5.heap.size, 0, none⟩) 2 2) 2 _ := sl_new hb6 rfl (by decide)
      exact BdsNew.two (q := p) (r := .slice none 0 0) hsl (by have := hk3.size; have := hk4.size; have := hk5.size; omega) (hp.keep0 (((hk3.trans0 hk4).trans0 hk5).trans0 hk6)) (fun k h => by have := hpl k h; omega) (by rw [next_pre]; exact Sl.nil _ _) nolive
    · have hg : g = [94] := by assumption
      have ha : ¬ v.a > 0 := by assumption
      have hb : ¬ v.b = 0 := by assumption
      have he : expand g v = [⟨[62, 61], v⟩, ⟨[60], nextV v 1⟩] := by rw [expand, if_neg (by assumption), if_pos hg, if_neg ha, if_pos (by omega)]
      rw [he]
      refine CL.draw (fun w' => K0 w3 w') (by kernel_rfl) (fun w4 hheap hk4 => ?_)
      have hS : K0 w3 w4 := hk4
      skip
      refine AW.take 0 rfl (by kernel_rfl) (by kernel_rfl) (by kernel_rfl) rfl (by assumption) (fun w hS => Y.loadBlock rfl (hS.at0 hb3) rfl) ?_
      refine AW.take 1 rfl (by kernel_rfl) (by kernel_rfl) (by kernel_rfl) rfl (by assumption) (fun w hS => Y.build (ps := [(0, _), (1, _)]) (c := #[vs [62, 61], .int .i64 v.a, .int .i64 v.b, .int .i64 v.c, p]) rfl rfl) ?_
      refine AW.take 2 rfl (by kernel_rfl) (by kernel_rfl) (by kernel_rfl) rfl (by assumption) (fun w hS => Y.loadBlock rfl (hS.at0 hb3) rfl) ?_
      refine AW.take 3 rfl (by kernel_rfl) (by kernel_rfl) (by kernel_rfl) rfl (by assumption) (fun w hS => Y.move rfl) ?_
      refine AW.next 4 rfl (by kernel_rfl) ?_
      refine RW.fn rfl rfl ((next _ v _ w4 ⟨p, rfl, hp.keep0 ((hk3.trans0 hk4))⟩ hi64).mono ?_)
      rintro e w5 ⟨hk5, rfl⟩
      refine RW.nil (Nm.then (rebase0 hS hk5 fun hS => ?_))
      refine AW.take 5 rfl (by kernel_rfl) (by kernel_rfl) (by kernel_rfl) rfl (by assumption) (fun w hS => Y.build (ps := [(0, _), (1, _)]) (c := #[vs [60], .int .i64 (nextV v _).a, .int .i64 (nextV v _).b, .int .i64 (nextV v _).c, .slice none 0 0]) rfl rfl) ?_
      refine AW.next 6 rfl (by kernel_rfl) ?_
      refine RW.buildL (ps := [(0, _), (1, _)]) (l := [_, _]) rfl rfl rfl (cells5 rfl rfl) rfl rfl (fun w6 hb6 hk6 hlt6 => ?_)
      refine RW.nil (Nm.then (rebase0 hS hk6 fun hS => ?_))
      refine AW.take 7 rfl (by kernel_rfl) (by kernel_rfl) (by kernel_rfl) rfl (by assumption) (fun w hS => Y.assign rfl) ?_
      refine AW.take 8 rfl (by kernel_rfl) (by kernel_rfl) (by kernel_rfl) rfl (by assumption) (fun w hS => Y.assign rfl) ?_
      refine AW.donew [2, 3] (by kernel_rfl) ?_
      dsimp only [H.keep, H.look, H.Fr.put, Nat.beq]
      repeat' (first | (refine CL.ret ?_) | (refine Rt.block ?_))
      refine FQ.two rfl rfl rfl rfl ⟨((((hk1.trans0 hk2).trans0 hk3).trans0 hk4).trans0 hk5).trans0 hk6, _, rfl, fun l hl => ?_⟩
      obtain rfl := Option.some.inj hl
      have hsl : Sl w6 5 (.slice (some ⟨w5.heap.size, 0, none⟩) 2 2) 2 _ := sl_new hb6 rfl (by decide)
      exact BdsNew.two (q := p) (r := .slice none 0 0) hsl (by have := hk3.size; have := hk4.size; have := hk5.size; omega) (hp.keep0 (((hk3.trans0 hk4).trans0 hk5).trans0 hk6)) (fun k h => by have := hpl k h; omega) (by rw [next_pre]; exact Sl.nil _ _) nolive
    · have hg : g = [126] := by assumption
      have he : expand g v = [⟨[62, 61], v⟩, ⟨[60], nextV v 1⟩] := by rw [expand, if_neg (by assumption), if_neg (by assumption), if_pos hg]
      rw [he]
      refine CL.draw (fun w' => K0 w3 w') (by kernel_rfl) (fun w4 hheap hk4 => ?_)
      have hS : K0 w3 w4 := hk4
      skip
      refine AW.take 0 rfl (by kernel_rfl) (by kernel_rfl) (by kernel_rfl) rfl (by assumption) (fun w hS => Y.loadBlock rfl (hS.at0 hb3) rfl) ?_
      refine AW.take 1 rfl (by kernel_rfl) (by kernel_rfl) (by kernel_rfl) rfl (by assumption) (fun w hS => Y.build (ps := [(0, _), (1, _)]) (c := #[vs [62, 61], .int .i64 v.a, .int .i64 v.b, .int .i64 v.c, p]) rfl rfl) ?_
      refine AW.take 2 rfl (by kernel_rfl) (by kernel_rfl) (by kernel_rfl) rfl (by assumption) (fun w hS => Y.loadBlock rfl (hS.at0 hb3) rfl) ?_
      refine AW.take 3 rfl (by kernel_rfl) (by kernel_rfl) (by kernel_rfl) rfl (by assumption) (fun w hS => Y.move rfl) ?_
      refine AW.next 4 rfl (by kernel_rfl) ?_
      refine RW.fn rfl rfl ((next _ v _ w4 ⟨p, rfl, hp.keep0 ((hk3.trans0 hk4))⟩ hi64).mono ?_)
      rintro e w5 ⟨hk5, rfl⟩
      refine RW.nil (Nm.then (rebase0 hS hk5 fun hS => ?_))
      refine AW.take 5 rfl (by kernel_rfl) (by kernel_rfl) (by kernel_rfl) rfl (by assumption) (fun w hS => Y.build (ps := [(0, _), (1, _)]) (c := #[vs [60], .int .i64 (nextV v _).a, .int .i64 (nextV v _).b, .int .i64 (nextV v _).c, .slice none 0 0]) rfl rfl) ?_
      refine AW.next 6 rfl (by kernel_rfl) ?_
      refine RW.buildL (ps := [(0, _), (1, _)]) (l := [_, _]) rfl rfl rfl (cells5 rfl rfl) rfl rfl (fun w6 hb6 hk6 hlt6 => ?_)
      refine RW.nil (Nm.then (rebase0 hS hk6 fun hS => ?_))
      refine AW.take 7 rfl (by kernel_rfl) (by kernel_rfl) (by kernel_rfl) rfl (by assumption) (fun w hS => Y.assign rfl) ?_
      refine AW.take 8 rfl (by kernel_rfl) (by kernel_rfl) (by kernel_rfl) rfl (by assumption) (fun w hS => Y.assign rfl) ?_
      refine AW.donew [2, 3] (by kernel_rfl) ?_
      dsimp only [H.keep, H.look, H.Fr.put, Nat.beq]
      repeat' (first | (refine CL.ret ?_) | (refine Rt.block ?_))
      refine FQ.two rfl rfl rfl rfl ⟨((((hk1.trans0 hk2).trans0 hk3).trans0 hk4).trans0 hk5).trans0 hk6, _, rfl, fun l hl => ?_⟩
      obtain rfl := Option.some.inj hl
      have hsl : Sl w6 5 (.slice (some ⟨w5.heap.size, 0, none⟩) 2 2) 2 _ := sl_new hb6 rfl (by decide)
      exact BdsNew.two (q := p) (r := .slice none 0 0) hsl (by have := hk3.size; have := hk4.size; have := hk5.size; omega) (hp.keep0 (((hk3.trans0 hk4).trans0 hk5).trans0 hk6)) (fun k h => by have := hpl k h; omega) (by rw [next_pre]; exact Sl.nil _ _) nolive
    · have he : expand g v = [⟨g, v⟩] := by rw [expand, if_neg (by assumption), if_neg (by assumption), if_neg (by assumption)]
      rw [he]
      refine RW.buildL (ps := [(0, _)]) (l := [_]) rfl rfl rfl (cells5a rfl) rfl rfl (fun w4 hb4 hk4 hlt4 => ?_)
      repeat' (first | (refine CL.ret ?_) | (refine Gt.nil ?_; refine RW.nilw [0, 2, 3, 4, 5, 6, 7, 8, 20, 21, 22, 24, 26, 31, 35] ?_; dsimp only [H.keep, H.look, H.Fr.put, Nat.beq]) | (refine Gt.assign ?_; refine RW.y (Y.assign rfl) rfl ?_))
      refine FQ.two rfl rfl rfl rfl ⟨((hk1.trans0 hk2).trans0 hk3).trans0 hk4, _, rfl, fun l hl => ?_⟩
      obtain rfl := Option.some.inj hl
      exact BdsNew.one (q := p) (sl_new hb4 rfl (by decide)) (by have := hk3.size; omega) (hp.keep0 (hk3.trans0 hk4)) (fun k h => by have := hpl k h; omega)
end Go.Proofs.YtjlkmdmpejpmpaaGreatDoor.Sp

namespace Go.Proofs.YtjlkmdmpejpmpaaGreatDoor.Sp
open Go.RowKit H S Ve
attribute [local irreducible] H.CL H.RW H.CW H.Yd H.thenK H.blockQ Go.Calls

theorem filter_snoc (l : List T) (i : Nat) (h : i < l.length) : (l.take (i + 1)).filter (fun x => decide (x ≠ [])) = (l.take i).filter (fun x => decide (x ≠ [])) ++ (if l.getD i [] = [] then [] else [l.getD i []]) := by
  rw [take_snoc [] l i h, List.filter_append]
  congr 1
  by_cases hx : l.getD i [] = []
  · rw [hx]; rfl
  · rw [if_neg hx]; generalize l.getD i [] = x at hx; simp [hx]
theorem refWords (s : T) (hl : s.length ≤ 1000000) (w : World) : Calls Tryz.prog 65 #[vs s] w fun e w' => ∃ v', e = .returned v' ∧ w'.ownsRow w.heap.size strT 1 v' (wordsB s).length (sv (wordsB s)) ∧ K0 w w' := by
  have hsl := splitB_len 32 s
  have hcn : s.count 32 ≤ s.length := List.count_le_length
  refine H.enter Tryz.func65 Tryz.ntmps65 rfl rfl ?_; dsimp only [H.args]
  repeat' (first | (refine CL.seq ?_) | (refine CL.region ?_) | (refine Gt.nil ?_; refine RW.nilw [0, 2, 3, 4, 5, 11, 18] ?_; dsimp only [H.keep, H.look, H.Fr.put, Nat.beq]) | (refine Gt.move ?_; refine RW.y (Y.move rfl) rfl ?_) | (refine Gt.assign ?_; refine RW.y (Y.assign rfl) rfl ?_))
  refine RW.fn rfl rfl ((refSplit s 32 (by omega) w).mono ?_)
  rintro e w1 ⟨v, rfl, hw, hk1⟩
  have hwb : wordsB s = (splitB 32 s).filter (fun x => decide (x ≠ [])) := rfl
  rw [hwb]
  have hs1 := Sl.of_own hw
  generalize splitB 32 s = l at *
  have hsz1 := hk1.size
  repeat' (first | (refine CL.seq ?_) | (refine CL.region ?_) | (refine CL.block ?_) | (refine Gt.nil ?_; refine RW.nilw [0, 2, 3, 4, 5, 11, 18] ?_; dsimp only [H.keep, H.look, H.Fr.put, Nat.beq]) | (refine Gt.assign ?_; refine RW.y (Y.assign rfl) rfl ?_))
  refine CL.loopS [3, 4, 5] (fun m vals wr => ∃ (i : Nat) (u : Value), vals = [u, v, .int .i64 (i : Int)] ∧ m = l.length - i ∧ i ≤ l.length ∧ wr.ownsRow w1.heap.size strT 1 u ((l.take i).filter (fun x => decide (x ≠ []))).length (sv ((l.take i).filter (fun x => decide (x ≠ [])))) ∧ K0 w1 wr) l.length ⟨_, rfl, 0, _, rfl, rfl, Nat.zero_le _, World.ownsRow_nil _ _ _ _, Kept.refl _ _⟩ ?_
  rintro m vals wr ⟨i, u, rfl, rfl, hi, how, hkr⟩
  dsimp only [List.zip, List.zipWith]
  have hsr := hs1.keep0 hkr
  have hsz := hkr.size
  have hfl : ((l.take i).filter (fun x => decide (x ≠ []))).length ≤ (l.take i).length := List.length_filter_le _ _
  rw [List.length_take] at hfl
  rcases Nat.lt_or_ge i l.length with hlt | hge
  · have hf := filter_snoc l i hlt
    repeat' (first | (refine CL.seq ?_) | (refine CL.region ?_) | (refine CL.skip ?_) | (refine CL.condP rfl (fun _ => ?_) (fun _ => ?_) <;> try (exfalso; omega)) | (refine CL.block ?_) | (refine CL.done ?_) | (refine Nm.block ?_) | (refine Nm.then ?_) | (refine Gt.nil ?_; refine RW.nilw [0, 2, 3, 4, 5, 11, 18] ?_; dsimp only [H.keep, H.look, H.Fr.put, Nat.beq]) | (refine Gt.move ?_; refine RW.y (Y.move rfl) rfl ?_) | (refine Gt.assign ?_; refine RW.y (Y.assign rfl) rfl ?_) | (refine Gt.idx ?_; refine RW.elemS rfl rfl rfl rfl (by assumption) (by omega) (by omega) ?_) | (refine Gt.len ?_; (refine RW.y (Y.lenx rfl (by assumption)) rfl ?_)) | (refine Gt.lss ?_; refine RW.y (Y.lss rfl rfl) rfl ?_) | (refine Gt.neq ?_; refine RW.y (Y.nes rfl rfl) rfl ?_) | (refine Gt.add ?_; refine RW.y (Y.add64 rfl rfl (by omega) (by omega)) rfl ?_))
    · rename_i h
      rw [Int.toNat_natCast] at h
      rw [if_neg h] at hf
      refine RW.app1 rfl rfl rfl rfl how rfl rfl rfl rfl (one_vs _) (by omega) (by omega) (by omega) (fun u' w2 how' hk' hl' => ?_)
      repeat' (first | (refine CL.region ?_) | (refine CL.done ?_) | (refine Nm.block ?_) | (refine Nm.then ?_) | (refine Gt.nil ?_; refine RW.nilw [0, 2, 3, 4, 5, 11, 18] ?_; dsimp only [H.keep, H.look, H.Fr.put, Nat.beq]) | (refine Gt.move ?_; refine RW.y (Y.move rfl) rfl ?_) | (refine Gt.assign ?_; refine RW.y (Y.assign rfl) rfl ?_) | (refine Gt.add ?_; refine RW.y (Y.add64 rfl rfl (by omega) (by omega)) rfl ?_))
      rw [Int.toNat_natCast] at how'
      refine ⟨l.length - (i + 1), _, rfl, rfl, rfl, by omega, i + 1, u', rfl, rfl, by omega, ?_, hkr.trans hk' fun k h => .inr (how.lt k h).1⟩
      rw [hf]
      simpa [Value.cells] using how'
    · rename_i h
      rw [Int.toNat_natCast] at h
      have h : l.getD i [] = [] := Decidable.byContradiction fun c => h c
      rw [if_pos h, List.append_nil] at hf
      exact ⟨l.length - (i + 1), _, rfl, rfl, rfl, by omega, i + 1, u, rfl, rfl, by omega, by rw [hf]; exact how, hkr⟩
  · have hi : i = l.length := by omega
    subst hi
    rw [List.take_length] at how
    repeat' (first | (refine CL.seq ?_) | (refine CL.region ?_) | (refine CL.condP rfl (fun _ => ?_) (fun _ => ?_) <;> try (exfalso; omega)) | (refine CL.exit ?_) | (refine Ex.then ?_) | (refine Ex.hit ?_) | (refine CL.ret ?_) | (refine Gt.nil ?_; refine RW.nilw [0, 2, 3, 4, 5, 11, 18] ?_; dsimp only [H.keep, H.look, H.Fr.put, Nat.beq]) | (refine Gt.move ?_; refine RW.y (Y.move rfl) rfl ?_) | (refine Gt.assign ?_; refine RW.y (Y.assign rfl) rfl ?_) | (refine Gt.len ?_; (refine RW.y (Y.lenx rfl (by assumption)) rfl ?_)) | (refine Gt.lss ?_; refine RW.y (Y.lss rfl rfl) rfl ?_))
    exact FQ.one rfl rfl rfl ⟨_, rfl, own_base how (fun g hg => by have := (how.lt g hg).1; omega), hk1.trans0 hkr⟩

theorem take1 {s : T} (h : s ≠ []) : s.take 1 = [s.getD 0 0] := by
  cases s with
  | nil => exact absurd rfl h
  | cons a r => rfl
theorem sign1 {s : T} (h : s ≠ []) {c : UInt8} (e : ((s.getD 0 0).toNat : Int) = (c.toNat : Int)) : s.take 1 = [c] := by rw [take1 h, u8_eq e]
theorem sign1n {s : T} (h : s ≠ []) {c : UInt8} (e : ¬ ((s.getD 0 0).toNat : Int) = (c.toNat : Int)) : ¬ s.take 1 = [c] := by
  rw [take1 h]; intro q; apply e; rw [(List.cons.inj q).1]
theorem sA {s : T} (h : s.take 2 = [60, 61] ∨ s.take 2 = [62, 61]) : signOf s = s.take 2 := by rw [signOf, if_pos h]
theorem not2 {s : T} (h : s.length ≤ 1 ∨ (¬ s.take 2 = [60, 61] ∧ ¬ s.take 2 = [62, 61])) : ¬ (s.take 2 = [60, 61] ∨ s.take 2 = [62, 61]) := by
  rcases h with h | h
  · intro c
    have : (s.take 2).length ≤ 1 := by rw [List.length_take]; omega
    rcases c with c | c <;> rw [c] at this <;> simp at this
  · intro c; rcases c with c | c; { exact h.1 c }; exact h.2 c
theorem sB {s : T} (h0 : s ≠ []) (h : s.length ≤ 1 ∨ (¬ s.take 2 = [60, 61] ∧ ¬ s.take 2 = [62, 61])) (hc : ((s.getD 0 0).toNat : Int) = 61 ∨ ((s.getD 0 0).toNat : Int) = 60 ∨ ((s.getD 0 0).toNat : Int) = 62 ∨ ((s.getD 0 0).toNat : Int) = 94 ∨ ((s.getD 0 0).toNat : Int) = 126) : signOf s = s.take 1 := by
  rw [signOf, if_neg (not2 h), if_pos]
  rcases hc with c | c | c | c | c
  · exact .inr (.inr (.inl (sign1 h0 c)))
  · exact .inl (sign1 h0 c)
  · exact .inr (.inl (sign1 h0 c))
  · exact .inr (.inr (.inr (.inl (sign1 h0 c))))
  · exact .inr (.inr (.inr (.inr (sign1 h0 c))))
theorem sC {s : T} (h0 : s ≠ []) (h : s.length ≤ 1 ∨ (¬ s.take 2 = [60, 61] ∧ ¬ s.take 2 = [62, 61])) (hc : ¬ ((s.getD 0 0).toNat : Int) = 61 ∧ ¬ ((s.getD 0 0).toNat : Int) = 60 ∧ ¬ ((s.getD 0 0).toNat : Int) = 62 ∧ ¬ ((s.getD 0 0).toNat : Int) = 94 ∧ ¬ ((s.getD 0 0).toNat : Int) = 126) : signOf s = [] := by
  rw [signOf, if_neg (not2 h), if_neg]
  rintro (c | c | c | c | c)
  · exact sign1n (c := 60) h0 hc.2.1 c
  · exact sign1n (c := 62) h0 hc.2.2.1 c
  · exact sign1n (c := 61) h0 hc.1 c
  · exact sign1n (c := 94) h0 hc.2.2.2.1 c
  · exact sign1n (c := 126) h0 hc.2.2.2.2 c
theorem bdCells {s : T} {a b c : Int} {p : Value} (hp : p.oneCell' = true) : ∀ z ∈ (#[vs s, .int .i64 a, .int .i64 b, .int .i64 c, p] : Array Value).toList, z.oneCell' = true := by
  intro z hz
  simp at hz
  rcases hz with rfl | rfl | rfl | rfl | rfl <;> first | rfl | exact hp


set_option maxHeartbeats 4000000 in
theorem refBounds (s : T) (h0 : s ≠ []) (hl : s.length ≤ 1000000) (w : World) : Calls Tryz.prog 66 #[vs s] w fun e w' => K0 w w' ∧ ∃ p, e = .returned (.tuple #[p, .bool (boundsB s).isSome]) ∧ (∀ l, boundsB s = some l → BdsNew w.heap.size w' p l) := by
  have hpos : 0 < s.length := List.length_pos_iff.2 h0
  refine H.enter Tryz.func66 Tryz.ntmps66 rfl rfl ?_; dsimp only [H.args]
  repeat' (first | (refine CL.seq ?_) | (refine CL.region ?_) | (refine Gt.nil ?_; refine RW.nilw [0, 2, 3, 4, 5, 6, 7, 8, 9, 25, 60, 63, 64, 69, 73, 76, 83] ?_; dsimp only [H.keep, H.look, H.Fr.put, Nat.beq]) | (refine Gt.assign ?_; refine RW.y (Y.assign rfl) rfl ?_))
  refine CL.cutS [0, 2, 3, 4] (fun vals wr => vals = [vs s, .slice none 0 0, .bool false, vs (signOf s)] ∧ wr = w) (by simp) ?_ ?_
  · repeat' (first | (refine CL.seq ?_) | (refine CL.region ?_) | (refine CL.skip ?_) | (refine CL.condP rfl (fun _ => ?_) (fun _ => ?_) <;> try (exfalso; omega)) | (refine CL.condT rfl ?_) | (refine CL.condF rfl ?_) | (refine CL.block ?_) | (refine CL.done ?_) | (refine Nm.block ?_) | (refine Nm.then ?_) | (refine Gt.nil ?_; refine RW.nilw [0, 2, 3, 4, 5, 6, 7, 8, 9, 25, 60, 63, 64, 69, 73, 76, 83] ?_; dsimp only [H.keep, H.look, H.Fr.put, Nat.beq]) | (refine Gt.assign ?_; refine RW.y (Y.assign rfl) rfl ?_) | (refine Gt.guard ?_; first | (refine RW.part rfl rfl rfl (fun _ => ?_) (fun _ => ?_) <;> try (exfalso; omega)) | (refine RW.on rfl rfl rfl ?_) | (refine RW.off1 rfl rfl rfl rfl rfl ?_) | (refine RW.offu rfl rfl rfl rfl ?_)) | (refine Gt.move ?_; refine RW.y (Y.move rfl) rfl ?_) | (refine Gt.pick ?_; first | (refine RW.y (Y.pickT rfl rfl) rfl ?_) | (refine RW.y (Y.pickF rfl rfl) rfl ?_)) | (refine Gt.eql ?_; first | (refine RW.y (Y.eqs rfl rfl) rfl ?_) | (refine RW.y (Y.eqi rfl rfl) rfl ?_)) | (refine Gt.index ?_; refine RW.y (Y.idxs rfl rfl (by omega) (by omega)) rfl ?_) | (refine Gt.slice ?_; (refine RW.y (Y.cuth rfl rfl (by omega) (by omega)) rfl ?_)) | (refine Gt.gtr ?_; refine RW.y (Y.gtr rfl rfl) rfl ?_) | (refine Gt.len ?_; refine RW.y (Y.lens rfl) rfl ?_))
    all_goals first
      | (refine ⟨_, rfl, rfl, rfl, ?_, rfl⟩; rw [sA (s := s) (by first | exact .inl (by assumption) | exact .inr (by assumption))] <;> try rfl)
      | (refine ⟨_, rfl, rfl, rfl, ?_, rfl⟩; rw [sB h0 (by first | exact .inl (by omega) | exact .inr ⟨by assumption, by assumption⟩) (by first | exact .inl (by assumption) | exact .inr (.inl (by assumption)) | exact .inr (.inr (.inl (by assumption))) | exact .inr (.inr (.inr (.inl (by assumption)))) | exact .inr (.inr (.inr (.inr (by assumption)))))] <;> try rfl)
      | (refine ⟨_, rfl, rfl, rfl, ?_, rfl⟩; rw [sC h0 (by first | exact .inl (by omega) | exact .inr ⟨by assumption, by assumption⟩) ⟨by assumption, by assumption, by assumption, by assumption, by assumption⟩] <;> try rfl)
  · rintro vals wr ⟨rfl, rfl⟩
    dsimp only [List.zip, List.zipWith]
    have hbB : boundsB s = (parseV (cutB 45 (s.drop (signOf s).length))).map (expand (signOf s)) := rfl
    have hgl : (signOf s).length ≤ s.length := by
      rw [signOf]; repeat' split
      all_goals first | (rw [List.length_take]; omega) | simp
    rw [hbB]
    generalize signOf s = g at *
    have hdl : (s.drop g.length).length ≤ 2000000 := by rw [List.length_drop]; omega
    repeat' (first | (refine CL.seq ?_) | (refine CL.region ?_) | (refine Gt.move ?_; refine RW.y (Y.move rfl) rfl ?_) | (refine Gt.slice ?_; (refine RW.y (Y.cutl rfl rfl (by omega) (by omega)) rfl ?_)) | (refine Gt.len ?_; refine RW.y (Y.lens rfl) rfl ?_))
    refine RW.fn rfl rfl ((versionOfN _ (by rw [Int.toNat_natCast]; exact hdl) wr).mono ?_)
    rw [Int.toNat_natCast]
    rintro e w2 ⟨hk2, V, rfl, hV⟩
    obtain ⟨p, rfl, hp1, hp, hpl⟩ := verN hV
    have hz2 := hk2.size
    cases hpv : parseV (cutB 45 (s.drop g.length)) with
    | none =>
      rw [hpv] at hp
      dsimp only [verR, Option.map_none] at hp ⊢
      repeat' (first | (refine Gt.move ?_; refine RW.y (Y.move rfl) rfl ?_) | (refine Gt.extract ?_; refine RW.y (Y.extract rfl rfl) rfl ?_))
      refine RW.varN rfl rfl rfl (verCells hp1) rfl (fun w3 hb3 hk3 hlt3 => ?_)
      repeat' (first | (refine CL.seq ?_) | (refine CL.region ?_) | (refine CL.condP rfl (fun _ => ?_) (fun _ => ?_) <;> try (exfalso; omega)) | (refine CL.ret ?_) | (refine Gt.nil ?_; refine RW.nilw [0, 2, 3, 4, 5, 6, 7, 8, 9, 25, 60, 63, 64, 69, 73, 76, 83] ?_; dsimp only [H.keep, H.look, H.Fr.put, Nat.beq]) | (refine Gt.assign ?_; refine RW.y (Y.assign rfl) rfl ?_) | (refine Gt.move ?_; refine RW.y (Y.move rfl) rfl ?_) | (refine Gt.neq ?_; refine RW.y (Y.nei rfl rfl) rfl ?_))
      exact FQ.two rfl rfl rfl rfl ⟨hk2.trans0 hk3, _, rfl, fun l hl => by cases hl⟩
    | some v =>
      rw [hpv] at hp
      have hi64 := parse_i64 hpv
      have hpp := parse_parts hpv
      dsimp only [verR, Option.map_some] at hp ⊢
      repeat' (first | (refine Gt.move ?_; refine RW.y (Y.move rfl) rfl ?_) | (refine Gt.extract ?_; refine RW.y (Y.extract rfl rfl) rfl ?_))
      refine RW.varN rfl rfl rfl (verCells hp1) rfl (fun w3 hb3 hk3 hlt3 => ?_)
      repeat' (first | (refine CL.seq ?_) | (refine CL.region ?_) | (refine CL.skip ?_) | (refine CL.condP rfl (fun _ => ?_) (fun _ => ?_) <;> try (exfalso; omega)) | (refine Gt.nil ?_; refine RW.nilw [0, 2, 3, 4, 5, 6, 7, 8, 9, 25, 60, 63, 64, 69, 73, 76, 83] ?_; dsimp only [H.keep, H.look, H.Fr.put, Nat.beq]) | (refine Gt.assign ?_; refine RW.y (Y.assign rfl) rfl ?_) | (refine Gt.move ?_; refine RW.y (Y.move rfl) rfl ?_) | (refine Gt.load ?_; (refine RW.y (Y.loadBlock rfl (by assumption) rfl) rfl ?_)) | (refine Gt.neq ?_; refine RW.y (Y.nei rfl rfl) rfl ?_) | (refine RW.y (Y.build (ps := [(0, _), (1, _)]) rfl rfl) rfl ?_))
      refine RW.varN (u := #[vs [62, 61], .int .i64 v.a, .int .i64 v.b, .int .i64 v.c, p]) rfl rfl rfl (bdCells hp1) rfl (fun w4 hb4 hk4 hlt4 => ?_)
      have hb3' := hk4.at0 hb3
      repeat' (first | (refine CL.seq ?_) | (refine CL.region ?_) | (refine CL.skip ?_) | (refine CL.condP rfl (fun _ => ?_) (fun _ => ?_) <;> try (exfalso; omega)) | (refine CL.block ?_) | (refine CL.done ?_) | (refine Nm.block ?_) | (refine Gt.nil ?_; refine RW.nilw [0, 2, 3, 4, 5, 6, 7, 8, 9, 25, 60, 63, 64, 69, 73, 76, 83] ?_; dsimp only [H.keep, H.look, H.Fr.put, Nat.beq]) | (refine Gt.assign ?_; refine RW.y (Y.assign rfl) rfl ?_) | (refine Gt.move ?_; refine RW.y (Y.move rfl) rfl ?_) | (refine Gt.load ?_; first | (refine RW.y (Y.loadB rfl (by assumption) rfl) rfl ?_) | (refine RW.y (Y.loadBlock rfl (by assumption) rfl) rfl ?_)) | (refine Gt.eql ?_; (refine RW.y (Y.eqs rfl rfl) rfl ?_)) | (refine Gt.gtr ?_; refine RW.y (Y.gtr rfl rfl) rfl ?_) | (refine Gt.fieldAddr ?_; refine RW.y (Y.fieldAddr rfl (by rfl)) rfl ?_) | (refine RW.y (Y.build (ps := [(0, _), (1, _)]) rfl rfl) rfl ?_))
      · have hg : g = [] := by assumption
        have he : expand g v = [⟨[61], v⟩] := by rw [expand, if_pos hg]
        rw [he]
        refine RW.buildL (ps := [(0, _)]) (l := [.agg #[vs [61], .int .i64 v.a, .int .i64 v.b, .int .i64 v.c, p]]) rfl rfl rfl (cells5a rfl) rfl rfl (fun w5 hb5 hk5 hlt5 => ?_)
        repeat' (first | (refine CL.ret ?_) | (refine Rt.block ?_) | (refine Gt.nil ?_; refine RW.nilw [0, 2, 3, 4, 5, 6, 7, 8, 9, 25, 60, 63, 64, 69, 73, 76, 83] ?_; dsimp only [H.keep, H.look, H.Fr.put, Nat.beq]) | (refine Gt.assign ?_; refine RW.y (Y.assign rfl) rfl ?_))
        refine FQ.two rfl rfl rfl rfl ⟨((hk2.trans0 hk3).trans0 hk4).trans0 hk5, _, rfl, fun l hl => ?_⟩
        obtain rfl := Option.some.inj hl
        exact BdsNew.one (q := p) (sl_new hb5 rfl (by decide)) (by have := hk3.size; have := hk4.size; omega) (hp.keep0 ((hk3.trans0 hk4).trans0 hk5)) hpl
      · have hg : g = [94] := by assumption
        have he : expand g v = [⟨[62, 61], v⟩, ⟨[60], nextV v 0⟩] := by rw [expand, if_neg (by assumption), if_pos hg, if_pos (by assumption)]
        rw [he]
        refine CL.draw (fun w' => K0 w4 w') (by kernel_rfl) (fun w5 hheap hk5 => ?_)
        have hS : K0 w4 w5 := hk5
        skip
        refine AW.take 0 rfl (by kernel_rfl) (by kernel_rfl) (by kernel_rfl) rfl (by assumption) (fun w hS => Y.loadBlock rfl (hS.at0 hb4) rfl) ?_
        refine AW.take 1 rfl (by kernel_rfl) (by kernel_rfl) (by kernel_rfl) rfl (by assumption) (fun w hS => Y.loadBlock rfl (hS.at0 hb3') rfl) ?_
        refine AW.take 2 rfl (by kernel_rfl) (by kernel_rfl) (by kernel_rfl) rfl (by assumption) (fun w hS => Y.move rfl) ?_
        refine AW.next 3 rfl (by kernel_rfl) ?_
        refine RW.fn rfl rfl ((refNext _ v _ w5 ⟨p, rfl, hp.keep0 ((hk3.trans0 hk4).trans0 hk5)⟩ hi64).mono ?_)
        rintro e w6 ⟨hk6, rfl⟩
        refine RW.nil (Nm.then (rebase0 hS hk6 fun hS => ?_))
        refine AW.take 4 rfl (by kernel_rfl) (by kernel_rfl) (by kernel_rfl) rfl (by assumption) (fun w hS => Y.build (ps := [(0, _), (1, _)]) (c := #[vs [60], .int .i64 (nextV v _).a, .int .i64 (nextV v _).b, .int .i64 (nextV v _).c, .slice none 0 0]) rfl rfl) ?_
        refine AW.next 5 rfl (by kernel_rfl) ?_
        refine RW.buildL (ps := [(0, _), (1, _)]) (l := [_, _]) rfl rfl rfl (cells5 rfl rfl) rfl rfl (fun w7 hb7 hk7 hlt7 => ?_)
        refine RW.nil (Nm.then (rebase0 hS hk7 fun hS => ?_))
        refine AW.take 6 rfl (by kernel_rfl) (by kernel_rfl) (by kernel_rfl) rfl (by assumption) (fun w hS => Y.assign rfl) ?_
        refine AW.take 7 rfl (by kernel_rfl) (by kernel_rfl) (by kernel_rfl) rfl (by assumption) (fun w hS => Y.assign rfl) ?_
        refine AW.donew [2, 3] (by kernel_rfl) ?_
        dsimp only [H.keep, H.look, H.Fr.put, Nat.beq]
        repeat' (first | (refine CL.ret ?_) | (refine Rt.block ?_))
        refine FQ.two rfl rfl rfl rfl ⟨((((hk2.trans0 hk3).trans0 hk4).trans0 hk5).trans0 hk6).trans0 hk7, _, rfl, fun l hl => ?_⟩
        obtain rfl := Option.some.inj hl
        have hsl : Sl w7 5 (.slice (some ⟨w6.heap.size, 0, none⟩) 2 2) 2 _ := sl_new hb7 rfl (by decide)
        exact BdsNew.two (q := p) (r := .slice none 0 0) hsl (by have := hk3.size; have := hk4.size; have := hk5.size; have := hk6.size; omega) (hp.keep0 ((((hk3.trans0 hk4).trans0 hk5).trans0 hk6).trans0 hk7)) hpl (by rw [next_pre]; exact Sl.nil _ _) nolive
      · have hg : g = [94] := by assumption
        have he : expand g v = [⟨[62, 61], v⟩, ⟨[60], nextV v 1⟩] := by rw [expand, if_neg (by assumption), if_pos hg, if_neg (by assumption), if_pos (by assumption)]
        rw [he]
        refine CL.draw (fun w' => K0 w4 w') (by kernel_rfl) (fun w5 hheap hk5 => ?_)
        have hS : K0 w4 w5 := hk5
        skip
        refine AW.take 0 rfl (by kernel_rfl) (by kernel_rfl) (by kernel_rfl) rfl (by assumption) (fun w hS => Y.loadBlock rfl (hS.at0 hb4) rfl) ?_
        refine AW.take 1 rfl (by kernel_rfl) (by kernel_rfl) (by kernel_rfl) rfl (by assumption) (fun w hS => Y.loadBlock rfl (hS.at0 hb3') rfl) ?_
        refine AW.take 2 rfl (by kernel_rfl) (by kernel_rfl) (by kernel_rfl) rfl (by assumption) (fun w hS => Y.move rfl) ?_
        refine AW.next 3 rfl (by kernel_rfl) ?_
        refine RW.fn rfl rfl ((refNext _ v _ w5 ⟨p, rfl, hp.keep0 ((hk3.trans0 hk4).trans0 hk5)⟩ hi64).mono ?_)
        rintro e w6 ⟨hk6, rfl⟩
        refine RW.nil (Nm.then (rebase0 hS hk6 fun hS => ?_))
        refine AW.take 4 rfl (by kernel_rfl) (by kernel_rfl) (by kernel_rfl) rfl (by assumption) (fun w hS => Y.build (ps := [(0, _), (1, _)]) (c := #[vs [60], .int .i64 (nextV v _).a, .int .i64 (nextV v _).b, .int .i64 (nextV v _).c, .slice none 0 0]) rfl rfl) ?_
        refine AW.next 5 rfl (by kernel_rfl) ?_
        refine RW.buildL (ps := [(0, _), (1, _)]) (l := [_, _]) rfl rfl rfl (cells5 rfl rfl) rfl rfl (fun w7 hb7 hk7 hlt7 => ?_)
        refine RW.nil (Nm.then (rebase0 hS hk7 fun hS => ?_))
        refine AW.take 6 rfl (by kernel_rfl) (by kernel_rfl) (by kernel_rfl) rfl (by assumption) (fun w hS => Y.assign rfl) ?_
        refine AW.take 7 rfl (by kernel_rfl) (by kernel_rfl) (by kernel_rfl) rfl (by assumption) (fun w hS => Y.assign rfl) ?_
        refine AW.donew [2, 3] (by kernel_rfl) ?_
        dsimp only [H.keep, H.look, H.Fr.put, Nat.beq]
        repeat' (first | (refine CL.ret ?_) | (refine Rt.block ?_))
        refine FQ.two rfl rfl rfl rfl ⟨((((hk2.trans0 hk3).trans0 hk4).trans0 hk5).trans0 hk6).trans0 hk7, _, rfl, fun l hl => ?_⟩
        obtain rfl := Option.some.inj hl
        have hsl : Sl w7 5 (.slice (some ⟨w6.heap.size, 0, none⟩) 2 2) 2 _ := sl_new hb7 rfl (by decide)
        exact BdsNew.two (q := p) (r := .slice none 0 0) hsl (by have := hk3.size; have := hk4.size; have := hk5.size; have := hk6.size; omega) (hp.keep0 ((((hk3.trans0 hk4).trans0 hk5).trans0 hk6).trans0 hk7)) hpl (by rw [next_pre]; exact Sl.nil _ _) nolive
      · have hg : g = [94] := by assumption
        have he : expand g v = [⟨[62, 61], v⟩, ⟨[60], nextV v 2⟩] := by rw [expand, if_neg (by assumption), if_pos hg, if_neg (by assumption), if_neg (by assumption)]
        rw [he]
        refine CL.draw (fun w' => K0 w4 w') (by kernel_rfl) (fun w5 hheap hk5 => ?_)
        have hS : K0 w4 w5 := hk5
        skip
        refine AW.take 0 rfl (by kernel_rfl) (by kernel_rfl) (by kernel_rfl) rfl (by assumption) (fun w hS => Y.loadBlock rfl (hS.at0 hb4) rfl) ?_
        refine AW.take 1 rfl (by kernel_rfl) (by kernel_rfl) (by kernel_rfl) rfl (by assumption) (fun w hS => Y.loadBlock rfl (hS.at0 hb3') rfl) ?_
        refine AW.take 2 rfl (by kernel_rfl) (by kernel_rfl) (by kernel_rfl) rfl (by assumption) (fun w hS => Y.move rfl) ?_
        refine AW.next 3 rfl (by kernel_rfl) ?_
        refine RW.fn rfl rfl ((refNext _ v _ w5 ⟨p, rfl, hp.keep0 ((hk3.trans0 hk4).trans0 hk5)⟩ hi64).mono ?_)
        rintro e w6 ⟨hk6, rfl⟩
        refine RW.nil (Nm.then (rebase0 hS hk6 fun hS => ?_))
        refine AW.take 4 rfl (by kernel_rfl) (by kernel_rfl) (by kernel_rfl) rfl (by assumption) (fun w hS => Y.build (ps := [(0, _), (1, _)]) (c := #[vs [60], .int .i64 (nextV v _).a, .int .i64 (nextV v _).b, .int .i64 (nextV v _).c, .slice none 0 0]) rfl rfl) ?_
        refine AW.next 5 rfl (by kernel_rfl) ?_
        refine RW.buildL (ps := [(0, _), (1, _)]) (l := [_, _]) rfl rfl rfl (cells5 rfl rfl) rfl rfl (fun w7 hb7 hk7 hlt7 => ?_)
        refine RW.nil (Nm.then (rebase0 hS hk7 fun hS => ?_))
        refine AW.take 6 rfl (by kernel_rfl) (by kernel_rfl) (by kernel_rfl) rfl (by assumption) (fun w hS => Y.assign rfl) ?_
        refine AW.take 7 rfl (by kernel_rfl) (by kernel_rfl) (by kernel_rfl) rfl (by assumption) (fun w hS => Y.assign rfl) ?_
        refine AW.donew [2, 3] (by kernel_rfl) ?_
        dsimp only [H.keep, H.look, H.Fr.put, Nat.beq]
        repeat' (first | (refine CL.ret ?_) | (refine Rt.block ?_))
        refine FQ.two rfl rfl rfl rfl ⟨((((hk2.trans0 hk3).trans0 hk4).trans0 hk5).trans0 hk6).trans0 hk7, _, rfl, fun l hl => ?_⟩
        obtain rfl := Option.some.inj hl
        have hsl : Sl w7 5 (.slice (some ⟨w6.heap.size, 0, none⟩) 2 2) 2 _ := sl_new hb7 rfl (by decide)
        exact BdsNew.two (q := p) (r := .slice none 0 0) hsl (by have := hk3.size; have := hk4.size; have := hk5.size; have := hk6.size; omega) (hp.keep0 ((((hk3.trans0 hk4).trans0 hk5).trans0 hk6).trans0 hk7)) hpl (by rw [next_pre]; exact Sl.nil _ _) nolive
      · have hg : g = [126] := by assumption
        have he : expand g v = [⟨[62, 61], v⟩, ⟨[60], nextV v 1⟩] := by rw [expand, if_neg (by assumption), if_neg (by assumption), if_pos hg]
        rw [he]
        refine CL.draw (fun w' => K0 w4 w') (by kernel_rfl) (fun w5 hheap hk5 => ?_)
        have hS : K0 w4 w5 := hk5
        skip
        refine AW.take 0 rfl (by kernel_rfl) (by kernel_rfl) (by kernel_rfl) rfl (by assumption) (fun w hS => Y.loadBlock rfl (hS.at0 hb4) rfl) ?_
        refine AW.take 1 rfl (by kernel_rfl) (by kernel_rfl) (by kernel_rfl) rfl (by assumption) (fun w hS => Y.loadBlock rfl (hS.at0 hb3') rfl) ?_
        refine AW.next 2 rfl (by kernel_rfl) ?_
        refine RW.fn rfl rfl ((refNext _ v _ w5 ⟨p, rfl, hp.keep0 ((hk3.trans0 hk4).trans0 hk5)⟩ hi64).mono ?_)
        rintro e w6 ⟨hk6, rfl⟩
        refine RW.nil (Nm.then (rebase0 hS hk6 fun hS => ?_))
        refine AW.take 3 rfl (by kernel_rfl) (by kernel_rfl) (by kernel_rfl) rfl (by assumption) (fun w hS => Y.build (ps := [(0, _), (1, _)]) (c := #[vs [60], .int .i64 (nextV v _).a, .int .i64 (nextV v _).b, .int .i64 (nextV v _).c, .slice none 0 0]) rfl rfl) ?_
        refine AW.next 4 rfl (by kernel_rfl) ?_
        refine RW.buildL (ps := [(0, _), (1, _)]) (l := [_, _]) rfl rfl rfl (cells5 rfl rfl) rfl rfl (fun w7 hb7 hk7 hlt7 => ?_)
        refine RW.nil (Nm.then (rebase0 hS hk7 fun hS => ?_))
        refine AW.take 5 rfl (by kernel_rfl) (by kernel_rfl) (by kernel_rfl) rfl (by assumption) (fun w hS => Y.assign rfl) ?_
        refine AW.take 6 rfl (by kernel_rfl) (by kernel_rfl) (by kernel_rfl) rfl (by assumption) (fun w hS => Y.assign rfl) ?_
        refine AW.donew [2, 3] (by kernel_rfl) ?_
        dsimp only [H.keep, H.look, H.Fr.put, Nat.beq]
        repeat' (first | (refine CL.ret ?_) | (refine Rt.block ?_))
        refine FQ.two rfl rfl rfl rfl ⟨((((hk2.trans0 hk3).trans0 hk4).trans0 hk5).trans0 hk6).trans0 hk7, _, rfl, fun l hl => ?_⟩
        obtain rfl := Option.some.inj hl
        have hsl : Sl w7 5 (.slice (some ⟨w6.heap.size, 0, none⟩) 2 2) 2 _ := sl_new hb7 rfl (by decide)
        exact BdsNew.two (q := p) (r := .slice none 0 0) hsl (by have := hk3.size; have := hk4.size; have := hk5.size; have := hk6.size; omega) (hp.keep0 ((((hk3.trans0 hk4).trans0 hk5).trans0 hk6).trans0 hk7)) hpl (by rw [next_pre]; exact Sl.nil _ _) nolive
      · have he : expand g v = [⟨g, v⟩] := by rw [expand, if_neg (by assumption), if_neg (by assumption), if_neg (by assumption)]
        rw [he]
        refine RW.buildL (ps := [(0, _)]) (l := [.agg #[vs g, .int .i64 v.a, .int .i64 v.b, .int .i64 v.c, p]]) rfl rfl rfl (cells5a rfl) rfl rfl (fun w5 hb5 hk5 hlt5 => ?_)
        repeat' (first | (refine CL.ret ?_) | (refine Gt.nil ?_; refine RW.nilw [0, 2, 3, 4, 5, 6, 7, 8, 9, 25, 60, 63, 64, 69, 73, 76, 83] ?_; dsimp only [H.keep, H.look, H.Fr.put, Nat.beq]) | (refine Gt.assign ?_; refine RW.y (Y.assign rfl) rfl ?_))
        refine FQ.two rfl rfl rfl rfl ⟨((hk2.trans0 hk3).trans0 hk4).trans0 hk5, _, rfl, fun l hl => ?_⟩
        obtain rfl := Option.some.inj hl
        exact BdsNew.one (q := p) (sl_new hb5 rfl (by decide)) (by have := hk3.size; have := hk4.size; omega) (hp.keep0 ((hk3.trans0 hk4).trans0 hk5)) hpl
end Go.Proofs.YtjlkmdmpejpmpaaGreatDoor.Sp

namespace Go.Proofs.YtjlkmdmpejpmpaaGreatDoor.Sp
open Go.RowKit H S Ve

abbrev orT : TypeId := 91
def BdsOn (A : Nat → Prop) (w : World) (p : Value) (l : List Bd) : Prop := ∃ L : List (Bd × Value), L.map (·.1) = l ∧ Sl w 5 p L.length (L.flatMap bdC) ∧ (∀ g, live p = some g → A g) ∧ ∀ x ∈ L, Sl w 1 x.2 x.1.v.pre.length (sv x.1.v.pre) ∧ ∀ g, live x.2 = some g → A g
theorem BdsNew.on {B : Nat} {w : World} {p : Value} {l : List Bd} (h : BdsNew B w p l) : BdsOn (fun g => B ≤ g) w p l := h
theorem BdsOn.at {A : Nat → Prop} {w : World} {p : Value} {l : List Bd} (h : BdsOn A w p l) : BdsAt w p l := by
  obtain ⟨L, h1, h2, _, h3⟩ := h; exact ⟨L, h1, h2, fun x hx => (h3 x hx).1⟩
theorem BdsOn.mono {A A' : Nat → Prop} {w : World} {p : Value} {l : List Bd} (h : BdsOn A w p l) (hA : ∀ g, g < w.heap.size → A g → A' g) : BdsOn A' w p l := by
  obtain ⟨L, h1, h2, h3, h4⟩ := h
  exact ⟨L, h1, h2, fun g hg => hA g (h2.lt hg) (h3 g hg), fun x hx => ⟨(h4 x hx).1, fun g hg => hA g ((h4 x hx).1.lt hg) ((h4 x hx).2 g hg)⟩⟩
theorem BdsOn.keep {A S : Nat → Prop} {w w' : World} {p : Value} {l : List Bd} (h : BdsOn A w p l) (k : Kept S w w') (hS : ∀ g, g < w.heap.size → A g → ¬ S g) : BdsOn A w' p l := by
  obtain ⟨L, h1, h2, h3, h4⟩ := h
  exact ⟨L, h1, h2.keep k fun g hg => hS g (h2.lt hg) (h3 g hg), h3, fun x hx => ⟨(h4 x hx).1.keep k fun g hg => hS g ((h4 x hx).1.lt hg) ((h4 x hx).2 g hg), (h4 x hx).2⟩⟩
theorem BdsOn.one {A : Nat → Prop} {w : World} {p : Value} {l : List Bd} (h : BdsOn A w p l) : p.oneCell' = true := by
  obtain ⟨L, h1, h2, _⟩ := h; exact h2.one

/-- A row of bounds that grows. -/
def BI (w : World) (B : Nat) (u : Value) (l : List Bd) : Prop := ∃ L : List (Bd × Value), L.map (·.1) = l ∧ w.ownsRow B bdT' 5 u L.length (L.flatMap bdC) ∧ ∀ x ∈ L, Sl w 1 x.2 x.1.v.pre.length (sv x.1.v.pre) ∧ ∀ g, live x.2 = some g → B ≤ g ∧ u.ownBlock ≠ some g
theorem BI.nil (w : World) (B : Nat) : BI w B (.slice none 0 0) [] := ⟨[], rfl, World.ownsRow_nil _ _ _ _, fun x hx => by cases hx⟩
theorem BI.keep {S : Nat → Prop} {w w' : World} {B : Nat} {u : Value} {l : List Bd} (h : BI w B u l) (k : Kept S w w') (hS : ∀ g, B ≤ g → g < w.heap.size → ¬ S g) : BI w' B u l := by
  obtain ⟨L, h1, h2, h3⟩ := h
  exact ⟨L, h1, own_kept h2 k fun g hg => hS g (h2.lt g hg).1 (h2.lt g hg).2, fun x hx => ⟨(h3 x hx).1.keep k fun g hg => hS g ((h3 x hx).2 g hg).1 ((h3 x hx).1.lt hg), (h3 x hx).2⟩⟩
theorem BI.new {w : World} {B : Nat} {u : Value} {l : List Bd} (h : BI w B u l) : BdsNew B w u l := by
  obtain ⟨L, h1, h2, h3⟩ := h
  exact ⟨L, h1, Sl.of_own h2, fun g hg => (h2.lt g (live_own hg)).1, fun x hx => ⟨(h3 x hx).1, fun g hg => ((h3 x hx).2 g hg).1⟩⟩
theorem BI.own {w : World} {B : Nat} {u : Value} {l : List Bd} (h : BI w B u l) : ∀ g, u.ownBlock = some g → B ≤ g ∧ g < w.heap.size := by
  obtain ⟨L, h1, h2, h3⟩ := h
  exact fun g hg => h2.lt g hg
theorem bdC_one {x : Bd × Value} (h : x.2.oneCell' = true) : ∀ z ∈ bdC x, z.oneCell' = true := by
  intro z hz
  simp [bdC] at hz
  rcases hz with rfl | rfl | rfl | rfl | rfl <;> first | rfl | exact h
section
variable {M : Option (Option Nat)} {P : Program} {ops : Array Oper} {Q : Post} {rest : List Oper} {f : Fr} {w : World} {d : Nat} {ty : TypeId} {pos : String} {af : Array Edge}
/-- append of bounds that were laid behind C. -/
theorem RW.appB {t : TypeId} {z : Value} {b : Nat} [ht : Und P t (.slice bdT')] [hi : Inf P bdT' z 5 b] {s x : Operand} {u vx : Value} (hs : f.ev s = some u) (hx : f.ev x = some vx) (hd : Nat.blt d f.n = true) {B C : Nat} (hz : z.cells.size = 5)
    {l m : List Bd} (h : BI w B u l) (hn : BdsNew C w vx m) (hC : ∀ g, u.ownBlock = some g → g < C) (hBC : B ≤ C) (hl : l.length ≤ 1000000) (hm : m.length ≤ 1000000) (hb : b ≤ 1000) (hB : B ≤ w.heap.size)
    (k : ∀ v' w', BI w' B v' (l ++ m) → Kept (fun k => u.ownBlock = some k) w w' → Lies w u v' → RW M P ops Q rest (f.put d v') w') :
    RW M P ops Q (op1 d (.call { callee := .builtin .append, args := #[s, x], argTypes := #[t, t] }) ty pos af :: rest) f w := by
  obtain ⟨L, rfl, h2, h3⟩ := h
  obtain ⟨K, rfl, g2, g3, g4⟩ := hn
  rw [List.length_map] at hl hm
  have hbb : (L.length + K.length) * b ≤ 2000000 * 1000 := Nat.mul_le_mul (by omega) hb
  refine RW.app hs hx hd hz rfl h2 g2 (fun y hy => ?_) (by omega) (by omega) hB fun v' w' how hk hlies => k v' w' ⟨L ++ K, by simp, ?_, ?_⟩ hk hlies
  · obtain ⟨x, hx, hy⟩ := List.mem_flatMap.1 hy
    exact bdC_one (g4 x hx).1.one y hy
  · rw [List.length_append, List.flatMap_append]; exact how
  · intro x hx
    have hold : Sl w 1 x.2 x.1.v.pre.length (sv x.1.v.pre) ∧ ∀ g, live x.2 = some g → B ≤ g ∧ u.ownBlock ≠ some g := by
      rcases List.mem_append.1 hx with hx | hx
      · exact h3 x hx
      · exact ⟨(g4 x hx).1, fun g hg => ⟨Nat.le_trans hBC ((g4 x hx).2 g hg), fun c => by have := hC g c; have := (g4 x hx).2 g hg; omega⟩⟩
    refine ⟨hold.1.keep hk fun g hg => (hold.2 g hg).2, fun g hg => ⟨(hold.2 g hg).1, fun c => ?_⟩⟩
    rcases hlies g c with e | e
    · exact (hold.2 g hg).2 e
    · have := hold.1.lt hg; omega
end

/-- A row of lists of bounds that grows. -/
def OI (w : World) (B : Nat) (q : Value) (o : List (List Bd)) : Prop := ∃ R : List (List Bd × Value), R.map (·.1) = o ∧ w.ownsRow B orT 1 q R.length (R.map (·.2)) ∧ ∀ x ∈ R, BdsOn (fun g => B ≤ g ∧ q.ownBlock ≠ some g) w x.2 x.1
/-- Lists of bounds in memory; in memory that was not there below B. -/
def OrAt (w : World) (p : Value) (o : List (List Bd)) : Prop := ∃ R : List (List Bd × Value), R.map (·.1) = o ∧ Sl w 1 p R.length (R.map (·.2)) ∧ ∀ x ∈ R, BdsAt w x.2 x.1
def OrNew (B : Nat) (w : World) (p : Value) (o : List (List Bd)) : Prop := ∃ R : List (List Bd × Value), R.map (·.1) = o ∧ Sl w 1 p R.length (R.map (·.2)) ∧ (∀ g, live p = some g → B ≤ g) ∧ ∀ x ∈ R, BdsNew B w x.2 x.1
theorem OrAt.keep0 {w w' : World} {p : Value} {o : List (List Bd)} (h : OrAt w p o) (k : K0 w w') : OrAt w' p o := by
  obtain ⟨R, h1, h2, h3⟩ := h; exact ⟨R, h1, h2.keep0 k, fun x hx => (h3 x hx).keep0 k⟩
theorem OI.nil (w : World) (B : Nat) : OI w B (.slice none 0 0) [] := ⟨[], rfl, World.ownsRow_nil _ _ _ _, fun x hx => by cases hx⟩
theorem OI.keep {S : Nat → Prop} {w w' : World} {B : Nat} {q : Value} {o : List (List Bd)} (h : OI w B q o) (k : Kept S w w') (hS : ∀ g, B ≤ g → g < w.heap.size → ¬ S g) : OI w' B q o := by
  obtain ⟨R, h1, h2, h3⟩ := h
  exact ⟨R, h1, own_kept h2 k fun g hg => hS g (h2.lt g hg).1 (h2.lt g hg).2, fun x hx => (h3 x hx).keep k fun g hg hA => hS g hA.1 hg⟩
theorem OI.new {w : World} {B : Nat} {q : Value} {o : List (List Bd)} (h : OI w B q o) : OrNew B w q o := by
  obtain ⟨R, h1, h2, h3⟩ := h
  exact ⟨R, h1, Sl.of_own h2, fun g hg => (h2.lt g (live_own hg)).1, fun x hx => (h3 x hx).mono fun g _ h => h.1⟩
theorem OI.own {w : World} {B : Nat} {q : Value} {o : List (List Bd)} (h : OI w B q o) : ∀ g, q.ownBlock = some g → B ≤ g ∧ g < w.heap.size := by
  obtain ⟨R, h1, h2, h3⟩ := h
  exact fun g hg => h2.lt g hg
theorem OI.sl {w : World} {B : Nat} {q : Value} {o : List (List Bd)} (h : OI w B q o) : ∃ xs, Sl w 1 q o.length xs := by
  obtain ⟨R, rfl, h2, h3⟩ := h
  exact ⟨_, by rw [List.length_map]; exact Sl.of_own h2⟩
section
variable {M : Option (Option Nat)} {P : Program} {ops : Array Oper} {Q : Post} {rest : List Oper} {f : Fr} {w : World} {d : Nat} {ty : TypeId} {pos : String} {af : Array Edge}
/-- append of one list of bounds that was laid behind C. -/
theorem RW.appO {t ty1 : TypeId} {d1 : Nat} {pos1 : String} {af1 : Array Edge} {z : Value} {b : Nat} [ht : Und P t (.slice orT)] [hi : Inf P orT z 1 b] {s x : Operand} {q u : Value} (hx : f.ev x = some u) (hs : (f.put d1 (.slice (some ⟨w.heap.size, 0, none⟩) 1 1)).ev s = some q) (hd1 : Nat.blt d1 f.n = true) (hd : Nat.blt d f.n = true) {B C : Nat} (hz : z.cells.size = 1)
    {o : List (List Bd)} {l : List Bd} (h : OI w B q o) (hn : BdsNew C w u l) (hC : ∀ g, q.ownBlock = some g → g < C) (hBC : B ≤ C) (hl : o.length ≤ 1000000) (hb : b ≤ 1000) (hB : B ≤ w.heap.size)
    (k : ∀ v' w', OI w' B v' (o ++ [l]) → Kept (fun k => q.ownBlock = some k) w w' → Lies w q v' → RW M P ops Q rest ((f.put d1 (.slice (some ⟨w.heap.size, 0, none⟩) 1 1)).put d v') w') :
    RW M P ops Q (op1 d1 (.buildSlice t 1 #[(0, x)]) ty1 pos1 af1 :: op1 d (.call { callee := .builtin .append, args := #[s, .tmp d1], argTypes := #[t, t] }) ty pos af :: rest) f w := by
  obtain ⟨R, rfl, h2, h3⟩ := h
  rw [List.length_map] at hl
  have h1u := hn.on.one
  have hcu : u.cells = #[u] := by obtain ⟨L, _, g2, _⟩ := hn; exact g2.cells
  have hbb : (R.length + 1) * b ≤ 1000001 * 1000 := Nat.mul_le_mul (by omega) hb
  refine RW.app1 hx hs hd1 hd h2 hz (by rw [hcu]; rfl) rfl rfl (fun y hy => ?_) hB (by omega) (by omega) fun v' w' how hk hlies => k v' w' ⟨R ++ [(l, u)], by simp, ?_, ?_⟩ hk hlies
  · rw [hcu] at hy; simp at hy; rw [hy]; exact h1u
  · rw [List.length_append, List.map_append]; rw [hcu] at how; exact how
  · intro x hx
    have hold : BdsOn (fun g => B ≤ g ∧ q.ownBlock ≠ some g) w x.2 x.1 := by
      rcases List.mem_append.1 hx with hx | hx
      · exact h3 x hx
      · rw [List.mem_singleton.1 hx]
        exact hn.on.mono fun g _ hg => ⟨Nat.le_trans hBC hg, fun c => by have := hC g c; omega⟩
    have h3' : BdsOn (fun g => (B ≤ g ∧ q.ownBlock ≠ some g) ∧ v'.ownBlock ≠ some g) w x.2 x.1 := hold.mono fun g hlt hA => ⟨hA, fun c => by rcases hlies g c with e | e; { exact hA.2 e }; omega⟩
    exact (h3'.keep hk fun g _ hA => hA.1.2).mono fun g _ hA => ⟨hA.1.1, hA.2⟩
end
end Go.Proofs.YtjlkmdmpejpmpaaGreatDoor.Sp

namespace Go.Proofs.YtjlkmdmpejpmpaaGreatDoor.Sp
open Go.RowKit H S Ve
attribute [local irreducible] H.CL H.RW H.CW H.Yd H.thenK H.blockQ Go.Calls

abbrev spnT : TypeId := 45
def SpanNew (B : Nat) (w : World) (V : Value) (s : Spn) : Prop := ∃ p, V = .agg #[.bool s.any, p] ∧ OrNew B w p s.or
def SpanAt (w : World) (V : Value) (s : Spn) : Prop := ∃ p, V = .agg #[.bool s.any, p] ∧ OrAt w p s.or
theorem OrNew.nil (B : Nat) (w : World) : OrNew B w (.slice none 0 0) [] := ⟨[], rfl, Sl.nil _ _, nolive, fun x hx => by cases hx⟩
theorem spnCells {b : Bool} {p : Value} (hp : p.oneCell' = true) : ∀ z ∈ (#[.bool b, p] : Array Value).toList, z.oneCell' = true := by
  intro z hz
  simp at hz
  rcases hz with rfl | rfl <;> first | rfl | exact hp
theorem star_of {l : List T} (h : l.length = 1) (h2 : l.getD 0 [] = [42]) : l = [[42]] := by
  match l, h with
  | [x], _ => simp at h2; rw [h2]

theorem OrNew.mono {B B' : Nat} {w : World} {p : Value} {o : List (List Bd)} (h : OrNew B w p o) (hB : B' ≤ B) : OrNew B' w p o := by
  obtain ⟨R, h1, h2, h3, h4⟩ := h
  exact ⟨R, h1, h2, fun g hg => Nat.le_trans hB (h3 g hg), fun x hx => (h4 x hx).on.mono fun g _ hg => Nat.le_trans hB hg⟩
theorem bounds_len {s : T} {b : List Bd} (h : boundsB s = some b) : b.length ≤ 2 := by
  rw [boundsB, Option.map_eq_some_iff] at h
  obtain ⟨v, _, rfl⟩ := h
  unfold expand
  repeat' split
  all_goals simp
theorem drop_at (l : List T) (k : Nat) (h : k < l.length) : l.drop k = l.getD k [] :: l.drop (k + 1) := by
  rw [List.drop_eq_getElem_cons h]; simp [List.getD_eq_getElem?_getD, h]

set_option maxHeartbeats 4000000 in
theorem refSpanOf (s : T) (hl : s.length ≤ 1000000) (w : World) : Calls Tryz.prog 45 #[vs s] w fun e w' => K0 w w' ∧ ∃ V, e = .returned (.tuple #[V, .int .i64 (spanR (spanB s)).2]) ∧ SpanNew w.heap.size w' V (spanR (spanB s)).1 := by
  refine H.enter Tryz.func45 Tryz.ntmps45 rfl rfl ?_; dsimp only [H.args]
  repeat' (first | (refine CL.seq ?_) | (refine CL.region ?_))
  refine RW.alloc rfl (fun w1 hb1 hk1 hlt1 => ?_)
  repeat' (first | (refine CL.seq ?_) | (refine CL.region ?_) | (refine Gt.nil ?_; refine RW.nilw [0, 2, 3, 4, 5, 6, 7, 8, 9, 10, 11, 12, 13, 14, 25, 30, 51, 65, 70, 85, 90, 102] ?_; dsimp only [H.keep, H.look, H.Fr.put, Nat.beq]) | (refine Gt.move ?_; refine RW.y (Y.move rfl) rfl ?_) | (refine Gt.assign ?_; refine RW.y (Y.assign rfl) rfl ?_))
  refine RW.fn rfl rfl ((refWords s hl w1).mono ?_)
  rintro e w2 ⟨v2, rfl, how2, hk2⟩
  have hs2 := Sl.of_own how2
  have hbr2 := hk2.at0 hb1
  have hz1 := hk1.size
  have hz2 := hk2.size
  have hK2 : K0 w w2 := hk1.trans0 hk2
  repeat' (first | (refine CL.seq ?_) | (refine Gt.nil ?_; refine RW.nilw [0, 2, 3, 4, 5, 6, 7, 8, 9, 10, 11, 12, 13, 14, 25, 30, 51, 65, 70, 85, 90, 102] ?_; dsimp only [H.keep, H.look, H.Fr.put, Nat.beq]) | (refine Gt.assign ?_; refine RW.y (Y.assign rfl) rfl ?_))
  refine CL.cutS [0, 2, 3, 4, 25] (fun vals wr => vals = [vs s, .pointer (some ⟨w.heap.size, 0, none⟩), .int .i64 0, v2, .bool (decide (wordsB s = [[42]]))] ∧ wr = w2) (by simp) ?_ ?_
  · repeat' (first | (refine CL.region ?_) | (refine CL.done ?_) | (refine Nm.then ?_) | (refine Gt.nil ?_; refine RW.nilw [0, 2, 3, 4, 5, 6, 7, 8, 9, 10, 11, 12, 13, 14, 25, 30, 51, 65, 70, 85, 90, 102] ?_; dsimp only [H.keep, H.look, H.Fr.put, Nat.beq]) | (refine Gt.move ?_; refine RW.y (Y.move rfl) rfl ?_) | (refine Gt.guard ?_; first | (refine RW.part rfl rfl rfl (fun _ => ?_) (fun _ => ?_) <;> try (exfalso; omega)) | (refine RW.on rfl rfl rfl ?_) | (refine RW.off1 rfl rfl rfl rfl rfl ?_)) | (refine Gt.len ?_; (refine RW.y (Y.lenx rfl (by assumption)) rfl ?_)) | (refine Gt.pick ?_; first | (refine RW.y (Y.pickT rfl rfl) rfl ?_) | (refine RW.y (Y.pickF rfl rfl) rfl ?_)) | (refine Gt.idx ?_; (refine RW.elemSOn rfl rfl rfl rfl (by assumption) (by omega) (by omega) rfl rfl rfl ?_)) | (refine Gt.eql ?_; first | (refine RW.y (Y.eqi rfl rfl) rfl ?_) | (refine RW.y (Y.eqs rfl rfl) rfl ?_)))
    · refine ⟨_, rfl, rfl, rfl, ?_, rfl⟩
      rename_i h1
      have he : decide ((wordsB s).getD (Int.toNat 0) [] = [42]) = decide (wordsB s = [[42]]) := by
        refine decide_eq_decide.2 ⟨fun h => star_of (by omega) h, fun h => by rw [h]; rfl⟩
      rw [he]
    · refine ⟨_, rfl, rfl, rfl, ?_, rfl⟩
      rename_i h1
      rw [show decide (wordsB s = [[42]]) = false from decide_eq_false fun h => h1 (by rw [h]; rfl)]
  rintro vals wr ⟨rfl, rfl⟩
  dsimp only [List.zip, List.zipWith]
  repeat' (first | (refine CL.seq ?_) | (refine CL.region ?_) | (refine CL.skip ?_) | (refine CL.condP rfl (fun _ => ?_) (fun _ => ?_) <;> try (exfalso; omega)) | (refine RW.y (Y.build (ps := [(0, _)]) (l := [_]) (c := #[.bool true, .slice none 0 0]) rfl rfl) rfl ?_))
  · rename_i hst
    have hsp : spanB s = some ⟨true, []⟩ := by rw [spanB, if_pos hst]
    rw [hsp]
    simp only [spanR]
    refine RW.storeBlock rfl rfl rfl (spnCells rfl) hbr2 rfl (fun w3 hb3 hk3 => ?_)
    repeat' (first | (refine CL.ret ?_) | (refine Gt.nil ?_; refine RW.nilw [0, 2, 3, 4, 5, 6, 7, 8, 9, 10, 11, 12, 13, 14, 25, 30, 51, 65, 70, 85, 90, 102] ?_; dsimp only [H.keep, H.look, H.Fr.put, Nat.beq]) | (refine Gt.assign ?_; refine RW.y (Y.assign rfl) rfl ?_))
    exact FQ.res (rs := [.cell 2 45, .tmp 3]) (vs := [_, _]) rfl rfl ⟨⟨_, rfl, load_block hb3 rfl⟩, rfl, trivial⟩ rfl (⟨hK2.trans hk3 fun k h => .inr (by rw [h]; exact Nat.le_refl _), _, rfl, _, rfl, OrNew.nil _ _⟩)
  rename_i hst
  refine RW.alloc rfl (fun w3 hb3 hk3 hlt3 => ?_)
  repeat' (first | (refine CL.seq ?_) | (refine CL.region ?_) | (refine CL.block ?_) | (refine Gt.nil ?_; refine RW.nilw [0, 2, 3, 4, 5, 6, 7, 8, 9, 10, 11, 12, 13, 14, 25, 30, 51, 65, 70, 85, 90, 102] ?_; dsimp only [H.keep, H.look, H.Fr.put, Nat.beq]) | (refine Gt.assign ?_; refine RW.y (Y.assign rfl) rfl ?_))
  have hz3 := hk3.size
  have hpad : orB s = ((s.take 0).drop 0 ++ (orB (s.drop 0)).headD []) :: (orB (s.drop 0)).tail := by
    simp only [List.take_zero, List.drop_zero, List.nil_append]
    cases h : orB s with
    | nil => exact absurd h (orB_ne s)
    | cons a r => rfl
  refine CL.loopS [0, 2, 3, 5, 6, 7, 8] (fun m vals wx => ∃ (i j : Nat) (u : Value) (done : List T), vals = [vs s, .pointer (some ⟨w.heap.size, 0, none⟩), .int .i64 0, .pointer (some ⟨wr.heap.size, 0, none⟩), u, .int .i64 (j : Int), .int .i64 (i : Int)] ∧ m = s.length + 2 - i ∧ i ≤ s.length + 2 ∧ done.length ≤ i ∧ wx.ownsRow w3.heap.size strT 1 u done.length (sv done) ∧ K0 w3 wx ∧
      (if i ≤ s.length then j ≤ i ∧ orB s = done ++ ((s.take i).drop j ++ (orB (s.drop i)).headD []) :: (orB (s.drop i)).tail else orB s = done)) (s.length + 2) ⟨_, rfl, 0, 0, _, [], rfl, rfl, by omega, Nat.zero_le _, World.ownsRow_nil _ _ _ _, Kept.refl _ _, by rw [if_pos (Nat.zero_le _)]; exact ⟨Nat.le_refl _, hpad⟩⟩ ?_
  rintro m vals wx ⟨i, j, u, done, rfl, rfl, hi, hdl, how, hkx, hsp⟩
  dsimp only [List.zip, List.zipWith]
  have hzx := hkx.size
  rcases Nat.lt_or_ge s.length i with hgt | hle
  · rw [if_neg (by omega)] at hsp
    have hd : done = orB s := hsp.symm
    subst hd
    have hsu := Sl.of_own how
    have hbrx := hkx.at0 (hk3.at0 hbr2)
    have hb3x := hkx.at0 hb3
    have hK3 : K0 w wx := (hK2.trans0 hk3).trans0 hkx
    have hol := orB_len s
    repeat' (first | (refine CL.seq ?_) | (refine CL.region ?_) | (refine CL.skip ?_) | (refine CL.condP rfl (fun _ => ?_) (fun _ => ?_) <;> try (exfalso; omega)) | (refine CL.block ?_) | (refine CL.exit ?_) | (refine Ex.then ?_) | (refine Ex.hit ?_) | (refine Gt.nil ?_; refine RW.nilw [0, 2, 3, 4, 5, 6, 7, 8, 9, 10, 11, 12, 13, 14, 25, 30, 51, 65, 70, 85, 90, 102] ?_; dsimp only [H.keep, H.look, H.Fr.put, Nat.beq]) | (refine RW.y (Y.build (ps := []) (l := []) (c := #[.bool false, .slice none 0 0]) rfl rfl) rfl ?_) | (refine Gt.move ?_; refine RW.y (Y.move rfl) rfl ?_) | (refine Gt.assign ?_; refine RW.y (Y.assign rfl) rfl ?_) | (refine Gt.len ?_; first | (refine RW.y (Y.lenx rfl (by assumption)) rfl ?_) | (refine RW.y (Y.lens rfl) rfl ?_)) | (refine Gt.gtr ?_; refine RW.y (Y.gtr rfl rfl) rfl ?_) | (refine Gt.leq ?_; refine RW.y (Y.leq rfl rfl) rfl ?_))
    · rename_i h8
      have hsp : spanB s = none := by rw [spanB, if_neg hst, if_neg (by omega)]
      rw [hsp]
      simp only [spanR]
      refine RW.storeBlock rfl rfl rfl (spnCells rfl) hbrx rfl (fun w4 hb4 hk4 => ?_)
      repeat' (first | (refine CL.ret ?_) | (refine Gt.nil ?_; refine RW.nilw [0, 2, 3, 4, 5, 6, 7, 8, 9, 10, 11, 12, 13, 14, 25, 30, 51, 65, 70, 85, 90, 102] ?_; dsimp only [H.keep, H.look, H.Fr.put, Nat.beq]) | (refine Gt.assign ?_; refine RW.y (Y.assign rfl) rfl ?_))
      exact FQ.res (rs := [.cell 2 45, .tmp 3]) (vs := [_, _]) rfl rfl ⟨⟨_, rfl, load_block hb4 rfl⟩, rfl, trivial⟩ rfl (⟨hK3.trans hk4 fun k h => .inr (by rw [h]; exact Nat.le_refl _), _, rfl, _, rfl, OrNew.nil _ _⟩)
    rename_i h8
    have hspB : spanB s = (rdL (orB s) []).map (⟨false, ·⟩) := by rw [spanB, if_neg hst, if_pos (by omega)]
    have hml : ∀ x ∈ orB s, x.length ≤ 1000000 := fun x hx => Nat.le_trans (orB_mem s x hx) hl
    rw [hspB]
    have hul : ∀ g, live u = some g → w3.heap.size ≤ g := fun g hg => (how.lt g (live_own hg)).1
    have hux : ∀ g, live u = some g → g < wx.heap.size := fun g hg => hsu.lt hg
    generalize orB s = l at *
    refine CL.loopS [2, 3, 5, 6, 9] (fun m vals wy => ∃ (k : Nat) (q : Value) (acc : List (List Bd)), vals = [.pointer (some ⟨w.heap.size, 0, none⟩), .int .i64 0, .pointer (some ⟨wr.heap.size, 0, none⟩), u, .int .i64 (k : Int)] ∧ m = l.length - k ∧ k ≤ l.length ∧ acc.length = k ∧ rdL l [] = rdL (l.drop k) acc ∧ OI wy wx.heap.size q acc ∧ wy.heap[w.heap.size]? = some (.cells #[.bool false, .slice none 0 0] spnT (0, 0)) ∧ wy.heap[wr.heap.size]? = some (.cells #[.bool false, q] spnT (0, 0)) ∧ Sl wy 1 u l.length (sv l) ∧ Kept (fun k => k = wr.heap.size) wx wy) l.length ⟨_, rfl, 0, _, [], rfl, rfl, Nat.zero_le _, rfl, rfl, OI.nil _ _, hbrx, hb3x, hsu, Kept.refl _ _⟩ ?_
    rintro m vals wy ⟨k, q, acc, rfl, rfl, hk, hal, hrd, hoi, hbry, hb5y, hsu, hky⟩
    dsimp only [List.zip, List.zipWith]
    have hzy := hky.size
    rcases Nat.lt_or_ge k l.length with hlt | hge
    · repeat' (first | (refine CL.seq ?_) | (refine CL.region ?_) | (refine CL.skip ?_) | (refine CL.condP rfl (fun _ => ?_) (fun _ => ?_) <;> try (exfalso; omega)) | (refine CL.block ?_) | (refine Gt.nil ?_; refine RW.nilw [0, 2, 3, 4, 5, 6, 7, 8, 9, 10, 11, 12, 13, 14, 25, 30, 51, 65, 70, 85, 90, 102] ?_; dsimp only [H.keep, H.look, H.Fr.put, Nat.beq]) | (refine Gt.move ?_; refine RW.y (Y.move rfl) rfl ?_) | (refine Gt.len ?_; (refine RW.y (Y.lenx rfl (by assumption)) rfl ?_)) | (refine Gt.lss ?_; refine RW.y (Y.lss rfl rfl) rfl ?_) | (refine Gt.idx ?_; (refine RW.elemS rfl rfl rfl rfl (by assumption) (by omega) (by omega) ?_)))
      refine RW.fn rfl rfl ((refWords _ (hml _ (by rw [Int.toNat_natCast]; exact getD_mem [] hlt)) wy).mono ?_)
      rw [Int.toNat_natCast]
      rintro e wz ⟨vw, rfl, how, hkz⟩
      have hsw := Sl.of_own how
      have hwl := wordsB_len (l.getD k [])
      have hxl : (l.getD k []).length ≤ 1000000 := hml _ (getD_mem [] hlt)
      have hlB : listB (l.getD k []) = if 1 ≤ (wordsB (l.getD k [])).length ∧ (wordsB (l.getD k [])).length ≤ 8 then rdW (wordsB (l.getD k [])) [] else none := rfl
      rw [drop_at l k hlt, rdL] at hrd
      generalize wordsB (l.getD k []) = wl at *
      have hKz : K0 w wz := (hK3.trans hky fun k h => .inr (by have h' : k = wr.heap.size := h; omega)).trans0 hkz
      have hzz := hkz.size
      have hbz := hkz.at0 hbry
      have hnone : listB (l.getD k []) = none → Option.map (fun x => (⟨false, x⟩ : Spn)) (rdL l []) = none := fun h => by rw [hrd, h]; rfl
      repeat' (first | (refine CL.seq ?_) | (refine CL.region ?_) | (refine CL.skip ?_) | (refine CL.condP rfl (fun _ => ?_) (fun _ => ?_) <;> try (exfalso; omega)) | (refine CL.condT rfl ?_) | (refine CL.block ?_) | (refine Gt.nil ?_; refine RW.nilw [0, 2, 3, 4, 5, 6, 7, 8, 9, 10, 11, 12, 13, 14, 25, 30, 51, 65, 70, 85, 90, 102] ?_; dsimp only [H.keep, H.look, H.Fr.put, Nat.beq]) | (refine RW.y (Y.build (ps := []) (l := []) (c := #[.bool false, .slice none 0 0]) rfl rfl) rfl ?_) | (refine Gt.move ?_; refine RW.y (Y.move rfl) rfl ?_) | (refine Gt.guard ?_; first | (refine RW.part rfl rfl rfl (fun _ => ?_) (fun _ => ?_) <;> try (exfalso; omega)) | (refine RW.on rfl rfl rfl ?_) | (refine RW.off1 rfl rfl rfl rfl rfl ?_)) | (refine Gt.assign ?_; refine RW.y (Y.assign rfl) rfl ?_) | (refine Gt.len ?_; (refine RW.y (Y.lenx rfl (by assumption)) rfl ?_)) | (refine Gt.pick ?_; first | (refine RW.y (Y.pickT rfl rfl) rfl ?_) | (refine RW.y (Y.pickF rfl rfl) rfl ?_)) | (refine Gt.lss ?_; refine RW.y (Y.lss rfl rfl) rfl ?_) | (refine Gt.gtr ?_; refine RW.y (Y.gtr rfl rfl) rfl ?_))
      · rw [hnone (by rw [hlB, if_neg (by omega)])]
        simp only [spanR]
        have hbF := hbz
        have hKF := hKz
        refine RW.storeBlock rfl rfl rfl (spnCells rfl) hbF rfl (fun wq hbq hkq => ?_)
        repeat' (first | (refine CL.ret ?_) | (refine Rt.then ?_) | (refine Rt.block ?_) | (refine Gt.nil ?_; refine RW.nilw [0, 2, 3, 4, 5, 6, 7, 8, 9, 10, 11, 12, 13, 14, 25, 30, 51, 65, 70, 85, 90, 102] ?_; dsimp only [H.keep, H.look, H.Fr.put, Nat.beq]) | (refine Gt.assign ?_; refine RW.y (Y.assign rfl) rfl ?_))
        exact FQ.res (rs := [.cell 2 45, .tmp 3]) (vs := [_, _]) rfl rfl ⟨⟨_, rfl, load_block hbq rfl⟩, rfl, trivial⟩ rfl (⟨hKF.trans hkq fun k h => .inr (by rw [h]; exact Nat.le_refl _), _, rfl, _, rfl, OrNew.nil _ _⟩)
      · rw [hnone (by rw [hlB, if_neg (by omega)])]
        simp only [spanR]
        have hbF := hbz
        have hKF := hKz
        refine RW.storeBlock rfl rfl rfl (spnCells rfl) hbF rfl (fun wq hbq hkq => ?_)
        repeat' (first | (refine CL.ret ?_) | (refine Rt.then ?_) | (refine Rt.block ?_) | (refine Gt.nil ?_; refine RW.nilw [0, 2, 3, 4, 5, 6, 7, 8, 9, 10, 11, 12, 13, 14, 25, 30, 51, 65, 70, 85, 90, 102] ?_; dsimp only [H.keep, H.look, H.Fr.put, Nat.beq]) | (refine Gt.assign ?_; refine RW.y (Y.assign rfl) rfl ?_))
        exact FQ.res (rs := [.cell 2 45, .tmp 3]) (vs := [_, _]) rfl rfl ⟨⟨_, rfl, load_block hbq rfl⟩, rfl, trivial⟩ rfl (⟨hKF.trans hkq fun k h => .inr (by rw [h]; exact Nat.le_refl _), _, rfl, _, rfl, OrNew.nil _ _⟩)
      rw [if_pos (by omega)] at hlB
      refine CL.loopS [2, 3, 5, 6, 9, 10, 11, 12] (fun m vals wv => ∃ (n : Nat) (uu : Value) (bacc : List Bd), vals = [.pointer (some ⟨w.heap.size, 0, none⟩), .int .i64 0, .pointer (some ⟨wr.heap.size, 0, none⟩), u, .int .i64 (k : Int), vw, uu, .int .i64 (n : Int)] ∧ m = wl.length - n ∧ n ≤ wl.length ∧ bacc.length ≤ 2 * n ∧ rdW wl [] = rdW (wl.drop n) bacc ∧ BI wv wz.heap.size uu bacc ∧ K0 wz wv) wl.length ⟨_, rfl, 0, _, [], rfl, rfl, Nat.zero_le _, Nat.le_refl _, rfl, BI.nil _ _, Kept.refl _ _⟩ ?_
      rintro m vals wv ⟨n, uu, bacc, rfl, rfl, hn, hbl, hrw, hbi, hkv⟩
      dsimp only [List.zip, List.zipWith]
      have hzv := hkv.size
      have hswv := hsw.keep0 hkv
      have hbv := hkv.at0 hbz
      have hKv := hKz.trans0 hkv
      rcases Nat.lt_or_ge n wl.length with hnl | hng
      · have hw1 := hwl _ (getD_mem [] hnl)
        repeat' (first | (refine CL.seq ?_) | (refine CL.region ?_) | (refine CL.skip ?_) | (refine CL.condP rfl (fun _ => ?_) (fun _ => ?_) <;> try (exfalso; omega)) | (refine CL.block ?_) | (refine Gt.nil ?_; refine RW.nilw [0, 2, 3, 4, 5, 6, 7, 8, 9, 10, 11, 12, 13, 14, 25, 30, 51, 65, 70, 85, 90, 102] ?_; dsimp only [H.keep, H.look, H.Fr.put, Nat.beq]) | (refine Gt.move ?_; refine RW.y (Y.move rfl) rfl ?_) | (refine Gt.len ?_; (refine RW.y (Y.lenx rfl (by assumption)) rfl ?_)) | (refine Gt.lss ?_; refine RW.y (Y.lss rfl rfl) rfl ?_) | (refine Gt.idx ?_; (refine RW.elemS rfl rfl rfl rfl (by assumption) (by omega) (by omega) ?_)))
        refine RW.fn rfl rfl ((refBounds _ (by rw [Int.toNat_natCast]; exact hw1.2) (by rw [Int.toNat_natCast]; omega) wv).mono ?_)
        rw [Int.toNat_natCast]
        rintro e w5 ⟨hk5, p, rfl, hp⟩
        rw [drop_at wl n hnl, rdW] at hrw
        have hz5 := hk5.size
        cases hbd : boundsB (wl.getD n []) with
        | none =>
          rw [hbd] at hrw
          repeat' (first | (refine CL.seq ?_) | (refine CL.region ?_) | (refine CL.condT rfl ?_) | (refine Gt.nil ?_; refine RW.nilw [0, 2, 3, 4, 5, 6, 7, 8, 9, 10, 11, 12, 13, 14, 25, 30, 51, 65, 70, 85, 90, 102] ?_; dsimp only [H.keep, H.look, H.Fr.put, Nat.beq]) | (refine RW.y (Y.build (ps := []) (l := []) (c := #[.bool false, .slice none 0 0]) rfl rfl) rfl ?_) | (refine Gt.move ?_; refine RW.y (Y.move rfl) rfl ?_) | (refine Gt.assign ?_; refine RW.y (Y.assign rfl) rfl ?_) | (refine Gt.extract ?_; refine RW.y (Y.extract rfl rfl) rfl ?_) | (refine Gt.not ?_; (refine RW.y (Y.notb rfl) rfl ?_)))
          rw [hnone (by rw [hlB, hrw])]
          simp only [spanR]
          have hbF := hk5.at0 hbv
          have hKF := hKv.trans0 hk5
          refine RW.storeBlock rfl rfl rfl (spnCells rfl) hbF rfl (fun wq hbq hkq => ?_)
          repeat' (first | (refine CL.ret ?_) | (refine Rt.then ?_) | (refine Rt.block ?_) | (refine Gt.nil ?_; refine RW.nilw [0, 2, 3, 4, 5, 6, 7, 8, 9, 10, 11, 12, 13, 14, 25, 30, 51, 65, 70, 85, 90, 102] ?_; dsimp only [H.keep, H.look, H.Fr.put, Nat.beq]) | (refine Gt.assign ?_; refine RW.y (Y.assign rfl) rfl ?_))
          exact FQ.res (rs := [.cell 2 45, .tmp 3]) (vs := [_, _]) rfl rfl ⟨⟨_, rfl, load_block hbq rfl⟩, rfl, trivial⟩ rfl (⟨hKF.trans hkq fun k h => .inr (by rw [h]; exact Nat.le_refl _), _, rfl, _, rfl, OrNew.nil _ _⟩)
        | some b =>
          rw [hbd] at hrw
          have hb2 := bounds_len hbd
          repeat' (first | (refine CL.seq ?_) | (refine CL.region ?_) | (refine CL.skip ?_) | (refine CL.condF rfl ?_) | (refine Gt.nil ?_; refine RW.nilw [0, 2, 3, 4, 5, 6, 7, 8, 9, 10, 11, 12, 13, 14, 25, 30, 51, 65, 70, 85, 90, 102] ?_; dsimp only [H.keep, H.look, H.Fr.put, Nat.beq]) | (refine Gt.move ?_; refine RW.y (Y.move rfl) rfl ?_) | (refine Gt.assign ?_; refine RW.y (Y.assign rfl) rfl ?_) | (refine Gt.extract ?_; refine RW.y (Y.extract rfl rfl) rfl ?_) | (refine Gt.not ?_; (refine RW.y (Y.notb rfl) rfl ?_)))
          refine RW.appB rfl rfl rfl rfl (hbi.keep hk5 fun _ _ _ c => c) (hp b hbd) (fun g hg => (hbi.own g hg).2) hzv (by omega) (by omega) (by decide) (by omega) (fun v' w6 hbi' hk6 hl6 => ?_)
          repeat' (first | (refine CL.region ?_) | (refine CL.done ?_) | (refine Nm.block ?_) | (refine Nm.then ?_) | (refine Gt.nil ?_; refine RW.nilw [0, 2, 3, 4, 5, 6, 7, 8, 9, 10, 11, 12, 13, 14, 25, 30, 51, 65, 70, 85, 90, 102] ?_; dsimp only [H.keep, H.look, H.Fr.put, Nat.beq]) | (refine Gt.move ?_; refine RW.y (Y.move rfl) rfl ?_) | (refine Gt.assign ?_; refine RW.y (Y.assign rfl) rfl ?_) | (refine Gt.add ?_; refine RW.y (Y.add64 rfl rfl (by omega) (by omega)) rfl ?_))
          exact ⟨wl.length - (n + 1), _, rfl, rfl, rfl, by omega, n + 1, v', bacc ++ b, rfl, rfl, by omega, by rw [List.length_append]; omega, hrw, hbi', (hkv.trans0 hk5).trans hk6 fun g hg => .inr (hbi.own g hg).1⟩
      · have hn : n = wl.length := by omega
        subst hn
        rw [List.drop_length, rdW] at hrw
        rw [hlB, hrw] at hrd
        have hb5v := hkv.at0 (hkz.at0 hb5y)
        obtain ⟨xs, hslq⟩ := hoi.sl
        have hq1 := hslq.one
        have hoiv := (hoi.keep hkz fun _ _ _ c => c).keep hkv fun _ _ _ c => c
        repeat' (first | (refine CL.seq ?_) | (refine CL.region ?_) | (refine CL.condP rfl (fun _ => ?_) (fun _ => ?_) <;> try (exfalso; omega)) | (refine CL.exit ?_) | (refine Ex.then ?_) | (refine Ex.hit ?_) | (refine Gt.nil ?_; refine RW.nilw [0, 2, 3, 4, 5, 6, 7, 8, 9, 10, 11, 12, 13, 14, 25, 30, 51, 65, 70, 85, 90, 102] ?_; dsimp only [H.keep, H.look, H.Fr.put, Nat.beq]) | (refine Gt.move ?_; refine RW.y (Y.move rfl) rfl ?_) | (refine Gt.len ?_; (refine RW.y (Y.lenx rfl (by assumption)) rfl ?_)) | (refine Gt.load ?_; (refine RW.y (Y.loadB rfl (by assumption) rfl) rfl ?_)) | (refine Gt.lss ?_; refine RW.y (Y.lss rfl rfl) rfl ?_) | (refine Gt.fieldAddr ?_; refine RW.y (Y.fieldAddr rfl (by rfl)) rfl ?_))
        refine RW.appO rfl rfl rfl rfl rfl hoiv hbi.new (fun g hg => by have := (hoi.own g hg).2; omega) (by omega) (by omega) (by decide) (by omega) (fun q' w6 hoi' hk6 hl6 => ?_)
        have hqr : ¬ q.ownBlock = some wr.heap.size := fun c => by have := (hoi.own _ c).1; omega
        have hqw : ¬ q.ownBlock = some w.heap.size := fun c => by have := (hoi.own _ c).1; omega
        have hb56 := hk6.at hb5v hqr
        obtain ⟨xs', hslq'⟩ := hoi'.sl
        repeat' ((refine Gt.fieldAddr ?_; refine RW.y (Y.fieldAddr rfl (by rfl)) rfl ?_))
        refine RW.storeB rfl rfl hslq'.one hb56 (show (_ : Nat) < 2 from by decide) (fun w7 hb7 hk7 => ?_)
        repeat' (first | (refine CL.region ?_) | (refine CL.done ?_) | (refine Nm.block ?_) | (refine Nm.then ?_) | (refine Gt.nil ?_; refine RW.nilw [0, 2, 3, 4, 5, 6, 7, 8, 9, 10, 11, 12, 13, 14, 25, 30, 51, 65, 70, 85, 90, 102] ?_; dsimp only [H.keep, H.look, H.Fr.put, Nat.beq]) | (refine Gt.move ?_; refine RW.y (Y.move rfl) rfl ?_) | (refine Gt.assign ?_; refine RW.y (Y.assign rfl) rfl ?_) | (refine Gt.add ?_; refine RW.y (Y.add64 rfl rfl (by omega) (by omega)) rfl ?_))
        have hz6 := hk6.size
        have hqo : ∀ g, q.ownBlock = some g → wx.heap.size ≤ g := fun g hg => (hoi.own g hg).1
        refine ⟨l.length - (k + 1), _, rfl, rfl, rfl, by omega, k + 1, q', acc ++ [bacc], rfl, rfl, by omega, by simp; omega, hrd, hoi'.keep hk7 fun g h1 _ c => by have c' : g = wr.heap.size := c; omega, hk7.at (hk6.at hbv hqw) (fun c => by have c' : w.heap.size = wr.heap.size := c; omega), hb7, ?_, ?_⟩
        · exact (((hsu.keep0 hkz).keep0 hkv).keep hk6 fun g hg c => by have := hqo g c; have := hux g hg; omega).keep hk7 fun g hg c => by have := hul g hg; have c' : g = wr.heap.size := c; omega
        · exact (((hky.trans0 hkz).trans0 hkv).trans hk6 fun g h => .inr (hqo g h)).trans hk7 fun g h => .inl h
    · have hk : k = l.length := by omega
      subst hk
      rw [List.drop_length, rdL] at hrd
      rw [hrd]
      obtain ⟨xs, hslq⟩ := hoi.sl
      simp only [Option.map_some, spanR]
      repeat' (first | (refine CL.seq ?_) | (refine CL.region ?_) | (refine CL.condP rfl (fun _ => ?_) (fun _ => ?_) <;> try (exfalso; omega)) | (refine CL.exit ?_) | (refine Ex.then ?_) | (refine Ex.hit ?_) | (refine Gt.nil ?_; refine RW.nilw [0, 2, 3, 4, 5, 6, 7, 8, 9, 10, 11, 12, 13, 14, 25, 30, 51, 65, 70, 85, 90, 102] ?_; dsimp only [H.keep, H.look, H.Fr.put, Nat.beq]) | (refine RW.y (Y.loadBlock rfl hb5y rfl) rfl ?_) | (refine Gt.move ?_; refine RW.y (Y.move rfl) rfl ?_) | (refine Gt.len ?_; (refine RW.y (Y.lenx rfl (by assumption)) rfl ?_)) | (refine Gt.lss ?_; refine RW.y (Y.lss rfl rfl) rfl ?_))
      refine RW.storeBlock rfl rfl rfl (spnCells hslq.one) hbry rfl (fun w4 hb4 hk4 => ?_)
      repeat' (first | (refine CL.ret ?_) | (refine Gt.nil ?_; refine RW.nilw [0, 2, 3, 4, 5, 6, 7, 8, 9, 10, 11, 12, 13, 14, 25, 30, 51, 65, 70, 85, 90, 102] ?_; dsimp only [H.keep, H.look, H.Fr.put, Nat.beq]) | (refine Gt.assign ?_; refine RW.y (Y.assign rfl) rfl ?_))
      exact FQ.res (rs := [.cell 2 45, .tmp 3]) (vs := [_, _]) rfl rfl ⟨⟨_, rfl, load_block hb4 rfl⟩, rfl, trivial⟩ rfl (⟨(hK3.trans hky fun k h => .inr (by have h' : k = wr.heap.size := h; omega)).trans hk4 fun k h => .inr (by rw [h]; exact Nat.le_refl _), _, rfl, _, rfl, (hoi.keep hk4 fun g h1 _ c => by have c' : g = w.heap.size := c; omega).new.mono (by omega)⟩)
  rw [if_pos hle] at hsp
  obtain ⟨hji, hsp⟩ := hsp
  have hi2 : ((i : Int) + 2).toNat = i + 2 := by omega
  have hi0 : ((i : Int)).toNat = i := by omega
  have hj0 : ((j : Int)).toNat = j := by omega
  have hstep : ∀ h : i < s.length, ¬ (s.getD i 0 = 124 ∧ (s.drop (i + 1)).take 1 = [124]) → orB s = done ++ ((s.take (i + 1)).drop j ++ (orB (s.drop (i + 1))).headD []) :: (orB (s.drop (i + 1))).tail := by
    intro h hn
    have hdrop : s.drop i = s.getD i 0 :: s.drop (i + 1) := by rw [List.drop_eq_getElem_cons h]; simp [List.getD_eq_getElem?_getD, h]
    have htk : (s.take (i + 1)).drop j = (s.take i).drop j ++ [s.getD i 0] := by
      rw [List.take_succ_eq_append_getElem h, List.drop_append_of_le_length (by rw [List.length_take]; omega)]
      simp [List.getD_eq_getElem?_getD, h]
    rw [hdrop, orB_cons _ _ hn] at hsp
    rw [hsp, htk]
    simp
  have hnbar : ∀ h : i < s.length, ¬ (s.take (i + 2)).drop i = [124, 124] → ¬ (s.getD i 0 = 124 ∧ (s.drop (i + 1)).take 1 = [124]) := by
    intro h hn c
    apply hn
    have hdrop : s.drop i = s.getD i 0 :: s.drop (i + 1) := by rw [List.drop_eq_getElem_cons h]; simp [List.getD_eq_getElem?_getD, h]
    rw [List.drop_take, show i + 2 - i = 2 from by omega, hdrop, List.take_succ_cons, c.1, c.2]
  repeat' (first | (refine CL.seq ?_) | (refine CL.region ?_) | (refine CL.skip ?_) | (refine CL.condP rfl (fun _ => ?_) (fun _ => ?_) <;> try (exfalso; omega)) | (refine CL.condT rfl ?_) | (refine CL.condF rfl ?_) | (refine CL.block ?_) | (refine CL.done ?_) | (refine Nm.block ?_) | (refine Nm.then ?_) | (refine Gt.nil ?_; refine RW.nilw [0, 2, 3, 4, 5, 6, 7, 8, 9, 10, 11, 12, 13, 14, 25, 30, 51, 65, 70, 85, 90, 102] ?_; dsimp only [H.keep, H.look, H.Fr.put, Nat.beq]) | (refine Gt.move ?_; refine RW.y (Y.move rfl) rfl ?_) | (refine Gt.guard ?_; first | (refine RW.part rfl rfl rfl (fun _ => ?_) (fun _ => ?_) <;> try (exfalso; omega)) | (refine RW.on rfl rfl rfl ?_) | (refine RW.off1 rfl rfl rfl rfl rfl ?_) | (refine RW.offu rfl rfl rfl rfl ?_)) | (refine Gt.assign ?_; refine RW.y (Y.assign rfl) rfl ?_) | (refine Gt.add ?_; refine RW.y (Y.add64 rfl rfl (by omega) (by omega)) rfl ?_) | (refine Gt.len ?_; (refine RW.y (Y.lens rfl) rfl ?_)) | (refine Gt.pick ?_; first | (refine RW.y (Y.pickT rfl rfl) rfl ?_) | (refine RW.y (Y.pickF rfl rfl) rfl ?_)) | (refine Gt.lss ?_; refine RW.y (Y.lss rfl rfl) rfl ?_) | (refine Gt.eql ?_; first | (refine RW.y (Y.eqi rfl rfl) rfl ?_) | (refine RW.y (Y.eqs rfl rfl) rfl ?_)) | (refine Gt.slice ?_; refine RW.y (Y.cutlh rfl rfl rfl (by omega) (by omega) (by omega)) rfl ?_) | (refine Gt.leq ?_; refine RW.y (Y.leq rfl rfl) rfl ?_))
  · rename_i h1
    have hil : i = s.length := by omega
    rw [hi0, hj0]
    refine RW.app1 rfl rfl rfl rfl how rfl rfl rfl rfl (one_vs _) (by omega) (by omega) (by omega) (fun u' w4 how' hk' hl' => ?_)
    repeat' (first | (refine CL.seq ?_) | (refine CL.region ?_) | (refine CL.done ?_) | (refine Nm.block ?_) | (refine Nm.then ?_) | (refine Gt.nil ?_; refine RW.nilw [0, 2, 3, 4, 5, 6, 7, 8, 9, 10, 11, 12, 13, 14, 25, 30, 51, 65, 70, 85, 90, 102] ?_; dsimp only [H.keep, H.look, H.Fr.put, Nat.beq]) | (refine Gt.move ?_; refine RW.y (Y.move rfl) rfl ?_) | (refine Gt.assign ?_; refine RW.y (Y.assign rfl) rfl ?_) | (refine Gt.add ?_; refine RW.y (Y.add64 rfl rfl (by omega) (by omega)) rfl ?_))
    refine ⟨s.length + 2 - (i + 2), _, rfl, rfl, rfl, by omega, i + 2, i + 2, u', done ++ [(s.take i).drop j], ?_, rfl, by omega, by simp; omega, by simpa [Value.cells] using how', hkx.trans hk' fun k h => .inr (how.lt k h).1, ?_⟩
    · rw [show ((i + 2 : Nat) : Int) = (i : Int) + 2 from by omega, show (i : Int) + 1 + 1 = (i : Int) + 2 from by omega]
    · rw [if_neg (by omega), hsp, hil, List.drop_length]; simp [orB]
  · rename_i h1 h2 h3
    rw [hi0, hi2] at h3
    rw [hi0, hj0]
    have h4 := h3
    rw [List.drop_take, show i + 2 - i = 2 from by omega] at h4
    have hd2 : s.drop i = 124 :: 124 :: s.drop (i + 2) := by
      have := List.take_append_drop 2 (s.drop i)
      rw [h4, List.drop_drop] at this
      exact this.symm
    rw [hd2, orB_bars] at hsp
    have hlen2 : i + 2 ≤ s.length := by have := congrArg List.length hd2; simp at this; omega
    have hpad2 : orB (s.drop (i + 2)) = (orB (s.drop (i + 2))).headD [] :: (orB (s.drop (i + 2))).tail := by
      cases h : orB (s.drop (i + 2)) with
      | nil => exact absurd h (orB_ne _)
      | cons a r => rfl
    refine RW.app1 rfl rfl rfl rfl how rfl rfl rfl rfl (one_vs _) (by omega) (by omega) (by omega) (fun u' w4 how' hk' hl' => ?_)
    repeat' (first | (refine CL.seq ?_) | (refine CL.region ?_) | (refine CL.done ?_) | (refine Nm.block ?_) | (refine Nm.then ?_) | (refine Gt.nil ?_; refine RW.nilw [0, 2, 3, 4, 5, 6, 7, 8, 9, 10, 11, 12, 13, 14, 25, 30, 51, 65, 70, 85, 90, 102] ?_; dsimp only [H.keep, H.look, H.Fr.put, Nat.beq]) | (refine Gt.move ?_; refine RW.y (Y.move rfl) rfl ?_) | (refine Gt.assign ?_; refine RW.y (Y.assign rfl) rfl ?_) | (refine Gt.add ?_; refine RW.y (Y.add64 rfl rfl (by omega) (by omega)) rfl ?_))
    refine ⟨s.length + 2 - (i + 2), _, rfl, rfl, rfl, by omega, i + 2, i + 2, u', done ++ [(s.take i).drop j], ?_, rfl, by omega, by simp; omega, by simpa [Value.cells] using how', hkx.trans hk' fun k h => .inr (how.lt k h).1, ?_⟩
    · rw [show ((i + 2 : Nat) : Int) = (i : Int) + 2 from by omega, show (i : Int) + 1 + 1 = (i : Int) + 2 from by omega]
    · rw [if_pos hlen2]
      refine ⟨Nat.le_refl _, ?_⟩
      have hnil : (s.take (i + 2)).drop (i + 2) = [] := by rw [List.drop_eq_nil_iff, List.length_take]; omega
      rw [hnil, List.nil_append, ← hpad2, hsp]
      simp
  · rename_i h1 h2 h3
    rw [hi0, hi2] at h3
    have hlt : i < s.length := by omega
    exact ⟨s.length + 2 - (i + 1), _, rfl, rfl, rfl, by omega, i + 1, j, u, done, rfl, rfl, by omega, by omega, how, hkx, by rw [if_pos (by omega)]; exact ⟨by omega, hstep hlt (hnbar hlt h3)⟩⟩
  · rename_i h1 h2
    have hlt : i < s.length := by omega
    have hn : ¬ (s.getD i 0 = 124 ∧ (s.drop (i + 1)).take 1 = [124]) := by
      intro c
      rw [List.drop_eq_nil_of_le (by omega)] at c
      simp at c
    exact ⟨s.length + 2 - (i + 1), _, rfl, rfl, rfl, by omega, i + 1, j, u, done, rfl, rfl, by omega, by omega, how, hkx, by rw [if_pos (by omega)]; exact ⟨by omega, hstep hlt hn⟩⟩
end Go.Proofs.YtjlkmdmpejpmpaaGreatDoor.Sp

namespace Go.Proofs.YtjlkmdmpejpmpaaGreatDoor.Sp
open Go.RowKit H S Ve
attribute [local irreducible] H.CL H.RW H.CW H.Yd H.thenK H.blockQ Go.Calls

def BdAt (w : World) (X : Value) (b : Bd) : Prop := ∃ p, X = .agg #[vs b.sign, .int .i64 b.v.a, .int .i64 b.v.b, .int .i64 b.v.c, p] ∧ Sl w 1 p b.v.pre.length (sv b.v.pre)
end Go.Proofs.YtjlkmdmpejpmpaaGreatDoor.Sp

namespace Go.Proofs.YtjlkmdmpejpmpaaGreatDoor.Sp
open Go.RowKit H S Ve
attribute [local irreducible] H.CL H.RW H.CW H.Yd H.thenK H.blockQ Go.Calls

/-- The version that a closure has caught. -/
def Caught (w : World) (g : Nat) (x : Ver) : Prop := ∃ q, w.heap[g]? = some (.cells #[.int .i64 x.a, .int .i64 x.b, .int .i64 x.c, q] verT (0, 0)) ∧ Sl w 1 q x.pre.length (sv x.pre)
end Go.Proofs.YtjlkmdmpejpmpaaGreatDoor.Sp

namespace Go.Proofs.YtjlkmdmpejpmpaaGreatDoor.Sp
open Go.RowKit H S Ve
attribute [local irreducible] H.CL H.RW H.CW H.Yd H.thenK H.blockQ Go.Calls

/-- A span that fits a machine. -/
def FitS (s : Spn) : Prop := s.or.length ≤ 1000000 ∧ ∀ l ∈ s.or, l.length ≤ 1000000 ∧ ∀ z ∈ l, Fit z.v
end Go.Proofs.YtjlkmdmpejpmpaaGreatDoor.Sp

namespace Go.Proofs.YtjlkmdmpejpmpaaGreatDoor.Sp
open Go.RowKit H S Ve
attribute [local irreducible] H.CL H.RW H.CW H.Yd H.thenK H.blockQ Go.Calls

end Go.Proofs.YtjlkmdmpejpmpaaGreatDoor.Sp

namespace Go.Proofs.YtjlkmdmpejpmpaaGreatDoor.Sp
open Go.RowKit H S Ve
attribute [local irreducible] H.CL H.RW H.CW H.Yd H.thenK H.blockQ Go.Calls

/-- The cells of a version. -/
def verCl (x : Ver × Value) : List Value := [.int .i64 x.1.a, .int .i64 x.1.b, .int .i64 x.1.c, x.2]
/-- Versions in memory. -/
def VersAt (w : World) (v : Value) (l : List Ver) : Prop := ∃ L : List (Ver × Value), L.map (·.1) = l ∧ Sl w 4 v L.length (L.flatMap verCl) ∧ ∀ x ∈ L, Sl w 1 x.2 x.1.pre.length (sv x.1.pre)
end Go.Proofs.YtjlkmdmpejpmpaaGreatDoor.Sp

namespace Go.Proofs.YtjlkmdmpejpmpaaGreatDoor.Sp
open Go.RowKit H S Ve
attribute [local irreducible] H.CL H.RW H.CW H.Yd H.thenK H.blockQ Go.Calls

end Go.Proofs.YtjlkmdmpejpmpaaGreatDoor.Sp

namespace Go.Proofs.YtjlkmdmpejpmpaaGreatDoor.Sp
open Go.RowKit H S Ve
attribute [local irreducible] H.CL H.RW H.CW H.Yd H.thenK H.blockQ Go.Calls

/-- A version, a bound, a span whose texts fit. -/
def FitV (v : Ver) : Prop := (v.pre.length ≤ 10 ∧ ∀ s ∈ v.pre, s.length ≤ 100) ∧ I64 v
def FitT (s : Spn) : Prop := s.or.length ≤ 20 ∧ ∀ l ∈ s.or, l.length ≤ 20 ∧ ∀ b ∈ l, b.sign.length ≤ 10 ∧ FitV b.v
end Go.Proofs.YtjlkmdmpejpmpaaGreatDoor.Sp

namespace Go.Proofs.YtjlkmdmpejpmpaaGreatDoor.Sp
open Go.RowKit H S Ve
attribute [local irreducible] H.CL H.RW H.CW H.Yd H.thenK H.blockQ Go.Calls

end Go.Proofs.YtjlkmdmpejpmpaaGreatDoor.Sp

namespace Go.Proofs.YtjlkmdmpejpmpaaGreatDoor.H
open Go.RowKit

/-- What an iterator that yields the list xs does; T: what it reads besides, and what must hold behind each round. -/
def SeqT {α : Type} (P : Program) (gf : Nat) (cap : List Value) (enc : α → List Value) (S : Nat → Prop) (T : World → Prop) (Pre : World → Prop) (xs : List α) : Prop :=
  ∀ (l : Nat) (J Jx : List α → World → Prop) (W : World), Pre W → Abid S J → Abid S Jx → (∀ pre W, J pre W → T W) →
    (∀ pre x W1, J pre W1 → (pre ++ [x]) <+: xs → YieldAt Fence.wide 0 P l (enc x).toArray W1 fun e W' =>
      (e = .returned (.bool true) ∧ J (pre ++ [x]) W' ∧ Same S W1 W') ∨ (e = .returned (.bool false) ∧ Jx (pre ++ [x]) W')) →
    J [] W → Calls P gf (.func (.yield l) #[] #[] :: cap).toArray W fun e W' => (∃ v, e = .returned v) ∧ (J xs W' ∨ ∃ pre, Jx pre W')
section
variable {P : Program} {Q : Post} {cs : List Code} {f : Fr} {w : World}
theorem CL.rangeFuncT {α : Type} {g : Operand} {ps : List Nat} {assign body : Code} {gf : Nat} {cap : List Value} {enc : α → List Value} {S : Nat → Prop} {T : World → Prop} {Pre : World → Prop} {xs : List α} [he : Ent P gf]
    (hg : f.ev g = some (.func (.func gf) #[] cap.toArray)) (hseq : SeqT P gf cap enc S T Pre xs) (hpre : ∀ W, K0 w W → Pre W) (hps : ∀ x, (enc x).length = ps.length) (hpn : ∀ p ∈ ps, Nat.blt p f.n = true)
    (hS : ∀ k, S k → k < w.heap.size) (I : List α → World → Prop) (Ix : Option Nat → List α → World → Prop)
    (hI : Abid (fun k => S k ∨ k = w.heap.size ∨ k = w.heap.size + 1) I) (hIx : ∀ c, Abid (fun k => S k ∨ k = w.heap.size ∨ k = w.heap.size + 1) (Ix c)) (h0 : I [] w) (hT : ∀ pre W, I pre W → T W)
    (hround : ∀ l pre x W, I pre W → (pre ++ [x]) <+: xs → w.heap.size + 2 ≤ W.heap.size →
      CL (some (some l)) P (thenK (fun f1 W1 => W1 = W ∧ ∀ W2, I pre W2 → w.heap.size + 2 ≤ W2.heap.size → CL (some (some l)) P (RQ (fun k => S k ∨ k = w.heap.size ∨ k = w.heap.size + 1) I Ix (pre ++ [x]) W2) [body] f1 W2) (fun _ _ _ => False)) [assign] (Fr.puts ⟨f.n, [], f.e⟩ ps (enc x)) W)
    (hdone : ∀ W, I xs W → W.heap[w.heap.size]? = some (.deferred (some [])) → CL none P Q cs ⟨f.n, markOf w.heap.size :: f.ds, f.e⟩ W)
    (hstop : ∀ c pre W, Ix c pre W → W.heap[w.heap.size]? = some (.deferred (some [])) → match c with
      | none => Q .ret ⟨f.n, markOf w.heap.size :: f.ds, f.e⟩ W
      | some k => Q (.exit k) ⟨f.n, markOf w.heap.size :: f.ds, f.e⟩ W) :
    CL none P Q (.rangeFunc g ps.toArray assign body :: cs) f w := by
  intro a ha
  show Code.wp P _ _ a w
  refine (wpIn_wide (n := 0)).1 (wpIn_rangeFunc fun fn _ => ?_)
  have ha0 : Ag ⟨f.n, [], f.e⟩ { tmps := a.tmps, defers := [] } := ⟨ha.size, rfl, ha.slot⟩
  have ham : Ag ⟨f.n, markOf w.heap.size :: f.ds, f.e⟩ { a with defers := [markOf w.heap.size] ++ a.defers } := ⟨ha.size, by simp [ha.defers], ha.slot⟩
  have hga := ha.eval hg
  obtain ⟨rec, hrec⟩ : ∃ rec : LoopState → Option Code → Loop, rec = fun st pe => { state := st, pending := pe, fn, tmps := a.tmps, params := ps.toArray, assign, body, defers := w.heap.size } := ⟨_, rfl⟩
  obtain ⟨W1, hW1⟩ : ∃ W1, (w.alloc (.deferred (some []))).alloc (.loop (rec .ready none)) = W1 := ⟨_, rfl⟩
  have hL1 : W1.heap[w.heap.size + 1]? = some (.loop (rec .ready none)) := by
    rw [← hW1]; have := World.alloc_heap_new (w.alloc (.deferred (some []))) (.loop (rec .ready none)); rwa [World.size_alloc] at this
  have hK1 : W1.heap[w.heap.size]? = some (.deferred (some [])) := by
    rw [← hW1]; exact (Below.heap_alloc _ _ _ (by simp)).trans (World.alloc_heap_new w _)
  have hk1 : K0 w W1 := by rw [← hW1]; exact (Kept.alloc w _).trans0 (Kept.alloc _ _)
  have hI1 : I [] W1 := hI _ _ _ h0 hk1.of0
  refine ⟨w.heap.size + 1, [markOf w.heap.size], W1, { target := .fn (.func gf) cap.toArray, args := #[.func (.yield (w.heap.size + 1)) #[] #[]] }, W1, gf,
    #[.func (.yield (w.heap.size + 1)) #[] #[]] ++ cap.toArray, W1, ?_, ?_, ?_, ?_, ?_, ?_⟩
  · rw [← hW1, hrec]; exact run_enterLoop_outer _ _ _ _ _
  · simp only [resolve, hga]
    simp [go_sem]
  · intro _ _; trivial
  · simp [invoke, go_sem, he.out]
  · intro c; simp [Fence.wide] at c
  refine callsIn_wide.2 ?_
  have hargs : #[.func (.yield (w.heap.size + 1)) #[] #[]] ++ cap.toArray = (Value.func (.yield (w.heap.size + 1)) #[] #[] :: cap).toArray := by simp
  rw [hargs]
  have hput : ∀ {k : Nat}, k = w.heap.size + 1 → S k ∨ k = w.heap.size ∨ k = w.heap.size + 1 := fun h => .inr (.inr h)
  refine Calls.mono (hseq (w.heap.size + 1)
    (fun pre W => I pre W ∧ W.heap[w.heap.size + 1]? = some (.loop (rec .ready none)) ∧ W.heap[w.heap.size]? = some (.deferred (some [])))
    (fun pre W => ∃ c, Ix c pre W ∧ W.heap[w.heap.size + 1]? = some (.loop (rec .done (some (jumpOf c)))) ∧ W.heap[w.heap.size]? = some (.deferred (some [])))
    W1 (hpre _ hk1) ?_ ?_ (fun pre W h => hT pre W h.1) ?_ ⟨hI1, hL1, hK1⟩) ?_
  · rintro s A B ⟨h1, h2, h3⟩ hk
    exact ⟨hI _ _ _ h1 (hk.mono fun k h => .inl h), hk.at h2 (fun c => by have := hS _ c; omega), hk.at h3 (fun c => by have := hS _ c; omega)⟩
  · rintro s A B ⟨c, h1, h2, h3⟩ hk
    exact ⟨c, hIx _ _ _ _ h1 (hk.mono fun k h => .inl h), hk.at h2 (fun c => by have := hS _ c; omega), hk.at h3 (fun c => by have := hS _ c; omega)⟩
  · -- one round
    rintro pre x W ⟨hi, hl, hk⟩ hpf
    have hlt : w.heap.size + 1 < W.heap.size := (Array.getElem?_eq_some_iff.1 hl).1
    have hy := run_yield (P := P) (args := (enc x).toArray) hl (by rw [hrec]; simp [hps x])
    rw [hrec] at hy
    refine ⟨fn, _, assign, body, hy, roundIn_of_wpIn trivial ?_⟩
    have hag := Ag.puts ps (enc x) ha0 hpn
    have hw := CL.one (hround (w.heap.size + 1) pre x W hi hpf hlt) _ hag
    have hin : Rd1 (some (w.heap.size + 1)) = Fence.wide.inRound (w.heap.size + 1) := rfl
    have htm : (ps.toArray.zip (enc x).toArray).foldl (fun tmps (x : Tmp × Value) => match x with | (t, a) => tmps.setIfInBounds t a) a.tmps = (ps.zip (enc x)).foldl (fun t (x : Nat × Value) => t.setIfInBounds x.1 x.2) a.tmps := by
      rw [List.zip_toArray, List.foldl_toArray]
    rw [htm]
    refine wpIn_mono (show Code.wpIn (Fence.wide.inRound (w.heap.size + 1)) 0 P assign _ _ W from hw) ?_
    rintro e a1 W' ⟨f1, hf1, q⟩
    cases e with
    | normal =>
      obtain ⟨rfl, q⟩ := q
      refine ⟨_, run_beginRound hl (by rw [hrec]), ?_⟩
      obtain ⟨W2, hW2⟩ : ∃ W2, W'.putObj (w.heap.size + 1) (.loop { rec .ready none with state := .busy }) = W2 := ⟨_, rfl⟩
      have hl2 : W2.heap[w.heap.size + 1]? = some (.loop { rec .ready none with state := .busy }) := by rw [← hW2]; exact World.putObj_heap_same hlt
      have hk2 : W2.heap[w.heap.size]? = some (.deferred (some [])) := by rw [← hW2]; exact (World.putObj_heap_other (by omega)).trans hk
      have hkp2 : Kept (fun k => k = w.heap.size + 1) W' W2 := by rw [← hW2]; exact kept_putObj _ _ _
      have hi2 := hI _ _ _ hi (hkp2.mono fun k h => hput h)
      rw [hW2]
      have hb := CL.one (q W2 hi2 (by have := hkp2.size; omega)) a1 hf1
      refine wpIn_mono (show Code.wpIn (Fence.wide.inRound (w.heap.size + 1)) 0 P body _ _ W2 from hb) ?_
      have fin : ∀ (jump : Option Code) (W3 : World), Same (fun k => S k ∨ k = w.heap.size ∨ k = w.heap.size + 1) W2 W3 →
          ∃ W4, (Instr.endRound (w.heap.size + 1) jump).run P W3 = .ok (.bool jump.isNone) W4 ∧ Kept (fun k => k = w.heap.size + 1) W3 W4 ∧
          W4.heap[w.heap.size + 1]? = some (.loop (rec (if jump.isNone then .ready else .done) jump)) ∧ W4.heap[w.heap.size]? = some (.deferred (some [])) ∧ Same S W' W4 := fun jump W3 hs3 => by
        have hl3 := (hs3.2 _ (.inr (.inr rfl))).trans hl2
        have hk3 := (hs3.2 _ (.inr (.inl rfl))).trans hk2
        have := run_endRound (P := P) jump hl3
        rw [hrec] at this ⊢
        refine ⟨_, this, kept_putObj _ _ _, World.putObj_heap_same (Array.getElem?_eq_some_iff.1 hl3).1, (World.putObj_heap_other (by omega)).trans hk3, ?_⟩
        have hne : ∀ k, S k → k ≠ w.heap.size + 1 := fun k hk => by have := hS k hk; omega
        refine ⟨by have h1 := hkp2.size; have h2 := hs3.1; simp; omega, fun k hk => ?_⟩
        rw [World.putObj_heap_other (hne k hk), hs3.2 k (.inl hk), ← hW2, World.putObj_heap_other (hne k hk)]
      rintro e a3 W3 ⟨f3, hf3, hp⟩
      cases e with
      | normal =>
        obtain ⟨hs3, hi3⟩ := hp
        obtain ⟨W4, hr, hk4, hl4, hd4, hs4⟩ := fin none W3 hs3
        exact ⟨_, _, hr, .inl ⟨rfl, ⟨hI _ _ _ hi3 (hk4.mono fun k h => hput h), hl4, hd4⟩, hs4⟩⟩
      | ret =>
        obtain ⟨hs3, hi3⟩ := hp
        obtain ⟨W4, hr, hk4, hl4, hd4, hs4⟩ := fin (some .ret) W3 hs3
        exact ⟨_, _, hr, .inr ⟨rfl, none, hIx _ _ _ _ hi3 (hk4.mono fun k h => hput h), hl4, hd4⟩⟩
      | exit k =>
        obtain ⟨hs3, hi3⟩ := hp
        obtain ⟨W4, hr, hk4, hl4, hd4, hs4⟩ := fin (some (.exit k)) W3 hs3
        exact ⟨_, _, hr, .inr ⟨rfl, some k, hIx _ _ _ _ hi3 (hk4.mono fun k h => hput h), hl4, hd4⟩⟩
      | goto t => exact hp.elim
      | panic ch => exact hp.elim
      | outgrown => exact hp.elim
    | _ => exact q.elim
  · -- behind the iterator
    rintro e W2 ⟨⟨v, rfl⟩, (⟨hi, hl, hk⟩ | ⟨pre, c, hi, hl, hk⟩)⟩
    · have hend := run_endLoop (P := P) hl (by rw [hrec]; simp)
      rw [hrec] at hend
      exact ⟨none, _, hend, ⟨_, ham, hdone _ (hI _ _ _ hi ((kept_putObj _ _ _).mono fun k h => hput h)) ((World.putObj_heap_other (by omega)).trans hk)⟩⟩
    · have hend : (Instr.endLoop (w.heap.size + 1)).run P W2 = .ok (some (jumpOf c)) (W2.putObj (w.heap.size + 1) (.loop { rec .done (some (jumpOf c)) with state := .exhausted })) := by
        have := run_endLoop (P := P) hl (by rw [hrec]; simp)
        rw [this, hrec]
      have hIx4 := hIx c _ _ _ hi ((kept_putObj W2 (w.heap.size + 1) (.loop { rec .done (some (jumpOf c)) with state := .exhausted })).mono fun k h => hput h)
      have hd4 : (W2.putObj (w.heap.size + 1) (.loop { rec .done (some (jumpOf c)) with state := .exhausted })).heap[w.heap.size]? = some (.deferred (some [])) := (World.putObj_heap_other (by omega)).trans hk
      have hs := hstop c pre _ hIx4 hd4
      refine ⟨some (jumpOf c), _, hend, ?_⟩
      cases c with
      | none => exact wpIn_ret ⟨_, ham, hs⟩
      | some k => exact wpIn_exit ⟨_, ham, hs⟩

end
end Go.Proofs.YtjlkmdmpejpmpaaGreatDoor.H

namespace Go.Proofs.YtjlkmdmpejpmpaaGreatDoor.S
open Go.RowKit H
attribute [local irreducible] H.CL H.RW H.CW H.Yd H.thenK H.blockQ Go.Calls

set_option maxHeartbeats 1000000 in
theorem splitIt2T (l : List UInt8) (hl : l.length ≤ 1000000) (bs bt bv : Nat) (h1 : bt ≠ bs) (h2 : bt ≠ bv) :
    SeqT Tryz.prog 140 [.pointer (some ⟨bs, 0, none⟩), .pointer (some ⟨bt, 0, none⟩), .pointer (some ⟨bv, 0, none⟩)] (fun x : List UInt8 => [vs x]) (fun k => k = bs ∨ k = bt ∨ k = bv) Ml (Sp2 l bs bt bv) (Sp.orB l) := by
  intro r J Jx W hpre hJ hJx hJT hy h0
  obtain ⟨hbs, hbt, hbv, hM⟩ := hpre
  have hc2 : ([124, 124] : List UInt8).length = 2 := rfl
  have hcs : ∀ {k}, k = bt → k = bs ∨ k = bt ∨ k = bv := fun h => .inr (.inl h)
  refine H.enterI Tryz.func140 Tryz.ntmps140 rfl rfl ?_; dsimp only [H.args]
  repeat' (first | (refine CL.seq ?_) | (refine CL.region ?_) | (refine CL.skip ?_) | (refine CL.condP rfl (fun _ => ?_) (fun _ => ?_) <;> try (exfalso; omega)) | (refine CL.condT rfl ?_) | (refine CL.condF rfl ?_) | (refine CL.cond rfl (fun _ => ?_) (fun _ => ?_)) | (refine CL.block ?_) | (refine CL.exit ?_) | (refine Ex.then ?_) | (refine Ex.hit ?_) | (refine Ex.miss rfl ?_) | (refine CL.ret ?_) | (refine Rt.then ?_) | (refine Rt.block ?_) | (refine Pn.then ?_) | (refine Pn.block ?_) | (refine CL.done ?_) | (refine Nm.block ?_) | (refine Nm.then ?_) | (refine Gt.nil ?_; refine RW.nilw [0, 1, 2, 3, 6, 7, 8, 11, 14, 25, 33, 42] ?_; dsimp only [H.keep, H.look, H.Fr.put, Nat.beq]) | (refine Gt.load ?_; refine RW.y (Y.loadB rfl (by assumption) rfl) rfl ?_) | (refine Gt.move ?_; refine RW.y (Y.move rfl) rfl ?_) | (refine Gt.assign ?_; refine RW.y (Y.assign rfl) rfl ?_) | (refine Gt.len ?_; refine RW.y (Y.lens rfl) rfl ?_) | (refine Gt.extract ?_; refine RW.y (Y.extract rfl rfl) rfl ?_) | (refine Gt.slice ?_; first | (refine RW.y (Y.cuth rfl rfl (by omega) (by omega)) rfl ?_) | (refine RW.y (Y.cutl rfl rfl (by omega) (by omega)) rfl ?_)) | (refine Gt.not ?_; first | (refine RW.y (Y.not rfl) rfl ?_) | (refine RW.y (Y.notb rfl) rfl ?_)) | (refine Gt.add ?_; refine RW.y (Y.add64 rfl rfl (by omega) (by omega)) rfl ?_) | (refine Gt.eql ?_; refine RW.y (Y.eqi rfl rfl) rfl ?_) | (refine Gt.gtr ?_; refine RW.y (Y.gtr rfl rfl) rfl ?_) | (refine Gt.lss ?_; refine RW.y (Y.lss rfl rfl) rfl ?_))
  refine CL.loopS [0, 1, 2, 3] (fun m vals wr => ∃ (done : List (List UInt8)) (rest : List UInt8), vals = [.func (.yield r) #[] #[], .pointer (some ⟨bs, 0, none⟩), .pointer (some ⟨bt, 0, none⟩), .pointer (some ⟨bv, 0, none⟩)] ∧ m = rest.length ∧ Sp.orB l = done ++ Sp.orB rest ∧ rest.length ≤ l.length ∧ J done wr ∧ Sp2 rest bs bt bv wr) l.length ⟨_, rfl, [], l, rfl, rfl, rfl, Nat.le_refl _, h0, hbs, hbt, hbv, hM⟩ ?_
  rintro m vals wr ⟨done, rest, rfl, rfl, hsp, hrl, hJ1, hbs1, hbt1, hbv1, hM1⟩
  dsimp only [List.zip, List.zipWith]
  repeat' (first | (refine CL.seq ?_) | (refine CL.region ?_) | (refine CL.skip ?_) | (refine CL.condP rfl (fun _ => ?_) (fun _ => ?_) <;> try (exfalso; omega)) | (refine CL.condT rfl ?_) | (refine CL.condF rfl ?_) | (refine CL.cond rfl (fun _ => ?_) (fun _ => ?_)) | (refine CL.block ?_) | (refine CL.exit ?_) | (refine Ex.then ?_) | (refine Ex.hit ?_) | (refine Ex.miss rfl ?_) | (refine CL.ret ?_) | (refine Rt.then ?_) | (refine Rt.block ?_) | (refine Pn.then ?_) | (refine Pn.block ?_) | (refine CL.done ?_) | (refine Nm.block ?_) | (refine Nm.then ?_) | (refine Gt.nil ?_; refine RW.nilw [0, 1, 2, 3, 6, 7, 8, 11, 14, 25, 33, 42] ?_; dsimp only [H.keep, H.look, H.Fr.put, Nat.beq]) | (refine Gt.load ?_; refine RW.y (Y.loadB rfl (by assumption) rfl) rfl ?_) | (refine Gt.move ?_; refine RW.y (Y.move rfl) rfl ?_) | (refine Gt.assign ?_; refine RW.y (Y.assign rfl) rfl ?_) | (refine Gt.len ?_; refine RW.y (Y.lens rfl) rfl ?_) | (refine Gt.extract ?_; refine RW.y (Y.extract rfl rfl) rfl ?_) | (refine Gt.slice ?_; first | (refine RW.y (Y.cuth rfl rfl (by omega) (by omega)) rfl ?_) | (refine RW.y (Y.cutl rfl rfl (by omega) (by omega)) rfl ?_)) | (refine Gt.not ?_; first | (refine RW.y (Y.not rfl) rfl ?_) | (refine RW.y (Y.notb rfl) rfl ?_)) | (refine Gt.add ?_; refine RW.y (Y.add64 rfl rfl (by omega) (by omega)) rfl ?_) | (refine Gt.eql ?_; refine RW.y (Y.eqi rfl rfl) rfl ?_) | (refine Gt.gtr ?_; refine RW.y (Y.gtr rfl rfl) rfl ?_) | (refine Gt.lss ?_; refine RW.y (Y.lss rfl rfl) rfl ?_))
  refine RW.fn rfl rfl ((index2 rest (by omega) wr hM1).mono ?_)
  rintro e w1 ⟨rfl, rfl⟩
  rcases Sp.orB_index rest with ⟨hi, hs⟩ | ⟨m, hi, hm, hs⟩
  · rw [hi]
    repeat' (first | (refine CL.seq ?_) | (refine CL.region ?_) | (refine CL.skip ?_) | (refine CL.condP rfl (fun _ => ?_) (fun _ => ?_) <;> try (exfalso; omega)) | (refine CL.condT rfl ?_) | (refine CL.condF rfl ?_) | (refine CL.cond rfl (fun _ => ?_) (fun _ => ?_)) | (refine CL.block ?_) | (refine CL.exit ?_) | (refine Ex.then ?_) | (refine Ex.hit ?_) | (refine Ex.miss rfl ?_) | (refine CL.ret ?_) | (refine Rt.then ?_) | (refine Rt.block ?_) | (refine Pn.then ?_) | (refine Pn.block ?_) | (refine CL.done ?_) | (refine Nm.block ?_) | (refine Nm.then ?_) | (refine Gt.nil ?_; refine RW.nilw [0, 1, 2, 3, 6, 7, 8, 11, 14, 25, 33, 42] ?_; dsimp only [H.keep, H.look, H.Fr.put, Nat.beq]) | (refine Gt.load ?_; refine RW.y (Y.loadB rfl (by assumption) rfl) rfl ?_) | (refine Gt.move ?_; refine RW.y (Y.move rfl) rfl ?_) | (refine Gt.assign ?_; refine RW.y (Y.assign rfl) rfl ?_) | (refine Gt.len ?_; refine RW.y (Y.lens rfl) rfl ?_) | (refine Gt.extract ?_; refine RW.y (Y.extract rfl rfl) rfl ?_) | (refine Gt.slice ?_; first | (refine RW.y (Y.cuth rfl rfl (by omega) (by omega)) rfl ?_) | (refine RW.y (Y.cutl rfl rfl (by omega) (by omega)) rfl ?_)) | (refine Gt.not ?_; first | (refine RW.y (Y.not rfl) rfl ?_) | (refine RW.y (Y.notb rfl) rfl ?_)) | (refine Gt.add ?_; refine RW.y (Y.add64 rfl rfl (by omega) (by omega)) rfl ?_) | (refine Gt.eql ?_; refine RW.y (Y.eqi rfl rfl) rfl ?_) | (refine Gt.gtr ?_; refine RW.y (Y.gtr rfl rfl) rfl ?_) | (refine Gt.lss ?_; refine RW.y (Y.lss rfl rfl) rfl ?_))
    refine RW.yield rfl rfl rfl (hy done rest wr hJ1 ?_) ?_
    · rw [hsp, hs]; exact List.prefix_rfl
    rw [hs] at hsp
    rintro e w2 (⟨rfl, hJ2, hs2⟩ | ⟨rfl, hJx2⟩)
    · repeat' (first | (refine CL.seq ?_) | (refine CL.region ?_) | (refine CL.skip ?_) | (refine CL.condP rfl (fun _ => ?_) (fun _ => ?_) <;> try (exfalso; omega)) | (refine CL.condT rfl ?_) | (refine CL.condF rfl ?_) | (refine CL.cond rfl (fun _ => ?_) (fun _ => ?_)) | (refine CL.block ?_) | (refine CL.exit ?_) | (refine Ex.then ?_) | (refine Ex.hit ?_) | (refine Ex.miss rfl ?_) | (refine CL.ret ?_) | (refine Rt.then ?_) | (refine Rt.block ?_) | (refine Pn.then ?_) | (refine Pn.block ?_) | (refine CL.done ?_) | (refine Nm.block ?_) | (refine Nm.then ?_) | (refine Gt.nil ?_; refine RW.nilw [0, 1, 2, 3, 6, 7, 8, 11, 14, 25, 33, 42] ?_; dsimp only [H.keep, H.look, H.Fr.put, Nat.beq]) | (refine Gt.load ?_; refine RW.y (Y.loadB rfl (by assumption) rfl) rfl ?_) | (refine Gt.move ?_; refine RW.y (Y.move rfl) rfl ?_) | (refine Gt.assign ?_; refine RW.y (Y.assign rfl) rfl ?_) | (refine Gt.len ?_; refine RW.y (Y.lens rfl) rfl ?_) | (refine Gt.extract ?_; refine RW.y (Y.extract rfl rfl) rfl ?_) | (refine Gt.slice ?_; first | (refine RW.y (Y.cuth rfl rfl (by omega) (by omega)) rfl ?_) | (refine RW.y (Y.cutl rfl rfl (by omega) (by omega)) rfl ?_)) | (refine Gt.not ?_; first | (refine RW.y (Y.not rfl) rfl ?_) | (refine RW.y (Y.notb rfl) rfl ?_)) | (refine Gt.add ?_; refine RW.y (Y.add64 rfl rfl (by omega) (by omega)) rfl ?_) | (refine Gt.eql ?_; refine RW.y (Y.eqi rfl rfl) rfl ?_) | (refine Gt.gtr ?_; refine RW.y (Y.gtr rfl rfl) rfl ?_) | (refine Gt.lss ?_; refine RW.y (Y.lss rfl rfl) rfl ?_))
      exact FQ.norm (FQ.none rfl rfl ⟨⟨_, rfl⟩, .inl (by rw [hsp]; exact hJ2)⟩)
    · repeat' (first | (refine CL.seq ?_) | (refine CL.region ?_) | (refine CL.skip ?_) | (refine CL.condP rfl (fun _ => ?_) (fun _ => ?_) <;> try (exfalso; omega)) | (refine CL.condT rfl ?_) | (refine CL.condF rfl ?_) | (refine CL.cond rfl (fun _ => ?_) (fun _ => ?_)) | (refine CL.block ?_) | (refine CL.exit ?_) | (refine Ex.then ?_) | (refine Ex.hit ?_) | (refine Ex.miss rfl ?_) | (refine CL.ret ?_) | (refine Rt.then ?_) | (refine Rt.block ?_) | (refine Pn.then ?_) | (refine Pn.block ?_) | (refine CL.done ?_) | (refine Nm.block ?_) | (refine Nm.then ?_) | (refine Gt.nil ?_; refine RW.nilw [0, 1, 2, 3, 6, 7, 8, 11, 14, 25, 33, 42] ?_; dsimp only [H.keep, H.look, H.Fr.put, Nat.beq]) | (refine Gt.load ?_; refine RW.y (Y.loadB rfl (by assumption) rfl) rfl ?_) | (refine Gt.move ?_; refine RW.y (Y.move rfl) rfl ?_) | (refine Gt.assign ?_; refine RW.y (Y.assign rfl) rfl ?_) | (refine Gt.len ?_; refine RW.y (Y.lens rfl) rfl ?_) | (refine Gt.extract ?_; refine RW.y (Y.extract rfl rfl) rfl ?_) | (refine Gt.slice ?_; first | (refine RW.y (Y.cuth rfl rfl (by omega) (by omega)) rfl ?_) | (refine RW.y (Y.cutl rfl rfl (by omega) (by omega)) rfl ?_)) | (refine Gt.not ?_; first | (refine RW.y (Y.not rfl) rfl ?_) | (refine RW.y (Y.notb rfl) rfl ?_)) | (refine Gt.add ?_; refine RW.y (Y.add64 rfl rfl (by omega) (by omega)) rfl ?_) | (refine Gt.eql ?_; refine RW.y (Y.eqi rfl rfl) rfl ?_) | (refine Gt.gtr ?_; refine RW.y (Y.gtr rfl rfl) rfl ?_) | (refine Gt.lss ?_; refine RW.y (Y.lss rfl rfl) rfl ?_))
      exact FQ.norm (FQ.none rfl rfl ⟨⟨_, rfl⟩, .inr ⟨_, hJx2⟩⟩)
  · rw [hi]
    repeat' (first | (refine CL.seq ?_) | (refine CL.region ?_) | (refine CL.skip ?_) | (refine CL.condP rfl (fun _ => ?_) (fun _ => ?_) <;> try (exfalso; omega)) | (refine CL.condT rfl ?_) | (refine CL.condF rfl ?_) | (refine CL.cond rfl (fun _ => ?_) (fun _ => ?_)) | (refine CL.block ?_) | (refine CL.exit ?_) | (refine Ex.then ?_) | (refine Ex.hit ?_) | (refine Ex.miss rfl ?_) | (refine CL.ret ?_) | (refine Rt.then ?_) | (refine Rt.block ?_) | (refine Pn.then ?_) | (refine Pn.block ?_) | (refine CL.done ?_) | (refine Nm.block ?_) | (refine Nm.then ?_) | (refine Gt.nil ?_; refine RW.nilw [0, 1, 2, 3, 6, 7, 8, 11, 14, 25, 33, 42] ?_; dsimp only [H.keep, H.look, H.Fr.put, Nat.beq]) | (refine Gt.load ?_; refine RW.y (Y.loadB rfl (by assumption) rfl) rfl ?_) | (refine Gt.move ?_; refine RW.y (Y.move rfl) rfl ?_) | (refine Gt.assign ?_; refine RW.y (Y.assign rfl) rfl ?_) | (refine Gt.len ?_; refine RW.y (Y.lens rfl) rfl ?_) | (refine Gt.extract ?_; refine RW.y (Y.extract rfl rfl) rfl ?_) | (refine Gt.slice ?_; first | (refine RW.y (Y.cuth rfl rfl (by omega) (by omega)) rfl ?_) | (refine RW.y (Y.cutl rfl rfl (by omega) (by omega)) rfl ?_)) | (refine Gt.not ?_; first | (refine RW.y (Y.not rfl) rfl ?_) | (refine RW.y (Y.notb rfl) rfl ?_)) | (refine Gt.add ?_; refine RW.y (Y.add64 rfl rfl (by omega) (by omega)) rfl ?_) | (refine Gt.eql ?_; refine RW.y (Y.eqi rfl rfl) rfl ?_) | (refine Gt.gtr ?_; refine RW.y (Y.gtr rfl rfl) rfl ?_) | (refine Gt.lss ?_; refine RW.y (Y.lss rfl rfl) rfl ?_))
    have hn1 : ((m : Int) + 0).toNat = m := by omega
    rw [hn1]
    refine RW.yield rfl rfl rfl (hy done (rest.take m) wr hJ1 ?_) ?_
    · rw [hsp, hs]; exact ⟨Sp.orB (rest.drop (m + 2)), by simp⟩
    rintro e w2 (⟨rfl, hJ2, hs2⟩ | ⟨rfl, hJx2⟩)
    · have hbs2 := (hs2.2 bs (.inl rfl)).trans hbs1
      have hbt2 := (hs2.2 bt (.inr (.inl rfl))).trans hbt1
      have hbv2 := (hs2.2 bv (.inr (.inr rfl))).trans hbv1
      have hM2 : Ml w2 := hJT _ _ hJ2
      repeat' (first | (refine CL.seq ?_) | (refine CL.region ?_) | (refine CL.skip ?_) | (refine CL.condP rfl (fun _ => ?_) (fun _ => ?_) <;> try (exfalso; omega)) | (refine CL.condT rfl ?_) | (refine CL.condF rfl ?_) | (refine CL.cond rfl (fun _ => ?_) (fun _ => ?_)) | (refine CL.block ?_) | (refine CL.exit ?_) | (refine Ex.then ?_) | (refine Ex.hit ?_) | (refine Ex.miss rfl ?_) | (refine CL.ret ?_) | (refine Rt.then ?_) | (refine Rt.block ?_) | (refine Pn.then ?_) | (refine Pn.block ?_) | (refine CL.done ?_) | (refine Nm.block ?_) | (refine Nm.then ?_) | (refine Gt.nil ?_; refine RW.nilw [0, 1, 2, 3, 6, 7, 8, 11, 14, 25, 33, 42] ?_; dsimp only [H.keep, H.look, H.Fr.put, Nat.beq]) | (refine Gt.load ?_; refine RW.y (Y.loadB rfl (by assumption) rfl) rfl ?_) | (refine Gt.move ?_; refine RW.y (Y.move rfl) rfl ?_) | (refine Gt.assign ?_; refine RW.y (Y.assign rfl) rfl ?_) | (refine Gt.len ?_; refine RW.y (Y.lens rfl) rfl ?_) | (refine Gt.extract ?_; refine RW.y (Y.extract rfl rfl) rfl ?_) | (refine Gt.slice ?_; first | (refine RW.y (Y.cuth rfl rfl (by omega) (by omega)) rfl ?_) | (refine RW.y (Y.cutl rfl rfl (by omega) (by omega)) rfl ?_)) | (refine Gt.not ?_; first | (refine RW.y (Y.not rfl) rfl ?_) | (refine RW.y (Y.notb rfl) rfl ?_)) | (refine Gt.add ?_; refine RW.y (Y.add64 rfl rfl (by omega) (by omega)) rfl ?_) | (refine Gt.eql ?_; refine RW.y (Y.eqi rfl rfl) rfl ?_) | (refine Gt.gtr ?_; refine RW.y (Y.gtr rfl rfl) rfl ?_) | (refine Gt.lss ?_; refine RW.y (Y.lss rfl rfl) rfl ?_))
      refine RW.storeB rfl rfl rfl hbt2 (by simp) (fun w3 hbt3 hk3 => ?_)
      repeat' (first | (refine CL.seq ?_) | (refine CL.region ?_) | (refine CL.skip ?_) | (refine CL.condP rfl (fun _ => ?_) (fun _ => ?_) <;> try (exfalso; omega)) | (refine CL.condT rfl ?_) | (refine CL.condF rfl ?_) | (refine CL.cond rfl (fun _ => ?_) (fun _ => ?_)) | (refine CL.block ?_) | (refine CL.exit ?_) | (refine Ex.then ?_) | (refine Ex.hit ?_) | (refine Ex.miss rfl ?_) | (refine CL.ret ?_) | (refine Rt.then ?_) | (refine Rt.block ?_) | (refine Pn.then ?_) | (refine Pn.block ?_) | (refine CL.done ?_) | (refine Nm.block ?_) | (refine Nm.then ?_) | (refine Gt.nil ?_; refine RW.nilw [0, 1, 2, 3, 6, 7, 8, 11, 14, 25, 33, 42] ?_; dsimp only [H.keep, H.look, H.Fr.put, Nat.beq]) | (refine Gt.load ?_; refine RW.y (Y.loadB rfl (by assumption) rfl) rfl ?_) | (refine Gt.move ?_; refine RW.y (Y.move rfl) rfl ?_) | (refine Gt.assign ?_; refine RW.y (Y.assign rfl) rfl ?_) | (refine Gt.len ?_; refine RW.y (Y.lens rfl) rfl ?_) | (refine Gt.extract ?_; refine RW.y (Y.extract rfl rfl) rfl ?_) | (refine Gt.slice ?_; first | (refine RW.y (Y.cuth rfl rfl (by omega) (by omega)) rfl ?_) | (refine RW.y (Y.cutl rfl rfl (by omega) (by omega)) rfl ?_)) | (refine Gt.not ?_; first | (refine RW.y (Y.not rfl) rfl ?_) | (refine RW.y (Y.notb rfl) rfl ?_)) | (refine Gt.add ?_; refine RW.y (Y.add64 rfl rfl (by omega) (by omega)) rfl ?_) | (refine Gt.eql ?_; refine RW.y (Y.eqi rfl rfl) rfl ?_) | (refine Gt.gtr ?_; refine RW.y (Y.gtr rfl rfl) rfl ?_) | (refine Gt.lss ?_; refine RW.y (Y.lss rfl rfl) rfl ?_))
      have hn2 : ((m : Int) + (([124, 124] : List UInt8).length : Int)).toNat = m + 2 := by rw [hc2]; omega
      rw [hn2] at hbt3
      have hJ3 := hJ _ _ _ hJ2 (hk3.mono fun k h => hcs h)
      have hM3 : Ml w3 := hJT _ _ hJ3
      refine ⟨(rest.drop (m + 2)).length, _, rfl, rfl, rfl, by rw [List.length_drop]; omega, done ++ [rest.take m], rest.drop (m + 2), rfl, rfl, by rw [hsp, hs]; simp, by rw [List.length_drop]; omega, hJ _ _ _ hJ2 (hk3.mono fun k h => hcs h), hk3.at hbs2 (fun h => h1 h.symm), hbt3, hk3.at hbv2 (fun h => h2 h.symm), hM3⟩
    · repeat' (first | (refine CL.seq ?_) | (refine CL.region ?_) | (refine CL.skip ?_) | (refine CL.condP rfl (fun _ => ?_) (fun _ => ?_) <;> try (exfalso; omega)) | (refine CL.condT rfl ?_) | (refine CL.condF rfl ?_) | (refine CL.cond rfl (fun _ => ?_) (fun _ => ?_)) | (refine CL.block ?_) | (refine CL.exit ?_) | (refine Ex.then ?_) | (refine Ex.hit ?_) | (refine Ex.miss rfl ?_) | (refine CL.ret ?_) | (refine Rt.then ?_) | (refine Rt.block ?_) | (refine Pn.then ?_) | (refine Pn.block ?_) | (refine CL.done ?_) | (refine Nm.block ?_) | (refine Nm.then ?_) | (refine Gt.nil ?_; refine RW.nilw [0, 1, 2, 3, 6, 7, 8, 11, 14, 25, 33, 42] ?_; dsimp only [H.keep, H.look, H.Fr.put, Nat.beq]) | (refine Gt.load ?_; refine RW.y (Y.loadB rfl (by assumption) rfl) rfl ?_) | (refine Gt.move ?_; refine RW.y (Y.move rfl) rfl ?_) | (refine Gt.assign ?_; refine RW.y (Y.assign rfl) rfl ?_) | (refine Gt.len ?_; refine RW.y (Y.lens rfl) rfl ?_) | (refine Gt.extract ?_; refine RW.y (Y.extract rfl rfl) rfl ?_) | (refine Gt.slice ?_; first | (refine RW.y (Y.cuth rfl rfl (by omega) (by omega)) rfl ?_) | (refine RW.y (Y.cutl rfl rfl (by omega) (by omega)) rfl ?_)) | (refine Gt.not ?_; first | (refine RW.y (Y.not rfl) rfl ?_) | (refine RW.y (Y.notb rfl) rfl ?_)) | (refine Gt.add ?_; refine RW.y (Y.add64 rfl rfl (by omega) (by omega)) rfl ?_) | (refine Gt.eql ?_; refine RW.y (Y.eqi rfl rfl) rfl ?_) | (refine Gt.gtr ?_; refine RW.y (Y.gtr rfl rfl) rfl ?_) | (refine Gt.lss ?_; refine RW.y (Y.lss rfl rfl) rfl ?_))
      exact FQ.none rfl rfl ⟨⟨_, rfl⟩, .inr ⟨_, hJx2⟩⟩

end Go.Proofs.YtjlkmdmpejpmpaaGreatDoor.S

namespace Go.Proofs.YtjlkmdmpejpmpaaGreatDoor.H
open Go.RowKit
section
variable {P : Program} {f : Fr} {w : World}
theorem MQ.res {fn : Func} {R : Ending → World → Prop} {rs : List ResultVar} {vs : List Value} (hr : fn.results = rs.toArray) (hd : f.ds = []) (h : RS P f w rs vs) (hn : Nat.beq vs.length 1 = false) (hR : R (.returned (.tuple vs.toArray)) w) : MQ P fn R .ret f w :=
  .inl ⟨hd, _, fun a ha => by rw [results_list hr h ha, dif_neg (by intro c; rw [List.size_toArray] at c; rw [c] at hn; cases hn)], hR⟩
theorem MQ.resD {fn : Func} {R : Ending → World → Prop} {rs : List ResultVar} {D : Nat} (hr : fn.results = rs.toArray) (hd : f.ds = [markOf D]) (hD : w.heap[D]? = some (.deferred (some [])))
    (h : ∀ w', Kept (fun k => k = D) w w' → ∃ vs, RS P f w' rs vs ∧ Nat.beq vs.length 1 = false ∧ R (.returned (.tuple vs.toArray)) w') : MQ P fn R .ret f w :=
  .inr ⟨D, hd, hD, fun w' hk' => by
    obtain ⟨vs, h1, h2, h3⟩ := h w' hk'
    exact ⟨_, fun a ha => by rw [results_list hr h1 ha, dif_neg (by intro c; rw [List.size_toArray] at c; rw [c] at h2; cases h2)], h3⟩⟩
end
end Go.Proofs.YtjlkmdmpejpmpaaGreatDoor.H

namespace Go.Proofs.YtjlkmdmpejpmpaaGreatDoor.Sp
open Go.RowKit H S Ve
attribute [local irreducible] H.CL H.RW H.CW H.Yd H.thenK H.blockQ Go.Calls

abbrev ernT : TypeId := 29
structure PaI (w : World) (b2 b3 b4 B : Nat) (pre : List T) (acc : List (List Bd)) (q : Value) (W : World) : Prop where
  go : ∀ r, rdP (pre ++ r) [] = rdP r acc
  bd : acc.length ≤ 8
  c2 : W.heap[b2]? = some (.cells #[.bool false, .slice none 0 0] spnT (0, 0))
  c3 : W.heap[b3]? = some (.cells #[.int .i64 0] ernT (0, 0))
  c4 : W.heap[b4]? = some (.cells #[.bool false, q] spnT (0, 0))
  row : OI W B q acc
  ml : Ml W
  kept : K0 w W
structure PaX (w : World) (b2 b3 : Nat) (xs : List T) (W : World) : Prop where
  go : rdP xs [] = none
  c2 : W.heap[b2]? = some (.cells #[.bool false, .slice none 0 0] spnT (0, 0))
  c3 : W.heap[b3]? = some (.cells #[.int .i64 61] ernT (0, 0))
  kept : K0 w W
theorem PaI.keep {w : World} {b2 b3 b4 B : Nat} {pre : List T} {acc : List (List Bd)} {q : Value} {W W' : World} (h : PaI w b2 b3 b4 B pre acc q W) {S : Nat → Prop} (k : Kept S W W') (hm : Ml w) (hS : ∀ k, S k → w.heap.size ≤ k ∧ k ≠ b2 ∧ k ≠ b3 ∧ k ≠ b4 ∧ k < B) : PaI w b2 b3 b4 B pre acc q W' where
  go := h.go
  bd := h.bd
  c2 := k.at h.c2 fun c => (hS _ c).2.1 rfl
  c3 := k.at h.c3 fun c => (hS _ c).2.2.1 rfl
  c4 := k.at h.c4 fun c => (hS _ c).2.2.2.1 rfl
  row := h.row.keep k fun g hg _ c => by have := (hS g c).2.2.2.2; omega
  ml := h.ml.keep k fun c => by have := (hS _ c).1; have := hm.lt; omega
  kept := h.kept.trans k fun k c => .inr (hS k c).1
theorem PaX.keep {w : World} {b2 b3 : Nat} {xs : List T} {W W' : World} (h : PaX w b2 b3 xs W) {S : Nat → Prop} (k : Kept S W W') (hS : ∀ k, S k → w.heap.size ≤ k ∧ k ≠ b2 ∧ k ≠ b3) : PaX w b2 b3 xs W' where
  go := h.go
  c2 := k.at h.c2 fun c => (hS _ c).2.1 rfl
  c3 := k.at h.c3 fun c => (hS _ c).2.2 rfl
  kept := h.kept.trans k fun k c => .inr (hS k c).1
theorem rdP_none : ∀ (xs r : List T) (acc : List (List Bd)), rdP xs acc = none → rdP (xs ++ r) acc = none := by
  intro xs
  induction xs with
  | nil => intro r acc h; simp [rdP] at h
  | cons x xs ih =>
    intro r acc h
    rw [List.cons_append, rdP]
    rw [rdP] at h
    split
    · rfl
    · rename_i h8
      rw [if_neg h8] at h
      cases hb : listB x with
      | none => rfl
      | some b => rw [hb] at h; exact ih r _ h

set_option maxHeartbeats 2000000 in
theorem parseS (s : T) (hl : s.length ≤ 1000000) (w : World) (hM : Ml w) : Calls Tryz.prog 78 #[vs s] w fun e w' => K0 w w' ∧ ∃ V, e = .returned (.tuple #[V, .int .i64 (spanR (spanB s)).2]) ∧ SpanNew w.heap.size w' V (spanR (spanB s)).1 := by
  refine H.enterM Tryz.func78 Tryz.ntmps78 rfl rfl ?_; dsimp only [H.args]
  refine CL.seq ?_
  refine CL.region ?_
  refine RW.alloc rfl (fun w1 hb1 hk1 hlt1 => ?_)
  refine RW.alloc rfl (fun w2 hb2 hk2 hlt2 => ?_)
  have c2 := hk2.at0 hb1
  have hz1 := hk1.size
  have hz2 := hk2.size
  repeat' (first | (refine CL.seq ?_) | (refine CL.region ?_) | (refine Gt.nil ?_; refine RW.nilw [0, 2, 3, 4, 5, 6, 7, 9, 10, 11, 14, 17, 18, 34, 36, 37, 38, 39, 48] ?_; dsimp only [H.keep, H.look, H.Fr.put, Nat.beq]) | (refine Gt.move ?_; refine RW.y (Y.move rfl) rfl ?_))
  refine RW.fn rfl rfl ((trim s 32 (by decide) (by omega) w2).mono ?_)
  rintro e w3 ⟨hk3, rfl⟩
  have hz3 := hk3.size
  have d2 := hk3.at0 c2
  have d3 := hk3.at0 hb2
  have hK3 := (hk1.trans0 hk2).trans0 hk3
  have htr := trim_star s
  repeat' (first | (refine CL.seq ?_) | (refine CL.region ?_) | (refine CL.skip ?_) | (refine CL.condP rfl (fun _ => ?_) (fun _ => ?_) <;> try (exfalso; omega)) | (refine Gt.nil ?_; refine RW.nilw [0, 2, 3, 4, 5, 6, 7, 9, 10, 11, 14, 17, 18, 34, 36, 37, 38, 39, 48] ?_; dsimp only [H.keep, H.look, H.Fr.put, Nat.beq]) | (refine RW.y (Y.build (ps := [(0, _)]) (l := [_]) (c := #[.bool true, .slice none 0 0]) rfl rfl) rfl ?_) | (refine Gt.eql ?_; (refine RW.y (Y.eqs rfl rfl) rfl ?_)))
  · rename_i hst
    have hsp : spanB s = some ⟨true, []⟩ := by rw [spanB, if_pos (htr.1 hst)]
    rw [hsp]
    simp only [spanR]
    refine RW.storeBlock rfl rfl rfl (spnCells rfl) d2 rfl (fun w4 hb4 hk4 => ?_)
    have d34 := hk4.at d3 (fun c => by have c' : w1.heap.size = w.heap.size := c; omega)
    refine RW.storeB rfl rfl rfl d34 (by decide) (fun w5 hb5 hk5 => ?_)
    have hb45 := hk5.at hb4 (fun c => by have c' : w.heap.size = w1.heap.size := c; omega)
    repeat' (first | (refine CL.ret ?_) | (refine Gt.nil ?_; refine RW.nilw [0, 2, 3, 4, 5, 6, 7, 9, 10, 11, 14, 17, 18, 34, 36, 37, 38, 39, 48] ?_; dsimp only [H.keep, H.look, H.Fr.put, Nat.beq]))
    refine MQ.res (rs := [.cell 2 spnT, .cell 3 ernT]) (vs := [_, _]) rfl rfl ⟨⟨_, rfl, load_block hb45 rfl⟩, ⟨_, rfl, load_block1 hb5⟩, trivial⟩ rfl ⟨(hK3.trans hk4 fun k h => .inr (by have h' : k = w.heap.size := h; omega)).trans hk5 fun k h => .inr (by have h' : k = w1.heap.size := h; omega), _, rfl, _, rfl, OrNew.nil _ _⟩
  rename_i hst
  have hns : ¬ wordsB s = [[42]] := fun h => hst (htr.2 h)
  have hsp : spanB s = (rdP (orB s) []).map (⟨false, ·⟩) := by rw [spanB_P, if_neg hns]
  refine RW.alloc rfl (fun w4 hb4 hk4 hlt4 => ?_)
  have hz4 := hk4.size
  repeat' (first | (refine CL.seq ?_) | (refine CL.region ?_) | (refine Gt.nil ?_; refine RW.nilw [0, 2, 3, 4, 5, 6, 7, 9, 10, 11, 14, 17, 18, 34, 36, 37, 38, 39, 48] ?_; dsimp only [H.keep, H.look, H.Fr.put, Nat.beq]) | (refine Gt.move ?_; refine RW.y (Y.move rfl) rfl ?_))
  refine RW.fn rfl rfl ((splitSeq2 s w4 (hM.keep0 (hK3.trans0 hk4))).mono ?_)
  rintro e w5 ⟨hk5, bs, bt, bv, rfl, n1, n2, g1, g2, g3, l1, l2, l3, hsp2⟩
  have hz5 := hk5.size
  have hK5 : K0 w w5 := (hK3.trans0 hk4).trans0 hk5
  have hk45 := hk4.trans0 hk5
  repeat' (first | (refine CL.block ?_) | (refine Gt.nil ?_; refine RW.nilw [0, 2, 3, 4, 5, 6, 7, 9, 10, 11, 14, 17, 18, 34, 36, 37, 38, 39, 48] ?_; dsimp only [H.keep, H.look, H.Fr.put, Nat.beq]))
  have hSk : ∀ k, ((k = bs ∨ k = bt ∨ k = bv) ∨ k = w5.heap.size ∨ k = w5.heap.size + 1) → w.heap.size ≤ k ∧ k ≠ w.heap.size ∧ k ≠ w1.heap.size ∧ k ≠ w3.heap.size ∧ k < w5.heap.size + 2 := fun k h => by omega
  refine CL.rangeFuncT (ps := [18]) (cap := [_, _, _]) rfl (splitIt2T s hl bs bt bv n1 n2) (fun W k => ⟨k.at0 hsp2.1, k.at0 hsp2.2.1, k.at0 hsp2.2.2.1, hsp2.2.2.2.keep0 k⟩) (fun _ => rfl) (fun p hp => by rw [List.mem_singleton.1 hp]; rfl) (by rintro k (h | h | h) <;> omega)
    (fun pre W => ∃ acc q, PaI w w.heap.size w1.heap.size w3.heap.size (w5.heap.size + 2) pre acc q W)
    (fun c pre W => c = none ∧ PaX w w.heap.size w1.heap.size (orB s) W)
    (fun _ _ _ ⟨acc, q, h⟩ k => ⟨acc, q, h.keep k hM hSk⟩) (fun c _ _ _ ⟨hc, h⟩ k => ⟨hc, h.keep k fun k hk => ⟨(hSk k hk).1, (hSk k hk).2.1, (hSk k hk).2.2.1⟩⟩)
    ⟨[], _, fun _ => rfl, by simp, hk45.at0 d2, hk45.at0 d3, hk5.at0 hb4, OI.nil _ _, hM.keep0 hK5, hK5⟩ (fun pre W ⟨acc, q, h⟩ => h.ml) ?_ ?_ ?_
  · rintro l pre x W hI hpx hsz
    dsimp only [Fr.puts, Fr.put]
    repeat' (first | (refine CL.region ?_) | (refine CL.done ?_) | (refine Nm.then ?_) | (refine Gt.nil ?_; refine RW.nilw [0, 2, 3, 4, 5, 6, 7, 9, 10, 11, 14, 17, 18, 34, 36, 37, 38, 39, 48] ?_; dsimp only [H.keep, H.look, H.Fr.put, Nat.beq]) | (refine Gt.assign ?_; refine RW.y (Y.assign rfl) rfl ?_))
    refine ⟨rfl, ?_⟩
    clear hI hsz W
    rintro W ⟨acc, q, hI⟩ hsz
    obtain ⟨hgo, hbd, i2, i3, i4, irow, iml, ikept⟩ := id hI
    obtain ⟨tl, htl⟩ := hpx
    have hgo1 : ∀ r, rdP (pre ++ [x] ++ r) [] = rdP (x :: r) acc := fun r => by rw [List.append_assoc]; exact hgo _
    have hxs : x.length ≤ 1000000 := Nat.le_trans (orB_mem s x (by rw [← htl]; simp)) hl
    have hfail : rdP [x] acc = none → rdP (orB s) [] = none := fun h => by rw [← htl, hgo1]; exact rdP_none [x] tl acc h
    obtain ⟨xs, isl⟩ := irow.sl
    repeat' (first | (refine CL.seq ?_) | (refine CL.region ?_) | (refine CL.block ?_) | (refine Gt.move ?_; refine RW.y (Y.move rfl) rfl ?_))
    refine RW.fn rfl rfl ((fields x hxs W).mono ?_)
    rintro e w6 ⟨hk6, v6, rfl, how6⟩
    have hz6 := hk6.size
    have hs6 := Sl.of_own how6
    have j4 := hk6.at0 i4
    have isl6 := isl.keep0 hk6
    have hwn := wordsB_num x
    have hwl := wordsB_len x
    generalize hws : wordsB x = wl at *
    repeat' (first | (refine CL.seq ?_) | (refine CL.region ?_) | (refine CL.skip ?_) | (refine CL.condP rfl (fun _ => ?_) (fun _ => ?_) <;> try (exfalso; omega)) | (refine CL.condT rfl ?_) | (refine CL.block ?_) | (refine Gt.nil ?_; refine RW.nilw [0, 2, 3, 4, 5, 6, 7, 9, 10, 11, 14, 17, 18, 34, 36, 37, 38, 39, 48] ?_; dsimp only [H.keep, H.look, H.Fr.put, Nat.beq]) | (refine RW.y (Y.build (ps := []) (l := []) (c := #[.bool false, .slice none 0 0]) rfl rfl) rfl ?_) | (refine Gt.move ?_; refine RW.y (Y.move rfl) rfl ?_) | (refine Gt.guard ?_; first | (refine RW.part rfl rfl rfl (fun _ => ?_) (fun _ => ?_) <;> try (exfalso; omega)) | (refine RW.on rfl rfl rfl ?_) | (refine RW.off1 rfl rfl rfl rfl rfl ?_)) | (refine Gt.assign ?_; refine RW.y (Y.assign rfl) rfl ?_) | (refine Gt.len ?_; (refine RW.y (Y.lenx rfl (by assumption)) rfl ?_)) | (refine Gt.load ?_; (refine RW.y (Y.loadB rfl (by assumption) rfl) rfl ?_)) | (refine Gt.fieldAddr ?_; refine RW.y (Y.fieldAddr rfl (by rfl)) rfl ?_) | (refine Gt.eql ?_; (refine RW.y (Y.eqi rfl rfl) rfl ?_)) | (refine Gt.pick ?_; first | (refine RW.y (Y.pickT rfl rfl) rfl ?_) | (refine RW.y (Y.pickF rfl rfl) rfl ?_)) | (refine Gt.gtr ?_; refine RW.y (Y.gtr rfl rfl) rfl ?_))
    · rename_i h1
      have hln : rdP [x] acc = none := by
        rw [rdP]
        split
        · rfl
        · rw [listB, hws, if_neg (by omega)]
      have hkF := hk6
      refine RW.storeBlock rfl rfl rfl (spnCells rfl) (hkF.at0 i2) rfl (fun wq hbq hkq => ?_)
      refine RW.storeB rfl rfl rfl (hkq.at (hkF.at0 i3) (fun c => by have c' : w1.heap.size = w.heap.size := c; omega)) (by decide) (fun wr hbr hkr => ?_)
      have hbq' := hkr.at hbq (fun c => by have c' : w.heap.size = w1.heap.size := c; omega)
      repeat' (first | (refine CL.ret ?_) | (refine Rt.block ?_) | (refine Gt.nil ?_; refine RW.nilw [0, 2, 3, 4, 5, 6, 7, 9, 10, 11, 14, 17, 18, 34, 36, 37, 38, 39, 48] ?_; dsimp only [H.keep, H.look, H.Fr.put, Nat.beq]))
      have hk : Kept (fun k => k = w.heap.size ∨ k = w1.heap.size) W wr := (hkF.of0.trans hkq (fun k h => .inl (.inl h))).trans hkr (fun k h => .inl (.inr h))
      exact ⟨Same.of hk fun k h => ⟨by omega, fun c => by omega⟩, rfl, ⟨hfail hln, hbq', hbr, ikept.trans hk fun k h => .inr (by omega)⟩⟩
    · rename_i h1 h2
      have hln : rdP [x] acc = none := by
        rw [rdP]
        split
        · rfl
        · rw [listB, hws, if_neg (by omega)]
      have hkF := hk6
      refine RW.storeBlock rfl rfl rfl (spnCells rfl) (hkF.at0 i2) rfl (fun wq hbq hkq => ?_)
      refine RW.storeB rfl rfl rfl (hkq.at (hkF.at0 i3) (fun c => by have c' : w1.heap.size = w.heap.size := c; omega)) (by decide) (fun wr hbr hkr => ?_)
      have hbq' := hkr.at hbq (fun c => by have c' : w.heap.size = w1.heap.size := c; omega)
      repeat' (first | (refine CL.ret ?_) | (refine Rt.block ?_) | (refine Gt.nil ?_; refine RW.nilw [0, 2, 3, 4, 5, 6, 7, 9, 10, 11, 14, 17, 18, 34, 36, 37, 38, 39, 48] ?_; dsimp only [H.keep, H.look, H.Fr.put, Nat.beq]))
      have hk : Kept (fun k => k = w.heap.size ∨ k = w1.heap.size) W wr := (hkF.of0.trans hkq (fun k h => .inl (.inl h))).trans hkr (fun k h => .inl (.inr h))
      exact ⟨Same.of hk fun k h => ⟨by omega, fun c => by omega⟩, rfl, ⟨hfail hln, hbq', hbr, ikept.trans hk fun k h => .inr (by omega)⟩⟩
    · rename_i h1 h2 h3
      have hln : rdP [x] acc = none := by
        rw [rdP, if_pos (by omega)]
      have hkF := hk6
      refine RW.storeBlock rfl rfl rfl (spnCells rfl) (hkF.at0 i2) rfl (fun wq hbq hkq => ?_)
      refine RW.storeB rfl rfl rfl (hkq.at (hkF.at0 i3) (fun c => by have c' : w1.heap.size = w.heap.size := c; omega)) (by decide) (fun wr hbr hkr => ?_)
      have hbq' := hkr.at hbq (fun c => by have c' : w.heap.size = w1.heap.size := c; omega)
      repeat' (first | (refine CL.ret ?_) | (refine Rt.block ?_) | (refine Gt.nil ?_; refine RW.nilw [0, 2, 3, 4, 5, 6, 7, 9, 10, 11, 14, 17, 18, 34, 36, 37, 38, 39, 48] ?_; dsimp only [H.keep, H.look, H.Fr.put, Nat.beq]))
      have hk : Kept (fun k => k = w.heap.size ∨ k = w1.heap.size) W wr := (hkF.of0.trans hkq (fun k h => .inl (.inl h))).trans hkr (fun k h => .inl (.inr h))
      exact ⟨Same.of hk fun k h => ⟨by omega, fun c => by omega⟩, rfl, ⟨hfail hln, hbq', hbr, ikept.trans hk fun k h => .inr (by omega)⟩⟩
    rename_i h1 h2 h3
    have hlB : listB x = rdW wl [] := by rw [listB, hws, if_pos (by omega)]
    have hrx : rdP [x] acc = match rdW wl [] with
        | none => none
        | some b => some (acc ++ [b]) := by
      rw [rdP, if_neg (by omega), hlB]
      cases rdW wl [] <;> rfl
    refine CL.loopS [2, 3, 4, 7, 36, 37, 38] (fun m vals wv => ∃ (n : Nat) (u : Value) (bacc : List Bd), vals = [.pointer (some ⟨w.heap.size, 0, none⟩), .pointer (some ⟨w1.heap.size, 0, none⟩), .pointer (some ⟨w3.heap.size, 0, none⟩), u, v6, .int .i64 (wl.length : Int), .int .i64 (n : Int)] ∧ m = wl.length - n ∧ n ≤ wl.length ∧ bacc.length ≤ 2 * n ∧ rdW (wl.drop n) bacc = rdW wl [] ∧ BI wv w6.heap.size u bacc ∧ K0 w6 wv) wl.length ⟨_, rfl, 0, _, [], rfl, rfl, Nat.zero_le _, Nat.le_refl _, rfl, BI.nil _ _, Kept.refl _ _⟩ ?_
    rintro m vals wv ⟨n, u, bacc, rfl, rfl, hn, hbl, hrw, hbi, hkv⟩
    dsimp only [List.zip, List.zipWith]
    have hsv := hs6.keep0 hkv
    have hzv := hkv.size
    have hkWv := hk6.trans0 hkv
    rcases Nat.lt_or_ge n wl.length with hnl | hng
    · have hwm : wl.getD n [] ∈ wl := getD_mem [] hnl
      have hw1 := hwl _ hwm
      repeat' (first | (refine CL.seq ?_) | (refine CL.region ?_) | (refine CL.skip ?_) | (refine CL.condP rfl (fun _ => ?_) (fun _ => ?_) <;> try (exfalso; omega)) | (refine CL.block ?_) | (refine Gt.nil ?_; refine RW.nilw [0, 2, 3, 4, 5, 6, 7, 9, 10, 11, 14, 17, 18, 34, 36, 37, 38, 39, 48] ?_; dsimp only [H.keep, H.look, H.Fr.put, Nat.beq]) | (refine Gt.move ?_; refine RW.y (Y.move rfl) rfl ?_) | (refine Gt.assign ?_; refine RW.y (Y.assign rfl) rfl ?_) | (refine Gt.lss ?_; refine RW.y (Y.lss rfl rfl) rfl ?_) | (refine Gt.idx ?_; refine RW.elemS rfl rfl rfl rfl (by assumption) (by omega) (by omega) ?_))
      rw [Int.toNat_natCast]
      refine RW.fn rfl rfl ((word (wl.getD n []) (by omega) wv).mono ?_)
      rintro e w7 ⟨hk7, p7, rfl, hp7⟩
      rw [drop_at wl n hnl, rdW] at hrw
      have hz7 := hk7.size
      cases hbd7 : boundsB (wl.getD n []) with
      | none =>
        rw [hbd7] at hrw
        repeat' (first | (refine CL.seq ?_) | (refine CL.region ?_) | (refine CL.condT rfl ?_) | (refine Gt.nil ?_; refine RW.nilw [0, 2, 3, 4, 5, 6, 7, 9, 10, 11, 14, 17, 18, 34, 36, 37, 38, 39, 48] ?_; dsimp only [H.keep, H.look, H.Fr.put, Nat.beq]) | (refine RW.y (Y.build (ps := []) (l := []) (c := #[.bool false, .slice none 0 0]) rfl rfl) rfl ?_) | (refine Gt.move ?_; refine RW.y (Y.move rfl) rfl ?_) | (refine Gt.assign ?_; refine RW.y (Y.assign rfl) rfl ?_) | (refine Gt.extract ?_; refine RW.y (Y.extract rfl rfl) rfl ?_) | (refine Gt.not ?_; (refine RW.y (Y.notb rfl) rfl ?_)))
        have hln : rdP [x] acc = none := by rw [hrx, ← hrw]
        have hkF := hkWv.trans0 hk7
        refine RW.storeBlock rfl rfl rfl (spnCells rfl) (hkF.at0 i2) rfl (fun wq hbq hkq => ?_)
        refine RW.storeB rfl rfl rfl (hkq.at (hkF.at0 i3) (fun c => by have c' : w1.heap.size = w.heap.size := c; omega)) (by decide) (fun wr hbr hkr => ?_)
        have hbq' := hkr.at hbq (fun c => by have c' : w.heap.size = w1.heap.size := c; omega)
        repeat' (first | (refine CL.ret ?_) | (refine Rt.then ?_) | (refine Rt.block ?_) | (refine Gt.nil ?_; refine RW.nilw [0, 2, 3, 4, 5, 6, 7, 9, 10, 11, 14, 17, 18, 34, 36, 37, 38, 39, 48] ?_; dsimp only [H.keep, H.look, H.Fr.put, Nat.beq]))
        have hk : Kept (fun k => k = w.heap.size ∨ k = w1.heap.size) W wr := (hkF.of0.trans hkq (fun k h => .inl (.inl h))).trans hkr (fun k h => .inl (.inr h))
        exact ⟨Same.of hk fun k h => ⟨by omega, fun c => by omega⟩, rfl, ⟨hfail hln, hbq', hbr, ikept.trans hk fun k h => .inr (by omega)⟩⟩
      | some b =>
        rw [hbd7] at hrw
        have hb2l := bounds_len hbd7
        repeat' (first | (refine CL.seq ?_) | (refine CL.region ?_) | (refine CL.skip ?_) | (refine CL.condF rfl ?_) | (refine Gt.nil ?_; refine RW.nilw [0, 2, 3, 4, 5, 6, 7, 9, 10, 11, 14, 17, 18, 34, 36, 37, 38, 39, 48] ?_; dsimp only [H.keep, H.look, H.Fr.put, Nat.beq]) | (refine Gt.move ?_; refine RW.y (Y.move rfl) rfl ?_) | (refine Gt.assign ?_; refine RW.y (Y.assign rfl) rfl ?_) | (refine Gt.extract ?_; refine RW.y (Y.extract rfl rfl) rfl ?_) | (refine Gt.not ?_; (refine RW.y (Y.notb rfl) rfl ?_)))
        refine RW.appB rfl rfl rfl rfl (hbi.keep hk7 fun _ _ _ c => c) (hp7 b hbd7) (fun g hg => (hbi.own g hg).2) hzv (by omega) (by omega) (by decide) (by omega) (fun v' w8 hbi' hk8 hl8 => ?_)
        repeat' (first | (refine CL.region ?_) | (refine CL.done ?_) | (refine Nm.block ?_) | (refine Nm.then ?_) | (refine Gt.nil ?_; refine RW.nilw [0, 2, 3, 4, 5, 6, 7, 9, 10, 11, 14, 17, 18, 34, 36, 37, 38, 39, 48] ?_; dsimp only [H.keep, H.look, H.Fr.put, Nat.beq]) | (refine Gt.move ?_; refine RW.y (Y.move rfl) rfl ?_) | (refine Gt.assign ?_; refine RW.y (Y.assign rfl) rfl ?_) | (refine Gt.add ?_; refine RW.y (Y.add64 rfl rfl (by omega) (by omega)) rfl ?_))
        exact ⟨wl.length - (n + 1), _, rfl, rfl, rfl, by omega, n + 1, v', bacc ++ b, rfl, rfl, by omega, by rw [List.length_append]; omega, hrw, hbi', (hkv.trans0 hk7).trans hk8 fun g hg => .inr (hbi.own g hg).1⟩
    · have hn : n = wl.length := by omega
      subst hn
      rw [List.drop_length, rdW] at hrw
      rw [← hrw] at hrx
      have j4v := hkWv.at0 i4
      have iq1 := isl.one
      have irowv := irow.keep hkWv fun _ _ _ c => c
      have hio := irow.own
      repeat' (first | (refine CL.seq ?_) | (refine CL.region ?_) | (refine CL.condP rfl (fun _ => ?_) (fun _ => ?_) <;> try (exfalso; omega)) | (refine CL.exit ?_) | (refine Ex.then ?_) | (refine Ex.hit ?_) | (refine Gt.nil ?_; refine RW.nilw [0, 2, 3, 4, 5, 6, 7, 9, 10, 11, 14, 17, 18, 34, 36, 37, 38, 39, 48] ?_; dsimp only [H.keep, H.look, H.Fr.put, Nat.beq]) | (refine Gt.move ?_; refine RW.y (Y.move rfl) rfl ?_) | (refine Gt.load ?_; (refine RW.y (Y.loadB rfl (by assumption) rfl) rfl ?_)) | (refine Gt.fieldAddr ?_; refine RW.y (Y.fieldAddr rfl (by rfl)) rfl ?_) | (refine Gt.lss ?_; refine RW.y (Y.lss rfl rfl) rfl ?_))
      refine RW.appO rfl rfl rfl rfl rfl irowv hbi.new (fun g hg => by have := (hio g hg).2; omega) (by omega) (by omega) (by decide) (by omega) (fun q' w8 irow' hk8 hl8 => ?_)
      have hq4 : ¬ q.ownBlock = some w3.heap.size := fun c => by have := (hio _ c).1; omega
      have j48 := hk8.at j4v hq4
      obtain ⟨xs', isl'⟩ := irow'.sl
      repeat' ((refine Gt.fieldAddr ?_; refine RW.y (Y.fieldAddr rfl (by rfl)) rfl ?_))
      refine RW.storeB rfl rfl isl'.one j48 (show (_ : Nat) < 2 from by decide) (fun w9 hb9 hk9 => ?_)
      repeat' (first | (refine CL.done ?_) | (refine Nm.block ?_) | (refine Gt.nil ?_; refine RW.nilw [0, 2, 3, 4, 5, 6, 7, 9, 10, 11, 14, 17, 18, 34, 36, 37, 38, 39, 48] ?_; dsimp only [H.keep, H.look, H.Fr.put, Nat.beq]))
      have hk : Kept (fun k => q.ownBlock = some k ∨ k = w3.heap.size) W w9 := ((hkWv.of0).trans hk8 fun k h => .inl (.inl h)).trans hk9 fun k h => .inl (.inr h)
      have hTk : ∀ k, (q.ownBlock = some k ∨ k = w3.heap.size) → w5.heap.size + 2 ≤ k ∨ k = w3.heap.size := fun k h => h.imp (fun h => (hio k h).1) id
      refine ⟨Same.of hk fun k h => ⟨by omega, fun c => by have := hTk k c; omega⟩, acc ++ [bacc], q', ⟨fun r => ?_, by rw [List.length_append, List.length_singleton]; omega, ?_, ?_, hb9, ?_, ?_, ikept.trans hk fun k h => .inr (by have := hTk k h; omega)⟩⟩
      · rw [hgo1, rdP, if_neg (by omega), hlB, ← hrw]
      · exact hk.at i2 fun c => by have := hTk _ c; omega
      · exact hk.at i3 fun c => by have := hTk _ c; omega
      · exact irow'.keep hk9 fun g h1 _ c => by have c' : g = w3.heap.size := c; omega
      · exact iml.keep hk fun c => by have := hTk _ c; have := hM.lt; omega
  · rintro W ⟨acc, q, hI⟩ hD
    obtain ⟨hgo, hbd, i2, i3, i4, irow, iml, ikept⟩ := hI
    have hsp3 : spanB s = some ⟨false, acc⟩ := by
      have := hgo []
      rw [List.append_nil] at this
      rw [hsp, this]; rfl
    obtain ⟨xs, isl⟩ := irow.sl
    have iq1 := isl.one
    repeat' (first | (refine CL.seq ?_) | (refine CL.region ?_) | (refine CL.done ?_) | (refine Nm.block ?_) | (refine RW.y (Y.loadBlock rfl i4 rfl) rfl ?_))
    refine RW.storeBlock rfl rfl rfl (spnCells iq1) i2 rfl (fun w6 hb6 hk6 => ?_)
    refine RW.storeB rfl rfl rfl (hk6.at i3 (fun c => by have c' : w1.heap.size = w.heap.size := c; omega)) (by decide) (fun w7 hb7 hk7 => ?_)
    have hb67 := hk7.at hb6 (fun c => by have c' : w.heap.size = w1.heap.size := c; omega)
    repeat' (first | (refine CL.ret ?_) | (refine Gt.nil ?_; refine RW.nilw [0, 2, 3, 4, 5, 6, 7, 9, 10, 11, 14, 17, 18, 34, 36, 37, 38, 39, 48] ?_; dsimp only [H.keep, H.look, H.Fr.put, Nat.beq]))
    have hk : Kept (fun k => k = w.heap.size ∨ k = w1.heap.size) W w7 := (hk6.mono fun k h => .inl h).trans hk7 fun k h => .inl (.inr h)
    refine MQ.resD (rs := [.cell 2 spnT, .cell 3 ernT]) (D := w5.heap.size) rfl rfl (hk.at hD (by omega)) (fun w' hk' => ⟨[_, _], ⟨⟨_, rfl, load_block (hk'.at hb67 fun c => by have c' : w.heap.size = w5.heap.size := c; omega) rfl⟩, ⟨_, rfl, load_block1 (hk'.at hb7 fun c => by have c' : w1.heap.size = w5.heap.size := c; omega)⟩, trivial⟩, rfl, ?_⟩)
    refine ⟨(ikept.trans hk fun k h => .inr (by omega)).trans hk' fun k h => .inr (by have h' : k = w5.heap.size := h; omega), _, by rw [hsp3]; rfl, ?_⟩
    rw [hsp3]
    exact ⟨_, rfl, (OI.new ((irow.keep hk fun g h1 _ c => by omega).keep hk' fun g h1 _ c => by have c' : g = w5.heap.size := c; omega)).mono (by omega)⟩
  · rintro c pre W ⟨rfl, hX⟩ hD
    refine Rt.block ?_
    skip
    refine MQ.resD (rs := [.cell 2 spnT, .cell 3 ernT]) (D := w5.heap.size) rfl rfl hD (fun w' hk' => ⟨[_, _], ⟨⟨_, rfl, load_block (hk'.at hX.c2 fun c => by have c' : w.heap.size = w5.heap.size := c; omega) rfl⟩, ⟨_, rfl, load_block1 (hk'.at hX.c3 fun c => by have c' : w1.heap.size = w5.heap.size := c; omega)⟩, trivial⟩, rfl, ?_⟩)
    have hsp3 : spanB s = none := by rw [hsp, hX.go]; rfl
    rw [hsp3]
    exact ⟨hX.kept.trans hk' fun k h => .inr (by have h' : k = w5.heap.size := h; omega), _, rfl, _, rfl, OrNew.nil _ _⟩
end Go.Proofs.YtjlkmdmpejpmpaaGreatDoor.Sp

namespace Go.Proofs.YtjlkmdmpejpmpaaGreatDoor.H
open Go.RowKit
section
variable {P : Program} {f : Fr} {w : World} {d : Nat} {ty t yt : TypeId} {pos : String} {af : Array Edge} {x y : Operand} {a b : Bool}
theorem Y.neb [ht : Und P t .bool] (hx : f.ev x = some (.bool a)) (hy : f.ev y = some (.bool b)) : Yd P f (op1 d (.binOp .neq t x y yt) ty pos af) (.bool (decide (a ≠ b))) w :=
  Y.bin hx hy (by simp) (by simp) (by rw [run_neq_bool w t a b ht.out]; cases a <;> cases b <;> rfl)
theorem Y.nebE [ht : Und P t .bool] (hx : f.ev x = some (.bool a)) (hy : f.ev y = some (.bool b)) (h : a = b) : Yd P f (op1 d (.binOp .neq t x y yt) ty pos af) (.bool false) w := by
  have := Y.neb (P := P) (w := w) (d := d) (t := t) (yt := yt) (ty := ty) (pos := pos) (af := af) hx hy
  rw [h] at this
  simpa using this
theorem Y.nebS [ht : Und P t .bool] (hx : f.ev x = some (.bool a)) (hy : f.ev y = some (.bool a)) : Yd P f (op1 d (.binOp .neq t x y yt) ty pos af) (.bool false) w := Y.nebE hx hy rfl
theorem Y.eqbE [ht : Und P t .bool] (hx : f.ev x = some (.bool a)) (hy : f.ev y = some (.bool b)) (h : a = b) : Yd P f (op1 d (.binOp .eql t x y yt) ty pos af) (.bool true) w := by
  have := Y.eqb (P := P) (w := w) (d := d) (t := t) (yt := yt) (ty := ty) (pos := pos) (af := af) hx hy
  rw [h] at this
  simpa using this
end
end Go.Proofs.YtjlkmdmpejpmpaaGreatDoor.H

namespace Go.Proofs.YtjlkmdmpejpmpaaGreatDoor.Sp
open Go.RowKit H S Ve
attribute [local irreducible] H.CL H.RW H.CW H.Yd H.thenK H.blockQ Go.Calls

theorem bdC_len : ∀ x, (bdC x).length = 5 := fun _ => rfl
theorem bdSpot {w : World} {v : Value} {L : List (Bd × Value)} (hs : Sl w 5 v L.length (L.flatMap bdC)) {k : Nat} (hk : k < L.length) : ∃ g o, Value.spot v ((k : Int).toNat * 5) = ⟨g, o, none⟩ ∧ ∀ w', K0 w w' → w'.cell? ⟨g, o, none⟩ = some (vs (L.getD k default).1.sign) ∧ ∀ j u, ([.int .i64 (L.getD k default).1.v.a, .int .i64 (L.getD k default).1.v.b, .int .i64 (L.getD k default).1.v.c, (L.getD k default).2] : List Value)[j]? = some u → w'.cell? ((⟨g, o + 1, none⟩ : Addr).add j) = some u := by
  obtain ⟨g, o, h1⟩ := elPtr hs (by omega) ((k : Int).toNat * 5)
  refine ⟨g, o, h1, fun w' hk' => ?_⟩
  have h2 := elCells (hs.keep0 hk') bdC_len hk
  rw [h1] at h2
  refine ⟨h2 0 _ rfl, fun j u hu => ?_⟩
  have := h2 (1 + j) u (by rw [Nat.add_comm]; exact hu)
  rw [addr_add] at this ⊢
  rw [Nat.add_assoc]; exact this
theorem getD_or {R : List (List Bd × Value)} {o : List (List Bd)} (h : R.map (·.1) = o) {i : Nat} (hi : i < R.length) : (R.getD i default).1 = o.getD i [] := by
  subst h; simp [List.getD_eq_getElem?_getD, hi]
theorem getD_bd {L : List (Bd × Value)} {l : List Bd} (h : L.map (·.1) = l) {i : Nat} (hi : i < L.length) : (L.getD i default).1 = l.getD i default := by
  subst h; simp [List.getD_eq_getElem?_getD, hi]

set_option maxHeartbeats 2000000 in
theorem helpSpanS (X Y : Value) (s : Spn) (w : World) (hX : SpanAt w X s) (hY : SpanAt w Y s) : Calls Tryz.prog 61 #[X, Y] w fun e w' => K0 w w' ∧ e = .returned (.bool true) := by
  obtain ⟨p, rfl, R, hR, hs, hm⟩ := hX
  obtain ⟨p', rfl, R', hR', hs', hm'⟩ := hY
  have hRl : R'.length = R.length := by have h1 := congrArg List.length hR; have h2 := congrArg List.length hR'; rw [List.length_map] at h1 h2; omega
  have hmx : R.length ≤ 9223372036854775807 := by have := hs.2.1; simpa [maxLen] using this
  rw [hRl] at hs'
  refine H.enter Tryz.func61 Tryz.ntmps61 rfl rfl ?_; dsimp only [H.args]
  repeat' (first | (refine CL.seq ?_) | (refine CL.region ?_))
  refine RW.box rfl rfl (fun w1 hb1 hk1 hlt1 => ?_)
  have hb1' : w1.heap[w.heap.size]? = some (.cells #[.bool s.any, p] spnT (0, 0)) := hb1
  refine RW.box rfl rfl (fun w2 hb2 hk2 hlt2 => ?_)
  have hb2' : w2.heap[w1.heap.size]? = some (.cells #[.bool s.any, p'] spnT (0, 0)) := hb2
  have hb12 := hk2.at0 hb1'
  have hK2 := hk1.trans0 hk2
  have hs2 := hs.keep0 hK2
  have hs2' := hs'.keep0 hK2
  repeat' (first | (refine CL.seq ?_) | (refine CL.region ?_) | (refine CL.skip ?_) | (refine CL.condP rfl (fun _ => ?_) (fun _ => ?_) <;> try (exfalso; omega)) | (refine CL.block ?_) | (refine Gt.nil ?_; refine RW.nilw [0, 1, 2, 3, 4, 5, 6, 20, 25, 40, 48, 91] ?_; dsimp only [H.keep, H.look, H.Fr.put, Nat.beq]) | (refine RW.y (Y.nebS rfl rfl) rfl ?_) | (refine Gt.load ?_; (refine RW.y (Y.loadB rfl (by assumption) rfl) rfl ?_)) | (refine Gt.guard ?_; (refine RW.on rfl rfl rfl ?_)) | (refine Gt.move ?_; refine RW.y (Y.move rfl) rfl ?_) | (refine Gt.fieldAddr ?_; refine RW.y (Y.fieldAddr rfl (by rfl)) rfl ?_) | (refine Gt.assign ?_; refine RW.y (Y.assign rfl) rfl ?_) | (refine Gt.len ?_; (refine RW.y (Y.lenx rfl (by assumption)) rfl ?_)) | (refine Gt.neq ?_; (refine RW.y (Y.nei rfl rfl) rfl ?_)) | (refine Gt.pick ?_; (refine RW.y (Y.pickF rfl rfl) rfl ?_)))
  all_goals try contradiction
  refine CL.loopS [2, 3, 5] (fun m vals wr => ∃ i : Nat, vals = [.pointer (some ⟨w.heap.size, 0, none⟩), .pointer (some ⟨w1.heap.size, 0, none⟩), .int .i64 (i : Int)] ∧ m = R.length - i ∧ i ≤ R.length ∧ K0 w2 wr) R.length ⟨_, rfl, 0, rfl, rfl, Nat.zero_le _, Kept.refl _ _⟩ ?_
  rintro m vals wr ⟨i, rfl, rfl, hi, hkr⟩
  dsimp only [List.zip, List.zipWith]
  have hsr := hs2.keep0 hkr
  have hsr' := hs2'.keep0 hkr
  have hbr1 := hkr.at0 hb12
  have hbr2 := hkr.at0 hb2'
  rcases Nat.lt_or_ge i R.length with hlt | hge
  · have hti : ((i : Int)).toNat = i := Int.toNat_natCast i
    have hKr := hK2.trans0 hkr
    obtain ⟨L, hL, hsL, hmL⟩ := (hm _ (getD_mem default hlt)).keep0 hKr
    obtain ⟨L', hL', hsL', hmL'⟩ := (hm' (R'.getD i default) (getD_mem default (by omega))).keep0 hKr
    rw [getD_or hR hlt] at hL
    rw [getD_or hR' (by omega)] at hL'
    have hLl : L'.length = L.length := by have h1 := congrArg List.length hL; have h2 := congrArg List.length hL'; rw [List.length_map] at h1 h2; omega
    have hmL9 : L.length ≤ 9223372036854775807 := by have := hsL.2.1; simpa [maxLen] using this
    rw [hLl] at hsL'
    have hc1 : ∀ {w' : World}, K0 wr w' → w'.cell? (Value.spot p (((i : Int)).toNat * 1)) = some (R.getD i default).2 := fun h => by rw [hti, Nat.mul_one]; exact (hsr.keep0 h).cell (by simp [List.getD_eq_getElem?_getD, hlt])
    have hc2 : ∀ {w' : World}, K0 wr w' → w'.cell? (Value.spot p' (((i : Int)).toNat * 1)) = some (R'.getD i default).2 := fun h => by rw [hti, Nat.mul_one]; exact (hsr'.keep0 h).cell (by simp [List.getD_eq_getElem?_getD, hlt, hRl])
    repeat' (first | (refine CL.seq ?_) | (refine CL.region ?_) | (refine CL.skip ?_) | (refine CL.condP rfl (fun _ => ?_) (fun _ => ?_) <;> try (exfalso; omega)) | (refine CL.block ?_) | (refine Gt.nil ?_; refine RW.nilw [0, 1, 2, 3, 4, 5, 6, 20, 25, 40, 48, 91] ?_; dsimp only [H.keep, H.look, H.Fr.put, Nat.beq]) | (refine Gt.load ?_; (refine RW.y (Y.loadB rfl (by assumption) rfl) rfl ?_)) | (refine Gt.move ?_; refine RW.y (Y.move rfl) rfl ?_) | (refine Gt.fieldAddr ?_; refine RW.y (Y.fieldAddr rfl (by rfl)) rfl ?_) | (refine Gt.len ?_; (refine RW.y (Y.lenx rfl (by assumption)) rfl ?_)) | (refine Gt.lss ?_; refine RW.y (Y.lss rfl rfl) rfl ?_))
    refine CL.draw (fun w' => K0 wr w') (by kernel_rfl) (fun w3 hheap hk3 => ?_)
    have hS : K0 wr w3 := hk3
    skip
    refine AW.take 0 rfl (by kernel_rfl) (by kernel_rfl) (by kernel_rfl) rfl (by assumption) (fun w hS => Y.fieldAddr rfl (by rfl)) ?_
    refine AW.take 1 rfl (by kernel_rfl) (by kernel_rfl) (by kernel_rfl) rfl (by assumption) (fun w hS => Y.loadB rfl (hS.at0 hbr1) rfl) ?_
    refine AW.take 2 rfl (by kernel_rfl) (by kernel_rfl) (by kernel_rfl) rfl (by assumption) (fun w hS => Y.move rfl) ?_
    refine AW.take 3 rfl (by kernel_rfl) (by kernel_rfl) (by kernel_rfl) rfl (by assumption) (fun w hS => Y.idx rfl rfl (hsr.keep0 hS) (by omega) (by omega)) ?_
    refine AW.take 4 rfl (by kernel_rfl) (by kernel_rfl) (by kernel_rfl) rfl (by assumption) (fun w hS => Y.load1 rfl (hc1 hS)) ?_
    refine AW.take 5 rfl (by kernel_rfl) (by kernel_rfl) (by kernel_rfl) rfl (by assumption) (fun w hS => Y.lenx rfl (hsL.keep0 hS)) ?_
    refine AW.take 6 rfl (by kernel_rfl) (by kernel_rfl) (by kernel_rfl) rfl (by assumption) (fun w hS => Y.fieldAddr rfl (by rfl)) ?_
    refine AW.take 7 rfl (by kernel_rfl) (by kernel_rfl) (by kernel_rfl) rfl (by assumption) (fun w hS => Y.loadB rfl (hS.at0 hbr2) rfl) ?_
    refine AW.take 8 rfl (by kernel_rfl) (by kernel_rfl) (by kernel_rfl) rfl (by assumption) (fun w hS => Y.move rfl) ?_
    refine AW.take 9 rfl (by kernel_rfl) (by kernel_rfl) (by kernel_rfl) rfl (by assumption) (fun w hS => Y.idx rfl rfl (hsr'.keep0 hS) (by omega) (by omega)) ?_
    refine AW.take 10 rfl (by kernel_rfl) (by kernel_rfl) (by kernel_rfl) rfl (by assumption) (fun w hS => Y.load1 rfl (hc2 hS)) ?_
    refine AW.take 11 rfl (by kernel_rfl) (by kernel_rfl) (by kernel_rfl) rfl (by assumption) (fun w hS => Y.lenx rfl (hsL'.keep0 hS)) ?_
    refine AW.take 12 rfl (by kernel_rfl) (by kernel_rfl) (by kernel_rfl) rfl (by assumption) (fun w hS => Y.neiS rfl rfl) ?_
    refine AW.donew [2, 3, 5, 40] (by kernel_rfl) ?_
    dsimp only [H.keep, H.look, H.Fr.put, Nat.beq]
    have hsr3 := hsr.keep0 hk3
    have hsr3' := hsr'.keep0 hk3
    have hb31 := hk3.at0 hbr1
    have hb32 := hk3.at0 hbr2
    have hsL3 := hsL.keep0 hk3
    have hsL3' := hsL'.keep0 hk3
    rw [← hti] at hsL3
    repeat' (first | (refine CL.seq ?_) | (refine CL.region ?_) | (refine CL.skip ?_) | (refine CL.condF rfl ?_) | (refine CL.block ?_) | (refine Gt.nil ?_; refine RW.nilw [0, 1, 2, 3, 4, 5, 6, 20, 25, 40, 48, 91] ?_; dsimp only [H.keep, H.look, H.Fr.put, Nat.beq]) | (refine Gt.assign ?_; refine RW.y (Y.assign rfl) rfl ?_))
    refine CL.loopS [2, 3, 5, 6] (fun m vals wv => ∃ k : Nat, vals = [.pointer (some ⟨w.heap.size, 0, none⟩), .pointer (some ⟨w1.heap.size, 0, none⟩), .int .i64 (i : Int), .int .i64 (k : Int)] ∧ m = L.length - k ∧ k ≤ L.length ∧ K0 w3 wv) L.length ⟨_, rfl, 0, rfl, rfl, Nat.zero_le _, Kept.refl _ _⟩ ?_
    rintro m vals wv ⟨k, rfl, rfl, hk, hkv⟩
    dsimp only [List.zip, List.zipWith]
    have hsv := hsr3.keep0 hkv
    have hsv' := hsr3'.keep0 hkv
    have hv1 := hkv.at0 hb31
    have hv2 := hkv.at0 hb32
    have hLv := hsL3.keep0 hkv
    have hkrv := hk3.trans0 hkv
    rcases Nat.lt_or_ge k L.length with hkl | hkg
    · have hyl := hmL _ (getD_mem default hkl)
      have hyl' := hmL' (L'.getD k default) (getD_mem default (by omega))
      have hq := bdSpot (hsL.keep0 hkrv) hkl
      have hq' := bdSpot (L := L') (by rw [hLl]; exact hsL'.keep0 hkrv) (k := k) (by omega)
      have he : (L'.getD k default).1 = (L.getD k default).1 := by rw [getD_bd hL hkl, getD_bd hL' (by omega)]
      rw [he] at hyl' hq'
      obtain ⟨g, o, hsp, hcs⟩ := hq
      obtain ⟨g', o', hsp', hcs'⟩ := hq'
      repeat' (first | (refine CL.seq ?_) | (refine CL.region ?_) | (refine CL.skip ?_) | (refine CL.condP rfl (fun _ => ?_) (fun _ => ?_) <;> try (exfalso; omega)) | (refine CL.block ?_) | (refine Gt.nil ?_; refine RW.nilw [0, 1, 2, 3, 4, 5, 6, 20, 25, 40, 48, 91] ?_; dsimp only [H.keep, H.look, H.Fr.put, Nat.beq]) | (refine Gt.load ?_; (refine RW.y (Y.loadB rfl (by assumption) rfl) rfl ?_)) | (refine Gt.move ?_; refine RW.y (Y.move rfl) rfl ?_) | (refine Gt.fieldAddr ?_; refine RW.y (Y.fieldAddr rfl (by rfl)) rfl ?_) | (refine Gt.idx ?_; (refine RW.elemM rfl rfl rfl rfl (by assumption) (by omega) (by omega) ?_)) | (refine Gt.len ?_; (refine RW.y (Y.lenx rfl (by assumption)) rfl ?_)) | (refine Gt.lss ?_; refine RW.y (Y.lss rfl rfl) rfl ?_))
      refine CL.draw (fun w' => K0 wv w') (by kernel_rfl) (fun w4 hheap4 hk4 => ?_)
      have hS : K0 wv w4 := hk4
      skip
      refine AW.take 0 rfl (by kernel_rfl) (by kernel_rfl) (by kernel_rfl) rfl (by assumption) (fun w hS => Y.fieldAddr rfl (by rfl)) ?_
      refine AW.take 1 rfl (by kernel_rfl) (by kernel_rfl) (by kernel_rfl) rfl (by assumption) (fun w hS => Y.loadB rfl (hS.at0 hv1) rfl) ?_
      refine AW.take 2 rfl (by kernel_rfl) (by kernel_rfl) (by kernel_rfl) rfl (by assumption) (fun w hS => Y.move rfl) ?_
      refine AW.take 3 rfl (by kernel_rfl) (by kernel_rfl) (by kernel_rfl) rfl (by assumption) (fun w hS => Y.idx rfl rfl (hsv.keep0 hS) (by omega) (by omega)) ?_
      refine AW.take 4 rfl (by kernel_rfl) (by kernel_rfl) (by kernel_rfl) rfl (by assumption) (fun w hS => Y.load1 rfl (hc1 (hkrv.trans0 hS))) ?_
      refine AW.take 5 rfl (by kernel_rfl) (by kernel_rfl) (by kernel_rfl) rfl (by assumption) (fun w hS => Y.move rfl) ?_
      refine AW.take 6 rfl (by kernel_rfl) (by kernel_rfl) (by kernel_rfl) rfl (by assumption) (fun w hS => Y.idx rfl rfl (hsL.keep0 (hkrv.trans0 hS)) (by omega) (by omega)) ?_
      refine AW.take 7 rfl (by kernel_rfl) (by kernel_rfl) (by kernel_rfl) rfl (by assumption) (fun w hS => Y.fieldAddr (congrArg (fun a => some (Value.pointer (some a))) hsp) (by rfl)) ?_
      refine AW.take 8 rfl (by kernel_rfl) (by kernel_rfl) (by kernel_rfl) rfl (by assumption) (fun w hS => Y.load1A rfl (hcs _ hS).1) ?_
      refine AW.take 9 rfl (by kernel_rfl) (by kernel_rfl) (by kernel_rfl) rfl (by assumption) (fun w hS => Y.fieldAddr rfl (by rfl)) ?_
      refine AW.take 10 rfl (by kernel_rfl) (by kernel_rfl) (by kernel_rfl) rfl (by assumption) (fun w hS => Y.loadB rfl (hS.at0 hv2) rfl) ?_
      refine AW.take 11 rfl (by kernel_rfl) (by kernel_rfl) (by kernel_rfl) rfl (by assumption) (fun w hS => Y.move rfl) ?_
      refine AW.take 12 rfl (by kernel_rfl) (by kernel_rfl) (by kernel_rfl) rfl (by assumption) (fun w hS => Y.idx rfl rfl (hsv'.keep0 hS) (by omega) (by omega)) ?_
      refine AW.take 13 rfl (by kernel_rfl) (by kernel_rfl) (by kernel_rfl) rfl (by assumption) (fun w hS => Y.load1 rfl (hc2 (hkrv.trans0 hS))) ?_
      refine AW.take 14 rfl (by kernel_rfl) (by kernel_rfl) (by kernel_rfl) rfl (by assumption) (fun w hS => Y.move rfl) ?_
      refine AW.take 15 rfl (by kernel_rfl) (by kernel_rfl) (by kernel_rfl) rfl (by assumption) (fun w hS => Y.idx rfl rfl (hsL'.keep0 (hkrv.trans0 hS)) (by omega) (by omega)) ?_
      refine AW.take 16 rfl (by kernel_rfl) (by kernel_rfl) (by kernel_rfl) rfl (by assumption) (fun w hS => Y.fieldAddr (congrArg (fun a => some (Value.pointer (some a))) hsp') (by rfl)) ?_
      refine AW.take 17 rfl (by kernel_rfl) (by kernel_rfl) (by kernel_rfl) rfl (by assumption) (fun w hS => Y.load1A rfl (hcs' _ hS).1) ?_
      refine AW.take 18 rfl (by kernel_rfl) (by kernel_rfl) (by kernel_rfl) rfl (by assumption) (fun w hS => Y.nesS rfl rfl) ?_
      refine AW.take 19 rfl (by kernel_rfl) (by kernel_rfl) (by kernel_rfl) rfl (by assumption) (fun w hS => Y.move rfl) ?_
      refine AW.takeOn 20 rfl (by kernel_rfl) (by kernel_rfl) (by kernel_rfl) rfl rfl rfl rfl (by assumption) (fun w hS => Y.fieldAddr rfl (by rfl)) ?_
      refine AW.takeOn 21 rfl (by kernel_rfl) (by kernel_rfl) (by kernel_rfl) rfl rfl rfl rfl (by assumption) (fun w hS => Y.loadB rfl (hS.at0 hv1) rfl) ?_
      refine AW.takeOn 22 rfl (by kernel_rfl) (by kernel_rfl) (by kernel_rfl) rfl rfl rfl rfl (by assumption) (fun w hS => Y.move rfl) ?_
      refine AW.takeOn 23 rfl (by kernel_rfl) (by kernel_rfl) (by kernel_rfl) rfl rfl rfl rfl (by assumption) (fun w hS => Y.idx rfl rfl (hsv.keep0 hS) (by omega) (by omega)) ?_
      refine AW.takeOn 24 rfl (by kernel_rfl) (by kernel_rfl) (by kernel_rfl) rfl rfl rfl rfl (by assumption) (fun w hS => Y.load1 rfl (hc1 (hkrv.trans0 hS))) ?_
      refine AW.takeOn 25 rfl (by kernel_rfl) (by kernel_rfl) (by kernel_rfl) rfl rfl rfl rfl (by assumption) (fun w hS => Y.move rfl) ?_
      refine AW.takeOn 26 rfl (by kernel_rfl) (by kernel_rfl) (by kernel_rfl) rfl rfl rfl rfl (by assumption) (fun w hS => Y.idx rfl rfl (hsL.keep0 (hkrv.trans0 hS)) (by omega) (by omega)) ?_
      refine AW.takeOn 27 rfl (by kernel_rfl) (by kernel_rfl) (by kernel_rfl) rfl rfl rfl rfl (by assumption) (fun w hS => Y.fieldAddr (congrArg (fun a => some (Value.pointer (some a))) hsp) (by rfl)) ?_
      refine AW.takeOn 28 rfl (by kernel_rfl) (by kernel_rfl) (by kernel_rfl) rfl rfl rfl rfl (by assumption) (fun w hS => Y.loadN (cs := [_, _, _, _]) rfl rfl (hcs _ hS).2) ?_
      refine AW.takeOn 29 rfl (by kernel_rfl) (by kernel_rfl) (by kernel_rfl) rfl rfl rfl rfl (by assumption) (fun w hS => Y.fieldAddr rfl (by rfl)) ?_
      refine AW.takeOn 30 rfl (by kernel_rfl) (by kernel_rfl) (by kernel_rfl) rfl rfl rfl rfl (by assumption) (fun w hS => Y.loadB rfl (hS.at0 hv2) rfl) ?_
      refine AW.takeOn 31 rfl (by kernel_rfl) (by kernel_rfl) (by kernel_rfl) rfl rfl rfl rfl (by assumption) (fun w hS => Y.move rfl) ?_
      refine AW.takeOn 32 rfl (by kernel_rfl) (by kernel_rfl) (by kernel_rfl) rfl rfl rfl rfl (by assumption) (fun w hS => Y.idx rfl rfl (hsv'.keep0 hS) (by omega) (by omega)) ?_
      refine AW.takeOn 33 rfl (by kernel_rfl) (by kernel_rfl) (by kernel_rfl) rfl rfl rfl rfl (by assumption) (fun w hS => Y.load1 rfl (hc2 (hkrv.trans0 hS))) ?_
      refine AW.takeOn 34 rfl (by kernel_rfl) (by kernel_rfl) (by kernel_rfl) rfl rfl rfl rfl (by assumption) (fun w hS => Y.move rfl) ?_
      refine AW.takeOn 35 rfl (by kernel_rfl) (by kernel_rfl) (by kernel_rfl) rfl rfl rfl rfl (by assumption) (fun w hS => Y.idx rfl rfl (hsL'.keep0 (hkrv.trans0 hS)) (by omega) (by omega)) ?_
      refine AW.takeOn 36 rfl (by kernel_rfl) (by kernel_rfl) (by kernel_rfl) rfl rfl rfl rfl (by assumption) (fun w hS => Y.fieldAddr (congrArg (fun a => some (Value.pointer (some a))) hsp') (by rfl)) ?_
      refine AW.takeOn 37 rfl (by kernel_rfl) (by kernel_rfl) (by kernel_rfl) rfl rfl rfl rfl (by assumption) (fun w hS => Y.loadN (cs := [_, _, _, _]) rfl rfl (hcs' _ hS).2) ?_
      refine AW.next 38 rfl (by kernel_rfl) ?_
      refine RW.on rfl rfl rfl ?_
      refine RW.fn rfl rfl ((helpVersion _ _ (L.getD k default).1.v (L.getD k default).1.v w4 ⟨_, rfl, hyl.keep0 (hkrv.trans0 hk4)⟩ ⟨_, rfl, hyl'.keep0 (hkrv.trans0 hk4)⟩).mono ?_)
      rintro e w5 ⟨hk5, rfl⟩
      rw [eqV_self]
      refine RW.nil (Nm.then (rebase0 hS hk5 fun hS => ?_))
      refine AW.takeOn 39 rfl (by kernel_rfl) (by kernel_rfl) (by kernel_rfl) rfl rfl rfl rfl (by assumption) (fun w hS => by exact Y.notb rfl) ?_
      refine AW.take 40 rfl (by kernel_rfl) (by kernel_rfl) (by kernel_rfl) rfl (by assumption) (fun w hS => by exact Y.pickF rfl rfl) ?_
      refine AW.donew [2, 3, 5, 6, 91] (by kernel_rfl) ?_
      dsimp only [H.keep, H.look, H.Fr.put, Nat.beq]
      repeat' (first | (refine CL.region ?_) | (refine CL.skip ?_) | (refine CL.condF rfl ?_) | (refine CL.done ?_) | (refine Nm.block ?_) | (refine Nm.then ?_) | (refine Gt.nil ?_; refine RW.nilw [0, 1, 2, 3, 4, 5, 6, 20, 25, 40, 48, 91] ?_; dsimp only [H.keep, H.look, H.Fr.put, Nat.beq]) | (refine Gt.move ?_; refine RW.y (Y.move rfl) rfl ?_) | (refine Gt.assign ?_; refine RW.y (Y.assign rfl) rfl ?_) | (refine Gt.add ?_; refine RW.y (Y.add64 rfl rfl (by omega) (by omega)) rfl ?_))
      exact ⟨L.length - (k + 1), _, rfl, rfl, rfl, by omega, k + 1, rfl, rfl, by omega, (hkv.trans0 hk4).trans0 hk5⟩
    · have hk : k = L.length := by omega
      subst hk
      repeat' (first | (refine CL.seq ?_) | (refine CL.region ?_) | (refine CL.condP rfl (fun _ => ?_) (fun _ => ?_) <;> try (exfalso; omega)) | (refine CL.exit ?_) | (refine Ex.then ?_) | (refine Ex.hit ?_) | (refine CL.done ?_) | (refine Nm.block ?_) | (refine Nm.then ?_) | (refine Gt.nil ?_; refine RW.nilw [0, 1, 2, 3, 4, 5, 6, 20, 25, 40, 48, 91] ?_; dsimp only [H.keep, H.look, H.Fr.put, Nat.beq]) | (refine Gt.load ?_; (refine RW.y (Y.loadB rfl (by assumption) rfl) rfl ?_)) | (refine Gt.move ?_; refine RW.y (Y.move rfl) rfl ?_) | (refine Gt.fieldAddr ?_; refine RW.y (Y.fieldAddr rfl (by rfl)) rfl ?_) | (refine Gt.assign ?_; refine RW.y (Y.assign rfl) rfl ?_) | (refine Gt.idx ?_; (refine RW.elemM rfl rfl rfl rfl (by assumption) (by omega) (by omega) ?_)) | (refine Gt.len ?_; (refine RW.y (Y.lenx rfl (by assumption)) rfl ?_)) | (refine Gt.lss ?_; refine RW.y (Y.lss rfl rfl) rfl ?_) | (refine Gt.add ?_; refine RW.y (Y.add64 rfl rfl (by omega) (by omega)) rfl ?_))
      exact ⟨R.length - (i + 1), _, rfl, rfl, rfl, by omega, i + 1, rfl, rfl, by omega, (hkr.trans0 hk3).trans0 hkv⟩
  · have hi : i = R.length := by omega
    subst hi
    repeat' (first | (refine CL.seq ?_) | (refine CL.region ?_) | (refine CL.condP rfl (fun _ => ?_) (fun _ => ?_) <;> try (exfalso; omega)) | (refine CL.exit ?_) | (refine Ex.then ?_) | (refine Ex.hit ?_) | (refine CL.ret ?_) | (refine Gt.nil ?_; refine RW.nilw [0, 1, 2, 3, 4, 5, 6, 20, 25, 40, 48, 91] ?_; dsimp only [H.keep, H.look, H.Fr.put, Nat.beq]) | (refine Gt.load ?_; (refine RW.y (Y.loadB rfl (by assumption) rfl) rfl ?_)) | (refine Gt.move ?_; refine RW.y (Y.move rfl) rfl ?_) | (refine Gt.fieldAddr ?_; refine RW.y (Y.fieldAddr rfl (by rfl)) rfl ?_) | (refine Gt.assign ?_; refine RW.y (Y.assign rfl) rfl ?_) | (refine Gt.len ?_; (refine RW.y (Y.lenx rfl (by assumption)) rfl ?_)) | (refine Gt.lss ?_; refine RW.y (Y.lss rfl rfl) rfl ?_))
    exact FQ.one rfl rfl rfl ⟨hK2.trans0 hkr, rfl⟩

def lightS (s : Spn) : Bool := decide (s.or.length ≤ 5) && s.or.all (fun l => decide (l.length ≤ 5) && l.all (fun b => decide (b.sign.length ≤ 5) && lightB b.v))
end Go.Proofs.YtjlkmdmpejpmpaaGreatDoor.Sp

namespace Go.Proofs.YtjlkmdmpejpmpaaGreatDoor.H
open Go.RowKit
section
variable {P : Program} {ops : Array Oper} {Q : Post} {f : Fr} {w : World} {S : World → Prop}
end
end Go.Proofs.YtjlkmdmpejpmpaaGreatDoor.H

namespace Go.Proofs.YtjlkmdmpejpmpaaGreatDoor.H
open Go.RowKit
section
variable {P : Program} {ops : Array Oper} {Q : Exit → Act → World → Prop} {md : Region.Mode} {S : World → Prop} {Z : Nat → Bool}
/-- Whatever order is picked: S holds behind every operation that is none of Z. -/
def wpAnyL (P : Program) (md : Region.Mode) (ops : Array Oper) (Q : Exit → Act → World → Prop) (S : World → Prop) (Z : Nat → Bool) : Nat → Array Bool → Act → World → Prop
  | 0, listed, a, w => Region.ready md ops listed = [] ∧ Q .normal a w
  | fuel + 1, listed, a, w =>
    (Region.ready md ops listed = [] → Q .normal a w) ∧
    ∀ i ∈ Region.ready md ops listed, wpOp P ops Q i (fun a' w' => (Z i = false → S w') ∧ wpAnyL P md ops Q S Z fuel (listed.setIfInBounds i true) a' w') a w
theorem wpAny_of_L : ∀ (fuel : Nat) (listed : Array Bool) (a : Act) (w : World), wpAnyL P md ops Q S Z fuel listed a w → wpAny P md ops Q fuel listed a w
  | 0, _, _, _, h => h
  | fuel + 1, _, _, _, h => ⟨h.1, fun i hi => wpOp_mono (fun a' w' h' => wpAny_of_L fuel _ a' w' h'.2) (h.2 i hi)⟩
theorem wpAnyL_first {C : Nat → Prop} {i : Nat} {oi : Oper} {v : Value} (hi : ops[i]? = some oi) (hsel : ∀ (j : Nat) (o : Oper) cs b, ops[j]? = some o → o.op ≠ .select cs b)
    (hQ : ∀ c a w, Q (.panic c) (a.put oi.dst v) w → Q (.panic c) a w) :
    ∀ (fuel : Nat) (listed : Array Bool) (a : Act) (w : World),
      (∀ j oj, ops[j]? = some oj → j ≠ i → listed.getD j true = false → (∀ e ∈ oj.after, Region.binds md e = true → e.on ≠ i) → oi.apart ops oj = true) →
      (∀ j, C j → j ≠ i ∧ listed.getD j true = false ∧ ∃ oj, ops[j]? = some oj ∧ ∃ e ∈ oj.after, Region.binds md e = true ∧ (e.on = i ∨ C e.on)) →
      (∀ j oj, ops[j]? = some oj → Z j = true → j ≠ i → C j) →
      i ∈ Region.ready md ops listed → YieldsIf P ops S oi v a → S w →
      wpAnyL P md ops Q S Z fuel (listed.setIfInBounds i true) (a.put oi.dst v) w → wpAnyL P md ops Q S Z (fuel + 1) listed a w := by
  intro fuel
  induction fuel with
  | zero =>
    intro listed a w _ _ _ hr hy hS H
    refine ⟨fun h => (by rw [h] at hr; cases hr), fun j hj => ?_⟩
    by_cases hji : j = i
    · subst hji; exact hy.wpOp hi hS ⟨fun _ => hS, H⟩
    · have := ready_mono hj hji
      rw [H.1] at this
      cases this
  | succ fuel ih =>
    intro listed a w hfree hwait hzc hr hy hS H
    refine ⟨fun h => (by rw [h] at hr; cases hr), fun j hj => ?_⟩
    by_cases hji : j = i
    · subst hji; exact hy.wpOp hi hS ⟨fun _ => hS, H⟩
    · have h1 := H.2 j (ready_mono hj hji)
      obtain ⟨hjun, oj, hoj, hall⟩ := mem_ready.1 hj
      have hnot : ∀ e ∈ oj.after, Region.binds md e = true → e.on ≠ i := fun e he hb heq => by
        have h1 := hall e he hb
        have h0 := (mem_ready.1 hr).1
        rw [heq] at h1
        rcases Nat.lt_or_ge i listed.size with h' | h'
        · simp [h'] at h0 h1; rw [h0] at h1; cases h1
        · simp [Array.getElem?_eq_none h'] at h1
      have hlisted : ∀ e ∈ oj.after, Region.binds md e = true → listed.getD e.on true = true := fun e he hb => by
        have h1 := hall e he hb
        rcases Nat.lt_or_ge e.on listed.size with h' | h'
        · simp [h'] at h1 ⊢; exact h1
        · simp [Array.getD, Nat.not_lt.2 h']
      have hcj : ¬ C j := fun hc => by
        obtain ⟨_, _, oj', hoj', e, he, hb, ho⟩ := hwait j hc
        rw [hoj] at hoj'
        cases hoj'
        rcases ho with ho | ho
        · exact hnot e he hb ho
        · have := (hwait e.on ho).2.1
          rw [hlisted e he hb] at this
          cases this
      have hz : Z j = false := by
        cases hzj : Z j with
        | false => rfl
        | true => exact absurd (hzc j oj hoj hzj hji) hcj
      have h2 := wpOp_putIf hoj (hfree j oj hoj hji hjun hnot) (fun cs b => hsel i oi cs b hi) (fun cs b => hsel j oj cs b hoj) hQ hy h1
      have hun' : ∀ k, (listed.setIfInBounds j true).getD k true = false → listed.getD k true = false := fun k hun => by
        by_cases hjk : j = k
        · subst hjk; exact hjun
        · rw [getD_set_ne true hjk] at hun; exact hun
      refine wpOp_mono (fun a' w' h3 => ⟨h3.2.1, ih (listed.setIfInBounds j true) a' w' (fun k ok hk hki hun => hfree k ok hk hki (hun' k hun)) (fun k hk => ⟨(hwait k hk).1, by rw [getD_set_ne true (fun (h : j = k) => hcj (by rw [h]; exact hk))]; exact (hwait k hk).2.1, (hwait k hk).2.2⟩) hzc (ready_mono hr (Ne.symm hji)) h3.1 (h3.2.1 hz) ?_⟩) h2
      rw [Array.setIfInBounds_comm _ _ hji]
      exact h3.2.2
theorem wpAnyL_all {rs : List Nat} {fuel : Nat} {listed : Array Bool} {a : Act} {w : World} (hr : Region.ready md ops listed = rs) (hne : rs ≠ [])
    (h : ∀ i ∈ rs, wpOp P ops Q i (fun a' w' => (Z i = false → S w') ∧ wpAnyL P md ops Q S Z fuel (listed.setIfInBounds i true) a' w') a w) : wpAnyL P md ops Q S Z (fuel + 1) listed a w :=
  ⟨fun h0 => absurd (hr ▸ h0) hne, hr ▸ h⟩
theorem wpAnyL_done {listed : Array Bool} {a : Act} {w : World} (hr : Region.ready md ops listed = []) (h : Q .normal a w) :
    ∀ fuel, wpAnyL P md ops Q S Z fuel listed a w
  | 0 => ⟨hr, h⟩
  | _ + 1 => ⟨fun _ => h, by rw [hr]; simp⟩
/-- The writes that are left wait for number i, each one or by others of C. -/
def waits (ops : Array Oper) (Z : Nat → Bool) (l : Array Bool) (C : List Nat) (i : Nat) : Bool :=
  C.all (fun j => !(Nat.beq j i) && !(l.getD j true) && (match ops[j]? with | some o => o.after.any (fun e => Region.binds .any e && (Nat.beq e.on i || C.any (Nat.beq e.on))) | none => false)) && (List.range ops.size).all (fun j => !Z j || Nat.beq j i || C.any (Nat.beq j))
theorem any_beq {C : List Nat} {j : Nat} (h : C.any (Nat.beq j) = true) : j ∈ C := by
  obtain ⟨k, hk, e⟩ := List.any_eq_true.1 h
  rw [Nat.eq_of_beq_eq_true e]; exact hk
theorem waits_spec {l : Array Bool} {C : List Nat} {i : Nat} (h : waits ops Z l C i = true) : (∀ j, j ∈ C → j ≠ i ∧ l.getD j true = false ∧ ∃ oj, ops[j]? = some oj ∧ ∃ e ∈ oj.after, Region.binds .any e = true ∧ (e.on = i ∨ e.on ∈ C)) ∧ (∀ j oj, ops[j]? = some oj → Z j = true → j ≠ i → j ∈ C) := by
  rw [waits, Bool.and_eq_true] at h
  obtain ⟨h1, h2⟩ := h
  refine ⟨fun j hj => ?_, fun j oj ho hz hne => ?_⟩
  · have h3 := List.all_eq_true.1 h1 j hj
    rw [Bool.and_eq_true, Bool.and_eq_true] at h3
    obtain ⟨⟨h3, h4⟩, h5⟩ := h3
    refine ⟨(fun c => by subst c; rw [beq_self] at h3; cases h3), by simpa using h4, ?_⟩
    cases ho : ops[j]? with
    | none => rw [ho] at h5; cases h5
    | some oj =>
      rw [ho] at h5
      simp only [Array.any_eq_true'] at h5
      obtain ⟨e, he, h6⟩ := h5
      rw [Bool.and_eq_true, Bool.or_eq_true] at h6
      exact ⟨oj, rfl, e, he, h6.1, h6.2.imp Nat.eq_of_beq_eq_true any_beq⟩
  · have h3 := List.all_eq_true.1 h2 j (List.mem_range.2 (Array.getElem?_eq_some_iff.1 ho).1)
    rw [Bool.or_eq_true, Bool.or_eq_true] at h3
    rcases h3 with (h3 | h3) | h3
    · rw [hz] at h3; cases h3
    · exact absurd (Nat.eq_of_beq_eq_true h3) hne
    · exact any_beq h3
end
section
variable {P : Program} {ops : Array Oper} {Q : Post} {f : Fr} {w : World} {S : World → Prop} {Z : Nat → Bool}
def AL (P : Program) (ops : Array Oper) (Q : Post) (S : World → Prop) (Z : Nat → Bool) (n : Nat) (l : Array Bool) (f : Fr) (w : World) : Prop := ∀ a, Ag f a → wpAnyL P .any ops (lift Q) S Z n l a w
theorem CL.drawz {cs : List Code} {id : Nat} (S : World → Prop) (Z : Nat → Bool) (hm : P.follows .mixedOrders = true) (h : ∀ w', w'.heap = w.heap → K0 w w' → AL P ops (thenK (CL none P Q cs) Q) S Z ops.size (Array.replicate ops.size false) f w') : CL none P Q (.region id ops true :: cs) f w :=
  fun a ha => wp_region_any hm (wpAny_of_L _ _ _ _ (h { w with drawn := w.drawn + 1 } rfl (Kept.drew w) a ha))
theorem AL.takeY (i : Nat) (C : List Nat) {o : Oper} {d : Option Nat} {v : Value} {n : Nat} {l : Array Bool} (hi : ops[i]? = some o) (hz : waits ops Z l C i = true) (hs : Region.noSelect ops = true) (hf : Region.free .any ops l i = true) (hr : (Region.ready .any ops l).contains i = true)
    [PI Q] (hS : S w) {a : Act} (hy : YieldsIf P ops S o v a) (k : wpAnyL P .any ops (lift Q) S Z n (l.setIfInBounds i true) (a.put o.dst v) w) : wpAnyL P .any ops (lift Q) S Z (n + 1) l a w :=
  wpAnyL_first (C := (· ∈ C)) hi (Region.noSelect_spec hs) (PI.lift _ _) n l a w (Region.free_spec hi hf) (waits_spec hz).1 (waits_spec hz).2 (by simpa using hr) hy hS k
theorem AL.take (i : Nat) (C : List Nat) {op : Op} {ty : TypeId} {pos : String} {af : Array Edge} {d : Nat} {v : Value} {n : Nat} {l : Array Bool} (hi : ops[i]? = some { dst := some d, op := op, type := ty, pos := pos, after := af, guard := none }) (hs : Region.noSelect ops = true) (hf : Region.free .any ops l i = true) (hr : (Region.ready .any ops l).contains i = true) (hz : waits ops Z l C i = true)
    [PI Q] (hd : Nat.blt d f.n = true) (hS : S w) (hy : ∀ w, S w → Yd P f { dst := some d, op := op, type := ty, pos := pos, after := af, guard := none } v w) (k : AL P ops Q S Z n (l.setIfInBounds i true) (f.put d v) w) : AL P ops Q S Z (n + 1) l f w := by
  intro a ha
  exact AL.takeY (d := some d) i C hi hz hs hf hr hS (.inl ⟨by simp [Region.wanted], fun w' hw' => hy w' hw' a ha⟩) (k _ (ha.put v hd))
theorem AL.donew {cs : List Code} {n : Nat} {l : Array Bool} (g : List Nat) (hr : Region.ready .any ops l = []) (h : CL none P Q cs ⟨f.n, f.ds, keep g f.e⟩ w) : AL P ops (thenK (CL none P Q cs) Q) S Z n l f w := by
  intro a ha
  have hc := RW.nilw (ops := ops) (M := none) g h a ha
  exact wpAnyL_done hr hc n
theorem AL.one (C : World → Prop) (i : Nat) {o : Oper} {n : Nat} {l : Array Bool} (hC : ∀ w, C w → Z i = false → S w) (hi : ops[i]? = some o) (k : RW none P ops (thenK (fun f w => C w ∧ AL P ops Q S Z n (l.setIfInBounds i true) f w) Q) [o] f w) {a : Act} (ha : Ag f a) : wpOp P ops (lift Q) i (fun a' w' => (Z i = false → S w') ∧ wpAnyL P .any ops (lift Q) S Z n (l.setIfInBounds i true) a' w') a w := by
  have h : wpList P ops _ [o] a w := k a ha
  unfold wpList at h
  unfold wpOp
  simp only [hi]
  have hq : ∀ x a w, lift (thenK (fun f w => C w ∧ AL P ops Q S Z n (l.setIfInBounds i true) f w) Q) x a w → match x with
      | .normal => (Z i = false → S w) ∧ wpAnyL P .any ops (lift Q) S Z n (l.setIfInBounds i true) a w
      | x => lift Q x a w := by
    intro x a w ⟨g, hg, q⟩
    cases x with
    | normal => exact ⟨hC w q.1, q.2 a hg⟩
    | _ => exact ⟨g, hg, q⟩
  by_cases hw : Region.wanted o (yielded ops a.tmps) = true
  · rw [if_pos hw] at h
    simp only [hw, if_true]
    rcases h with h | ⟨h1, a0, w0, h2⟩
    · left
      exact oper_mono (fun a w hk => hq .normal a w hk) (fun c a w hk => hq (.panic c) a w hk) (fun a w hk => hq .outgrown a w hk) h
    · exact .inr ⟨h1, a0, w0, hq .outgrown a0 w0 h2⟩
  · rw [if_neg hw] at h
    simp only [hw, if_false, Bool.false_eq_true]
    exact hq .normal _ _ h
/-- The one that may come next; it is none of the last writes. -/
theorem AL.next (i : Nat) {o : Oper} {n : Nat} {l : Array Bool} (hi : ops[i]? = some o) (hr : Region.ready .any ops l = [i]) (k : RW none P ops (thenK (fun f w => S w ∧ AL P ops Q S Z n (l.setIfInBounds i true) f w) Q) [o] f w) : AL P ops Q S Z (n + 1) l f w := by
  intro a ha
  refine wpAnyL_all hr (by simp) fun j hj => ?_
  rw [List.mem_singleton.1 hj]
  exact AL.one S i (fun _ h _ => h) hi k ha
/-- One of the last writes. -/
theorem AL.last (i : Nat) {o : Oper} {n : Nat} {l : Array Bool} (hi : ops[i]? = some o) (hr : Region.ready .any ops l = [i]) (hz : Z i = true) (k : RW none P ops (thenK (fun f w => True ∧ AL P ops Q S Z n (l.setIfInBounds i true) f w) Q) [o] f w) : AL P ops Q S Z (n + 1) l f w := by
  intro a ha
  refine wpAnyL_all hr (by simp) fun j hj => ?_
  rw [List.mem_singleton.1 hj]
  exact AL.one (fun _ => True) i (fun _ _ h => by rw [hz] at h; cases h) hi k ha
end
end Go.Proofs.YtjlkmdmpejpmpaaGreatDoor.H

namespace Go.Proofs.YtjlkmdmpejpmpaaGreatDoor.H
open Go.RowKit
section
variable {M : Option (Option Nat)} {P : Program} {ops : Array Oper} {Q : Post} {rest : List Oper} {f : Fr} {w : World} {d : Nat} {ty : TypeId} {pos : String} {af : Array Edge}
/-- A slice into a block of the call's own, at any place of it. -/
def Tl (w : World) (base : Nat) (e : TypeId) (sz : Nat) (v : Value) (n : Nat) (xs : List Value) : Prop :=
  xs.length = n * sz ∧ ((v = .slice none 0 0 ∧ n = 0) ∨
   ∃ g off cap cur, v = .slice (some ⟨g, off, none⟩) n cap ∧ base ≤ g ∧ w.heap[g]? = some (.cells cur e (0, 0)) ∧ n ≤ cap ∧ cap ≤ maxLen ∧ off + cap * sz ≤ cur.size ∧ (cur.toList.drop off).take (n * sz) = xs)
end
end Go.Proofs.YtjlkmdmpejpmpaaGreatDoor.H

namespace Go.Proofs.YtjlkmdmpejpmpaaGreatDoor.H
open Go.RowKit
section
variable {P : Program} {f : Fr} {w : World} {d : Nat} {ty : TypeId} {pos : String} {af : Array Edge}
end
end Go.Proofs.YtjlkmdmpejpmpaaGreatDoor.H

namespace Go.Proofs.YtjlkmdmpejpmpaaGreatDoor.H
open Go.RowKit
section
variable {M : Option (Option Nat)} {P : Program} {ops : Array Oper} {Q : Post} {rest : List Oper} {f : Fr} {w : World} {d : Nat} {ty : TypeId} {pos : String} {af : Array Edge}
end
section
variable {M : Option (Option Nat)} {P : Program} {ops : Array Oper} {Q : Post} {rest : List Oper} {f : Fr} {w : World} {d : Nat} {ty : TypeId} {pos : String} {af : Array Edge}
/-- The block of a row, an element of which is written: the row then. -/
theorem own_put {w w' : World} {base : Nat} {e : TypeId} {sz n cap g i : Nat} {cur : Array Value} {xs u : List Value} (h : w.ownsRow base e sz (.slice (some ⟨g, 0, none⟩) n cap) n xs) (hg : w.heap[g]? = some (.cells cur e (0, 0))) (hi : i < n) (hu : u.length = sz)
    (hb : w'.heap[g]? = some (.cells (cur.toList.take (i * sz) ++ u ++ cur.toList.drop (i * sz + sz)).toArray e (0, 0))) : w'.ownsRow base e sz (.slice (some ⟨g, 0, none⟩) n cap) n (xs.take (i * sz) ++ u ++ xs.drop (i * sz + sz)) := by
  rcases h.2 with ⟨h, _⟩ | ⟨g', cap', cur', hv, hB, hg', hnc, hm, hs, ht⟩
  · cases h
  · cases hv
    rw [hg] at hg'; cases hg'
    have hl := h.1
    have hsz : i * sz + sz ≤ n * sz := by rw [← Nat.succ_mul]; exact Nat.mul_le_mul_right _ hi
    have hcs : n * sz ≤ cur.size := by rw [hs]; exact Nat.mul_le_mul_right _ hnc
    have hcl : cur.toList.length = cur.size := rfl
    refine ⟨?_, .inr ⟨g, cap, _, rfl, hB, hb, hnc, hm, ?_, ?_⟩⟩
    · simp only [List.length_append, List.length_take, List.length_drop]; omega
    · simp only [List.size_toArray, List.length_append, List.length_take, List.length_drop]; omega
    · rw [← ht]
      have e1 : (cur.toList.take (i * sz) ++ u).length = i * sz + sz := by simp only [List.length_append, List.length_take]; omega
      rw [List.take_append, e1, List.take_of_length_le (l := cur.toList.take (i * sz) ++ u) (by omega), List.take_take, Nat.min_eq_left (by omega), List.take_drop, Nat.add_sub_of_le hsz]
end
section
variable {P : Program} {f : Fr} {w : World} {d : Nat} {ty : TypeId} {pos : String} {af : Array Edge}
end
end Go.Proofs.YtjlkmdmpejpmpaaGreatDoor.H

namespace Go.Proofs.YtjlkmdmpejpmpaaGreatDoor.H
open Go.RowKit
theorem elSpot {α : Type} [Inhabited α] {w : World} {sz : Nat} {v : Value} {L : List α} {enc : α → List Value} (hs : Sl w sz v L.length (L.flatMap enc)) (he : ∀ x, (enc x).length = sz) {i : Int} (h0 : 0 ≤ i) (hi : i < L.length) : ∃ g o, Value.spot v (i.toNat * sz) = ⟨g, o, none⟩ ∧ ∀ w', K0 w w' → ∀ j u, (enc (L.getD i.toNat default))[j]? = some u → w'.cell? ⟨g, o + j, none⟩ = some u := by
  obtain ⟨n, rfl⟩ : ∃ n : Nat, i = (n : Int) := ⟨i.toNat, by omega⟩
  obtain ⟨g, o, h1⟩ := elPtr hs (by omega) ((n : Int).toNat * sz)
  refine ⟨g, o, h1, fun w' k j u hu => ?_⟩
  rw [Int.toNat_natCast] at hu
  have h2 := elCells (hs.keep0 k) he (show n < L.length by omega) j u hu
  rw [h1, addr_add] at h2
  exact h2
theorem elAll {α : Type} [Inhabited α] {w : World} {sz : Nat} {v : Value} {L : List α} {enc : α → List Value} (hs : Sl w sz v L.length (L.flatMap enc)) (he : ∀ x, (enc x).length = sz) {i : Int} (h0 : 0 ≤ i) (hi : i < L.length) : ∀ w', K0 w w' → ∀ j u, (enc (L.getD i.toNat default))[j]? = some u → w'.cell? ((Value.spot v (i.toNat * sz)).add j) = some u := by
  obtain ⟨n, rfl⟩ : ∃ n : Nat, i = (n : Int) := ⟨i.toNat, by omega⟩
  intro w' k j u hu
  rw [Int.toNat_natCast] at hu
  exact elCells (hs.keep0 k) he (show n < L.length by omega) j u hu
theorem getD_map {α β : Type} (f : α → β) (d : α) (e : β) (l : List α) (i : Nat) (h : i < l.length) : (l.map f).getD i e = f (l.getD i d) := by
  simp [List.getD_eq_getElem?_getD, h]
theorem GA.keep {α : Type} {K : Dp α} {S : Nat → Prop} {w w' : World} {v : Value} {L : List α} (h : GA K w v L) (k : Kept S w w') (hS : ∀ g, g < w.heap.size → (live v = some g ∨ ∃ x ∈ L, K.R x g) → ¬ S g) : GA K w' v L :=
  ⟨h.1.keep k fun g hg => hS g (h.1.lt hg) (.inl hg), fun x hx => K.keep S w w' x (h.2 x hx) k fun g hl hg => hS g hl (.inr ⟨x, hx, hg⟩)⟩
theorem GI.clone {α : Type} {K : Dp α} {w w' : World} {e : TypeId} {u v : Value} {L : List α} (h : GA K w v L) (k : K0 w w') (ho : w'.ownsRow w.heap.size e K.sz u L.length (L.flatMap K.enc)) : GI K w' w.heap.size e u L :=
  ⟨ho, fun x hx => ⟨K.keep0 (h.2 x hx) k, fun g hg c => by have := K.lt w x g (h.2 x hx) hg; have := (ho.lt g c).1; omega⟩⟩
theorem own_block {w : World} {base : Nat} {e : TypeId} {sz n : Nat} {u : Value} {xs : List Value} (h : w.ownsRow base e sz u n xs) (hn : 0 < n) : ∃ g cap cur, u = .slice (some ⟨g, 0, none⟩) n cap ∧ w.heap[g]? = some (.cells cur e (0, 0)) ∧ n * sz ≤ cur.size ∧ base ≤ g := by
  rcases h.2 with ⟨_, h⟩ | ⟨g, cap, cur, rfl, hB, hg, hnc, hm, hs, ht⟩
  · omega
  · exact ⟨g, cap, cur, rfl, hg, by rw [hs]; exact Nat.mul_le_mul_right _ hnc, hB⟩
theorem mem_getD {α : Type} (d : α) {l : List α} {i : Nat} (h : i < l.length) : l.getD i d ∈ l := by
  rw [List.getD_eq_getElem?_getD, List.getElem?_eq_getElem h]; exact List.getElem_mem h
end Go.Proofs.YtjlkmdmpejpmpaaGreatDoor.H

