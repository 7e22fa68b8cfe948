/-
  The program's paths: plain laws of the last stroke; right, part, Parts, Parent, Base, Within, walked.
-/
import Derived.Test.YtcnmgiflogjfeaaDoorPa3
namespace Go.Proofs.YtcnmgiflogjfeaaDoor.Pa
open Go.RowKit H S
attribute [local irreducible] H.CL H.RW H.CW H.Yd H.thenK H.blockQ Go.Calls

theorem glue_split : ∀ (x : List UInt8), glueL (splitB 47 x) = x := by
  intro x
  induction x with
  | nil => rfl
  | cons a r ih =>
    rw [splitB]
    have hne := splitB_ne 47 r
    cases hs : splitB 47 r with
    | nil => exact absurd hs hne
    | cons b t =>
      rw [hs] at ih
      split
      · rename_i h; subst h
        rw [glueL, ih]; rfl
      · simp only [List.headD_cons, List.tail_cons]
        cases t with
        | nil => simp only [glueL] at ih ⊢; rw [ih]
        | cons c t => simp only [glueL, List.cons_append] at ih ⊢; rw [ih]
theorem split_none : ∀ (y : List UInt8), (47 : UInt8) ∉ y → splitB 47 y = [y] := by
  intro y
  induction y with
  | nil => intro _; rfl
  | cons a r ih =>
    intro h
    rw [splitB, if_neg (fun c => h (by simp [c])), ih (fun c => h (List.mem_cons_of_mem _ c))]
    rfl
theorem split_snoc (y : List UInt8) (hy : (47 : UInt8) ∉ y) : ∀ (x : List UInt8), splitB 47 (x ++ 47 :: y) = splitB 47 x ++ [y] := by
  intro x
  induction x with
  | nil =>
    have h : splitB 47 (47 :: y) = [] :: splitB 47 y := by rw [splitB, if_pos rfl]
    rw [List.nil_append, h, split_none y hy]; rfl
  | cons a r ih =>
    have hne := splitB_ne 47 r
    rw [List.cons_append, splitB, ih, splitB]
    cases hs : splitB 47 r with
    | nil => exact absurd hs hne
    | cons b t => split <;> rfl

theorem lastIdxA_spec (c : UInt8) (l : List UInt8) : ∀ n, n ≤ l.length → (lastIdxA c l n = -1 ∧ c ∉ l.take n) ∨ ∃ k : Nat, lastIdxA c l n = (k : Int) ∧ k < n ∧ l.getD k 0 = c ∧ c ∉ (l.take n).drop (k + 1) := by
  intro n
  induction n with
  | zero => intro _; exact .inl ⟨rfl, by simp⟩
  | succ n ih =>
    intro hn
    have htk : l.take (n + 1) = l.take n ++ [l.getD n 0] := take_snoc l n (by omega)
    rw [lastIdxA]
    split
    · rename_i h
      refine .inr ⟨n, rfl, by omega, h, ?_⟩
      rw [htk, List.drop_eq_nil_of_le (by rw [List.length_append, List.length_take]; simp; omega)]
      simp
    · rename_i h
      rcases ih (by omega) with ⟨h1, h2⟩ | ⟨k, h1, h2, h3, h4⟩
      · refine .inl ⟨h1, ?_⟩
        rw [htk, List.mem_append]
        rintro (c1 | c1)
        · exact h2 c1
        · exact h (List.mem_singleton.1 c1).symm
      · refine .inr ⟨k, h1, by omega, h3, ?_⟩
        rw [htk, List.drop_append_of_le_length (by rw [List.length_take]; omega), List.mem_append]
        rintro (c1 | c1)
        · exact h4 c1
        · exact h (List.mem_singleton.1 c1).symm

theorem last_spec (p : List UInt8) : (lastIdx 47 p = -1 ∧ parentL p = [] ∧ baseL p = p) ∨ ∃ k : Nat, lastIdx 47 p = (k : Int) ∧ k < p.length ∧ parentL p = p.take k ∧ baseL p = p.drop (k + 1) := by
  rcases lastIdxA_spec 47 p p.length (Nat.le_refl _) with ⟨h1, h2⟩ | ⟨k, h1, h2, h3, h4⟩
  · rw [List.take_length] at h2
    refine .inl ⟨h1, ?_, ?_⟩
    · unfold parentL partsL
      split
      · rfl
      · rw [split_none p h2]; rfl
    · unfold baseL partsL
      split
      · rename_i h; rw [h]; rfl
      · rw [split_none p h2]; rfl
  · rw [List.take_length] at h4
    have hp : p = p.take k ++ 47 :: p.drop (k + 1) := by
      have e : p.drop k = p.getD k 0 :: p.drop (k + 1) := by rw [List.drop_eq_getElem_cons h2]; simp [List.getD_eq_getElem?_getD, h2]
      rw [h3] at e
      rw [← e, List.take_append_drop]
    have hne : p ≠ [] := fun c => by rw [c] at h2; simp at h2
    have hs : splitB 47 p = splitB 47 (p.take k) ++ [p.drop (k + 1)] := by
      conv => lhs; rw [hp]
      exact split_snoc _ h4 _
    refine .inr ⟨k, h1, h2, ?_, ?_⟩
    · unfold parentL partsL
      rw [if_neg hne, hs, List.dropLast_concat, glue_split]
    · unfold baseL partsL
      rw [if_neg hne, hs]
      simp [List.getLastD_eq_getLast?]

set_option maxHeartbeats 400000 in
theorem right (c : UInt8) (w : World) : Calls Tryd.prog 44 #[vb c] w fun e w' => w = w' ∧ e = .returned (.bool (!(badB c))) := by
  have hx := c.toNat_lt
  have hg : ∀ {f : Fr} {b : Bool}, f.ds = [] → H.look f.e 2 = some (.bool b) → b = (!(badB c)) → FQ Tryd.prog Tryd.f44 (fun e w' => w = w' ∧ e = .returned (.bool (!(badB c)))) .ret f w := fun hd hv h => FQ.one rfl hd hv ⟨rfl, by rw [h]⟩
  refine H.enter Tryd.func44 Tryd.ntmps44 rfl rfl ?_; dsimp only [H.args]
  repeat' (first | (refine CL.seq ?_) | (refine CL.region ?_) | (refine CL.skip ?_) | (refine CL.condP rfl (fun _ => ?_) (fun _ => ?_) <;> try (exfalso; omega)) | (refine CL.condT rfl ?_) | (refine CL.condF rfl ?_) | (refine CL.cond rfl (fun _ => ?_) (fun _ => ?_)) | (refine CL.block ?_) | (refine CL.exit ?_) | (refine Ex.then ?_) | (refine Ex.hit ?_) | (refine Ex.miss rfl ?_) | (refine CL.ret ?_) | (refine Rt.then ?_) | (refine Rt.block ?_) | (refine Pn.then ?_) | (refine Pn.block ?_) | (refine CL.done ?_) | (refine Nm.block ?_) | (refine Nm.then ?_) | (refine Gt.nil ?_; refine RW.nilw [0, 2, 3, 4, 6, 8, 10, 12] ?_; dsimp only [H.keep, H.look, H.Fr.put, Nat.beq]) | (refine Gt.assign ?_; refine RW.y (Y.assign rfl) rfl ?_) | (refine Gt.guard ?_; first | (refine RW.part rfl rfl rfl (fun _ => ?_) (fun _ => ?_) <;> try (exfalso; omega)) | (refine RW.on rfl rfl rfl ?_) | (refine RW.off1 rfl rfl rfl rfl rfl ?_) | (refine RW.off rfl rfl rfl rfl rfl ?_) | (refine RW.offu rfl rfl rfl rfl ?_) | (refine RW.partb rfl rfl rfl (fun _ => ?_) (fun _ => ?_))) | (refine Gt.eql ?_; refine RW.y (Y.eqi rfl rfl) rfl ?_) | (refine Gt.move ?_; refine RW.y (Y.move rfl) rfl ?_) | (refine Gt.gtr ?_; refine RW.y (Y.gtr rfl rfl) rfl ?_) | (refine Gt.lss ?_; refine RW.y (Y.lss rfl rfl) rfl ?_) | (refine Gt.pick ?_; first | (refine RW.y (Y.pickT rfl rfl) rfl ?_) | (refine RW.y (Y.pickF rfl rfl) rfl ?_)))
  all_goals
    refine hg rfl rfl ?_
    rw [Bool.eq_iff_iff]
    simp only [badB, Bool.not_eq_true', Bool.or_eq_false_iff, decide_eq_false_iff_not, beq_eq_false_iff_ne, decide_eq_true_eq, Bool.false_eq_true, false_iff]
    omega

theorem part (s : List UInt8) (hs : s.length ≤ 1000000) (w : World) : Calls Tryd.prog 36 #[vs s] w fun e w' => w = w' ∧ e = .returned (.int .i64 (if badL s = true then 50 else 0)) := by
  refine H.enter Tryd.func36 Tryd.ntmps36 rfl rfl ?_; dsimp only [H.args]
  repeat' (first | (refine CL.seq ?_) | (refine CL.region ?_) | (refine CL.skip ?_) | (refine CL.condP rfl (fun _ => ?_) (fun _ => ?_) <;> try (exfalso; omega)) | (refine CL.condT rfl ?_) | (refine CL.condF rfl ?_) | (refine CL.cond rfl (fun _ => ?_) (fun _ => ?_)) | (refine CL.block ?_) | (refine CL.exit ?_) | (refine Ex.then ?_) | (refine Ex.hit ?_) | (refine Ex.miss rfl ?_) | (refine CL.ret ?_) | (refine Rt.then ?_) | (refine Rt.block ?_) | (refine Pn.then ?_) | (refine Pn.block ?_) | (refine CL.done ?_) | (refine Nm.block ?_) | (refine Nm.then ?_) | (refine Gt.nil ?_; refine RW.nilw [0, 2, 3, 6, 8, 9, 10, 16] ?_; dsimp only [H.keep, H.look, H.Fr.put, Nat.beq]) | (refine Gt.move ?_; refine RW.y (Y.move rfl) rfl ?_) | (refine Gt.assign ?_; refine RW.y (Y.assign rfl) rfl ?_) | (refine Gt.len ?_; refine RW.y (Y.lens rfl) rfl ?_) | (refine Gt.gtr ?_; refine RW.y (Y.gtr rfl rfl) rfl ?_) | (refine Gt.lss ?_; refine RW.y (Y.lss rfl rfl) rfl ?_) | (refine Gt.index ?_; refine RW.y (Y.idxs rfl rfl (by omega) (by omega)) rfl ?_) | (refine Gt.not ?_; first | (refine RW.y (Y.not rfl) rfl ?_) | (refine RW.y (Y.notb rfl) rfl ?_)) | (refine Gt.add ?_; refine RW.y (Y.add64 rfl rfl (by omega) (by omega)) rfl ?_))
  · refine FQ.one rfl rfl rfl ⟨rfl, ?_⟩
    have : badL s = true := by unfold badL; rw [decide_eq_true (by omega), Bool.true_or]
    rw [if_pos this]
  refine CL.loopS [0, 8, 9] (fun m vals wr => ∃ (i : Nat), vals = [vs s, .int .i64 (s.length : Int), .int .i64 (i : Int)] ∧ m = s.length - i ∧ i ≤ s.length ∧ (s.take i).any badB = false ∧ wr = w) s.length ⟨_, rfl, 0, rfl, rfl, Nat.zero_le _, rfl, rfl⟩ ?_
  rintro m vals wr ⟨i, rfl, rfl, hil, hno, rfl⟩
  dsimp only [List.zip, List.zipWith]
  rcases Nat.lt_or_ge i s.length with hlt | hge
  · have hti : ((i : Int)).toNat = i := Int.toNat_natCast i
    repeat' (first | (refine CL.seq ?_) | (refine CL.region ?_) | (refine CL.skip ?_) | (refine CL.condP rfl (fun _ => ?_) (fun _ => ?_) <;> try (exfalso; omega)) | (refine CL.condT rfl ?_) | (refine CL.condF rfl ?_) | (refine CL.cond rfl (fun _ => ?_) (fun _ => ?_)) | (refine CL.block ?_) | (refine CL.exit ?_) | (refine Ex.then ?_) | (refine Ex.hit ?_) | (refine Ex.miss rfl ?_) | (refine CL.ret ?_) | (refine Rt.then ?_) | (refine Rt.block ?_) | (refine Pn.then ?_) | (refine Pn.block ?_) | (refine CL.done ?_) | (refine Nm.block ?_) | (refine Nm.then ?_) | (refine Gt.nil ?_; refine RW.nilw [0, 2, 3, 6, 8, 9, 10, 16] ?_; dsimp only [H.keep, H.look, H.Fr.put, Nat.beq]) | (refine Gt.move ?_; refine RW.y (Y.move rfl) rfl ?_) | (refine Gt.assign ?_; refine RW.y (Y.assign rfl) rfl ?_) | (refine Gt.len ?_; refine RW.y (Y.lens rfl) rfl ?_) | (refine Gt.gtr ?_; refine RW.y (Y.gtr rfl rfl) rfl ?_) | (refine Gt.lss ?_; refine RW.y (Y.lss rfl rfl) rfl ?_) | (refine Gt.index ?_; refine RW.y (Y.idxs rfl rfl (by omega) (by omega)) rfl ?_) | (refine Gt.not ?_; first | (refine RW.y (Y.not rfl) rfl ?_) | (refine RW.y (Y.notb rfl) rfl ?_)) | (refine Gt.add ?_; refine RW.y (Y.add64 rfl rfl (by omega) (by omega)) rfl ?_))
    rw [hti]
    refine RW.fn rfl rfl ((right (s.getD i 0) wr).mono ?_)
    rintro e w1 ⟨rfl, rfl⟩
    cases hbad : badB (s.getD i 0)
    · repeat' (first | (refine CL.seq ?_) | (refine CL.region ?_) | (refine CL.skip ?_) | (refine CL.condP rfl (fun _ => ?_) (fun _ => ?_) <;> try (exfalso; omega)) | (refine CL.condT rfl ?_) | (refine CL.condF rfl ?_) | (refine CL.cond rfl (fun _ => ?_) (fun _ => ?_)) | (refine CL.block ?_) | (refine CL.exit ?_) | (refine Ex.then ?_) | (refine Ex.hit ?_) | (refine Ex.miss rfl ?_) | (refine CL.ret ?_) | (refine Rt.then ?_) | (refine Rt.block ?_) | (refine Pn.then ?_) | (refine Pn.block ?_) | (refine CL.done ?_) | (refine Nm.block ?_) | (refine Nm.then ?_) | (refine Gt.nil ?_; refine RW.nilw [0, 2, 3, 6, 8, 9, 10, 16] ?_; dsimp only [H.keep, H.look, H.Fr.put, Nat.beq]) | (refine Gt.move ?_; refine RW.y (Y.move rfl) rfl ?_) | (refine Gt.assign ?_; refine RW.y (Y.assign rfl) rfl ?_) | (refine Gt.len ?_; refine RW.y (Y.lens rfl) rfl ?_) | (refine Gt.gtr ?_; refine RW.y (Y.gtr rfl rfl) rfl ?_) | (refine Gt.lss ?_; refine RW.y (Y.lss rfl rfl) rfl ?_) | (refine Gt.index ?_; refine RW.y (Y.idxs rfl rfl (by omega) (by omega)) rfl ?_) | (refine Gt.not ?_; first | (refine RW.y (Y.not rfl) rfl ?_) | (refine RW.y (Y.notb rfl) rfl ?_)) | (refine Gt.add ?_; refine RW.y (Y.add64 rfl rfl (by omega) (by omega)) rfl ?_))
      refine ⟨s.length - (i + 1), _, rfl, rfl, rfl, by omega, i + 1, by simp, rfl, by omega, ?_, rfl⟩
      rw [show s.take (i + 1) = s.take i ++ [s.getD i 0] from take_snoc s i hlt, List.any_append, hno, Bool.false_or]
      simp only [List.any_cons, List.any_nil, Bool.or_false]
      exact hbad
    · repeat' (first | (refine CL.seq ?_) | (refine CL.region ?_) | (refine CL.skip ?_) | (refine CL.condP rfl (fun _ => ?_) (fun _ => ?_) <;> try (exfalso; omega)) | (refine CL.condT rfl ?_) | (refine CL.condF rfl ?_) | (refine CL.cond rfl (fun _ => ?_) (fun _ => ?_)) | (refine CL.block ?_) | (refine CL.exit ?_) | (refine Ex.then ?_) | (refine Ex.hit ?_) | (refine Ex.miss rfl ?_) | (refine CL.ret ?_) | (refine Rt.then ?_) | (refine Rt.block ?_) | (refine Pn.then ?_) | (refine Pn.block ?_) | (refine CL.done ?_) | (refine Nm.block ?_) | (refine Nm.then ?_) | (refine Gt.nil ?_; refine RW.nilw [0, 2, 3, 6, 8, 9, 10, 16] ?_; dsimp only [H.keep, H.look, H.Fr.put, Nat.beq]) | (refine Gt.move ?_; refine RW.y (Y.move rfl) rfl ?_) | (refine Gt.assign ?_; refine RW.y (Y.assign rfl) rfl ?_) | (refine Gt.len ?_; refine RW.y (Y.lens rfl) rfl ?_) | (refine Gt.gtr ?_; refine RW.y (Y.gtr rfl rfl) rfl ?_) | (refine Gt.lss ?_; refine RW.y (Y.lss rfl rfl) rfl ?_) | (refine Gt.index ?_; refine RW.y (Y.idxs rfl rfl (by omega) (by omega)) rfl ?_) | (refine Gt.not ?_; first | (refine RW.y (Y.not rfl) rfl ?_) | (refine RW.y (Y.notb rfl) rfl ?_)) | (refine Gt.add ?_; refine RW.y (Y.add64 rfl rfl (by omega) (by omega)) rfl ?_))
      refine FQ.one rfl rfl rfl ⟨rfl, ?_⟩
      have : badL s = true := by unfold badL; rw [getD_any hlt hbad, Bool.or_true]
      rw [if_pos this]
  · have hi : i = s.length := by omega
    subst hi
    rw [List.take_length] at hno
    repeat' (first | (refine CL.seq ?_) | (refine CL.region ?_) | (refine CL.skip ?_) | (refine CL.condP rfl (fun _ => ?_) (fun _ => ?_) <;> try (exfalso; omega)) | (refine CL.condT rfl ?_) | (refine CL.condF rfl ?_) | (refine CL.cond rfl (fun _ => ?_) (fun _ => ?_)) | (refine CL.block ?_) | (refine CL.exit ?_) | (refine Ex.then ?_) | (refine Ex.hit ?_) | (refine Ex.miss rfl ?_) | (refine CL.ret ?_) | (refine Rt.then ?_) | (refine Rt.block ?_) | (refine Pn.then ?_) | (refine Pn.block ?_) | (refine CL.done ?_) | (refine Nm.block ?_) | (refine Nm.then ?_) | (refine Gt.nil ?_; refine RW.nilw [0, 2, 3, 6, 8, 9, 10, 16] ?_; dsimp only [H.keep, H.look, H.Fr.put, Nat.beq]) | (refine Gt.move ?_; refine RW.y (Y.move rfl) rfl ?_) | (refine Gt.assign ?_; refine RW.y (Y.assign rfl) rfl ?_) | (refine Gt.len ?_; refine RW.y (Y.lens rfl) rfl ?_) | (refine Gt.gtr ?_; refine RW.y (Y.gtr rfl rfl) rfl ?_) | (refine Gt.lss ?_; refine RW.y (Y.lss rfl rfl) rfl ?_) | (refine Gt.index ?_; refine RW.y (Y.idxs rfl rfl (by omega) (by omega)) rfl ?_) | (refine Gt.not ?_; first | (refine RW.y (Y.not rfl) rfl ?_) | (refine RW.y (Y.notb rfl) rfl ?_)) | (refine Gt.add ?_; refine RW.y (Y.add64 rfl rfl (by omega) (by omega)) rfl ?_))
    refine FQ.one rfl rfl rfl ⟨rfl, ?_⟩
    have : badL s = false := by unfold badL; rw [hno, decide_eq_false (by omega)]; rfl
    rw [if_neg (by rw [this]; simp)]

theorem parts (l : List UInt8) (hl : l.length ≤ 1000000) (w : World) : Calls Tryd.prog 12 #[vs l] w fun e w' => ∃ v', e = .returned v' ∧ w'.ownsRow w.heap.size strT 1 v' (partsL l).length (sv (partsL l)) ∧ K0 w w' := by
  unfold partsL
  refine H.enter Tryd.func12 Tryd.ntmps12 rfl rfl ?_; dsimp only [H.args]
  repeat' (first | (refine CL.seq ?_) | (refine CL.region ?_) | (refine CL.skip ?_) | (refine CL.condP rfl (fun _ => ?_) (fun _ => ?_) <;> try (exfalso; omega)) | (refine CL.condT rfl ?_) | (refine CL.condF rfl ?_) | (refine CL.cond rfl (fun _ => ?_) (fun _ => ?_)) | (refine CL.block ?_) | (refine CL.exit ?_) | (refine Ex.then ?_) | (refine Ex.hit ?_) | (refine Ex.miss rfl ?_) | (refine CL.ret ?_) | (refine Rt.then ?_) | (refine Rt.block ?_) | (refine Pn.then ?_) | (refine Pn.block ?_) | (refine CL.done ?_) | (refine Nm.block ?_) | (refine Nm.then ?_) | (refine Gt.nil ?_; refine RW.nilw [0, 2, 4] ?_; dsimp only [H.keep, H.look, H.Fr.put, Nat.beq]) | (refine Gt.assign ?_; refine RW.y (Y.assign rfl) rfl ?_) | (refine Gt.move ?_; refine RW.y (Y.move rfl) rfl ?_) | (refine Gt.eql ?_; refine RW.y (Y.eqs rfl rfl) rfl ?_))
  · rename_i h
    rw [if_pos h]
    exact FQ.one rfl rfl rfl ⟨_, rfl, World.ownsRow_nil _ _ _ _, Kept.refl _ _⟩
  · rename_i h
    rw [if_neg h]
    refine RW.fn rfl rfl ((split l 47 hl w).mono ?_)
    rintro e w1 ⟨v1, rfl, how1, hk1⟩
    repeat' (first | (refine CL.seq ?_) | (refine CL.region ?_) | (refine CL.skip ?_) | (refine CL.condP rfl (fun _ => ?_) (fun _ => ?_) <;> try (exfalso; omega)) | (refine CL.condT rfl ?_) | (refine CL.condF rfl ?_) | (refine CL.cond rfl (fun _ => ?_) (fun _ => ?_)) | (refine CL.block ?_) | (refine CL.exit ?_) | (refine Ex.then ?_) | (refine Ex.hit ?_) | (refine Ex.miss rfl ?_) | (refine CL.ret ?_) | (refine Rt.then ?_) | (refine Rt.block ?_) | (refine Pn.then ?_) | (refine Pn.block ?_) | (refine CL.done ?_) | (refine Nm.block ?_) | (refine Nm.then ?_) | (refine Gt.nil ?_; refine RW.nilw [0, 2, 4] ?_; dsimp only [H.keep, H.look, H.Fr.put, Nat.beq]) | (refine Gt.assign ?_; refine RW.y (Y.assign rfl) rfl ?_) | (refine Gt.move ?_; refine RW.y (Y.move rfl) rfl ?_) | (refine Gt.eql ?_; refine RW.y (Y.eqs rfl rfl) rfl ?_))
    exact FQ.one rfl rfl rfl ⟨_, rfl, how1, hk1⟩

theorem parent (p : List UInt8) (hp : p.length ≤ 1000000) (w : World) : Calls Tryd.prog 15 #[vs p] w fun e w' => w = w' ∧ e = .returned (vs (parentL p)) := by
  have hbd := lastIdx_bd 47 p
  refine H.enter Tryd.func15 Tryd.ntmps15 rfl rfl ?_; dsimp only [H.args]
  repeat' (first | (refine CL.seq ?_) | (refine CL.region ?_) | (refine CL.skip ?_) | (refine CL.condP rfl (fun _ => ?_) (fun _ => ?_) <;> try (exfalso; omega)) | (refine CL.condT rfl ?_) | (refine CL.condF rfl ?_) | (refine CL.cond rfl (fun _ => ?_) (fun _ => ?_)) | (refine CL.block ?_) | (refine CL.exit ?_) | (refine Ex.then ?_) | (refine Ex.hit ?_) | (refine Ex.miss rfl ?_) | (refine CL.ret ?_) | (refine Rt.then ?_) | (refine Rt.block ?_) | (refine Pn.then ?_) | (refine Pn.block ?_) | (refine CL.done ?_) | (refine Nm.block ?_) | (refine Nm.then ?_) | (refine Gt.nil ?_; refine RW.nilw [0, 2] ?_; dsimp only [H.keep, H.look, H.Fr.put, Nat.beq]) | (refine Gt.assign ?_; refine RW.y (Y.assign rfl) rfl ?_) | (refine Gt.move ?_; refine RW.y (Y.move rfl) rfl ?_) | (refine Gt.call ?_; refine RW.y (Y.max2 rfl rfl) rfl ?_) | (refine Gt.slice ?_; refine RW.y (Y.cuth rfl rfl (by omega) (by omega)) rfl ?_))
  refine RW.fn rfl rfl ((lastIndexByte p 47 (by omega) w).mono ?_)
  rintro e w1 ⟨rfl, rfl⟩
  repeat' (first | (refine CL.seq ?_) | (refine CL.region ?_) | (refine CL.skip ?_) | (refine CL.condP rfl (fun _ => ?_) (fun _ => ?_) <;> try (exfalso; omega)) | (refine CL.condT rfl ?_) | (refine CL.condF rfl ?_) | (refine CL.cond rfl (fun _ => ?_) (fun _ => ?_)) | (refine CL.block ?_) | (refine CL.exit ?_) | (refine Ex.then ?_) | (refine Ex.hit ?_) | (refine Ex.miss rfl ?_) | (refine CL.ret ?_) | (refine Rt.then ?_) | (refine Rt.block ?_) | (refine Pn.then ?_) | (refine Pn.block ?_) | (refine CL.done ?_) | (refine Nm.block ?_) | (refine Nm.then ?_) | (refine Gt.nil ?_; refine RW.nilw [0, 2] ?_; dsimp only [H.keep, H.look, H.Fr.put, Nat.beq]) | (refine Gt.assign ?_; refine RW.y (Y.assign rfl) rfl ?_) | (refine Gt.move ?_; refine RW.y (Y.move rfl) rfl ?_) | (refine Gt.call ?_; refine RW.y (Y.max2 rfl rfl) rfl ?_) | (refine Gt.slice ?_; refine RW.y (Y.cuth rfl rfl (by omega) (by omega)) rfl ?_))
  refine FQ.one rfl rfl rfl ⟨rfl, ?_⟩
  rcases last_spec p with ⟨h1, h2, _⟩ | ⟨k, h1, h2, h3, _⟩
  · rw [h2, h1]; rfl
  · rw [h3, h1]
    have : (max (k : Int) 0).toNat = k := by omega
    rw [this]
theorem base (p : List UInt8) (hp : p.length ≤ 1000000) (w : World) : Calls Tryd.prog 17 #[vs p] w fun e w' => w = w' ∧ e = .returned (vs (baseL p)) := by
  have hbd := lastIdx_bd 47 p
  refine H.enter Tryd.func17 Tryd.ntmps17 rfl rfl ?_; dsimp only [H.args]
  repeat' (first | (refine CL.seq ?_) | (refine CL.region ?_) | (refine CL.skip ?_) | (refine CL.condP rfl (fun _ => ?_) (fun _ => ?_) <;> try (exfalso; omega)) | (refine CL.condT rfl ?_) | (refine CL.condF rfl ?_) | (refine CL.cond rfl (fun _ => ?_) (fun _ => ?_)) | (refine CL.block ?_) | (refine CL.exit ?_) | (refine Ex.then ?_) | (refine Ex.hit ?_) | (refine Ex.miss rfl ?_) | (refine CL.ret ?_) | (refine Rt.then ?_) | (refine Rt.block ?_) | (refine Pn.then ?_) | (refine Pn.block ?_) | (refine CL.done ?_) | (refine Nm.block ?_) | (refine Nm.then ?_) | (refine Gt.nil ?_; refine RW.nilw [0, 2] ?_; dsimp only [H.keep, H.look, H.Fr.put, Nat.beq]) | (refine Gt.assign ?_; refine RW.y (Y.assign rfl) rfl ?_) | (refine Gt.move ?_; refine RW.y (Y.move rfl) rfl ?_) | (refine Gt.add ?_; refine RW.y (Y.add64 rfl rfl (by omega) (by omega)) rfl ?_) | (refine Gt.slice ?_; refine RW.y (Y.cutl rfl rfl (by omega) (by omega)) rfl ?_))
  refine RW.fn rfl rfl ((lastIndexByte p 47 (by omega) w).mono ?_)
  rintro e w1 ⟨rfl, rfl⟩
  repeat' (first | (refine CL.seq ?_) | (refine CL.region ?_) | (refine CL.skip ?_) | (refine CL.condP rfl (fun _ => ?_) (fun _ => ?_) <;> try (exfalso; omega)) | (refine CL.condT rfl ?_) | (refine CL.condF rfl ?_) | (refine CL.cond rfl (fun _ => ?_) (fun _ => ?_)) | (refine CL.block ?_) | (refine CL.exit ?_) | (refine Ex.then ?_) | (refine Ex.hit ?_) | (refine Ex.miss rfl ?_) | (refine CL.ret ?_) | (refine Rt.then ?_) | (refine Rt.block ?_) | (refine Pn.then ?_) | (refine Pn.block ?_) | (refine CL.done ?_) | (refine Nm.block ?_) | (refine Nm.then ?_) | (refine Gt.nil ?_; refine RW.nilw [0, 2] ?_; dsimp only [H.keep, H.look, H.Fr.put, Nat.beq]) | (refine Gt.assign ?_; refine RW.y (Y.assign rfl) rfl ?_) | (refine Gt.move ?_; refine RW.y (Y.move rfl) rfl ?_) | (refine Gt.add ?_; refine RW.y (Y.add64 rfl rfl (by omega) (by omega)) rfl ?_) | (refine Gt.slice ?_; refine RW.y (Y.cutl rfl rfl (by omega) (by omega)) rfl ?_))
  refine FQ.one rfl rfl rfl ⟨rfl, ?_⟩
  rcases last_spec p with ⟨h1, _, h2⟩ | ⟨k, h1, h2, _, h3⟩
  · rw [h2, h1]; rfl
  · rw [h3, h1]
    have : ((k : Int) + 1).toNat = k + 1 := by omega
    rw [this]

theorem within (p d : List UInt8) (hd : d.length ≤ 1000000) (w : World) : Calls Tryd.prog 19 #[vs p, vs d] w fun e w' => w = w' ∧ e = .returned (.bool (withinL p d)) := by
  have h47 : ([47] : List UInt8).length = 1 := rfl
  refine H.enter Tryd.func19 Tryd.ntmps19 rfl rfl ?_; dsimp only [H.args]
  repeat' (first | (refine CL.seq ?_) | (refine CL.region ?_) | (refine CL.skip ?_) | (refine CL.condP rfl (fun _ => ?_) (fun _ => ?_) <;> try (exfalso; omega)) | (refine CL.condT rfl ?_) | (refine CL.condF rfl ?_) | (refine CL.cond rfl (fun _ => ?_) (fun _ => ?_)) | (refine CL.block ?_) | (refine CL.exit ?_) | (refine Ex.then ?_) | (refine Ex.hit ?_) | (refine Ex.miss rfl ?_) | (refine CL.ret ?_) | (refine Rt.then ?_) | (refine Rt.block ?_) | (refine Pn.then ?_) | (refine Pn.block ?_) | (refine CL.done ?_) | (refine Nm.block ?_) | (refine Nm.then ?_) | (refine Gt.nil ?_; refine RW.nilw [0, 1, 4] ?_; dsimp only [H.keep, H.look, H.Fr.put, Nat.beq]) | (refine Gt.move ?_; refine RW.y (Y.move rfl) rfl ?_) | (refine Gt.guard ?_; first | (refine RW.part rfl rfl rfl (fun _ => ?_) (fun _ => ?_) <;> try (exfalso; omega)) | (refine RW.on rfl rfl rfl ?_) | (refine RW.off1 rfl rfl rfl rfl rfl ?_) | (refine RW.off rfl rfl rfl rfl rfl ?_) | (refine RW.offu rfl rfl rfl rfl ?_) | (refine RW.partb rfl rfl rfl (fun _ => ?_) (fun _ => ?_))) | (refine Gt.assign ?_; refine RW.y (Y.assign rfl) rfl ?_) | (refine Gt.eql ?_; refine RW.y (Y.eqs rfl rfl) rfl ?_) | (refine Gt.pick ?_; first | (refine RW.y (Y.pickT rfl rfl) rfl ?_) | (refine RW.y (Y.pickF rfl rfl) rfl ?_)) | (refine Gt.add ?_; refine RW.y (Y.cat rfl rfl (by first | omega | (simp only [List.length_append, List.length_cons, List.length_nil]; omega))) rfl ?_))
  · rename_i h
    exact FQ.one rfl rfl rfl ⟨rfl, by unfold withinL; rw [decide_eq_true (.inl h)]⟩
  · rename_i h1 h
    exact FQ.one rfl rfl rfl ⟨rfl, by unfold withinL; rw [decide_eq_true (.inr (.inl h))]⟩
  · rename_i h1 h2
    refine RW.fn rfl rfl ((hasPrefix p (d ++ [47]) w).mono ?_)
    rintro e w1 ⟨rfl, rfl⟩
    repeat' (first | (refine CL.seq ?_) | (refine CL.region ?_) | (refine CL.skip ?_) | (refine CL.condP rfl (fun _ => ?_) (fun _ => ?_) <;> try (exfalso; omega)) | (refine CL.condT rfl ?_) | (refine CL.condF rfl ?_) | (refine CL.cond rfl (fun _ => ?_) (fun _ => ?_)) | (refine CL.block ?_) | (refine CL.exit ?_) | (refine Ex.then ?_) | (refine Ex.hit ?_) | (refine Ex.miss rfl ?_) | (refine CL.ret ?_) | (refine Rt.then ?_) | (refine Rt.block ?_) | (refine Pn.then ?_) | (refine Pn.block ?_) | (refine CL.done ?_) | (refine Nm.block ?_) | (refine Nm.then ?_) | (refine Gt.nil ?_; refine RW.nilw [0, 1, 4] ?_; dsimp only [H.keep, H.look, H.Fr.put, Nat.beq]) | (refine Gt.move ?_; refine RW.y (Y.move rfl) rfl ?_) | (refine Gt.guard ?_; first | (refine RW.part rfl rfl rfl (fun _ => ?_) (fun _ => ?_) <;> try (exfalso; omega)) | (refine RW.on rfl rfl rfl ?_) | (refine RW.off1 rfl rfl rfl rfl rfl ?_) | (refine RW.off rfl rfl rfl rfl rfl ?_) | (refine RW.offu rfl rfl rfl rfl ?_) | (refine RW.partb rfl rfl rfl (fun _ => ?_) (fun _ => ?_))) | (refine Gt.assign ?_; refine RW.y (Y.assign rfl) rfl ?_) | (refine Gt.eql ?_; refine RW.y (Y.eqs rfl rfl) rfl ?_) | (refine Gt.pick ?_; first | (refine RW.y (Y.pickT rfl rfl) rfl ?_) | (refine RW.y (Y.pickF rfl rfl) rfl ?_)) | (refine Gt.add ?_; refine RW.y (Y.cat rfl rfl (by first | omega | (simp only [List.length_append, List.length_cons, List.length_nil]; omega))) rfl ?_))
    refine FQ.one rfl rfl rfl ⟨rfl, ?_⟩
    unfold withinL
    congr 2
    rw [decide_eq_decide, List.length_append, List.length_singleton]
    exact ⟨fun h => .inr (.inr h), fun h => h.elim (fun c => absurd c h1) fun h => h.elim (fun c => absurd c h2) id⟩
end Go.Proofs.YtcnmgiflogjfeaaDoor.Pa
