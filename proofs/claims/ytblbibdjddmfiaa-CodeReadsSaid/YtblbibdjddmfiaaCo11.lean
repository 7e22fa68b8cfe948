/-
  The laws' own helpers: zig, Place, light, put, l2, whole.
-/
import Derived.Test.YtblbibdjddmfiaaCo10
import Derived.Test.YtblbibdjddmfiaaH11
import Derived.IntWalk
namespace Go.Proofs.Ytblbibdjddmfiaa.Co
open Go.RowKit H
attribute [local irreducible] H.CL H.RW H.CW H.Yd H.thenK H.blockQ Go.Calls

structure Part where
  k : UInt8
  n : Nat
  s : List UInt8
instance : Inhabited Part := ⟨⟨0, 0, []⟩⟩
abbrev pc (p : Part) : List Value := [vb p.k, .int .u64 (p.n : Int), vs p.s]
theorem pc_len (p : Part) : (pc p).length = 3 := rfl
def putL (p : Part) : List UInt8 := if p.k.toNat % 4 = 0 then numL p.n else if p.k.toNat % 4 = 1 then numL (zz (IntKind.i64.wrap p.n)) else if p.k.toNat % 4 = 2 then textL p.s else boolL (decide (p.n % 2 = 1))

set_option maxHeartbeats 400000 in
theorem zig (x : Int) (h1 : -9223372036854775808 ≤ x) (h2 : x ≤ 9223372036854775807) (w : World) : Calls Try.prog 16 #[.int .i64 x] w fun e w' => e = .returned (.int .u64 (zz x : Int)) ∧ w' = w := by
  refine H.enter Try.func16 Try.ntmps16 rfl rfl ?_; dsimp only [H.args]
  repeat' (first | (refine CL.seq ?_) | (refine CL.region ?_) | (refine CL.skip ?_) | (refine CL.condP rfl (fun _ => ?_) (fun _ => ?_) <;> try (exfalso; omega)) | (refine CL.condT rfl ?_) | (refine CL.condF rfl ?_) | (refine CL.cond rfl (fun _ => ?_) (fun _ => ?_)) | (refine CL.block ?_) | (refine CL.exit ?_) | (refine Ex.then ?_) | (refine Ex.hit ?_) | (refine Ex.miss rfl ?_) | (refine CL.ret ?_) | (refine Rt.then ?_) | (refine Rt.block ?_) | (refine Pn.then ?_) | (refine Pn.block ?_) | (refine CL.done ?_) | (refine Nm.block ?_) | (refine Nm.then ?_) | (refine Gt.nil ?_; refine RW.nilw [0, 2, 4] ?_; dsimp only [H.keep, H.look, H.Fr.put, Nat.beq]) | (refine Gt.assign ?_; refine RW.y (Y.assign rfl) rfl ?_) | (refine Gt.move ?_; refine RW.y (Y.move rfl) rfl ?_) | (refine Gt.convert ?_; first | (refine RW.y (Y.convN rfl (by first | exact wrap64_id (by omega) (by omega) | exact wrapu64_id (by omega) (by omega))) rfl ?_) | (refine RW.y (Y.convW rfl) rfl ?_)) | (refine Gt.mul ?_; first | (refine RW.y (Y.mul64 rfl rfl (by omega) (by omega)) rfl ?_) | (refine RW.y (Y.mulu rfl rfl (by omega) (by omega)) rfl ?_)) | (refine Gt.lss ?_; refine RW.y (Y.lss rfl rfl) rfl ?_) | (refine Gt.add ?_; first | (refine RW.y (Y.add64 rfl rfl (by omega) (by omega)) rfl ?_) | (refine RW.y (Y.addu rfl rfl (by omega) (by omega)) rfl ?_)) | (refine Gt.neg ?_; first | (refine RW.y (Y.neg64 rfl (by omega) (by omega)) rfl ?_) | (refine RW.y (Y.neg rfl) rfl ?_)))
  · refine FQ.one rfl rfl rfl ⟨?_, rfl⟩
    unfold zz; rw [if_neg (by omega)]
    congr 2; omega
  · refine FQ.one rfl rfl rfl ⟨?_, rfl⟩
    unfold zz; rw [if_pos (by omega)]
    congr 2; omega

set_option maxHeartbeats 400000 in
theorem place (x : Int) (m : Nat) (h1 : -9223372036854775808 ≤ x) (h2 : x ≤ 9223372036854775807) (hm : 0 < m) (hm2 : m ≤ 9223372036854775807) (w : World) : Calls Try.prog 31 #[.int .i64 x, .int .i64 (m : Int)] w fun e w' => (∃ k : Nat, k < m ∧ e = .returned (.int .i64 (k : Int))) ∧ w' = w := by
  have hr := Int.tmod_lt_of_pos x (show (0:Int) < m by omega)
  have hr2 : -(m : Int) < x.tmod m := by exact Int.lt_tmod_of_pos x (by omega)
  refine H.enter Try.func31 Try.ntmps31 rfl rfl ?_; dsimp only [H.args]
  repeat' (first | (refine CL.seq ?_) | (refine CL.region ?_) | (refine CL.skip ?_) | (refine CL.condP rfl (fun _ => ?_) (fun _ => ?_) <;> try (exfalso; omega)) | (refine CL.condT rfl ?_) | (refine CL.condF rfl ?_) | (refine CL.cond rfl (fun _ => ?_) (fun _ => ?_)) | (refine CL.block ?_) | (refine CL.exit ?_) | (refine Ex.then ?_) | (refine Ex.hit ?_) | (refine Ex.miss rfl ?_) | (refine CL.ret ?_) | (refine Rt.then ?_) | (refine Rt.block ?_) | (refine Pn.then ?_) | (refine Pn.block ?_) | (refine CL.done ?_) | (refine Nm.block ?_) | (refine Nm.then ?_) | (refine Gt.nil ?_; refine RW.nilw [0, 1, 4, 9] ?_; dsimp only [H.keep, H.look, H.Fr.put, Nat.beq]) | (refine Gt.move ?_; refine RW.y (Y.move rfl) rfl ?_) | (refine Gt.assign ?_; refine RW.y (Y.assign rfl) rfl ?_) | (refine Gt.rem ?_; refine RW.y (Y.rem rfl rfl (by omega)) rfl ?_) | (refine Gt.lss ?_; refine RW.y (Y.lss rfl rfl) rfl ?_) | (refine Gt.add ?_; refine RW.y (Y.add64 rfl rfl (by omega) (by omega)) rfl ?_))
  · refine FQ.one rfl rfl rfl ⟨⟨(x.tmod m + m).toNat, by omega, ?_⟩, rfl⟩
    congr 2; omega
  · refine FQ.one rfl rfl rfl ⟨⟨(x.tmod m).toNat, by omega, ?_⟩, rfl⟩
    congr 2; omega

set_option maxHeartbeats 400000 in
theorem light (v : Value) (l : List Part) (w : World) (hs : Sl w 3 v l.length (l.flatMap pc)) : Calls Try.prog 17 #[v] w fun e w' => e = .returned (.bool (decide (l.length ≤ 12 ∧ ∀ p ∈ l, p.s.length ≤ 100))) ∧ w' = w := by
  refine H.enter Try.func17 Try.ntmps17 rfl rfl ?_; dsimp only [H.args]
  repeat' (first | (refine CL.seq ?_) | (refine CL.region ?_) | (refine CL.skip ?_) | (refine CL.condP rfl (fun _ => ?_) (fun _ => ?_) <;> try (exfalso; omega)) | (refine CL.condT rfl ?_) | (refine CL.condF rfl ?_) | (refine CL.cond rfl (fun _ => ?_) (fun _ => ?_)) | (refine CL.block ?_) | (refine CL.exit ?_) | (refine Ex.then ?_) | (refine Ex.hit ?_) | (refine Ex.miss rfl ?_) | (refine CL.ret ?_) | (refine Rt.then ?_) | (refine Rt.block ?_) | (refine Pn.then ?_) | (refine Pn.block ?_) | (refine CL.done ?_) | (refine Nm.block ?_) | (refine Nm.then ?_) | (refine Gt.nil ?_; refine RW.nilw [0, 2, 3, 6, 10, 19] ?_; dsimp only [H.keep, H.look, H.Fr.put, Nat.beq]) | (refine Gt.assign ?_; refine RW.y (Y.assign rfl) rfl ?_) | (refine Gt.move ?_; refine RW.y (Y.move rfl) rfl ?_) | (refine Gt.len ?_; first | (refine RW.y (Y.lenv rfl) rfl ?_) | (refine RW.y (Y.lenx rfl (by assumption)) rfl ?_) | (refine RW.y (Y.lens rfl) rfl ?_)) | (refine Gt.gtr ?_; refine RW.y (Y.gtr rfl rfl) rfl ?_) | (refine Gt.lss ?_; refine RW.y (Y.lss rfl rfl) rfl ?_) | (refine Gt.idx ?_; first | (refine RW.elemF rfl rfl rfl rfl rfl rfl (by assumption) (fun _ => by rfl) rfl (by omega) (by omega) (by rfl) (fun _ _ => ?_)) | (refine RW.elemA rfl rfl rfl rfl (by assumption) (fun _ => by rfl) rfl (by omega) (by omega) (fun _ => ?_))) | (refine Gt.fieldAddr ?_; refine RW.y (Y.fieldAddr rfl (by rfl)) rfl ?_) | (refine Gt.load ?_; refine RW.y (Y.loadB rfl (by assumption) rfl) rfl ?_) | (refine Gt.add ?_; refine RW.y (Y.add64 rfl rfl (by omega) (by omega)) rfl ?_))
  · refine FQ.one rfl rfl rfl ⟨?_, rfl⟩
    rw [show decide (l.length ≤ 12 ∧ ∀ p ∈ l, p.s.length ≤ 100) = false from by simp only [decide_eq_false_iff_not]; intro h; omega]
  · refine CL.loopS [0, 3] (fun m vals wr => ∃ (i : Nat), vals = [v, .int .i64 (i : Int)] ∧ m = l.length - i ∧ i ≤ l.length ∧ (∀ p ∈ l.take i, p.s.length ≤ 100) ∧ wr = w) l.length ⟨_, rfl, 0, rfl, rfl, Nat.zero_le _, by simp, rfl⟩ ?_
    rintro m vals wr ⟨i, rfl, rfl, hi, hall, rfl⟩
    dsimp only [List.zip, List.zipWith]
    repeat' (first | (refine CL.seq ?_) | (refine CL.region ?_) | (refine CL.skip ?_) | (refine CL.condP rfl (fun _ => ?_) (fun _ => ?_) <;> try (exfalso; omega)) | (refine CL.condT rfl ?_) | (refine CL.condF rfl ?_) | (refine CL.cond rfl (fun _ => ?_) (fun _ => ?_)) | (refine CL.block ?_) | (refine CL.exit ?_) | (refine Ex.then ?_) | (refine Ex.hit ?_) | (refine Ex.miss rfl ?_) | (refine CL.ret ?_) | (refine Rt.then ?_) | (refine Rt.block ?_) | (refine Pn.then ?_) | (refine Pn.block ?_) | (refine CL.done ?_) | (refine Nm.block ?_) | (refine Nm.then ?_) | (refine Gt.nil ?_; refine RW.nilw [0, 2, 3, 6, 10, 19] ?_; dsimp only [H.keep, H.look, H.Fr.put, Nat.beq]) | (refine Gt.assign ?_; refine RW.y (Y.assign rfl) rfl ?_) | (refine Gt.move ?_; refine RW.y (Y.move rfl) rfl ?_) | (refine Gt.len ?_; first | (refine RW.y (Y.lenv rfl) rfl ?_) | (refine RW.y (Y.lenx rfl (by assumption)) rfl ?_) | (refine RW.y (Y.lens rfl) rfl ?_)) | (refine Gt.gtr ?_; refine RW.y (Y.gtr rfl rfl) rfl ?_) | (refine Gt.lss ?_; refine RW.y (Y.lss rfl rfl) rfl ?_) | (refine Gt.idx ?_; first | (refine RW.elemF rfl rfl rfl rfl rfl rfl (by assumption) (fun _ => by rfl) rfl (by omega) (by omega) (by rfl) (fun _ _ => ?_)) | (refine RW.elemA rfl rfl rfl rfl (by assumption) (fun _ => by rfl) rfl (by omega) (by omega) (fun _ => ?_))) | (refine Gt.fieldAddr ?_; refine RW.y (Y.fieldAddr rfl (by rfl)) rfl ?_) | (refine Gt.load ?_; refine RW.y (Y.loadB rfl (by assumption) rfl) rfl ?_) | (refine Gt.add ?_; refine RW.y (Y.add64 rfl rfl (by omega) (by omega)) rfl ?_))
    · rename_i hc hb
      rw [Int.toNat_natCast] at hb
      refine FQ.one rfl rfl rfl ⟨?_, rfl⟩
      have hlt : i < l.length := by omega
      rw [show decide (l.length ≤ 12 ∧ ∀ p ∈ l, p.s.length ≤ 100) = false from ?_]
      simp only [decide_eq_false_iff_not]
      intro h
      have := h.2 (l.getD i default) (by rw [List.getD_eq_getElem?_getD, List.getElem?_eq_getElem hlt]; exact List.getElem_mem hlt)
      omega
    · rename_i hc hb
      rw [Int.toNat_natCast] at hb
      have hlt : i < l.length := by omega
      refine ⟨l.length - (i + 1), _, rfl, rfl, rfl, by omega, i + 1, rfl, rfl, by omega, ?_, rfl⟩
      rw [List.take_succ_eq_append_getElem hlt]
      intro p hp
      rcases List.mem_append.1 hp with hp | hp
      · exact hall p hp
      · simp only [List.mem_singleton] at hp
        subst hp
        simp only [List.getD_eq_getElem?_getD, List.getElem?_eq_getElem hlt, Option.getD_some] at hb
        omega
    · have : i = l.length := by omega
      subst this
      rw [List.take_length] at hall
      refine FQ.one rfl rfl rfl ⟨?_, rfl⟩
      rw [decide_eq_true (show l.length ≤ 12 ∧ ∀ p ∈ l, p.s.length ≤ 100 from ⟨by omega, hall⟩)]

set_option maxHeartbeats 400000 in
theorem put (v : Value) (xs : List UInt8) (p : Part) (hn : p.n < 18446744073709551616) (hsl : p.s.length ≤ 1000000) (w : World) (base : Nat) (hb : base ≤ w.heap.size) (hown : w.ownsRow base bt 1 v xs.length (bv xs)) (hl : xs.length ≤ 1000000) :
    Calls Try.prog 18 #[v, .agg (pc p).toArray] w fun e w' => ∃ v', e = .returned v' ∧ w'.ownsRow base bt 1 v' (xs ++ putL p).length (bv (xs ++ putL p)) ∧ Kept (fun k => v.ownBlock = some k) w w' ∧ Lies w v v' := by
  have hk8 := p.k.toNat_lt
  refine H.enter Try.func18 Try.ntmps18 rfl rfl ?_; dsimp only [H.args]
  repeat' (first | (refine CL.seq ?_) | (refine CL.region ?_) | (refine CL.skip ?_) | (refine CL.condP rfl (fun _ => ?_) (fun _ => ?_) <;> try (exfalso; omega)) | (refine CL.condT rfl ?_) | (refine CL.condF rfl ?_) | (refine CL.cond rfl (fun _ => ?_) (fun _ => ?_)) | (refine CL.block ?_) | (refine CL.exit ?_) | (refine Ex.then ?_) | (refine Ex.hit ?_) | (refine Ex.miss rfl ?_) | (refine CL.ret ?_) | (refine Rt.then ?_) | (refine Rt.block ?_) | (refine Pn.then ?_) | (refine Pn.block ?_) | (refine CL.done ?_) | (refine Nm.block ?_) | (refine Nm.then ?_) | (refine Gt.nil ?_; refine RW.nilw [0, 1, 3, 4, 7, 8, 14, 21] ?_; dsimp only [H.keep, H.look, H.Fr.put, Nat.beq]) | (refine Gt.assign ?_; refine RW.y (Y.assign rfl) rfl ?_) | (refine Gt.fieldAddr ?_; refine RW.y (Y.fieldAddr rfl (by rfl)) rfl ?_) | (refine Gt.load ?_; refine RW.y (Y.loadB rfl (by assumption) rfl) rfl ?_) | (refine Gt.eql ?_; refine RW.y (Y.eqi rfl rfl) rfl ?_) | (refine Gt.move ?_; refine RW.y (Y.move rfl) rfl ?_) | (refine Gt.rem ?_; refine RW.y (Y.rem rfl rfl (by omega)) rfl ?_) | (refine Gt.convert ?_; first | (refine RW.y (Y.convN rfl (by first | exact wrap64_id (by omega) (by omega) | exact wrapu64_id (by omega) (by omega))) rfl ?_) | (refine RW.y (Y.convW rfl) rfl ?_)))
  refine RW.box rfl rfl (fun w1 hb1 hk1 hl1 => ?_)
  have hown1 := own_kept0 hown hk1
  have hm : ((p.k.toNat : Int)).tmod 4 = ((p.k.toNat % 4 : Nat) : Int) := by rw [Int.tmod_eq_emod_of_nonneg (by omega)]; omega
  have hm2 : ((p.n : Int)).tmod 2 = ((p.n % 2 : Nat) : Int) := by rw [Int.tmod_eq_emod_of_nonneg (by omega)]; omega
  have fin : ∀ v' (w3 : World) r, putL p = r → w3.ownsRow base bt 1 v' (xs ++ r).length (bv (xs ++ r)) → Kept (fun k => v.ownBlock = some k) w1 w3 → Lies w1 v v' → ∃ v'_1, Ending.returned v' = Ending.returned v'_1 ∧ w3.ownsRow base bt 1 v'_1 (xs ++ putL p).length (bv (xs ++ putL p)) ∧ Kept (fun k => v.ownBlock = some k) w w3 ∧ Lies w v v'_1 := by
    rintro v' w3 r rfl h1 h2 h3
    exact ⟨v', rfl, h1, (Kept.of0 hk1).trans h2 (fun k hk => .inl hk), fun g hg => (h3 g hg).imp id fun h => by omega⟩
  repeat' (first | (refine CL.seq ?_) | (refine CL.region ?_) | (refine CL.skip ?_) | (refine CL.condP rfl (fun _ => ?_) (fun _ => ?_) <;> try (exfalso; omega)) | (refine CL.condT rfl ?_) | (refine CL.condF rfl ?_) | (refine CL.cond rfl (fun _ => ?_) (fun _ => ?_)) | (refine CL.block ?_) | (refine CL.exit ?_) | (refine Ex.then ?_) | (refine Ex.hit ?_) | (refine Ex.miss rfl ?_) | (refine CL.ret ?_) | (refine Rt.then ?_) | (refine Rt.block ?_) | (refine Pn.then ?_) | (refine Pn.block ?_) | (refine CL.done ?_) | (refine Nm.block ?_) | (refine Nm.then ?_) | (refine Gt.nil ?_; refine RW.nilw [0, 1, 3, 4, 7, 8, 14, 21] ?_; dsimp only [H.keep, H.look, H.Fr.put, Nat.beq]) | (refine Gt.assign ?_; refine RW.y (Y.assign rfl) rfl ?_) | (refine Gt.fieldAddr ?_; refine RW.y (Y.fieldAddr rfl (by rfl)) rfl ?_) | (refine Gt.load ?_; refine RW.y (Y.loadB rfl (by assumption) rfl) rfl ?_) | (refine Gt.eql ?_; refine RW.y (Y.eqi rfl rfl) rfl ?_) | (refine Gt.move ?_; refine RW.y (Y.move rfl) rfl ?_) | (refine Gt.rem ?_; refine RW.y (Y.rem rfl rfl (by omega)) rfl ?_) | (refine Gt.convert ?_; first | (refine RW.y (Y.convN rfl (by first | exact wrap64_id (by omega) (by omega) | exact wrapu64_id (by omega) (by omega))) rfl ?_) | (refine RW.y (Y.convW rfl) rfl ?_)))
  · refine RW.fn rfl rfl ((refNum v xs p.n hn w1 base (by omega) hown1 (by omega)).mono ?_)
    rintro e w3 ⟨v', rfl, how3, hk3, hl3⟩
    repeat' (first | (refine CL.seq ?_) | (refine CL.region ?_) | (refine CL.skip ?_) | (refine CL.condP rfl (fun _ => ?_) (fun _ => ?_) <;> try (exfalso; omega)) | (refine CL.condT rfl ?_) | (refine CL.condF rfl ?_) | (refine CL.cond rfl (fun _ => ?_) (fun _ => ?_)) | (refine CL.block ?_) | (refine CL.exit ?_) | (refine Ex.then ?_) | (refine Ex.hit ?_) | (refine Ex.miss rfl ?_) | (refine CL.ret ?_) | (refine Rt.then ?_) | (refine Rt.block ?_) | (refine Pn.then ?_) | (refine Pn.block ?_) | (refine CL.done ?_) | (refine Nm.block ?_) | (refine Nm.then ?_) | (refine Gt.nil ?_; refine RW.nilw [0, 1, 3, 4, 7, 8, 14, 21] ?_; dsimp only [H.keep, H.look, H.Fr.put, Nat.beq]) | (refine Gt.assign ?_; refine RW.y (Y.assign rfl) rfl ?_) | (refine Gt.fieldAddr ?_; refine RW.y (Y.fieldAddr rfl (by rfl)) rfl ?_) | (refine Gt.load ?_; refine RW.y (Y.loadB rfl (by assumption) rfl) rfl ?_) | (refine Gt.eql ?_; refine RW.y (Y.eqi rfl rfl) rfl ?_) | (refine Gt.move ?_; refine RW.y (Y.move rfl) rfl ?_) | (refine Gt.rem ?_; refine RW.y (Y.rem rfl rfl (by omega)) rfl ?_) | (refine Gt.convert ?_; first | (refine RW.y (Y.convN rfl (by first | exact wrap64_id (by omega) (by omega) | exact wrapu64_id (by omega) (by omega))) rfl ?_) | (refine RW.y (Y.convW rfl) rfl ?_)))
    exact FQ.one rfl rfl rfl (fin v' w3 _ (by unfold putL; rw [if_pos (by omega)]) how3 hk3 hl3)
  · have hw : -9223372036854775808 ≤ IntKind.i64.wrap (p.n : Int) ∧ IntKind.i64.wrap (p.n : Int) ≤ 9223372036854775807 := by rw [IntWalk.i64_left]; unfold wrap64; omega
    refine RW.fn rfl rfl ((refInt v xs (IntKind.i64.wrap p.n) (by omega) (by omega) w1 base (by omega) hown1 (by omega)).mono ?_)
    rintro e w3 ⟨v', rfl, how3, hk3, hl3⟩
    repeat' (first | (refine CL.seq ?_) | (refine CL.region ?_) | (refine CL.skip ?_) | (refine CL.condP rfl (fun _ => ?_) (fun _ => ?_) <;> try (exfalso; omega)) | (refine CL.condT rfl ?_) | (refine CL.condF rfl ?_) | (refine CL.cond rfl (fun _ => ?_) (fun _ => ?_)) | (refine CL.block ?_) | (refine CL.exit ?_) | (refine Ex.then ?_) | (refine Ex.hit ?_) | (refine Ex.miss rfl ?_) | (refine CL.ret ?_) | (refine Rt.then ?_) | (refine Rt.block ?_) | (refine Pn.then ?_) | (refine Pn.block ?_) | (refine CL.done ?_) | (refine Nm.block ?_) | (refine Nm.then ?_) | (refine Gt.nil ?_; refine RW.nilw [0, 1, 3, 4, 7, 8, 14, 21] ?_; dsimp only [H.keep, H.look, H.Fr.put, Nat.beq]) | (refine Gt.assign ?_; refine RW.y (Y.assign rfl) rfl ?_) | (refine Gt.fieldAddr ?_; refine RW.y (Y.fieldAddr rfl (by rfl)) rfl ?_) | (refine Gt.load ?_; refine RW.y (Y.loadB rfl (by assumption) rfl) rfl ?_) | (refine Gt.eql ?_; refine RW.y (Y.eqi rfl rfl) rfl ?_) | (refine Gt.move ?_; refine RW.y (Y.move rfl) rfl ?_) | (refine Gt.rem ?_; refine RW.y (Y.rem rfl rfl (by omega)) rfl ?_) | (refine Gt.convert ?_; first | (refine RW.y (Y.convN rfl (by first | exact wrap64_id (by omega) (by omega) | exact wrapu64_id (by omega) (by omega))) rfl ?_) | (refine RW.y (Y.convW rfl) rfl ?_)))
    exact FQ.one rfl rfl rfl (fin v' w3 _ (by unfold putL; rw [if_neg (by omega), if_pos (by omega)]) how3 hk3 hl3)
  · refine RW.fn rfl rfl ((refText v xs p.s w1 base (by omega) hown1 (by omega) (by omega)).mono ?_)
    rintro e w3 ⟨v', rfl, how3, hk3, hl3⟩
    repeat' (first | (refine CL.seq ?_) | (refine CL.region ?_) | (refine CL.skip ?_) | (refine CL.condP rfl (fun _ => ?_) (fun _ => ?_) <;> try (exfalso; omega)) | (refine CL.condT rfl ?_) | (refine CL.condF rfl ?_) | (refine CL.cond rfl (fun _ => ?_) (fun _ => ?_)) | (refine CL.block ?_) | (refine CL.exit ?_) | (refine Ex.then ?_) | (refine Ex.hit ?_) | (refine Ex.miss rfl ?_) | (refine CL.ret ?_) | (refine Rt.then ?_) | (refine Rt.block ?_) | (refine Pn.then ?_) | (refine Pn.block ?_) | (refine CL.done ?_) | (refine Nm.block ?_) | (refine Nm.then ?_) | (refine Gt.nil ?_; refine RW.nilw [0, 1, 3, 4, 7, 8, 14, 21] ?_; dsimp only [H.keep, H.look, H.Fr.put, Nat.beq]) | (refine Gt.assign ?_; refine RW.y (Y.assign rfl) rfl ?_) | (refine Gt.fieldAddr ?_; refine RW.y (Y.fieldAddr rfl (by rfl)) rfl ?_) | (refine Gt.load ?_; refine RW.y (Y.loadB rfl (by assumption) rfl) rfl ?_) | (refine Gt.eql ?_; refine RW.y (Y.eqi rfl rfl) rfl ?_) | (refine Gt.move ?_; refine RW.y (Y.move rfl) rfl ?_) | (refine Gt.rem ?_; refine RW.y (Y.rem rfl rfl (by omega)) rfl ?_) | (refine Gt.convert ?_; first | (refine RW.y (Y.convN rfl (by first | exact wrap64_id (by omega) (by omega) | exact wrapu64_id (by omega) (by omega))) rfl ?_) | (refine RW.y (Y.convW rfl) rfl ?_)))
    exact FQ.one rfl rfl rfl (fin v' w3 _ (by unfold putL; rw [if_neg (by omega), if_neg (by omega), if_pos (by omega)]) how3 hk3 hl3)
  · refine RW.fn rfl rfl ((refBool v xs _ w1 base (by omega) hown1 (by omega)).mono ?_)
    rintro e w3 ⟨v', rfl, how3, hk3, hl3⟩
    repeat' (first | (refine CL.seq ?_) | (refine CL.region ?_) | (refine CL.skip ?_) | (refine CL.condP rfl (fun _ => ?_) (fun _ => ?_) <;> try (exfalso; omega)) | (refine CL.condT rfl ?_) | (refine CL.condF rfl ?_) | (refine CL.cond rfl (fun _ => ?_) (fun _ => ?_)) | (refine CL.block ?_) | (refine CL.exit ?_) | (refine Ex.then ?_) | (refine Ex.hit ?_) | (refine Ex.miss rfl ?_) | (refine CL.ret ?_) | (refine Rt.then ?_) | (refine Rt.block ?_) | (refine Pn.then ?_) | (refine Pn.block ?_) | (refine CL.done ?_) | (refine Nm.block ?_) | (refine Nm.then ?_) | (refine Gt.nil ?_; refine RW.nilw [0, 1, 3, 4, 7, 8, 14, 21] ?_; dsimp only [H.keep, H.look, H.Fr.put, Nat.beq]) | (refine Gt.assign ?_; refine RW.y (Y.assign rfl) rfl ?_) | (refine Gt.fieldAddr ?_; refine RW.y (Y.fieldAddr rfl (by rfl)) rfl ?_) | (refine Gt.load ?_; refine RW.y (Y.loadB rfl (by assumption) rfl) rfl ?_) | (refine Gt.eql ?_; refine RW.y (Y.eqi rfl rfl) rfl ?_) | (refine Gt.move ?_; refine RW.y (Y.move rfl) rfl ?_) | (refine Gt.rem ?_; refine RW.y (Y.rem rfl rfl (by omega)) rfl ?_) | (refine Gt.convert ?_; first | (refine RW.y (Y.convN rfl (by first | exact wrap64_id (by omega) (by omega) | exact wrapu64_id (by omega) (by omega))) rfl ?_) | (refine RW.y (Y.convW rfl) rfl ?_)))
    exact FQ.one rfl rfl rfl (fin v' w3 _ (by unfold putL; rw [if_neg (by omega), if_neg (by omega), if_neg (by omega)]; congr 1; simp only [hm2]; congr 1; simp only [eq_iff_iff]; omega) how3 hk3 hl3)

set_option maxHeartbeats 400000 in
theorem whole (b : Nat) (st : St) (w : World) (G : Nat → Prop) (hR : RdS w G b st) : Calls Try.prog 26 #[.pointer (some ⟨b, 0, none⟩)] w fun e w' => e = .returned (.int .i64 (intS st).1) ∧ RdS w' G b (intS st).2 ∧ Kept (fun k => k = b) w w' := by
  refine H.enter Try.func26 Try.ntmps26 rfl rfl ?_; dsimp only [H.args]
  repeat' (first | (refine CL.seq ?_) | (refine CL.region ?_) | (refine CL.skip ?_) | (refine CL.condP rfl (fun _ => ?_) (fun _ => ?_) <;> try (exfalso; omega)) | (refine CL.condT rfl ?_) | (refine CL.condF rfl ?_) | (refine CL.cond rfl (fun _ => ?_) (fun _ => ?_)) | (refine CL.block ?_) | (refine CL.exit ?_) | (refine Ex.then ?_) | (refine Ex.hit ?_) | (refine Ex.miss rfl ?_) | (refine CL.ret ?_) | (refine Rt.then ?_) | (refine Rt.block ?_) | (refine Pn.then ?_) | (refine Pn.block ?_) | (refine CL.done ?_) | (refine Nm.block ?_) | (refine Nm.then ?_) | (refine Gt.nil ?_; refine RW.nilw [0, 2, 3, 9] ?_; dsimp only [H.keep, H.look, H.Fr.put, Nat.beq]) | (refine Gt.assign ?_; refine RW.y (Y.assign rfl) rfl ?_) | (refine Gt.move ?_; refine RW.y (Y.move rfl) rfl ?_) | (refine Gt.nilck ?_; refine RW.y (Y.nilck rfl) rfl ?_) | (refine Gt.fieldAddr ?_; refine RW.y (Y.fieldAddr rfl (by rfl)) rfl ?_) | (refine Gt.load ?_; refine RW.y (Y.loadB rfl (by assumption) rfl) rfl ?_))
  refine RW.fn rfl rfl ((mInt b st w G hR).mono ?_)
  rintro e w1 ⟨rfl, hR1, hk1⟩
  have h0 : (intS st).2 = none → (intS st).1 = 0 := by
    cases st with
    | none => intro _; rfl
    | some l => intro h; cases h1 : rdNum l with
      | none => simp [intS, stepR, h1]
      | some p => simp [intS, stepR, h1] at h
  have hR1' := hR1
  cases hs : (intS st).2 with
  | none =>
    rw [hs] at hR1'
    obtain ⟨l, hRl⟩ := hR1'
    obtain ⟨⟨v, e, hb, hs', hv⟩, _⟩ := hRl
    repeat' (first | (refine CL.seq ?_) | (refine CL.region ?_) | (refine CL.skip ?_) | (refine CL.condP rfl (fun _ => ?_) (fun _ => ?_) <;> try (exfalso; omega)) | (refine CL.condT rfl ?_) | (refine CL.condF rfl ?_) | (refine CL.cond rfl (fun _ => ?_) (fun _ => ?_)) | (refine CL.block ?_) | (refine CL.exit ?_) | (refine Ex.then ?_) | (refine Ex.hit ?_) | (refine Ex.miss rfl ?_) | (refine CL.ret ?_) | (refine Rt.then ?_) | (refine Rt.block ?_) | (refine Pn.then ?_) | (refine Pn.block ?_) | (refine CL.done ?_) | (refine Nm.block ?_) | (refine Nm.then ?_) | (refine Gt.nil ?_; refine RW.nilw [0, 2, 3, 9] ?_; dsimp only [H.keep, H.look, H.Fr.put, Nat.beq]) | (refine Gt.assign ?_; refine RW.y (Y.assign rfl) rfl ?_) | (refine Gt.move ?_; refine RW.y (Y.move rfl) rfl ?_) | (refine Gt.nilck ?_; refine RW.y (Y.nilck rfl) rfl ?_) | (refine Gt.fieldAddr ?_; refine RW.y (Y.fieldAddr rfl (by rfl)) rfl ?_) | (refine Gt.load ?_; refine RW.y (Y.loadB rfl (by assumption) rfl) rfl ?_))
    rw [h0 hs]
    exact FQ.one rfl rfl rfl ⟨rfl, hs ▸ hR1, hk1⟩
  | some l =>
    rw [hs] at hR1'
    have hRl : Rd w1 G b l false := hR1'
    obtain ⟨⟨v, e, hb, hs', hv⟩, _⟩ := hRl
    repeat' (first | (refine CL.seq ?_) | (refine CL.region ?_) | (refine CL.skip ?_) | (refine CL.condP rfl (fun _ => ?_) (fun _ => ?_) <;> try (exfalso; omega)) | (refine CL.condT rfl ?_) | (refine CL.condF rfl ?_) | (refine CL.cond rfl (fun _ => ?_) (fun _ => ?_)) | (refine CL.block ?_) | (refine CL.exit ?_) | (refine Ex.then ?_) | (refine Ex.hit ?_) | (refine Ex.miss rfl ?_) | (refine CL.ret ?_) | (refine Rt.then ?_) | (refine Rt.block ?_) | (refine Pn.then ?_) | (refine Pn.block ?_) | (refine CL.done ?_) | (refine Nm.block ?_) | (refine Nm.then ?_) | (refine Gt.nil ?_; refine RW.nilw [0, 2, 3, 9] ?_; dsimp only [H.keep, H.look, H.Fr.put, Nat.beq]) | (refine Gt.assign ?_; refine RW.y (Y.assign rfl) rfl ?_) | (refine Gt.move ?_; refine RW.y (Y.move rfl) rfl ?_) | (refine Gt.nilck ?_; refine RW.y (Y.nilck rfl) rfl ?_) | (refine Gt.fieldAddr ?_; refine RW.y (Y.fieldAddr rfl (by rfl)) rfl ?_) | (refine Gt.load ?_; refine RW.y (Y.loadB rfl (by assumption) rfl) rfl ?_))
    exact FQ.one rfl rfl rfl ⟨rfl, hs ▸ hR1, hk1⟩

theorem one_vs (l : List UInt8) : ∀ y ∈ (vs l).cells.toList, y.oneCell' = true := by
  intro y hy
  rw [show (vs l).cells.toList = [vs l] from rfl] at hy
  simp only [List.mem_singleton] at hy
  subst hy; rfl
abbrev strT : TypeId := 9
set_option maxHeartbeats 400000 in
theorem l2 (v : Value) (l : List Part) (w : World) (hs : Sl w 3 v l.length (l.flatMap pc)) (hl : l.length ≤ 1000000) : Calls Try.prog 22 #[v] w fun e w' => ∃ v', e = .returned v' ∧ w'.ownsRow w.heap.size strT 1 v' l.length (sv (l.map (·.s))) ∧ K0 w w' := by
  refine H.enter Try.func22 Try.ntmps22 rfl rfl ?_; dsimp only [H.args]
  repeat' (first | (refine CL.seq ?_) | (refine CL.region ?_) | (refine CL.skip ?_) | (refine CL.condP rfl (fun _ => ?_) (fun _ => ?_) <;> try (exfalso; omega)) | (refine CL.condT rfl ?_) | (refine CL.condF rfl ?_) | (refine CL.cond rfl (fun _ => ?_) (fun _ => ?_)) | (refine CL.block ?_) | (refine CL.exit ?_) | (refine Ex.then ?_) | (refine Ex.hit ?_) | (refine Ex.miss rfl ?_) | (refine CL.ret ?_) | (refine Rt.then ?_) | (refine Rt.block ?_) | (refine Pn.then ?_) | (refine Pn.block ?_) | (refine CL.done ?_) | (refine Nm.block ?_) | (refine Nm.then ?_) | (refine Gt.nil ?_; refine RW.nilw [0, 2, 3, 4, 8] ?_; dsimp only [H.keep, H.look, H.Fr.put, Nat.beq]) | (refine Gt.move ?_; refine RW.y (Y.move rfl) rfl ?_) | (refine Gt.assign ?_; refine RW.y (Y.assign rfl) rfl ?_) | (refine Gt.len ?_; first | (refine RW.y (Y.lenv rfl) rfl ?_) | (refine RW.y (Y.lenx rfl (by assumption)) rfl ?_)) | (refine Gt.lss ?_; refine RW.y (Y.lss rfl rfl) rfl ?_) | (refine Gt.idx ?_; first | (refine RW.elemF rfl rfl rfl rfl rfl rfl (by assumption) (fun _ => by rfl) rfl (by omega) (by omega) (by rfl) (fun _ _ => ?_)) | (refine RW.elemA rfl rfl rfl rfl (by assumption) (fun _ => by rfl) rfl (by omega) (by omega) (fun _ => ?_))) | (refine Gt.fieldAddr ?_; refine RW.y (Y.fieldAddr rfl (by rfl)) rfl ?_) | (refine Gt.load ?_; refine RW.y (Y.loadB rfl (by assumption) rfl) rfl ?_) | (refine Gt.add ?_; refine RW.y (Y.add64 rfl rfl (by omega) (by omega)) rfl ?_))
  refine CL.loopS [0, 3, 4] (fun m vals wr => ∃ (i : Nat) (v' : Value), vals = [v, v', .int .i64 (i : Int)] ∧ m = l.length - i ∧ i ≤ l.length ∧ wr.ownsRow w.heap.size strT 1 v' i (sv ((l.take i).map (·.s))) ∧ K0 w wr) l.length ⟨_, rfl, 0, _, rfl, rfl, Nat.zero_le _, World.ownsRow_nil _ _ _ _, Kept.refl _ _⟩ ?_
  rintro m vals wr ⟨i, v1, rfl, rfl, hi, how, hk⟩
  dsimp only [List.zip, List.zipWith]
  have hs1 := hs.keep0 hk
  have hsz := hk.size
  repeat' (first | (refine CL.seq ?_) | (refine CL.region ?_) | (refine CL.skip ?_) | (refine CL.condP rfl (fun _ => ?_) (fun _ => ?_) <;> try (exfalso; omega)) | (refine CL.condT rfl ?_) | (refine CL.condF rfl ?_) | (refine CL.cond rfl (fun _ => ?_) (fun _ => ?_)) | (refine CL.block ?_) | (refine CL.exit ?_) | (refine Ex.then ?_) | (refine Ex.hit ?_) | (refine Ex.miss rfl ?_) | (refine CL.ret ?_) | (refine Rt.then ?_) | (refine Rt.block ?_) | (refine Pn.then ?_) | (refine Pn.block ?_) | (refine CL.done ?_) | (refine Nm.block ?_) | (refine Nm.then ?_) | (refine Gt.nil ?_; refine RW.nilw [0, 2, 3, 4, 8] ?_; dsimp only [H.keep, H.look, H.Fr.put, Nat.beq]) | (refine Gt.move ?_; refine RW.y (Y.move rfl) rfl ?_) | (refine Gt.assign ?_; refine RW.y (Y.assign rfl) rfl ?_) | (refine Gt.len ?_; first | (refine RW.y (Y.lenv rfl) rfl ?_) | (refine RW.y (Y.lenx rfl (by assumption)) rfl ?_)) | (refine Gt.lss ?_; refine RW.y (Y.lss rfl rfl) rfl ?_) | (refine Gt.idx ?_; first | (refine RW.elemF rfl rfl rfl rfl rfl rfl (by assumption) (fun _ => by rfl) rfl (by omega) (by omega) (by rfl) (fun _ _ => ?_)) | (refine RW.elemA rfl rfl rfl rfl (by assumption) (fun _ => by rfl) rfl (by omega) (by omega) (fun _ => ?_))) | (refine Gt.fieldAddr ?_; refine RW.y (Y.fieldAddr rfl (by rfl)) rfl ?_) | (refine Gt.load ?_; refine RW.y (Y.loadB rfl (by assumption) rfl) rfl ?_) | (refine Gt.add ?_; refine RW.y (Y.add64 rfl rfl (by omega) (by omega)) rfl ?_))
  · have hlt : i < l.length := by omega
    rw [Int.toNat_natCast]
    refine RW.app1 rfl rfl rfl rfl how rfl rfl rfl rfl (one_vs _) (by omega) (by omega) (by omega) (fun v' w' how' hk' hl' => ?_)
    repeat' (first | (refine CL.seq ?_) | (refine CL.region ?_) | (refine CL.skip ?_) | (refine CL.condP rfl (fun _ => ?_) (fun _ => ?_) <;> try (exfalso; omega)) | (refine CL.condT rfl ?_) | (refine CL.condF rfl ?_) | (refine CL.cond rfl (fun _ => ?_) (fun _ => ?_)) | (refine CL.block ?_) | (refine CL.exit ?_) | (refine Ex.then ?_) | (refine Ex.hit ?_) | (refine Ex.miss rfl ?_) | (refine CL.ret ?_) | (refine Rt.then ?_) | (refine Rt.block ?_) | (refine Pn.then ?_) | (refine Pn.block ?_) | (refine CL.done ?_) | (refine Nm.block ?_) | (refine Nm.then ?_) | (refine Gt.nil ?_; refine RW.nilw [0, 2, 3, 4, 8] ?_; dsimp only [H.keep, H.look, H.Fr.put, Nat.beq]) | (refine Gt.move ?_; refine RW.y (Y.move rfl) rfl ?_) | (refine Gt.assign ?_; refine RW.y (Y.assign rfl) rfl ?_) | (refine Gt.len ?_; first | (refine RW.y (Y.lenv rfl) rfl ?_) | (refine RW.y (Y.lenx rfl (by assumption)) rfl ?_)) | (refine Gt.lss ?_; refine RW.y (Y.lss rfl rfl) rfl ?_) | (refine Gt.idx ?_; first | (refine RW.elemF rfl rfl rfl rfl rfl rfl (by assumption) (fun _ => by rfl) rfl (by omega) (by omega) (by rfl) (fun _ _ => ?_)) | (refine RW.elemA rfl rfl rfl rfl (by assumption) (fun _ => by rfl) rfl (by omega) (by omega) (fun _ => ?_))) | (refine Gt.fieldAddr ?_; refine RW.y (Y.fieldAddr rfl (by rfl)) rfl ?_) | (refine Gt.load ?_; refine RW.y (Y.loadB rfl (by assumption) rfl) rfl ?_) | (refine Gt.add ?_; refine RW.y (Y.add64 rfl rfl (by omega) (by omega)) rfl ?_))
    refine ⟨l.length - (i + 1), _, rfl, rfl, rfl, by omega, i + 1, v', rfl, rfl, by omega, ?_, ?_⟩
    · have e : sv ((l.take (i + 1)).map (·.s)) = sv ((l.take i).map (·.s)) ++ (vs (l.getD i default).s).cells.toList := by
        rw [List.take_succ_eq_append_getElem hlt, List.map_append, sv, List.map_append, List.getD_eq_getElem?_getD, List.getElem?_eq_getElem hlt]; rfl
      rw [e]; exact how'
    · exact hk.trans hk' fun k h => .inr (how.lt k h).1
  · have : i = l.length := by omega
    subst this
    rw [List.take_length] at how
    exact FQ.one rfl rfl rfl ⟨_, rfl, how, hk⟩
end Go.Proofs.Ytblbibdjddmfiaa.Co
