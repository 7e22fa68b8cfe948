/-
  What the program's reading functions do: integers, texts, truths; what ends in a panic is caught; the exported methods.
-/
import Derived.Test.YtblbibdjddmfiaaCo4
namespace Go.Proofs.Ytblbibdjddmfiaa.Co
open Go.RowKit H
attribute [local irreducible] H.CL H.RW H.CW H.Yd H.thenK H.blockQ Go.Calls

theorem toNat_ofInt {a : Int} (h1 : 0 ≤ a) (h2 : a ≤ 9223372036854775807) : (BitVec.ofInt 64 a).toNat = a.toNat := by
  rw [BitVec.toNat_ofInt]; omega
theorem xor_i64_zero {a : Int} (h1 : 0 ≤ a) (h2 : a ≤ 9223372036854775807) : bits .xor .i64 a 0 = a := by
  have e : bits .xor .i64 a 0 = IntKind.i64.wrap ((BitVec.ofInt 64 a ^^^ BitVec.ofInt 64 0).toNat : Int) := rfl
  rw [e, BitVec.toNat_xor, toNat_ofInt h1 h2]
  rw [show (BitVec.ofInt 64 0).toNat = 0 from rfl, Nat.xor_zero, wrap64_id (by omega) (by omega)]; omega
theorem xor_i64_neg {a : Int} (h1 : 0 ≤ a) (h2 : a ≤ 9223372036854775807) : bits .xor .i64 a (-1) = -a - 1 := by
  have e : bits .xor .i64 a (-1) = IntKind.i64.wrap ((BitVec.ofInt 64 a ^^^ BitVec.ofInt 64 (-1)).toNat : Int) := rfl
  have e2 : BitVec.ofInt 64 (-1) = BitVec.allOnes 64 := by decide
  rw [e, e2, BitVec.xor_allOnes, BitVec.toNat_not, toNat_ofInt h1 h2]
  have : ((2 ^ 64 - 1 - a.toNat : Nat) : Int) = 18446744073709551615 - a := by
    simp only [show (2:Nat) ^ 64 = 18446744073709551616 from by decide]; omega
  rw [this]
  simp only [IntKind.wrap, IntKind.bits, IntKind.signed]; simp; omega
theorem and1_u64 (n : Nat) (h : n < 18446744073709551616) : bits .and .u64 (n : Int) 1 = ((n % 2 : Nat) : Int) := by
  have h1 := u64_and_nat n 1 h (by omega)
  refine h1.trans ?_
  rw [Nat.and_one_is_mod]
theorem shr1 (k : Nat) : ((k : Int)).fdiv (2 ^ (min (Int.toNat 1) (IntKind.u64.bits))) = ((k / 2 : Nat) : Int) := by
  show ((k : Int)).fdiv (2 : Nat) = _
  rw [Int.fdiv_eq_ediv_of_nonneg _ (by omega)]; rfl

set_option maxHeartbeats 1000000 in
theorem cInt (b : Nat) (l : List UInt8) (w : World) (G : Nat → Prop) (hR : Rd w G b l false) :
    Calls Try.prog 35 #[.pointer (some ⟨b, 0, none⟩)] w (Got (fun n : Int => .int .i64 n) w G b ((rdNum l).map fun (n, r) => (unzz n, r))) := by
  refine H.enter Try.func35 Try.ntmps35 rfl rfl ?_; dsimp only [H.args]
  repeat' (first | (refine CL.seq ?_) | (refine CL.region ?_) | (refine CL.skip ?_) | (refine CL.condP rfl (fun _ => ?_) (fun _ => ?_) <;> try (exfalso; omega)) | (refine CL.condT rfl ?_) | (refine CL.condF rfl ?_) | (refine CL.cond rfl (fun _ => ?_) (fun _ => ?_)) | (refine CL.block ?_) | (refine CL.exit ?_) | (refine Ex.then ?_) | (refine Ex.hit ?_) | (refine Ex.miss rfl ?_) | (refine CL.ret ?_) | (refine Rt.then ?_) | (refine Rt.block ?_) | (refine Pn.then ?_) | (refine Pn.block ?_) | (refine CL.done ?_) | (refine Nm.block ?_) | (refine Nm.then ?_) | (refine Gt.nil ?_; refine RW.nilw [0, 2, 3] ?_; dsimp only [H.keep, H.look, H.Fr.put, Nat.beq]) | (refine Gt.assign ?_; refine RW.y (Y.assign rfl) rfl ?_) | (refine Gt.move ?_; refine RW.y (Y.move rfl) rfl ?_) | (refine Gt.convert ?_; first | (refine RW.y (Y.convN rfl (by first | exact wrap64_id (by omega) (by omega) | exact wrapu64_id (by omega) (by omega))) rfl ?_) | (refine RW.y (Y.convW rfl) rfl ?_)) | (refine Gt.shr ?_; refine RW.y (Y.shr rfl rfl (by omega)) rfl ?_) | (refine Gt.and ?_; refine RW.y (Y.bits (by first | exact .inl rfl | exact .inr (.inl rfl) | exact .inr (.inr (.inl rfl)) | exact .inr (.inr (.inr rfl))) rfl rfl) rfl ?_) | (refine Gt.neg ?_; first | (refine RW.y (Y.neg64 rfl (by omega) (by omega)) rfl ?_) | (refine RW.y (Y.neg rfl) rfl ?_)) | (refine Gt.xor ?_; refine RW.y (Y.bits (by first | exact .inl rfl | exact .inr (.inl rfl) | exact .inr (.inr (.inl rfl)) | exact .inr (.inr (.inr rfl))) rfl rfl) rfl ?_))
  refine RW.fn rfl rfl ((cNum b l w G hR).mono ?_)
  rintro e w1 ⟨hk1, h⟩
  cases hrd : rdNum l with
  | none =>
    rw [hrd] at h
    obtain ⟨rfl, h⟩ := h
    (first | refine H.After.pn ?_ | refine H.After0.pn ?_ | skip); repeat' (first | refine Pn.then ?_ | refine Pn.block ?_)
    show _ ∧ _
    exact ⟨rfl, hk1, rfl, h⟩
  | some p =>
    obtain ⟨n, r⟩ := p
    rw [hrd] at h
    obtain ⟨rfl, hR1⟩ := h
    have hn := rdNum_lt hrd
    repeat' (first | (refine CL.seq ?_) | (refine CL.region ?_) | (refine CL.skip ?_) | (refine CL.condP rfl (fun _ => ?_) (fun _ => ?_) <;> try (exfalso; omega)) | (refine CL.condT rfl ?_) | (refine CL.condF rfl ?_) | (refine CL.cond rfl (fun _ => ?_) (fun _ => ?_)) | (refine CL.block ?_) | (refine CL.exit ?_) | (refine Ex.then ?_) | (refine Ex.hit ?_) | (refine Ex.miss rfl ?_) | (refine CL.ret ?_) | (refine Rt.then ?_) | (refine Rt.block ?_) | (refine Pn.then ?_) | (refine Pn.block ?_) | (refine CL.done ?_) | (refine Nm.block ?_) | (refine Nm.then ?_) | (refine Gt.nil ?_; refine RW.nilw [0, 2, 3] ?_; dsimp only [H.keep, H.look, H.Fr.put, Nat.beq]) | (refine Gt.assign ?_; refine RW.y (Y.assign rfl) rfl ?_) | (refine Gt.move ?_; refine RW.y (Y.move rfl) rfl ?_) | (refine Gt.convert ?_; first | (refine RW.y (Y.convN rfl (by first | exact wrap64_id (by omega) (by omega) | exact wrapu64_id (by omega) (by omega))) rfl ?_) | (refine RW.y (Y.convW rfl) rfl ?_)) | (refine Gt.shr ?_; refine RW.y (Y.shr rfl rfl (by omega)) rfl ?_) | (refine Gt.and ?_; refine RW.y (Y.bits (by first | exact .inl rfl | exact .inr (.inl rfl) | exact .inr (.inr (.inl rfl)) | exact .inr (.inr (.inr rfl))) rfl rfl) rfl ?_) | (refine Gt.neg ?_; first | (refine RW.y (Y.neg64 rfl (by omega) (by omega)) rfl ?_) | (refine RW.y (Y.neg rfl) rfl ?_)) | (refine Gt.xor ?_; refine RW.y (Y.bits (by first | exact .inl rfl | exact .inr (.inl rfl) | exact .inr (.inr (.inl rfl)) | exact .inr (.inr (.inr rfl))) rfl rfl) rfl ?_))
    refine FQ.one rfl rfl rfl ⟨hk1, ?_, hR1⟩
    rw [shr1, and1_u64 n hn, wrap64_id (z := ((n / 2 : Nat) : Int)) (by omega) (by omega), wrap64_id (z := ((n % 2 : Nat) : Int)) (by omega) (by omega)]
    unfold unzz
    by_cases h2 : n % 2 = 0
    · rw [if_pos h2, h2, show IntKind.i64.wrap (0 - ((0 : Nat) : Int)) = 0 from by decide, xor_i64_zero (by omega) (by omega)]
    · have h21 : n % 2 = 1 := by omega
      rw [if_neg h2, h21, show IntKind.i64.wrap (0 - ((1 : Nat) : Int)) = -1 from by decide, xor_i64_neg (by omega) (by omega)]

set_option maxHeartbeats 1000000 in
theorem cText (b : Nat) (l : List UInt8) (w : World) (G : Nat → Prop) (hR : Rd w G b l false) :
    Calls Try.prog 43 #[.pointer (some ⟨b, 0, none⟩)] w (Got vs w G b (rdText l)) := by
  refine H.enter Try.func43 Try.ntmps43 rfl rfl ?_; dsimp only [H.args]
  repeat' (first | (refine CL.seq ?_) | (refine CL.region ?_) | (refine CL.skip ?_) | (refine CL.condP rfl (fun _ => ?_) (fun _ => ?_) <;> try (exfalso; omega)) | (refine CL.condT rfl ?_) | (refine CL.condF rfl ?_) | (refine CL.cond rfl (fun _ => ?_) (fun _ => ?_)) | (refine CL.block ?_) | (refine CL.exit ?_) | (refine Ex.then ?_) | (refine Ex.hit ?_) | (refine Ex.miss rfl ?_) | (refine CL.ret ?_) | (refine Rt.then ?_) | (refine Rt.block ?_) | (refine Pn.then ?_) | (refine Pn.block ?_) | (refine CL.done ?_) | (refine Nm.block ?_) | (refine Nm.then ?_) | (refine Gt.nil ?_; refine RW.nilw [0, 2, 3, 4] ?_; dsimp only [H.keep, H.look, H.Fr.put, Nat.beq]) | (refine Gt.move ?_; refine RW.y (Y.move rfl) rfl ?_) | (refine Gt.assign ?_; refine RW.y (Y.assign rfl) rfl ?_) | (refine Gt.nilck ?_; refine RW.y (Y.nilck rfl) rfl ?_) | (refine Gt.fieldAddr ?_; refine RW.y (Y.fieldAddr rfl (by rfl)) rfl ?_) | (refine Gt.load ?_; refine RW.y (Y.loadB rfl (by assumption) rfl) rfl ?_) | (refine Gt.convert ?_; first | (refine RW.y (Y.convN rfl (by first | exact wrap64_id (by omega) (by omega) | exact wrapu64_id (by omega) (by omega))) rfl ?_) | (refine RW.y (Y.convW rfl) rfl ?_)) | (refine Gt.len ?_; first | (refine RW.y (Y.lenv rfl) rfl ?_) | (refine RW.y (Y.lenx rfl (by assumption)) rfl ?_)) | (refine Gt.leq ?_; refine RW.y (Y.leq rfl rfl) rfl ?_))
  refine RW.fn rfl rfl ((cNum b l w G hR).mono ?_)
  rintro e w1 ⟨hk1, h⟩
  cases hrd : rdNum l with
  | none =>
    rw [hrd] at h
    obtain ⟨rfl, h⟩ := h
    (first | refine H.After.pn ?_ | refine H.After0.pn ?_ | skip); repeat' (first | refine Pn.then ?_ | refine Pn.block ?_)
    show _ ∧ _
    exact ⟨rfl, hk1, by rw [rdText, hrd]; exact ⟨rfl, h⟩⟩
  | some p =>
    obtain ⟨n, r⟩ := p
    rw [hrd] at h
    obtain ⟨rfl, hR1⟩ := h
    have hn := rdNum_lt hrd
    have hR1' := hR1
    obtain ⟨⟨v, e, hb, hs, hv⟩, hGb, hlt, hsh⟩ := hR1'
    repeat' (first | (refine CL.seq ?_) | (refine CL.region ?_) | (refine CL.skip ?_) | (refine CL.condP rfl (fun _ => ?_) (fun _ => ?_) <;> try (exfalso; omega)) | (refine CL.condT rfl ?_) | (refine CL.condF rfl ?_) | (refine CL.cond rfl (fun _ => ?_) (fun _ => ?_)) | (refine CL.block ?_) | (refine CL.exit ?_) | (refine Ex.then ?_) | (refine Ex.hit ?_) | (refine Ex.miss rfl ?_) | (refine CL.ret ?_) | (refine Rt.then ?_) | (refine Rt.block ?_) | (refine Pn.then ?_) | (refine Pn.block ?_) | (refine CL.done ?_) | (refine Nm.block ?_) | (refine Nm.then ?_) | (refine Gt.nil ?_; refine RW.nilw [0, 2, 3, 4] ?_; dsimp only [H.keep, H.look, H.Fr.put, Nat.beq]) | (refine Gt.move ?_; refine RW.y (Y.move rfl) rfl ?_) | (refine Gt.assign ?_; refine RW.y (Y.assign rfl) rfl ?_) | (refine Gt.nilck ?_; refine RW.y (Y.nilck rfl) rfl ?_) | (refine Gt.fieldAddr ?_; refine RW.y (Y.fieldAddr rfl (by rfl)) rfl ?_) | (refine Gt.load ?_; refine RW.y (Y.loadB rfl (by assumption) rfl) rfl ?_) | (refine Gt.convert ?_; first | (refine RW.y (Y.convN rfl (by first | exact wrap64_id (by omega) (by omega) | exact wrapu64_id (by omega) (by omega))) rfl ?_) | (refine RW.y (Y.convW rfl) rfl ?_)) | (refine Gt.len ?_; first | (refine RW.y (Y.lenv rfl) rfl ?_) | (refine RW.y (Y.lenx rfl (by assumption)) rfl ?_)) | (refine Gt.leq ?_; refine RW.y (Y.leq rfl rfl) rfl ?_))
    refine RW.fn rfl rfl ((must_b _ w1).mono ?_)
    rintro e w3 ⟨rfl, he⟩
    by_cases hle : n ≤ r.length
    case neg =>
      rw [if_neg (by simp; omega)] at he
      subst he
      (first | refine H.After.pn ?_ | refine H.After0.pn ?_ | skip); repeat' (first | refine Pn.then ?_ | refine Pn.block ?_)
      show _ ∧ _
      rw [show rdText l = none from by rw [rdText, hrd]; simp only [if_neg hle]]
      exact ⟨rfl, hk1, rfl, r, hR1⟩
    rw [if_pos (by simp; omega)] at he
    subst he
    repeat' (first | (refine CL.seq ?_) | (refine CL.region ?_) | (refine CL.skip ?_) | (refine CL.condP rfl (fun _ => ?_) (fun _ => ?_) <;> try (exfalso; omega)) | (refine CL.condT rfl ?_) | (refine CL.condF rfl ?_) | (refine CL.cond rfl (fun _ => ?_) (fun _ => ?_)) | (refine CL.block ?_) | (refine CL.exit ?_) | (refine Ex.then ?_) | (refine Ex.hit ?_) | (refine Ex.miss rfl ?_) | (refine CL.ret ?_) | (refine Rt.then ?_) | (refine Rt.block ?_) | (refine Pn.then ?_) | (refine Pn.block ?_) | (refine CL.done ?_) | (refine Nm.block ?_) | (refine Nm.then ?_) | (refine Gt.nil ?_; refine RW.nilw [0, 2, 3, 4] ?_; dsimp only [H.keep, H.look, H.Fr.put, Nat.beq]) | (refine Gt.move ?_; refine RW.y (Y.move rfl) rfl ?_) | (refine Gt.assign ?_; refine RW.y (Y.assign rfl) rfl ?_) | (refine Gt.nilck ?_; refine RW.y (Y.nilck rfl) rfl ?_) | (refine Gt.fieldAddr ?_; refine RW.y (Y.fieldAddr rfl (by rfl)) rfl ?_) | (refine Gt.load ?_; refine RW.y (Y.loadB rfl (by assumption) rfl) rfl ?_) | (refine Gt.convert ?_; first | (refine RW.y (Y.convN rfl (by first | exact wrap64_id (by omega) (by omega) | exact wrapu64_id (by omega) (by omega))) rfl ?_) | (refine RW.y (Y.convW rfl) rfl ?_)) | (refine Gt.len ?_; first | (refine RW.y (Y.lenv rfl) rfl ?_) | (refine RW.y (Y.lenx rfl (by assumption)) rfl ?_)) | (refine Gt.leq ?_; refine RW.y (Y.leq rfl rfl) rfl ?_))
    refine RW.subh rfl rfl rfl hs (by omega) (by omega) (fun v' hs' ho' => ?_)
    have hs2 : Sl w1 1 v' (r.take n).length (bv (r.take n)) := by simpa [Nat.min_eq_left hle] using hs'
    repeat' (first | (refine CL.seq ?_) | (refine CL.region ?_) | (refine CL.skip ?_) | (refine CL.condP rfl (fun _ => ?_) (fun _ => ?_) <;> try (exfalso; omega)) | (refine CL.condT rfl ?_) | (refine CL.condF rfl ?_) | (refine CL.cond rfl (fun _ => ?_) (fun _ => ?_)) | (refine CL.block ?_) | (refine CL.exit ?_) | (refine Ex.then ?_) | (refine Ex.hit ?_) | (refine Ex.miss rfl ?_) | (refine CL.ret ?_) | (refine Rt.then ?_) | (refine Rt.block ?_) | (refine Pn.then ?_) | (refine Pn.block ?_) | (refine CL.done ?_) | (refine Nm.block ?_) | (refine Nm.then ?_) | (refine Gt.nil ?_; refine RW.nilw [0, 2, 3, 4] ?_; dsimp only [H.keep, H.look, H.Fr.put, Nat.beq]) | (refine RW.y (Y.strb rfl hs2) rfl ?_) | (refine Gt.move ?_; refine RW.y (Y.move rfl) rfl ?_) | (refine Gt.assign ?_; refine RW.y (Y.assign rfl) rfl ?_) | (refine Gt.nilck ?_; refine RW.y (Y.nilck rfl) rfl ?_) | (refine Gt.fieldAddr ?_; refine RW.y (Y.fieldAddr rfl (by rfl)) rfl ?_) | (refine Gt.load ?_; refine RW.y (Y.loadB rfl (by assumption) rfl) rfl ?_) | (refine Gt.convert ?_; first | (refine RW.y (Y.convN rfl (by first | exact wrap64_id (by omega) (by omega) | exact wrapu64_id (by omega) (by omega))) rfl ?_) | (refine RW.y (Y.convW rfl) rfl ?_)) | (refine Gt.len ?_; first | (refine RW.y (Y.lenv rfl) rfl ?_) | (refine RW.y (Y.lenx rfl (by assumption)) rfl ?_)) | (refine Gt.leq ?_; refine RW.y (Y.leq rfl rfl) rfl ?_))
    refine RW.subl rfl rfl rfl hs (by omega) (by omega) (fun v2 hs3 ho3 => ?_)
    have hs4 : Sl w1 1 v2 (r.drop n).length (bv (r.drop n)) := by simpa using hs3
    repeat' (first | (refine CL.seq ?_) | (refine CL.region ?_) | (refine CL.skip ?_) | (refine CL.condP rfl (fun _ => ?_) (fun _ => ?_) <;> try (exfalso; omega)) | (refine CL.condT rfl ?_) | (refine CL.condF rfl ?_) | (refine CL.cond rfl (fun _ => ?_) (fun _ => ?_)) | (refine CL.block ?_) | (refine CL.exit ?_) | (refine Ex.then ?_) | (refine Ex.hit ?_) | (refine Ex.miss rfl ?_) | (refine CL.ret ?_) | (refine Rt.then ?_) | (refine Rt.block ?_) | (refine Pn.then ?_) | (refine Pn.block ?_) | (refine CL.done ?_) | (refine Nm.block ?_) | (refine Nm.then ?_) | (refine Gt.nil ?_; refine RW.nilw [0, 2, 3, 4] ?_; dsimp only [H.keep, H.look, H.Fr.put, Nat.beq]) | (refine Gt.move ?_; refine RW.y (Y.move rfl) rfl ?_) | (refine Gt.assign ?_; refine RW.y (Y.assign rfl) rfl ?_) | (refine Gt.nilck ?_; refine RW.y (Y.nilck rfl) rfl ?_) | (refine Gt.fieldAddr ?_; refine RW.y (Y.fieldAddr rfl (by rfl)) rfl ?_) | (refine Gt.load ?_; refine RW.y (Y.loadB rfl (by assumption) rfl) rfl ?_) | (refine Gt.convert ?_; first | (refine RW.y (Y.convN rfl (by first | exact wrap64_id (by omega) (by omega) | exact wrapu64_id (by omega) (by omega))) rfl ?_) | (refine RW.y (Y.convW rfl) rfl ?_)) | (refine Gt.len ?_; first | (refine RW.y (Y.lenv rfl) rfl ?_) | (refine RW.y (Y.lenx rfl (by assumption)) rfl ?_)) | (refine Gt.leq ?_; refine RW.y (Y.leq rfl rfl) rfl ?_))
    refine RW.storeB rfl rfl hs4.one hb (by simp) (fun w2 hb2 hk2 => ?_)
    have hR2 : Rd w2 G b (r.drop n) false := hR1.cut hb hs4 ho3 (by simp) hb2 hk2
    repeat' (first | (refine CL.seq ?_) | (refine CL.region ?_) | (refine CL.skip ?_) | (refine CL.condP rfl (fun _ => ?_) (fun _ => ?_) <;> try (exfalso; omega)) | (refine CL.condT rfl ?_) | (refine CL.condF rfl ?_) | (refine CL.cond rfl (fun _ => ?_) (fun _ => ?_)) | (refine CL.block ?_) | (refine CL.exit ?_) | (refine Ex.then ?_) | (refine Ex.hit ?_) | (refine Ex.miss rfl ?_) | (refine CL.ret ?_) | (refine Rt.then ?_) | (refine Rt.block ?_) | (refine Pn.then ?_) | (refine Pn.block ?_) | (refine CL.done ?_) | (refine Nm.block ?_) | (refine Nm.then ?_) | (refine Gt.nil ?_; refine RW.nilw [0, 2, 3, 4] ?_; dsimp only [H.keep, H.look, H.Fr.put, Nat.beq]) | (refine Gt.move ?_; refine RW.y (Y.move rfl) rfl ?_) | (refine Gt.assign ?_; refine RW.y (Y.assign rfl) rfl ?_) | (refine Gt.nilck ?_; refine RW.y (Y.nilck rfl) rfl ?_) | (refine Gt.fieldAddr ?_; refine RW.y (Y.fieldAddr rfl (by rfl)) rfl ?_) | (refine Gt.load ?_; refine RW.y (Y.loadB rfl (by assumption) rfl) rfl ?_) | (refine Gt.convert ?_; first | (refine RW.y (Y.convN rfl (by first | exact wrap64_id (by omega) (by omega) | exact wrapu64_id (by omega) (by omega))) rfl ?_) | (refine RW.y (Y.convW rfl) rfl ?_)) | (refine Gt.len ?_; first | (refine RW.y (Y.lenv rfl) rfl ?_) | (refine RW.y (Y.lenx rfl (by assumption)) rfl ?_)) | (refine Gt.leq ?_; refine RW.y (Y.leq rfl rfl) rfl ?_))
    rw [show rdText l = some (r.take n, r.drop n) from by rw [rdText, hrd]; simp only [if_pos hle]]
    exact FQ.one rfl rfl rfl ⟨hk1.trans hk2 fun k hk => .inl hk, rfl, hR2⟩

set_option maxHeartbeats 1000000 in
theorem cBool (b : Nat) (l : List UInt8) (w : World) (G : Nat → Prop) (hR : Rd w G b l false) :
    Calls Try.prog 45 #[.pointer (some ⟨b, 0, none⟩)] w (Got (fun x : Bool => .bool x) w G b (rdBool l)) := by
  have hR' := hR
  obtain ⟨⟨v, e, hb, hs, hv⟩, hGb, hlt, hsh⟩ := hR'
  rcases l with _ | ⟨x, r⟩
  · have hlen : ((([] : List UInt8).length : Nat) : Int) = 0 := rfl
    refine H.enter Try.func45 Try.ntmps45 rfl rfl ?_; dsimp only [H.args]
    repeat' (first | (refine CL.seq ?_) | (refine CL.region ?_) | (refine CL.skip ?_) | (refine CL.condP rfl (fun _ => ?_) (fun _ => ?_) <;> try (exfalso; omega)) | (refine CL.condT rfl ?_) | (refine CL.condF rfl ?_) | (refine CL.cond rfl (fun _ => ?_) (fun _ => ?_)) | (refine CL.block ?_) | (refine CL.exit ?_) | (refine Ex.then ?_) | (refine Ex.hit ?_) | (refine Ex.miss rfl ?_) | (refine CL.ret ?_) | (refine Rt.then ?_) | (refine Rt.block ?_) | (refine Pn.then ?_) | (refine Pn.block ?_) | (refine CL.done ?_) | (refine Nm.block ?_) | (refine Nm.then ?_) | (refine Gt.nil ?_; refine RW.nilw [0, 2, 3] ?_; dsimp only [H.keep, H.look, H.Fr.put, Nat.beq]) | (refine Gt.move ?_; refine RW.y (Y.move rfl) rfl ?_) | (refine Gt.guard ?_; first | (refine RW.part rfl rfl rfl (fun _ => ?_) (fun _ => ?_) <;> try (exfalso; omega)) | (refine RW.on rfl rfl rfl ?_) | (refine RW.off1 rfl rfl rfl rfl rfl ?_) | (refine RW.off rfl rfl rfl rfl rfl ?_) | (refine RW.offu rfl rfl rfl rfl ?_) | (refine RW.partb rfl rfl rfl (fun _ => ?_) (fun _ => ?_))) | (refine Gt.load ?_; refine RW.y (Y.loadB rfl (by assumption) rfl) rfl ?_) | (refine Gt.nilck ?_; refine RW.y (Y.nilck rfl) rfl ?_) | (refine Gt.fieldAddr ?_; refine RW.y (Y.fieldAddr rfl (by rfl)) rfl ?_) | (refine Gt.assign ?_; refine RW.y (Y.assign rfl) rfl ?_) | (refine Gt.idx ?_; first | (refine RW.elemB rfl rfl rfl rfl (by assumption) (by omega) (by omega) ?_) | (refine RW.elemBOn rfl rfl rfl rfl (by assumption) (by omega) (by omega) rfl rfl rfl ?_)) | (refine Gt.len ?_; first | (refine RW.y (Y.lenv rfl) rfl ?_) | (refine RW.y (Y.lenx rfl (by assumption)) rfl ?_)) | (refine Gt.gtr ?_; refine RW.y (Y.gtr rfl rfl) rfl ?_) | (refine Gt.leq ?_; refine RW.y (Y.leq rfl rfl) rfl ?_) | (refine Gt.pick ?_; first | (refine RW.y (Y.pickT rfl rfl) rfl ?_) | (refine RW.y (Y.pickF rfl rfl) rfl ?_)) | (refine Gt.eql ?_; refine RW.y (Y.eqi rfl rfl) rfl ?_))
    refine RW.fn rfl rfl ((must_b _ w).mono ?_)
    rintro e w3 ⟨rfl, he⟩
    rw [if_neg (by simp)] at he
    subst he
    (first | refine H.After.pn ?_ | refine H.After0.pn ?_ | skip); repeat' (first | refine Pn.then ?_ | refine Pn.block ?_)
    show _ ∧ _
    exact ⟨rfl, Kept.refl _ _, rfl, [], hR⟩
  · refine H.enter Try.func45 Try.ntmps45 rfl rfl ?_; dsimp only [H.args]
    have hx := x.toNat_lt
    have hlen : (((x :: r).length : Nat) : Int) = r.length + 1 := by simp
    repeat' (first | (refine CL.seq ?_) | (refine CL.region ?_) | (refine CL.skip ?_) | (refine CL.condP rfl (fun _ => ?_) (fun _ => ?_) <;> try (exfalso; omega)) | (refine CL.condT rfl ?_) | (refine CL.condF rfl ?_) | (refine CL.cond rfl (fun _ => ?_) (fun _ => ?_)) | (refine CL.block ?_) | (refine CL.exit ?_) | (refine Ex.then ?_) | (refine Ex.hit ?_) | (refine Ex.miss rfl ?_) | (refine CL.ret ?_) | (refine Rt.then ?_) | (refine Rt.block ?_) | (refine Pn.then ?_) | (refine Pn.block ?_) | (refine CL.done ?_) | (refine Nm.block ?_) | (refine Nm.then ?_) | (refine Gt.nil ?_; refine RW.nilw [0, 2, 3] ?_; dsimp only [H.keep, H.look, H.Fr.put, Nat.beq]) | (refine RW.elem rfl rfl rfl rfl hs (by omega) (by omega) (by rfl) ?_) | (refine RW.elemOn rfl rfl rfl rfl hs (by omega) (by omega) (by rfl) rfl rfl rfl ?_) | (refine Gt.move ?_; refine RW.y (Y.move rfl) rfl ?_) | (refine Gt.guard ?_; first | (refine RW.part rfl rfl rfl (fun _ => ?_) (fun _ => ?_) <;> try (exfalso; omega)) | (refine RW.on rfl rfl rfl ?_) | (refine RW.off1 rfl rfl rfl rfl rfl ?_) | (refine RW.off rfl rfl rfl rfl rfl ?_) | (refine RW.offu rfl rfl rfl rfl ?_) | (refine RW.partb rfl rfl rfl (fun _ => ?_) (fun _ => ?_))) | (refine Gt.load ?_; refine RW.y (Y.loadB rfl (by assumption) rfl) rfl ?_) | (refine Gt.nilck ?_; refine RW.y (Y.nilck rfl) rfl ?_) | (refine Gt.fieldAddr ?_; refine RW.y (Y.fieldAddr rfl (by rfl)) rfl ?_) | (refine Gt.assign ?_; refine RW.y (Y.assign rfl) rfl ?_) | (refine Gt.idx ?_; first | (refine RW.elemB rfl rfl rfl rfl (by assumption) (by omega) (by omega) ?_) | (refine RW.elemBOn rfl rfl rfl rfl (by assumption) (by omega) (by omega) rfl rfl rfl ?_)) | (refine Gt.len ?_; first | (refine RW.y (Y.lenv rfl) rfl ?_) | (refine RW.y (Y.lenx rfl (by assumption)) rfl ?_)) | (refine Gt.gtr ?_; refine RW.y (Y.gtr rfl rfl) rfl ?_) | (refine Gt.leq ?_; refine RW.y (Y.leq rfl rfl) rfl ?_) | (refine Gt.pick ?_; first | (refine RW.y (Y.pickT rfl rfl) rfl ?_) | (refine RW.y (Y.pickF rfl rfl) rfl ?_)) | (refine Gt.eql ?_; refine RW.y (Y.eqi rfl rfl) rfl ?_))
    refine RW.fn rfl rfl ((must_b _ w).mono ?_)
    rintro e w3 ⟨rfl, he⟩
    by_cases hle : x.toNat ≤ 1
    case neg =>
      rw [if_neg (by simp; omega)] at he
      subst he
      (first | refine H.After.pn ?_ | refine H.After0.pn ?_ | skip); repeat' (first | refine Pn.then ?_ | refine Pn.block ?_)
      show _ ∧ _
      exact ⟨rfl, Kept.refl _ _, by rw [rdBool, if_neg hle]; exact ⟨rfl, _, hR⟩⟩
    rw [if_pos (by simp; omega)] at he
    subst he
    repeat' (first | (refine CL.seq ?_) | (refine CL.region ?_) | (refine CL.skip ?_) | (refine CL.condP rfl (fun _ => ?_) (fun _ => ?_) <;> try (exfalso; omega)) | (refine CL.condT rfl ?_) | (refine CL.condF rfl ?_) | (refine CL.cond rfl (fun _ => ?_) (fun _ => ?_)) | (refine CL.block ?_) | (refine CL.exit ?_) | (refine Ex.then ?_) | (refine Ex.hit ?_) | (refine Ex.miss rfl ?_) | (refine CL.ret ?_) | (refine Rt.then ?_) | (refine Rt.block ?_) | (refine Pn.then ?_) | (refine Pn.block ?_) | (refine CL.done ?_) | (refine Nm.block ?_) | (refine Nm.then ?_) | (refine Gt.nil ?_; refine RW.nilw [0, 2, 3] ?_; dsimp only [H.keep, H.look, H.Fr.put, Nat.beq]) | (refine RW.elem rfl rfl rfl rfl hs (by omega) (by simp only [List.length_cons]; omega) (by rfl) ?_) | (refine Gt.move ?_; refine RW.y (Y.move rfl) rfl ?_) | (refine Gt.guard ?_; first | (refine RW.part rfl rfl rfl (fun _ => ?_) (fun _ => ?_) <;> try (exfalso; omega)) | (refine RW.on rfl rfl rfl ?_) | (refine RW.off1 rfl rfl rfl rfl rfl ?_) | (refine RW.off rfl rfl rfl rfl rfl ?_) | (refine RW.offu rfl rfl rfl rfl ?_) | (refine RW.partb rfl rfl rfl (fun _ => ?_) (fun _ => ?_))) | (refine Gt.load ?_; refine RW.y (Y.loadB rfl (by assumption) rfl) rfl ?_) | (refine Gt.nilck ?_; refine RW.y (Y.nilck rfl) rfl ?_) | (refine Gt.fieldAddr ?_; refine RW.y (Y.fieldAddr rfl (by rfl)) rfl ?_) | (refine Gt.assign ?_; refine RW.y (Y.assign rfl) rfl ?_) | (refine Gt.idx ?_; first | (refine RW.elemB rfl rfl rfl rfl (by assumption) (by omega) (by omega) ?_) | (refine RW.elemBOn rfl rfl rfl rfl (by assumption) (by omega) (by omega) rfl rfl rfl ?_)) | (refine Gt.len ?_; first | (refine RW.y (Y.lenv rfl) rfl ?_) | (refine RW.y (Y.lenx rfl (by assumption)) rfl ?_)) | (refine Gt.gtr ?_; refine RW.y (Y.gtr rfl rfl) rfl ?_) | (refine Gt.leq ?_; refine RW.y (Y.leq rfl rfl) rfl ?_) | (refine Gt.pick ?_; first | (refine RW.y (Y.pickT rfl rfl) rfl ?_) | (refine RW.y (Y.pickF rfl rfl) rfl ?_)) | (refine Gt.eql ?_; refine RW.y (Y.eqi rfl rfl) rfl ?_))
    refine RW.subl rfl rfl rfl hs (by omega) (by simp only [List.length_cons]; omega) (fun v' hs' ho' => ?_)
    have hs2 : Sl w 1 v' r.length (bv r) := by simpa using hs'
    repeat' (first | (refine CL.seq ?_) | (refine CL.region ?_) | (refine CL.skip ?_) | (refine CL.condP rfl (fun _ => ?_) (fun _ => ?_) <;> try (exfalso; omega)) | (refine CL.condT rfl ?_) | (refine CL.condF rfl ?_) | (refine CL.cond rfl (fun _ => ?_) (fun _ => ?_)) | (refine CL.block ?_) | (refine CL.exit ?_) | (refine Ex.then ?_) | (refine Ex.hit ?_) | (refine Ex.miss rfl ?_) | (refine CL.ret ?_) | (refine Rt.then ?_) | (refine Rt.block ?_) | (refine Pn.then ?_) | (refine Pn.block ?_) | (refine CL.done ?_) | (refine Nm.block ?_) | (refine Nm.then ?_) | (refine Gt.nil ?_; refine RW.nilw [0, 2, 3] ?_; dsimp only [H.keep, H.look, H.Fr.put, Nat.beq]) | (refine Gt.move ?_; refine RW.y (Y.move rfl) rfl ?_) | (refine Gt.guard ?_; first | (refine RW.part rfl rfl rfl (fun _ => ?_) (fun _ => ?_) <;> try (exfalso; omega)) | (refine RW.on rfl rfl rfl ?_) | (refine RW.off1 rfl rfl rfl rfl rfl ?_) | (refine RW.off rfl rfl rfl rfl rfl ?_) | (refine RW.offu rfl rfl rfl rfl ?_) | (refine RW.partb rfl rfl rfl (fun _ => ?_) (fun _ => ?_))) | (refine Gt.load ?_; refine RW.y (Y.loadB rfl (by assumption) rfl) rfl ?_) | (refine Gt.nilck ?_; refine RW.y (Y.nilck rfl) rfl ?_) | (refine Gt.fieldAddr ?_; refine RW.y (Y.fieldAddr rfl (by rfl)) rfl ?_) | (refine Gt.assign ?_; refine RW.y (Y.assign rfl) rfl ?_) | (refine Gt.idx ?_; first | (refine RW.elemB rfl rfl rfl rfl (by assumption) (by omega) (by omega) ?_) | (refine RW.elemBOn rfl rfl rfl rfl (by assumption) (by omega) (by omega) rfl rfl rfl ?_)) | (refine Gt.len ?_; first | (refine RW.y (Y.lenv rfl) rfl ?_) | (refine RW.y (Y.lenx rfl (by assumption)) rfl ?_)) | (refine Gt.gtr ?_; refine RW.y (Y.gtr rfl rfl) rfl ?_) | (refine Gt.leq ?_; refine RW.y (Y.leq rfl rfl) rfl ?_) | (refine Gt.pick ?_; first | (refine RW.y (Y.pickT rfl rfl) rfl ?_) | (refine RW.y (Y.pickF rfl rfl) rfl ?_)) | (refine Gt.eql ?_; refine RW.y (Y.eqi rfl rfl) rfl ?_))
    refine RW.storeB rfl rfl hs2.one hb (by simp) (fun w2 hb2 hk2 => ?_)
    have hR2 : Rd w2 G b r false := hR.cut hb hs2 ho' (by simp) hb2 hk2
    repeat' (first | (refine CL.seq ?_) | (refine CL.region ?_) | (refine CL.skip ?_) | (refine CL.condP rfl (fun _ => ?_) (fun _ => ?_) <;> try (exfalso; omega)) | (refine CL.condT rfl ?_) | (refine CL.condF rfl ?_) | (refine CL.cond rfl (fun _ => ?_) (fun _ => ?_)) | (refine CL.block ?_) | (refine CL.exit ?_) | (refine Ex.then ?_) | (refine Ex.hit ?_) | (refine Ex.miss rfl ?_) | (refine CL.ret ?_) | (refine Rt.then ?_) | (refine Rt.block ?_) | (refine Pn.then ?_) | (refine Pn.block ?_) | (refine CL.done ?_) | (refine Nm.block ?_) | (refine Nm.then ?_) | (refine Gt.nil ?_; refine RW.nilw [0, 2, 3] ?_; dsimp only [H.keep, H.look, H.Fr.put, Nat.beq]) | (refine Gt.move ?_; refine RW.y (Y.move rfl) rfl ?_) | (refine Gt.guard ?_; first | (refine RW.part rfl rfl rfl (fun _ => ?_) (fun _ => ?_) <;> try (exfalso; omega)) | (refine RW.on rfl rfl rfl ?_) | (refine RW.off1 rfl rfl rfl rfl rfl ?_) | (refine RW.off rfl rfl rfl rfl rfl ?_) | (refine RW.offu rfl rfl rfl rfl ?_) | (refine RW.partb rfl rfl rfl (fun _ => ?_) (fun _ => ?_))) | (refine Gt.load ?_; refine RW.y (Y.loadB rfl (by assumption) rfl) rfl ?_) | (refine Gt.nilck ?_; refine RW.y (Y.nilck rfl) rfl ?_) | (refine Gt.fieldAddr ?_; refine RW.y (Y.fieldAddr rfl (by rfl)) rfl ?_) | (refine Gt.assign ?_; refine RW.y (Y.assign rfl) rfl ?_) | (refine Gt.idx ?_; first | (refine RW.elemB rfl rfl rfl rfl (by assumption) (by omega) (by omega) ?_) | (refine RW.elemBOn rfl rfl rfl rfl (by assumption) (by omega) (by omega) rfl rfl rfl ?_)) | (refine Gt.len ?_; first | (refine RW.y (Y.lenv rfl) rfl ?_) | (refine RW.y (Y.lenx rfl (by assumption)) rfl ?_)) | (refine Gt.gtr ?_; refine RW.y (Y.gtr rfl rfl) rfl ?_) | (refine Gt.leq ?_; refine RW.y (Y.leq rfl rfl) rfl ?_) | (refine Gt.pick ?_; first | (refine RW.y (Y.pickT rfl rfl) rfl ?_) | (refine RW.y (Y.pickF rfl rfl) rfl ?_)) | (refine Gt.eql ?_; refine RW.y (Y.eqi rfl rfl) rfl ?_))
    refine FQ.one rfl rfl rfl ⟨hk2, ?_⟩
    rw [rdBool, if_pos hle]
    refine ⟨?_, hR2⟩
    have : decide ((x.toNat : Int) = 1) = decide (x.toNat = 1) := by congr 1; simp; omega
    rw [this]
end Go.Proofs.Ytblbibdjddmfiaa.Co
