/-
  Versions, walked: their texts.
-/
import Derived.Test.YteihfeghbpklkaaDoorVe7
import Derived.Test.YteihfeghbpklkaaDoorS5
namespace Go.Proofs.YteihfeghbpklkaaDoor.Ve
open Go.RowKit H S
attribute [local irreducible] H.CL H.RW H.CW H.Yd H.thenK H.blockQ Go.Calls

/-- The library's table of tens lies where it was laid. -/
def Tb (w : World) : Prop := Go.Lib.TabIs Tryd.prog w "internal/strconv.uint64pow10" .u64 Go.Lib.pow10Tab
theorem var_kept {P : Program} {w w' : World} {n : String} {cs : Array Value} (h : w.var? P n = some cs) (k : K0 w w') : w'.var? P n = some cs := by
  unfold World.var? at h ⊢
  cases hg : P.globalNamed n with
  | none => rw [hg] at h; cases h
  | some g =>
    rw [hg] at h
    simp only [Option.bind_some] at h ⊢
    cases ho : w.heap[g]? with
    | none => rw [ho] at h; cases h
    | some o => rw [k.at0 ho]; rw [ho] at h; exact h
theorem Tb.keep0 {w w' : World} (h : Tb w) (k : K0 w w') : Tb w' := var_kept h k

theorem dec_len : ∀ (k u : Nat), u < 10 ^ (k + 1) → (Go.Lib.decDigits u).length ≤ k + 1
  | 0, u, h => by rw [Go.Lib.decDigits, dif_pos (by simpa using h)]; simp
  | k + 1, u, h => by
    rw [Go.Lib.decDigits]
    split
    · simp
    · have := dec_len k (u / 10) (by rw [Nat.pow_succ] at h; omega)
      simp only [List.length_append, List.length_cons, List.length_nil]
      omega
theorem decI_len (n : Int) (h : n ≤ 9223372036854775807) : (decI n).length ≤ 19 :=
  dec_len 18 n.toNat (by have : (10 : Nat) ^ 19 = 10000000000000000000 := by decide
                         omega)

theorem itoa (n : Int) (h0 : 0 ≤ n) (h1 : n ≤ 9223372036854775807) (w : World) (hT : Tb w) : Calls Tryd.prog 34 #[.int .i64 n] w fun e w' => K0 w w' ∧ e = .returned (vs (decI n)) := by
  refine (Tryd.strconv_Itoa n (by omega) h1 w hT).mono ?_
  rintro e w' ⟨rfl, k, os, rfl⟩
  refine ⟨⟨rfl, rfl, rfl, by simp [Go.Sort.grow], fun j hj _ => ?_⟩, ?_⟩
  · simp only [Go.Sort.grow]
    exact Array.getElem?_append_left hj
  · rw [Go.Lib.itoa, if_neg (by omega)]; rfl

theorem decI_max (n : Int) : decI (max n 0) = decI n := by
  unfold decI
  rw [show (max n 0).toNat = n.toNat from by omega]

set_option maxHeartbeats 1000000 in
theorem text (X : Value) (x : Ver) (w : World) (hX : VerAt w X x) (fx : Fit x) (hT : Tb w) (b1 : x.a ≤ 9223372036854775807) (b2 : x.b ≤ 9223372036854775807) (b3 : x.c ≤ 9223372036854775807) : Calls Tryd.prog 13 #[X] w fun e w' => K0 w w' ∧ e = .returned (vs (textV x)) := by
  obtain ⟨p, rfl, hp⟩ := hX
  have l1 := decI_len x.a b1
  have l2 := decI_len x.b b2
  have l3 := decI_len x.c b3
  have lg := glueC_len 46 1000000 x.pre fx.2
  have lf := fx.1
  have lg2 : x.pre.length * (1000000 + 1) ≤ 1000000 * 1000001 := Nat.mul_le_mul lf (Nat.le_refl _)
  have k1 : ([46] : T).length = 1 := rfl
  have k2 : ([45] : T).length = 1 := rfl
  refine H.enter Tryd.func13 Tryd.ntmps13 rfl rfl ?_; dsimp only [H.args]
  repeat' (first | (refine CL.seq ?_) | (refine CL.region ?_) | (refine CL.skip ?_) | (refine CL.condP rfl (fun _ => ?_) (fun _ => ?_) <;> try (exfalso; omega)) | (refine CL.condT rfl ?_) | (refine CL.condF rfl ?_) | (refine CL.cond rfl (fun _ => ?_) (fun _ => ?_)) | (refine CL.block ?_) | (refine CL.exit ?_) | (refine Ex.then ?_) | (refine Ex.hit ?_) | (refine Ex.miss rfl ?_) | (refine CL.ret ?_) | (refine Rt.then ?_) | (refine Rt.block ?_) | (refine Pn.then ?_) | (refine Pn.block ?_) | (refine CL.done ?_) | (refine Nm.block ?_) | (refine Nm.then ?_) | (refine Gt.nil ?_; refine RW.nilw [0, 1, 2, 3, 23] ?_; dsimp only [H.keep, H.look, H.Fr.put, Nat.beq]) | (refine Gt.add ?_; refine RW.y (Y.cat rfl rfl (by first | omega | (simp only [List.length_append, List.length_cons, List.length_nil]; omega))) rfl ?_) | (refine Gt.fieldAddr ?_; refine RW.y (Y.fieldAddr rfl (by rfl)) rfl ?_) | (refine Gt.load ?_; refine RW.y (Y.loadB rfl (by assumption) rfl) rfl ?_) | (refine Gt.assign ?_; refine RW.y (Y.assign rfl) rfl ?_) | (refine Gt.call ?_; refine RW.y (Y.max2 rfl rfl) rfl ?_) | (refine Gt.move ?_; refine RW.y (Y.move rfl) rfl ?_) | (refine Gt.len ?_; first | (refine RW.y (Y.lenv rfl) rfl ?_) | (refine RW.y (Y.lenx rfl (by assumption)) rfl ?_)) | (refine Gt.gtr ?_; refine RW.y (Y.gtr rfl rfl) rfl ?_))
  refine RW.box rfl rfl (fun w1 hb1 hk1 hlt1 => ?_)
  have hX1 : w1.heap[w.heap.size]? = some (.cells #[.int .i64 x.a, .int .i64 x.b, .int .i64 x.c, p] verT (0, 0)) := hb1
  have hT1 := hT.keep0 hk1
  repeat' (first | (refine CL.seq ?_) | (refine CL.region ?_) | (refine CL.skip ?_) | (refine CL.condP rfl (fun _ => ?_) (fun _ => ?_) <;> try (exfalso; omega)) | (refine CL.condT rfl ?_) | (refine CL.condF rfl ?_) | (refine CL.cond rfl (fun _ => ?_) (fun _ => ?_)) | (refine CL.block ?_) | (refine CL.exit ?_) | (refine Ex.then ?_) | (refine Ex.hit ?_) | (refine Ex.miss rfl ?_) | (refine CL.ret ?_) | (refine Rt.then ?_) | (refine Rt.block ?_) | (refine Pn.then ?_) | (refine Pn.block ?_) | (refine CL.done ?_) | (refine Nm.block ?_) | (refine Nm.then ?_) | (refine Gt.nil ?_; refine RW.nilw [0, 1, 2, 3, 23] ?_; dsimp only [H.keep, H.look, H.Fr.put, Nat.beq]) | (refine Gt.add ?_; refine RW.y (Y.cat rfl rfl (by first | omega | (simp only [List.length_append, List.length_cons, List.length_nil]; omega))) rfl ?_) | (refine Gt.fieldAddr ?_; refine RW.y (Y.fieldAddr rfl (by rfl)) rfl ?_) | (refine Gt.load ?_; refine RW.y (Y.loadB rfl (by assumption) rfl) rfl ?_) | (refine Gt.assign ?_; refine RW.y (Y.assign rfl) rfl ?_) | (refine Gt.call ?_; refine RW.y (Y.max2 rfl rfl) rfl ?_) | (refine Gt.move ?_; refine RW.y (Y.move rfl) rfl ?_) | (refine Gt.len ?_; first | (refine RW.y (Y.lenv rfl) rfl ?_) | (refine RW.y (Y.lenx rfl (by assumption)) rfl ?_)) | (refine Gt.gtr ?_; refine RW.y (Y.gtr rfl rfl) rfl ?_))
  refine CL.draw (fun w' => K0 w1 w') (by kernel_rfl) (fun w2 hheap hk2 => ?_)
  have hS : K0 w1 w2 := hk2
  skip
  refine AW.take 0 rfl (by kernel_rfl) (by kernel_rfl) (by kernel_rfl) rfl (by assumption) (fun w hS => Y.fieldAddr rfl (by rfl)) ?_
  refine AW.take 1 rfl (by kernel_rfl) (by kernel_rfl) (by kernel_rfl) rfl (by assumption) (fun w hS => Y.loadB rfl (hS.at0 hX1) rfl) ?_
  refine AW.take 2 rfl (by kernel_rfl) (by kernel_rfl) (by kernel_rfl) rfl (by assumption) (fun w hS => Y.max2 rfl rfl) ?_
  refine AW.take 5 rfl (by kernel_rfl) (by kernel_rfl) (by kernel_rfl) rfl (by assumption) (fun w hS => Y.fieldAddr rfl (by rfl)) ?_
  refine AW.take 6 rfl (by kernel_rfl) (by kernel_rfl) (by kernel_rfl) rfl (by assumption) (fun w hS => Y.loadB rfl (hS.at0 hX1) rfl) ?_
  refine AW.take 7 rfl (by kernel_rfl) (by kernel_rfl) (by kernel_rfl) rfl (by assumption) (fun w hS => Y.max2 rfl rfl) ?_
  refine AW.take 11 rfl (by kernel_rfl) (by kernel_rfl) (by kernel_rfl) rfl (by assumption) (fun w hS => Y.fieldAddr rfl (by rfl)) ?_
  refine AW.take 12 rfl (by kernel_rfl) (by kernel_rfl) (by kernel_rfl) rfl (by assumption) (fun w hS => Y.loadB rfl (hS.at0 hX1) rfl) ?_
  refine AW.take 13 rfl (by kernel_rfl) (by kernel_rfl) (by kernel_rfl) rfl (by assumption) (fun w hS => Y.max2 rfl rfl) ?_
  refine AW.next 3 rfl (by kernel_rfl) ?_
  refine RW.fn rfl rfl ((itoa _ (by omega) (by omega) w2 (hT1.keep0 hk2)).mono ?_)
  rintro e w3 ⟨hk3, rfl⟩
  rw [decI_max]
  refine RW.nil (Nm.then (rebase0 hS hk3 fun hS => ?_))
  have hT3 := (hT1.keep0 hk2).keep0 hk3
  refine AW.take 4 rfl (by kernel_rfl) (by kernel_rfl) (by kernel_rfl) rfl (by assumption) (fun w hS => Y.cat rfl rfl (by omega)) ?_
  refine AW.next 8 rfl (by kernel_rfl) ?_
  refine RW.fn rfl rfl ((itoa _ (by omega) (by omega) w3 hT3).mono ?_)
  rintro e w4 ⟨hk4, rfl⟩
  rw [decI_max]
  refine RW.nil (Nm.then (rebase0 hS hk4 fun hS => ?_))
  have hT4 := hT3.keep0 hk4
  refine AW.take 9 rfl (by kernel_rfl) (by kernel_rfl) (by kernel_rfl) rfl (by assumption) (fun w hS => by first | exact Y.add64 rfl rfl (by omega) (by omega) | exact Y.addu rfl rfl (by omega) (by omega) | exact Y.addN rfl rfl (by first | exact wrap64_id (by omega) (by omega) | exact wrapu64_id (by omega) (by omega) | exact wrapu8_id (by omega) (by omega) | exact wrapu16_id (by omega) (by omega) | exact wrapu32_id (by omega) (by omega)) | exact Y.cat rfl rfl (by first | omega | (simp only [List.length_append, List.length_cons, List.length_nil]; omega))) ?_
  refine AW.take 10 rfl (by kernel_rfl) (by kernel_rfl) (by kernel_rfl) rfl (by assumption) (fun w hS => by first | exact Y.add64 rfl rfl (by omega) (by omega) | exact Y.addu rfl rfl (by omega) (by omega) | exact Y.addN rfl rfl (by first | exact wrap64_id (by omega) (by omega) | exact wrapu64_id (by omega) (by omega) | exact wrapu8_id (by omega) (by omega) | exact wrapu16_id (by omega) (by omega) | exact wrapu32_id (by omega) (by omega)) | exact Y.cat rfl rfl (by first | omega | (simp only [List.length_append, List.length_cons, List.length_nil]; omega))) ?_
  refine AW.next 14 rfl (by kernel_rfl) ?_
  refine RW.fn rfl rfl ((itoa _ (by omega) (by omega) w4 hT4).mono ?_)
  rintro e w5 ⟨hk5, rfl⟩
  rw [decI_max]
  refine RW.nil (Nm.then (rebase0 hS hk5 fun hS => ?_))
  refine AW.take 15 rfl (by kernel_rfl) (by kernel_rfl) (by kernel_rfl) rfl (by assumption) (fun w hS => by first | exact Y.add64 rfl rfl (by omega) (by omega) | exact Y.addu rfl rfl (by omega) (by omega) | exact Y.addN rfl rfl (by first | exact wrap64_id (by omega) (by omega) | exact wrapu64_id (by omega) (by omega) | exact wrapu8_id (by omega) (by omega) | exact wrapu16_id (by omega) (by omega) | exact wrapu32_id (by omega) (by omega)) | exact Y.cat rfl rfl (by first | omega | (simp only [List.length_append, List.length_cons, List.length_nil]; omega))) ?_
  refine AW.take 16 rfl (by kernel_rfl) (by kernel_rfl) (by kernel_rfl) rfl (by assumption) (fun w hS => Y.assign rfl) ?_
  refine AW.donew [1, 2, 3] (by kernel_rfl) ?_
  dsimp only [H.keep, H.look, H.Fr.put, Nat.beq]
  have hK15 : K0 w1 w5 := ((hk2.trans0 hk3).trans0 hk4).trans0 hk5
  have hX5 := hK15.at0 hX1
  have hK5 : K0 w w5 := hk1.trans0 hK15
  have hp5 := hp.keep0 hK5
  repeat' (first | (refine CL.seq ?_) | (refine CL.region ?_) | (refine CL.skip ?_) | (refine CL.condP rfl (fun _ => ?_) (fun _ => ?_) <;> try (exfalso; omega)) | (refine CL.condT rfl ?_) | (refine CL.condF rfl ?_) | (refine CL.cond rfl (fun _ => ?_) (fun _ => ?_)) | (refine CL.block ?_) | (refine CL.exit ?_) | (refine Ex.then ?_) | (refine Ex.hit ?_) | (refine Ex.miss rfl ?_) | (refine CL.ret ?_) | (refine Rt.then ?_) | (refine Rt.block ?_) | (refine Pn.then ?_) | (refine Pn.block ?_) | (refine CL.done ?_) | (refine Nm.block ?_) | (refine Nm.then ?_) | (refine Gt.nil ?_; refine RW.nilw [0, 1, 2, 3, 23] ?_; dsimp only [H.keep, H.look, H.Fr.put, Nat.beq]) | (refine Gt.add ?_; refine RW.y (Y.cat rfl rfl (by first | omega | (simp only [List.length_append, List.length_cons, List.length_nil]; omega))) rfl ?_) | (refine Gt.fieldAddr ?_; refine RW.y (Y.fieldAddr rfl (by rfl)) rfl ?_) | (refine Gt.load ?_; refine RW.y (Y.loadB rfl (by assumption) rfl) rfl ?_) | (refine Gt.assign ?_; refine RW.y (Y.assign rfl) rfl ?_) | (refine Gt.call ?_; refine RW.y (Y.max2 rfl rfl) rfl ?_) | (refine Gt.move ?_; refine RW.y (Y.move rfl) rfl ?_) | (refine Gt.len ?_; first | (refine RW.y (Y.lenv rfl) rfl ?_) | (refine RW.y (Y.lenx rfl (by assumption)) rfl ?_)) | (refine Gt.gtr ?_; refine RW.y (Y.gtr rfl rfl) rfl ?_))
  · rename_i h
    have hne : x.pre ≠ [] := List.length_pos_iff.1 (by omega)
    refine RW.fn rfl rfl ((join p x.pre [46] w5 hp5 (by rw [join_glueC]; omega) (by omega)).mono ?_)
    rintro e w6 ⟨rfl, hk6⟩
    rw [join_glueC]
    repeat' (first | (refine CL.seq ?_) | (refine CL.region ?_) | (refine CL.skip ?_) | (refine CL.condP rfl (fun _ => ?_) (fun _ => ?_) <;> try (exfalso; omega)) | (refine CL.condT rfl ?_) | (refine CL.condF rfl ?_) | (refine CL.cond rfl (fun _ => ?_) (fun _ => ?_)) | (refine CL.block ?_) | (refine CL.exit ?_) | (refine Ex.then ?_) | (refine Ex.hit ?_) | (refine Ex.miss rfl ?_) | (refine CL.ret ?_) | (refine Rt.then ?_) | (refine Rt.block ?_) | (refine Pn.then ?_) | (refine Pn.block ?_) | (refine CL.done ?_) | (refine Nm.block ?_) | (refine Nm.then ?_) | (refine Gt.nil ?_; refine RW.nilw [0, 1, 2, 3, 23] ?_; dsimp only [H.keep, H.look, H.Fr.put, Nat.beq]) | (refine Gt.add ?_; refine RW.y (Y.cat rfl rfl (by first | omega | (simp only [List.length_append, List.length_cons, List.length_nil]; omega))) rfl ?_) | (refine Gt.fieldAddr ?_; refine RW.y (Y.fieldAddr rfl (by rfl)) rfl ?_) | (refine Gt.load ?_; refine RW.y (Y.loadB rfl (by assumption) rfl) rfl ?_) | (refine Gt.assign ?_; refine RW.y (Y.assign rfl) rfl ?_) | (refine Gt.call ?_; refine RW.y (Y.max2 rfl rfl) rfl ?_) | (refine Gt.move ?_; refine RW.y (Y.move rfl) rfl ?_) | (refine Gt.len ?_; first | (refine RW.y (Y.lenv rfl) rfl ?_) | (refine RW.y (Y.lenx rfl (by assumption)) rfl ?_)) | (refine Gt.gtr ?_; refine RW.y (Y.gtr rfl rfl) rfl ?_))
    refine FQ.one rfl rfl rfl ⟨hK5.trans0 hk6, ?_⟩
    rw [textV, if_neg hne]
    simp only [List.append_assoc]
    rfl
  · rename_i h
    have hne : x.pre = [] := List.length_eq_zero_iff.1 (by omega)
    refine FQ.one rfl rfl rfl ⟨hK5, ?_⟩
    rw [textV, if_pos hne, List.append_nil]

theorem dig_cut (n : Int) (h0 : 0 ≤ n) (h1 : n < 10) : ((([48, 49, 50, 51, 52, 53, 54, 55, 56, 57] : T).take (n + 1).toNat).drop n.toNat) = [UInt8.ofNat (48 + n.toNat)] := by
  obtain ⟨k, rfl⟩ : ∃ k : Nat, n = k := ⟨n.toNat, by omega⟩
  have h2 : ((k : Int) + 1).toNat = k + 1 := by omega
  rw [h2, Int.toNat_natCast]
  have : k = 0 ∨ k = 1 ∨ k = 2 ∨ k = 3 ∨ k = 4 ∨ k = 5 ∨ k = 6 ∨ k = 7 ∨ k = 8 ∨ k = 9 := by omega
  rcases this with rfl | rfl | rfl | rfl | rfl | rfl | rfl | rfl | rfl | rfl <;> rfl

theorem refDecSmall (n : Int) (h10 : n < 10) (w : World) : Calls Tryd.prog 23 #[.int .i64 n] w fun e w' => K0 w w' ∧ e = .returned (vs (decI n)) := by
  refine H.enter Tryd.func23 Tryd.ntmps23 rfl rfl ?_; dsimp only [H.args]
  repeat' (first | (refine CL.seq ?_) | (refine CL.region ?_) | (refine CL.skip ?_) | (refine CL.condP rfl (fun _ => ?_) (fun _ => ?_) <;> try (exfalso; omega)) | (refine CL.condT rfl ?_) | (refine CL.condF rfl ?_) | (refine CL.cond rfl (fun _ => ?_) (fun _ => ?_)) | (refine CL.block ?_) | (refine CL.exit ?_) | (refine Ex.then ?_) | (refine Ex.hit ?_) | (refine Ex.miss rfl ?_) | (refine CL.ret ?_) | (refine Rt.then ?_) | (refine Rt.block ?_) | (refine Pn.then ?_) | (refine Pn.block ?_) | (refine CL.done ?_) | (refine Nm.block ?_) | (refine Nm.then ?_) | (refine Gt.nil ?_; refine RW.nilw [0, 2, 4] ?_; dsimp only [H.keep, H.look, H.Fr.put, Nat.beq]) | (refine Gt.move ?_; refine RW.y (Y.move rfl) rfl ?_) | (refine Gt.assign ?_; refine RW.y (Y.assign rfl) rfl ?_) | (refine Gt.add ?_; first | (refine RW.y (Y.add64 rfl rfl (by omega) (by omega)) rfl ?_) | (refine RW.y (Y.cat rfl rfl (by first | omega | (simp only [List.length_append, List.length_cons, List.length_nil]; omega))) rfl ?_)) | (refine Gt.slice ?_; refine RW.y (Y.cutlh rfl rfl rfl (by omega) (by omega) (by omega)) rfl ?_) | (refine Gt.rem ?_; first | (refine RW.y (Y.remP rfl rfl (by omega) (by omega)) rfl ?_) | (refine RW.y (Y.rem rfl rfl (by omega)) rfl ?_)) | (refine Gt.lss ?_; refine RW.y (Y.lss rfl rfl) rfl ?_) | (refine Gt.call ?_; refine RW.y (Y.max2 rfl rfl) rfl ?_) | (refine Gt.quo ?_; refine RW.y (Y.quoP rfl rfl (by omega) (by omega) (by first | exact wrap64_id (by omega) (by omega) | exact wrapu64_id (by omega) (by omega) | exact wrapu8_id (by omega) (by omega) | exact wrapu16_id (by omega) (by omega) | exact wrapu32_id (by omega) (by omega))) rfl ?_))
  refine RW.y (Y.cutlh (l := [48, 49, 50, 51, 52, 53, 54, 55, 56, 57]) rfl rfl rfl (by omega) (by omega) (show (_ : Int) ≤ ((10 : Nat) : Int) from by omega)) rfl ?_
  repeat' (first | (refine CL.seq ?_) | (refine CL.region ?_) | (refine CL.skip ?_) | (refine CL.condP rfl (fun _ => ?_) (fun _ => ?_) <;> try (exfalso; omega)) | (refine CL.condT rfl ?_) | (refine CL.condF rfl ?_) | (refine CL.cond rfl (fun _ => ?_) (fun _ => ?_)) | (refine CL.block ?_) | (refine CL.exit ?_) | (refine Ex.then ?_) | (refine Ex.hit ?_) | (refine Ex.miss rfl ?_) | (refine CL.ret ?_) | (refine Rt.then ?_) | (refine Rt.block ?_) | (refine Pn.then ?_) | (refine Pn.block ?_) | (refine CL.done ?_) | (refine Nm.block ?_) | (refine Nm.then ?_) | (refine Gt.nil ?_; refine RW.nilw [0, 2, 4] ?_; dsimp only [H.keep, H.look, H.Fr.put, Nat.beq]) | (refine Gt.move ?_; refine RW.y (Y.move rfl) rfl ?_) | (refine Gt.assign ?_; refine RW.y (Y.assign rfl) rfl ?_) | (refine Gt.add ?_; first | (refine RW.y (Y.add64 rfl rfl (by omega) (by omega)) rfl ?_) | (refine RW.y (Y.cat rfl rfl (by first | omega | (simp only [List.length_append, List.length_cons, List.length_nil]; omega))) rfl ?_)) | (refine Gt.slice ?_; refine RW.y (Y.cutlh rfl rfl rfl (by omega) (by omega) (by omega)) rfl ?_) | (refine Gt.rem ?_; first | (refine RW.y (Y.remP rfl rfl (by omega) (by omega)) rfl ?_) | (refine RW.y (Y.rem rfl rfl (by omega)) rfl ?_)) | (refine Gt.lss ?_; refine RW.y (Y.lss rfl rfl) rfl ?_) | (refine Gt.call ?_; refine RW.y (Y.max2 rfl rfl) rfl ?_) | (refine Gt.quo ?_; refine RW.y (Y.quoP rfl rfl (by omega) (by omega) (by first | exact wrap64_id (by omega) (by omega) | exact wrapu64_id (by omega) (by omega) | exact wrapu8_id (by omega) (by omega) | exact wrapu16_id (by omega) (by omega) | exact wrapu32_id (by omega) (by omega))) rfl ?_))
  refine FQ.one rfl rfl rfl ⟨Kept.refl _ _, ?_⟩
  rw [dig_cut _ (by omega) (by omega), decI, Go.Lib.decDigits, dif_pos (by omega), show (max n 0).toNat = n.toNat from by omega]

set_option maxHeartbeats 400000 in
theorem refDec : ∀ (m : Nat) (n : Int), n.toNat ≤ m → n ≤ 9223372036854775807 → ∀ (w : World), Calls Tryd.prog 23 #[.int .i64 n] w fun e w' => K0 w w' ∧ e = .returned (vs (decI n)) := by
  intro m
  induction m with
  | zero => exact fun n hm _ w => refDecSmall n (by omega) w
  | succ m ih =>
    intro n hm h1 w
    by_cases h10 : n < 10
    · exact refDecSmall n h10 w
    have hl := decI_len (n / 10) (by omega)
    refine H.enter Tryd.func23 Tryd.ntmps23 rfl rfl ?_; dsimp only [H.args]
    repeat' (first | (refine CL.seq ?_) | (refine CL.region ?_) | (refine CL.skip ?_) | (refine CL.condP rfl (fun _ => ?_) (fun _ => ?_) <;> try (exfalso; omega)) | (refine CL.condT rfl ?_) | (refine CL.condF rfl ?_) | (refine CL.cond rfl (fun _ => ?_) (fun _ => ?_)) | (refine CL.block ?_) | (refine CL.exit ?_) | (refine Ex.then ?_) | (refine Ex.hit ?_) | (refine Ex.miss rfl ?_) | (refine CL.ret ?_) | (refine Rt.then ?_) | (refine Rt.block ?_) | (refine Pn.then ?_) | (refine Pn.block ?_) | (refine CL.done ?_) | (refine Nm.block ?_) | (refine Nm.then ?_) | (refine Gt.nil ?_; refine RW.nilw [0, 2, 4] ?_; dsimp only [H.keep, H.look, H.Fr.put, Nat.beq]) | (refine Gt.move ?_; refine RW.y (Y.move rfl) rfl ?_) | (refine Gt.assign ?_; refine RW.y (Y.assign rfl) rfl ?_) | (refine Gt.add ?_; first | (refine RW.y (Y.add64 rfl rfl (by omega) (by omega)) rfl ?_) | (refine RW.y (Y.cat rfl rfl (by first | omega | (simp only [List.length_append, List.length_cons, List.length_nil]; omega))) rfl ?_)) | (refine Gt.slice ?_; refine RW.y (Y.cutlh rfl rfl rfl (by omega) (by omega) (by omega)) rfl ?_) | (refine Gt.rem ?_; first | (refine RW.y (Y.remP rfl rfl (by omega) (by omega)) rfl ?_) | (refine RW.y (Y.rem rfl rfl (by omega)) rfl ?_)) | (refine Gt.lss ?_; refine RW.y (Y.lss rfl rfl) rfl ?_) | (refine Gt.call ?_; refine RW.y (Y.max2 rfl rfl) rfl ?_) | (refine Gt.quo ?_; refine RW.y (Y.quoP rfl rfl (by omega) (by omega) (by first | exact wrap64_id (by omega) (by omega) | exact wrapu64_id (by omega) (by omega) | exact wrapu8_id (by omega) (by omega) | exact wrapu16_id (by omega) (by omega) | exact wrapu32_id (by omega) (by omega))) rfl ?_))
    refine CL.draw (fun w' => K0 w w') (by kernel_rfl) (fun w1 hheap hk1 => ?_)
    have hS : K0 w w1 := hk1
    skip
    refine AW.take 0 rfl (by kernel_rfl) (by kernel_rfl) (by kernel_rfl) rfl (by assumption) (fun w hS => Y.move rfl) ?_
    refine AW.take 1 rfl (by kernel_rfl) (by kernel_rfl) (by kernel_rfl) rfl (by assumption) (fun w hS => Y.quoP rfl rfl (by omega) (by omega) (by first | exact wrap64_id (by omega) (by omega) | exact wrapu64_id (by omega) (by omega) | exact wrapu8_id (by omega) (by omega) | exact wrapu16_id (by omega) (by omega) | exact wrapu32_id (by omega) (by omega))) ?_
    refine AW.take 3 rfl (by kernel_rfl) (by kernel_rfl) (by kernel_rfl) rfl (by assumption) (fun w hS => Y.move rfl) ?_
    refine AW.take 4 rfl (by kernel_rfl) (by kernel_rfl) (by kernel_rfl) rfl (by assumption) (fun w hS => by first | exact Y.remP rfl rfl (by omega) (by omega) | exact Y.rem rfl rfl (by omega)) ?_
    refine AW.take 5 rfl (by kernel_rfl) (by kernel_rfl) (by kernel_rfl) rfl (by assumption) (fun w hS => Y.move rfl) ?_
    refine AW.take 6 rfl (by kernel_rfl) (by kernel_rfl) (by kernel_rfl) rfl (by assumption) (fun w hS => by first | exact Y.remP rfl rfl (by omega) (by omega) | exact Y.rem rfl rfl (by omega)) ?_
    refine AW.take 7 rfl (by kernel_rfl) (by kernel_rfl) (by kernel_rfl) rfl (by assumption) (fun w hS => by first | exact Y.add64 rfl rfl (by omega) (by omega) | exact Y.addu rfl rfl (by omega) (by omega) | exact Y.addN rfl rfl (by first | exact wrap64_id (by omega) (by omega) | exact wrapu64_id (by omega) (by omega) | exact wrapu8_id (by omega) (by omega) | exact wrapu16_id (by omega) (by omega) | exact wrapu32_id (by omega) (by omega)) | exact Y.cat rfl rfl (by first | omega | (simp only [List.length_append, List.length_cons, List.length_nil]; omega))) ?_
    refine AW.take 8 rfl (by kernel_rfl) (by kernel_rfl) (by kernel_rfl) rfl (by assumption) (fun w hS => Y.cutlh (l := [48, 49, 50, 51, 52, 53, 54, 55, 56, 57]) rfl rfl rfl (by omega) (by omega) (show (_ : Int) ≤ ((10 : Nat) : Int) from by omega)) ?_
    refine AW.next 2 rfl (by kernel_rfl) ?_
    refine RW.fn rfl rfl ((ih (n / 10) (by omega) (by omega) w1).mono ?_)
    rintro e w2 ⟨hk2, rfl⟩
    refine RW.nil (Nm.then (rebase0 hS hk2 fun hS => ?_))
    rw [dig_cut _ (by omega) (by omega)]
    have k1 : ∀ c : UInt8, ([c] : T).length = 1 := fun _ => rfl
    refine AW.take 9 rfl (by kernel_rfl) (by kernel_rfl) (by kernel_rfl) rfl (by assumption) (fun w hS => Y.cat rfl rfl (by rw [k1]; omega)) ?_
    refine AW.take 10 rfl (by kernel_rfl) (by kernel_rfl) (by kernel_rfl) rfl (by assumption) (fun w hS => Y.assign rfl) ?_
    refine AW.donew [2] (by kernel_rfl) ?_
    dsimp only [H.keep, H.look, H.Fr.put, Nat.beq]
    repeat' (first | (refine CL.seq ?_) | (refine CL.region ?_) | (refine CL.skip ?_) | (refine CL.condP rfl (fun _ => ?_) (fun _ => ?_) <;> try (exfalso; omega)) | (refine CL.condT rfl ?_) | (refine CL.condF rfl ?_) | (refine CL.cond rfl (fun _ => ?_) (fun _ => ?_)) | (refine CL.block ?_) | (refine CL.exit ?_) | (refine Ex.then ?_) | (refine Ex.hit ?_) | (refine Ex.miss rfl ?_) | (refine CL.ret ?_) | (refine Rt.then ?_) | (refine Rt.block ?_) | (refine Pn.then ?_) | (refine Pn.block ?_) | (refine CL.done ?_) | (refine Nm.block ?_) | (refine Nm.then ?_) | (refine Gt.nil ?_; refine RW.nilw [0, 2, 4] ?_; dsimp only [H.keep, H.look, H.Fr.put, Nat.beq]) | (refine Gt.move ?_; refine RW.y (Y.move rfl) rfl ?_) | (refine Gt.assign ?_; refine RW.y (Y.assign rfl) rfl ?_) | (refine Gt.add ?_; first | (refine RW.y (Y.add64 rfl rfl (by omega) (by omega)) rfl ?_) | (refine RW.y (Y.cat rfl rfl (by first | omega | (simp only [List.length_append, List.length_cons, List.length_nil]; omega))) rfl ?_)) | (refine Gt.slice ?_; refine RW.y (Y.cutlh rfl rfl rfl (by omega) (by omega) (by omega)) rfl ?_) | (refine Gt.rem ?_; first | (refine RW.y (Y.remP rfl rfl (by omega) (by omega)) rfl ?_) | (refine RW.y (Y.rem rfl rfl (by omega)) rfl ?_)) | (refine Gt.lss ?_; refine RW.y (Y.lss rfl rfl) rfl ?_) | (refine Gt.call ?_; refine RW.y (Y.max2 rfl rfl) rfl ?_) | (refine Gt.quo ?_; refine RW.y (Y.quoP rfl rfl (by omega) (by omega) (by first | exact wrap64_id (by omega) (by omega) | exact wrapu64_id (by omega) (by omega) | exact wrapu8_id (by omega) (by omega) | exact wrapu16_id (by omega) (by omega) | exact wrapu32_id (by omega) (by omega))) rfl ?_))
    refine FQ.one rfl rfl rfl ⟨hk1.trans0 hk2, ?_⟩
    conv => rhs; rw [decI, Go.Lib.decDigits, dif_neg (by omega)]
    rw [decI, show (n / 10).toNat = n.toNat / 10 from by omega, show (n % 10).toNat = n.toNat % 10 from by omega]

theorem dec (n : Int) (h1 : n ≤ 9223372036854775807) (w : World) : Calls Tryd.prog 23 #[.int .i64 n] w fun e w' => K0 w w' ∧ e = .returned (vs (decI n)) := refDec n.toNat n (Nat.le_refl _) h1 w

def markT (l : List T) : T := if l = [] then [] else 45 :: glueC 46 l
theorem markT_snoc (l : List T) (x : T) : markT (l ++ [x]) = if l = [] then 45 :: x else markT l ++ [46] ++ x := by
  unfold markT
  rw [if_neg (by simp), glueC_snoc]
  by_cases h : l = []
  · simp [h]
  · simp [h]

set_option maxHeartbeats 1000000 in
theorem refVText (X : Value) (x : Ver) (w : World) (hX : VerAt w X x) (fx : Fit x) (b1 : x.a ≤ 9223372036854775807) (b2 : x.b ≤ 9223372036854775807) (b3 : x.c ≤ 9223372036854775807) : Calls Tryd.prog 15 #[X] w fun e w' => K0 w w' ∧ e = .returned (vs (textV x)) := by
  obtain ⟨p, rfl, hp⟩ := hX
  have l1 := decI_len x.a b1
  have l2 := decI_len x.b b2
  have l3 := decI_len x.c b3
  have lf := fx.1
  have k1 : ([46] : T).length = 1 := rfl
  have k2 : ([45] : T).length = 1 := rfl
  refine H.enter Tryd.func15 Tryd.ntmps15 rfl rfl ?_; dsimp only [H.args]
  repeat' (first | (refine CL.seq ?_) | (refine CL.region ?_) | (refine CL.skip ?_) | (refine CL.condP rfl (fun _ => ?_) (fun _ => ?_) <;> try (exfalso; omega)) | (refine CL.condT rfl ?_) | (refine CL.condF rfl ?_) | (refine CL.cond rfl (fun _ => ?_) (fun _ => ?_)) | (refine CL.block ?_) | (refine CL.exit ?_) | (refine Ex.then ?_) | (refine Ex.hit ?_) | (refine Ex.miss rfl ?_) | (refine CL.ret ?_) | (refine Rt.then ?_) | (refine Rt.block ?_) | (refine Pn.then ?_) | (refine Pn.block ?_) | (refine CL.done ?_) | (refine Nm.block ?_) | (refine Nm.then ?_) | (refine Gt.nil ?_; refine RW.nilw [0, 1, 2, 3, 4, 22, 26] ?_; dsimp only [H.keep, H.look, H.Fr.put, Nat.beq]) | (refine Gt.assign ?_; refine RW.y (Y.assign rfl) rfl ?_) | (refine Gt.move ?_; refine RW.y (Y.move rfl) rfl ?_) | (refine Gt.add ?_; first | (refine RW.y (Y.cat rfl rfl (by first | omega | (simp only [List.length_append, List.length_cons, List.length_nil]; omega))) rfl ?_) | (refine RW.y (Y.add64 rfl rfl (by omega) (by omega)) rfl ?_)) | (refine Gt.load ?_; refine RW.y (Y.loadB rfl (by assumption) rfl) rfl ?_) | (refine Gt.fieldAddr ?_; refine RW.y (Y.fieldAddr rfl (by rfl)) rfl ?_) | (refine Gt.len ?_; first | (refine RW.y (Y.lenv rfl) rfl ?_) | (refine RW.y (Y.lenx rfl (by assumption)) rfl ?_)) | (refine Gt.lss ?_; refine RW.y (Y.lss rfl rfl) rfl ?_) | (refine Gt.eql ?_; refine RW.y (Y.eqi rfl rfl) rfl ?_) | (refine Gt.idx ?_; refine RW.elemS rfl rfl rfl rfl (by assumption) (by omega) (by omega) ?_))
  refine RW.box rfl rfl (fun w1 hb1 hk1 hlt1 => ?_)
  have hX1 : w1.heap[w.heap.size]? = some (.cells #[.int .i64 x.a, .int .i64 x.b, .int .i64 x.c, p] verT (0, 0)) := hb1
  repeat' (first | (refine CL.seq ?_) | (refine CL.region ?_) | (refine CL.skip ?_) | (refine CL.condP rfl (fun _ => ?_) (fun _ => ?_) <;> try (exfalso; omega)) | (refine CL.condT rfl ?_) | (refine CL.condF rfl ?_) | (refine CL.cond rfl (fun _ => ?_) (fun _ => ?_)) | (refine CL.block ?_) | (refine CL.exit ?_) | (refine Ex.then ?_) | (refine Ex.hit ?_) | (refine Ex.miss rfl ?_) | (refine CL.ret ?_) | (refine Rt.then ?_) | (refine Rt.block ?_) | (refine Pn.then ?_) | (refine Pn.block ?_) | (refine CL.done ?_) | (refine Nm.block ?_) | (refine Nm.then ?_) | (refine Gt.nil ?_; refine RW.nilw [0, 1, 2, 3, 4, 22, 26] ?_; dsimp only [H.keep, H.look, H.Fr.put, Nat.beq]) | (refine Gt.assign ?_; refine RW.y (Y.assign rfl) rfl ?_) | (refine Gt.move ?_; refine RW.y (Y.move rfl) rfl ?_) | (refine Gt.add ?_; first | (refine RW.y (Y.cat rfl rfl (by first | omega | (simp only [List.length_append, List.length_cons, List.length_nil]; omega))) rfl ?_) | (refine RW.y (Y.add64 rfl rfl (by omega) (by omega)) rfl ?_)) | (refine Gt.load ?_; refine RW.y (Y.loadB rfl (by assumption) rfl) rfl ?_) | (refine Gt.fieldAddr ?_; refine RW.y (Y.fieldAddr rfl (by rfl)) rfl ?_) | (refine Gt.len ?_; first | (refine RW.y (Y.lenv rfl) rfl ?_) | (refine RW.y (Y.lenx rfl (by assumption)) rfl ?_)) | (refine Gt.lss ?_; refine RW.y (Y.lss rfl rfl) rfl ?_) | (refine Gt.eql ?_; refine RW.y (Y.eqi rfl rfl) rfl ?_) | (refine Gt.idx ?_; refine RW.elemS rfl rfl rfl rfl (by assumption) (by omega) (by omega) ?_))
  refine CL.draw (fun w' => K0 w1 w') (by kernel_rfl) (fun w2 hheap hk2 => ?_)
  have hS : K0 w1 w2 := hk2
  skip
  refine AW.take 0 rfl (by kernel_rfl) (by kernel_rfl) (by kernel_rfl) rfl (by assumption) (fun w hS => Y.fieldAddr rfl (by rfl)) ?_
  refine AW.take 1 rfl (by kernel_rfl) (by kernel_rfl) (by kernel_rfl) rfl (by assumption) (fun w hS => Y.loadB rfl (hS.at0 hX1) rfl) ?_
  refine AW.take 4 rfl (by kernel_rfl) (by kernel_rfl) (by kernel_rfl) rfl (by assumption) (fun w hS => Y.fieldAddr rfl (by rfl)) ?_
  refine AW.take 5 rfl (by kernel_rfl) (by kernel_rfl) (by kernel_rfl) rfl (by assumption) (fun w hS => Y.loadB rfl (hS.at0 hX1) rfl) ?_
  refine AW.take 9 rfl (by kernel_rfl) (by kernel_rfl) (by kernel_rfl) rfl (by assumption) (fun w hS => Y.fieldAddr rfl (by rfl)) ?_
  refine AW.take 10 rfl (by kernel_rfl) (by kernel_rfl) (by kernel_rfl) rfl (by assumption) (fun w hS => Y.loadB rfl (hS.at0 hX1) rfl) ?_
  refine AW.next 2 rfl (by kernel_rfl) ?_
  refine RW.fn rfl rfl ((dec _ (by omega) w2).mono ?_)
  rintro e w3 ⟨hk3, rfl⟩
  refine RW.nil (Nm.then (rebase0 hS hk3 fun hS => ?_))
  refine AW.take 3 rfl (by kernel_rfl) (by kernel_rfl) (by kernel_rfl) rfl (by assumption) (fun w hS => by first | exact Y.add64 rfl rfl (by omega) (by omega) | exact Y.addu rfl rfl (by omega) (by omega) | exact Y.addN rfl rfl (by first | exact wrap64_id (by omega) (by omega) | exact wrapu64_id (by omega) (by omega) | exact wrapu8_id (by omega) (by omega) | exact wrapu16_id (by omega) (by omega) | exact wrapu32_id (by omega) (by omega)) | exact Y.cat rfl rfl (by first | omega | (simp only [List.length_append, List.length_cons, List.length_nil]; omega))) ?_
  refine AW.next 6 rfl (by kernel_rfl) ?_
  refine RW.fn rfl rfl ((dec _ (by omega) w3).mono ?_)
  rintro e w4 ⟨hk4, rfl⟩
  refine RW.nil (Nm.then (rebase0 hS hk4 fun hS => ?_))
  refine AW.take 7 rfl (by kernel_rfl) (by kernel_rfl) (by kernel_rfl) rfl (by assumption) (fun w hS => by first | exact Y.add64 rfl rfl (by omega) (by omega) | exact Y.addu rfl rfl (by omega) (by omega) | exact Y.addN rfl rfl (by first | exact wrap64_id (by omega) (by omega) | exact wrapu64_id (by omega) (by omega) | exact wrapu8_id (by omega) (by omega) | exact wrapu16_id (by omega) (by omega) | exact wrapu32_id (by omega) (by omega)) | exact Y.cat rfl rfl (by first | omega | (simp only [List.length_append, List.length_cons, List.length_nil]; omega))) ?_
  refine AW.take 8 rfl (by kernel_rfl) (by kernel_rfl) (by kernel_rfl) rfl (by assumption) (fun w hS => by first | exact Y.add64 rfl rfl (by omega) (by omega) | exact Y.addu rfl rfl (by omega) (by omega) | exact Y.addN rfl rfl (by first | exact wrap64_id (by omega) (by omega) | exact wrapu64_id (by omega) (by omega) | exact wrapu8_id (by omega) (by omega) | exact wrapu16_id (by omega) (by omega) | exact wrapu32_id (by omega) (by omega)) | exact Y.cat rfl rfl (by first | omega | (simp only [List.length_append, List.length_cons, List.length_nil]; omega))) ?_
  refine AW.next 11 rfl (by kernel_rfl) ?_
  refine RW.fn rfl rfl ((dec _ (by omega) w4).mono ?_)
  rintro e w5 ⟨hk5, rfl⟩
  refine RW.nil (Nm.then (rebase0 hS hk5 fun hS => ?_))
  refine AW.take 12 rfl (by kernel_rfl) (by kernel_rfl) (by kernel_rfl) rfl (by assumption) (fun w hS => by first | exact Y.add64 rfl rfl (by omega) (by omega) | exact Y.addu rfl rfl (by omega) (by omega) | exact Y.addN rfl rfl (by first | exact wrap64_id (by omega) (by omega) | exact wrapu64_id (by omega) (by omega) | exact wrapu8_id (by omega) (by omega) | exact wrapu16_id (by omega) (by omega) | exact wrapu32_id (by omega) (by omega)) | exact Y.cat rfl rfl (by first | omega | (simp only [List.length_append, List.length_cons, List.length_nil]; omega))) ?_
  refine AW.take 13 rfl (by kernel_rfl) (by kernel_rfl) (by kernel_rfl) rfl (by assumption) (fun w hS => Y.assign rfl) ?_
  refine AW.donew [1, 2, 3] (by kernel_rfl) ?_
  dsimp only [H.keep, H.look, H.Fr.put, Nat.beq]
  have hK15 : K0 w1 w5 := ((hk2.trans0 hk3).trans0 hk4).trans0 hk5
  have hX5 := hK15.at0 hX1
  have hK5 : K0 w w5 := hk1.trans0 hK15
  have hp5 := hp.keep0 hK5
  have hbl : (decI x.a ++ [46] ++ decI x.b ++ [46] ++ decI x.c).length ≤ 100 := by simp only [List.length_append]; omega
  have htx : textV x = decI x.a ++ [46] ++ decI x.b ++ [46] ++ decI x.c ++ markT x.pre := rfl
  rw [htx]
  generalize decI x.a ++ [46] ++ decI x.b ++ [46] ++ decI x.c = base at *
  repeat' (first | (refine CL.seq ?_) | (refine CL.region ?_) | (refine CL.skip ?_) | (refine CL.condP rfl (fun _ => ?_) (fun _ => ?_) <;> try (exfalso; omega)) | (refine CL.condT rfl ?_) | (refine CL.condF rfl ?_) | (refine CL.cond rfl (fun _ => ?_) (fun _ => ?_)) | (refine CL.block ?_) | (refine CL.exit ?_) | (refine Ex.then ?_) | (refine Ex.hit ?_) | (refine Ex.miss rfl ?_) | (refine CL.ret ?_) | (refine Rt.then ?_) | (refine Rt.block ?_) | (refine Pn.then ?_) | (refine Pn.block ?_) | (refine CL.done ?_) | (refine Nm.block ?_) | (refine Nm.then ?_) | (refine Gt.nil ?_; refine RW.nilw [0, 1, 2, 3, 4, 22, 26] ?_; dsimp only [H.keep, H.look, H.Fr.put, Nat.beq]) | (refine Gt.assign ?_; refine RW.y (Y.assign rfl) rfl ?_) | (refine Gt.move ?_; refine RW.y (Y.move rfl) rfl ?_) | (refine Gt.add ?_; first | (refine RW.y (Y.cat rfl rfl (by first | omega | (simp only [List.length_append, List.length_cons, List.length_nil]; omega))) rfl ?_) | (refine RW.y (Y.add64 rfl rfl (by omega) (by omega)) rfl ?_)) | (refine Gt.load ?_; refine RW.y (Y.loadB rfl (by assumption) rfl) rfl ?_) | (refine Gt.fieldAddr ?_; refine RW.y (Y.fieldAddr rfl (by rfl)) rfl ?_) | (refine Gt.len ?_; first | (refine RW.y (Y.lenv rfl) rfl ?_) | (refine RW.y (Y.lenx rfl (by assumption)) rfl ?_)) | (refine Gt.lss ?_; refine RW.y (Y.lss rfl rfl) rfl ?_) | (refine Gt.eql ?_; refine RW.y (Y.eqi rfl rfl) rfl ?_) | (refine Gt.idx ?_; refine RW.elemS rfl rfl rfl rfl (by assumption) (by omega) (by omega) ?_))
  refine CL.loopS [1, 3, 4] (fun k vals wr => ∃ (i : Nat), vals = [.pointer (some ⟨w.heap.size, 0, none⟩), vs (base ++ markT (x.pre.take i)), .int .i64 (i : Int)] ∧ k = x.pre.length - i ∧ i ≤ x.pre.length ∧ (markT (x.pre.take i)).length ≤ i * 1000001 ∧ wr = w5) x.pre.length ⟨_, rfl, 0, by simp [markT], rfl, Nat.zero_le _, by simp [markT], rfl⟩ ?_
  rintro k vals wr ⟨i, rfl, rfl, hi, hml, rfl⟩
  dsimp only [List.zip, List.zipWith]
  have hi2 : ((i : Int)).toNat = i := Int.toNat_natCast i
  rcases Nat.lt_or_ge i x.pre.length with hlt | hge
  · have hsn := markT_snoc (x.pre.take i) (x.pre.getD i [])
    rw [← take_snoc [] x.pre i hlt] at hsn
    have hb := fx.2 _ (getD_mem [] hlt)
    have hu : (x.pre.getD ((i : Int)).toNat []).length ≤ 1000000 := by rw [hi2]; exact hb
    rcases Nat.eq_zero_or_pos i with h0 | h0
    · subst h0
      rw [if_pos (by simp)] at hsn
      repeat' (first | (refine CL.seq ?_) | (refine CL.region ?_) | (refine CL.skip ?_) | (refine CL.condP rfl (fun _ => ?_) (fun _ => ?_) <;> try (exfalso; omega)) | (refine CL.condT rfl ?_) | (refine CL.condF rfl ?_) | (refine CL.cond rfl (fun _ => ?_) (fun _ => ?_)) | (refine CL.block ?_) | (refine CL.exit ?_) | (refine Ex.then ?_) | (refine Ex.hit ?_) | (refine Ex.miss rfl ?_) | (refine CL.ret ?_) | (refine Rt.then ?_) | (refine Rt.block ?_) | (refine Pn.then ?_) | (refine Pn.block ?_) | (refine CL.done ?_) | (refine Nm.block ?_) | (refine Nm.then ?_) | (refine Gt.nil ?_; refine RW.nilw [0, 1, 2, 3, 4, 22, 26] ?_; dsimp only [H.keep, H.look, H.Fr.put, Nat.beq]) | (refine Gt.assign ?_; refine RW.y (Y.assign rfl) rfl ?_) | (refine Gt.move ?_; refine RW.y (Y.move rfl) rfl ?_) | (refine Gt.add ?_; first | (refine RW.y (Y.cat rfl rfl (by first | omega | (simp only [List.length_append, List.length_cons, List.length_nil]; omega))) rfl ?_) | (refine RW.y (Y.add64 rfl rfl (by omega) (by omega)) rfl ?_)) | (refine Gt.load ?_; refine RW.y (Y.loadB rfl (by assumption) rfl) rfl ?_) | (refine Gt.fieldAddr ?_; refine RW.y (Y.fieldAddr rfl (by rfl)) rfl ?_) | (refine Gt.len ?_; first | (refine RW.y (Y.lenv rfl) rfl ?_) | (refine RW.y (Y.lenx rfl (by assumption)) rfl ?_)) | (refine Gt.lss ?_; refine RW.y (Y.lss rfl rfl) rfl ?_) | (refine Gt.eql ?_; refine RW.y (Y.eqi rfl rfl) rfl ?_) | (refine Gt.idx ?_; refine RW.elemS rfl rfl rfl rfl (by assumption) (by omega) (by omega) ?_))
      refine ⟨x.pre.length - (0 + 1), _, rfl, rfl, rfl, by omega, 0 + 1, ?_, rfl, by omega, by rw [hsn, List.length_cons]; omega, rfl⟩
      rw [hsn]
      simp [markT]
    · have hne : x.pre.take i ≠ [] := fun h => by have := congrArg List.length h; rw [List.length_take] at this; simp only [List.length_nil] at this; omega
      rw [if_neg hne] at hsn
      repeat' (first | (refine CL.seq ?_) | (refine CL.region ?_) | (refine CL.skip ?_) | (refine CL.condP rfl (fun _ => ?_) (fun _ => ?_) <;> try (exfalso; omega)) | (refine CL.condT rfl ?_) | (refine CL.condF rfl ?_) | (refine CL.cond rfl (fun _ => ?_) (fun _ => ?_)) | (refine CL.block ?_) | (refine CL.exit ?_) | (refine Ex.then ?_) | (refine Ex.hit ?_) | (refine Ex.miss rfl ?_) | (refine CL.ret ?_) | (refine Rt.then ?_) | (refine Rt.block ?_) | (refine Pn.then ?_) | (refine Pn.block ?_) | (refine CL.done ?_) | (refine Nm.block ?_) | (refine Nm.then ?_) | (refine Gt.nil ?_; refine RW.nilw [0, 1, 2, 3, 4, 22, 26] ?_; dsimp only [H.keep, H.look, H.Fr.put, Nat.beq]) | (refine Gt.assign ?_; refine RW.y (Y.assign rfl) rfl ?_) | (refine Gt.move ?_; refine RW.y (Y.move rfl) rfl ?_) | (refine Gt.add ?_; first | (refine RW.y (Y.cat rfl rfl (by first | omega | (simp only [List.length_append, List.length_cons, List.length_nil]; omega))) rfl ?_) | (refine RW.y (Y.add64 rfl rfl (by omega) (by omega)) rfl ?_)) | (refine Gt.load ?_; refine RW.y (Y.loadB rfl (by assumption) rfl) rfl ?_) | (refine Gt.fieldAddr ?_; refine RW.y (Y.fieldAddr rfl (by rfl)) rfl ?_) | (refine Gt.len ?_; first | (refine RW.y (Y.lenv rfl) rfl ?_) | (refine RW.y (Y.lenx rfl (by assumption)) rfl ?_)) | (refine Gt.lss ?_; refine RW.y (Y.lss rfl rfl) rfl ?_) | (refine Gt.eql ?_; refine RW.y (Y.eqi rfl rfl) rfl ?_) | (refine Gt.idx ?_; refine RW.elemS rfl rfl rfl rfl (by assumption) (by omega) (by omega) ?_))
      refine ⟨x.pre.length - (i + 1), _, rfl, rfl, rfl, by omega, i + 1, ?_, rfl, by omega, by rw [hsn]; simp only [List.length_append]; omega, rfl⟩
      rw [hsn, hi2]
      simp
  · have hi : i = x.pre.length := by omega
    subst hi
    rw [List.take_length]
    repeat' (first | (refine CL.seq ?_) | (refine CL.region ?_) | (refine CL.skip ?_) | (refine CL.condP rfl (fun _ => ?_) (fun _ => ?_) <;> try (exfalso; omega)) | (refine CL.condT rfl ?_) | (refine CL.condF rfl ?_) | (refine CL.cond rfl (fun _ => ?_) (fun _ => ?_)) | (refine CL.block ?_) | (refine CL.exit ?_) | (refine Ex.then ?_) | (refine Ex.hit ?_) | (refine Ex.miss rfl ?_) | (refine CL.ret ?_) | (refine Rt.then ?_) | (refine Rt.block ?_) | (refine Pn.then ?_) | (refine Pn.block ?_) | (refine CL.done ?_) | (refine Nm.block ?_) | (refine Nm.then ?_) | (refine Gt.nil ?_; refine RW.nilw [0, 1, 2, 3, 4, 22, 26] ?_; dsimp only [H.keep, H.look, H.Fr.put, Nat.beq]) | (refine Gt.assign ?_; refine RW.y (Y.assign rfl) rfl ?_) | (refine Gt.move ?_; refine RW.y (Y.move rfl) rfl ?_) | (refine Gt.add ?_; first | (refine RW.y (Y.cat rfl rfl (by first | omega | (simp only [List.length_append, List.length_cons, List.length_nil]; omega))) rfl ?_) | (refine RW.y (Y.add64 rfl rfl (by omega) (by omega)) rfl ?_)) | (refine Gt.load ?_; refine RW.y (Y.loadB rfl (by assumption) rfl) rfl ?_) | (refine Gt.fieldAddr ?_; refine RW.y (Y.fieldAddr rfl (by rfl)) rfl ?_) | (refine Gt.len ?_; first | (refine RW.y (Y.lenv rfl) rfl ?_) | (refine RW.y (Y.lenx rfl (by assumption)) rfl ?_)) | (refine Gt.lss ?_; refine RW.y (Y.lss rfl rfl) rfl ?_) | (refine Gt.eql ?_; refine RW.y (Y.eqi rfl rfl) rfl ?_) | (refine Gt.idx ?_; refine RW.elemS rfl rfl rfl rfl (by assumption) (by omega) (by omega) ?_))
    exact FQ.one rfl rfl rfl ⟨hK5, rfl⟩
end Go.Proofs.YteihfeghbpklkaaDoor.Ve
