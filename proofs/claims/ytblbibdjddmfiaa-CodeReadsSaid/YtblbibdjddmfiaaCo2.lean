/-
  What the reference's and the program's writing functions do.
-/
import Derived.Test.YtblbibdjddmfiaaHInst
import Derived.Test.YtblbibdjddmfiaaCo1
namespace Go.Proofs.Ytblbibdjddmfiaa.Co
open Go.RowKit H
attribute [local irreducible] H.CL H.RW H.CW H.Yd H.thenK H.blockQ Go.Calls

abbrev bt : TypeId := 5

theorem one_byte {x : Int} : ∀ u ∈ (Value.int .u8 x).cells.toList, u.oneCell' = true := by simp [Value.cells, Value.oneCell']

set_option maxHeartbeats 400000 in
theorem refNum (v : Value) (xs : List UInt8) (n : Nat) (hn : n < 18446744073709551616) (w : World) (base : Nat) (hb : base ≤ w.heap.size)
   (hown : w.ownsRow base bt 1 v xs.length (bv xs)) (hl : xs.length ≤ 1000000000) :
    Calls Try.prog 36 #[v, .int .u64 n] w fun e w' => ∃ v', e = .returned v' ∧ w'.ownsRow base bt 1 v' (xs ++ numL n).length (bv (xs ++ numL n)) ∧ Kept (fun k => v.ownBlock = some k) w w' ∧ Lies w v v' := by
  have hn10 := numL_len10 hn
  refine H.enter Try.func36 Try.ntmps36 rfl rfl ?_; dsimp only [H.args]
  repeat' (first | (refine CL.seq ?_) | (refine CL.region ?_) | (refine CL.skip ?_) | (refine CL.condP rfl (fun _ => ?_) (fun _ => ?_) <;> try (exfalso; omega)) | (refine CL.condT rfl ?_) | (refine CL.condF rfl ?_) | (refine CL.cond rfl (fun _ => ?_) (fun _ => ?_)) | (refine CL.block ?_) | (refine CL.exit ?_) | (refine Ex.then ?_) | (refine Ex.hit ?_) | (refine Ex.miss rfl ?_) | (refine CL.ret ?_) | (refine Rt.then ?_) | (refine Rt.block ?_) | (refine Pn.then ?_) | (refine Pn.block ?_) | (refine CL.done ?_) | (refine Nm.block ?_) | (refine Nm.then ?_) | (refine Gt.nil ?_; refine RW.nilw [0, 1, 4, 6] ?_; dsimp only [H.keep, H.look, H.Fr.put, Nat.beq]) | (refine Gt.move ?_; refine RW.y (Y.move rfl) rfl ?_) | (refine Gt.assign ?_; refine RW.y (Y.assign rfl) rfl ?_) | (refine Gt.convert ?_; first | (refine RW.y (Y.convN rfl (by first | exact wrap64_id (by omega) (by omega) | exact wrapu64_id (by omega) (by omega))) rfl ?_) | (refine RW.y (Y.convW rfl) rfl ?_)) | (refine Gt.geq ?_; refine RW.y (Y.geq rfl rfl) rfl ?_) | (refine Gt.or ?_; refine RW.y (Y.bits (by first | exact .inl rfl | exact .inr (.inl rfl) | exact .inr (.inr (.inl rfl)) | exact .inr (.inr (.inr rfl))) rfl rfl) rfl ?_) | (refine Gt.shr ?_; refine RW.y (Y.shr rfl rfl (by omega)) rfl ?_))
  refine CL.loopS [0, 1] (fun m vals wr => ∃ (u : Value) (k : Nat) (ys : List UInt8), vals = [u, .int .u64 k] ∧ m = k ∧ wr.ownsRow base bt 1 u ys.length (bv ys) ∧ xs ++ numL n = ys ++ numL k ∧ Kept (fun k => v.ownBlock = some k) w wr ∧ Lies w v u) n ⟨_, rfl, v, n, xs, rfl, rfl, hown, rfl, Kept.refl _ _, fun g h => .inl h⟩ ?_
  rintro m vals wr ⟨u, k, ys, rfl, rfl, how, hxy, hk, hu⟩
  dsimp only [List.zip, List.zipWith]
  have hlen : xs.length + (numL n).length = ys.length + (numL m).length := by rw [← List.length_append, hxy, List.length_append]
  have hsz := hk.size
  repeat' (first | (refine CL.seq ?_) | (refine CL.region ?_) | (refine CL.skip ?_) | (refine CL.condP rfl (fun _ => ?_) (fun _ => ?_) <;> try (exfalso; omega)) | (refine CL.condT rfl ?_) | (refine CL.condF rfl ?_) | (refine CL.cond rfl (fun _ => ?_) (fun _ => ?_)) | (refine CL.block ?_) | (refine CL.exit ?_) | (refine Ex.then ?_) | (refine Ex.hit ?_) | (refine Ex.miss rfl ?_) | (refine CL.ret ?_) | (refine Rt.then ?_) | (refine Rt.block ?_) | (refine Pn.then ?_) | (refine Pn.block ?_) | (refine CL.done ?_) | (refine Nm.block ?_) | (refine Nm.then ?_) | (refine Gt.nil ?_; refine RW.nilw [0, 1, 4, 6] ?_; dsimp only [H.keep, H.look, H.Fr.put, Nat.beq]) | (refine Gt.move ?_; refine RW.y (Y.move rfl) rfl ?_) | (refine Gt.assign ?_; refine RW.y (Y.assign rfl) rfl ?_) | (refine Gt.convert ?_; first | (refine RW.y (Y.convN rfl (by first | exact wrap64_id (by omega) (by omega) | exact wrapu64_id (by omega) (by omega))) rfl ?_) | (refine RW.y (Y.convW rfl) rfl ?_)) | (refine Gt.geq ?_; refine RW.y (Y.geq rfl rfl) rfl ?_) | (refine Gt.or ?_; refine RW.y (Y.bits (by first | exact .inl rfl | exact .inr (.inl rfl) | exact .inr (.inr (.inl rfl)) | exact .inr (.inr (.inr rfl))) rfl rfl) rfl ?_) | (refine Gt.shr ?_; refine RW.y (Y.shr rfl rfl (by omega)) rfl ?_))
  · refine RW.app1 rfl rfl rfl rfl how rfl rfl rfl rfl one_byte (by omega) (by omega) (by omega) (fun u' w1 how' hk' hl' => ?_)
    repeat' (first | (refine CL.seq ?_) | (refine CL.region ?_) | (refine CL.skip ?_) | (refine CL.condP rfl (fun _ => ?_) (fun _ => ?_) <;> try (exfalso; omega)) | (refine CL.condT rfl ?_) | (refine CL.condF rfl ?_) | (refine CL.cond rfl (fun _ => ?_) (fun _ => ?_)) | (refine CL.block ?_) | (refine CL.exit ?_) | (refine Ex.then ?_) | (refine Ex.hit ?_) | (refine Ex.miss rfl ?_) | (refine CL.ret ?_) | (refine Rt.then ?_) | (refine Rt.block ?_) | (refine Pn.then ?_) | (refine Pn.block ?_) | (refine CL.done ?_) | (refine Nm.block ?_) | (refine Nm.then ?_) | (refine Gt.nil ?_; refine RW.nilw [0, 1, 4, 6] ?_; dsimp only [H.keep, H.look, H.Fr.put, Nat.beq]) | (refine Gt.move ?_; refine RW.y (Y.move rfl) rfl ?_) | (refine Gt.assign ?_; refine RW.y (Y.assign rfl) rfl ?_) | (refine Gt.convert ?_; first | (refine RW.y (Y.convN rfl (by first | exact wrap64_id (by omega) (by omega) | exact wrapu64_id (by omega) (by omega))) rfl ?_) | (refine RW.y (Y.convW rfl) rfl ?_)) | (refine Gt.geq ?_; refine RW.y (Y.geq rfl rfl) rfl ?_) | (refine Gt.or ?_; refine RW.y (Y.bits (by first | exact .inl rfl | exact .inr (.inl rfl) | exact .inr (.inr (.inl rfl)) | exact .inr (.inr (.inr rfl))) rfl rfl) rfl ?_) | (refine Gt.shr ?_; refine RW.y (Y.shr rfl rfl (by omega)) rfl ?_))
    rw [or128] at how'
    refine ⟨m / 128, _, rfl, rfl, rfl, by omega, u', m / 128, ys ++ [UInt8.ofNat (m % 128 + 128)], by rw [shr7], rfl, own_snoc how', ?_, hk.trans hk' hu, fun g hg => ?_⟩
    · rw [hxy, numL_big (by omega), List.append_assoc]; rfl
    · rcases hl' g hg with h | h
      · exact hu g h
      · right; omega
  · refine RW.app1 rfl rfl rfl rfl how rfl rfl rfl rfl one_byte (by omega) (by omega) (by omega) (fun u' w1 how' hk' hl' => ?_)
    repeat' (first | (refine CL.seq ?_) | (refine CL.region ?_) | (refine CL.skip ?_) | (refine CL.condP rfl (fun _ => ?_) (fun _ => ?_) <;> try (exfalso; omega)) | (refine CL.condT rfl ?_) | (refine CL.condF rfl ?_) | (refine CL.cond rfl (fun _ => ?_) (fun _ => ?_)) | (refine CL.block ?_) | (refine CL.exit ?_) | (refine Ex.then ?_) | (refine Ex.hit ?_) | (refine Ex.miss rfl ?_) | (refine CL.ret ?_) | (refine Rt.then ?_) | (refine Rt.block ?_) | (refine Pn.then ?_) | (refine Pn.block ?_) | (refine CL.done ?_) | (refine Nm.block ?_) | (refine Nm.then ?_) | (refine Gt.nil ?_; refine RW.nilw [0, 1, 4, 6] ?_; dsimp only [H.keep, H.look, H.Fr.put, Nat.beq]) | (refine Gt.move ?_; refine RW.y (Y.move rfl) rfl ?_) | (refine Gt.assign ?_; refine RW.y (Y.assign rfl) rfl ?_) | (refine Gt.convert ?_; first | (refine RW.y (Y.convN rfl (by first | exact wrap64_id (by omega) (by omega) | exact wrapu64_id (by omega) (by omega))) rfl ?_) | (refine RW.y (Y.convW rfl) rfl ?_)) | (refine Gt.geq ?_; refine RW.y (Y.geq rfl rfl) rfl ?_) | (refine Gt.or ?_; refine RW.y (Y.bits (by first | exact .inl rfl | exact .inr (.inl rfl) | exact .inr (.inr (.inl rfl)) | exact .inr (.inr (.inr rfl))) rfl rfl) rfl ?_) | (refine Gt.shr ?_; refine RW.y (Y.shr rfl rfl (by omega)) rfl ?_))
    have hlt : m < 128 := by omega
    rw [low8 hlt] at how'
    refine FQ.one rfl rfl rfl ⟨u', rfl, ?_, hk.trans hk' hu, fun g hg => ?_⟩
    · rw [hxy, numL_small hlt]
      exact own_snoc how'
    · rcases hl' g hg with h | h
      · exact hu g h
      · right; omega

/-- A writer: its block, its row; F: the blocks that it may write. -/
structure Wr (w : World) (F : Nat → Prop) (b : Nat) (l : List UInt8) : Prop where
  ex : ∃ v e, w.heap[b]? = some (.cells #[v] e (0, 0)) ∧ w.ownsRow 0 bt 1 v l.length (bv l) ∧ (∀ g, v.ownBlock = some g → F g ∧ g ≠ b)
  own : F b
  lt : ∀ k, F k → k < w.heap.size

def Next (w : World) (F F' : Nat → Prop) : Prop := ∀ k, F' k → F k ∨ w.heap.size ≤ k

theorem Wr.keep {w w' : World} {F S : Nat → Prop} {b : Nat} {l : List UInt8} (h : Wr w F b l) (k : Kept S w w') (hd : ∀ k, F k → ¬ S k) : Wr w' F b l := by
  obtain ⟨v, e, h1, h2, h3⟩ := h.ex
  exact ⟨⟨v, e, k.at h1 (hd b h.own), own_kept h2 k (fun g hg => hd g (h3 g hg).1), h3⟩, h.own, fun k' hk' => Nat.lt_of_lt_of_le (h.lt k' hk') k.size⟩

theorem Wr.push {w w1 w2 : World} {F : Nat → Prop} {b : Nat} {l l2 : List UInt8} {v v' : Value} {e : TypeId} (h : Wr w F b l) (hb : w.heap[b]? = some (.cells #[v] e (0, 0)))
    (h1 : w1.ownsRow 0 bt 1 v' l2.length (bv l2)) (k1 : Kept (fun k => v.ownBlock = some k) w w1) (hl : Lies w v v') (h2 : w2.heap[b]? = some (.cells #[v'] e (0, 0))) (k2 : Kept (fun k => k = b) w1 w2) :
    ∃ F', Wr w2 F' b l2 ∧ Kept F w w2 ∧ Next w F F' := by
  obtain ⟨v0, e0, g1, g2, g3⟩ := h.ex
  have hv : v0 = v := by rw [g1] at hb; simp at hb; exact hb.1
  subst hv
  have hblt := lt_of_at hb
  have hne : ∀ g, v'.ownBlock = some g → g ≠ b := fun g hg => by
    rcases hl g hg with h' | h'
    · exact (g3 g h').2
    · omega
  refine ⟨fun k => k = b ∨ v'.ownBlock = some k, ⟨⟨v', e, h2, own_kept h1 k2 fun g hg => hne g hg, fun g hg => ⟨.inr hg, hne g hg⟩⟩, .inl rfl, ?_⟩, ?_, ?_⟩
  · rintro k (rfl | hk)
    · exact lt_of_at h2
    · have := (h1.lt k hk).2
      have := k2.size
      omega
  · exact (k1.mono fun k hk => (g3 k hk).1).trans k2 fun k hk => .inl (by rw [hk]; exact h.own)
  · rintro k (rfl | hk)
    · exact .inl h.own
    · rcases hl k hk with h' | h'
      · exact .inl (g3 k h').1
      · exact .inr h'

abbrev nv (l : List Nat) : List Value := l.map fun (n : Nat) => Value.int .u64 (n : Int)

set_option maxHeartbeats 800000 in
/-- (*Writer).Num -/
theorem wrNum (b : Nat) (vn : Value) (ns : List Nat) (hns : ∀ n ∈ ns, n < 18446744073709551616) (l : List UInt8) (w : World) (F : Nat → Prop) (hW : Wr w F b l) (hN : Sl w 1 vn ns.length (nv ns)) (hNF : ∀ g, live vn = some g → ¬ F g) (hl : l.length + 10 * ns.length ≤ 1000000000) :
    Calls Try.prog 19 #[.pointer (some ⟨b, 0, none⟩), vn] w fun e w' => ∃ F', e = .returned (.tuple #[]) ∧ Wr w' F' b (l ++ ns.flatMap numL) ∧ Kept F w w' ∧ Next w F F' := by
  refine H.enter Try.func19 Try.ntmps19 rfl rfl ?_; dsimp only [H.args]
  repeat' (first | (refine CL.seq ?_) | (refine CL.region ?_) | (refine CL.skip ?_) | (refine CL.condP rfl (fun _ => ?_) (fun _ => ?_) <;> try (exfalso; omega)) | (refine CL.condT rfl ?_) | (refine CL.condF rfl ?_) | (refine CL.cond rfl (fun _ => ?_) (fun _ => ?_)) | (refine CL.block ?_) | (refine CL.exit ?_) | (refine Ex.then ?_) | (refine Ex.hit ?_) | (refine Ex.miss rfl ?_) | (refine CL.ret ?_) | (refine Rt.then ?_) | (refine Rt.block ?_) | (refine Pn.then ?_) | (refine Pn.block ?_) | (refine CL.done ?_) | (refine Nm.block ?_) | (refine Nm.then ?_) | (refine Gt.nil ?_; refine RW.nilw [0, 1, 5, 6, 7, 8, 9, 13] ?_; dsimp only [H.keep, H.look, H.Fr.put, Nat.beq]) | (refine Gt.move ?_; refine RW.y (Y.move rfl) rfl ?_) | (refine Gt.nilck ?_; refine RW.y (Y.nilck rfl) rfl ?_) | (refine Gt.fieldAddr ?_; refine RW.y (Y.fieldAddr rfl (by rfl)) rfl ?_) | (refine Gt.load ?_; refine RW.y (Y.loadB rfl (by assumption) rfl) rfl ?_) | (refine Gt.assign ?_; refine RW.y (Y.assign rfl) rfl ?_) | (refine Gt.convert ?_; first | (refine RW.y (Y.convN rfl (by first | exact wrap64_id (by omega) (by omega) | exact wrapu64_id (by omega) (by omega))) rfl ?_) | (refine RW.y (Y.convW rfl) rfl ?_)) | (refine Gt.len ?_; first | (refine RW.y (Y.lenv rfl) rfl ?_) | (refine RW.y (Y.lenx rfl (by assumption)) rfl ?_)) | (refine Gt.lss ?_; refine RW.y (Y.lss rfl rfl) rfl ?_) | (refine Gt.idx ?_; refine RW.elemM rfl rfl rfl rfl (by assumption) (by omega) (by omega) ?_) | (refine Gt.geq ?_; refine RW.y (Y.geq rfl rfl) rfl ?_) | (refine Gt.or ?_; refine RW.y (Y.bits (by first | exact .inl rfl | exact .inr (.inl rfl) | exact .inr (.inr (.inl rfl)) | exact .inr (.inr (.inr rfl))) rfl rfl) rfl ?_) | (refine Gt.shr ?_; refine RW.y (Y.shr rfl rfl (by omega)) rfl ?_) | (refine Gt.add ?_; refine RW.y (Y.add64 rfl rfl (by omega) (by omega)) rfl ?_))
  refine CL.loopS [0, 6, 7, 8] (fun m vals wr => ∃ (i : Nat) (F' : Nat → Prop), vals = [.pointer (some ⟨b, 0, none⟩), vn, .int .i64 (ns.length : Int), .int .i64 (i : Int)] ∧ i ≤ ns.length ∧ m = ns.length - i ∧ Wr wr F' b (l ++ (ns.take i).flatMap numL) ∧ Kept F w wr ∧ Next w F F') ns.length
    ⟨_, rfl, 0, F, rfl, Nat.zero_le _, rfl, by simpa using hW, Kept.refl _ _, fun k h => .inl h⟩ ?_
  rintro m vals wr ⟨i, F1, rfl, hi, rfl, hW1, hk1, hF1⟩
  dsimp only [List.zip, List.zipWith]
  have hsl : Sl wr 1 vn ns.length (nv ns) := hN.keep hk1 hNF
  have hsz := hk1.size
  repeat' (first | (refine CL.seq ?_) | (refine CL.region ?_) | (refine CL.skip ?_) | (refine CL.condP rfl (fun _ => ?_) (fun _ => ?_) <;> try (exfalso; omega)) | (refine CL.condT rfl ?_) | (refine CL.condF rfl ?_) | (refine CL.cond rfl (fun _ => ?_) (fun _ => ?_)) | (refine CL.block ?_) | (refine CL.exit ?_) | (refine Ex.then ?_) | (refine Ex.hit ?_) | (refine Ex.miss rfl ?_) | (refine CL.ret ?_) | (refine Rt.then ?_) | (refine Rt.block ?_) | (refine Pn.then ?_) | (refine Pn.block ?_) | (refine CL.done ?_) | (refine Nm.block ?_) | (refine Nm.then ?_) | (refine Gt.nil ?_; refine RW.nilw [0, 1, 5, 6, 7, 8, 9, 13] ?_; dsimp only [H.keep, H.look, H.Fr.put, Nat.beq]) | (refine Gt.move ?_; refine RW.y (Y.move rfl) rfl ?_) | (refine Gt.nilck ?_; refine RW.y (Y.nilck rfl) rfl ?_) | (refine Gt.fieldAddr ?_; refine RW.y (Y.fieldAddr rfl (by rfl)) rfl ?_) | (refine Gt.load ?_; refine RW.y (Y.loadB rfl (by assumption) rfl) rfl ?_) | (refine Gt.assign ?_; refine RW.y (Y.assign rfl) rfl ?_) | (refine Gt.convert ?_; first | (refine RW.y (Y.convN rfl (by first | exact wrap64_id (by omega) (by omega) | exact wrapu64_id (by omega) (by omega))) rfl ?_) | (refine RW.y (Y.convW rfl) rfl ?_)) | (refine Gt.len ?_; first | (refine RW.y (Y.lenv rfl) rfl ?_) | (refine RW.y (Y.lenx rfl (by assumption)) rfl ?_)) | (refine Gt.lss ?_; refine RW.y (Y.lss rfl rfl) rfl ?_) | (refine Gt.idx ?_; refine RW.elemM rfl rfl rfl rfl (by assumption) (by omega) (by omega) ?_) | (refine Gt.geq ?_; refine RW.y (Y.geq rfl rfl) rfl ?_) | (refine Gt.or ?_; refine RW.y (Y.bits (by first | exact .inl rfl | exact .inr (.inl rfl) | exact .inr (.inr (.inl rfl)) | exact .inr (.inr (.inr rfl))) rfl rfl) rfl ?_) | (refine Gt.shr ?_; refine RW.y (Y.shr rfl rfl (by omega)) rfl ?_) | (refine Gt.add ?_; refine RW.y (Y.add64 rfl rfl (by omega) (by omega)) rfl ?_))
  · have hlt : i < ns.length := by omega
    have hgl : ns.getD i default < 18446744073709551616 := by
      rw [List.getD_eq_getElem?_getD, List.getElem?_eq_getElem hlt]; exact hns _ (List.getElem_mem hlt)
    have htl : ((ns.take i).flatMap numL).length ≤ 10 * i := by
      have : ∀ (xs : List Nat), (∀ n ∈ xs, n < 18446744073709551616) → (xs.flatMap numL).length ≤ 10 * xs.length := by
        intro xs
        induction xs with
        | nil => intro _; simp
        | cons x r ih =>
          intro h
          have h1 := numL_len10 (h x (by simp))
          have h2 := ih fun n hn => h n (by simp [hn])
          simp only [List.flatMap_cons, List.length_append, List.length_cons]; omega
      have := this (ns.take i) fun n hn => hns n (List.mem_of_mem_take hn)
      rw [List.length_take] at this; omega
    have hnl := numL_len10 hgl
    have hsnoc : (ns.take (i + 1)).flatMap numL = (ns.take i).flatMap numL ++ numL (ns.getD i default) := by
      rw [List.take_succ_eq_append_getElem hlt, List.flatMap_append]; simp [List.getD_eq_getElem?_getD, hlt]
    generalize hx : ns.getD i default = x at *
    generalize hpre : l ++ (ns.take i).flatMap numL = pre at *
    have hpl : pre.length + 10 ≤ 1000000000 := by rw [← hpre, List.length_append]; omega
    refine CL.loopS [0, 5, 6, 7, 8] (fun m vals w1 => ∃ (k : Nat) (done : List UInt8) (F' : Nat → Prop), vals = [.pointer (some ⟨b, 0, none⟩), .int .u64 (k : Int), vn, .int .i64 (ns.length : Int), .int .i64 (i : Int)] ∧ m = k ∧ Wr w1 F' b (pre ++ done) ∧ numL x = done ++ numL k ∧ Kept F w w1 ∧ Next w F F') x
      ⟨_, rfl, x, [], F1, by rw [Int.toNat_natCast, hx], rfl, by simpa using hW1, by simp, hk1, hF1⟩ ?_
    rintro m vals w1 ⟨k, done, F2, rfl, rfl, hW2, hdn, hk2, hF2⟩
    dsimp only [List.zip, List.zipWith]
    have hdl : done.length + (numL m).length ≤ 10 := by have := congrArg List.length hdn; rw [List.length_append] at this; omega
    have hpos := numL_pos m
    have hsz2 := hk2.size
    have hW2' := hW2
    obtain ⟨⟨v, e, hb, how, hv⟩, hFb, hFlt⟩ := hW2'
    have hlen2 : (pre ++ done).length ≤ 1000000000 := by rw [List.length_append]; omega
    repeat' (first | (refine CL.seq ?_) | (refine CL.region ?_) | (refine CL.skip ?_) | (refine CL.condP rfl (fun _ => ?_) (fun _ => ?_) <;> try (exfalso; omega)) | (refine CL.condT rfl ?_) | (refine CL.condF rfl ?_) | (refine CL.cond rfl (fun _ => ?_) (fun _ => ?_)) | (refine CL.block ?_) | (refine CL.exit ?_) | (refine Ex.then ?_) | (refine Ex.hit ?_) | (refine Ex.miss rfl ?_) | (refine CL.ret ?_) | (refine Rt.then ?_) | (refine Rt.block ?_) | (refine Pn.then ?_) | (refine Pn.block ?_) | (refine CL.done ?_) | (refine Nm.block ?_) | (refine Nm.then ?_) | (refine Gt.nil ?_; refine RW.nilw [0, 1, 5, 6, 7, 8, 9, 13] ?_; dsimp only [H.keep, H.look, H.Fr.put, Nat.beq]) | (refine Gt.move ?_; refine RW.y (Y.move rfl) rfl ?_) | (refine Gt.nilck ?_; refine RW.y (Y.nilck rfl) rfl ?_) | (refine Gt.fieldAddr ?_; refine RW.y (Y.fieldAddr rfl (by rfl)) rfl ?_) | (refine Gt.load ?_; refine RW.y (Y.loadB rfl (by assumption) rfl) rfl ?_) | (refine Gt.assign ?_; refine RW.y (Y.assign rfl) rfl ?_) | (refine Gt.convert ?_; first | (refine RW.y (Y.convN rfl (by first | exact wrap64_id (by omega) (by omega) | exact wrapu64_id (by omega) (by omega))) rfl ?_) | (refine RW.y (Y.convW rfl) rfl ?_)) | (refine Gt.len ?_; first | (refine RW.y (Y.lenv rfl) rfl ?_) | (refine RW.y (Y.lenx rfl (by assumption)) rfl ?_)) | (refine Gt.lss ?_; refine RW.y (Y.lss rfl rfl) rfl ?_) | (refine Gt.idx ?_; refine RW.elemM rfl rfl rfl rfl (by assumption) (by omega) (by omega) ?_) | (refine Gt.geq ?_; refine RW.y (Y.geq rfl rfl) rfl ?_) | (refine Gt.or ?_; refine RW.y (Y.bits (by first | exact .inl rfl | exact .inr (.inl rfl) | exact .inr (.inr (.inl rfl)) | exact .inr (.inr (.inr rfl))) rfl rfl) rfl ?_) | (refine Gt.shr ?_; refine RW.y (Y.shr rfl rfl (by omega)) rfl ?_) | (refine Gt.add ?_; refine RW.y (Y.add64 rfl rfl (by omega) (by omega)) rfl ?_))
    · refine RW.app1 rfl rfl rfl rfl how rfl rfl rfl rfl one_byte (by omega) (by omega) (by omega) (fun v' w2 how' hk' hl' => ?_)
      have hb2 := hk'.at hb (fun c => (hv b c).2 rfl)
      repeat' (first | (refine CL.seq ?_) | (refine CL.region ?_) | (refine CL.skip ?_) | (refine CL.condP rfl (fun _ => ?_) (fun _ => ?_) <;> try (exfalso; omega)) | (refine CL.condT rfl ?_) | (refine CL.condF rfl ?_) | (refine CL.cond rfl (fun _ => ?_) (fun _ => ?_)) | (refine CL.block ?_) | (refine CL.exit ?_) | (refine Ex.then ?_) | (refine Ex.hit ?_) | (refine Ex.miss rfl ?_) | (refine CL.ret ?_) | (refine Rt.then ?_) | (refine Rt.block ?_) | (refine Pn.then ?_) | (refine Pn.block ?_) | (refine CL.done ?_) | (refine Nm.block ?_) | (refine Nm.then ?_) | (refine Gt.nil ?_; refine RW.nilw [0, 1, 5, 6, 7, 8, 9, 13] ?_; dsimp only [H.keep, H.look, H.Fr.put, Nat.beq]) | (refine Gt.move ?_; refine RW.y (Y.move rfl) rfl ?_) | (refine Gt.nilck ?_; refine RW.y (Y.nilck rfl) rfl ?_) | (refine Gt.fieldAddr ?_; refine RW.y (Y.fieldAddr rfl (by rfl)) rfl ?_) | (refine Gt.load ?_; refine RW.y (Y.loadB rfl (by assumption) rfl) rfl ?_) | (refine Gt.assign ?_; refine RW.y (Y.assign rfl) rfl ?_) | (refine Gt.convert ?_; first | (refine RW.y (Y.convN rfl (by first | exact wrap64_id (by omega) (by omega) | exact wrapu64_id (by omega) (by omega))) rfl ?_) | (refine RW.y (Y.convW rfl) rfl ?_)) | (refine Gt.len ?_; first | (refine RW.y (Y.lenv rfl) rfl ?_) | (refine RW.y (Y.lenx rfl (by assumption)) rfl ?_)) | (refine Gt.lss ?_; refine RW.y (Y.lss rfl rfl) rfl ?_) | (refine Gt.idx ?_; refine RW.elemM rfl rfl rfl rfl (by assumption) (by omega) (by omega) ?_) | (refine Gt.geq ?_; refine RW.y (Y.geq rfl rfl) rfl ?_) | (refine Gt.or ?_; refine RW.y (Y.bits (by first | exact .inl rfl | exact .inr (.inl rfl) | exact .inr (.inr (.inl rfl)) | exact .inr (.inr (.inr rfl))) rfl rfl) rfl ?_) | (refine Gt.shr ?_; refine RW.y (Y.shr rfl rfl (by omega)) rfl ?_) | (refine Gt.add ?_; refine RW.y (Y.add64 rfl rfl (by omega) (by omega)) rfl ?_))
      refine RW.storeB rfl rfl (Sl.of_own how').one hb2 (by simp) (fun w3 hb3 hk3 => ?_)
      repeat' (first | (refine CL.seq ?_) | (refine CL.region ?_) | (refine CL.skip ?_) | (refine CL.condP rfl (fun _ => ?_) (fun _ => ?_) <;> try (exfalso; omega)) | (refine CL.condT rfl ?_) | (refine CL.condF rfl ?_) | (refine CL.cond rfl (fun _ => ?_) (fun _ => ?_)) | (refine CL.block ?_) | (refine CL.exit ?_) | (refine Ex.then ?_) | (refine Ex.hit ?_) | (refine Ex.miss rfl ?_) | (refine CL.ret ?_) | (refine Rt.then ?_) | (refine Rt.block ?_) | (refine Pn.then ?_) | (refine Pn.block ?_) | (refine CL.done ?_) | (refine Nm.block ?_) | (refine Nm.then ?_) | (refine Gt.nil ?_; refine RW.nilw [0, 1, 5, 6, 7, 8, 9, 13] ?_; dsimp only [H.keep, H.look, H.Fr.put, Nat.beq]) | (refine Gt.move ?_; refine RW.y (Y.move rfl) rfl ?_) | (refine Gt.nilck ?_; refine RW.y (Y.nilck rfl) rfl ?_) | (refine Gt.fieldAddr ?_; refine RW.y (Y.fieldAddr rfl (by rfl)) rfl ?_) | (refine Gt.load ?_; refine RW.y (Y.loadB rfl (by assumption) rfl) rfl ?_) | (refine Gt.assign ?_; refine RW.y (Y.assign rfl) rfl ?_) | (refine Gt.convert ?_; first | (refine RW.y (Y.convN rfl (by first | exact wrap64_id (by omega) (by omega) | exact wrapu64_id (by omega) (by omega))) rfl ?_) | (refine RW.y (Y.convW rfl) rfl ?_)) | (refine Gt.len ?_; first | (refine RW.y (Y.lenv rfl) rfl ?_) | (refine RW.y (Y.lenx rfl (by assumption)) rfl ?_)) | (refine Gt.lss ?_; refine RW.y (Y.lss rfl rfl) rfl ?_) | (refine Gt.idx ?_; refine RW.elemM rfl rfl rfl rfl (by assumption) (by omega) (by omega) ?_) | (refine Gt.geq ?_; refine RW.y (Y.geq rfl rfl) rfl ?_) | (refine Gt.or ?_; refine RW.y (Y.bits (by first | exact .inl rfl | exact .inr (.inl rfl) | exact .inr (.inr (.inl rfl)) | exact .inr (.inr (.inr rfl))) rfl rfl) rfl ?_) | (refine Gt.shr ?_; refine RW.y (Y.shr rfl rfl (by omega)) rfl ?_) | (refine Gt.add ?_; refine RW.y (Y.add64 rfl rfl (by omega) (by omega)) rfl ?_))
      rw [or128] at how'
      obtain ⟨F3, hW3, hk4, hF3⟩ := hW2.push (l2 := pre ++ done ++ [UInt8.ofNat (m % 128 + 128)]) hb (own_snoc how') hk' hl' hb3 hk3
      refine ⟨m / 128, _, rfl, rfl, rfl, by omega, m / 128, done ++ [UInt8.ofNat (m % 128 + 128)], F3, by rw [shr7], rfl, by rw [← List.append_assoc]; exact hW3, ?_, hk2.trans hk4 hF2, fun k hk => ?_⟩
      · rw [hdn, numL_big (by omega), List.append_assoc]; rfl
      · rcases hF3 k hk with h | h
        · exact hF2 k h
        · right; omega
    · refine RW.app1 rfl rfl rfl rfl how rfl rfl rfl rfl one_byte (by omega) (by omega) (by omega) (fun v' w2 how' hk' hl' => ?_)
      have hb2 := hk'.at hb (fun c => (hv b c).2 rfl)
      repeat' (first | (refine CL.seq ?_) | (refine CL.region ?_) | (refine CL.skip ?_) | (refine CL.condP rfl (fun _ => ?_) (fun _ => ?_) <;> try (exfalso; omega)) | (refine CL.condT rfl ?_) | (refine CL.condF rfl ?_) | (refine CL.cond rfl (fun _ => ?_) (fun _ => ?_)) | (refine CL.block ?_) | (refine CL.exit ?_) | (refine Ex.then ?_) | (refine Ex.hit ?_) | (refine Ex.miss rfl ?_) | (refine CL.ret ?_) | (refine Rt.then ?_) | (refine Rt.block ?_) | (refine Pn.then ?_) | (refine Pn.block ?_) | (refine CL.done ?_) | (refine Nm.block ?_) | (refine Nm.then ?_) | (refine Gt.nil ?_; refine RW.nilw [0, 1, 5, 6, 7, 8, 9, 13] ?_; dsimp only [H.keep, H.look, H.Fr.put, Nat.beq]) | (refine Gt.move ?_; refine RW.y (Y.move rfl) rfl ?_) | (refine Gt.nilck ?_; refine RW.y (Y.nilck rfl) rfl ?_) | (refine Gt.fieldAddr ?_; refine RW.y (Y.fieldAddr rfl (by rfl)) rfl ?_) | (refine Gt.load ?_; refine RW.y (Y.loadB rfl (by assumption) rfl) rfl ?_) | (refine Gt.assign ?_; refine RW.y (Y.assign rfl) rfl ?_) | (refine Gt.convert ?_; first | (refine RW.y (Y.convN rfl (by first | exact wrap64_id (by omega) (by omega) | exact wrapu64_id (by omega) (by omega))) rfl ?_) | (refine RW.y (Y.convW rfl) rfl ?_)) | (refine Gt.len ?_; first | (refine RW.y (Y.lenv rfl) rfl ?_) | (refine RW.y (Y.lenx rfl (by assumption)) rfl ?_)) | (refine Gt.lss ?_; refine RW.y (Y.lss rfl rfl) rfl ?_) | (refine Gt.idx ?_; refine RW.elemM rfl rfl rfl rfl (by assumption) (by omega) (by omega) ?_) | (refine Gt.geq ?_; refine RW.y (Y.geq rfl rfl) rfl ?_) | (refine Gt.or ?_; refine RW.y (Y.bits (by first | exact .inl rfl | exact .inr (.inl rfl) | exact .inr (.inr (.inl rfl)) | exact .inr (.inr (.inr rfl))) rfl rfl) rfl ?_) | (refine Gt.shr ?_; refine RW.y (Y.shr rfl rfl (by omega)) rfl ?_) | (refine Gt.add ?_; refine RW.y (Y.add64 rfl rfl (by omega) (by omega)) rfl ?_))
      refine RW.storeB rfl rfl (Sl.of_own how').one hb2 (by simp) (fun w3 hb3 hk3 => ?_)
      repeat' (first | (refine CL.seq ?_) | (refine CL.region ?_) | (refine CL.skip ?_) | (refine CL.condP rfl (fun _ => ?_) (fun _ => ?_) <;> try (exfalso; omega)) | (refine CL.condT rfl ?_) | (refine CL.condF rfl ?_) | (refine CL.cond rfl (fun _ => ?_) (fun _ => ?_)) | (refine CL.block ?_) | (refine CL.exit ?_) | (refine Ex.then ?_) | (refine Ex.hit ?_) | (refine Ex.miss rfl ?_) | (refine CL.ret ?_) | (refine Rt.then ?_) | (refine Rt.block ?_) | (refine Pn.then ?_) | (refine Pn.block ?_) | (refine CL.done ?_) | (refine Nm.block ?_) | (refine Nm.then ?_) | (refine Gt.nil ?_; refine RW.nilw [0, 1, 5, 6, 7, 8, 9, 13] ?_; dsimp only [H.keep, H.look, H.Fr.put, Nat.beq]) | (refine Gt.move ?_; refine RW.y (Y.move rfl) rfl ?_) | (refine Gt.nilck ?_; refine RW.y (Y.nilck rfl) rfl ?_) | (refine Gt.fieldAddr ?_; refine RW.y (Y.fieldAddr rfl (by rfl)) rfl ?_) | (refine Gt.load ?_; refine RW.y (Y.loadB rfl (by assumption) rfl) rfl ?_) | (refine Gt.assign ?_; refine RW.y (Y.assign rfl) rfl ?_) | (refine Gt.convert ?_; first | (refine RW.y (Y.convN rfl (by first | exact wrap64_id (by omega) (by omega) | exact wrapu64_id (by omega) (by omega))) rfl ?_) | (refine RW.y (Y.convW rfl) rfl ?_)) | (refine Gt.len ?_; first | (refine RW.y (Y.lenv rfl) rfl ?_) | (refine RW.y (Y.lenx rfl (by assumption)) rfl ?_)) | (refine Gt.lss ?_; refine RW.y (Y.lss rfl rfl) rfl ?_) | (refine Gt.idx ?_; refine RW.elemM rfl rfl rfl rfl (by assumption) (by omega) (by omega) ?_) | (refine Gt.geq ?_; refine RW.y (Y.geq rfl rfl) rfl ?_) | (refine Gt.or ?_; refine RW.y (Y.bits (by first | exact .inl rfl | exact .inr (.inl rfl) | exact .inr (.inr (.inl rfl)) | exact .inr (.inr (.inr rfl))) rfl rfl) rfl ?_) | (refine Gt.shr ?_; refine RW.y (Y.shr rfl rfl (by omega)) rfl ?_) | (refine Gt.add ?_; refine RW.y (Y.add64 rfl rfl (by omega) (by omega)) rfl ?_))
      have hm : m < 128 := by omega
      rw [low8 hm] at how'
      obtain ⟨F3, hW3, hk4, hF3⟩ := hW2.push (l2 := pre ++ done ++ [UInt8.ofNat m]) hb (own_snoc how') hk' hl' hb3 hk3
      refine ⟨ns.length - (i + 1), _, rfl, rfl, rfl, by omega, i + 1, F3, by simp, by omega, by omega, ?_, hk2.trans hk4 hF2, fun k hk => ?_⟩
      · rw [hsnoc, ← List.append_assoc, hpre, hdn, numL_small hm, ← List.append_assoc]; exact hW3
      · rcases hF3 k hk with h | h
        · exact hF2 k h
        · right; omega
  · refine FQ.norm (FQ.none rfl rfl ⟨F1, rfl, ?_, hk1, hF1⟩)
    have : i = ns.length := by omega
    subst this
    simpa using hW1
end Go.Proofs.Ytblbibdjddmfiaa.Co
