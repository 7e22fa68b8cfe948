/-
  The other writing functions: integers, texts, truths; a writer made; what it holds; the references'.
-/
import Derived.Test.YtblbibdjddmfiaaCo2
namespace Go.Proofs.Ytblbibdjddmfiaa.Co
open Go.RowKit H
attribute [local irreducible] H.CL H.RW H.CW H.Yd H.thenK H.blockQ Go.Calls

theorem sl_new {w : World} {g : Nat} {c : Array Value} {e : TypeId} (h : w.heap[g]? = some (.cells c e (0, 0))) {n sz : Nat} (hn : c.size = n * sz) (hm : n ≤ 1000000) : Sl w sz (.slice (some ⟨g, 0, none⟩) n n) n c.toList :=
  Sl.of_own (own_new h (Nat.zero_le g) hn (by simp only [maxLen]; omega))

theorem Next.trans {w w' : World} {F F' F'' : Nat → Prop} (h : Next w F F') (hs : w.heap.size ≤ w'.heap.size) (k : Next w' F' F'') : Next w F F'' := fun x hx => by
  rcases k x hx with h' | h'
  · exact h x h'
  · right; omega

theorem numL_len1 (n : Nat) (h : n < 18446744073709551616) : (numL n).length ≤ 10 := numL_len10 h

/-- One number written, from the literal on. -/
theorem wrNum1 (b g n : Nat) (hn : n < 18446744073709551616) (l : List UInt8) (w : World) (F : Nat → Prop) (e : TypeId) (hW : Wr w F b l) (hb : w.heap[g]? = some (.cells #[.int .u64 (n : Int)] e (0, 0))) (hg : ¬ F g) (hl : l.length ≤ 1000000) :
    Calls Try.prog 19 #[.pointer (some ⟨b, 0, none⟩), .slice (some ⟨g, 0, none⟩) 1 1] w fun e w' => ∃ F', e = .returned (.tuple #[]) ∧ Wr w' F' b (l ++ numL n) ∧ Kept F w w' ∧ Next w F F' := by
  refine (wrNum b _ [n] (by simpa using hn) l w F hW (sl_new hb rfl (by simp)) (fun g' h => by cases h; exact hg) (by simp only [List.length_singleton]; omega)).mono fun e w' h => ?_
  simpa using h

abbrev iv (l : List Int) : List Value := l.map fun (n : Int) => Value.int .i64 n

set_option maxHeartbeats 800000 in
/-- (*Writer).Int -/
theorem wrInt (b : Nat) (vn : Value) (ns : List Int) (hns : ∀ n ∈ ns, -9223372036854775808 ≤ n ∧ n ≤ 9223372036854775807) (l : List UInt8) (w : World) (F : Nat → Prop) (hW : Wr w F b l) (hN : Sl w 1 vn ns.length (iv ns)) (hNF : ∀ g, live vn = some g → ¬ F g) (hl : l.length + 10 * ns.length ≤ 1000000) :
    Calls Try.prog 11 #[.pointer (some ⟨b, 0, none⟩), vn] w fun e w' => ∃ F', e = .returned (.tuple #[]) ∧ Wr w' F' b (l ++ ns.flatMap fun x => numL (zz x)) ∧ Kept F w w' ∧ Next w F F' := by
  refine H.enter Try.func11 Try.ntmps11 rfl rfl ?_; dsimp only [H.args]
  repeat' (first | (refine CL.seq ?_) | (refine CL.region ?_) | (refine CL.skip ?_) | (refine CL.condP rfl (fun _ => ?_) (fun _ => ?_) <;> try (exfalso; omega)) | (refine CL.condT rfl ?_) | (refine CL.condF rfl ?_) | (refine CL.cond rfl (fun _ => ?_) (fun _ => ?_)) | (refine CL.block ?_) | (refine CL.exit ?_) | (refine Ex.then ?_) | (refine Ex.hit ?_) | (refine Ex.miss rfl ?_) | (refine CL.ret ?_) | (refine Rt.then ?_) | (refine Rt.block ?_) | (refine Pn.then ?_) | (refine Pn.block ?_) | (refine CL.done ?_) | (refine Nm.block ?_) | (refine Nm.then ?_) | (refine Gt.nil ?_; refine RW.nilw [0, 1, 5, 6, 7, 8, 9] ?_; dsimp only [H.keep, H.look, H.Fr.put, Nat.beq]) | (refine Gt.move ?_; refine RW.y (Y.move rfl) rfl ?_) | (refine Gt.convert ?_; first | (refine RW.y (Y.convN rfl (by first | exact wrap64_id (by omega) (by omega) | exact wrapu64_id (by omega) (by omega))) rfl ?_) | (refine RW.y (Y.convW rfl) rfl ?_)) | (refine Gt.len ?_; first | (refine RW.y (Y.lenv rfl) rfl ?_) | (refine RW.y (Y.lenx rfl (by assumption)) rfl ?_)) | (refine Gt.lss ?_; refine RW.y (Y.lss rfl rfl) rfl ?_) | (refine Gt.idx ?_; refine RW.elemM rfl rfl rfl rfl (by assumption) (by omega) (by omega) ?_) | (refine Gt.load ?_; refine RW.y (Y.loadB rfl (by assumption) rfl) rfl ?_) | (refine Gt.assign ?_; refine RW.y (Y.assign rfl) rfl ?_) | (refine Gt.shl ?_; refine RW.y (Y.shl rfl rfl (by omega)) rfl ?_) | (refine Gt.shr ?_; refine RW.y (Y.shr rfl rfl (by omega)) rfl ?_) | (refine Gt.xor ?_; refine RW.y (Y.bits (by first | exact .inl rfl | exact .inr (.inl rfl) | exact .inr (.inr (.inl rfl)) | exact .inr (.inr (.inr rfl))) rfl rfl) rfl ?_) | (refine Gt.add ?_; refine RW.y (Y.add64 rfl rfl (by omega) (by omega)) rfl ?_))
  refine CL.loopS [0, 6, 7, 8] (fun m vals wr => ∃ (i : Nat) (F' : Nat → Prop), vals = [.pointer (some ⟨b, 0, none⟩), vn, .int .i64 (ns.length : Int), .int .i64 (i : Int)] ∧ i ≤ ns.length ∧ m = ns.length - i ∧ Wr wr F' b (l ++ (ns.take i).flatMap fun x => numL (zz x)) ∧ ((ns.take i).flatMap fun x => numL (zz x)).length ≤ 10 * i ∧ Kept F w wr ∧ Next w F F') ns.length
    ⟨_, rfl, 0, F, rfl, Nat.zero_le _, rfl, by simpa using hW, by simp, Kept.refl _ _, fun k h => .inl h⟩ ?_
  rintro m vals wr ⟨i, F1, rfl, hi, rfl, hW1, hlen, hk1, hF1⟩
  dsimp only [List.zip, List.zipWith]
  have hsl : Sl wr 1 vn ns.length (iv ns) := hN.keep hk1 hNF
  have hsz := hk1.size
  repeat' (first | (refine CL.seq ?_) | (refine CL.region ?_) | (refine CL.skip ?_) | (refine CL.condP rfl (fun _ => ?_) (fun _ => ?_) <;> try (exfalso; omega)) | (refine CL.condT rfl ?_) | (refine CL.condF rfl ?_) | (refine CL.cond rfl (fun _ => ?_) (fun _ => ?_)) | (refine CL.block ?_) | (refine CL.exit ?_) | (refine Ex.then ?_) | (refine Ex.hit ?_) | (refine Ex.miss rfl ?_) | (refine CL.ret ?_) | (refine Rt.then ?_) | (refine Rt.block ?_) | (refine Pn.then ?_) | (refine Pn.block ?_) | (refine CL.done ?_) | (refine Nm.block ?_) | (refine Nm.then ?_) | (refine Gt.nil ?_; refine RW.nilw [0, 1, 5, 6, 7, 8, 9] ?_; dsimp only [H.keep, H.look, H.Fr.put, Nat.beq]) | (refine Gt.move ?_; refine RW.y (Y.move rfl) rfl ?_) | (refine Gt.convert ?_; first | (refine RW.y (Y.convN rfl (by first | exact wrap64_id (by omega) (by omega) | exact wrapu64_id (by omega) (by omega))) rfl ?_) | (refine RW.y (Y.convW rfl) rfl ?_)) | (refine Gt.len ?_; first | (refine RW.y (Y.lenv rfl) rfl ?_) | (refine RW.y (Y.lenx rfl (by assumption)) rfl ?_)) | (refine Gt.lss ?_; refine RW.y (Y.lss rfl rfl) rfl ?_) | (refine Gt.idx ?_; refine RW.elemM rfl rfl rfl rfl (by assumption) (by omega) (by omega) ?_) | (refine Gt.load ?_; refine RW.y (Y.loadB rfl (by assumption) rfl) rfl ?_) | (refine Gt.assign ?_; refine RW.y (Y.assign rfl) rfl ?_) | (refine Gt.shl ?_; refine RW.y (Y.shl rfl rfl (by omega)) rfl ?_) | (refine Gt.shr ?_; refine RW.y (Y.shr rfl rfl (by omega)) rfl ?_) | (refine Gt.xor ?_; refine RW.y (Y.bits (by first | exact .inl rfl | exact .inr (.inl rfl) | exact .inr (.inr (.inl rfl)) | exact .inr (.inr (.inr rfl))) rfl rfl) rfl ?_) | (refine Gt.add ?_; refine RW.y (Y.add64 rfl rfl (by omega) (by omega)) rfl ?_))
  · have hlt : i < ns.length := by omega
    have hgl : -9223372036854775808 ≤ ns.getD i default ∧ ns.getD i default ≤ 9223372036854775807 := by
      rw [List.getD_eq_getElem?_getD, List.getElem?_eq_getElem hlt]; exact hns _ (List.getElem_mem hlt)
    have hsnoc : ((ns.take (i + 1)).flatMap fun x => numL (zz x)) = ((ns.take i).flatMap fun x => numL (zz x)) ++ numL (zz (ns.getD i default)) := by
      rw [List.take_succ_eq_append_getElem hlt, List.flatMap_append]; simp [List.getD_eq_getElem?_getD, hlt]
    rw [Int.toNat_natCast]
    generalize ns.getD i default = x at *
    rw [zz_prog hgl.1 hgl.2]
    have hz := zz_lt hgl.1 hgl.2
    have hzl := numL_len10 hz
    refine RW.build1 rfl rfl rfl rfl (fun w2 hb2 hk2 hlt2 => ?_)
    refine RW.fn rfl rfl ((wrNum1 b _ (zz x) hz _ w2 F1 _ (hW1.keep hk2 fun _ _ c => c) hb2 (fun c => by have := hW1.lt _ c; omega) (by rw [List.length_append]; omega)).mono ?_)
    rintro e w3 ⟨F3, rfl, hW3, hk3, hF3⟩
    repeat' (first | (refine CL.seq ?_) | (refine CL.region ?_) | (refine CL.skip ?_) | (refine CL.condP rfl (fun _ => ?_) (fun _ => ?_) <;> try (exfalso; omega)) | (refine CL.condT rfl ?_) | (refine CL.condF rfl ?_) | (refine CL.cond rfl (fun _ => ?_) (fun _ => ?_)) | (refine CL.block ?_) | (refine CL.exit ?_) | (refine Ex.then ?_) | (refine Ex.hit ?_) | (refine Ex.miss rfl ?_) | (refine CL.ret ?_) | (refine Rt.then ?_) | (refine Rt.block ?_) | (refine Pn.then ?_) | (refine Pn.block ?_) | (refine CL.done ?_) | (refine Nm.block ?_) | (refine Nm.then ?_) | (refine Gt.nil ?_; refine RW.nilw [0, 1, 5, 6, 7, 8, 9] ?_; dsimp only [H.keep, H.look, H.Fr.put, Nat.beq]) | (refine Gt.move ?_; refine RW.y (Y.move rfl) rfl ?_) | (refine Gt.convert ?_; first | (refine RW.y (Y.convN rfl (by first | exact wrap64_id (by omega) (by omega) | exact wrapu64_id (by omega) (by omega))) rfl ?_) | (refine RW.y (Y.convW rfl) rfl ?_)) | (refine Gt.len ?_; first | (refine RW.y (Y.lenv rfl) rfl ?_) | (refine RW.y (Y.lenx rfl (by assumption)) rfl ?_)) | (refine Gt.lss ?_; refine RW.y (Y.lss rfl rfl) rfl ?_) | (refine Gt.idx ?_; refine RW.elemM rfl rfl rfl rfl (by assumption) (by omega) (by omega) ?_) | (refine Gt.load ?_; refine RW.y (Y.loadB rfl (by assumption) rfl) rfl ?_) | (refine Gt.assign ?_; refine RW.y (Y.assign rfl) rfl ?_) | (refine Gt.shl ?_; refine RW.y (Y.shl rfl rfl (by omega)) rfl ?_) | (refine Gt.shr ?_; refine RW.y (Y.shr rfl rfl (by omega)) rfl ?_) | (refine Gt.xor ?_; refine RW.y (Y.bits (by first | exact .inl rfl | exact .inr (.inl rfl) | exact .inr (.inr (.inl rfl)) | exact .inr (.inr (.inr rfl))) rfl rfl) rfl ?_) | (refine Gt.add ?_; refine RW.y (Y.add64 rfl rfl (by omega) (by omega)) rfl ?_))
    have hsz2 := hk2.size
    have hn1 : Next wr F1 F3 := fun k hk => (hF3 k hk).imp id (fun h => by omega)
    refine ⟨ns.length - (i + 1), _, rfl, rfl, rfl, by omega, i + 1, F3, by simp, by omega, by omega, ?_, ?_, (hk1.trans0 hk2).trans hk3 hF1, hF1.trans hsz hn1⟩
    · rw [hsnoc, ← List.append_assoc]; exact hW3
    · rw [hsnoc, List.length_append]; omega
  · refine FQ.norm (FQ.none rfl rfl ⟨F1, rfl, ?_, hk1, hF1⟩)
    have : i = ns.length := by omega
    subst this
    simpa using hW1

abbrev bov (l : List Bool) : List Value := l.map fun (x : Bool) => Value.bool x
theorem boolL_one (x : Bool) : boolL x = [if x then 1 else 0] := by cases x <;> (unfold boolL; rw [numL_small (by decide)]; rfl)

set_option maxHeartbeats 800000 in
/-- (*Writer).Bool -/
theorem wrBool (b : Nat) (vn : Value) (ns : List Bool) (l : List UInt8) (w : World) (F : Nat → Prop) (hW : Wr w F b l) (hN : Sl w 1 vn ns.length (bov ns)) (hNF : ∀ g, live vn = some g → ¬ F g) (hl : l.length + 10 * ns.length ≤ 1000000) :
    Calls Try.prog 21 #[.pointer (some ⟨b, 0, none⟩), vn] w fun e w' => ∃ F', e = .returned (.tuple #[]) ∧ Wr w' F' b (l ++ ns.flatMap boolL) ∧ Kept F w w' ∧ Next w F F' := by
  refine H.enter Try.func21 Try.ntmps21 rfl rfl ?_; dsimp only [H.args]
  repeat' (first | (refine CL.seq ?_) | (refine CL.region ?_) | (refine CL.skip ?_) | (refine CL.condP rfl (fun _ => ?_) (fun _ => ?_) <;> try (exfalso; omega)) | (refine CL.condT rfl ?_) | (refine CL.condF rfl ?_) | (refine CL.cond rfl (fun _ => ?_) (fun _ => ?_)) | (refine CL.block ?_) | (refine CL.exit ?_) | (refine Ex.then ?_) | (refine Ex.hit ?_) | (refine Ex.miss rfl ?_) | (refine CL.ret ?_) | (refine Rt.then ?_) | (refine Rt.block ?_) | (refine Pn.then ?_) | (refine Pn.block ?_) | (refine CL.done ?_) | (refine Nm.block ?_) | (refine Nm.then ?_) | (refine Gt.nil ?_; refine RW.nilw [0, 1, 5, 6, 7, 8, 9, 10, 13] ?_; dsimp only [H.keep, H.look, H.Fr.put, Nat.beq]) | (refine Gt.move ?_; refine RW.y (Y.move rfl) rfl ?_) | (refine Gt.assign ?_; refine RW.y (Y.assign rfl) rfl ?_) | (refine Gt.len ?_; first | (refine RW.y (Y.lenv rfl) rfl ?_) | (refine RW.y (Y.lenx rfl (by assumption)) rfl ?_)) | (refine Gt.lss ?_; refine RW.y (Y.lss rfl rfl) rfl ?_) | (refine Gt.idx ?_; refine RW.elemM rfl rfl rfl rfl (by assumption) (by omega) (by omega) ?_) | (refine Gt.load ?_; refine RW.y (Y.loadB rfl (by assumption) rfl) rfl ?_) | (refine Gt.add ?_; refine RW.y (Y.add64 rfl rfl (by omega) (by omega)) rfl ?_))
  refine CL.loopS [0, 7, 8, 9] (fun m vals wr => ∃ (i : Nat) (F' : Nat → Prop), vals = [.pointer (some ⟨b, 0, none⟩), vn, .int .i64 (ns.length : Int), .int .i64 (i : Int)] ∧ i ≤ ns.length ∧ m = ns.length - i ∧ Wr wr F' b (l ++ (ns.take i).flatMap boolL) ∧ ((ns.take i).flatMap boolL).length ≤ 10 * i ∧ Kept F w wr ∧ Next w F F') ns.length
    ⟨_, rfl, 0, F, rfl, Nat.zero_le _, rfl, by simpa using hW, by simp, Kept.refl _ _, fun k h => .inl h⟩ ?_
  rintro m vals wr ⟨i, F1, rfl, hi, rfl, hW1, hlen, hk1, hF1⟩
  dsimp only [List.zip, List.zipWith]
  have hsl : Sl wr 1 vn ns.length (bov ns) := hN.keep hk1 hNF
  have hsz := hk1.size
  repeat' (first | (refine CL.seq ?_) | (refine CL.region ?_) | (refine CL.skip ?_) | (refine CL.condP rfl (fun _ => ?_) (fun _ => ?_) <;> try (exfalso; omega)) | (refine CL.condT rfl ?_) | (refine CL.condF rfl ?_) | (refine CL.cond rfl (fun _ => ?_) (fun _ => ?_)) | (refine CL.block ?_) | (refine CL.exit ?_) | (refine Ex.then ?_) | (refine Ex.hit ?_) | (refine Ex.miss rfl ?_) | (refine CL.ret ?_) | (refine Rt.then ?_) | (refine Rt.block ?_) | (refine Pn.then ?_) | (refine Pn.block ?_) | (refine CL.done ?_) | (refine Nm.block ?_) | (refine Nm.then ?_) | (refine Gt.nil ?_; refine RW.nilw [0, 1, 5, 6, 7, 8, 9, 10, 13] ?_; dsimp only [H.keep, H.look, H.Fr.put, Nat.beq]) | (refine Gt.move ?_; refine RW.y (Y.move rfl) rfl ?_) | (refine Gt.assign ?_; refine RW.y (Y.assign rfl) rfl ?_) | (refine Gt.len ?_; first | (refine RW.y (Y.lenv rfl) rfl ?_) | (refine RW.y (Y.lenx rfl (by assumption)) rfl ?_)) | (refine Gt.lss ?_; refine RW.y (Y.lss rfl rfl) rfl ?_) | (refine Gt.idx ?_; refine RW.elemM rfl rfl rfl rfl (by assumption) (by omega) (by omega) ?_) | (refine Gt.load ?_; refine RW.y (Y.loadB rfl (by assumption) rfl) rfl ?_) | (refine Gt.add ?_; refine RW.y (Y.add64 rfl rfl (by omega) (by omega)) rfl ?_))
  case' refine_2 =>
    refine FQ.norm (FQ.none rfl rfl ⟨F1, rfl, ?_, hk1, hF1⟩)
    have : i = ns.length := by omega
    subst this
    simpa using hW1
  all_goals
    rename_i hx
    have hlt : i < ns.length := by omega
    have hsnoc : (ns.take (i + 1)).flatMap boolL = (ns.take i).flatMap boolL ++ boolL (ns.getD i default) := by
      rw [List.take_succ_eq_append_getElem hlt, List.flatMap_append]; simp [List.getD_eq_getElem?_getD, hlt]
    rw [Int.toNat_natCast] at hx
    rw [hx] at hsnoc
    refine RW.build1 rfl rfl rfl rfl (fun w2 hb2 hk2 hlt2 => ?_)
    refine RW.fn rfl rfl ((wrNum1 b _ (if hx' : ns.getD i default = true then 1 else 0) (by split <;> omega) _ w2 F1 _ (hW1.keep hk2 fun _ _ c => c) (by simp only [hx]; exact hb2) (fun c => by have := hW1.lt _ c; omega) (by rw [List.length_append]; omega)).mono ?_)
    rintro e w3 ⟨F3, rfl, hW3, hk3, hF3⟩
    repeat' (first | (refine CL.seq ?_) | (refine CL.region ?_) | (refine CL.skip ?_) | (refine CL.condP rfl (fun _ => ?_) (fun _ => ?_) <;> try (exfalso; omega)) | (refine CL.condT rfl ?_) | (refine CL.condF rfl ?_) | (refine CL.cond rfl (fun _ => ?_) (fun _ => ?_)) | (refine CL.block ?_) | (refine CL.exit ?_) | (refine Ex.then ?_) | (refine Ex.hit ?_) | (refine Ex.miss rfl ?_) | (refine CL.ret ?_) | (refine Rt.then ?_) | (refine Rt.block ?_) | (refine Pn.then ?_) | (refine Pn.block ?_) | (refine CL.done ?_) | (refine Nm.block ?_) | (refine Nm.then ?_) | (refine Gt.nil ?_; refine RW.nilw [0, 1, 5, 6, 7, 8, 9, 10, 13] ?_; dsimp only [H.keep, H.look, H.Fr.put, Nat.beq]) | (refine Gt.move ?_; refine RW.y (Y.move rfl) rfl ?_) | (refine Gt.assign ?_; refine RW.y (Y.assign rfl) rfl ?_) | (refine Gt.len ?_; first | (refine RW.y (Y.lenv rfl) rfl ?_) | (refine RW.y (Y.lenx rfl (by assumption)) rfl ?_)) | (refine Gt.lss ?_; refine RW.y (Y.lss rfl rfl) rfl ?_) | (refine Gt.idx ?_; refine RW.elemM rfl rfl rfl rfl (by assumption) (by omega) (by omega) ?_) | (refine Gt.load ?_; refine RW.y (Y.loadB rfl (by assumption) rfl) rfl ?_) | (refine Gt.add ?_; refine RW.y (Y.add64 rfl rfl (by omega) (by omega)) rfl ?_))
    have hsz2 := hk2.size
    have hn1 : Next wr F1 F3 := fun k hk => (hF3 k hk).imp id (fun h => by omega)
    simp only [hx] at hW3
    have hl1 := boolL_one (ns.getD i default)
    rw [hx] at hl1
    refine ⟨ns.length - (i + 1), _, rfl, rfl, rfl, by omega, i + 1, F3, by simp, by omega, by omega, ?_, ?_, (hk1.trans0 hk2).trans hk3 hF1, hF1.trans hsz hn1⟩
    · rw [hsnoc, ← List.append_assoc]; exact hW3
    · rw [hsnoc, List.length_append, hl1, List.length_singleton]; omega

set_option maxHeartbeats 800000 in
/-- (*Writer).Text -/
theorem wrText (b : Nat) (vn : Value) (ns : List (List UInt8)) (T : Nat) (hns : ∀ n ∈ ns, n.length ≤ T) (l : List UInt8) (w : World) (F : Nat → Prop) (hW : Wr w F b l) (hN : Sl w 1 vn ns.length (sv ns)) (hNF : ∀ g, live vn = some g → ¬ F g) (hl : l.length + (10 + T) * ns.length ≤ 1000000) (hT : T ≤ 1000000) :
    Calls Try.prog 20 #[.pointer (some ⟨b, 0, none⟩), vn] w fun e w' => ∃ F', e = .returned (.tuple #[]) ∧ Wr w' F' b (l ++ ns.flatMap textL) ∧ Kept F w w' ∧ Next w F F' := by
  have hnl : ns.length ≤ 1000000 := Nat.le_trans (Nat.le_mul_of_pos_left ns.length (show 0 < 10 + T by omega)) (by omega)
  refine H.enter Try.func20 Try.ntmps20 rfl rfl ?_; dsimp only [H.args]
  repeat' (first | (refine CL.seq ?_) | (refine CL.region ?_) | (refine CL.skip ?_) | (refine CL.condP rfl (fun _ => ?_) (fun _ => ?_) <;> try (exfalso; omega)) | (refine CL.condT rfl ?_) | (refine CL.condF rfl ?_) | (refine CL.cond rfl (fun _ => ?_) (fun _ => ?_)) | (refine CL.block ?_) | (refine CL.exit ?_) | (refine Ex.then ?_) | (refine Ex.hit ?_) | (refine Ex.miss rfl ?_) | (refine CL.ret ?_) | (refine Rt.then ?_) | (refine Rt.block ?_) | (refine Pn.then ?_) | (refine Pn.block ?_) | (refine CL.done ?_) | (refine Nm.block ?_) | (refine Nm.then ?_) | (refine Gt.nil ?_; refine RW.nilw [0, 1, 5, 6, 7, 8, 9] ?_; dsimp only [H.keep, H.look, H.Fr.put, Nat.beq]) | (refine Gt.move ?_; refine RW.y (Y.move rfl) rfl ?_) | (refine Gt.load ?_; refine RW.y (Y.loadB rfl (by assumption) rfl) rfl ?_) | (refine Gt.nilck ?_; refine RW.y (Y.nilck rfl) rfl ?_) | (refine Gt.fieldAddr ?_; refine RW.y (Y.fieldAddr rfl (by rfl)) rfl ?_) | (refine Gt.len ?_; first | (refine RW.y (Y.lenv rfl) rfl ?_) | (refine RW.y (Y.lenx rfl (by assumption)) rfl ?_) | (refine RW.y (Y.lens rfl) rfl ?_)) | (refine Gt.lss ?_; refine RW.y (Y.lss rfl rfl) rfl ?_) | (refine Gt.idx ?_; refine RW.elemS rfl rfl rfl rfl (by assumption) (by omega) (by omega) ?_) | (refine Gt.assign ?_; refine RW.y (Y.assign rfl) rfl ?_) | (refine Gt.convert ?_; first | (refine RW.y (Y.convN rfl (by first | exact wrap64_id (by omega) (by omega) | exact wrapu64_id (by omega) (by omega))) rfl ?_) | (refine RW.y (Y.convW rfl) rfl ?_)) | (refine Gt.add ?_; refine RW.y (Y.add64 rfl rfl (by omega) (by omega)) rfl ?_))
  refine CL.loopS [0, 6, 7, 8] (fun m vals wr => ∃ (i : Nat) (F' : Nat → Prop), vals = [.pointer (some ⟨b, 0, none⟩), vn, .int .i64 (ns.length : Int), .int .i64 (i : Int)] ∧ i ≤ ns.length ∧ m = ns.length - i ∧ Wr wr F' b (l ++ (ns.take i).flatMap textL) ∧ ((ns.take i).flatMap textL).length ≤ (10 + T) * i ∧ Kept F w wr ∧ Next w F F') ns.length
    ⟨_, rfl, 0, F, rfl, Nat.zero_le _, rfl, by simpa using hW, by simp, Kept.refl _ _, fun k h => .inl h⟩ ?_
  rintro m vals wr ⟨i, F1, rfl, hi, rfl, hW1, hlen, hk1, hF1⟩
  dsimp only [List.zip, List.zipWith]
  have hsl : Sl wr 1 vn ns.length (sv ns) := hN.keep hk1 hNF
  have hsz := hk1.size
  repeat' (first | (refine CL.seq ?_) | (refine CL.region ?_) | (refine CL.skip ?_) | (refine CL.condP rfl (fun _ => ?_) (fun _ => ?_) <;> try (exfalso; omega)) | (refine CL.condT rfl ?_) | (refine CL.condF rfl ?_) | (refine CL.cond rfl (fun _ => ?_) (fun _ => ?_)) | (refine CL.block ?_) | (refine CL.exit ?_) | (refine Ex.then ?_) | (refine Ex.hit ?_) | (refine Ex.miss rfl ?_) | (refine CL.ret ?_) | (refine Rt.then ?_) | (refine Rt.block ?_) | (refine Pn.then ?_) | (refine Pn.block ?_) | (refine CL.done ?_) | (refine Nm.block ?_) | (refine Nm.then ?_) | (refine Gt.nil ?_; refine RW.nilw [0, 1, 5, 6, 7, 8, 9] ?_; dsimp only [H.keep, H.look, H.Fr.put, Nat.beq]) | (refine Gt.move ?_; refine RW.y (Y.move rfl) rfl ?_) | (refine Gt.load ?_; refine RW.y (Y.loadB rfl (by assumption) rfl) rfl ?_) | (refine Gt.nilck ?_; refine RW.y (Y.nilck rfl) rfl ?_) | (refine Gt.fieldAddr ?_; refine RW.y (Y.fieldAddr rfl (by rfl)) rfl ?_) | (refine Gt.len ?_; first | (refine RW.y (Y.lenv rfl) rfl ?_) | (refine RW.y (Y.lenx rfl (by assumption)) rfl ?_) | (refine RW.y (Y.lens rfl) rfl ?_)) | (refine Gt.lss ?_; refine RW.y (Y.lss rfl rfl) rfl ?_) | (refine Gt.idx ?_; refine RW.elemS rfl rfl rfl rfl (by assumption) (by omega) (by omega) ?_) | (refine Gt.assign ?_; refine RW.y (Y.assign rfl) rfl ?_) | (refine Gt.convert ?_; first | (refine RW.y (Y.convN rfl (by first | exact wrap64_id (by omega) (by omega) | exact wrapu64_id (by omega) (by omega))) rfl ?_) | (refine RW.y (Y.convW rfl) rfl ?_)) | (refine Gt.add ?_; refine RW.y (Y.add64 rfl rfl (by omega) (by omega)) rfl ?_))
  case' refine_2 =>
    refine FQ.norm (FQ.none rfl rfl ⟨F1, rfl, ?_, hk1, hF1⟩)
    have : i = ns.length := by omega
    subst this
    simpa using hW1
  have hlt : i < ns.length := by omega
  have hgl : (ns.getD i []).length ≤ T := by
    rw [List.getD_eq_getElem?_getD, List.getElem?_eq_getElem hlt]; exact hns _ (List.getElem_mem hlt)
  have hsnoc : (ns.take (i + 1)).flatMap textL = (ns.take i).flatMap textL ++ textL (ns.getD i []) := by
    rw [List.take_succ_eq_append_getElem hlt, List.flatMap_append]; simp [List.getD_eq_getElem?_getD, hlt]
  have hmul : (10 + T) * (i + 1) ≤ (10 + T) * ns.length := Nat.mul_le_mul_left _ (by omega)
  have hmul2 : (10 + T) * (i + 1) = (10 + T) * i + (10 + T) := by rw [Nat.mul_add]; omega
  rw [Int.toNat_natCast]
  generalize ns.getD i [] = x at *
  rw [wrapu64_id (by omega) (by omega)]
  have hzl : (numL x.length).length ≤ 10 := numL_len10 (by omega)
  refine RW.build1 rfl rfl rfl rfl (fun w2 hb2 hk2 hlt2 => ?_)
  refine RW.fn rfl rfl ((wrNum1 b _ x.length (by omega) _ w2 F1 _ (hW1.keep hk2 fun _ _ c => c) hb2 (fun c => by have := hW1.lt _ c; omega) (by rw [List.length_append]; omega)).mono ?_)
  rintro e w3 ⟨F3, rfl, hW3, hk3, hF3⟩
  have hsz2 := hk2.size
  have hsz3 := hk3.size
  have hn1 : Next wr F1 F3 := fun k hk => (hF3 k hk).imp id (fun h => by omega)
  have hW3' := hW3
  obtain ⟨⟨v, e, hb, how, hv⟩, hFb, hFlt⟩ := hW3'
  repeat' (first | (refine CL.seq ?_) | (refine CL.region ?_) | (refine CL.skip ?_) | (refine CL.condP rfl (fun _ => ?_) (fun _ => ?_) <;> try (exfalso; omega)) | (refine CL.condT rfl ?_) | (refine CL.condF rfl ?_) | (refine CL.cond rfl (fun _ => ?_) (fun _ => ?_)) | (refine CL.block ?_) | (refine CL.exit ?_) | (refine Ex.then ?_) | (refine Ex.hit ?_) | (refine Ex.miss rfl ?_) | (refine CL.ret ?_) | (refine Rt.then ?_) | (refine Rt.block ?_) | (refine Pn.then ?_) | (refine Pn.block ?_) | (refine CL.done ?_) | (refine Nm.block ?_) | (refine Nm.then ?_) | (refine Gt.nil ?_; refine RW.nilw [0, 1, 5, 6, 7, 8, 9] ?_; dsimp only [H.keep, H.look, H.Fr.put, Nat.beq]) | (refine Gt.move ?_; refine RW.y (Y.move rfl) rfl ?_) | (refine Gt.load ?_; refine RW.y (Y.loadB rfl (by assumption) rfl) rfl ?_) | (refine Gt.nilck ?_; refine RW.y (Y.nilck rfl) rfl ?_) | (refine Gt.fieldAddr ?_; refine RW.y (Y.fieldAddr rfl (by rfl)) rfl ?_) | (refine Gt.len ?_; first | (refine RW.y (Y.lenv rfl) rfl ?_) | (refine RW.y (Y.lenx rfl (by assumption)) rfl ?_) | (refine RW.y (Y.lens rfl) rfl ?_)) | (refine Gt.lss ?_; refine RW.y (Y.lss rfl rfl) rfl ?_) | (refine Gt.idx ?_; refine RW.elemS rfl rfl rfl rfl (by assumption) (by omega) (by omega) ?_) | (refine Gt.assign ?_; refine RW.y (Y.assign rfl) rfl ?_) | (refine Gt.convert ?_; first | (refine RW.y (Y.convN rfl (by first | exact wrap64_id (by omega) (by omega) | exact wrapu64_id (by omega) (by omega))) rfl ?_) | (refine RW.y (Y.convW rfl) rfl ?_)) | (refine Gt.add ?_; refine RW.y (Y.add64 rfl rfl (by omega) (by omega)) rfl ?_))
  refine RW.apps rfl rfl rfl how (by rw [List.length_append, List.length_append]; omega) (by omega) (fun v' w4 how' hk' hl' => ?_)
  have hb4 := hk'.at hb (fun c => (hv b c).2 rfl)
  repeat' (first | (refine CL.seq ?_) | (refine CL.region ?_) | (refine CL.skip ?_) | (refine CL.condP rfl (fun _ => ?_) (fun _ => ?_) <;> try (exfalso; omega)) | (refine CL.condT rfl ?_) | (refine CL.condF rfl ?_) | (refine CL.cond rfl (fun _ => ?_) (fun _ => ?_)) | (refine CL.block ?_) | (refine CL.exit ?_) | (refine Ex.then ?_) | (refine Ex.hit ?_) | (refine Ex.miss rfl ?_) | (refine CL.ret ?_) | (refine Rt.then ?_) | (refine Rt.block ?_) | (refine Pn.then ?_) | (refine Pn.block ?_) | (refine CL.done ?_) | (refine Nm.block ?_) | (refine Nm.then ?_) | (refine Gt.nil ?_; refine RW.nilw [0, 1, 5, 6, 7, 8, 9] ?_; dsimp only [H.keep, H.look, H.Fr.put, Nat.beq]) | (refine Gt.move ?_; refine RW.y (Y.move rfl) rfl ?_) | (refine Gt.load ?_; refine RW.y (Y.loadB rfl (by assumption) rfl) rfl ?_) | (refine Gt.nilck ?_; refine RW.y (Y.nilck rfl) rfl ?_) | (refine Gt.fieldAddr ?_; refine RW.y (Y.fieldAddr rfl (by rfl)) rfl ?_) | (refine Gt.len ?_; first | (refine RW.y (Y.lenv rfl) rfl ?_) | (refine RW.y (Y.lenx rfl (by assumption)) rfl ?_) | (refine RW.y (Y.lens rfl) rfl ?_)) | (refine Gt.lss ?_; refine RW.y (Y.lss rfl rfl) rfl ?_) | (refine Gt.idx ?_; refine RW.elemS rfl rfl rfl rfl (by assumption) (by omega) (by omega) ?_) | (refine Gt.assign ?_; refine RW.y (Y.assign rfl) rfl ?_) | (refine Gt.convert ?_; first | (refine RW.y (Y.convN rfl (by first | exact wrap64_id (by omega) (by omega) | exact wrapu64_id (by omega) (by omega))) rfl ?_) | (refine RW.y (Y.convW rfl) rfl ?_)) | (refine Gt.add ?_; refine RW.y (Y.add64 rfl rfl (by omega) (by omega)) rfl ?_))
  refine RW.storeB rfl rfl (Sl.of_own how').one hb4 (by simp) (fun w5 hb5 hk5 => ?_)
  repeat' (first | (refine CL.seq ?_) | (refine CL.region ?_) | (refine CL.skip ?_) | (refine CL.condP rfl (fun _ => ?_) (fun _ => ?_) <;> try (exfalso; omega)) | (refine CL.condT rfl ?_) | (refine CL.condF rfl ?_) | (refine CL.cond rfl (fun _ => ?_) (fun _ => ?_)) | (refine CL.block ?_) | (refine CL.exit ?_) | (refine Ex.then ?_) | (refine Ex.hit ?_) | (refine Ex.miss rfl ?_) | (refine CL.ret ?_) | (refine Rt.then ?_) | (refine Rt.block ?_) | (refine Pn.then ?_) | (refine Pn.block ?_) | (refine CL.done ?_) | (refine Nm.block ?_) | (refine Nm.then ?_) | (refine Gt.nil ?_; refine RW.nilw [0, 1, 5, 6, 7, 8, 9] ?_; dsimp only [H.keep, H.look, H.Fr.put, Nat.beq]) | (refine Gt.move ?_; refine RW.y (Y.move rfl) rfl ?_) | (refine Gt.load ?_; refine RW.y (Y.loadB rfl (by assumption) rfl) rfl ?_) | (refine Gt.nilck ?_; refine RW.y (Y.nilck rfl) rfl ?_) | (refine Gt.fieldAddr ?_; refine RW.y (Y.fieldAddr rfl (by rfl)) rfl ?_) | (refine Gt.len ?_; first | (refine RW.y (Y.lenv rfl) rfl ?_) | (refine RW.y (Y.lenx rfl (by assumption)) rfl ?_) | (refine RW.y (Y.lens rfl) rfl ?_)) | (refine Gt.lss ?_; refine RW.y (Y.lss rfl rfl) rfl ?_) | (refine Gt.idx ?_; refine RW.elemS rfl rfl rfl rfl (by assumption) (by omega) (by omega) ?_) | (refine Gt.assign ?_; refine RW.y (Y.assign rfl) rfl ?_) | (refine Gt.convert ?_; first | (refine RW.y (Y.convN rfl (by first | exact wrap64_id (by omega) (by omega) | exact wrapu64_id (by omega) (by omega))) rfl ?_) | (refine RW.y (Y.convW rfl) rfl ?_)) | (refine Gt.add ?_; refine RW.y (Y.add64 rfl rfl (by omega) (by omega)) rfl ?_))
  have how2 : w4.ownsRow 0 bt 1 v' (l ++ (ns.take i).flatMap textL ++ numL x.length ++ x).length (bv (l ++ (ns.take i).flatMap textL ++ numL x.length ++ x)) := by
    rw [List.length_append, bv, List.map_append]; exact how'
  obtain ⟨F5, hW5, hk6, hF5⟩ := hW3.push hb how2 hk' hl' hb5 hk5
  have e1 : l ++ (ns.take i).flatMap textL ++ numL x.length ++ x = l ++ (ns.take (i + 1)).flatMap textL := by
    rw [hsnoc]; simp [textL, List.append_assoc]
  rw [e1] at hW5
  refine ⟨ns.length - (i + 1), _, rfl, rfl, rfl, by omega, i + 1, F5, by simp, by omega, by omega, hW5, ?_, ((hk1.trans0 hk2).trans hk3 hF1).trans hk6 (hF1.trans hsz hn1), (hF1.trans hsz hn1).trans (by omega) hF5⟩
  rw [hsnoc, List.length_append, textL, List.length_append]; omega

set_option maxHeartbeats 800000 in
/-- slices.Clone of bytes -/
theorem clone (v : Value) (l : List UInt8) (w : World) (h : Sl w 1 v l.length (bv l)) (hl : l.length ≤ 1000000000) :
    Calls Try.prog 32 #[v] w fun e w' => ∃ v', e = .returned v' ∧ w'.ownsRow w.heap.size bt 1 v' l.length (bv l) ∧ K0 w w' := by
  obtain ⟨p, cap, rfl⟩ := h.shape'
  refine H.enter Try.func32 Try.ntmps32 rfl rfl ?_; dsimp only [H.args]
  repeat' (first | (refine CL.seq ?_) | (refine CL.region ?_) | (refine CL.skip ?_) | (refine CL.condP rfl (fun _ => ?_) (fun _ => ?_) <;> try (exfalso; omega)) | (refine CL.condT rfl ?_) | (refine CL.condF rfl ?_) | (refine CL.cond rfl (fun _ => ?_) (fun _ => ?_)) | (refine CL.block ?_) | (refine CL.exit ?_) | (refine Ex.then ?_) | (refine Ex.hit ?_) | (refine Ex.miss rfl ?_) | (refine CL.ret ?_) | (refine Rt.then ?_) | (refine Rt.block ?_) | (refine Pn.then ?_) | (refine Pn.block ?_) | (refine CL.done ?_) | (refine Nm.block ?_) | (refine Nm.then ?_) | (refine Gt.nil ?_; refine RW.nilw [0, 2, 4] ?_; dsimp only [H.keep, H.look, H.Fr.put, Nat.beq]) | (refine RW.y (Y.eqsn rfl rfl) rfl ?_) | (refine Gt.assign ?_; refine RW.y (Y.assign rfl) rfl ?_) | (refine Gt.move ?_; refine RW.y (Y.move rfl) rfl ?_) | (refine Gt.eql ?_; first | (refine RW.y (Y.eqi rfl rfl) rfl ?_) | (refine RW.y (Y.eqs rfl rfl) rfl ?_) | (refine RW.y (Y.eqb rfl rfl) rfl ?_) | (refine RW.y (Y.eqpn rfl rfl) rfl ?_)))
  · cases p with
    | some a => rename_i hc; cases hc
    | none =>
      have hl0 : l = [] := by
        rcases h.2.2 with ⟨_, _, h2⟩ | ⟨g, off, cp, cur, e, fz, h1, _⟩
        · exact List.eq_nil_of_length_eq_zero h2
        · cases h1
      subst hl0
      rcases h.2.2 with ⟨_, h1, _⟩ | ⟨g, off, cp, cur, e, fz, h1, _⟩
      · exact FQ.one rfl rfl rfl ⟨_, rfl, World.ownsRow_nil _ _ _ _, Kept.refl _ _⟩
      · cases h1
  · refine RW.build0 rfl (fun w1 hb1 hk1 hlt1 => ?_)
    repeat' (first | (refine CL.seq ?_) | (refine CL.region ?_) | (refine CL.skip ?_) | (refine CL.condP rfl (fun _ => ?_) (fun _ => ?_) <;> try (exfalso; omega)) | (refine CL.condT rfl ?_) | (refine CL.condF rfl ?_) | (refine CL.cond rfl (fun _ => ?_) (fun _ => ?_)) | (refine CL.block ?_) | (refine CL.exit ?_) | (refine Ex.then ?_) | (refine Ex.hit ?_) | (refine Ex.miss rfl ?_) | (refine CL.ret ?_) | (refine Rt.then ?_) | (refine Rt.block ?_) | (refine Pn.then ?_) | (refine Pn.block ?_) | (refine CL.done ?_) | (refine Nm.block ?_) | (refine Nm.then ?_) | (refine Gt.nil ?_; refine RW.nilw [0, 2, 4] ?_; dsimp only [H.keep, H.look, H.Fr.put, Nat.beq]) | (refine Gt.assign ?_; refine RW.y (Y.assign rfl) rfl ?_) | (refine Gt.move ?_; refine RW.y (Y.move rfl) rfl ?_) | (refine Gt.eql ?_; first | (refine RW.y (Y.eqi rfl rfl) rfl ?_) | (refine RW.y (Y.eqs rfl rfl) rfl ?_) | (refine RW.y (Y.eqb rfl rfl) rfl ?_) | (refine RW.y (Y.eqpn rfl rfl) rfl ?_)))
    have how := own_new (sz := 1) (n := 0) (base := w.heap.size) hb1 (Nat.le_refl _) rfl (by simp)
    refine RW.app rfl rfl rfl (by rfl) (by rfl) how (h.keep0 hk1) (bv_one l) (by omega) (by omega) (by omega) (fun v' w2 how' hk' hl' => ?_)
    repeat' (first | (refine CL.seq ?_) | (refine CL.region ?_) | (refine CL.skip ?_) | (refine CL.condP rfl (fun _ => ?_) (fun _ => ?_) <;> try (exfalso; omega)) | (refine CL.condT rfl ?_) | (refine CL.condF rfl ?_) | (refine CL.cond rfl (fun _ => ?_) (fun _ => ?_)) | (refine CL.block ?_) | (refine CL.exit ?_) | (refine Ex.then ?_) | (refine Ex.hit ?_) | (refine Ex.miss rfl ?_) | (refine CL.ret ?_) | (refine Rt.then ?_) | (refine Rt.block ?_) | (refine Pn.then ?_) | (refine Pn.block ?_) | (refine CL.done ?_) | (refine Nm.block ?_) | (refine Nm.then ?_) | (refine Gt.nil ?_; refine RW.nilw [0, 2, 4] ?_; dsimp only [H.keep, H.look, H.Fr.put, Nat.beq]) | (refine Gt.assign ?_; refine RW.y (Y.assign rfl) rfl ?_) | (refine Gt.move ?_; refine RW.y (Y.move rfl) rfl ?_) | (refine Gt.eql ?_; first | (refine RW.y (Y.eqi rfl rfl) rfl ?_) | (refine RW.y (Y.eqs rfl rfl) rfl ?_) | (refine RW.y (Y.eqb rfl rfl) rfl ?_) | (refine RW.y (Y.eqpn rfl rfl) rfl ?_)))
    simp only [Nat.zero_add, List.nil_append] at how'
    exact FQ.one rfl rfl rfl ⟨_, rfl, how', hk1.trans hk' fun k hk => by simp only [Value.ownBlock, Option.some.injEq] at hk; right; omega⟩

/-- NewWriter -/
theorem newWriter (w : World) : Calls Try.prog 10 #[] w fun e w' => ∃ b, e = .returned (.pointer (some ⟨b, 0, none⟩)) ∧ Wr w' (fun k => k = b) b [] ∧ b = w.heap.size ∧ K0 w w' := by
  refine H.enter Try.func10 Try.ntmps10 rfl rfl ?_; dsimp only [H.args]
  repeat' (first | (refine CL.seq ?_) | (refine CL.region ?_) | (refine CL.skip ?_) | (refine CL.condP rfl (fun _ => ?_) (fun _ => ?_) <;> try (exfalso; omega)) | (refine CL.condT rfl ?_) | (refine CL.condF rfl ?_) | (refine CL.cond rfl (fun _ => ?_) (fun _ => ?_)) | (refine CL.block ?_) | (refine CL.exit ?_) | (refine Ex.then ?_) | (refine Ex.hit ?_) | (refine Ex.miss rfl ?_) | (refine CL.ret ?_) | (refine Rt.then ?_) | (refine Rt.block ?_) | (refine Pn.then ?_) | (refine Pn.block ?_) | (refine CL.done ?_) | (refine Nm.block ?_) | (refine Nm.then ?_) | (refine Gt.nil ?_; refine RW.nilw [0] ?_; dsimp only [H.keep, H.look, H.Fr.put, Nat.beq]) | (refine RW.y (Y.build (ps := []) rfl rfl) rfl ?_) | (refine Gt.assign ?_; refine RW.y (Y.assign rfl) rfl ?_))
  refine RW.box rfl rfl (fun w1 hb hk hlt => ?_)
  repeat' (first | (refine CL.seq ?_) | (refine CL.region ?_) | (refine CL.skip ?_) | (refine CL.condP rfl (fun _ => ?_) (fun _ => ?_) <;> try (exfalso; omega)) | (refine CL.condT rfl ?_) | (refine CL.condF rfl ?_) | (refine CL.cond rfl (fun _ => ?_) (fun _ => ?_)) | (refine CL.block ?_) | (refine CL.exit ?_) | (refine Ex.then ?_) | (refine Ex.hit ?_) | (refine Ex.miss rfl ?_) | (refine CL.ret ?_) | (refine Rt.then ?_) | (refine Rt.block ?_) | (refine Pn.then ?_) | (refine Pn.block ?_) | (refine CL.done ?_) | (refine Nm.block ?_) | (refine Nm.then ?_) | (refine Gt.nil ?_; refine RW.nilw [0] ?_; dsimp only [H.keep, H.look, H.Fr.put, Nat.beq]) | (refine Gt.assign ?_; refine RW.y (Y.assign rfl) rfl ?_))
  exact FQ.one rfl rfl rfl ⟨_, rfl, ⟨⟨_, _, hb, World.ownsRow_nil _ _ _ _, fun g hg => by cases hg⟩, rfl, fun k hk => by omega⟩, rfl, hk⟩

set_option maxHeartbeats 400000 in
/-- (*Writer).Bytes -/
theorem wrBytes (b : Nat) (l : List UInt8) (w : World) (F : Nat → Prop) (hW : Wr w F b l) (hl : l.length ≤ 1000000) :
    Calls Try.prog 13 #[.pointer (some ⟨b, 0, none⟩)] w fun e w' => ∃ v, e = .returned v ∧ w'.ownsRow w.heap.size bt 1 v l.length (bv l) ∧ K0 w w' := by
  obtain ⟨⟨v, e, hb, how, hv⟩, hFb, hFlt⟩ := hW
  refine H.enter Try.func13 Try.ntmps13 rfl rfl ?_; dsimp only [H.args]
  repeat' (first | (refine CL.seq ?_) | (refine CL.region ?_) | (refine CL.skip ?_) | (refine CL.condP rfl (fun _ => ?_) (fun _ => ?_) <;> try (exfalso; omega)) | (refine CL.condT rfl ?_) | (refine CL.condF rfl ?_) | (refine CL.cond rfl (fun _ => ?_) (fun _ => ?_)) | (refine CL.block ?_) | (refine CL.exit ?_) | (refine Ex.then ?_) | (refine Ex.hit ?_) | (refine Ex.miss rfl ?_) | (refine CL.ret ?_) | (refine Rt.then ?_) | (refine Rt.block ?_) | (refine Pn.then ?_) | (refine Pn.block ?_) | (refine CL.done ?_) | (refine Nm.block ?_) | (refine Nm.then ?_) | (refine Gt.nil ?_; refine RW.nilw [0, 2] ?_; dsimp only [H.keep, H.look, H.Fr.put, Nat.beq]) | (refine Gt.assign ?_; refine RW.y (Y.assign rfl) rfl ?_) | (refine Gt.move ?_; refine RW.y (Y.move rfl) rfl ?_) | (refine Gt.nilck ?_; refine RW.y (Y.nilck rfl) rfl ?_) | (refine Gt.fieldAddr ?_; refine RW.y (Y.fieldAddr rfl (by rfl)) rfl ?_) | (refine Gt.load ?_; refine RW.y (Y.loadB rfl (by assumption) rfl) rfl ?_))
  refine RW.fn rfl rfl ((clone v l w (Sl.of_own how) (by omega)).mono ?_)
  rintro e w1 ⟨v1, rfl, how1, hk1⟩
  repeat' (first | (refine CL.seq ?_) | (refine CL.region ?_) | (refine CL.skip ?_) | (refine CL.condP rfl (fun _ => ?_) (fun _ => ?_) <;> try (exfalso; omega)) | (refine CL.condT rfl ?_) | (refine CL.condF rfl ?_) | (refine CL.cond rfl (fun _ => ?_) (fun _ => ?_)) | (refine CL.block ?_) | (refine CL.exit ?_) | (refine Ex.then ?_) | (refine Ex.hit ?_) | (refine Ex.miss rfl ?_) | (refine CL.ret ?_) | (refine Rt.then ?_) | (refine Rt.block ?_) | (refine Pn.then ?_) | (refine Pn.block ?_) | (refine CL.done ?_) | (refine Nm.block ?_) | (refine Nm.then ?_) | (refine Gt.nil ?_; refine RW.nilw [0, 2] ?_; dsimp only [H.keep, H.look, H.Fr.put, Nat.beq]) | (refine Gt.assign ?_; refine RW.y (Y.assign rfl) rfl ?_) | (refine Gt.move ?_; refine RW.y (Y.move rfl) rfl ?_) | (refine Gt.nilck ?_; refine RW.y (Y.nilck rfl) rfl ?_) | (refine Gt.fieldAddr ?_; refine RW.y (Y.fieldAddr rfl (by rfl)) rfl ?_) | (refine Gt.load ?_; refine RW.y (Y.loadB rfl (by assumption) rfl) rfl ?_))
  exact FQ.one rfl rfl rfl ⟨_, rfl, how1, hk1⟩

set_option maxHeartbeats 400000 in
theorem refInt (v : Value) (xs : List UInt8) (n : Int) (h1 : -9223372036854775808 ≤ n) (h2 : n ≤ 9223372036854775807) (w : World) (base : Nat) (hb : base ≤ w.heap.size)
   (hown : w.ownsRow base bt 1 v xs.length (bv xs)) (hl : xs.length ≤ 1000000000) :
    Calls Try.prog 37 #[v, .int .i64 n] w fun e w' => ∃ v', e = .returned v' ∧ w'.ownsRow base bt 1 v' (xs ++ numL (zz n)).length (bv (xs ++ numL (zz n))) ∧ Kept (fun k => v.ownBlock = some k) w w' ∧ Lies w v v' := by
  have hz := zz_lt h1 h2
  refine H.enter Try.func37 Try.ntmps37 rfl rfl ?_; dsimp only [H.args]
  repeat' (first | (refine CL.seq ?_) | (refine CL.region ?_) | (refine CL.skip ?_) | (refine CL.condP rfl (fun _ => ?_) (fun _ => ?_) <;> try (exfalso; omega)) | (refine CL.condT rfl ?_) | (refine CL.condF rfl ?_) | (refine CL.cond rfl (fun _ => ?_) (fun _ => ?_)) | (refine CL.block ?_) | (refine CL.exit ?_) | (refine Ex.then ?_) | (refine Ex.hit ?_) | (refine Ex.miss rfl ?_) | (refine CL.ret ?_) | (refine Rt.then ?_) | (refine Rt.block ?_) | (refine Pn.then ?_) | (refine Pn.block ?_) | (refine CL.done ?_) | (refine Nm.block ?_) | (refine Nm.then ?_) | (refine Gt.nil ?_; refine RW.nilw [0, 1, 4, 6] ?_; dsimp only [H.keep, H.look, H.Fr.put, Nat.beq]) | (refine Gt.move ?_; refine RW.y (Y.move rfl) rfl ?_) | (refine Gt.assign ?_; refine RW.y (Y.assign rfl) rfl ?_) | (refine Gt.convert ?_; first | (refine RW.y (Y.convN rfl (by first | exact wrap64_id (by omega) (by omega) | exact wrapu64_id (by omega) (by omega))) rfl ?_) | (refine RW.y (Y.convW rfl) rfl ?_)) | (refine Gt.mul ?_; first | (refine RW.y (Y.mul64 rfl rfl (by omega) (by omega)) rfl ?_) | (refine RW.y (Y.mulu rfl rfl (by omega) (by omega)) rfl ?_)) | (refine Gt.lss ?_; refine RW.y (Y.lss rfl rfl) rfl ?_) | (refine Gt.add ?_; first | (refine RW.y (Y.add64 rfl rfl (by omega) (by omega)) rfl ?_) | (refine RW.y (Y.addu rfl rfl (by omega) (by omega)) rfl ?_)) | (refine Gt.neg ?_; first | (refine RW.y (Y.neg64 rfl (by omega) (by omega)) rfl ?_) | (refine RW.y (Y.neg rfl) rfl ?_)))
  all_goals
    first
      | rw [show (0 - (n + 1)) * 2 + 1 = ((zz n : Nat) : Int) from by unfold zz; split <;> omega]
      | rw [show n * 2 = ((zz n : Nat) : Int) from by unfold zz; split <;> omega]
    refine RW.fn rfl rfl ((refNum v xs (zz n) hz w base hb hown hl).mono ?_)
    rintro e w1 ⟨v1, rfl, how1, hk1, hl1⟩
    repeat' (first | (refine CL.seq ?_) | (refine CL.region ?_) | (refine CL.skip ?_) | (refine CL.condP rfl (fun _ => ?_) (fun _ => ?_) <;> try (exfalso; omega)) | (refine CL.condT rfl ?_) | (refine CL.condF rfl ?_) | (refine CL.cond rfl (fun _ => ?_) (fun _ => ?_)) | (refine CL.block ?_) | (refine CL.exit ?_) | (refine Ex.then ?_) | (refine Ex.hit ?_) | (refine Ex.miss rfl ?_) | (refine CL.ret ?_) | (refine Rt.then ?_) | (refine Rt.block ?_) | (refine Pn.then ?_) | (refine Pn.block ?_) | (refine CL.done ?_) | (refine Nm.block ?_) | (refine Nm.then ?_) | (refine Gt.nil ?_; refine RW.nilw [0, 1, 4, 6] ?_; dsimp only [H.keep, H.look, H.Fr.put, Nat.beq]) | (refine Gt.move ?_; refine RW.y (Y.move rfl) rfl ?_) | (refine Gt.assign ?_; refine RW.y (Y.assign rfl) rfl ?_) | (refine Gt.convert ?_; first | (refine RW.y (Y.convN rfl (by first | exact wrap64_id (by omega) (by omega) | exact wrapu64_id (by omega) (by omega))) rfl ?_) | (refine RW.y (Y.convW rfl) rfl ?_)) | (refine Gt.mul ?_; first | (refine RW.y (Y.mul64 rfl rfl (by omega) (by omega)) rfl ?_) | (refine RW.y (Y.mulu rfl rfl (by omega) (by omega)) rfl ?_)) | (refine Gt.lss ?_; refine RW.y (Y.lss rfl rfl) rfl ?_) | (refine Gt.add ?_; first | (refine RW.y (Y.add64 rfl rfl (by omega) (by omega)) rfl ?_) | (refine RW.y (Y.addu rfl rfl (by omega) (by omega)) rfl ?_)) | (refine Gt.neg ?_; first | (refine RW.y (Y.neg64 rfl (by omega) (by omega)) rfl ?_) | (refine RW.y (Y.neg rfl) rfl ?_)))
    exact FQ.one rfl rfl rfl ⟨_, rfl, how1, hk1, hl1⟩

set_option maxHeartbeats 400000 in
theorem refText (v : Value) (xs s : List UInt8) (w : World) (base : Nat) (hb : base ≤ w.heap.size) (hown : w.ownsRow base bt 1 v xs.length (bv xs)) (hl : xs.length ≤ 1000000) (hs : s.length ≤ 1000000) :
    Calls Try.prog 23 #[v, vs s] w fun e w' => ∃ v', e = .returned v' ∧ w'.ownsRow base bt 1 v' (xs ++ textL s).length (bv (xs ++ textL s)) ∧ Kept (fun k => v.ownBlock = some k) w w' ∧ Lies w v v' := by
  have hzl : (numL s.length).length ≤ 10 := numL_len10 (by omega)
  refine H.enter Try.func23 Try.ntmps23 rfl rfl ?_; dsimp only [H.args]
  repeat' (first | (refine CL.seq ?_) | (refine CL.region ?_) | (refine CL.skip ?_) | (refine CL.condP rfl (fun _ => ?_) (fun _ => ?_) <;> try (exfalso; omega)) | (refine CL.condT rfl ?_) | (refine CL.condF rfl ?_) | (refine CL.cond rfl (fun _ => ?_) (fun _ => ?_)) | (refine CL.block ?_) | (refine CL.exit ?_) | (refine Ex.then ?_) | (refine Ex.hit ?_) | (refine Ex.miss rfl ?_) | (refine CL.ret ?_) | (refine Rt.then ?_) | (refine Rt.block ?_) | (refine Pn.then ?_) | (refine Pn.block ?_) | (refine CL.done ?_) | (refine Nm.block ?_) | (refine Nm.then ?_) | (refine Gt.nil ?_; refine RW.nilw [0, 1, 4] ?_; dsimp only [H.keep, H.look, H.Fr.put, Nat.beq]) | (refine Gt.move ?_; refine RW.y (Y.move rfl) rfl ?_) | (refine Gt.assign ?_; refine RW.y (Y.assign rfl) rfl ?_) | (refine Gt.len ?_; refine RW.y (Y.lens rfl) rfl ?_) | (refine Gt.convert ?_; first | (refine RW.y (Y.convN rfl (by first | exact wrap64_id (by omega) (by omega) | exact wrapu64_id (by omega) (by omega))) rfl ?_) | (refine RW.y (Y.convW rfl) rfl ?_)))
  refine RW.fn rfl rfl ((refNum v xs s.length (by omega) w base hb hown (by omega)).mono ?_)
  rintro e w1 ⟨v1, rfl, how1, hk1, hl1⟩
  have hsz := hk1.size
  repeat' (first | (refine CL.seq ?_) | (refine CL.region ?_) | (refine CL.skip ?_) | (refine CL.condP rfl (fun _ => ?_) (fun _ => ?_) <;> try (exfalso; omega)) | (refine CL.condT rfl ?_) | (refine CL.condF rfl ?_) | (refine CL.cond rfl (fun _ => ?_) (fun _ => ?_)) | (refine CL.block ?_) | (refine CL.exit ?_) | (refine Ex.then ?_) | (refine Ex.hit ?_) | (refine Ex.miss rfl ?_) | (refine CL.ret ?_) | (refine Rt.then ?_) | (refine Rt.block ?_) | (refine Pn.then ?_) | (refine Pn.block ?_) | (refine CL.done ?_) | (refine Nm.block ?_) | (refine Nm.then ?_) | (refine Gt.nil ?_; refine RW.nilw [0, 1, 4] ?_; dsimp only [H.keep, H.look, H.Fr.put, Nat.beq]) | (refine Gt.move ?_; refine RW.y (Y.move rfl) rfl ?_) | (refine Gt.assign ?_; refine RW.y (Y.assign rfl) rfl ?_) | (refine Gt.len ?_; refine RW.y (Y.lens rfl) rfl ?_) | (refine Gt.convert ?_; first | (refine RW.y (Y.convN rfl (by first | exact wrap64_id (by omega) (by omega) | exact wrapu64_id (by omega) (by omega))) rfl ?_) | (refine RW.y (Y.convW rfl) rfl ?_)))
  refine RW.apps rfl rfl rfl how1 (by rw [List.length_append]; omega) (by omega) (fun v' w4 how' hk' hl' => ?_)
  repeat' (first | (refine CL.seq ?_) | (refine CL.region ?_) | (refine CL.skip ?_) | (refine CL.condP rfl (fun _ => ?_) (fun _ => ?_) <;> try (exfalso; omega)) | (refine CL.condT rfl ?_) | (refine CL.condF rfl ?_) | (refine CL.cond rfl (fun _ => ?_) (fun _ => ?_)) | (refine CL.block ?_) | (refine CL.exit ?_) | (refine Ex.then ?_) | (refine Ex.hit ?_) | (refine Ex.miss rfl ?_) | (refine CL.ret ?_) | (refine Rt.then ?_) | (refine Rt.block ?_) | (refine Pn.then ?_) | (refine Pn.block ?_) | (refine CL.done ?_) | (refine Nm.block ?_) | (refine Nm.then ?_) | (refine Gt.nil ?_; refine RW.nilw [0, 1, 4] ?_; dsimp only [H.keep, H.look, H.Fr.put, Nat.beq]) | (refine Gt.move ?_; refine RW.y (Y.move rfl) rfl ?_) | (refine Gt.assign ?_; refine RW.y (Y.assign rfl) rfl ?_) | (refine Gt.len ?_; refine RW.y (Y.lens rfl) rfl ?_) | (refine Gt.convert ?_; first | (refine RW.y (Y.convN rfl (by first | exact wrap64_id (by omega) (by omega) | exact wrapu64_id (by omega) (by omega))) rfl ?_) | (refine RW.y (Y.convW rfl) rfl ?_)))
  refine FQ.one rfl rfl rfl ⟨_, rfl, ?_, hk1.trans hk' hl1, fun g hg => ?_⟩
  · rw [textL, ← List.append_assoc, List.length_append, bv, List.map_append]; exact how'
  · rcases hl' g hg with h | h
    · exact hl1 g h
    · right; omega

set_option maxHeartbeats 400000 in
theorem refBool (v : Value) (xs : List UInt8) (x : Bool) (w : World) (base : Nat) (hb : base ≤ w.heap.size) (hown : w.ownsRow base bt 1 v xs.length (bv xs)) (hl : xs.length ≤ 1000000) :
    Calls Try.prog 38 #[v, .bool x] w fun e w' => ∃ v', e = .returned v' ∧ w'.ownsRow base bt 1 v' (xs ++ boolL x).length (bv (xs ++ boolL x)) ∧ Kept (fun k => v.ownBlock = some k) w w' ∧ Lies w v v' := by
  rw [boolL_one]
  refine H.enter Try.func38 Try.ntmps38 rfl rfl ?_; dsimp only [H.args]
  repeat' (first | (refine CL.seq ?_) | (refine CL.region ?_) | (refine CL.skip ?_) | (refine CL.condP rfl (fun _ => ?_) (fun _ => ?_) <;> try (exfalso; omega)) | (refine CL.condT rfl ?_) | (refine CL.condF rfl ?_) | (refine CL.cond rfl (fun _ => ?_) (fun _ => ?_)) | (refine CL.block ?_) | (refine CL.exit ?_) | (refine Ex.then ?_) | (refine Ex.hit ?_) | (refine Ex.miss rfl ?_) | (refine CL.ret ?_) | (refine Rt.then ?_) | (refine Rt.block ?_) | (refine Pn.then ?_) | (refine Pn.block ?_) | (refine CL.done ?_) | (refine Nm.block ?_) | (refine Nm.then ?_) | (refine Gt.nil ?_; refine RW.nilw [0, 1, 4, 5] ?_; dsimp only [H.keep, H.look, H.Fr.put, Nat.beq]) | (refine Gt.assign ?_; refine RW.y (Y.assign rfl) rfl ?_) | (refine Gt.move ?_; refine RW.y (Y.move rfl) rfl ?_))
  all_goals
    rename_i hx
    subst hx
    refine RW.app1 rfl rfl rfl rfl hown rfl rfl rfl rfl one_byte (by omega) (by omega) (by omega) (fun u' w1 how' hk' hl' => ?_)
    repeat' (first | (refine CL.seq ?_) | (refine CL.region ?_) | (refine CL.skip ?_) | (refine CL.condP rfl (fun _ => ?_) (fun _ => ?_) <;> try (exfalso; omega)) | (refine CL.condT rfl ?_) | (refine CL.condF rfl ?_) | (refine CL.cond rfl (fun _ => ?_) (fun _ => ?_)) | (refine CL.block ?_) | (refine CL.exit ?_) | (refine Ex.then ?_) | (refine Ex.hit ?_) | (refine Ex.miss rfl ?_) | (refine CL.ret ?_) | (refine Rt.then ?_) | (refine Rt.block ?_) | (refine Pn.then ?_) | (refine Pn.block ?_) | (refine CL.done ?_) | (refine Nm.block ?_) | (refine Nm.then ?_) | (refine Gt.nil ?_; refine RW.nilw [0, 1, 4, 5] ?_; dsimp only [H.keep, H.look, H.Fr.put, Nat.beq]) | (refine Gt.assign ?_; refine RW.y (Y.assign rfl) rfl ?_) | (refine Gt.move ?_; refine RW.y (Y.move rfl) rfl ?_))
    exact FQ.one rfl rfl rfl ⟨_, rfl, own_snoc how', hk', hl'⟩
end Go.Proofs.Ytblbibdjddmfiaa.Co
