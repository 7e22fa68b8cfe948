/-
  strings.Split at one byte. strings.FieldsFunc at a space; strings.Index, SplitSeq at two bars. Versions, walked: digits, numbers, marks; the reference's. Versions, walked: the reference's split, digits, numbers, marks. Versions, walked: Parse. Versions, walked: the reference's VersionOf. Versions, walked: their order. Versions, walked: Cmp, the program's. Versions, walked: Cmp, the reference's. strings.Join, by the shelf's contract. Versions, walked: their texts.
-/
import Derived.Test.YtjfdhafmbcppjaaGreatDoorQb
import Derived.Test.YtjfdhafmbcppjaaGreatDoorQa
import Derived.Shelf.Strings.FieldsFuncAny
set_option linter.unusedVariables false
namespace Go.Proofs.YtjfdhafmbcppjaaGreatDoor.S
open Go.RowKit H
attribute [local irreducible] H.CL H.RW H.CW H.Yd H.thenK H.blockQ Go.Calls

abbrev strT : TypeId := 9
theorem set_rep (done : List (List UInt8)) (x : List UInt8) (k : Nat) : (sv done ++ List.replicate (k + 1) (vs [])).set done.length (vs x) = sv (done ++ [x]) ++ List.replicate k (vs []) := by
  rw [List.set_append_right _ _ (by simp)]
  simp [List.replicate_succ]

set_option maxHeartbeats 1000000 in
theorem genSplit (l : List UInt8) (c : UInt8) (hl : l.length ≤ 1000000) (w : World) : Calls Tryz.prog 103 #[vs l, vs [c], .int .i64 0, .int .i64 (-1)] w fun e w' => ∃ v', e = .returned v' ∧ w'.ownsRow w.heap.size strT 1 v' (splitB c l).length (sv (splitB c l)) ∧ K0 w w' := by
  have hcl : l.count c ≤ l.length := List.count_le_length
  have hmin : min ((l.count c : Int) + 1) ((l.length : Int) + 1) = ((l.count c + 1 : Nat) : Int) := by omega
  have hlen := splitB_len c l
  refine H.enter Tryz.func103 Tryz.ntmps103 rfl rfl ?_; dsimp only [H.args]
  repeat' (first | (refine CL.seq ?_) | (refine CL.region ?_) | (refine CL.skip ?_) | (refine CL.condP rfl (fun _ => ?_) (fun _ => ?_) <;> try (exfalso; omega)) | (refine Gt.nil ?_; refine RW.nilw [0, 1, 2, 3, 8, 9, 10, 11, 13, 15, 20, 36, 41] ?_; dsimp only [H.keep, H.look, H.Fr.put, Nat.beq]) | (refine Gt.move ?_; refine RW.y (Y.move rfl) rfl ?_) | (refine Gt.assign ?_; refine RW.y (Y.assign rfl) rfl ?_) | (refine Gt.lss ?_; refine RW.y (Y.lss rfl rfl) rfl ?_) | (refine Gt.eql ?_; first | (refine RW.y (Y.eqi rfl rfl) rfl ?_) | (refine RW.y (Y.eqs rfl rfl) rfl ?_)))
  · rename_i h; cases h
  refine RW.fn rfl rfl ((count l c w).mono ?_)
  rintro e w1 ⟨rfl, rfl⟩
  repeat' (first | (refine CL.seq ?_) | (refine CL.region ?_) | (refine Gt.nil ?_; refine RW.nilw [0, 1, 2, 3, 8, 9, 10, 11, 13, 15, 20, 36, 41] ?_; dsimp only [H.keep, H.look, H.Fr.put, Nat.beq]) | (refine Gt.move ?_; refine RW.y (Y.move rfl) rfl ?_) | (refine Gt.assign ?_; refine RW.y (Y.assign rfl) rfl ?_) | (refine Gt.add ?_; refine RW.y (Y.add64 rfl rfl (by omega) (by omega)) rfl ?_) | (refine Gt.len ?_; refine RW.y (Y.lens rfl) rfl ?_) | (refine Gt.call ?_; refine RW.y (Y.min2 rfl rfl) rfl ?_))
  rw [hmin]
  refine RW.make1 rfl rfl rfl rfl (by omega) (by omega) (fun v1 w1 how1 hk1 => ?_)
  repeat' (first | (refine CL.seq ?_) | (refine CL.region ?_) | (refine CL.block ?_) | (refine Gt.nil ?_; refine RW.nilw [0, 1, 2, 3, 8, 9, 10, 11, 13, 15, 20, 36, 41] ?_; dsimp only [H.keep, H.look, H.Fr.put, Nat.beq]) | (refine Gt.move ?_; refine RW.y (Y.move rfl) rfl ?_) | (refine Gt.assign ?_; refine RW.y (Y.assign rfl) rfl ?_) | (refine Gt.sub ?_; refine RW.y (Y.sub64 rfl rfl (by omega) (by omega)) rfl ?_))
  refine CL.loopS [0, 1, 2, 3, 9, 10] (fun m vals wr => ∃ (i : Nat) (done : List (List UInt8)) (rest : List UInt8), vals = [vs rest, vs [c], .int .i64 0, .int .i64 (l.count c : Int), v1, .int .i64 (i : Int)] ∧ m = l.count c - i ∧ rest.count c + i = l.count c ∧ splitB c l = done ++ splitB c rest ∧ done.length = i ∧ rest.length ≤ l.length ∧ wr.ownsRow w.heap.size strT 1 v1 (l.count c + 1) (sv done ++ List.replicate (l.count c - i + 1) (vs [])) ∧ K0 w wr) (l.count c) ⟨_, rfl, 0, [], l, by simp, rfl, rfl, rfl, rfl, Nat.le_refl _, by simpa using how1, hk1⟩ ?_
  rintro m vals wr ⟨i, done, rest, rfl, rfl, hcnt, hsp, hdl, hrl, how, hk⟩
  dsimp only [List.zip, List.zipWith]
  rcases split_idx c rest with ⟨hi, h0, hs⟩ | ⟨m, hi, hm, h0, hs⟩
  · have hin : i = l.count c := by omega
    subst hin
    repeat' (first | (refine CL.seq ?_) | (refine CL.region ?_) | (refine CL.condP rfl (fun _ => ?_) (fun _ => ?_) <;> try (exfalso; omega)) | (refine CL.exit ?_) | (refine Ex.then ?_) | (refine Ex.hit ?_) | (refine Gt.nil ?_; refine RW.nilw [0, 1, 2, 3, 8, 9, 10, 11, 13, 15, 20, 36, 41] ?_; dsimp only [H.keep, H.look, H.Fr.put, Nat.beq]) | (refine Gt.move ?_; refine RW.y (Y.move rfl) rfl ?_) | (refine Gt.lss ?_; refine RW.y (Y.lss rfl rfl) rfl ?_))
    refine RW.setEl rfl rfl rfl how (by omega) (by omega) (fun _ => rfl) rfl (fun p w2 how2 hk2 => ?_)
    have hx : (sv done ++ List.replicate (l.count c - l.count c + 1) (vs [])).set ((l.count c : Int)).toNat (vs rest) = sv (splitB c l) := by
      rw [Int.toNat_natCast, ← hdl, set_rep, hsp, hs]
      simp
    rw [hx] at how2
    repeat' (first | (refine CL.seq ?_) | (refine CL.region ?_) | (refine Gt.nil ?_; refine RW.nilw [0, 1, 2, 3, 8, 9, 10, 11, 13, 15, 20, 36, 41] ?_; dsimp only [H.keep, H.look, H.Fr.put, Nat.beq]) | (refine Gt.move ?_; refine RW.y (Y.move rfl) rfl ?_) | (refine Gt.add ?_; refine RW.y (Y.add64 rfl rfl (by omega) (by omega)) rfl ?_))
    refine RW.ownh rfl rfl rfl how2 (by omega) (by omega) (fun v3 how3 hb3 => ?_)
    have hn : (((l.count c : Int)) + 1).toNat = l.count c + 1 := by omega
    rw [hn, Nat.mul_one, ← hlen, List.take_of_length_le (by simp)] at how3
    repeat' (first | (refine CL.ret ?_) | (refine Gt.nil ?_; refine RW.nilw [0, 1, 2, 3, 8, 9, 10, 11, 13, 15, 20, 36, 41] ?_; dsimp only [H.keep, H.look, H.Fr.put, Nat.beq]) | (refine Gt.assign ?_; refine RW.y (Y.assign rfl) rfl ?_))
    exact FQ.one rfl rfl rfl ⟨v3, rfl, how3, hk.trans hk2 fun k h => .inr (how.lt k h).1⟩
  · repeat' (first | (refine CL.seq ?_) | (refine CL.region ?_) | (refine CL.skip ?_) | (refine CL.condP rfl (fun _ => ?_) (fun _ => ?_) <;> try (exfalso; omega)) | (refine CL.block ?_) | (refine Gt.nil ?_; refine RW.nilw [0, 1, 2, 3, 8, 9, 10, 11, 13, 15, 20, 36, 41] ?_; dsimp only [H.keep, H.look, H.Fr.put, Nat.beq]) | (refine Gt.move ?_; refine RW.y (Y.move rfl) rfl ?_) | (refine Gt.lss ?_; refine RW.y (Y.lss rfl rfl) rfl ?_))
    refine RW.fn rfl rfl ((index rest c wr).mono ?_)
    rintro e w2 ⟨rfl, rfl⟩
    rw [show idx c rest = (m : Int) from hi]
    have h1 : ([c] : List UInt8).length = 1 := rfl
    repeat' (first | (refine CL.seq ?_) | (refine CL.region ?_) | (refine CL.skip ?_) | (refine CL.condP rfl (fun _ => ?_) (fun _ => ?_) <;> try (exfalso; omega)) | (refine Gt.nil ?_; refine RW.nilw [0, 1, 2, 3, 8, 9, 10, 11, 13, 15, 20, 36, 41] ?_; dsimp only [H.keep, H.look, H.Fr.put, Nat.beq]) | (refine Gt.move ?_; refine RW.y (Y.move rfl) rfl ?_) | (refine Gt.assign ?_; refine RW.y (Y.assign rfl) rfl ?_) | (refine Gt.add ?_; refine RW.y (Y.add64 rfl rfl (by omega) (by omega)) rfl ?_) | (refine Gt.lss ?_; refine RW.y (Y.lss rfl rfl) rfl ?_) | (refine Gt.slice ?_; (refine RW.y (Y.cuth rfl rfl (by omega) (by omega)) rfl ?_)))
    refine RW.setEl rfl rfl rfl how (by omega) (by omega) (fun _ => rfl) rfl (fun p w3 how3 hk3 => ?_)
    repeat' (first | (refine CL.seq ?_) | (refine CL.region ?_) | (refine CL.done ?_) | (refine Nm.block ?_) | (refine Nm.then ?_) | (refine Gt.nil ?_; refine RW.nilw [0, 1, 2, 3, 8, 9, 10, 11, 13, 15, 20, 36, 41] ?_; dsimp only [H.keep, H.look, H.Fr.put, Nat.beq]) | (refine Gt.move ?_; refine RW.y (Y.move rfl) rfl ?_) | (refine Gt.assign ?_; refine RW.y (Y.assign rfl) rfl ?_) | (refine Gt.add ?_; refine RW.y (Y.add64 rfl rfl (by omega) (by omega)) rfl ?_) | (refine Gt.len ?_; refine RW.y (Y.lens rfl) rfl ?_) | (refine Gt.slice ?_; (refine RW.y (Y.cutl rfl rfl (by omega) (by omega)) rfl ?_)))
    have hn1 : ((m : Int) + 0).toNat = m := by omega
    have hn2 : ((m : Int) + (([c] : List UInt8).length : Int)).toNat = m + 1 := by rw [h1]; omega
    obtain ⟨k, hk'⟩ : ∃ k, l.count c - i = k + 1 := ⟨l.count c - i - 1, by omega⟩
    refine ⟨l.count c - (i + 1), _, rfl, rfl, rfl, by omega, i + 1, done ++ [rest.take m], rest.drop (m + 1), by rw [hn2]; simp, rfl, by omega, by rw [hsp, hs]; simp, by simp [hdl], by rw [List.length_drop]; omega, ?_, hk.trans hk3 fun k h => .inr (how.lt k h).1⟩
    rw [Int.toNat_natCast, hn1, hk', ← hdl, set_rep] at how3
    have : l.count c - (i + 1) + 1 = k + 1 := by omega
    rw [this]
    exact how3
theorem split (l : List UInt8) (c : UInt8) (hl : l.length ≤ 1000000) (w : World) : Calls Tryz.prog 85 #[vs l, vs [c]] w fun e w' => ∃ v', e = .returned v' ∧ w'.ownsRow w.heap.size strT 1 v' (splitB c l).length (sv (splitB c l)) ∧ K0 w w' := by
  refine H.enter Tryz.func85 Tryz.ntmps85 rfl rfl ?_; dsimp only [H.args]
  repeat' (first | (refine CL.seq ?_) | (refine CL.region ?_) | (refine Gt.nil ?_; refine RW.nilw [0, 1, 4] ?_; dsimp only [H.keep, H.look, H.Fr.put, Nat.beq]) | (refine Gt.assign ?_; refine RW.y (Y.assign rfl) rfl ?_) | (refine Gt.move ?_; refine RW.y (Y.move rfl) rfl ?_))
  refine RW.fn rfl rfl ((genSplit l c hl w).mono ?_)
  rintro e w1 ⟨v1, rfl, how1, hk1⟩
  repeat' (first | (refine CL.ret ?_) | (refine Gt.nil ?_; refine RW.nilw [0, 1, 4] ?_; dsimp only [H.keep, H.look, H.Fr.put, Nat.beq]) | (refine Gt.assign ?_; refine RW.y (Y.assign rfl) rfl ?_))
  exact FQ.one rfl rfl rfl ⟨_, rfl, how1, hk1⟩
end Go.Proofs.YtjfdhafmbcppjaaGreatDoor.S

namespace Go.Proofs.YtjfdhafmbcppjaaGreatDoor.S
open Go.RowKit H
attribute [local irreducible] H.CL H.RW H.CW H.Yd H.thenK H.blockQ Go.Calls

theorem spaceLam (x : Nat) (w : World) : Calls Tryz.prog 30 #[.int .i32 (x : Int)] w fun e w' => w = w' ∧ e = .returned (.bool (x == 32)) := by
  refine H.enter Tryz.func30 Tryz.ntmps30 rfl rfl ?_; dsimp only [H.args]
  repeat' (first | (refine CL.seq ?_) | (refine CL.region ?_) | (refine CL.ret ?_) | (refine Gt.nil ?_; refine RW.nilw [0, 2] ?_; dsimp only [H.keep, H.look, H.Fr.put, Nat.beq]) | (refine Gt.assign ?_; refine RW.y (Y.assign rfl) rfl ?_) | (refine Gt.move ?_; refine RW.y (Y.move rfl) rfl ?_) | (refine Gt.eql ?_; refine RW.y (Y.eqi rfl rfl) rfl ?_))
  refine FQ.one rfl rfl rfl ⟨rfl, ?_⟩
  congr 2
  rw [Bool.eq_iff_iff]
  simp
  omega
theorem fields (l : List UInt8) (hl : l.length ≤ 1000000) (w : World) : Calls Tryz.prog 29 #[vs l, .func (.func 30) #[] #[]] w fun e w' => K0 w w' ∧ ∃ v', e = .returned v' ∧ w'.ownsRow w.heap.size strT 1 v' (Sp.wordsB l).length (sv (Sp.wordsB l)) := by
  have hp : PredAtRunes Tryz.prog 30 #[] (fun x => x == 32) w := by
    intro W x hx hb
    exact (spaceLam x W).mono fun e w' ⟨h1, h2⟩ => ⟨h2, 0, h1.symm⟩
  have h := Any.strings_FieldsFunc_runes Tryz.lays229 30 #[] (enters_of Tryz.func30 (by kernel_rfl) rfl) (fun x => x == 32) (B l) w (by show l.length ≤ _; omega) hp (by kernel_rfl) (by kernel_rfl)
  rw [fields_words, List.length_map, List.map_map] at h
  exact h.mono fun e w' ⟨A, h1, _, h2, h3⟩ => ⟨Kept.of_below h3, _, h1, h2⟩

/-- The library's variable of its machine holds some number. -/
def Ml (w : World) : Prop := ∃ m, w.cell? ⟨2, 0, none⟩ = some (.int .i64 m)
theorem index2 (l : List UInt8) (hl : l.length ≤ 1000000) (w : World) (hM : Ml w) : Calls Tryz.prog 82 #[vs l, vs [124, 124]] w fun e w' => w = w' ∧ e = .returned (.int .i64 (Go.Lib.index l [124, 124])) := by
  obtain ⟨m, hm⟩ := hM
  have h := Tryz.strings_Index (B l) (B [124, 124]) m w (by show l.length < _; omega) hm
  exact h.mono fun e w' ⟨h1, h2⟩ => ⟨h2.symm, h1⟩

/-- The boxes of the closure that splits. -/
def Sp2 (l : List UInt8) (bs bt bv : Nat) (W : World) : Prop :=
  W.heap[bs]? = some (.cells #[vs [124, 124]] strT (0, 0)) ∧ W.heap[bt]? = some (.cells #[vs l] strT (0, 0)) ∧ W.heap[bv]? = some (.cells #[.int .i64 0] 3 (0, 0)) ∧ Ml W
theorem Ml.of {w w' : World} (h : Ml w) (hh : w'.heap[2]? = w.heap[2]?) : Ml w' := by
  obtain ⟨m, hm⟩ := h
  refine ⟨m, ?_⟩
  simp only [World.cell?] at hm ⊢
  rw [hh]; exact hm
theorem Ml.lt {w : World} (h : Ml w) : 2 < w.heap.size := by
  obtain ⟨m, hm⟩ := h
  simp only [World.cell?] at hm
  rcases Nat.lt_or_ge 2 w.heap.size with h | h
  · exact h
  · rw [Array.getElem?_eq_none h] at hm; cases hm
theorem Ml.keep0 {w w' : World} (h : Ml w) (k : K0 w w') : Ml w' := h.of (k.block _ h.lt fun c => c)
theorem Ml.keep {S : Nat → Prop} {w w' : World} (h : Ml w) (k : Kept S w w') (hS : ¬ S 2) : Ml w' := h.of (k.block _ h.lt hS)

set_option maxHeartbeats 1000000 in
theorem splitIt2 (l : List UInt8) (hl : l.length ≤ 1000000) (bs bt bv : Nat) (h1 : bt ≠ bs) (h2 : bt ≠ bv) (h3 : bt ≠ 2) :
    SeqC Tryz.prog 81 [.pointer (some ⟨bs, 0, none⟩), .pointer (some ⟨bt, 0, none⟩), .pointer (some ⟨bv, 0, none⟩)] (fun x : List UInt8 => [vs x]) (fun k => k = bs ∨ k = bt ∨ k = bv ∨ k = 2) (Sp2 l bs bt bv) (Sp.orB l) := by
  intro r J Jx W hpre hJ hJx hy h0
  obtain ⟨hbs, hbt, hbv, hM⟩ := hpre
  have hc2 : ([124, 124] : List UInt8).length = 2 := rfl
  have hcs : ∀ {k}, k = bt → k = bs ∨ k = bt ∨ k = bv ∨ k = 2 := fun h => .inr (.inl h)
  refine H.enterI Tryz.func81 Tryz.ntmps81 rfl rfl ?_; dsimp only [H.args]
  repeat' (first | (refine CL.seq ?_) | (refine CL.region ?_) | (refine CL.skip ?_) | (refine CL.condP rfl (fun _ => ?_) (fun _ => ?_) <;> try (exfalso; omega)) | (refine CL.block ?_) | (refine Gt.nil ?_; refine RW.nilw [0, 1, 2, 3, 6, 7, 8, 11, 14, 25, 33, 42] ?_; dsimp only [H.keep, H.look, H.Fr.put, Nat.beq]) | (refine Gt.load ?_; refine RW.y (Y.loadB rfl (by assumption) rfl) rfl ?_) | (refine Gt.len ?_; refine RW.y (Y.lens rfl) rfl ?_) | (refine Gt.eql ?_; refine RW.y (Y.eqi rfl rfl) rfl ?_))
  refine CL.loopS [0, 1, 2, 3] (fun m vals wr => ∃ (done : List (List UInt8)) (rest : List UInt8), vals = [.func (.yield r) #[] #[], .pointer (some ⟨bs, 0, none⟩), .pointer (some ⟨bt, 0, none⟩), .pointer (some ⟨bv, 0, none⟩)] ∧ m = rest.length ∧ Sp.orB l = done ++ Sp.orB rest ∧ rest.length ≤ l.length ∧ J done wr ∧ Sp2 rest bs bt bv wr) l.length ⟨_, rfl, [], l, rfl, rfl, rfl, Nat.le_refl _, h0, hbs, hbt, hbv, hM⟩ ?_
  rintro m vals wr ⟨done, rest, rfl, rfl, hsp, hrl, hJ1, hbs1, hbt1, hbv1, hM1⟩
  dsimp only [List.zip, List.zipWith]
  repeat' (first | (refine CL.seq ?_) | (refine CL.region ?_) | (refine CL.block ?_) | (refine Gt.load ?_; refine RW.y (Y.loadB rfl (by assumption) rfl) rfl ?_))
  refine RW.fn rfl rfl ((index2 rest (by omega) wr hM1).mono ?_)
  rintro e w1 ⟨rfl, rfl⟩
  rcases Sp.orB_index rest with ⟨hi, hs⟩ | ⟨m, hi, hm, hs⟩
  · rw [hi]
    repeat' (first | (refine CL.seq ?_) | (refine CL.region ?_) | (refine CL.condP rfl (fun _ => ?_) (fun _ => ?_) <;> try (exfalso; omega)) | (refine CL.exit ?_) | (refine Ex.then ?_) | (refine Ex.hit ?_) | (refine Ex.miss rfl ?_) | (refine Gt.nil ?_; refine RW.nilw [0, 1, 2, 3, 6, 7, 8, 11, 14, 25, 33, 42] ?_; dsimp only [H.keep, H.look, H.Fr.put, Nat.beq]) | (refine Gt.load ?_; refine RW.y (Y.loadB rfl (by assumption) rfl) rfl ?_) | (refine Gt.move ?_; refine RW.y (Y.move rfl) rfl ?_) | (refine Gt.assign ?_; refine RW.y (Y.assign rfl) rfl ?_) | (refine Gt.lss ?_; refine RW.y (Y.lss rfl rfl) rfl ?_))
    refine RW.yield rfl rfl rfl (hy done rest wr hJ1 ?_) ?_
    · rw [hsp, hs]; exact List.prefix_rfl
    rw [hs] at hsp
    rintro e w2 (⟨rfl, hJ2, hs2⟩ | ⟨rfl, hJx2⟩)
    · repeat' (first | (refine CL.done ?_) | (refine Gt.nil ?_; refine RW.nilw [0, 1, 2, 3, 6, 7, 8, 11, 14, 25, 33, 42] ?_; dsimp only [H.keep, H.look, H.Fr.put, Nat.beq]))
      exact FQ.norm (FQ.none rfl rfl ⟨⟨_, rfl⟩, .inl (by rw [hsp]; exact hJ2)⟩)
    · repeat' (first | (refine CL.done ?_) | (refine Gt.nil ?_; refine RW.nilw [0, 1, 2, 3, 6, 7, 8, 11, 14, 25, 33, 42] ?_; dsimp only [H.keep, H.look, H.Fr.put, Nat.beq]))
      exact FQ.norm (FQ.none rfl rfl ⟨⟨_, rfl⟩, .inr ⟨_, hJx2⟩⟩)
  · rw [hi]
    repeat' (first | (refine CL.seq ?_) | (refine CL.region ?_) | (refine CL.skip ?_) | (refine CL.condP rfl (fun _ => ?_) (fun _ => ?_) <;> try (exfalso; omega)) | (refine Gt.nil ?_; refine RW.nilw [0, 1, 2, 3, 6, 7, 8, 11, 14, 25, 33, 42] ?_; dsimp only [H.keep, H.look, H.Fr.put, Nat.beq]) | (refine Gt.load ?_; refine RW.y (Y.loadB rfl (by assumption) rfl) rfl ?_) | (refine Gt.move ?_; refine RW.y (Y.move rfl) rfl ?_) | (refine Gt.assign ?_; refine RW.y (Y.assign rfl) rfl ?_) | (refine Gt.slice ?_; (refine RW.y (Y.cuth rfl rfl (by omega) (by omega)) rfl ?_)) | (refine Gt.add ?_; refine RW.y (Y.add64 rfl rfl (by omega) (by omega)) rfl ?_) | (refine Gt.lss ?_; refine RW.y (Y.lss rfl rfl) rfl ?_))
    have hn1 : ((m : Int) + 0).toNat = m := by omega
    rw [hn1]
    refine RW.yield rfl rfl rfl (hy done (rest.take m) wr hJ1 ?_) ?_
    · rw [hsp, hs]; exact ⟨Sp.orB (rest.drop (m + 2)), by simp⟩
    rintro e w2 (⟨rfl, hJ2, hs2⟩ | ⟨rfl, hJx2⟩)
    · have hbs2 := (hs2.2 bs (.inl rfl)).trans hbs1
      have hbt2 := (hs2.2 bt (.inr (.inl rfl))).trans hbt1
      have hbv2 := (hs2.2 bv (.inr (.inr (.inl rfl)))).trans hbv1
      have hM2 : Ml w2 := hM1.of (hs2.2 _ (.inr (.inr (.inr rfl))))
      repeat' (first | (refine CL.region ?_) | (refine CL.skip ?_) | (refine CL.condF rfl ?_) | (refine Gt.nil ?_; refine RW.nilw [0, 1, 2, 3, 6, 7, 8, 11, 14, 25, 33, 42] ?_; dsimp only [H.keep, H.look, H.Fr.put, Nat.beq]) | (refine Gt.load ?_; refine RW.y (Y.loadB rfl (by assumption) rfl) rfl ?_) | (refine Gt.move ?_; refine RW.y (Y.move rfl) rfl ?_) | (refine Gt.len ?_; refine RW.y (Y.lens rfl) rfl ?_) | (refine Gt.slice ?_; (refine RW.y (Y.cutl rfl rfl (by omega) (by omega)) rfl ?_)) | (refine Gt.not ?_; (refine RW.y (Y.notb rfl) rfl ?_)) | (refine Gt.add ?_; refine RW.y (Y.add64 rfl rfl (by omega) (by omega)) rfl ?_))
      refine RW.storeB rfl rfl rfl hbt2 (by simp) (fun w3 hbt3 hk3 => ?_)
      repeat' (first | (refine CL.done ?_) | (refine Nm.block ?_) | (refine Nm.then ?_) | (refine Gt.nil ?_; refine RW.nilw [0, 1, 2, 3, 6, 7, 8, 11, 14, 25, 33, 42] ?_; dsimp only [H.keep, H.look, H.Fr.put, Nat.beq]))
      have hn2 : ((m : Int) + (([124, 124] : List UInt8).length : Int)).toNat = m + 2 := by rw [hc2]; omega
      rw [hn2] at hbt3
      refine ⟨(rest.drop (m + 2)).length, _, rfl, rfl, rfl, by rw [List.length_drop]; omega, done ++ [rest.take m], rest.drop (m + 2), rfl, rfl, by rw [hsp, hs]; simp, by rw [List.length_drop]; omega, hJ _ _ _ hJ2 (hk3.mono fun k h => hcs h), hk3.at hbs2 (fun h => h1 h.symm), hbt3, hk3.at hbv2 (fun h => h2 h.symm), hM2.keep hk3 fun h => h3 h.symm⟩
    · repeat' (first | (refine CL.condT rfl ?_) | (refine CL.ret ?_) | (refine Rt.then ?_) | (refine Rt.block ?_) | (refine Gt.nil ?_; refine RW.nilw [0, 1, 2, 3, 6, 7, 8, 11, 14, 25, 33, 42] ?_; dsimp only [H.keep, H.look, H.Fr.put, Nat.beq]) | (refine Gt.not ?_; (refine RW.y (Y.notb rfl) rfl ?_)))
      exact FQ.none rfl rfl ⟨⟨_, rfl⟩, .inr ⟨_, hJx2⟩⟩

theorem splitSeq2 (l : List UInt8) (w : World) (hM : Ml w) : Calls Tryz.prog 28 #[vs l, vs [124, 124]] w fun e w' => K0 w w' ∧ ∃ bs bt bv, e = .returned (.func (.func 81) #[] #[.pointer (some ⟨bs, 0, none⟩), .pointer (some ⟨bt, 0, none⟩), .pointer (some ⟨bv, 0, none⟩)]) ∧
    bt ≠ bs ∧ bt ≠ bv ∧ w.heap.size ≤ bs ∧ w.heap.size ≤ bt ∧ w.heap.size ≤ bv ∧ bs < w'.heap.size ∧ bt < w'.heap.size ∧ bv < w'.heap.size ∧ Sp2 l bs bt bv w' := by
  have h : ∀ w, Ml w → Calls Tryz.prog 61 #[vs l, vs [124, 124], .int .i64 0] w fun e w' => K0 w w' ∧ ∃ bs bt bv, e = .returned (.func (.func 81) #[] #[.pointer (some ⟨bs, 0, none⟩), .pointer (some ⟨bt, 0, none⟩), .pointer (some ⟨bv, 0, none⟩)]) ∧
    bt ≠ bs ∧ bt ≠ bv ∧ w.heap.size ≤ bs ∧ w.heap.size ≤ bt ∧ w.heap.size ≤ bv ∧ bs < w'.heap.size ∧ bt < w'.heap.size ∧ bv < w'.heap.size ∧ Sp2 l bs bt bv w' := by
    intro w hM
    refine H.enter Tryz.func61 Tryz.ntmps61 rfl rfl ?_; dsimp only [H.args]
    repeat' (first | (refine CL.seq ?_) | (refine CL.region ?_))
    refine RW.box rfl rfl (fun w1 hb1 hk1 hlt1 => ?_)
    refine RW.box rfl rfl (fun w2 hb2 hk2 hlt2 => ?_)
    refine RW.box rfl rfl (fun w3 hb3 hk3 hlt3 => ?_)
    repeat' (first | (refine CL.seq ?_) | (refine CL.region ?_) | (refine CL.ret ?_) | (refine Gt.nil ?_; refine RW.nilw [0, 1, 2, 3, 4, 5, 6] ?_; dsimp only [H.keep, H.look, H.Fr.put, Nat.beq]) | (refine Gt.assign ?_; refine RW.y (Y.assign rfl) rfl ?_) | (refine Gt.makeFunc ?_; refine RW.y (Y.makeFunc rfl rfl) rfl ?_))
    have hs1 := hk1.size
    have hs2 := hk2.size
    have hs3 := hk3.size
    exact FQ.one rfl rfl rfl ⟨(hk1.trans0 hk2).trans0 hk3, _, _, _, rfl, by omega, by omega, by omega, by omega, by omega, by omega, by omega, by omega, hk3.at0 hb2, (hk2.trans0 hk3).at0 hb1, hb3, hM.keep0 ((hk1.trans0 hk2).trans0 hk3)⟩
  refine H.enter Tryz.func28 Tryz.ntmps28 rfl rfl ?_; dsimp only [H.args]
  repeat' (first | (refine CL.seq ?_) | (refine CL.region ?_) | (refine Gt.nil ?_; refine RW.nilw [0, 1, 4] ?_; dsimp only [H.keep, H.look, H.Fr.put, Nat.beq]) | (refine Gt.assign ?_; refine RW.y (Y.assign rfl) rfl ?_) | (refine Gt.move ?_; refine RW.y (Y.move rfl) rfl ?_))
  refine RW.fn rfl rfl ((h w hM).mono ?_)
  rintro e w1 ⟨hk, bs, bt, bv, rfl, hh⟩
  repeat' (first | (refine CL.ret ?_) | (refine Gt.nil ?_; refine RW.nilw [0, 1, 4] ?_; dsimp only [H.keep, H.look, H.Fr.put, Nat.beq]) | (refine Gt.assign ?_; refine RW.y (Y.assign rfl) rfl ?_))
  exact FQ.one rfl rfl rfl ⟨hk, bs, bt, bv, rfl, hh⟩
end Go.Proofs.YtjfdhafmbcppjaaGreatDoor.S

namespace Go.Proofs.YtjfdhafmbcppjaaGreatDoor.Ve
open Go.RowKit H S
attribute [local irreducible] H.CL H.RW H.CW H.Yd H.thenK H.blockQ Go.Calls

theorem dig_hi {c : UInt8} (h : ¬ ((c.toNat : Int) < 48)) (h2 : ¬ ((57 : Int) < c.toNat)) : isDig c = true := by
  simp only [isDig, Bool.and_eq_true, decide_eq_true_eq]; omega
theorem dig_lo {c : UInt8} (h : (c.toNat : Int) < 48) : isDig c = false := by
  simp only [isDig, Bool.and_eq_false_iff, decide_eq_false_iff_not]; omega
theorem dig_lo2 {c : UInt8} (h : (57 : Int) < c.toNat) : isDig c = false := by
  simp only [isDig, Bool.and_eq_false_iff, decide_eq_false_iff_not]; omega
theorem dig_all {l : T} (h : l.all isDig = true) : decide (l ≠ []) = digB l := by simp [digB, h]
theorem dig_none {l : T} (h : l.all isDig = false) : digB l = false := by simp [digB, h]

theorem retb {a b : Bool} (h : a = true ↔ b = true) : Ending.returned (.bool a) = .returned (.bool b) := by rw [Bool.eq_iff_iff.2 h]

theorem digits (l : T) (hl : l.length ≤ 1000000000000) (w : World) : Calls Tryz.prog 95 #[vs l] w fun e w' => w = w' ∧ e = .returned (.bool (digB l)) := by
  refine H.enter Tryz.func95 Tryz.ntmps95 rfl rfl ?_; dsimp only [H.args]
  repeat' (first | (refine CL.seq ?_) | (refine CL.region ?_) | (refine CL.block ?_) | (refine Gt.nil ?_; refine RW.nilw [0, 2, 3, 5, 6, 7, 18] ?_; dsimp only [H.keep, H.look, H.Fr.put, Nat.beq]) | (refine Gt.move ?_; refine RW.y (Y.move rfl) rfl ?_) | (refine Gt.assign ?_; refine RW.y (Y.assign rfl) rfl ?_) | (refine Gt.len ?_; refine RW.y (Y.lens rfl) rfl ?_))
  refine CL.loopS [0, 2, 5, 6] (fun k vals wr => ∃ (i : Nat) (b : Bool), vals = [vs l, .bool b, .int .i64 (l.length : Int), .int .i64 (i : Int)] ∧ k = l.length - i ∧ i ≤ l.length ∧ (l.take i).all isDig = true ∧ wr = w) l.length ⟨_, rfl, 0, false, rfl, rfl, Nat.zero_le _, rfl, rfl⟩ ?_
  rintro k vals wr ⟨i, b, rfl, rfl, hi, hall, rfl⟩
  dsimp only [List.zip, List.zipWith]
  rcases Nat.lt_or_ge i l.length with hlt | hge
  · repeat' (first | (refine CL.seq ?_) | (refine CL.region ?_) | (refine CL.skip ?_) | (refine CL.condP rfl (fun _ => ?_) (fun _ => ?_) <;> try (exfalso; omega)) | (refine CL.condT rfl ?_) | (refine CL.block ?_) | (refine CL.ret ?_) | (refine Rt.then ?_) | (refine Rt.block ?_) | (refine CL.done ?_) | (refine Nm.block ?_) | (refine Nm.then ?_) | (refine Gt.nil ?_; refine RW.nilw [0, 2, 3, 5, 6, 7, 18] ?_; dsimp only [H.keep, H.look, H.Fr.put, Nat.beq]) | (refine Gt.move ?_; refine RW.y (Y.move rfl) rfl ?_) | (refine Gt.guard ?_; first | (refine RW.part rfl rfl rfl (fun _ => ?_) (fun _ => ?_) <;> try (exfalso; omega)) | (refine RW.on rfl rfl rfl ?_) | (refine RW.off1 rfl rfl rfl rfl rfl ?_)) | (refine Gt.assign ?_; refine RW.y (Y.assign rfl) rfl ?_) | (refine Gt.lss ?_; refine RW.y (Y.lss rfl rfl) rfl ?_) | (refine Gt.index ?_; refine RW.y (Y.idxs rfl rfl (by omega) (by omega)) rfl ?_) | (refine Gt.gtr ?_; refine RW.y (Y.gtr rfl rfl) rfl ?_) | (refine Gt.pick ?_; first | (refine RW.y (Y.pickT rfl rfl) rfl ?_) | (refine RW.y (Y.pickF rfl rfl) rfl ?_)) | (refine Gt.add ?_; refine RW.y (Y.add64 rfl rfl (by omega) (by omega)) rfl ?_))
    · rename_i h
      exact FQ.one rfl rfl rfl ⟨rfl, by rw [dig_none (all_false 0 hlt (dig_lo h))]⟩
    · rename_i h1 h2
      exact FQ.one rfl rfl rfl ⟨rfl, by rw [dig_none (all_false 0 hlt (dig_lo2 h2))]⟩
    · rename_i h1 h2
      exact ⟨l.length - (i + 1), _, rfl, rfl, rfl, by omega, i + 1, b, rfl, rfl, by omega, all_step 0 hlt hall (dig_hi h1 h2), rfl⟩
  · have hi : i = l.length := by omega
    subst hi
    rw [List.take_length] at hall
    repeat' (first | (refine CL.seq ?_) | (refine CL.region ?_) | (refine CL.condP rfl (fun _ => ?_) (fun _ => ?_) <;> try (exfalso; omega)) | (refine CL.exit ?_) | (refine Ex.then ?_) | (refine Ex.hit ?_) | (refine CL.ret ?_) | (refine Gt.nil ?_; refine RW.nilw [0, 2, 3, 5, 6, 7, 18] ?_; dsimp only [H.keep, H.look, H.Fr.put, Nat.beq]) | (refine Gt.move ?_; refine RW.y (Y.move rfl) rfl ?_) | (refine Gt.assign ?_; refine RW.y (Y.assign rfl) rfl ?_) | (refine Gt.lss ?_; refine RW.y (Y.lss rfl rfl) rfl ?_) | (refine Gt.neq ?_; refine RW.y (Y.nes rfl rfl) rfl ?_))
    exact FQ.one rfl rfl rfl ⟨rfl, by rw [dig_all hall]⟩

theorem plain (l : T) (h0 : l ≠ []) (hl : l.length ≤ 1000000000000) (w : World) : Calls Tryz.prog 104 #[vs l] w fun e w' => w = w' ∧ e = .returned (.bool (plainB l)) := by
  have hpos := List.length_pos_iff.2 h0
  refine H.enter Tryz.func104 Tryz.ntmps104 rfl rfl ?_; dsimp only [H.args]
  repeat' (first | (refine CL.seq ?_) | (refine CL.region ?_) | (refine CL.ret ?_) | (refine Gt.nil ?_; refine RW.nilw [0, 2] ?_; dsimp only [H.keep, H.look, H.Fr.put, Nat.beq]) | (refine Gt.move ?_; refine RW.y (Y.move rfl) rfl ?_) | (refine Gt.guard ?_; first | (refine RW.part rfl rfl rfl (fun _ => ?_) (fun _ => ?_) <;> try (exfalso; omega)) | (refine RW.on rfl rfl rfl ?_) | (refine RW.off1 rfl rfl rfl rfl rfl ?_)) | (refine Gt.assign ?_; refine RW.y (Y.assign rfl) rfl ?_) | (refine Gt.len ?_; refine RW.y (Y.lens rfl) rfl ?_) | (refine Gt.eql ?_; refine RW.y (Y.eqi rfl rfl) rfl ?_) | (refine Gt.index ?_; refine RW.y (Y.idxs rfl rfl (by omega) (by omega)) rfl ?_) | (refine Gt.neq ?_; refine RW.y (Y.nei rfl rfl) rfl ?_) | (refine Gt.pick ?_; first | (refine RW.y (Y.pickT rfl rfl) rfl ?_) | (refine RW.y (Y.pickF rfl rfl) rfl ?_)))
  · rename_i h
    exact FQ.one rfl rfl rfl ⟨rfl, retb (by simp only [plainB, Bool.or_eq_true, decide_eq_true_eq]; exact iff_of_true trivial (.inl (by omega)))⟩
  · rename_i h
    exact FQ.one rfl rfl rfl ⟨rfl, retb (by
      simp only [plainB, Bool.or_eq_true, decide_eq_true_eq]
      constructor
      · intro c; exact .inr fun e => c (by rw [show Int.toNat 0 = 0 from rfl, e]; rfl)
      · rintro (c | c)
        · omega
        · exact fun e => c (u8_eq (by simpa using e)))⟩

theorem decFrom_val : ∀ (l : T) (acc : Nat), l.all isDig = true → Go.Lib.decFrom acc l = some (l.foldl (fun n c => 10 * n + (c.toNat - 48)) acc) := by
  intro l
  induction l with
  | nil => intro acc _; rfl
  | cons c r ih =>
    intro acc h
    simp only [List.all_cons, Bool.and_eq_true] at h
    have hc := h.1
    simp only [isDig, Bool.and_eq_true, decide_eq_true_eq] at hc
    rw [Go.Lib.decFrom, Go.Lib.digitVal, if_pos hc]
    simp only [List.foldl_cons]
    rw [ih _ h.2, Nat.mul_comm]
theorem decNat_val (l : T) (h : digB l = true) : Go.Lib.atoi l = some (val l : Int) := by
  simp only [digB, Bool.and_eq_true, decide_eq_true_eq] at h
  obtain ⟨h0, ha⟩ := h
  cases l with
  | nil => exact absurd rfl h0
  | cons c r =>
    have hc := ha
    simp only [List.all_cons, Bool.and_eq_true, isDig, decide_eq_true_eq] at hc
    have n1 : (c == 45) = false := by rw [beq_eq_false_iff_ne]; rintro rfl; exact absurd hc.1.1 (by decide)
    have n2 : (c == 43) = false := by rw [beq_eq_false_iff_ne]; rintro rfl; exact absurd hc.1.1 (by decide)
    rw [Go.Lib.atoi, n1, n2]
    simp only [Bool.false_eq_true, if_false, Go.Lib.decNat, List.isEmpty_cons]
    rw [decFrom_val _ _ ha]
    rfl
theorem bytes_kept (w : World) (e : TypeId) (s : ByteArray) : K0 w (Go.Lib.bytesWorld w e s) :=
  ⟨rfl, rfl, rfl, by rw [Go.Lib.bytesWorld_size]; omega, fun k hk _ => Go.Lib.bytesWorld_at_old w e s k hk⟩

theorem number (l : T) (hl : l.length ≤ 1000000000000) (w : World) : Calls Tryz.prog 86 #[vs l] w fun e w' => K0 w w' ∧ e = .returned (.tuple #[.int .i64 (if numB l = true then val l else 0 : Nat), .bool (numB l)]) := by
  refine H.enter Tryz.func86 Tryz.ntmps86 rfl rfl ?_; dsimp only [H.args]
  repeat' (first | (refine CL.seq ?_) | (refine CL.region ?_) | (refine Gt.nil ?_; refine RW.nilw [0, 2, 3, 4, 18] ?_; dsimp only [H.keep, H.look, H.Fr.put, Nat.beq]) | (refine Gt.assign ?_; refine RW.y (Y.assign rfl) rfl ?_) | (refine Gt.move ?_; refine RW.y (Y.move rfl) rfl ?_))
  refine RW.fn rfl rfl ((digits l hl w).mono ?_)
  rintro e w' ⟨rfl, rfl⟩
  cases hd : digB l
  · have hn : numB l = false := by simp [numB, hd]
    rw [hn]
    repeat' (first | (refine CL.seq ?_) | (refine CL.region ?_) | (refine CL.condT rfl ?_) | (refine CL.ret ?_) | (refine Gt.nil ?_; refine RW.nilw [0, 2, 3, 4, 18] ?_; dsimp only [H.keep, H.look, H.Fr.put, Nat.beq]) | (refine Gt.assign ?_; refine RW.y (Y.assign rfl) rfl ?_) | (refine Gt.guard ?_; (refine RW.off1 rfl rfl rfl rfl rfl ?_)) | (refine Gt.move ?_; refine RW.y (Y.move rfl) rfl ?_) | (refine Gt.not ?_; (refine RW.y (Y.notb rfl) rfl ?_)) | (refine Gt.pick ?_; (refine RW.y (Y.pickT rfl rfl) rfl ?_)))
    exact FQ.res (rs := [.tmp 2, .tmp 3]) (vs := [_, _]) rfl rfl ⟨rfl, rfl, trivial⟩ rfl (⟨Kept.refl _ _, rfl⟩)
  · have hd' := hd
    simp only [digB, Bool.and_eq_true, decide_eq_true_eq] at hd'
    repeat' (first | (refine CL.seq ?_) | (refine CL.region ?_) | (refine CL.condT rfl ?_) | (refine CL.ret ?_) | (refine Gt.nil ?_; refine RW.nilw [0, 2, 3, 4, 18] ?_; dsimp only [H.keep, H.look, H.Fr.put, Nat.beq]) | (refine Gt.assign ?_; refine RW.y (Y.assign rfl) rfl ?_) | (refine Gt.guard ?_; first | (refine RW.part rfl rfl rfl (fun _ => ?_) (fun _ => ?_) <;> try (exfalso; omega)) | (refine RW.on rfl rfl rfl ?_) | (refine RW.off1 rfl rfl rfl rfl rfl ?_)) | (refine Gt.move ?_; refine RW.y (Y.move rfl) rfl ?_) | (refine Gt.not ?_; (refine RW.y (Y.notb rfl) rfl ?_)) | (refine Gt.pick ?_; first | (refine RW.y (Y.pickT rfl rfl) rfl ?_) | (refine RW.y (Y.pickF rfl rfl) rfl ?_)) | (refine Gt.len ?_; refine RW.y (Y.lens rfl) rfl ?_) | (refine Gt.gtr ?_; refine RW.y (Y.gtr rfl rfl) rfl ?_))
    · have hn : numB l = false := by simp only [numB, Bool.and_eq_false_iff, decide_eq_false_iff_not]; exact .inl (.inr (by omega))
      rw [hn]
      exact FQ.res (rs := [.tmp 2, .tmp 3]) (vs := [_, _]) rfl rfl ⟨rfl, rfl, trivial⟩ rfl (⟨Kept.refl _ _, rfl⟩)
    · refine RW.fn rfl rfl ((plain l hd'.1 hl w).mono ?_)
      rintro e w' ⟨rfl, rfl⟩
      cases hp : plainB l
      · have hn : numB l = false := by simp [numB, hp]
        rw [hn]
        repeat' (first | (refine CL.seq ?_) | (refine CL.region ?_) | (refine CL.condT rfl ?_) | (refine CL.ret ?_) | (refine Gt.nil ?_; refine RW.nilw [0, 2, 3, 4, 18] ?_; dsimp only [H.keep, H.look, H.Fr.put, Nat.beq]) | (refine Gt.assign ?_; refine RW.y (Y.assign rfl) rfl ?_) | (refine Gt.guard ?_; (refine RW.on rfl rfl rfl ?_)) | (refine Gt.not ?_; (refine RW.y (Y.notb rfl) rfl ?_)) | (refine Gt.pick ?_; (refine RW.y (Y.pickF rfl rfl) rfl ?_)))
        exact FQ.res (rs := [.tmp 2, .tmp 3]) (vs := [_, _]) rfl rfl ⟨rfl, rfl, trivial⟩ rfl (⟨Kept.refl _ _, rfl⟩)
      · have hn : numB l = true := by simp only [numB, hd, hp, Bool.and_true, Bool.true_and, decide_eq_true_eq]; omega
        rw [hn]
        repeat' (first | (refine CL.seq ?_) | (refine CL.region ?_) | (refine CL.skip ?_) | (refine CL.condF rfl ?_) | (refine Gt.nil ?_; refine RW.nilw [0, 2, 3, 4, 18] ?_; dsimp only [H.keep, H.look, H.Fr.put, Nat.beq]) | (refine Gt.guard ?_; (refine RW.on rfl rfl rfl ?_)) | (refine Gt.move ?_; refine RW.y (Y.move rfl) rfl ?_) | (refine Gt.not ?_; (refine RW.y (Y.notb rfl) rfl ?_)) | (refine Gt.pick ?_; (refine RW.y (Y.pickF rfl rfl) rfl ?_)))
        refine RW.fn rfl rfl ((Tryz.strconv_Atoi (B l) (val l) (by rw [B_size]; omega) (decNat_val l hd) w).mono ?_)
        rintro e w1 ⟨rfl, t, rfl⟩
        have hk : K0 w (Go.Lib.bytesWorld w 5 t) := bytes_kept _ _ _
        repeat' (first | (refine CL.seq ?_) | (refine CL.region ?_) | (refine CL.ret ?_) | (refine Gt.nil ?_; refine RW.nilw [0, 2, 3, 4, 18] ?_; dsimp only [H.keep, H.look, H.Fr.put, Nat.beq]) | (refine Gt.assign ?_; refine RW.y (Y.assign rfl) rfl ?_) | (refine Gt.move ?_; refine RW.y (Y.move rfl) rfl ?_) | (refine Gt.extract ?_; refine RW.y (Y.extract rfl rfl) rfl ?_))
        exact FQ.res (rs := [.tmp 2, .tmp 3]) (vs := [_, _]) rfl rfl ⟨rfl, rfl, trivial⟩ rfl (⟨hk, rfl⟩)

theorem isSign_iff (c : UInt8) : isSign c = true ↔ (48 ≤ (c.toNat : Int) ∧ (c.toNat : Int) ≤ 57) ∨ (97 ≤ (c.toNat : Int) ∧ (c.toNat : Int) ≤ 122) ∨ (65 ≤ (c.toNat : Int) ∧ (c.toNat : Int) ≤ 90) ∨ (c.toNat : Int) = 45 := by
  simp only [isSign, isDig, Bool.or_eq_true, Bool.and_eq_true, decide_eq_true_eq]
  omega

theorem sign (c : UInt8) (w : World) : Calls Tryz.prog 107 #[vb c] w fun e w' => w = w' ∧ e = .returned (.bool (isSign c)) := by
  refine H.enter Tryz.func107 Tryz.ntmps107 rfl rfl ?_; dsimp only [H.args]
  repeat' (first | (refine CL.seq ?_) | (refine CL.region ?_) | (refine CL.skip ?_) | (refine CL.condP rfl (fun _ => ?_) (fun _ => ?_) <;> try (exfalso; omega)) | (refine CL.condF rfl ?_) | (refine CL.block ?_) | (refine CL.exit ?_) | (refine Ex.hit ?_) | (refine Ex.miss rfl ?_) | (refine CL.ret ?_) | (refine Rt.block ?_) | (refine CL.done ?_) | (refine Nm.block ?_) | (refine Gt.nil ?_; refine RW.nilw [0, 2, 3, 10, 17] ?_; dsimp only [H.keep, H.look, H.Fr.put, Nat.beq]) | (refine Gt.move ?_; refine RW.y (Y.move rfl) rfl ?_) | (refine Gt.guard ?_; first | (refine RW.part rfl rfl rfl (fun _ => ?_) (fun _ => ?_) <;> try (exfalso; omega)) | (refine RW.on rfl rfl rfl ?_) | (refine RW.off1 rfl rfl rfl rfl rfl ?_)) | (refine Gt.assign ?_; refine RW.y (Y.assign rfl) rfl ?_) | (refine Gt.geq ?_; refine RW.y (Y.geq rfl rfl) rfl ?_) | (refine Gt.leq ?_; refine RW.y (Y.leq rfl rfl) rfl ?_) | (refine Gt.pick ?_; first | (refine RW.y (Y.pickT rfl rfl) rfl ?_) | (refine RW.y (Y.pickF rfl rfl) rfl ?_)) | (refine Gt.eql ?_; refine RW.y (Y.eqi rfl rfl) rfl ?_))
  all_goals exact FQ.one rfl rfl rfl ⟨rfl, retb (by rw [isSign_iff]; first | (rw [decide_eq_true_eq]; omega) | (exact iff_of_true rfl (by omega)))⟩

theorem mark_iff (l : T) : markB l = true ↔ (l ≠ [] ∧ l.length ≤ 16 ∧ (digB l = true → plainB l = true)) ∧ l.all isSign = true := by
  simp only [markB, Bool.and_eq_true, Bool.or_eq_true, decide_eq_true_eq, Bool.not_eq_true']
  cases digB l <;> simp [and_assoc]

theorem mark (l : T) (hl : l.length ≤ 1000000000000) (w : World) : Calls Tryz.prog 89 #[vs l] w fun e w' => w = w' ∧ e = .returned (.bool (markB l)) := by
  refine H.enter Tryz.func89 Tryz.ntmps89 rfl rfl ?_; dsimp only [H.args]
  repeat' (first | (refine CL.seq ?_) | (refine CL.region ?_) | (refine CL.condT rfl ?_) | (refine CL.ret ?_) | (refine Gt.nil ?_; refine RW.nilw [0, 2, 3, 19, 21, 22, 23, 29] ?_; dsimp only [H.keep, H.look, H.Fr.put, Nat.beq]) | (refine Gt.move ?_; refine RW.y (Y.move rfl) rfl ?_) | (refine Gt.guard ?_; first | (refine RW.part rfl rfl rfl (fun _ => ?_) (fun _ => ?_) <;> try (exfalso; omega)) | (refine RW.on rfl rfl rfl ?_) | (refine RW.off1 rfl rfl rfl rfl rfl ?_) | (refine RW.offu rfl rfl rfl rfl ?_)) | (refine Gt.assign ?_; refine RW.y (Y.assign rfl) rfl ?_) | (refine Gt.pick ?_; first | (refine RW.y (Y.pickT rfl rfl) rfl ?_) | (refine RW.y (Y.pickF rfl rfl) rfl ?_)) | (refine Gt.len ?_; refine RW.y (Y.lens rfl) rfl ?_) | (refine Gt.eql ?_; refine RW.y (Y.eqs rfl rfl) rfl ?_) | (refine Gt.gtr ?_; refine RW.y (Y.gtr rfl rfl) rfl ?_))
  · rename_i h
    exact FQ.one rfl rfl rfl ⟨rfl, retb (by rw [mark_iff]; simp [h])⟩
  · exact FQ.one rfl rfl rfl ⟨rfl, retb (by rw [mark_iff]; simp; omega)⟩
  rename_i hne h16
  refine RW.fn rfl rfl ((digits l hl w).mono ?_)
  rintro e w' ⟨rfl, rfl⟩
  cases hd : digB l
  · repeat' (first | (refine CL.seq ?_) | (refine CL.region ?_) | (refine CL.skip ?_) | (refine CL.condF rfl ?_) | (refine CL.block ?_) | (refine Gt.nil ?_; refine RW.nilw [0, 2, 3, 19, 21, 22, 23, 29] ?_; dsimp only [H.keep, H.look, H.Fr.put, Nat.beq]) | (refine Gt.move ?_; refine RW.y (Y.move rfl) rfl ?_) | (refine Gt.guard ?_; first | (refine RW.on rfl rfl rfl ?_) | (refine RW.off1 rfl rfl rfl rfl rfl ?_)) | (refine Gt.pick ?_; (refine RW.y (Y.pickF rfl rfl) rfl ?_)) | (refine Gt.len ?_; refine RW.y (Y.lens rfl) rfl ?_))
    have hpl : digB l = true → plainB l = true := fun c => by rw [hd] at c; cases c
    refine CL.loopS [0, 2, 21, 22] (fun k vals wr => ∃ (i : Nat) (b : Bool), vals = [vs l, .bool b, .int .i64 (l.length : Int), .int .i64 (i : Int)] ∧ k = l.length - i ∧ i ≤ l.length ∧ (l.take i).all isSign = true ∧ wr = w) l.length ⟨_, rfl, 0, false, rfl, rfl, Nat.zero_le _, rfl, rfl⟩ ?_
    rintro k vals wr ⟨i, b, rfl, rfl, hi, hall, rfl⟩
    dsimp only [List.zip, List.zipWith]
    rcases Nat.lt_or_ge i l.length with hlt | hge
    · repeat' (first | (refine CL.seq ?_) | (refine CL.region ?_) | (refine CL.skip ?_) | (refine CL.condP rfl (fun _ => ?_) (fun _ => ?_) <;> try (exfalso; omega)) | (refine CL.block ?_) | (refine Gt.nil ?_; refine RW.nilw [0, 2, 3, 19, 21, 22, 23, 29] ?_; dsimp only [H.keep, H.look, H.Fr.put, Nat.beq]) | (refine Gt.move ?_; refine RW.y (Y.move rfl) rfl ?_) | (refine Gt.assign ?_; refine RW.y (Y.assign rfl) rfl ?_) | (refine Gt.lss ?_; refine RW.y (Y.lss rfl rfl) rfl ?_) | (refine Gt.index ?_; refine RW.y (Y.idxs rfl rfl (by omega) (by omega)) rfl ?_))
      refine RW.fn rfl rfl ((sign _ wr).mono ?_)
      rintro e w' ⟨rfl, rfl⟩
      rw [Int.toNat_natCast]
      cases hs : isSign (l.getD i 0)
      · repeat' (first | (refine CL.seq ?_) | (refine CL.region ?_) | (refine CL.condT rfl ?_) | (refine CL.ret ?_) | (refine Rt.then ?_) | (refine Rt.block ?_) | (refine Gt.nil ?_; refine RW.nilw [0, 2, 3, 19, 21, 22, 23, 29] ?_; dsimp only [H.keep, H.look, H.Fr.put, Nat.beq]) | (refine Gt.assign ?_; refine RW.y (Y.assign rfl) rfl ?_) | (refine Gt.not ?_; (refine RW.y (Y.notb rfl) rfl ?_)))
        exact FQ.one rfl rfl rfl ⟨rfl, retb (by rw [mark_iff, all_false 0 hlt hs]; simp)⟩
      · repeat' (first | (refine CL.region ?_) | (refine CL.skip ?_) | (refine CL.condF rfl ?_) | (refine CL.done ?_) | (refine Nm.block ?_) | (refine Nm.then ?_) | (refine Gt.nil ?_; refine RW.nilw [0, 2, 3, 19, 21, 22, 23, 29] ?_; dsimp only [H.keep, H.look, H.Fr.put, Nat.beq]) | (refine Gt.move ?_; refine RW.y (Y.move rfl) rfl ?_) | (refine Gt.not ?_; (refine RW.y (Y.notb rfl) rfl ?_)) | (refine Gt.add ?_; refine RW.y (Y.add64 rfl rfl (by omega) (by omega)) rfl ?_))
        exact ⟨l.length - (i + 1), _, rfl, rfl, rfl, by omega, i + 1, b, rfl, rfl, by omega, all_step 0 hlt hall hs, rfl⟩
    · have hi : i = l.length := by omega
      subst hi
      rw [List.take_length] at hall
      repeat' (first | (refine CL.seq ?_) | (refine CL.region ?_) | (refine CL.condP rfl (fun _ => ?_) (fun _ => ?_) <;> try (exfalso; omega)) | (refine CL.exit ?_) | (refine Ex.then ?_) | (refine Ex.hit ?_) | (refine CL.ret ?_) | (refine Gt.nil ?_; refine RW.nilw [0, 2, 3, 19, 21, 22, 23, 29] ?_; dsimp only [H.keep, H.look, H.Fr.put, Nat.beq]) | (refine Gt.assign ?_; refine RW.y (Y.assign rfl) rfl ?_) | (refine Gt.lss ?_; refine RW.y (Y.lss rfl rfl) rfl ?_))
      exact FQ.one rfl rfl rfl ⟨rfl, retb (by rw [mark_iff]; exact iff_of_true rfl ⟨⟨hne, by omega, hpl⟩, hall⟩)⟩
  · have hd' := hd
    repeat' (first | (refine Gt.move ?_; refine RW.y (Y.move rfl) rfl ?_) | (refine Gt.guard ?_; (refine RW.on rfl rfl rfl ?_)))
    refine RW.fn rfl rfl ((plain l hne hl w).mono ?_)
    rintro e w' ⟨rfl, rfl⟩
    cases hp : plainB l
    · repeat' (first | (refine CL.seq ?_) | (refine CL.region ?_) | (refine CL.condT rfl ?_) | (refine CL.ret ?_) | (refine Gt.nil ?_; refine RW.nilw [0, 2, 3, 19, 21, 22, 23, 29] ?_; dsimp only [H.keep, H.look, H.Fr.put, Nat.beq]) | (refine Gt.guard ?_; (refine RW.on rfl rfl rfl ?_)) | (refine Gt.assign ?_; refine RW.y (Y.assign rfl) rfl ?_) | (refine Gt.pick ?_; first | (refine RW.y (Y.pickT rfl rfl) rfl ?_) | (refine RW.y (Y.pickF rfl rfl) rfl ?_)) | (refine Gt.not ?_; (refine RW.y (Y.notb rfl) rfl ?_)))
      exact FQ.one rfl rfl rfl ⟨rfl, retb (by rw [mark_iff]; simp [hd, hp])⟩
    · repeat' (first | (refine CL.seq ?_) | (refine CL.region ?_) | (refine CL.skip ?_) | (refine CL.condF rfl ?_) | (refine CL.block ?_) | (refine Gt.nil ?_; refine RW.nilw [0, 2, 3, 19, 21, 22, 23, 29] ?_; dsimp only [H.keep, H.look, H.Fr.put, Nat.beq]) | (refine Gt.move ?_; refine RW.y (Y.move rfl) rfl ?_) | (refine Gt.guard ?_; (refine RW.on rfl rfl rfl ?_)) | (refine Gt.pick ?_; first | (refine RW.y (Y.pickT rfl rfl) rfl ?_) | (refine RW.y (Y.pickF rfl rfl) rfl ?_)) | (refine Gt.len ?_; refine RW.y (Y.lens rfl) rfl ?_) | (refine Gt.not ?_; (refine RW.y (Y.notb rfl) rfl ?_)))
      have hpl : digB l = true → plainB l = true := fun _ => hp
      refine CL.loopS [0, 2, 21, 22] (fun k vals wr => ∃ (i : Nat) (b : Bool), vals = [vs l, .bool b, .int .i64 (l.length : Int), .int .i64 (i : Int)] ∧ k = l.length - i ∧ i ≤ l.length ∧ (l.take i).all isSign = true ∧ wr = w) l.length ⟨_, rfl, 0, false, rfl, rfl, Nat.zero_le _, rfl, rfl⟩ ?_
      rintro k vals wr ⟨i, b, rfl, rfl, hi, hall, rfl⟩
      dsimp only [List.zip, List.zipWith]
      rcases Nat.lt_or_ge i l.length with hlt | hge
      · repeat' (first | (refine CL.seq ?_) | (refine CL.region ?_) | (refine CL.skip ?_) | (refine CL.condP rfl (fun _ => ?_) (fun _ => ?_) <;> try (exfalso; omega)) | (refine CL.block ?_) | (refine Gt.nil ?_; refine RW.nilw [0, 2, 3, 19, 21, 22, 23, 29] ?_; dsimp only [H.keep, H.look, H.Fr.put, Nat.beq]) | (refine Gt.move ?_; refine RW.y (Y.move rfl) rfl ?_) | (refine Gt.assign ?_; refine RW.y (Y.assign rfl) rfl ?_) | (refine Gt.lss ?_; refine RW.y (Y.lss rfl rfl) rfl ?_) | (refine Gt.index ?_; refine RW.y (Y.idxs rfl rfl (by omega) (by omega)) rfl ?_))
        refine RW.fn rfl rfl ((sign _ wr).mono ?_)
        rintro e w' ⟨rfl, rfl⟩
        rw [Int.toNat_natCast]
        cases hs : isSign (l.getD i 0)
        · repeat' (first | (refine CL.seq ?_) | (refine CL.region ?_) | (refine CL.condT rfl ?_) | (refine CL.ret ?_) | (refine Rt.then ?_) | (refine Rt.block ?_) | (refine Gt.nil ?_; refine RW.nilw [0, 2, 3, 19, 21, 22, 23, 29] ?_; dsimp only [H.keep, H.look, H.Fr.put, Nat.beq]) | (refine Gt.assign ?_; refine RW.y (Y.assign rfl) rfl ?_) | (refine Gt.not ?_; (refine RW.y (Y.notb rfl) rfl ?_)))
          exact FQ.one rfl rfl rfl ⟨rfl, retb (by rw [mark_iff, all_false 0 hlt hs]; simp)⟩
        · repeat' (first | (refine CL.region ?_) | (refine CL.skip ?_) | (refine CL.condF rfl ?_) | (refine CL.done ?_) | (refine Nm.block ?_) | (refine Nm.then ?_) | (refine Gt.nil ?_; refine RW.nilw [0, 2, 3, 19, 21, 22, 23, 29] ?_; dsimp only [H.keep, H.look, H.Fr.put, Nat.beq]) | (refine Gt.move ?_; refine RW.y (Y.move rfl) rfl ?_) | (refine Gt.not ?_; (refine RW.y (Y.notb rfl) rfl ?_)) | (refine Gt.add ?_; refine RW.y (Y.add64 rfl rfl (by omega) (by omega)) rfl ?_))
          exact ⟨l.length - (i + 1), _, rfl, rfl, rfl, by omega, i + 1, b, rfl, rfl, by omega, all_step 0 hlt hall hs, rfl⟩
      · have hi : i = l.length := by omega
        subst hi
        rw [List.take_length] at hall
        repeat' (first | (refine CL.seq ?_) | (refine CL.region ?_) | (refine CL.condP rfl (fun _ => ?_) (fun _ => ?_) <;> try (exfalso; omega)) | (refine CL.exit ?_) | (refine Ex.then ?_) | (refine Ex.hit ?_) | (refine CL.ret ?_) | (refine Gt.nil ?_; refine RW.nilw [0, 2, 3, 19, 21, 22, 23, 29] ?_; dsimp only [H.keep, H.look, H.Fr.put, Nat.beq]) | (refine Gt.assign ?_; refine RW.y (Y.assign rfl) rfl ?_) | (refine Gt.lss ?_; refine RW.y (Y.lss rfl rfl) rfl ?_))
        exact FQ.one rfl rfl rfl ⟨rfl, retb (by rw [mark_iff]; exact iff_of_true rfl ⟨⟨hne, by omega, hpl⟩, hall⟩)⟩
end Go.Proofs.YtjfdhafmbcppjaaGreatDoor.Ve

namespace Go.Proofs.YtjfdhafmbcppjaaGreatDoor.Ve
open Go.RowKit H S
attribute [local irreducible] H.CL H.RW H.CW H.Yd H.thenK H.blockQ Go.Calls
theorem one_vs (l : List UInt8) : ∀ y ∈ (vs l).cells.toList, y.oneCell' = true := by
  intro y hy
  simp only [Value.cells] at hy
  simp at hy
  subst hy
  rfl

set_option maxHeartbeats 400000 in
theorem refSplit (l : List UInt8) (c : UInt8) (hl : l.length ≤ 1000000000) (w : World) : Calls Tryz.prog 37 #[vs l, vb c] w fun e w' => ∃ v', e = .returned v' ∧ w'.ownsRow w.heap.size strT 1 v' (splitB c l).length (sv (splitB c l)) ∧ K0 w w' := by
  refine H.enter Tryz.func37 Tryz.ntmps37 rfl rfl ?_; dsimp only [H.args]
  repeat' (first | (refine CL.seq ?_) | (refine CL.region ?_) | (refine CL.block ?_) | (refine Gt.nil ?_; refine RW.nilw [0, 1, 4, 5, 6, 7, 11, 24] ?_; dsimp only [H.keep, H.look, H.Fr.put, Nat.beq]) | (refine Gt.assign ?_; refine RW.y (Y.assign rfl) rfl ?_))
  refine CL.loopS [0, 1, 5, 6, 7] (fun m vals wr => ∃ (i j : Nat) (u : Value) (done : List (List UInt8)), vals = [vs l, vb c, u, .int .i64 (j : Int), .int .i64 (i : Int)] ∧ m = l.length + 1 - i ∧ i ≤ l.length + 1 ∧ j ≤ i ∧ done.length ≤ i ∧ wr.ownsRow w.heap.size strT 1 u done.length (sv done) ∧ K0 w wr ∧
      (if i ≤ l.length then splitB c l = done ++ (((l.take i).drop j ++ (splitB c (l.drop i)).headD []) :: (splitB c (l.drop i)).tail) else splitB c l = done)) (l.length + 1) ⟨_, rfl, 0, 0, _, [], rfl, rfl, Nat.zero_le _, Nat.le_refl _, Nat.le_refl _, World.ownsRow_nil _ _ _ _, Kept.refl _ _, ?_⟩ ?_
  · rw [if_pos (Nat.zero_le _)]
    have := splitB_ne c l
    cases h : splitB c l with
    | nil => exact absurd h this
    | cons a r => simp [h]
  rintro m vals wr ⟨i, j, u, done, rfl, rfl, hil, hji, hdl, how, hk, hsp⟩
  dsimp only [List.zip, List.zipWith]
  have hsz := hk.size
  rcases Nat.lt_or_ge l.length i with hgt | hle
  · rw [if_neg (by omega)] at hsp
    have hd : done = splitB c l := hsp.symm
    subst hd
    repeat' (first | (refine CL.seq ?_) | (refine CL.region ?_) | (refine CL.condP rfl (fun _ => ?_) (fun _ => ?_) <;> try (exfalso; omega)) | (refine CL.exit ?_) | (refine Ex.then ?_) | (refine Ex.hit ?_) | (refine CL.ret ?_) | (refine Gt.nil ?_; refine RW.nilw [0, 1, 4, 5, 6, 7, 11, 24] ?_; dsimp only [H.keep, H.look, H.Fr.put, Nat.beq]) | (refine Gt.move ?_; refine RW.y (Y.move rfl) rfl ?_) | (refine Gt.assign ?_; refine RW.y (Y.assign rfl) rfl ?_) | (refine Gt.len ?_; refine RW.y (Y.lens rfl) rfl ?_) | (refine Gt.leq ?_; refine RW.y (Y.leq rfl rfl) rfl ?_))
    exact FQ.one rfl rfl rfl ⟨_, rfl, how, hk⟩
  rw [if_pos hle] at hsp
  rcases Nat.lt_or_ge i l.length with hlt | hge
  · have hdrop : l.drop i = l.getD i 0 :: l.drop (i + 1) := by rw [List.drop_eq_getElem_cons hlt]; simp [List.getD_eq_getElem?_getD, hlt]
    have htk : (l.take (i + 1)).drop j = (l.take i).drop j ++ [l.getD i 0] := by
      rw [List.take_succ_eq_append_getElem hlt, List.drop_append_of_le_length (by rw [List.length_take]; omega)]
      simp [List.getD_eq_getElem?_getD, hlt]
    have hlast : splitB c (l.drop (i + 1)) = (splitB c (l.drop (i + 1))).headD [] :: (splitB c (l.drop (i + 1))).tail := by
      have := splitB_ne c (l.drop (i + 1))
      cases h : splitB c (l.drop (i + 1)) with
      | nil => exact absurd h this
      | cons a r => rfl
    rw [hdrop, splitB] at hsp
    repeat' (first | (refine CL.seq ?_) | (refine CL.region ?_) | (refine CL.skip ?_) | (refine CL.condP rfl (fun _ => ?_) (fun _ => ?_) <;> try (exfalso; omega)) | (refine CL.block ?_) | (refine CL.done ?_) | (refine Nm.block ?_) | (refine Nm.then ?_) | (refine Gt.nil ?_; refine RW.nilw [0, 1, 4, 5, 6, 7, 11, 24] ?_; dsimp only [H.keep, H.look, H.Fr.put, Nat.beq]) | (refine Gt.move ?_; refine RW.y (Y.move rfl) rfl ?_) | (refine Gt.guard ?_; first | (refine RW.part rfl rfl rfl (fun _ => ?_) (fun _ => ?_) <;> try (exfalso; omega)) | (refine RW.on rfl rfl rfl ?_)) | (refine Gt.assign ?_; refine RW.y (Y.assign rfl) rfl ?_) | (refine Gt.len ?_; refine RW.y (Y.lens rfl) rfl ?_) | (refine Gt.eql ?_; refine RW.y (Y.eqi rfl rfl) rfl ?_) | (refine Gt.add ?_; refine RW.y (Y.add64 rfl rfl (by omega) (by omega)) rfl ?_) | (refine Gt.leq ?_; refine RW.y (Y.leq rfl rfl) rfl ?_) | (refine Gt.index ?_; refine RW.y (Y.idxs rfl rfl (by omega) (by omega)) rfl ?_) | (refine Gt.pick ?_; (refine RW.y (Y.pickF rfl rfl) rfl ?_)) | (refine Gt.slice ?_; refine RW.y (Y.cutlh rfl rfl rfl (by omega) (by omega) (by omega)) rfl ?_))
    · rename_i h
      rw [Int.toNat_natCast] at h
      have hx : l.getD i 0 = c := u8_eq h
      rw [if_pos hx] at hsp
      have hcut : (l.take ((i : Int)).toNat).drop ((j : Int)).toNat = (l.take i).drop j := by rw [Int.toNat_natCast, Int.toNat_natCast]
      rw [hcut]
      refine RW.app1 rfl rfl rfl rfl how rfl rfl rfl rfl (one_vs _) (by omega) (by omega) (by omega) (fun u' w1 how' hk' hl' => ?_)
      repeat' (first | (refine CL.region ?_) | (refine CL.done ?_) | (refine Nm.block ?_) | (refine Nm.then ?_) | (refine Gt.nil ?_; refine RW.nilw [0, 1, 4, 5, 6, 7, 11, 24] ?_; dsimp only [H.keep, H.look, H.Fr.put, Nat.beq]) | (refine Gt.move ?_; refine RW.y (Y.move rfl) rfl ?_) | (refine Gt.assign ?_; refine RW.y (Y.assign rfl) rfl ?_) | (refine Gt.add ?_; refine RW.y (Y.add64 rfl rfl (by omega) (by omega)) rfl ?_))
      refine ⟨l.length + 1 - (i + 1), _, rfl, rfl, rfl, by omega, i + 1, i + 1, u', done ++ [(l.take i).drop j], by simp, rfl, by omega, by omega, by simp; omega, by simpa [Value.cells] using how', hk.trans hk' fun k h => .inr (how.lt k h).1, ?_⟩
      rw [if_pos (by omega)]
      have : (l.take (i + 1)).drop (i + 1) = [] := by rw [List.drop_eq_nil_iff, List.length_take]; omega
      rw [this, List.nil_append, ← hlast, hsp]
      simp
    · rename_i h
      rw [Int.toNat_natCast] at h
      have hx : ¬ l.getD i 0 = c := fun q => h (by rw [q])
      rw [if_neg hx] at hsp
      refine ⟨l.length + 1 - (i + 1), _, rfl, rfl, rfl, by omega, i + 1, j, u, done, by simp, rfl, by omega, by omega, by omega, how, hk, ?_⟩
      rw [if_pos (by omega), htk, hsp]
      simp
  · have hi : i = l.length := by omega
    subst hi
    rw [List.drop_length] at hsp
    have hcut : (l.take ((l.length : Int)).toNat).drop ((j : Int)).toNat = (l.take l.length).drop j := by rw [Int.toNat_natCast, Int.toNat_natCast]
    repeat' (first | (refine CL.seq ?_) | (refine CL.region ?_) | (refine CL.skip ?_) | (refine CL.condP rfl (fun _ => ?_) (fun _ => ?_) <;> try (exfalso; omega)) | (refine CL.condT rfl ?_) | (refine CL.block ?_) | (refine Gt.nil ?_; refine RW.nilw [0, 1, 4, 5, 6, 7, 11, 24] ?_; dsimp only [H.keep, H.look, H.Fr.put, Nat.beq]) | (refine Gt.move ?_; refine RW.y (Y.move rfl) rfl ?_) | (refine Gt.guard ?_; first | (refine RW.part rfl rfl rfl (fun _ => ?_) (fun _ => ?_) <;> try (exfalso; omega)) | (refine RW.off1 rfl rfl rfl rfl rfl ?_)) | (refine Gt.len ?_; refine RW.y (Y.lens rfl) rfl ?_) | (refine Gt.eql ?_; refine RW.y (Y.eqi rfl rfl) rfl ?_) | (refine Gt.leq ?_; refine RW.y (Y.leq rfl rfl) rfl ?_) | (refine Gt.pick ?_; (refine RW.y (Y.pickT rfl rfl) rfl ?_)) | (refine Gt.slice ?_; refine RW.y (Y.cutlh rfl rfl rfl (by omega) (by omega) (by omega)) rfl ?_))
    rw [hcut]
    refine RW.app1 rfl rfl rfl rfl how rfl rfl rfl rfl (one_vs _) (by omega) (by omega) (by omega) (fun u' w1 how' hk' hl' => ?_)
    repeat' (first | (refine CL.region ?_) | (refine CL.done ?_) | (refine Nm.block ?_) | (refine Nm.then ?_) | (refine Gt.nil ?_; refine RW.nilw [0, 1, 4, 5, 6, 7, 11, 24] ?_; dsimp only [H.keep, H.look, H.Fr.put, Nat.beq]) | (refine Gt.move ?_; refine RW.y (Y.move rfl) rfl ?_) | (refine Gt.assign ?_; refine RW.y (Y.assign rfl) rfl ?_) | (refine Gt.add ?_; refine RW.y (Y.add64 rfl rfl (by omega) (by omega)) rfl ?_))
    refine ⟨l.length + 1 - (l.length + 1), _, rfl, rfl, rfl, by omega, l.length + 1, l.length + 1, u', done ++ [(l.take l.length).drop j], by simp, rfl, by omega, by omega, by simp; omega, by simpa [Value.cells] using how', hk.trans hk' fun k h => .inr (how.lt k h).1, ?_⟩
    rw [if_neg (by omega), hsp]
    simp [splitB]


theorem refDigits (l : T) (hl : l.length ≤ 1000000000000) (w : World) : Calls Tryz.prog 52 #[vs l] w fun e w' => w = w' ∧ e = .returned (.bool (digB l)) := by
  refine H.enter Tryz.func52 Tryz.ntmps52 rfl rfl ?_; dsimp only [H.args]
  repeat' (first | (refine CL.seq ?_) | (refine CL.region ?_) | (refine CL.block ?_) | (refine Gt.nil ?_; refine RW.nilw [0, 2, 3, 7, 19] ?_; dsimp only [H.keep, H.look, H.Fr.put, Nat.beq]) | (refine Gt.assign ?_; refine RW.y (Y.assign rfl) rfl ?_))
  refine CL.loopS [0, 2, 3] (fun k vals wr => ∃ (i : Nat) (b : Bool), vals = [vs l, .bool b, .int .i64 (i : Int)] ∧ k = l.length - i ∧ i ≤ l.length ∧ (l.take i).all isDig = true ∧ wr = w) l.length ⟨_, rfl, 0, false, rfl, rfl, Nat.zero_le _, rfl, rfl⟩ ?_
  rintro k vals wr ⟨i, b, rfl, rfl, hi, hall, rfl⟩
  dsimp only [List.zip, List.zipWith]
  rcases Nat.lt_or_ge i l.length with hlt | hge
  · repeat' (first | (refine CL.seq ?_) | (refine CL.region ?_) | (refine CL.skip ?_) | (refine CL.condP rfl (fun _ => ?_) (fun _ => ?_) <;> try (exfalso; omega)) | (refine CL.condT rfl ?_) | (refine CL.block ?_) | (refine CL.ret ?_) | (refine Rt.then ?_) | (refine Rt.block ?_) | (refine CL.done ?_) | (refine Nm.block ?_) | (refine Nm.then ?_) | (refine Gt.nil ?_; refine RW.nilw [0, 2, 3, 7, 19] ?_; dsimp only [H.keep, H.look, H.Fr.put, Nat.beq]) | (refine Gt.move ?_; refine RW.y (Y.move rfl) rfl ?_) | (refine Gt.guard ?_; first | (refine RW.part rfl rfl rfl (fun _ => ?_) (fun _ => ?_) <;> try (exfalso; omega)) | (refine RW.on rfl rfl rfl ?_) | (refine RW.off1 rfl rfl rfl rfl rfl ?_)) | (refine Gt.assign ?_; refine RW.y (Y.assign rfl) rfl ?_) | (refine Gt.lss ?_; refine RW.y (Y.lss rfl rfl) rfl ?_) | (refine Gt.index ?_; refine RW.y (Y.idxs rfl rfl (by omega) (by omega)) rfl ?_) | (refine Gt.len ?_; refine RW.y (Y.lens rfl) rfl ?_) | (refine Gt.gtr ?_; refine RW.y (Y.gtr rfl rfl) rfl ?_) | (refine Gt.pick ?_; first | (refine RW.y (Y.pickT rfl rfl) rfl ?_) | (refine RW.y (Y.pickF rfl rfl) rfl ?_)) | (refine Gt.add ?_; refine RW.y (Y.add64 rfl rfl (by omega) (by omega)) rfl ?_))
    · rename_i h
      exact FQ.one rfl rfl rfl ⟨rfl, by rw [dig_none (all_false 0 hlt (dig_lo h))]⟩
    · rename_i h1 h2
      exact FQ.one rfl rfl rfl ⟨rfl, by rw [dig_none (all_false 0 hlt (dig_lo2 h2))]⟩
    · rename_i h1 h2
      exact ⟨l.length - (i + 1), _, rfl, rfl, rfl, by omega, i + 1, b, rfl, rfl, by omega, all_step 0 hlt hall (dig_hi h1 h2), rfl⟩
  · have hi : i = l.length := by omega
    subst hi
    rw [List.take_length] at hall
    repeat' (first | (refine CL.seq ?_) | (refine CL.region ?_) | (refine CL.condP rfl (fun _ => ?_) (fun _ => ?_) <;> try (exfalso; omega)) | (refine CL.exit ?_) | (refine Ex.then ?_) | (refine Ex.hit ?_) | (refine CL.ret ?_) | (refine Gt.nil ?_; refine RW.nilw [0, 2, 3, 7, 19] ?_; dsimp only [H.keep, H.look, H.Fr.put, Nat.beq]) | (refine Gt.move ?_; refine RW.y (Y.move rfl) rfl ?_) | (refine Gt.assign ?_; refine RW.y (Y.assign rfl) rfl ?_) | (refine Gt.lss ?_; refine RW.y (Y.lss rfl rfl) rfl ?_) | (refine Gt.len ?_; refine RW.y (Y.lens rfl) rfl ?_) | (refine Gt.neq ?_; refine RW.y (Y.nes rfl rfl) rfl ?_))
    exact FQ.one rfl rfl rfl ⟨rfl, by rw [dig_all hall]⟩

theorem numB_of (l : T) (h : numB l = true) : digB l = true ∧ l.length ≤ 9 ∧ plainB l = true := by
  simp only [numB, Bool.and_eq_true, decide_eq_true_eq] at h
  exact ⟨h.1.1, h.1.2, h.2⟩

set_option maxHeartbeats 400000 in
theorem refNumber (l : T) (hl : l.length ≤ 1000000000000) (w : World) : Calls Tryz.prog 39 #[vs l, .int .i64 999999999] w fun e w' => w = w' ∧ ∃ n : Int, e = .returned (.tuple #[.int .i64 n, .bool (numB l)]) ∧ (numB l = true → n = val l) := by
  refine H.enter Tryz.func39 Tryz.ntmps39 rfl rfl ?_; dsimp only [H.args]
  repeat' (first | (refine CL.seq ?_) | (refine CL.region ?_) | (refine Gt.nil ?_; refine RW.nilw [0, 1, 4, 5, 6, 7, 25, 29] ?_; dsimp only [H.keep, H.look, H.Fr.put, Nat.beq]) | (refine Gt.move ?_; refine RW.y (Y.move rfl) rfl ?_) | (refine Gt.assign ?_; refine RW.y (Y.assign rfl) rfl ?_))
  refine RW.fn rfl rfl ((refDigits l hl w).mono ?_)
  rintro e w' ⟨rfl, rfl⟩
  have hr := num_ref l
  cases hd : digB l
  · have hn : numB l = false := by simp [numB, hd]
    rw [hn]
    repeat' (first | (refine CL.seq ?_) | (refine CL.region ?_) | (refine CL.condT rfl ?_) | (refine CL.ret ?_) | (refine Gt.nil ?_; refine RW.nilw [0, 1, 4, 5, 6, 7, 25, 29] ?_; dsimp only [H.keep, H.look, H.Fr.put, Nat.beq]) | (refine Gt.move ?_; refine RW.y (Y.move rfl) rfl ?_) | (refine Gt.guard ?_; first | (refine RW.off1 rfl rfl rfl rfl rfl ?_) | (refine RW.offu rfl rfl rfl rfl ?_)) | (refine Gt.assign ?_; refine RW.y (Y.assign rfl) rfl ?_) | (refine Gt.pick ?_; (refine RW.y (Y.pickT rfl rfl) rfl ?_)) | (refine Gt.not ?_; (refine RW.y (Y.notb rfl) rfl ?_)))
    exact FQ.res (rs := [.tmp 4, .tmp 5]) (vs := [_, _]) rfl rfl ⟨rfl, rfl, trivial⟩ rfl (⟨rfl, _, rfl, fun c => by cases c⟩)
  · rw [hd] at hr
    have hd' := hd
    simp only [digB, Bool.and_eq_true, decide_eq_true_eq] at hd'
    have hpos := List.length_pos_iff.2 hd'.1
    repeat' (first | (refine CL.seq ?_) | (refine CL.region ?_) | (refine CL.skip ?_) | (refine CL.condP rfl (fun _ => ?_) (fun _ => ?_) <;> try (exfalso; omega)) | (refine CL.condT rfl ?_) | (refine CL.block ?_) | (refine CL.ret ?_) | (refine Gt.nil ?_; refine RW.nilw [0, 1, 4, 5, 6, 7, 25, 29] ?_; dsimp only [H.keep, H.look, H.Fr.put, Nat.beq]) | (refine Gt.move ?_; refine RW.y (Y.move rfl) rfl ?_) | (refine Gt.guard ?_; first | (refine RW.part rfl rfl rfl (fun _ => ?_) (fun _ => ?_) <;> try (exfalso; omega)) | (refine RW.on rfl rfl rfl ?_) | (refine RW.off1 rfl rfl rfl rfl rfl ?_)) | (refine Gt.assign ?_; refine RW.y (Y.assign rfl) rfl ?_) | (refine Gt.len ?_; refine RW.y (Y.lens rfl) rfl ?_) | (refine Gt.pick ?_; first | (refine RW.y (Y.pickT rfl rfl) rfl ?_) | (refine RW.y (Y.pickF rfl rfl) rfl ?_)) | (refine Gt.gtr ?_; refine RW.y (Y.gtr rfl rfl) rfl ?_) | (refine Gt.index ?_; refine RW.y (Y.idxs rfl rfl (by omega) (by omega)) rfl ?_) | (refine Gt.not ?_; (refine RW.y (Y.notb rfl) rfl ?_)) | (refine Gt.eql ?_; refine RW.y (Y.eqi rfl rfl) rfl ?_))
    · rename_i h1 h2
      have hn : numB l = false := by rw [Bool.eq_false_iff, Ne, ← hr]; exact fun c => c.2.1 ⟨by omega, u8_eq (by simpa using h2)⟩
      rw [hn]
      exact FQ.res (rs := [.tmp 4, .tmp 5]) (vs := [_, _]) rfl rfl ⟨rfl, rfl, trivial⟩ rfl (⟨rfl, _, rfl, fun c => by cases c⟩)
    · have hn : numB l = false := by rw [Bool.eq_false_iff, Ne, ← hr]; exact fun c => by have := c.2.2.1; omega
      rw [hn]
      exact FQ.res (rs := [.tmp 4, .tmp 5]) (vs := [_, _]) rfl rfl ⟨rfl, rfl, trivial⟩ rfl (⟨rfl, _, rfl, fun c => by cases c⟩)
    · rename_i h1 h2 h3
      have hno : ¬ (1 < l.length ∧ l.getD 0 0 = 48) := fun c => h2 (by rw [show Int.toNat 0 = 0 from rfl, c.2]; rfl)
      refine CL.loopS [0, 1, 6, 7] (fun k vals wr => ∃ (i : Nat), vals = [vs l, .int .i64 999999999, .int .i64 (val (l.take i) : Int), .int .i64 (i : Int)] ∧ k = l.length - i ∧ i ≤ l.length ∧ wr = w) l.length ⟨_, rfl, 0, rfl, rfl, Nat.zero_le _, rfl⟩ ?_
      rintro k vals wr ⟨i, rfl, rfl, hi, rfl⟩
      dsimp only [List.zip, List.zipWith]
      rcases Nat.lt_or_ge i l.length with hlt | hge
      · have hv := val_lt (l.take i).length (l.take i) rfl (List.all_eq_true.2 fun x hx => List.all_eq_true.1 hd'.2 x (List.mem_of_mem_take hx))
        have hv2 : 10 ^ (l.take i).length ≤ 10 ^ 9 := Nat.pow_le_pow_right (by decide) (by rw [List.length_take]; omega)
        have e9 : (10 : Nat) ^ 9 = 1000000000 := by decide
        have hdg := List.all_eq_true.1 hd'.2 _ (getD_mem 0 hlt)
        simp only [isDig, Bool.and_eq_true, decide_eq_true_eq] at hdg
        have hi2 : ((i : Int)).toNat = i := Int.toNat_natCast i
        rw [← hi2] at hdg
        repeat' (first | (refine CL.seq ?_) | (refine CL.region ?_) | (refine CL.skip ?_) | (refine CL.condP rfl (fun _ => ?_) (fun _ => ?_) <;> try (exfalso; omega)) | (refine CL.block ?_) | (refine CL.done ?_) | (refine Nm.block ?_) | (refine Nm.then ?_) | (refine Gt.nil ?_; refine RW.nilw [0, 1, 4, 5, 6, 7, 25, 29] ?_; dsimp only [H.keep, H.look, H.Fr.put, Nat.beq]) | (refine Gt.move ?_; refine RW.y (Y.move rfl) rfl ?_) | (refine Gt.assign ?_; refine RW.y (Y.assign rfl) rfl ?_) | (refine Gt.len ?_; refine RW.y (Y.lens rfl) rfl ?_) | (refine Gt.index ?_; refine RW.y (Y.idxs rfl rfl (by omega) (by omega)) rfl ?_) | (refine Gt.add ?_; refine RW.y (Y.add64 rfl rfl (by omega) (by omega)) rfl ?_) | (refine Gt.lss ?_; refine RW.y (Y.lss rfl rfl) rfl ?_) | (refine Gt.mul ?_; (refine RW.y (Y.mul64 rfl rfl (by omega) (by omega)) rfl ?_)) | (refine Gt.sub ?_; refine RW.y (Y.subN rfl rfl (by exact wrapu8_id (by omega) (by omega))) rfl ?_) | (refine Gt.convert ?_; (refine RW.y (Y.convN rfl (by exact wrap64_id (by omega) (by omega))) rfl ?_)))
        refine ⟨l.length - (i + 1), _, rfl, rfl, rfl, by omega, i + 1, ?_, rfl, by omega, rfl⟩
        rw [take_snoc 0 l i hlt, val_snoc, hi2]
        rw [hi2] at hdg
        rw [show ((10 * val (l.take i) + ((l.getD i 0).toNat - 48) : Nat) : Int) = 10 * (val (l.take i) : Int) + (((l.getD i 0).toNat : Int) - 48) from by omega]
        rfl
      · have hi : i = l.length := by omega
        subst hi
        rw [List.take_length]
        repeat' (first | (refine CL.seq ?_) | (refine CL.region ?_) | (refine CL.condP rfl (fun _ => ?_) (fun _ => ?_) <;> try (exfalso; omega)) | (refine CL.exit ?_) | (refine Ex.then ?_) | (refine Ex.hit ?_) | (refine CL.ret ?_) | (refine Gt.nil ?_; refine RW.nilw [0, 1, 4, 5, 6, 7, 25, 29] ?_; dsimp only [H.keep, H.look, H.Fr.put, Nat.beq]) | (refine Gt.move ?_; refine RW.y (Y.move rfl) rfl ?_) | (refine Gt.assign ?_; refine RW.y (Y.assign rfl) rfl ?_) | (refine Gt.len ?_; refine RW.y (Y.lens rfl) rfl ?_) | (refine Gt.lss ?_; refine RW.y (Y.lss rfl rfl) rfl ?_) | (refine Gt.leq ?_; refine RW.y (Y.leq rfl rfl) rfl ?_))
        refine FQ.res (rs := [.tmp 4, .tmp 5]) (vs := [_, _]) rfl rfl ⟨rfl, rfl, trivial⟩ rfl (⟨rfl, _, congrArg Ending.returned (congrArg (fun b => Value.tuple #[_, .bool b]) ?_), fun _ => rfl⟩)
        rw [Bool.eq_iff_iff, ← hr, decide_eq_true_eq]
        exact ⟨fun c => ⟨rfl, hno, by omega, by omega⟩, fun c => by have := c.2.2.2; omega⟩
    · rename_i h1 h3
      have hno : ¬ (1 < l.length ∧ l.getD 0 0 = 48) := fun c => h1 (by omega)
      refine CL.loopS [0, 1, 6, 7] (fun k vals wr => ∃ (i : Nat), vals = [vs l, .int .i64 999999999, .int .i64 (val (l.take i) : Int), .int .i64 (i : Int)] ∧ k = l.length - i ∧ i ≤ l.length ∧ wr = w) l.length ⟨_, rfl, 0, rfl, rfl, Nat.zero_le _, rfl⟩ ?_
      rintro k vals wr ⟨i, rfl, rfl, hi, rfl⟩
      dsimp only [List.zip, List.zipWith]
      rcases Nat.lt_or_ge i l.length with hlt | hge
      · have hv := val_lt (l.take i).length (l.take i) rfl (List.all_eq_true.2 fun x hx => List.all_eq_true.1 hd'.2 x (List.mem_of_mem_take hx))
        have hv2 : 10 ^ (l.take i).length ≤ 10 ^ 9 := Nat.pow_le_pow_right (by decide) (by rw [List.length_take]; omega)
        have e9 : (10 : Nat) ^ 9 = 1000000000 := by decide
        have hdg := List.all_eq_true.1 hd'.2 _ (getD_mem 0 hlt)
        simp only [isDig, Bool.and_eq_true, decide_eq_true_eq] at hdg
        have hi2 : ((i : Int)).toNat = i := Int.toNat_natCast i
        rw [← hi2] at hdg
        repeat' (first | (refine CL.seq ?_) | (refine CL.region ?_) | (refine CL.skip ?_) | (refine CL.condP rfl (fun _ => ?_) (fun _ => ?_) <;> try (exfalso; omega)) | (refine CL.block ?_) | (refine CL.done ?_) | (refine Nm.block ?_) | (refine Nm.then ?_) | (refine Gt.nil ?_; refine RW.nilw [0, 1, 4, 5, 6, 7, 25, 29] ?_; dsimp only [H.keep, H.look, H.Fr.put, Nat.beq]) | (refine Gt.move ?_; refine RW.y (Y.move rfl) rfl ?_) | (refine Gt.assign ?_; refine RW.y (Y.assign rfl) rfl ?_) | (refine Gt.len ?_; refine RW.y (Y.lens rfl) rfl ?_) | (refine Gt.index ?_; refine RW.y (Y.idxs rfl rfl (by omega) (by omega)) rfl ?_) | (refine Gt.add ?_; refine RW.y (Y.add64 rfl rfl (by omega) (by omega)) rfl ?_) | (refine Gt.lss ?_; refine RW.y (Y.lss rfl rfl) rfl ?_) | (refine Gt.mul ?_; (refine RW.y (Y.mul64 rfl rfl (by omega) (by omega)) rfl ?_)) | (refine Gt.sub ?_; refine RW.y (Y.subN rfl rfl (by exact wrapu8_id (by omega) (by omega))) rfl ?_) | (refine Gt.convert ?_; (refine RW.y (Y.convN rfl (by exact wrap64_id (by omega) (by omega))) rfl ?_)))
        refine ⟨l.length - (i + 1), _, rfl, rfl, rfl, by omega, i + 1, ?_, rfl, by omega, rfl⟩
        rw [take_snoc 0 l i hlt, val_snoc, hi2]
        rw [hi2] at hdg
        rw [show ((10 * val (l.take i) + ((l.getD i 0).toNat - 48) : Nat) : Int) = 10 * (val (l.take i) : Int) + (((l.getD i 0).toNat : Int) - 48) from by omega]
        rfl
      · have hi : i = l.length := by omega
        subst hi
        rw [List.take_length]
        repeat' (first | (refine CL.seq ?_) | (refine CL.region ?_) | (refine CL.condP rfl (fun _ => ?_) (fun _ => ?_) <;> try (exfalso; omega)) | (refine CL.exit ?_) | (refine Ex.then ?_) | (refine Ex.hit ?_) | (refine CL.ret ?_) | (refine Gt.nil ?_; refine RW.nilw [0, 1, 4, 5, 6, 7, 25, 29] ?_; dsimp only [H.keep, H.look, H.Fr.put, Nat.beq]) | (refine Gt.move ?_; refine RW.y (Y.move rfl) rfl ?_) | (refine Gt.assign ?_; refine RW.y (Y.assign rfl) rfl ?_) | (refine Gt.len ?_; refine RW.y (Y.lens rfl) rfl ?_) | (refine Gt.lss ?_; refine RW.y (Y.lss rfl rfl) rfl ?_) | (refine Gt.leq ?_; refine RW.y (Y.leq rfl rfl) rfl ?_))
        refine FQ.res (rs := [.tmp 4, .tmp 5]) (vs := [_, _]) rfl rfl ⟨rfl, rfl, trivial⟩ rfl (⟨rfl, _, congrArg Ending.returned (congrArg (fun b => Value.tuple #[_, .bool b]) ?_), fun _ => rfl⟩)
        rw [Bool.eq_iff_iff, ← hr, decide_eq_true_eq]
        exact ⟨fun c => ⟨rfl, hno, by omega, by omega⟩, fun c => by have := c.2.2.2; omega⟩

set_option maxHeartbeats 1000000 in
theorem refMark (l : T) (hl : l.length ≤ 1000000000000) (w : World) : Calls Tryz.prog 38 #[vs l] w fun e w' => w = w' ∧ e = .returned (.bool (markB l)) := by
  refine H.enter Tryz.func38 Tryz.ntmps38 rfl rfl ?_; dsimp only [H.args]
  repeat' (first | (refine CL.seq ?_) | (refine CL.region ?_) | (refine CL.skip ?_) | (refine CL.condP rfl (fun _ => ?_) (fun _ => ?_) <;> try (exfalso; omega)) | (refine CL.condT rfl ?_) | (refine CL.block ?_) | (refine CL.ret ?_) | (refine Gt.nil ?_; refine RW.nilw [0, 2, 3, 4, 12, 16, 48] ?_; dsimp only [H.keep, H.look, H.Fr.put, Nat.beq]) | (refine Gt.move ?_; refine RW.y (Y.move rfl) rfl ?_) | (refine Gt.guard ?_; first | (refine RW.part rfl rfl rfl (fun _ => ?_) (fun _ => ?_) <;> try (exfalso; omega)) | (refine RW.on rfl rfl rfl ?_) | (refine RW.off1 rfl rfl rfl rfl rfl ?_)) | (refine Gt.pick ?_; first | (refine RW.y (Y.pickT rfl rfl) rfl ?_) | (refine RW.y (Y.pickF rfl rfl) rfl ?_)) | (refine Gt.assign ?_; refine RW.y (Y.assign rfl) rfl ?_) | (refine Gt.len ?_; refine RW.y (Y.lens rfl) rfl ?_) | (refine Gt.lss ?_; refine RW.y (Y.lss rfl rfl) rfl ?_) | (refine Gt.gtr ?_; refine RW.y (Y.gtr rfl rfl) rfl ?_))
  · exact FQ.one rfl rfl rfl ⟨rfl, retb (by rw [mark_iff]; refine iff_of_false (by simp) (fun c => ?_); have := List.length_pos_iff.2 c.1.1; omega)⟩
  · exact FQ.one rfl rfl rfl ⟨rfl, retb (by rw [mark_iff]; exact iff_of_false (by simp) (fun c => by have := c.1.2.1; omega))⟩
  rename_i h1 h16
  have hne : l ≠ [] := List.length_pos_iff.1 (by omega)
  refine CL.loopS [0, 2, 3] (fun k vals wr => ∃ (i : Nat) (b : Bool), vals = [vs l, .bool b, .int .i64 (i : Int)] ∧ k = l.length - i ∧ i ≤ l.length ∧ (l.take i).all isSign = true ∧ wr = w) l.length ⟨_, rfl, 0, false, rfl, rfl, Nat.zero_le _, rfl, rfl⟩ ?_
  rintro k vals wr ⟨i, b, rfl, rfl, hi, hall, rfl⟩
  dsimp only [List.zip, List.zipWith]
  rcases Nat.lt_or_ge i l.length with hlt | hge
  · have hi2 : ((i : Int)).toNat = i := Int.toNat_natCast i
    have hs := isSign_iff (l.getD ((i : Int)).toNat 0)
    have hbad : isSign (l.getD ((i : Int)).toNat 0) = false → markB l = false := fun c => by rw [hi2] at c; rw [Bool.eq_false_iff, Ne, mark_iff, all_false 0 hlt c]; simp
    have hst : isSign (l.getD ((i : Int)).toNat 0) = true → (l.take (i + 1)).all isSign = true := fun c => by rw [hi2] at c; exact all_step 0 hlt hall c
    repeat' (first | (refine CL.seq ?_) | (refine CL.region ?_) | (refine CL.skip ?_) | (refine CL.condP rfl (fun _ => ?_) (fun _ => ?_) <;> try (exfalso; omega)) | (refine CL.condF rfl ?_) | (refine CL.block ?_) | (refine CL.ret ?_) | (refine Rt.then ?_) | (refine Rt.block ?_) | (refine CL.done ?_) | (refine Nm.block ?_) | (refine Nm.then ?_) | (refine Gt.nil ?_; refine RW.nilw [0, 2, 3, 4, 12, 16, 48] ?_; dsimp only [H.keep, H.look, H.Fr.put, Nat.beq]) | (refine Gt.move ?_; refine RW.y (Y.move rfl) rfl ?_) | (refine Gt.guard ?_; first | (refine RW.part rfl rfl rfl (fun _ => ?_) (fun _ => ?_) <;> try (exfalso; omega)) | (refine RW.on rfl rfl rfl ?_) | (refine RW.off1 rfl rfl rfl rfl rfl ?_) | (refine RW.offu rfl rfl rfl rfl ?_)) | (refine Gt.pick ?_; first | (refine RW.y (Y.pickT rfl rfl) rfl ?_) | (refine RW.y (Y.pickF rfl rfl) rfl ?_)) | (refine Gt.assign ?_; refine RW.y (Y.assign rfl) rfl ?_) | (refine Gt.len ?_; refine RW.y (Y.lens rfl) rfl ?_) | (refine Gt.geq ?_; refine RW.y (Y.geq rfl rfl) rfl ?_) | (refine Gt.leq ?_; refine RW.y (Y.leq rfl rfl) rfl ?_) | (refine Gt.lss ?_; refine RW.y (Y.lss rfl rfl) rfl ?_) | (refine Gt.index ?_; refine RW.y (Y.idxs rfl rfl (by omega) (by omega)) rfl ?_) | (refine Gt.not ?_; first | (refine RW.y (Y.not rfl) rfl ?_) | (refine RW.y (Y.notb rfl) rfl ?_)) | (refine Gt.eql ?_; (refine RW.y (Y.eqi rfl rfl) rfl ?_)) | (refine Gt.add ?_; refine RW.y (Y.add64 rfl rfl (by omega) (by omega)) rfl ?_))
    all_goals first
      | exact FQ.one rfl rfl rfl ⟨rfl, by rw [hbad (by rw [Bool.eq_false_iff, Ne, hs]; omega)]⟩
      | exact ⟨l.length - (i + 1), _, rfl, rfl, rfl, by omega, i + 1, b, rfl, rfl, by omega, hst (by rw [hs]; omega), rfl⟩
  · have hi : i = l.length := by omega
    subst hi
    rw [List.take_length] at hall
    repeat' (first | (refine CL.seq ?_) | (refine CL.region ?_) | (refine CL.condP rfl (fun _ => ?_) (fun _ => ?_) <;> try (exfalso; omega)) | (refine CL.exit ?_) | (refine Ex.then ?_) | (refine Ex.hit ?_) | (refine Gt.nil ?_; refine RW.nilw [0, 2, 3, 4, 12, 16, 48] ?_; dsimp only [H.keep, H.look, H.Fr.put, Nat.beq]) | (refine Gt.move ?_; refine RW.y (Y.move rfl) rfl ?_) | (refine Gt.len ?_; refine RW.y (Y.lens rfl) rfl ?_) | (refine Gt.lss ?_; refine RW.y (Y.lss rfl rfl) rfl ?_))
    refine RW.fn rfl rfl ((refDigits l hl wr).mono ?_)
    rintro e w' ⟨rfl, rfl⟩
    cases hd : digB l
    · repeat' (first | (refine CL.ret ?_) | (refine Gt.nil ?_; refine RW.nilw [0, 2, 3, 4, 12, 16, 48] ?_; dsimp only [H.keep, H.look, H.Fr.put, Nat.beq]) | (refine Gt.move ?_; refine RW.y (Y.move rfl) rfl ?_) | (refine Gt.guard ?_; (refine RW.off1 rfl rfl rfl rfl rfl ?_)) | (refine Gt.pick ?_; (refine RW.y (Y.pickT rfl rfl) rfl ?_)) | (refine Gt.assign ?_; refine RW.y (Y.assign rfl) rfl ?_) | (refine Gt.not ?_; (refine RW.y (Y.notb rfl) rfl ?_)))
      exact FQ.one rfl rfl rfl ⟨rfl, retb (by rw [mark_iff]; exact iff_of_true rfl ⟨⟨hne, by omega, fun c => by rw [hd] at c; cases c⟩, hall⟩)⟩
    · repeat' (first | (refine CL.ret ?_) | (refine Gt.nil ?_; refine RW.nilw [0, 2, 3, 4, 12, 16, 48] ?_; dsimp only [H.keep, H.look, H.Fr.put, Nat.beq]) | (refine Gt.move ?_; refine RW.y (Y.move rfl) rfl ?_) | (refine Gt.guard ?_; first | (refine RW.part rfl rfl rfl (fun _ => ?_) (fun _ => ?_) <;> try (exfalso; omega)) | (refine RW.on rfl rfl rfl ?_) | (refine RW.off1 rfl rfl rfl rfl rfl ?_)) | (refine Gt.pick ?_; first | (refine RW.y (Y.pickT rfl rfl) rfl ?_) | (refine RW.y (Y.pickF rfl rfl) rfl ?_)) | (refine Gt.assign ?_; refine RW.y (Y.assign rfl) rfl ?_) | (refine Gt.index ?_; refine RW.y (Y.idxs rfl rfl (by omega) (by omega)) rfl ?_) | (refine Gt.not ?_; (refine RW.y (Y.notb rfl) rfl ?_)) | (refine Gt.eql ?_; (refine RW.y (Y.eqs rfl rfl) rfl ?_)) | (refine Gt.neq ?_; refine RW.y (Y.nei rfl rfl) rfl ?_))
      · rename_i h
        exact FQ.one rfl rfl rfl ⟨rfl, retb (by rw [mark_iff]; exact iff_of_true rfl ⟨⟨hne, by omega, fun _ => by rw [h]; rfl⟩, hall⟩)⟩
      · rename_i h
        refine FQ.one rfl rfl rfl ⟨rfl, retb (by
          rw [mark_iff, decide_eq_true_eq]
          constructor
          · intro c
            refine ⟨⟨hne, by omega, fun _ => ?_⟩, hall⟩
            simp only [plainB, Bool.or_eq_true, decide_eq_true_eq]
            exact .inr fun e => c (by rw [show Int.toNat 0 = 0 from rfl, e]; rfl)
          · rintro ⟨⟨_, _, c⟩, _⟩ e
            have c := c hd
            simp only [plainB, Bool.or_eq_true, decide_eq_true_eq] at c
            have e' : l.getD 0 0 = 48 := u8_eq (by simpa using e)
            rcases c with c | c
            · apply h
              match l, c, e' with
              | [x], _, e' => rw [show x = 48 from e']
            · exact c e')⟩
end Go.Proofs.YtjfdhafmbcppjaaGreatDoor.Ve

namespace Go.Proofs.YtjfdhafmbcppjaaGreatDoor.Ve
open Go.RowKit H S
attribute [local irreducible] H.CL H.RW H.CW H.Yd H.thenK H.blockQ Go.Calls
abbrev verT : TypeId := 35

/-- A value that is a version. -/
def verV (v : Ver) (p : Value) : Value := .agg #[.int .i64 v.a, .int .i64 v.b, .int .i64 v.c, p]
/-- Its marks lie in memory. -/
def VerAt (w : World) (V : Value) (v : Ver) : Prop := ∃ p, V = verV v p ∧ Sl w 1 p v.pre.length (sv v.pre)
/-- The same, in memory that was not there below B. -/
def VerNew (B : Nat) (w : World) (V : Value) (v : Ver) : Prop := ∃ p, V = verV v p ∧ Sl w 1 p v.pre.length (sv v.pre) ∧ ∀ g, live p = some g → B ≤ g
theorem VerNew.at {B : Nat} {w : World} {V : Value} {v : Ver} (h : VerNew B w V v) : VerAt w V v := by obtain ⟨p, h1, h2, _⟩ := h; exact ⟨p, h1, h2⟩
theorem nolive {B : Nat} : ∀ g, live (.slice none 0 0) = some g → B ≤ g := fun g h => by simp [live] at h
theorem VerAt.keep0 {w w' : World} {V : Value} {v : Ver} (h : VerAt w V v) (k : K0 w w') : VerAt w' V v := by
  obtain ⟨p, h1, h2⟩ := h; exact ⟨p, h1, h2.keep0 k⟩
theorem getD_all {α : Type} (d : α) {l : List α} {p : α → Bool} {i : Nat} (hi : i < l.length) (h : p (l.getD i d) = false) : l.all p = false := all_false d hi h

theorem parseLam (l : T) (hl : l.length ≤ 1000000000000) (w : World) : Calls Tryz.prog 88 #[vs l] w fun e w' => w = w' ∧ e = .returned (.bool (!markB l)) := by
  refine H.enter Tryz.func88 Tryz.ntmps88 rfl rfl ?_; dsimp only [H.args]
  repeat' (first | (refine CL.seq ?_) | (refine CL.region ?_) | (refine Gt.nil ?_; refine RW.nilw [0, 2] ?_; dsimp only [H.keep, H.look, H.Fr.put, Nat.beq]) | (refine Gt.assign ?_; refine RW.y (Y.assign rfl) rfl ?_) | (refine Gt.move ?_; refine RW.y (Y.move rfl) rfl ?_))
  refine RW.fn rfl rfl ((mark l hl w).mono ?_)
  rintro e w' ⟨rfl, rfl⟩
  repeat' (first | (refine CL.ret ?_) | (refine Gt.nil ?_; refine RW.nilw [0, 2] ?_; dsimp only [H.keep, H.look, H.Fr.put, Nat.beq]) | (refine Gt.assign ?_; refine RW.y (Y.assign rfl) rfl ?_) | (refine Gt.not ?_; (refine RW.y (Y.notb rfl) rfl ?_)))
  exact FQ.one rfl rfl rfl ⟨rfl, rfl⟩

theorem idxMark (v : Value) (l : List T) (w : World) (hs : Sl w 1 v l.length (sv l)) (hb : ∀ x ∈ l, x.length ≤ 1000000000000) (hl : l.length ≤ 1000000000000) : Calls Tryz.prog 106 #[v, .func (.func 88) #[] #[]] w fun e w' => w = w' ∧ ∃ n : Int, e = .returned (.int .i64 n) ∧ (0 ≤ n ↔ l.all markB = false) := by
  refine H.enter Tryz.func106 Tryz.ntmps106 rfl rfl ?_; dsimp only [H.args]
  repeat' (first | (refine CL.seq ?_) | (refine CL.region ?_) | (refine CL.block ?_) | (refine Gt.nil ?_; refine RW.nilw [0, 1, 4, 5, 7, 8, 9, 16] ?_; dsimp only [H.keep, H.look, H.Fr.put, Nat.beq]) | (refine Gt.move ?_; refine RW.y (Y.move rfl) rfl ?_) | (refine Gt.assign ?_; refine RW.y (Y.assign rfl) rfl ?_) | (refine Gt.len ?_; (refine RW.y (Y.lenx rfl (by assumption)) rfl ?_)))
  refine CL.loopS [0, 1, 4, 7, 8] (fun k vals wr => ∃ (i : Nat) (n : Int), vals = [v, .func (.func 88) #[] #[], .int .i64 n, .int .i64 (l.length : Int), .int .i64 (i : Int)] ∧ k = l.length - i ∧ i ≤ l.length ∧ (l.take i).all markB = true ∧ wr = w) l.length ⟨_, rfl, 0, 0, rfl, rfl, Nat.zero_le _, rfl, rfl⟩ ?_
  rintro k vals wr ⟨i, n, rfl, rfl, hi, hall, rfl⟩
  dsimp only [List.zip, List.zipWith]
  rcases Nat.lt_or_ge i l.length with hlt | hge
  · repeat' (first | (refine CL.seq ?_) | (refine CL.region ?_) | (refine CL.skip ?_) | (refine CL.condP rfl (fun _ => ?_) (fun _ => ?_) <;> try (exfalso; omega)) | (refine CL.block ?_) | (refine Gt.nil ?_; refine RW.nilw [0, 1, 4, 5, 7, 8, 9, 16] ?_; dsimp only [H.keep, H.look, H.Fr.put, Nat.beq]) | (refine Gt.move ?_; refine RW.y (Y.move rfl) rfl ?_) | (refine Gt.assign ?_; refine RW.y (Y.assign rfl) rfl ?_) | (refine Gt.lss ?_; refine RW.y (Y.lss rfl rfl) rfl ?_) | (refine Gt.idx ?_; refine RW.elemS rfl rfl rfl rfl (by assumption) (by omega) (by omega) ?_))
    refine RW.fnv (cap := []) rfl rfl rfl ((parseLam _ (hb _ (by rw [Int.toNat_natCast]; exact getD_mem [] hlt)) wr).mono ?_)
    rintro e w' ⟨rfl, rfl⟩
    rw [Int.toNat_natCast]
    cases hm : markB (l.getD i [])
    · repeat' (first | (refine CL.seq ?_) | (refine CL.region ?_) | (refine CL.condT rfl ?_) | (refine CL.ret ?_) | (refine Rt.then ?_) | (refine Rt.block ?_) | (refine Gt.nil ?_; refine RW.nilw [0, 1, 4, 5, 7, 8, 9, 16] ?_; dsimp only [H.keep, H.look, H.Fr.put, Nat.beq]) | (refine Gt.move ?_; refine RW.y (Y.move rfl) rfl ?_) | (refine Gt.assign ?_; refine RW.y (Y.assign rfl) rfl ?_))
      exact FQ.one rfl rfl rfl ⟨rfl, _, rfl, iff_of_true (by omega) (all_false [] hlt hm)⟩
    · repeat' (first | (refine CL.region ?_) | (refine CL.skip ?_) | (refine CL.condF rfl ?_) | (refine CL.done ?_) | (refine Nm.block ?_) | (refine Nm.then ?_) | (refine Gt.nil ?_; refine RW.nilw [0, 1, 4, 5, 7, 8, 9, 16] ?_; dsimp only [H.keep, H.look, H.Fr.put, Nat.beq]) | (refine Gt.move ?_; refine RW.y (Y.move rfl) rfl ?_) | (refine Gt.add ?_; refine RW.y (Y.add64 rfl rfl (by omega) (by omega)) rfl ?_))
      exact ⟨l.length - (i + 1), _, rfl, rfl, rfl, by omega, i + 1, n, rfl, rfl, by omega, all_step [] hlt hall hm, rfl⟩
  · have hi : i = l.length := by omega
    subst hi
    rw [List.take_length] at hall
    repeat' (first | (refine CL.seq ?_) | (refine CL.region ?_) | (refine CL.condP rfl (fun _ => ?_) (fun _ => ?_) <;> try (exfalso; omega)) | (refine CL.exit ?_) | (refine Ex.then ?_) | (refine Ex.hit ?_) | (refine CL.ret ?_) | (refine Gt.nil ?_; refine RW.nilw [0, 1, 4, 5, 7, 8, 9, 16] ?_; dsimp only [H.keep, H.look, H.Fr.put, Nat.beq]) | (refine Gt.assign ?_; refine RW.y (Y.assign rfl) rfl ?_) | (refine Gt.lss ?_; refine RW.y (Y.lss rfl rfl) rfl ?_))
    exact FQ.one rfl rfl rfl ⟨rfl, _, rfl, iff_of_false (by decide) (by rw [hall]; decide)⟩

theorem containsMark (v : Value) (l : List T) (w : World) (hs : Sl w 1 v l.length (sv l)) (hb : ∀ x ∈ l, x.length ≤ 1000000000000) (hl : l.length ≤ 1000000000000) : Calls Tryz.prog 87 #[v, .func (.func 88) #[] #[]] w fun e w' => w = w' ∧ e = .returned (.bool (!(l.all markB))) := by
  refine H.enter Tryz.func87 Tryz.ntmps87 rfl rfl ?_; dsimp only [H.args]
  repeat' (first | (refine CL.seq ?_) | (refine CL.region ?_) | (refine Gt.nil ?_; refine RW.nilw [0, 1, 4] ?_; dsimp only [H.keep, H.look, H.Fr.put, Nat.beq]) | (refine Gt.assign ?_; refine RW.y (Y.assign rfl) rfl ?_) | (refine Gt.move ?_; refine RW.y (Y.move rfl) rfl ?_))
  refine RW.fn rfl rfl ((idxMark v l w hs hb hl).mono ?_)
  rintro e w' ⟨rfl, n, rfl, hn⟩
  repeat' (first | (refine CL.ret ?_) | (refine Gt.nil ?_; refine RW.nilw [0, 1, 4] ?_; dsimp only [H.keep, H.look, H.Fr.put, Nat.beq]) | (refine Gt.assign ?_; refine RW.y (Y.assign rfl) rfl ?_) | (refine Gt.geq ?_; refine RW.y (Y.geq rfl rfl) rfl ?_))
  exact FQ.one rfl rfl rfl ⟨rfl, retb (by rw [decide_eq_true_eq, hn, Bool.not_eq_true'])⟩

theorem cutB_len (c : UInt8) (l : T) : (cutB c l).1.length ≤ l.length ∧ (cutB c l).2.1.length ≤ l.length := by
  unfold cutB
  split
  · simp
  · simp; omega
theorem noCells {a b c : Int} : ∀ z ∈ (#[.int .i64 a, .int .i64 b, .int .i64 c, .slice none 0 0] : Array Value).toList, z.oneCell' = true := by
  intro z hz
  simp at hz
  rcases hz with rfl | rfl | rfl | rfl <;> rfl
theorem verCells {a b c : Int} {p : Value} (hp : p.oneCell' = true) : ∀ z ∈ (#[.int .i64 a, .int .i64 b, .int .i64 c, p] : Array Value).toList, z.oneCell' = true := by
  intro z hz
  simp at hz
  rcases hz with rfl | rfl | rfl | rfl <;> first | rfl | exact hp

set_option maxHeartbeats 1000000 in
theorem parseN (s : T) (hl : s.length ≤ 1000000) (w : World) : Calls Tryz.prog 63 #[vs s] w fun e w' => K0 w w' ∧ ∃ V, e = .returned (.tuple #[V, .int .i64 (verR (parseV (cutB 45 s))).2]) ∧ VerNew w.heap.size w' V (verR (parseV (cutB 45 s))).1 := by
  have hcl := cutB_len 45 s
  refine H.enter Tryz.func63 Tryz.ntmps63 rfl rfl ?_; dsimp only [H.args]
  repeat' (first | (refine CL.seq ?_) | (refine CL.region ?_))
  refine RW.alloc rfl (fun w1 hb1 hk1 hlt1 => ?_)
  repeat' (first | (refine CL.seq ?_) | (refine CL.region ?_) | (refine Gt.nil ?_; refine RW.nilw [0, 2, 3, 4, 5, 6, 7, 8, 9, 10, 11, 12, 23, 25, 26, 37, 51, 64] ?_; dsimp only [H.keep, H.look, H.Fr.put, Nat.beq]) | (refine Gt.move ?_; refine RW.y (Y.move rfl) rfl ?_) | (refine Gt.assign ?_; refine RW.y (Y.assign rfl) rfl ?_))
  refine RW.fn rfl rfl ((cut s 45 (by omega) w1).mono ?_)
  rintro e w2 ⟨hk2, rfl⟩
  unfold cutV
  generalize cutB 45 s = cc at *
  obtain ⟨three, pre, has⟩ := cc
  simp only at hcl
  repeat' (first | (refine CL.seq ?_) | (refine CL.region ?_) | (refine Gt.nil ?_; refine RW.nilw [0, 2, 3, 4, 5, 6, 7, 8, 9, 10, 11, 12, 23, 25, 26, 37, 51, 64] ?_; dsimp only [H.keep, H.look, H.Fr.put, Nat.beq]) | (refine Gt.move ?_; refine RW.y (Y.move rfl) rfl ?_) | (refine Gt.assign ?_; refine RW.y (Y.assign rfl) rfl ?_) | (refine Gt.extract ?_; refine RW.y (Y.extract rfl rfl) rfl ?_))
  refine RW.fn rfl rfl ((split three 46 (by omega) w2).mono ?_)
  rintro e w3 ⟨v3, rfl, how3, hk3⟩
  have hs3 := Sl.of_own how3
  have hml : ∀ x ∈ splitB 46 three, x.length ≤ 1000000 := fun x hx => Nat.le_trans (splitB_mem_len 46 three x hx) (by omega)
  simp only [parseV]
  generalize splitB 46 three = l at *
  repeat' (first | (refine CL.seq ?_) | (refine CL.region ?_) | (refine Gt.nil ?_; refine RW.nilw [0, 2, 3, 4, 5, 6, 7, 8, 9, 10, 11, 12, 23, 25, 26, 37, 51, 64] ?_; dsimp only [H.keep, H.look, H.Fr.put, Nat.beq]) | (refine Gt.assign ?_; refine RW.y (Y.assign rfl) rfl ?_))
  refine RW.alloc rfl (fun w4 hb4 hk4 hlt4 => ?_)
  have hs4 := hs3.keep0 hk4
  have hKc : K0 w w4 := ((hk1.trans0 hk2).trans0 hk3).trans0 hk4
  have hbr := hk4.at0 (hk3.at0 (hk2.at0 hb1))
  repeat' (first | (refine CL.seq ?_) | (refine CL.region ?_) | (refine CL.skip ?_) | (refine CL.condP rfl (fun _ => ?_) (fun _ => ?_) <;> try (exfalso; omega)) | (refine CL.block ?_) | (refine Gt.nil ?_; refine RW.nilw [0, 2, 3, 4, 5, 6, 7, 8, 9, 10, 11, 12, 23, 25, 26, 37, 51, 64] ?_; dsimp only [H.keep, H.look, H.Fr.put, Nat.beq]) | (refine RW.y (Y.build (ps := []) (l := []) rfl rfl) rfl ?_) | (refine Gt.move ?_; refine RW.y (Y.move rfl) rfl ?_) | (refine Gt.len ?_; (refine RW.y (Y.lenx rfl (by assumption)) rfl ?_)) | (refine Gt.neq ?_; refine RW.y (Y.nei rfl rfl) rfl ?_))
  · rename_i h3
    rw [parseL_ne (by omega)]
    simp only [verR]
    refine RW.storeBlock rfl rfl rfl noCells hbr rfl (fun wz hbz hkz => ?_)
    repeat' (first | (refine CL.ret ?_) | (refine Gt.nil ?_; refine RW.nilw [0, 2, 3, 4, 5, 6, 7, 8, 9, 10, 11, 12, 23, 25, 26, 37, 51, 64] ?_; dsimp only [H.keep, H.look, H.Fr.put, Nat.beq]) | (refine Gt.assign ?_; refine RW.y (Y.assign rfl) rfl ?_))
    exact FQ.res (rs := [.cell 2 35, .tmp 3]) (vs := [_, _]) rfl rfl ⟨⟨_, rfl, load_block hbz rfl⟩, rfl, trivial⟩ rfl (⟨hKc.trans hkz fun k h => .inr (by rw [h]; exact Nat.le_refl _), _, rfl, _, rfl, Sl.nil _ _, nolive⟩)
  rename_i h3
  obtain ⟨x, y, z, rfl⟩ := len3 (show l.length = 3 by omega)
  have hx := hml x (by simp)
  have hy := hml y (by simp)
  have hz := hml z (by simp)
  refine CL.loopS [2, 3, 5, 6, 7, 8, 25] (fun k vals wr => ∃ (i : Nat) (u0 u1 u2 : Int), vals = [.pointer (some ⟨w.heap.size, 0, none⟩), .int .i64 0, vs pre, .bool has, v3, .pointer (some ⟨w3.heap.size, 0, none⟩), .int .i64 (i : Int)] ∧ k = 3 - i ∧ i ≤ 3 ∧ Kept (fun k => k = w3.heap.size) w4 wr ∧
      wr.heap[w3.heap.size]? = some (.cells #[.int .i64 u0, .int .i64 u1, .int .i64 u2] 121 (0, 0)) ∧ (1 ≤ i → numB x = true ∧ u0 = val x) ∧ (2 ≤ i → numB y = true ∧ u1 = val y) ∧ (3 ≤ i → numB z = true ∧ u2 = val z)) 3 ⟨_, rfl, 0, 0, 0, 0, rfl, rfl, Nat.zero_le _, Kept.refl _ _, hb4, by omega, by omega, by omega⟩ ?_
  rintro k vals wr ⟨i, u0, u1, u2, rfl, rfl, hi, hkr, hbl, c1, c2, c3⟩
  dsimp only [List.zip, List.zipWith]
  have hw3 : w.heap.size < w3.heap.size := by have := hk2.size; have := hk3.size; omega
  have hsr := hs4.keep hkr fun g hg c => by have := hs3.lt hg; have c' : g = w3.heap.size := c; omega
  have hbrr := hkr.at hbr (fun c => by have c' : w.heap.size = w3.heap.size := c; omega)
  have hKr : K0 w wr := hKc.trans hkr fun k h => .inr (by have h' : k = w3.heap.size := h; omega)
  rcases (by omega : i = 0 ∨ i = 1 ∨ i = 2 ∨ i = 3) with rfl | rfl | rfl | rfl
  · repeat' (first | (refine CL.seq ?_) | (refine CL.region ?_) | (refine CL.skip ?_) | (refine CL.condP rfl (fun _ => ?_) (fun _ => ?_) <;> try (exfalso; omega)) | (refine CL.block ?_) | (refine Gt.nil ?_; refine RW.nilw [0, 2, 3, 4, 5, 6, 7, 8, 9, 10, 11, 12, 23, 25, 26, 37, 51, 64] ?_; dsimp only [H.keep, H.look, H.Fr.put, Nat.beq]) | (refine Gt.move ?_; refine RW.y (Y.move rfl) rfl ?_) | (refine Gt.assign ?_; refine RW.y (Y.assign rfl) rfl ?_) | (refine Gt.idx ?_; (refine RW.elemS rfl rfl rfl rfl (by assumption) (by omega) (by omega) ?_)) | (refine Gt.lss ?_; refine RW.y (Y.lss rfl rfl) rfl ?_))
    refine RW.fn rfl rfl ((number x (by omega) wr).mono ?_)
    rintro e w5 ⟨hk5, rfl⟩
    have hbr5 := hk5.at0 hbrr
    have hbl5 := hk5.at0 hbl
    have hK5 := hKr.trans0 hk5
    cases hn : numB x
    · repeat' (first | (refine CL.seq ?_) | (refine CL.region ?_) | (refine CL.condT rfl ?_) | (refine Gt.nil ?_; refine RW.nilw [0, 2, 3, 4, 5, 6, 7, 8, 9, 10, 11, 12, 23, 25, 26, 37, 51, 64] ?_; dsimp only [H.keep, H.look, H.Fr.put, Nat.beq]) | (refine RW.y (Y.build (ps := []) (l := []) rfl rfl) rfl ?_) | (refine Gt.move ?_; refine RW.y (Y.move rfl) rfl ?_) | (refine Gt.assign ?_; refine RW.y (Y.assign rfl) rfl ?_) | (refine Gt.extract ?_; refine RW.y (Y.extract rfl rfl) rfl ?_) | (refine Gt.not ?_; (refine RW.y (Y.notb rfl) rfl ?_)))
      rw [show parseL [x, y, z] pre has = none from by simp [parseL, hn]]
      simp only [verR]
      have hKc := hK5
      have hbr := hbr5
      refine RW.storeBlock rfl rfl rfl noCells hbr rfl (fun wz hbz hkz => ?_)
      repeat' (first | (refine CL.ret ?_) | (refine Rt.then ?_) | (refine Rt.block ?_) | (refine Gt.nil ?_; refine RW.nilw [0, 2, 3, 4, 5, 6, 7, 8, 9, 10, 11, 12, 23, 25, 26, 37, 51, 64] ?_; dsimp only [H.keep, H.look, H.Fr.put, Nat.beq]) | (refine Gt.assign ?_; refine RW.y (Y.assign rfl) rfl ?_))
      exact FQ.res (rs := [.cell 2 35, .tmp 3]) (vs := [_, _]) rfl rfl ⟨⟨_, rfl, load_block hbz rfl⟩, rfl, trivial⟩ rfl (⟨hKc.trans hkz fun k h => .inr (by rw [h]; exact Nat.le_refl _), _, rfl, _, rfl, Sl.nil _ _, nolive⟩)
    · repeat' (first | (refine CL.seq ?_) | (refine CL.region ?_) | (refine CL.skip ?_) | (refine CL.condF rfl ?_) | (refine Gt.nil ?_; refine RW.nilw [0, 2, 3, 4, 5, 6, 7, 8, 9, 10, 11, 12, 23, 25, 26, 37, 51, 64] ?_; dsimp only [H.keep, H.look, H.Fr.put, Nat.beq]) | (refine Gt.move ?_; refine RW.y (Y.move rfl) rfl ?_) | (refine Gt.assign ?_; refine RW.y (Y.assign rfl) rfl ?_) | (refine Gt.extract ?_; refine RW.y (Y.extract rfl rfl) rfl ?_) | (refine Gt.idx ?_; (refine RW.y (Y.idxP rfl rfl (by omega) (by omega)) rfl ?_)) | (refine Gt.not ?_; (refine RW.y (Y.notb rfl) rfl ?_)))
      refine RW.storeB rfl rfl rfl hbl5 (show (_ : Nat) < 3 from by decide) (fun w6 hb6 hk6 => ?_)
      repeat' (first | (refine CL.region ?_) | (refine CL.done ?_) | (refine Nm.block ?_) | (refine Nm.then ?_) | (refine Gt.nil ?_; refine RW.nilw [0, 2, 3, 4, 5, 6, 7, 8, 9, 10, 11, 12, 23, 25, 26, 37, 51, 64] ?_; dsimp only [H.keep, H.look, H.Fr.put, Nat.beq]) | (refine Gt.move ?_; refine RW.y (Y.move rfl) rfl ?_) | (refine Gt.add ?_; refine RW.y (Y.add64 rfl rfl (by omega) (by omega)) rfl ?_))
      refine ⟨3 - (0 + 1), _, rfl, rfl, rfl, by omega, 0 + 1, val x, u1, u2, rfl, rfl, by omega, (hkr.trans0 hk5).trans hk6 fun k h => .inl h, hb6, ?_, ?_, ?_⟩ <;> first | (intro c; omega) | (intro _; exact ⟨by rfl, rfl⟩)
  · repeat' (first | (refine CL.seq ?_) | (refine CL.region ?_) | (refine CL.skip ?_) | (refine CL.condP rfl (fun _ => ?_) (fun _ => ?_) <;> try (exfalso; omega)) | (refine CL.block ?_) | (refine Gt.nil ?_; refine RW.nilw [0, 2, 3, 4, 5, 6, 7, 8, 9, 10, 11, 12, 23, 25, 26, 37, 51, 64] ?_; dsimp only [H.keep, H.look, H.Fr.put, Nat.beq]) | (refine Gt.move ?_; refine RW.y (Y.move rfl) rfl ?_) | (refine Gt.assign ?_; refine RW.y (Y.assign rfl) rfl ?_) | (refine Gt.idx ?_; (refine RW.elemS rfl rfl rfl rfl (by assumption) (by omega) (by omega) ?_)) | (refine Gt.lss ?_; refine RW.y (Y.lss rfl rfl) rfl ?_))
    refine RW.fn rfl rfl ((number y (by omega) wr).mono ?_)
    rintro e w5 ⟨hk5, rfl⟩
    have hbr5 := hk5.at0 hbrr
    have hbl5 := hk5.at0 hbl
    have hK5 := hKr.trans0 hk5
    cases hn : numB y
    · repeat' (first | (refine CL.seq ?_) | (refine CL.region ?_) | (refine CL.condT rfl ?_) | (refine Gt.nil ?_; refine RW.nilw [0, 2, 3, 4, 5, 6, 7, 8, 9, 10, 11, 12, 23, 25, 26, 37, 51, 64] ?_; dsimp only [H.keep, H.look, H.Fr.put, Nat.beq]) | (refine RW.y (Y.build (ps := []) (l := []) rfl rfl) rfl ?_) | (refine Gt.move ?_; refine RW.y (Y.move rfl) rfl ?_) | (refine Gt.assign ?_; refine RW.y (Y.assign rfl) rfl ?_) | (refine Gt.extract ?_; refine RW.y (Y.extract rfl rfl) rfl ?_) | (refine Gt.not ?_; (refine RW.y (Y.notb rfl) rfl ?_)))
      rw [show parseL [x, y, z] pre has = none from by simp [parseL, hn]]
      simp only [verR]
      have hKc := hK5
      have hbr := hbr5
      refine RW.storeBlock rfl rfl rfl noCells hbr rfl (fun wz hbz hkz => ?_)
      repeat' (first | (refine CL.ret ?_) | (refine Rt.then ?_) | (refine Rt.block ?_) | (refine Gt.nil ?_; refine RW.nilw [0, 2, 3, 4, 5, 6, 7, 8, 9, 10, 11, 12, 23, 25, 26, 37, 51, 64] ?_; dsimp only [H.keep, H.look, H.Fr.put, Nat.beq]) | (refine Gt.assign ?_; refine RW.y (Y.assign rfl) rfl ?_))
      exact FQ.res (rs := [.cell 2 35, .tmp 3]) (vs := [_, _]) rfl rfl ⟨⟨_, rfl, load_block hbz rfl⟩, rfl, trivial⟩ rfl (⟨hKc.trans hkz fun k h => .inr (by rw [h]; exact Nat.le_refl _), _, rfl, _, rfl, Sl.nil _ _, nolive⟩)
    · repeat' (first | (refine CL.seq ?_) | (refine CL.region ?_) | (refine CL.skip ?_) | (refine CL.condF rfl ?_) | (refine Gt.nil ?_; refine RW.nilw [0, 2, 3, 4, 5, 6, 7, 8, 9, 10, 11, 12, 23, 25, 26, 37, 51, 64] ?_; dsimp only [H.keep, H.look, H.Fr.put, Nat.beq]) | (refine Gt.move ?_; refine RW.y (Y.move rfl) rfl ?_) | (refine Gt.assign ?_; refine RW.y (Y.assign rfl) rfl ?_) | (refine Gt.extract ?_; refine RW.y (Y.extract rfl rfl) rfl ?_) | (refine Gt.idx ?_; (refine RW.y (Y.idxP rfl rfl (by omega) (by omega)) rfl ?_)) | (refine Gt.not ?_; (refine RW.y (Y.notb rfl) rfl ?_)))
      refine RW.storeB rfl rfl rfl hbl5 (show (_ : Nat) < 3 from by decide) (fun w6 hb6 hk6 => ?_)
      repeat' (first | (refine CL.region ?_) | (refine CL.done ?_) | (refine Nm.block ?_) | (refine Nm.then ?_) | (refine Gt.nil ?_; refine RW.nilw [0, 2, 3, 4, 5, 6, 7, 8, 9, 10, 11, 12, 23, 25, 26, 37, 51, 64] ?_; dsimp only [H.keep, H.look, H.Fr.put, Nat.beq]) | (refine Gt.move ?_; refine RW.y (Y.move rfl) rfl ?_) | (refine Gt.add ?_; refine RW.y (Y.add64 rfl rfl (by omega) (by omega)) rfl ?_))
      refine ⟨3 - (1 + 1), _, rfl, rfl, rfl, by omega, 1 + 1, u0, val y, u2, rfl, rfl, by omega, (hkr.trans0 hk5).trans hk6 fun k h => .inl h, hb6, ?_, ?_, ?_⟩ <;> first | (intro c; omega) | (intro _; first | exact c1 (by omega) | exact ⟨by rfl, rfl⟩)
  · repeat' (first | (refine CL.seq ?_) | (refine CL.region ?_) | (refine CL.skip ?_) | (refine CL.condP rfl (fun _ => ?_) (fun _ => ?_) <;> try (exfalso; omega)) | (refine CL.block ?_) | (refine Gt.nil ?_; refine RW.nilw [0, 2, 3, 4, 5, 6, 7, 8, 9, 10, 11, 12, 23, 25, 26, 37, 51, 64] ?_; dsimp only [H.keep, H.look, H.Fr.put, Nat.beq]) | (refine Gt.move ?_; refine RW.y (Y.move rfl) rfl ?_) | (refine Gt.assign ?_; refine RW.y (Y.assign rfl) rfl ?_) | (refine Gt.idx ?_; (refine RW.elemS rfl rfl rfl rfl (by assumption) (by omega) (by omega) ?_)) | (refine Gt.lss ?_; refine RW.y (Y.lss rfl rfl) rfl ?_))
    refine RW.fn rfl rfl ((number z (by omega) wr).mono ?_)
    rintro e w5 ⟨hk5, rfl⟩
    have hbr5 := hk5.at0 hbrr
    have hbl5 := hk5.at0 hbl
    have hK5 := hKr.trans0 hk5
    cases hn : numB z
    · repeat' (first | (refine CL.seq ?_) | (refine CL.region ?_) | (refine CL.condT rfl ?_) | (refine Gt.nil ?_; refine RW.nilw [0, 2, 3, 4, 5, 6, 7, 8, 9, 10, 11, 12, 23, 25, 26, 37, 51, 64] ?_; dsimp only [H.keep, H.look, H.Fr.put, Nat.beq]) | (refine RW.y (Y.build (ps := []) (l := []) rfl rfl) rfl ?_) | (refine Gt.move ?_; refine RW.y (Y.move rfl) rfl ?_) | (refine Gt.assign ?_; refine RW.y (Y.assign rfl) rfl ?_) | (refine Gt.extract ?_; refine RW.y (Y.extract rfl rfl) rfl ?_) | (refine Gt.not ?_; (refine RW.y (Y.notb rfl) rfl ?_)))
      rw [show parseL [x, y, z] pre has = none from by simp [parseL, hn]]
      simp only [verR]
      have hKc := hK5
      have hbr := hbr5
      refine RW.storeBlock rfl rfl rfl noCells hbr rfl (fun wz hbz hkz => ?_)
      repeat' (first | (refine CL.ret ?_) | (refine Rt.then ?_) | (refine Rt.block ?_) | (refine Gt.nil ?_; refine RW.nilw [0, 2, 3, 4, 5, 6, 7, 8, 9, 10, 11, 12, 23, 25, 26, 37, 51, 64] ?_; dsimp only [H.keep, H.look, H.Fr.put, Nat.beq]) | (refine Gt.assign ?_; refine RW.y (Y.assign rfl) rfl ?_))
      exact FQ.res (rs := [.cell 2 35, .tmp 3]) (vs := [_, _]) rfl rfl ⟨⟨_, rfl, load_block hbz rfl⟩, rfl, trivial⟩ rfl (⟨hKc.trans hkz fun k h => .inr (by rw [h]; exact Nat.le_refl _), _, rfl, _, rfl, Sl.nil _ _, nolive⟩)
    · repeat' (first | (refine CL.seq ?_) | (refine CL.region ?_) | (refine CL.skip ?_) | (refine CL.condF rfl ?_) | (refine Gt.nil ?_; refine RW.nilw [0, 2, 3, 4, 5, 6, 7, 8, 9, 10, 11, 12, 23, 25, 26, 37, 51, 64] ?_; dsimp only [H.keep, H.look, H.Fr.put, Nat.beq]) | (refine Gt.move ?_; refine RW.y (Y.move rfl) rfl ?_) | (refine Gt.assign ?_; refine RW.y (Y.assign rfl) rfl ?_) | (refine Gt.extract ?_; refine RW.y (Y.extract rfl rfl) rfl ?_) | (refine Gt.idx ?_; (refine RW.y (Y.idxP rfl rfl (by omega) (by omega)) rfl ?_)) | (refine Gt.not ?_; (refine RW.y (Y.notb rfl) rfl ?_)))
      refine RW.storeB rfl rfl rfl hbl5 (show (_ : Nat) < 3 from by decide) (fun w6 hb6 hk6 => ?_)
      repeat' (first | (refine CL.region ?_) | (refine CL.done ?_) | (refine Nm.block ?_) | (refine Nm.then ?_) | (refine Gt.nil ?_; refine RW.nilw [0, 2, 3, 4, 5, 6, 7, 8, 9, 10, 11, 12, 23, 25, 26, 37, 51, 64] ?_; dsimp only [H.keep, H.look, H.Fr.put, Nat.beq]) | (refine Gt.move ?_; refine RW.y (Y.move rfl) rfl ?_) | (refine Gt.add ?_; refine RW.y (Y.add64 rfl rfl (by omega) (by omega)) rfl ?_))
      refine ⟨3 - (2 + 1), _, rfl, rfl, rfl, by omega, 2 + 1, u0, u1, val z, rfl, rfl, by omega, (hkr.trans0 hk5).trans hk6 fun k h => .inl h, hb6, ?_, ?_, ?_⟩ <;> (intro _; first | exact c1 (by omega) | exact c2 (by omega) | exact ⟨by rfl, rfl⟩)
  · obtain ⟨n1, rfl⟩ := c1 (by omega)
    obtain ⟨n2, rfl⟩ := c2 (by omega)
    obtain ⟨n3, rfl⟩ := c3 (by omega)
    repeat' (first | (refine CL.seq ?_) | (refine CL.region ?_) | (refine CL.condP rfl (fun _ => ?_) (fun _ => ?_) <;> try (exfalso; omega)) | (refine CL.exit ?_) | (refine Ex.then ?_) | (refine Ex.hit ?_) | (refine Gt.nil ?_; refine RW.nilw [0, 2, 3, 4, 5, 6, 7, 8, 9, 10, 11, 12, 23, 25, 26, 37, 51, 64] ?_; dsimp only [H.keep, H.look, H.Fr.put, Nat.beq]) | (refine RW.y (Y.build (ps := [(0, _), (1, _), (2, _)]) rfl rfl) rfl ?_) | (refine Gt.load ?_; (refine RW.y (Y.loadB rfl (by assumption) rfl) rfl ?_)) | (refine Gt.idx ?_; (refine RW.y (Y.idxP rfl rfl (by omega) (by omega)) rfl ?_)) | (refine Gt.lss ?_; refine RW.y (Y.lss rfl rfl) rfl ?_))
    refine RW.alloc rfl (fun w5 hb5 hk5 hlt5 => ?_)
    have hw5 : w.heap.size < w5.heap.size := by have := hKr.size; have := hk5.size; omega
    have hwr : w.heap.size < wr.heap.size := by have := hkr.size; have := hk4.size; omega
    refine RW.storeBlock rfl rfl rfl noCells hb5 rfl (fun w6 hb6 hk6 => ?_)
    have hbr6 := hk6.at (hk5.at0 hbrr) (fun c => by have c' : w.heap.size = wr.heap.size := c; omega)
    have hK6 : K0 w w6 := (hKr.trans0 hk5).trans hk6 fun k h => .inr (by have h' : k = wr.heap.size := h; omega)
    have hp3 : (numB x && numB y && numB z) = true := by rw [n1, n2, n3]; rfl
    cases has
    · repeat' (first | (refine CL.seq ?_) | (refine CL.region ?_) | (refine CL.condT rfl ?_) | (refine Gt.nil ?_; refine RW.nilw [0, 2, 3, 4, 5, 6, 7, 8, 9, 10, 11, 12, 23, 25, 26, 37, 51, 64] ?_; dsimp only [H.keep, H.look, H.Fr.put, Nat.beq]) | (refine RW.y (Y.loadBlock rfl hb6 rfl) rfl ?_) | (refine Gt.move ?_; refine RW.y (Y.move rfl) rfl ?_) | (refine Gt.not ?_; (refine RW.y (Y.notb rfl) rfl ?_)))
      refine RW.storeBlock rfl rfl rfl noCells hbr6 rfl (fun w7 hb7 hk7 => ?_)
      repeat' (first | (refine CL.ret ?_) | (refine Gt.nil ?_; refine RW.nilw [0, 2, 3, 4, 5, 6, 7, 8, 9, 10, 11, 12, 23, 25, 26, 37, 51, 64] ?_; dsimp only [H.keep, H.look, H.Fr.put, Nat.beq]) | (refine Gt.assign ?_; refine RW.y (Y.assign rfl) rfl ?_))
      rw [show parseL [x, y, z] pre false = some ⟨val x, val y, val z, []⟩ from by simp [parseL, hp3]]
      exact FQ.res (rs := [.cell 2 35, .tmp 3]) (vs := [_, _]) rfl rfl ⟨⟨_, rfl, load_block hb7 rfl⟩, rfl, trivial⟩ rfl (⟨hK6.trans hk7 fun k h => .inr (by have h' : k = w.heap.size := h; omega), _, rfl, _, rfl, Sl.nil _ _, nolive⟩)
    · repeat' (first | (refine CL.seq ?_) | (refine CL.region ?_) | (refine CL.skip ?_) | (refine CL.condF rfl ?_) | (refine Gt.nil ?_; refine RW.nilw [0, 2, 3, 4, 5, 6, 7, 8, 9, 10, 11, 12, 23, 25, 26, 37, 51, 64] ?_; dsimp only [H.keep, H.look, H.Fr.put, Nat.beq]) | (refine Gt.move ?_; refine RW.y (Y.move rfl) rfl ?_) | (refine Gt.not ?_; (refine RW.y (Y.notb rfl) rfl ?_)))
      refine RW.fn rfl rfl ((split pre 46 (by omega) w6).mono ?_)
      rintro e w7 ⟨v7, rfl, how7, hk7⟩
      have hs7 := Sl.of_own how7
      have hbr7 := hk7.at0 hbr6
      have hb7 := hk7.at0 hb6
      have hw7 := hk7.size
      have hw6 := hk6.size
      have hml7 : ∀ x ∈ splitB 46 pre, x.length ≤ 1000000000000 := fun x hx => Nat.le_trans (splitB_mem_len 46 pre x hx) (by omega)
      have hln7 : (splitB 46 pre).length ≤ 1000001 := by rw [splitB_len]; have : pre.count 46 ≤ pre.length := List.count_le_length; omega
      have hpl : parseL [x, y, z] pre true = if (splitB 46 pre).length ≤ 5 ∧ (splitB 46 pre).all markB = true then some ⟨val x, val y, val z, splitB 46 pre⟩ else none := by simp [parseL, hp3]
      rw [hpl]
      generalize splitB 46 pre = m at *
      repeat' ((refine Gt.fieldAddr ?_; refine RW.y (Y.fieldAddr rfl (by rfl)) rfl ?_))
      refine RW.storeB rfl rfl hs7.one hb7 (show (_ : Nat) < 4 from by decide) (fun w8 hb8 hk8 => ?_)
      have hs8 := hs7.keep hk8 fun g hg c => by have := how7.lt g (live_own hg); have c' : g = wr.heap.size := c; have := hk5.size; omega
      have hbr8 := hk8.at hbr7 (fun c => by have c' : w.heap.size = wr.heap.size := c; omega)
      have hK8 : K0 w w8 := (hK6.trans0 hk7).trans hk8 fun k h => .inr (by have h' : k = wr.heap.size := h; omega)
      repeat' (first | (refine CL.seq ?_) | (refine CL.region ?_) | (refine CL.condT rfl ?_) | (refine Gt.nil ?_; refine RW.nilw [0, 2, 3, 4, 5, 6, 7, 8, 9, 10, 11, 12, 23, 25, 26, 37, 51, 64] ?_; dsimp only [H.keep, H.look, H.Fr.put, Nat.beq]) | (refine RW.y (Y.build (ps := []) (l := []) rfl rfl) rfl ?_) | (refine Gt.move ?_; refine RW.y (Y.move rfl) rfl ?_) | (refine Gt.guard ?_; first | (refine RW.part rfl rfl rfl (fun _ => ?_) (fun _ => ?_) <;> try (exfalso; omega)) | (refine RW.on rfl rfl rfl ?_) | (refine RW.off1 rfl rfl rfl rfl rfl ?_)) | (refine Gt.load ?_; (refine RW.y (Y.loadB rfl (by assumption) rfl) rfl ?_)) | (refine Gt.fieldAddr ?_; refine RW.y (Y.fieldAddr rfl (by rfl)) rfl ?_) | (refine Gt.len ?_; (refine RW.y (Y.lenx rfl (by assumption)) rfl ?_)) | (refine Gt.gtr ?_; refine RW.y (Y.gtr rfl rfl) rfl ?_) | (refine Gt.pick ?_; (refine RW.y (Y.pickT rfl rfl) rfl ?_)))
      · rw [if_neg (by omega)]
        simp only [verR]
        have hKc := hK8
        have hbr := hbr8
        refine RW.storeBlock rfl rfl rfl noCells hbr rfl (fun wz hbz hkz => ?_)
        repeat' (first | (refine CL.ret ?_) | (refine Gt.nil ?_; refine RW.nilw [0, 2, 3, 4, 5, 6, 7, 8, 9, 10, 11, 12, 23, 25, 26, 37, 51, 64] ?_; dsimp only [H.keep, H.look, H.Fr.put, Nat.beq]) | (refine Gt.assign ?_; refine RW.y (Y.assign rfl) rfl ?_))
        exact FQ.res (rs := [.cell 2 35, .tmp 3]) (vs := [_, _]) rfl rfl ⟨⟨_, rfl, load_block hbz rfl⟩, rfl, trivial⟩ rfl (⟨hKc.trans hkz fun k h => .inr (by rw [h]; exact Nat.le_refl _), _, rfl, _, rfl, Sl.nil _ _, nolive⟩)
      · refine RW.fn rfl rfl ((containsMark v7 m w8 hs8 hml7 (by omega)).mono ?_)
        rintro e w9 ⟨rfl, rfl⟩
        cases hall : m.all markB
        · repeat' (first | (refine CL.seq ?_) | (refine CL.region ?_) | (refine CL.condT rfl ?_) | (refine Gt.nil ?_; refine RW.nilw [0, 2, 3, 4, 5, 6, 7, 8, 9, 10, 11, 12, 23, 25, 26, 37, 51, 64] ?_; dsimp only [H.keep, H.look, H.Fr.put, Nat.beq]) | (refine RW.y (Y.build (ps := []) (l := []) rfl rfl) rfl ?_) | (refine Gt.pick ?_; (refine RW.y (Y.pickF rfl rfl) rfl ?_)))
          rw [if_neg (by simp)]
          simp only [verR]
          have hKc := hK8
          have hbr := hbr8
          refine RW.storeBlock rfl rfl rfl noCells hbr rfl (fun wz hbz hkz => ?_)
          repeat' (first | (refine CL.ret ?_) | (refine Gt.nil ?_; refine RW.nilw [0, 2, 3, 4, 5, 6, 7, 8, 9, 10, 11, 12, 23, 25, 26, 37, 51, 64] ?_; dsimp only [H.keep, H.look, H.Fr.put, Nat.beq]) | (refine Gt.assign ?_; refine RW.y (Y.assign rfl) rfl ?_))
          exact FQ.res (rs := [.cell 2 35, .tmp 3]) (vs := [_, _]) rfl rfl ⟨⟨_, rfl, load_block hbz rfl⟩, rfl, trivial⟩ rfl (⟨hKc.trans hkz fun k h => .inr (by rw [h]; exact Nat.le_refl _), _, rfl, _, rfl, Sl.nil _ _, nolive⟩)
        · repeat' (first | (refine CL.seq ?_) | (refine CL.region ?_) | (refine CL.skip ?_) | (refine CL.condF rfl ?_) | (refine Gt.nil ?_; refine RW.nilw [0, 2, 3, 4, 5, 6, 7, 8, 9, 10, 11, 12, 23, 25, 26, 37, 51, 64] ?_; dsimp only [H.keep, H.look, H.Fr.put, Nat.beq]) | (refine RW.y (Y.loadBlock rfl hb8 rfl) rfl ?_) | (refine Gt.pick ?_; (refine RW.y (Y.pickF rfl rfl) rfl ?_)))
          refine RW.storeBlock rfl rfl rfl (verCells hs8.one) hbr8 rfl (fun w10 hb10 hk10 => ?_)
          repeat' (first | (refine CL.ret ?_) | (refine Gt.nil ?_; refine RW.nilw [0, 2, 3, 4, 5, 6, 7, 8, 9, 10, 11, 12, 23, 25, 26, 37, 51, 64] ?_; dsimp only [H.keep, H.look, H.Fr.put, Nat.beq]) | (refine Gt.assign ?_; refine RW.y (Y.assign rfl) rfl ?_))
          rw [if_pos ⟨by omega, rfl⟩]
          exact FQ.res (rs := [.cell 2 35, .tmp 3]) (vs := [_, _]) rfl rfl ⟨⟨_, rfl, load_block hb10 rfl⟩, rfl, trivial⟩ rfl (⟨hK8.trans hk10 fun k h => .inr (by have h' : k = w.heap.size := h; omega), _, rfl, _, rfl, hs8.keep hk10 fun g hg c => by have := how7.lt g (live_own hg); have c' : g = w.heap.size := c; omega, fun g hg => by have := how7.lt g (live_own hg); have := hK6.size; omega⟩)
theorem parse (s : T) (hl : s.length ≤ 1000000) (w : World) : Calls Tryz.prog 63 #[vs s] w fun e w' => K0 w w' ∧ ∃ V, e = .returned (.tuple #[V, .int .i64 (verR (parseV (cutB 45 s))).2]) ∧ VerAt w' V (verR (parseV (cutB 45 s))).1 :=
  (parseN s hl w).mono fun _ _ ⟨h1, V, h2, h3⟩ => ⟨h1, V, h2, h3.at⟩
end Go.Proofs.YtjfdhafmbcppjaaGreatDoor.Ve

namespace Go.Proofs.YtjfdhafmbcppjaaGreatDoor.Ve
open Go.RowKit H S
attribute [local irreducible] H.CL H.RW H.CW H.Yd H.thenK H.blockQ Go.Calls

theorem idx_none (c : UInt8) : ∀ (l : T), c ∉ l → idx c l = -1
  | [], _ => rfl
  | x :: r, h => by
    have hx : (x == c) = false := by rw [beq_eq_false_iff_ne]; rintro rfl; exact h (by simp)
    have ih := idx_none c r (fun q => h (by simp [q]))
    unfold idx at ih
    simp [idx, Go.Lib.indexByte, hx, ih]
theorem idx_some (c : UInt8) : ∀ (l : T) (i : Nat), i < l.length → c ∉ l.take i → l.getD i 0 = c → idx c l = (i : Int)
  | [], _, h, _, _ => by simp at h
  | x :: r, 0, _, _, h => by
    have hx : (x == c) = true := by simpa using h
    simp [idx, Go.Lib.indexByte, hx]
  | x :: r, i + 1, hi, hn, h => by
    have hx : (x == c) = false := by rw [beq_eq_false_iff_ne]; rintro rfl; exact hn (by simp)
    have ih := idx_some c r i (by simpa using hi) (fun q => hn (by simp [q])) (by simpa using h)
    unfold idx at ih
    have h2 : ((i : Int) == -1) = false := by rw [beq_eq_false_iff_ne]; omega
    simp [idx, Go.Lib.indexByte, hx, ih, h2]
theorem cut_none (c : UInt8) (l : T) (h : c ∉ l) : cutB c l = (l, [], false) := by rw [cutB, idx_none c l h, if_pos (by decide)]
theorem cut_some (c : UInt8) (l : T) (i : Nat) (hi : i < l.length) (hn : c ∉ l.take i) (h : l.getD i 0 = c) : cutB c l = (l.take i, l.drop (i + 1), true) := by
  rw [cutB, idx_some c l i hi hn h, if_neg (by omega), Int.toNat_natCast]

theorem parseL_bad {l : List T} {pre : T} (h : ¬ ((splitB 46 pre).length ≤ 5 ∧ (splitB 46 pre).all markB = true)) : parseL l pre true = none := by
  by_cases h3 : l.length = 3
  · obtain ⟨x, y, z, rfl⟩ := len3 h3
    simp only [parseL, if_true]
    rw [if_neg h]
    simp
  · exact parseL_ne h3

set_option maxHeartbeats 1000000 in
theorem versionOfN (s : T) (hl : s.length ≤ 2000000) (w : World) : Calls Tryz.prog 15 #[vs s] w fun e w' => K0 w w' ∧ ∃ V, e = .returned (.tuple #[V, .int .i64 (verR (parseV (cutB 45 s))).2]) ∧ VerNew w.heap.size w' V (verR (parseV (cutB 45 s))).1 := by
  refine H.enter Tryz.func15 Tryz.ntmps15 rfl rfl ?_; dsimp only [H.args]
  repeat' (first | (refine CL.seq ?_) | (refine CL.region ?_))
  refine RW.alloc rfl (fun w1 hb1 hk1 hlt1 => ?_)
  repeat' (first | (refine CL.seq ?_) | (refine CL.region ?_) | (refine Gt.nil ?_; refine RW.nilw [0, 2, 3, 4, 5, 6, 7, 8, 9, 10, 11, 12, 13, 14, 19, 25, 38, 44, 53, 59, 91] ?_; dsimp only [H.keep, H.look, H.Fr.put, Nat.beq]) | (refine Gt.assign ?_; refine RW.y (Y.assign rfl) rfl ?_))
  refine RW.alloc rfl (fun w2 hb2 hk2 hlt2 => ?_)
  repeat' (first | (refine CL.seq ?_) | (refine CL.region ?_) | (refine Gt.nil ?_; refine RW.nilw [0, 2, 3, 4, 5, 6, 7, 8, 9, 10, 11, 12, 13, 14, 19, 25, 38, 44, 53, 59, 91] ?_; dsimp only [H.keep, H.look, H.Fr.put, Nat.beq]) | (refine Gt.move ?_; refine RW.y (Y.move rfl) rfl ?_) | (refine Gt.assign ?_; refine RW.y (Y.assign rfl) rfl ?_))
  have hw12 : w.heap.size < w1.heap.size := hlt1
  have hbr2 := hk2.at0 hb1
  have hK2 : K0 w w2 := hk1.trans0 hk2
  refine CL.cutS [2, 3, 4, 5] (fun vals wr => ∃ (core pre : T) (has : Bool) (p : Value) (m : List T), vals = [.pointer (some ⟨w.heap.size, 0, none⟩), .int .i64 0, .pointer (some ⟨w1.heap.size, 0, none⟩), vs core] ∧ cutB 45 s = (core, pre, has) ∧ core.length ≤ s.length ∧ Kept (fun k => k = w1.heap.size) w2 wr ∧
      wr.heap[w1.heap.size]? = some (.cells #[.int .i64 0, .int .i64 0, .int .i64 0, p] verT (0, 0)) ∧ Sl wr 1 p m.length (sv m) ∧ (∀ g, live p = some g → w2.heap.size ≤ g) ∧ m = (if has = true then splitB 46 pre else []) ∧ (has = true → m.length ≤ 5 ∧ m.all markB = true)) (by simp) ?_ ?_
  · repeat' ((refine CL.block ?_))
    refine CL.loopS [0, 2, 3, 4, 5, 6] (fun k vals wr => ∃ (i : Nat), vals = [vs s, .pointer (some ⟨w.heap.size, 0, none⟩), .int .i64 0, .pointer (some ⟨w1.heap.size, 0, none⟩), vs s, .int .i64 (i : Int)] ∧ k = s.length - i ∧ i ≤ s.length ∧ 45 ∉ s.take i ∧ wr = w2) s.length ⟨_, rfl, 0, rfl, rfl, Nat.zero_le _, by simp, rfl⟩ ?_
    rintro k vals wr ⟨i, rfl, rfl, hi, hno, rfl⟩
    dsimp only [List.zip, List.zipWith]
    rcases Nat.lt_or_ge i s.length with hlt | hge
    · repeat' (first | (refine CL.seq ?_) | (refine CL.region ?_) | (refine CL.skip ?_) | (refine CL.condP rfl (fun _ => ?_) (fun _ => ?_) <;> try (exfalso; omega)) | (refine CL.block ?_) | (refine CL.done ?_) | (refine Nm.block ?_) | (refine Nm.then ?_) | (refine Gt.nil ?_; refine RW.nilw [0, 2, 3, 4, 5, 6, 7, 8, 9, 10, 11, 12, 13, 14, 19, 25, 38, 44, 53, 59, 91] ?_; dsimp only [H.keep, H.look, H.Fr.put, Nat.beq]) | (refine Gt.move ?_; refine RW.y (Y.move rfl) rfl ?_) | (refine Gt.assign ?_; refine RW.y (Y.assign rfl) rfl ?_) | (refine Gt.add ?_; refine RW.y (Y.add64 rfl rfl (by omega) (by omega)) rfl ?_) | (refine Gt.len ?_; (refine RW.y (Y.lens rfl) rfl ?_)) | (refine Gt.lss ?_; refine RW.y (Y.lss rfl rfl) rfl ?_) | (refine Gt.index ?_; refine RW.y (Y.idxs rfl rfl (by omega) (by omega)) rfl ?_) | (refine Gt.eql ?_; refine RW.y (Y.eqi rfl rfl) rfl ?_) | (refine Gt.slice ?_; first | (refine RW.y (Y.cuth rfl rfl (by omega) (by omega)) rfl ?_) | (refine RW.y (Y.cutl rfl rfl (by omega) (by omega)) rfl ?_)))
      · rename_i h
        rw [Int.toNat_natCast] at h
        have hc := cut_some 45 s i hlt hno (u8_eq (by simpa using h))
        have hdl : (s.drop ((i : Int) + 1).toNat).length ≤ 2000000 := by rw [List.length_drop]; omega
        have hti : ((i : Int) + 1).toNat = i + 1 := by omega
        have htk : ((i : Int)).toNat = i := by omega
        refine RW.fn rfl rfl ((refSplit _ 46 (by omega) wr).mono ?_)
        rintro e w3 ⟨v3, rfl, how3, hk3⟩
        rw [hti] at how3
        rw [htk]
        have hs3 := Sl.of_own how3
        have hbr3 := hk3.at0 hbr2
        have hb3 := hk3.at0 hb2
        have hw3 := hk3.size
        rw [hc, parseV]
        have hcl := cutB_len 45 s
        rw [hc] at hcl
        simp only at hcl ⊢
        have hml3 : ∀ x ∈ splitB 46 (s.drop (i + 1)), x.length ≤ 1000000000000 := fun x hx => Nat.le_trans (splitB_mem_len 46 _ x hx) (by omega)
        have hln3 : (splitB 46 (s.drop (i + 1))).length ≤ 2000001 := by rw [splitB_len]; have : (s.drop (i + 1)).count 46 ≤ (s.drop (i + 1)).length := List.count_le_length; omega
        have hpl : ¬ ((splitB 46 (s.drop (i + 1))).length ≤ 5 ∧ (splitB 46 (s.drop (i + 1))).all markB = true) → parseL (splitB 46 (s.take i)) (s.drop (i + 1)) true = none := parseL_bad
        generalize hle : splitB 46 (s.drop (i + 1)) = l at *
        repeat' ((refine Gt.fieldAddr ?_; refine RW.y (Y.fieldAddr rfl (by rfl)) rfl ?_))
        refine RW.storeB rfl rfl hs3.one hb3 (show (_ : Nat) < 4 from by decide) (fun w4 hb4 hk4 => ?_)
        have hs4 := hs3.keep hk4 fun g hg c => by have := how3.lt g (live_own hg); have c' : g = w1.heap.size := c; omega
        have hbr4 := hk4.at hbr3 (fun c => by have c' : w.heap.size = w1.heap.size := c; omega)
        have hK4 : K0 w w4 := (hK2.trans0 hk3).trans hk4 fun k h => .inr (by have h' : k = w1.heap.size := h; omega)
        repeat' (first | (refine CL.seq ?_) | (refine CL.region ?_) | (refine CL.skip ?_) | (refine CL.condP rfl (fun _ => ?_) (fun _ => ?_) <;> try (exfalso; omega)) | (refine CL.block ?_) | (refine Gt.nil ?_; refine RW.nilw [0, 2, 3, 4, 5, 6, 7, 8, 9, 10, 11, 12, 13, 14, 19, 25, 38, 44, 53, 59, 91] ?_; dsimp only [H.keep, H.look, H.Fr.put, Nat.beq]) | (refine RW.y (Y.build (ps := []) (l := []) rfl rfl) rfl ?_) | (refine Gt.assign ?_; refine RW.y (Y.assign rfl) rfl ?_) | (refine Gt.load ?_; (refine RW.y (Y.loadB rfl (by assumption) rfl) rfl ?_)) | (refine Gt.fieldAddr ?_; refine RW.y (Y.fieldAddr rfl (by rfl)) rfl ?_) | (refine Gt.len ?_; (refine RW.y (Y.lenx rfl (by assumption)) rfl ?_)) | (refine Gt.gtr ?_; refine RW.y (Y.gtr rfl rfl) rfl ?_))
        · rw [hpl (by omega)]
          simp only [verR]
          have hKc := hK4
          have hbr := hbr4
          refine RW.storeBlock rfl rfl rfl noCells hbr rfl (fun wz hbz hkz => ?_)
          repeat' (first | (refine CL.ret ?_) | (refine Rt.then ?_) | (refine Rt.block ?_) | (refine Gt.nil ?_; refine RW.nilw [0, 2, 3, 4, 5, 6, 7, 8, 9, 10, 11, 12, 13, 14, 19, 25, 38, 44, 53, 59, 91] ?_; dsimp only [H.keep, H.look, H.Fr.put, Nat.beq]) | (refine Gt.assign ?_; refine RW.y (Y.assign rfl) rfl ?_))
          exact FQ.res (rs := [.cell 2 35, .tmp 3]) (vs := [_, _]) rfl rfl ⟨⟨_, rfl, load_block hbz rfl⟩, rfl, trivial⟩ rfl (⟨hKc.trans hkz fun k h => .inr (by rw [h]; exact Nat.le_refl _), _, rfl, _, rfl, Sl.nil _ _, nolive⟩)
        refine CL.loopS [2, 3, 4, 5, 7] (fun k vals wr => ∃ (j : Nat), vals = [.pointer (some ⟨w.heap.size, 0, none⟩), .int .i64 0, .pointer (some ⟨w1.heap.size, 0, none⟩), vs (s.take i), .int .i64 (j : Int)] ∧ k = l.length - j ∧ j ≤ l.length ∧ (l.take j).all markB = true ∧ wr = w4) l.length ⟨_, rfl, 0, rfl, rfl, Nat.zero_le _, rfl, rfl⟩ ?_
        rintro k vals wr4 ⟨j, rfl, rfl, hj, hall, rfl⟩
        dsimp only [List.zip, List.zipWith]
        rcases Nat.lt_or_ge j l.length with hjl | hjg
        · repeat' (first | (refine CL.seq ?_) | (refine CL.region ?_) | (refine CL.skip ?_) | (refine CL.condP rfl (fun _ => ?_) (fun _ => ?_) <;> try (exfalso; omega)) | (refine CL.block ?_) | (refine Gt.nil ?_; refine RW.nilw [0, 2, 3, 4, 5, 6, 7, 8, 9, 10, 11, 12, 13, 14, 19, 25, 38, 44, 53, 59, 91] ?_; dsimp only [H.keep, H.look, H.Fr.put, Nat.beq]) | (refine Gt.move ?_; refine RW.y (Y.move rfl) rfl ?_) | (refine Gt.load ?_; (refine RW.y (Y.loadB rfl (by assumption) rfl) rfl ?_)) | (refine Gt.fieldAddr ?_; refine RW.y (Y.fieldAddr rfl (by rfl)) rfl ?_) | (refine Gt.idx ?_; refine RW.elemS rfl rfl rfl rfl (by assumption) (by omega) (by omega) ?_) | (refine Gt.len ?_; (refine RW.y (Y.lenx rfl (by assumption)) rfl ?_)) | (refine Gt.lss ?_; refine RW.y (Y.lss rfl rfl) rfl ?_))
          refine RW.fn rfl rfl ((refMark _ (hml3 _ (by rw [Int.toNat_natCast]; exact getD_mem [] hjl)) wr4).mono ?_)
          rintro e w5 ⟨rfl, rfl⟩
          rw [Int.toNat_natCast]
          cases hm : markB (l.getD j [])
          · repeat' (first | (refine CL.seq ?_) | (refine CL.region ?_) | (refine CL.condT rfl ?_) | (refine Gt.nil ?_; refine RW.nilw [0, 2, 3, 4, 5, 6, 7, 8, 9, 10, 11, 12, 13, 14, 19, 25, 38, 44, 53, 59, 91] ?_; dsimp only [H.keep, H.look, H.Fr.put, Nat.beq]) | (refine RW.y (Y.build (ps := []) (l := []) rfl rfl) rfl ?_) | (refine Gt.not ?_; (refine RW.y (Y.notb rfl) rfl ?_)))
            rw [hpl (fun c => by rw [all_false [] hjl hm] at c; exact absurd c.2 (by decide))]
            simp only [verR]
            have hKc := hK4
            have hbr := hbr4
            refine RW.storeBlock rfl rfl rfl noCells hbr rfl (fun wz hbz hkz => ?_)
            repeat' (first | (refine CL.ret ?_) | (refine Rt.then ?_) | (refine Rt.block ?_) | (refine Gt.nil ?_; refine RW.nilw [0, 2, 3, 4, 5, 6, 7, 8, 9, 10, 11, 12, 13, 14, 19, 25, 38, 44, 53, 59, 91] ?_; dsimp only [H.keep, H.look, H.Fr.put, Nat.beq]) | (refine Gt.assign ?_; refine RW.y (Y.assign rfl) rfl ?_))
            exact FQ.res (rs := [.cell 2 35, .tmp 3]) (vs := [_, _]) rfl rfl ⟨⟨_, rfl, load_block hbz rfl⟩, rfl, trivial⟩ rfl (⟨hKc.trans hkz fun k h => .inr (by rw [h]; exact Nat.le_refl _), _, rfl, _, rfl, Sl.nil _ _, nolive⟩)
          · repeat' (first | (refine CL.region ?_) | (refine CL.skip ?_) | (refine CL.condF rfl ?_) | (refine CL.done ?_) | (refine Nm.block ?_) | (refine Nm.then ?_) | (refine Gt.nil ?_; refine RW.nilw [0, 2, 3, 4, 5, 6, 7, 8, 9, 10, 11, 12, 13, 14, 19, 25, 38, 44, 53, 59, 91] ?_; dsimp only [H.keep, H.look, H.Fr.put, Nat.beq]) | (refine Gt.move ?_; refine RW.y (Y.move rfl) rfl ?_) | (refine Gt.assign ?_; refine RW.y (Y.assign rfl) rfl ?_) | (refine Gt.not ?_; (refine RW.y (Y.notb rfl) rfl ?_)) | (refine Gt.add ?_; refine RW.y (Y.add64 rfl rfl (by omega) (by omega)) rfl ?_))
            exact ⟨l.length - (j + 1), _, rfl, rfl, rfl, by omega, j + 1, rfl, rfl, by omega, all_step [] hjl hall hm, rfl⟩
        · have hj : j = l.length := by omega
          subst hj
          rw [List.take_length] at hall
          repeat' (first | (refine CL.seq ?_) | (refine CL.region ?_) | (refine CL.condP rfl (fun _ => ?_) (fun _ => ?_) <;> try (exfalso; omega)) | (refine CL.exit ?_) | (refine Ex.then ?_) | (refine Ex.hit ?_) | (refine Ex.miss rfl ?_) | (refine CL.done ?_) | (refine Nm.then ?_) | (refine Gt.nil ?_; refine RW.nilw [0, 2, 3, 4, 5, 6, 7, 8, 9, 10, 11, 12, 13, 14, 19, 25, 38, 44, 53, 59, 91] ?_; dsimp only [H.keep, H.look, H.Fr.put, Nat.beq]) | (refine Gt.move ?_; refine RW.y (Y.move rfl) rfl ?_) | (refine Gt.load ?_; (refine RW.y (Y.loadB rfl (by assumption) rfl) rfl ?_)) | (refine Gt.fieldAddr ?_; refine RW.y (Y.fieldAddr rfl (by rfl)) rfl ?_) | (refine Gt.len ?_; (refine RW.y (Y.lenx rfl (by assumption)) rfl ?_)) | (refine Gt.lss ?_; refine RW.y (Y.lss rfl rfl) rfl ?_))
          exact ⟨_, rfl, rfl, rfl, _, _, _, v3, l, rfl, rfl, by rw [List.length_take]; omega, (hk3.mono fun _ c => c.elim).trans hk4 fun k h => .inl h, hb4, hs4, fun g hg => (how3.lt g (live_own hg)).1, by rw [if_pos rfl, hle], fun _ => ⟨by omega, hall⟩⟩
      · rename_i h
        rw [Int.toNat_natCast] at h
        refine ⟨s.length - (i + 1), _, rfl, rfl, rfl, by omega, i + 1, rfl, rfl, by omega, ?_, rfl⟩
        rw [take_snoc 0 s i hlt]
        simp only [List.mem_append, List.mem_singleton, not_or]
        exact ⟨hno, fun q => h (by rw [← q]; rfl)⟩
    · have hi : i = s.length := by omega
      subst hi
      rw [List.take_length] at hno
      repeat' (first | (refine CL.seq ?_) | (refine CL.region ?_) | (refine CL.condP rfl (fun _ => ?_) (fun _ => ?_) <;> try (exfalso; omega)) | (refine CL.exit ?_) | (refine Ex.then ?_) | (refine Ex.hit ?_) | (refine CL.done ?_) | (refine Nm.then ?_) | (refine Gt.nil ?_; refine RW.nilw [0, 2, 3, 4, 5, 6, 7, 8, 9, 10, 11, 12, 13, 14, 19, 25, 38, 44, 53, 59, 91] ?_; dsimp only [H.keep, H.look, H.Fr.put, Nat.beq]) | (refine Gt.move ?_; refine RW.y (Y.move rfl) rfl ?_) | (refine Gt.len ?_; (refine RW.y (Y.lens rfl) rfl ?_)) | (refine Gt.lss ?_; refine RW.y (Y.lss rfl rfl) rfl ?_))
      exact ⟨_, rfl, rfl, rfl, s, [], false, .slice none 0 0, [], rfl, cut_none 45 s hno, Nat.le_refl _, Kept.refl _ _, hb2, Sl.nil _ _, fun g hg => by simp [live] at hg, rfl, fun c => by cases c⟩
  · rintro vals wr ⟨core, pre, has, p, m, rfl, hcut, hcl, hkr, hbl, hsl, hlv, hm, hok⟩
    dsimp only [List.zip, List.zipWith]
    have hwr := hkr.size
    have hbrr := hkr.at hbr2 (fun c => by have c' : w.heap.size = w1.heap.size := c; omega)
    have hKr : K0 w wr := hK2.trans hkr fun k h => .inr (by have h' : k = w1.heap.size := h; omega)
    rw [hcut, parseV]
    simp only
    have hpR : ∀ x y z, (numB x && numB y && numB z) = true → parseL [x, y, z] pre has = some ⟨val x, val y, val z, m⟩ := by
      intro x y z h3
      simp only [parseL]
      rw [if_pos h3]
      cases has with
      | false => rw [hm]; rfl
      | true => rw [if_pos rfl, if_pos (by have := hok rfl; rw [hm, if_pos rfl] at this; exact this), hm]; rfl
    have hml : ∀ x ∈ splitB 46 core, x.length ≤ 2000000 := fun x hx => Nat.le_trans (splitB_mem_len 46 core x hx) (by omega)
    repeat' (first | (refine CL.seq ?_) | (refine CL.region ?_) | (refine Gt.move ?_; refine RW.y (Y.move rfl) rfl ?_))
    refine RW.fn rfl rfl ((refSplit _ 46 (by omega) wr).mono ?_)
    rintro e w3 ⟨v3, rfl, how3, hk3⟩
    have hs3 := Sl.of_own how3
    have hbr3 := hk3.at0 hbrr
    have hb3 := hk3.at0 hbl
    have hsl3 := hsl.keep0 hk3
    have hK3 := hKr.trans0 hk3
    have hw3 := hk3.size
    generalize splitB 46 core = l at *
    repeat' (first | (refine CL.seq ?_) | (refine CL.region ?_) | (refine CL.skip ?_) | (refine CL.condP rfl (fun _ => ?_) (fun _ => ?_) <;> try (exfalso; omega)) | (refine Gt.nil ?_; refine RW.nilw [0, 2, 3, 4, 5, 6, 7, 8, 9, 10, 11, 12, 13, 14, 19, 25, 38, 44, 53, 59, 91] ?_; dsimp only [H.keep, H.look, H.Fr.put, Nat.beq]) | (refine RW.y (Y.build (ps := []) (l := []) rfl rfl) rfl ?_) | (refine Gt.move ?_; refine RW.y (Y.move rfl) rfl ?_) | (refine Gt.assign ?_; refine RW.y (Y.assign rfl) rfl ?_) | (refine Gt.idx ?_; refine RW.elemS rfl rfl rfl rfl (by assumption) (by omega) (by omega) ?_) | (refine Gt.len ?_; (refine RW.y (Y.lenx rfl (by assumption)) rfl ?_)) | (refine Gt.neq ?_; refine RW.y (Y.nei rfl rfl) rfl ?_))
    · rename_i h3
      rw [parseL_ne (by omega)]
      simp only [verR]
      have hKc := hK3
      have hbr := hbr3
      refine RW.storeBlock rfl rfl rfl noCells hbr rfl (fun wz hbz hkz => ?_)
      repeat' (first | (refine CL.ret ?_) | (refine Gt.nil ?_; refine RW.nilw [0, 2, 3, 4, 5, 6, 7, 8, 9, 10, 11, 12, 13, 14, 19, 25, 38, 44, 53, 59, 91] ?_; dsimp only [H.keep, H.look, H.Fr.put, Nat.beq]) | (refine Gt.assign ?_; refine RW.y (Y.assign rfl) rfl ?_))
      exact FQ.res (rs := [.cell 2 35, .tmp 3]) (vs := [_, _]) rfl rfl ⟨⟨_, rfl, load_block hbz rfl⟩, rfl, trivial⟩ rfl (⟨hKc.trans hkz fun k h => .inr (by rw [h]; exact Nat.le_refl _), _, rfl, _, rfl, Sl.nil _ _, nolive⟩)
    rename_i h3
    obtain ⟨x, y, z, rfl⟩ := len3 (show l.length = 3 by omega)
    have hx := hml x (by simp)
    have hy := hml y (by simp)
    have hz := hml z (by simp)
    have h3l : ([x, y, z] : List T).length = 3 := rfl
    skip
    refine RW.fn rfl rfl ((refNumber x (by omega) w3).mono ?_)
    rintro e w4 ⟨rfl, n1, rfl, hn1⟩
    repeat' (first | (refine CL.seq ?_) | (refine CL.region ?_) | (refine Gt.nil ?_; refine RW.nilw [0, 2, 3, 4, 5, 6, 7, 8, 9, 10, 11, 12, 13, 14, 19, 25, 38, 44, 53, 59, 91] ?_; dsimp only [H.keep, H.look, H.Fr.put, Nat.beq]) | (refine Gt.move ?_; refine RW.y (Y.move rfl) rfl ?_) | (refine Gt.assign ?_; refine RW.y (Y.assign rfl) rfl ?_) | (refine Gt.extract ?_; refine RW.y (Y.extract rfl rfl) rfl ?_) | (refine Gt.idx ?_; refine RW.elemS rfl rfl rfl rfl (by assumption) (by omega) (by omega) ?_))
    refine RW.fn rfl rfl ((refNumber y (by omega) w3).mono ?_)
    rintro e w4 ⟨rfl, n2, rfl, hn2⟩
    repeat' (first | (refine CL.seq ?_) | (refine CL.region ?_) | (refine Gt.nil ?_; refine RW.nilw [0, 2, 3, 4, 5, 6, 7, 8, 9, 10, 11, 12, 13, 14, 19, 25, 38, 44, 53, 59, 91] ?_; dsimp only [H.keep, H.look, H.Fr.put, Nat.beq]) | (refine Gt.move ?_; refine RW.y (Y.move rfl) rfl ?_) | (refine Gt.assign ?_; refine RW.y (Y.assign rfl) rfl ?_) | (refine Gt.extract ?_; refine RW.y (Y.extract rfl rfl) rfl ?_) | (refine Gt.idx ?_; refine RW.elemS rfl rfl rfl rfl (by assumption) (by omega) (by omega) ?_))
    refine RW.fn rfl rfl ((refNumber z (by omega) w3).mono ?_)
    rintro e w4 ⟨rfl, n3, rfl, hn3⟩
    by_cases hall : (numB x && numB y && numB z) = true
    · have hall' := hall
      simp only [Bool.and_eq_true] at hall'
      obtain ⟨⟨e1, e2⟩, e3⟩ := hall'
      rw [hpR x y z hall]
      have i1 := hn1 e1
      have i2 := hn2 e2
      have i3 := hn3 e3
      subst i1 i2 i3
      rw [e1, e2, e3]
      repeat' (first | (refine CL.seq ?_) | (refine CL.region ?_) | (refine CL.skip ?_) | (refine CL.condF rfl ?_) | (refine Gt.nil ?_; refine RW.nilw [0, 2, 3, 4, 5, 6, 7, 8, 9, 10, 11, 12, 13, 14, 19, 25, 38, 44, 53, 59, 91] ?_; dsimp only [H.keep, H.look, H.Fr.put, Nat.beq]) | (refine Gt.move ?_; refine RW.y (Y.move rfl) rfl ?_) | (refine Gt.guard ?_; (refine RW.on rfl rfl rfl ?_)) | (refine Gt.assign ?_; refine RW.y (Y.assign rfl) rfl ?_) | (refine Gt.fieldAddr ?_; refine RW.y (Y.fieldAddr rfl (by rfl)) rfl ?_) | (refine Gt.extract ?_; refine RW.y (Y.extract rfl rfl) rfl ?_) | (refine Gt.not ?_; (refine RW.y (Y.notb rfl) rfl ?_)) | (refine Gt.pick ?_; (refine RW.y (Y.pickF rfl rfl) rfl ?_)))
      refine RW.storeB rfl rfl rfl hb3 (show (_ : Nat) < 4 from by decide) (fun w4 hb4 hk4 => ?_)
      repeat' ((refine Gt.fieldAddr ?_; refine RW.y (Y.fieldAddr rfl (by rfl)) rfl ?_))
      refine RW.storeB rfl rfl rfl hb4 (show (_ : Nat) < 4 from by decide) (fun w5 hb5 hk5 => ?_)
      repeat' ((refine Gt.fieldAddr ?_; refine RW.y (Y.fieldAddr rfl (by rfl)) rfl ?_))
      refine RW.storeB rfl rfl rfl hb5 (show (_ : Nat) < 4 from by decide) (fun w6 hb6 hk6 => ?_)
      have hk36 : Kept (fun k => k = w1.heap.size) w3 w6 := (hk4.trans hk5 fun k h => .inl h).trans hk6 fun k h => .inl h
      have hbr6 := hk36.at hbr3 (fun c => by have c' : w.heap.size = w1.heap.size := c; omega)
      have hK6 : K0 w w6 := hK3.trans hk36 fun k h => .inr (by have h' : k = w1.heap.size := h; omega)
      have hs6 := hsl3.keep hk36 fun g hg c => by have := hlv g hg; have c' : g = w1.heap.size := c; omega
      repeat' (first | (refine CL.seq ?_) | (refine CL.region ?_) | (refine Gt.nil ?_; refine RW.nilw [0, 2, 3, 4, 5, 6, 7, 8, 9, 10, 11, 12, 13, 14, 19, 25, 38, 44, 53, 59, 91] ?_; dsimp only [H.keep, H.look, H.Fr.put, Nat.beq]) | (refine RW.y (Y.loadBlock rfl hb6 rfl) rfl ?_))
      refine RW.storeBlock rfl rfl rfl (verCells hs6.one) hbr6 rfl (fun w7 hb7 hk7 => ?_)
      repeat' (first | (refine CL.ret ?_) | (refine Gt.nil ?_; refine RW.nilw [0, 2, 3, 4, 5, 6, 7, 8, 9, 10, 11, 12, 13, 14, 19, 25, 38, 44, 53, 59, 91] ?_; dsimp only [H.keep, H.look, H.Fr.put, Nat.beq]) | (refine Gt.assign ?_; refine RW.y (Y.assign rfl) rfl ?_))
      exact FQ.res (rs := [.cell 2 35, .tmp 3]) (vs := [_, _]) rfl rfl ⟨⟨_, rfl, load_block hb7 rfl⟩, rfl, trivial⟩ rfl (⟨hK6.trans hk7 fun k h => .inr (by have h' : k = w.heap.size := h; omega), _, rfl, _, rfl, hs6.keep hk7 fun g hg c => by have := hlv g hg; have c' : g = w.heap.size := c; omega, fun g hg => by have := hlv g hg; have := hK2.size; omega⟩)
    · rw [show parseL [x, y, z] pre has = none from by simp only [parseL]; rw [if_neg hall]]
      simp only [verR]
      have hKc := hK3
      have hbr := hbr3
      cases e1 : numB x <;> cases e2 : numB y <;> cases e3 : numB z <;> first
        | (rw [e1, e2, e3] at hall; exact absurd rfl hall)
        | skip
      all_goals
        repeat' (first | (refine CL.seq ?_) | (refine CL.region ?_) | (refine CL.condT rfl ?_) | (refine Gt.nil ?_; refine RW.nilw [0, 2, 3, 4, 5, 6, 7, 8, 9, 10, 11, 12, 13, 14, 19, 25, 38, 44, 53, 59, 91] ?_; dsimp only [H.keep, H.look, H.Fr.put, Nat.beq]) | (refine RW.y (Y.build (ps := []) (l := []) rfl rfl) rfl ?_) | (refine Gt.move ?_; refine RW.y (Y.move rfl) rfl ?_) | (refine Gt.guard ?_; first | (refine RW.on rfl rfl rfl ?_) | (refine RW.off1 rfl rfl rfl rfl rfl ?_)) | (refine Gt.assign ?_; refine RW.y (Y.assign rfl) rfl ?_) | (refine Gt.extract ?_; refine RW.y (Y.extract rfl rfl) rfl ?_) | (refine Gt.not ?_; (refine RW.y (Y.notb rfl) rfl ?_)) | (refine Gt.pick ?_; first | (refine RW.y (Y.pickT rfl rfl) rfl ?_) | (refine RW.y (Y.pickF rfl rfl) rfl ?_)))
        refine RW.storeBlock rfl rfl rfl noCells hbr rfl (fun wz hbz hkz => ?_)
        repeat' (first | (refine CL.ret ?_) | (refine Gt.nil ?_; refine RW.nilw [0, 2, 3, 4, 5, 6, 7, 8, 9, 10, 11, 12, 13, 14, 19, 25, 38, 44, 53, 59, 91] ?_; dsimp only [H.keep, H.look, H.Fr.put, Nat.beq]) | (refine Gt.assign ?_; refine RW.y (Y.assign rfl) rfl ?_))
        exact FQ.res (rs := [.cell 2 35, .tmp 3]) (vs := [_, _]) rfl rfl ⟨⟨_, rfl, load_block hbz rfl⟩, rfl, trivial⟩ rfl (⟨hKc.trans hkz fun k h => .inr (by rw [h]; exact Nat.le_refl _), _, rfl, _, rfl, Sl.nil _ _, nolive⟩)
theorem versionOf (s : T) (hl : s.length ≤ 2000000) (w : World) : Calls Tryz.prog 15 #[vs s] w fun e w' => K0 w w' ∧ ∃ V, e = .returned (.tuple #[V, .int .i64 (verR (parseV (cutB 45 s))).2]) ∧ VerAt w' V (verR (parseV (cutB 45 s))).1 :=
  (versionOfN s hl w).mono fun _ _ ⟨h1, V, h2, h3⟩ => ⟨h1, V, h2, h3.at⟩
end Go.Proofs.YtjfdhafmbcppjaaGreatDoor.Ve

namespace Go.Proofs.YtjfdhafmbcppjaaGreatDoor.Ve
open Go.RowKit H S
attribute [local irreducible] H.CL H.RW H.CW H.Yd H.thenK H.blockQ Go.Calls

theorem ret_int {k : IntKind} {a b : Int} (h : a = b) : Ending.returned (.int k a) = .returned (.int k b) := by rw [h]
theorem nanI (a : Int) (w : World) : Calls Tryz.prog 94 #[.int .i64 a] w fun e w' => w = w' ∧ e = .returned (.bool false) := by
  refine H.enter Tryz.func94 Tryz.ntmps94 rfl rfl ?_; dsimp only [H.args]
  repeat' (first | (refine CL.seq ?_) | (refine CL.region ?_) | (refine CL.ret ?_) | (refine Gt.nil ?_; refine RW.nilw [0, 2] ?_; dsimp only [H.keep, H.look, H.Fr.put, Nat.beq]) | (refine RW.y (Y.neiS rfl rfl) rfl ?_) | (refine Gt.assign ?_; refine RW.y (Y.assign rfl) rfl ?_) | (refine Gt.move ?_; refine RW.y (Y.move rfl) rfl ?_))
  exact FQ.one rfl rfl rfl ⟨rfl, rfl⟩
theorem nanT (a : T) (w : World) : Calls Tryz.prog 111 #[vs a] w fun e w' => w = w' ∧ e = .returned (.bool false) := by
  refine H.enter Tryz.func111 Tryz.ntmps111 rfl rfl ?_; dsimp only [H.args]
  repeat' (first | (refine CL.seq ?_) | (refine CL.region ?_) | (refine CL.ret ?_) | (refine Gt.nil ?_; refine RW.nilw [0, 2] ?_; dsimp only [H.keep, H.look, H.Fr.put, Nat.beq]) | (refine RW.y (Y.nesS rfl rfl) rfl ?_) | (refine Gt.assign ?_; refine RW.y (Y.assign rfl) rfl ?_) | (refine Gt.move ?_; refine RW.y (Y.move rfl) rfl ?_))
  exact FQ.one rfl rfl rfl ⟨rfl, rfl⟩
theorem compareI (a b : Int) (w : World) : Calls Tryz.prog 74 #[.int .i64 a, .int .i64 b] w fun e w' => w = w' ∧ e = .returned (.int .i64 (cmpI a b)) := by
  refine H.enter Tryz.func74 Tryz.ntmps74 rfl rfl ?_; dsimp only [H.args]
  repeat' (first | (refine CL.seq ?_) | (refine CL.region ?_) | (refine Gt.nil ?_; refine RW.nilw [0, 1, 4, 5, 6, 11, 12, 13, 16, 19] ?_; dsimp only [H.keep, H.look, H.Fr.put, Nat.beq]) | (refine Gt.assign ?_; refine RW.y (Y.assign rfl) rfl ?_) | (refine Gt.move ?_; refine RW.y (Y.move rfl) rfl ?_))
  refine RW.fn rfl rfl ((nanI a w).mono ?_)
  rintro e w' ⟨rfl, rfl⟩
  repeat' (first | (refine CL.seq ?_) | (refine CL.region ?_) | (refine Gt.nil ?_; refine RW.nilw [0, 1, 4, 5, 6, 11, 12, 13, 16, 19] ?_; dsimp only [H.keep, H.look, H.Fr.put, Nat.beq]) | (refine Gt.assign ?_; refine RW.y (Y.assign rfl) rfl ?_) | (refine Gt.move ?_; refine RW.y (Y.move rfl) rfl ?_))
  refine RW.fn rfl rfl ((nanI b w).mono ?_)
  rintro e w' ⟨rfl, rfl⟩
  repeat' (first | (refine CL.seq ?_) | (refine CL.region ?_) | (refine CL.skip ?_) | (refine CL.condP rfl (fun _ => ?_) (fun _ => ?_) <;> try (exfalso; omega)) | (refine CL.condF rfl ?_) | (refine CL.ret ?_) | (refine Gt.nil ?_; refine RW.nilw [0, 1, 4, 5, 6, 11, 12, 13, 16, 19] ?_; dsimp only [H.keep, H.look, H.Fr.put, Nat.beq]) | (refine Gt.assign ?_; refine RW.y (Y.assign rfl) rfl ?_) | (refine Gt.move ?_; refine RW.y (Y.move rfl) rfl ?_) | (refine Gt.lss ?_; refine RW.y (Y.lss rfl rfl) rfl ?_) | (refine Gt.gtr ?_; refine RW.y (Y.gtr rfl rfl) rfl ?_))
  · exact FQ.one rfl rfl rfl ⟨rfl, ret_int (by rw [cmpI, if_pos (by assumption)])⟩
  · exact FQ.one rfl rfl rfl ⟨rfl, ret_int (by rw [cmpI, if_neg (by assumption), if_pos (by assumption)])⟩
  · exact FQ.one rfl rfl rfl ⟨rfl, ret_int (by rw [cmpI, if_neg (by assumption), if_neg (by assumption)])⟩
theorem compareT (a b : T) (w : World) : Calls Tryz.prog 96 #[vs a, vs b] w fun e w' => w = w' ∧ e = .returned (.int .i64 (cmpT a b)) := by
  refine H.enter Tryz.func96 Tryz.ntmps96 rfl rfl ?_; dsimp only [H.args]
  repeat' (first | (refine CL.seq ?_) | (refine CL.region ?_) | (refine Gt.nil ?_; refine RW.nilw [0, 1, 4, 5, 6, 11, 12, 13, 16, 19] ?_; dsimp only [H.keep, H.look, H.Fr.put, Nat.beq]) | (refine Gt.assign ?_; refine RW.y (Y.assign rfl) rfl ?_) | (refine Gt.move ?_; refine RW.y (Y.move rfl) rfl ?_))
  refine RW.fn rfl rfl ((nanT a w).mono ?_)
  rintro e w' ⟨rfl, rfl⟩
  repeat' (first | (refine CL.seq ?_) | (refine CL.region ?_) | (refine Gt.nil ?_; refine RW.nilw [0, 1, 4, 5, 6, 11, 12, 13, 16, 19] ?_; dsimp only [H.keep, H.look, H.Fr.put, Nat.beq]) | (refine Gt.assign ?_; refine RW.y (Y.assign rfl) rfl ?_) | (refine Gt.move ?_; refine RW.y (Y.move rfl) rfl ?_))
  refine RW.fn rfl rfl ((nanT b w).mono ?_)
  rintro e w' ⟨rfl, rfl⟩
  repeat' (first | (refine CL.seq ?_) | (refine CL.region ?_) | (refine CL.skip ?_) | (refine CL.condF rfl ?_) | (refine CL.cond rfl (fun _ => ?_) (fun _ => ?_)) | (refine CL.ret ?_) | (refine Gt.nil ?_; refine RW.nilw [0, 1, 4, 5, 6, 11, 12, 13, 16, 19] ?_; dsimp only [H.keep, H.look, H.Fr.put, Nat.beq]) | (refine Gt.assign ?_; refine RW.y (Y.assign rfl) rfl ?_) | (refine Gt.move ?_; refine RW.y (Y.move rfl) rfl ?_) | (refine Gt.lss ?_; refine RW.y (Y.lts rfl rfl) rfl ?_) | (refine Gt.gtr ?_; refine RW.y (Y.gts rfl rfl) rfl ?_))
  · rename_i h
    exact FQ.one rfl rfl rfl ⟨rfl, ret_int (by rw [cmpT, if_pos h])⟩
  · rename_i h h2
    exact FQ.one rfl rfl rfl ⟨rfl, ret_int (by rw [h] at h2; simp at h2; rw [cmpT, h, if_neg (by decide), if_neg h2])⟩
  · rename_i h h2
    exact FQ.one rfl rfl rfl ⟨rfl, ret_int (by rw [h] at h2; simp at h2; rw [cmpT, h, if_neg (by decide), if_pos h2])⟩

def orI : List Int → Int
  | [] => 0
  | x :: r => if x ≠ 0 then x else orI r
theorem orI_drop (l : List Int) (i : Nat) (h : i < l.length) : orI (l.drop i) = if l.getD i default ≠ 0 then l.getD i default else orI (l.drop (i + 1)) := by
  rw [List.drop_eq_getElem_cons h, List.getD_eq_getElem?_getD, List.getElem?_eq_getElem h]; rfl
theorem orInt (v : Value) (l : List Int) (w : World) (hl : l.length ≤ 1000) (hs : Sl w 1 v l.length (l.map (Value.int .i64))) : Calls Tryz.prog 73 #[v] w fun e w' => w = w' ∧ e = .returned (.int .i64 (orI l)) := by
  refine H.enter Tryz.func73 Tryz.ntmps73 rfl rfl ?_; dsimp only [H.args]
  repeat' (first | (refine CL.seq ?_) | (refine CL.region ?_) | (refine CL.block ?_) | (refine Gt.nil ?_; refine RW.nilw [0, 2, 3, 5, 6, 7, 8, 9, 14] ?_; dsimp only [H.keep, H.look, H.Fr.put, Nat.beq]) | (refine Gt.move ?_; refine RW.y (Y.move rfl) rfl ?_) | (refine Gt.assign ?_; refine RW.y (Y.assign rfl) rfl ?_) | (refine Gt.len ?_; (refine RW.y (Y.lenx rfl (by assumption)) rfl ?_)))
  refine CL.loopS [2, 3, 6, 7, 8] (fun k vals wr => ∃ (i : Nat) (n : Int), vals = [.int .i64 n, .int .i64 0, v, .int .i64 (l.length : Int), .int .i64 (i : Int)] ∧ k = l.length - i ∧ i ≤ l.length ∧ orI l = orI (l.drop i) ∧ wr = w) l.length ⟨_, rfl, 0, 0, rfl, rfl, Nat.zero_le _, rfl, rfl⟩ ?_
  rintro k vals wr ⟨i, n, rfl, rfl, hi, ho, rfl⟩
  dsimp only [List.zip, List.zipWith]
  rcases Nat.lt_or_ge i l.length with hlt | hge
  · have hd := orI_drop l i hlt
    have hi2 : ((i : Int)).toNat = i := Int.toNat_natCast i
    repeat' (first | (refine CL.seq ?_) | (refine CL.region ?_) | (refine CL.skip ?_) | (refine CL.condP rfl (fun _ => ?_) (fun _ => ?_) <;> try (exfalso; omega)) | (refine CL.block ?_) | (refine CL.ret ?_) | (refine Rt.then ?_) | (refine Rt.block ?_) | (refine CL.done ?_) | (refine Nm.block ?_) | (refine Nm.then ?_) | (refine Gt.nil ?_; refine RW.nilw [0, 2, 3, 5, 6, 7, 8, 9, 14] ?_; dsimp only [H.keep, H.look, H.Fr.put, Nat.beq]) | (refine Gt.move ?_; refine RW.y (Y.move rfl) rfl ?_) | (refine Gt.assign ?_; refine RW.y (Y.assign rfl) rfl ?_) | (refine Gt.lss ?_; refine RW.y (Y.lss rfl rfl) rfl ?_) | (refine Gt.idx ?_; refine RW.elemM rfl rfl rfl rfl (by assumption) (by omega) (by omega) ?_) | (refine Gt.neq ?_; refine RW.y (Y.nei rfl rfl) rfl ?_) | (refine Gt.add ?_; refine RW.y (Y.add64 rfl rfl (by omega) (by omega)) rfl ?_))
    · rename_i h
      rw [hi2] at h
      exact FQ.one rfl rfl rfl ⟨rfl, by rw [ho, hd, if_pos h, hi2]⟩
    · rename_i h
      rw [hi2] at h
      exact ⟨l.length - (i + 1), _, rfl, rfl, rfl, by omega, i + 1, n, rfl, rfl, by omega, by rw [ho, hd, if_neg h], rfl⟩
  · have hi : i = l.length := by omega
    subst hi
    rw [List.drop_length] at ho
    repeat' (first | (refine CL.seq ?_) | (refine CL.region ?_) | (refine CL.condP rfl (fun _ => ?_) (fun _ => ?_) <;> try (exfalso; omega)) | (refine CL.exit ?_) | (refine Ex.then ?_) | (refine Ex.hit ?_) | (refine CL.ret ?_) | (refine Gt.nil ?_; refine RW.nilw [0, 2, 3, 5, 6, 7, 8, 9, 14] ?_; dsimp only [H.keep, H.look, H.Fr.put, Nat.beq]) | (refine Gt.move ?_; refine RW.y (Y.move rfl) rfl ?_) | (refine Gt.assign ?_; refine RW.y (Y.assign rfl) rfl ?_) | (refine Gt.lss ?_; refine RW.y (Y.lss rfl rfl) rfl ?_))
    exact FQ.one rfl rfl rfl ⟨rfl, by rw [ho]; rfl⟩

theorem sl_new {w : World} {g : Nat} {c : Array Value} {e : TypeId} (h : w.heap[g]? = some (.cells c e (0, 0))) {n sz : Nat} (hn : c.size = n * sz) (hm : n ≤ 1000000) : Sl w sz (.slice (some ⟨g, 0, none⟩) n n) n c.toList :=
  Sl.of_own (own_new h (Nat.zero_le g) hn (by simp only [maxLen]; omega))
theorem int_cells {l : List Int} : ∀ v ∈ l.map (Value.int .i64), v.cells.size = 1 := by
  intro v hv
  obtain ⟨x, _, rfl⟩ := List.mem_map.1 hv
  rfl

theorem marks (a b : T) (ha : a.length ≤ 1000000000000) (hb : b.length ≤ 1000000000000) (w : World) : Calls Tryz.prog 76 #[vs a, vs b] w fun e w' => K0 w w' ∧ e = .returned (.int .i64 (cmpM a b)) := by
  refine H.enter Tryz.func76 Tryz.ntmps76 rfl rfl ?_; dsimp only [H.args]
  repeat' (first | (refine CL.seq ?_) | (refine CL.region ?_) | (refine Gt.nil ?_; refine RW.nilw [0, 1, 4, 5, 6, 11, 26, 28] ?_; dsimp only [H.keep, H.look, H.Fr.put, Nat.beq]) | (refine Gt.move ?_; refine RW.y (Y.move rfl) rfl ?_) | (refine Gt.assign ?_; refine RW.y (Y.assign rfl) rfl ?_))
  refine RW.fn rfl rfl ((digits a ha w).mono ?_)
  rintro e w' ⟨rfl, rfl⟩
  repeat' ((refine Gt.move ?_; refine RW.y (Y.move rfl) rfl ?_))
  refine RW.fn rfl rfl ((digits b hb w).mono ?_)
  rintro e w' ⟨rfl, rfl⟩
  unfold cmpM
  cases h1 : digB a <;> cases h2 : digB b
  · repeat' (first | (refine CL.seq ?_) | (refine CL.region ?_) | (refine CL.skip ?_) | (refine CL.condF rfl ?_) | (refine CL.block ?_) | (refine CL.done ?_) | (refine Nm.block ?_) | (refine Gt.nil ?_; refine RW.nilw [0, 1, 4, 5, 6, 11, 26, 28] ?_; dsimp only [H.keep, H.look, H.Fr.put, Nat.beq]) | (refine Gt.move ?_; refine RW.y (Y.move rfl) rfl ?_) | (refine Gt.guard ?_; (refine RW.off1 rfl rfl rfl rfl rfl ?_)) | (refine Gt.assign ?_; refine RW.y (Y.assign rfl) rfl ?_) | (refine Gt.pick ?_; (refine RW.y (Y.pickF rfl rfl) rfl ?_)))
    refine RW.fn rfl rfl ((compareT a b w).mono ?_)
    rintro e w' ⟨rfl, rfl⟩
    repeat' (first | (refine CL.ret ?_) | (refine Gt.nil ?_; refine RW.nilw [0, 1, 4, 5, 6, 11, 26, 28] ?_; dsimp only [H.keep, H.look, H.Fr.put, Nat.beq]) | (refine Gt.assign ?_; refine RW.y (Y.assign rfl) rfl ?_))
    exact FQ.one rfl rfl rfl ⟨Kept.refl _ _, by simp⟩
  · repeat' (first | (refine CL.seq ?_) | (refine CL.region ?_) | (refine CL.condT rfl ?_) | (refine CL.condF rfl ?_) | (refine CL.block ?_) | (refine CL.ret ?_) | (refine Rt.block ?_) | (refine Gt.nil ?_; refine RW.nilw [0, 1, 4, 5, 6, 11, 26, 28] ?_; dsimp only [H.keep, H.look, H.Fr.put, Nat.beq]) | (refine Gt.move ?_; refine RW.y (Y.move rfl) rfl ?_) | (refine Gt.guard ?_; (refine RW.off1 rfl rfl rfl rfl rfl ?_)) | (refine Gt.assign ?_; refine RW.y (Y.assign rfl) rfl ?_) | (refine Gt.pick ?_; (refine RW.y (Y.pickF rfl rfl) rfl ?_)))
    exact FQ.one rfl rfl rfl ⟨Kept.refl _ _, by simp⟩
  · repeat' (first | (refine CL.seq ?_) | (refine CL.region ?_) | (refine CL.condT rfl ?_) | (refine CL.condF rfl ?_) | (refine CL.block ?_) | (refine CL.ret ?_) | (refine Rt.block ?_) | (refine Gt.nil ?_; refine RW.nilw [0, 1, 4, 5, 6, 11, 26, 28] ?_; dsimp only [H.keep, H.look, H.Fr.put, Nat.beq]) | (refine Gt.move ?_; refine RW.y (Y.move rfl) rfl ?_) | (refine Gt.guard ?_; (refine RW.on rfl rfl rfl ?_)) | (refine Gt.assign ?_; refine RW.y (Y.assign rfl) rfl ?_) | (refine Gt.pick ?_; (refine RW.y (Y.pickT rfl rfl) rfl ?_)))
    exact FQ.one rfl rfl rfl ⟨Kept.refl _ _, by simp⟩
  · repeat' (first | (refine CL.seq ?_) | (refine CL.region ?_) | (refine CL.condT rfl ?_) | (refine CL.block ?_) | (refine Gt.nil ?_; refine RW.nilw [0, 1, 4, 5, 6, 11, 26, 28] ?_; dsimp only [H.keep, H.look, H.Fr.put, Nat.beq]) | (refine Gt.move ?_; refine RW.y (Y.move rfl) rfl ?_) | (refine Gt.guard ?_; (refine RW.on rfl rfl rfl ?_)) | (refine Gt.assign ?_; refine RW.y (Y.assign rfl) rfl ?_) | (refine Gt.len ?_; refine RW.y (Y.lens rfl) rfl ?_) | (refine Gt.pick ?_; (refine RW.y (Y.pickT rfl rfl) rfl ?_)))
    refine RW.fn rfl rfl ((compareI a.length b.length w).mono ?_)
    rintro e w' ⟨rfl, rfl⟩
    repeat' ((refine Gt.move ?_; refine RW.y (Y.move rfl) rfl ?_))
    refine RW.fn rfl rfl ((compareT a b w).mono ?_)
    rintro e w' ⟨rfl, rfl⟩
    skip
    refine RW.buildL (ps := [(0, _), (1, _)]) (l := [cmpI a.length b.length, cmpT a b].map (Value.int .i64)) rfl rfl rfl int_cells rfl rfl (fun w2 hb2 hk2 hlt2 => ?_)
    skip
    refine RW.fn rfl rfl ((orInt _ [cmpI a.length b.length, cmpT a b] w2 (show (2 : Nat) ≤ 1000 from by decide) (sl_new hb2 rfl (show (2 : Nat) ≤ 1000000 from by decide))).mono ?_)
    rintro e w3 ⟨rfl, rfl⟩
    repeat' (first | (refine CL.ret ?_) | (refine Rt.block ?_) | (refine Gt.nil ?_; refine RW.nilw [0, 1, 4, 5, 6, 11, 26, 28] ?_; dsimp only [H.keep, H.look, H.Fr.put, Nat.beq]) | (refine Gt.assign ?_; refine RW.y (Y.assign rfl) rfl ?_))
    refine FQ.one rfl rfl rfl ⟨hk2, ret_int ?_⟩
    simp only [orI, and_self, if_true]
    by_cases h : cmpT a b = 0 <;> simp [h]

theorem cmpL_drop (x y : List T) (i : Nat) (hx : i < x.length) (hy : i < y.length) : cmpL (x.drop i) (y.drop i) = if cmpM (x.getD i []) (y.getD i []) ≠ 0 then cmpM (x.getD i []) (y.getD i []) else cmpL (x.drop (i + 1)) (y.drop (i + 1)) := by
  rw [List.drop_eq_getElem_cons hx, List.drop_eq_getElem_cons hy, cmpL, List.getD_eq_getElem?_getD, List.getElem?_eq_getElem hx, List.getD_eq_getElem?_getD, List.getElem?_eq_getElem hy]; rfl
theorem cmpL_y (x y : List T) (i : Nat) (hx : i < x.length) (hy : y.length ≤ i) : cmpL (x.drop i) (y.drop i) = 1 := by
  rw [List.drop_eq_getElem_cons hx, List.drop_eq_nil_iff.2 hy, cmpL]
theorem cmpL_x (x y : List T) (i : Nat) (hx : x.length ≤ i) (hy : i < y.length) : cmpL (x.drop i) (y.drop i) = -1 := by
  rw [List.drop_eq_getElem_cons hy, List.drop_eq_nil_iff.2 hx, cmpL]
theorem cmpL_n (x y : List T) (i : Nat) (hx : x.length ≤ i) (hy : y.length ≤ i) : cmpL (x.drop i) (y.drop i) = 0 := by
  rw [List.drop_eq_nil_iff.2 hy, List.drop_eq_nil_iff.2 hx, cmpL]

set_option maxHeartbeats 400000 in
theorem compareMarks (v u : Value) (x y : List T) (w : World) (hx : x.length ≤ 1000000000000) (hy : y.length ≤ 1000000000000) (bx : ∀ s ∈ x, s.length ≤ 1000000000000) (by' : ∀ s ∈ y, s.length ≤ 1000000000000) (hs : Sl w 1 v x.length (sv x)) (ht : Sl w 1 u y.length (sv y)) :
    Calls Tryz.prog 75 #[v, u, .func (.func 76) #[] #[]] w fun e w' => K0 w w' ∧ e = .returned (.int .i64 (cmpL x y)) := by
  refine H.enter Tryz.func75 Tryz.ntmps75 rfl rfl ?_; dsimp only [H.args]
  repeat' (first | (refine CL.seq ?_) | (refine CL.region ?_) | (refine CL.block ?_) | (refine Gt.nil ?_; refine RW.nilw [0, 1, 2, 6, 7, 8, 9, 10, 11, 12, 13, 14, 21, 31, 38] ?_; dsimp only [H.keep, H.look, H.Fr.put, Nat.beq]) | (refine Gt.move ?_; refine RW.y (Y.move rfl) rfl ?_) | (refine Gt.assign ?_; refine RW.y (Y.assign rfl) rfl ?_) | (refine Gt.len ?_; (refine RW.y (Y.lenx rfl (by assumption)) rfl ?_)))
  refine CL.loopS [0, 1, 2, 6, 11, 12, 13] (fun k vals wr => ∃ (i : Nat) (n : Int), vals = [v, u, .func (.func 76) #[] #[], .int .i64 n, v, .int .i64 (x.length : Int), .int .i64 (i : Int)] ∧ k = x.length - i ∧ i ≤ x.length ∧ (i ≤ y.length) ∧ cmpL x y = cmpL (x.drop i) (y.drop i) ∧ K0 w wr) x.length ⟨_, rfl, 0, 0, rfl, rfl, Nat.zero_le _, Nat.zero_le _, rfl, Kept.refl _ _⟩ ?_
  rintro k vals wr ⟨i, n, rfl, rfl, hi, hiy, hc, hk⟩
  dsimp only [List.zip, List.zipWith]
  have hsr := hs.keep0 hk
  have htr := ht.keep0 hk
  have hi2 : ((i : Int)).toNat = i := Int.toNat_natCast i
  rcases Nat.lt_or_ge i x.length with hlt | hge
  · rcases Nat.lt_or_ge i y.length with hly | hgy
    · have hd := cmpL_drop x y i hlt hly
      repeat' (first | (refine CL.seq ?_) | (refine CL.region ?_) | (refine CL.skip ?_) | (refine CL.condP rfl (fun _ => ?_) (fun _ => ?_) <;> try (exfalso; omega)) | (refine CL.block ?_) | (refine Gt.nil ?_; refine RW.nilw [0, 1, 2, 6, 7, 8, 9, 10, 11, 12, 13, 14, 21, 31, 38] ?_; dsimp only [H.keep, H.look, H.Fr.put, Nat.beq]) | (refine Gt.move ?_; refine RW.y (Y.move rfl) rfl ?_) | (refine Gt.assign ?_; refine RW.y (Y.assign rfl) rfl ?_) | (refine Gt.len ?_; (refine RW.y (Y.lenx rfl (by assumption)) rfl ?_)) | (refine Gt.lss ?_; refine RW.y (Y.lss rfl rfl) rfl ?_) | (refine Gt.idx ?_; refine RW.elemS rfl rfl rfl rfl (by assumption) (by omega) (by omega) ?_) | (refine Gt.geq ?_; refine RW.y (Y.geq rfl rfl) rfl ?_))
      refine RW.fnv (cap := []) rfl rfl rfl ((marks _ _ (bx _ (getD_mem [] (by omega))) (by' _ (getD_mem [] (by omega))) wr).mono ?_)
      rintro e w2 ⟨hk2, rfl⟩
      rw [hi2]
      repeat' (first | (refine CL.seq ?_) | (refine CL.region ?_) | (refine CL.skip ?_) | (refine CL.condP rfl (fun _ => ?_) (fun _ => ?_) <;> try (exfalso; omega)) | (refine CL.ret ?_) | (refine Rt.then ?_) | (refine Rt.block ?_) | (refine CL.done ?_) | (refine Nm.block ?_) | (refine Nm.then ?_) | (refine Gt.nil ?_; refine RW.nilw [0, 1, 2, 6, 7, 8, 9, 10, 11, 12, 13, 14, 21, 31, 38] ?_; dsimp only [H.keep, H.look, H.Fr.put, Nat.beq]) | (refine Gt.move ?_; refine RW.y (Y.move rfl) rfl ?_) | (refine Gt.assign ?_; refine RW.y (Y.assign rfl) rfl ?_) | (refine Gt.neq ?_; refine RW.y (Y.nei rfl rfl) rfl ?_) | (refine Gt.add ?_; refine RW.y (Y.add64 rfl rfl (by omega) (by omega)) rfl ?_))
      · rename_i h
        exact FQ.one rfl rfl rfl ⟨hk.trans0 hk2, by rw [hc, hd, if_pos h]⟩
      · rename_i h
        exact ⟨x.length - (i + 1), _, rfl, rfl, rfl, by omega, i + 1, n, rfl, rfl, by omega, by omega, by rw [hc, hd, if_neg h], hk.trans0 hk2⟩
    · have hd := cmpL_y x y i hlt hgy
      repeat' (first | (refine CL.seq ?_) | (refine CL.region ?_) | (refine CL.skip ?_) | (refine CL.condP rfl (fun _ => ?_) (fun _ => ?_) <;> try (exfalso; omega)) | (refine CL.block ?_) | (refine CL.ret ?_) | (refine Rt.then ?_) | (refine Rt.block ?_) | (refine Gt.nil ?_; refine RW.nilw [0, 1, 2, 6, 7, 8, 9, 10, 11, 12, 13, 14, 21, 31, 38] ?_; dsimp only [H.keep, H.look, H.Fr.put, Nat.beq]) | (refine Gt.move ?_; refine RW.y (Y.move rfl) rfl ?_) | (refine Gt.assign ?_; refine RW.y (Y.assign rfl) rfl ?_) | (refine Gt.len ?_; (refine RW.y (Y.lenx rfl (by assumption)) rfl ?_)) | (refine Gt.lss ?_; refine RW.y (Y.lss rfl rfl) rfl ?_) | (refine Gt.idx ?_; refine RW.elemS rfl rfl rfl rfl (by assumption) (by omega) (by omega) ?_) | (refine Gt.geq ?_; refine RW.y (Y.geq rfl rfl) rfl ?_))
      exact FQ.one rfl rfl rfl ⟨hk, by rw [hc, hd]⟩
  · have hi : i = x.length := by omega
    subst hi
    rcases Nat.lt_or_ge x.length y.length with hly | hgy
    · repeat' (first | (refine CL.seq ?_) | (refine CL.region ?_) | (refine CL.condP rfl (fun _ => ?_) (fun _ => ?_) <;> try (exfalso; omega)) | (refine CL.exit ?_) | (refine Ex.then ?_) | (refine Ex.hit ?_) | (refine CL.ret ?_) | (refine Gt.nil ?_; refine RW.nilw [0, 1, 2, 6, 7, 8, 9, 10, 11, 12, 13, 14, 21, 31, 38] ?_; dsimp only [H.keep, H.look, H.Fr.put, Nat.beq]) | (refine Gt.move ?_; refine RW.y (Y.move rfl) rfl ?_) | (refine Gt.assign ?_; refine RW.y (Y.assign rfl) rfl ?_) | (refine Gt.len ?_; (refine RW.y (Y.lenx rfl (by assumption)) rfl ?_)) | (refine Gt.lss ?_; refine RW.y (Y.lss rfl rfl) rfl ?_))
      exact FQ.one rfl rfl rfl ⟨hk, by rw [hc, cmpL_x x y _ (Nat.le_refl _) hly]⟩
    · repeat' (first | (refine CL.seq ?_) | (refine CL.region ?_) | (refine CL.skip ?_) | (refine CL.condP rfl (fun _ => ?_) (fun _ => ?_) <;> try (exfalso; omega)) | (refine CL.exit ?_) | (refine Ex.then ?_) | (refine Ex.hit ?_) | (refine CL.ret ?_) | (refine Gt.nil ?_; refine RW.nilw [0, 1, 2, 6, 7, 8, 9, 10, 11, 12, 13, 14, 21, 31, 38] ?_; dsimp only [H.keep, H.look, H.Fr.put, Nat.beq]) | (refine Gt.move ?_; refine RW.y (Y.move rfl) rfl ?_) | (refine Gt.assign ?_; refine RW.y (Y.assign rfl) rfl ?_) | (refine Gt.len ?_; (refine RW.y (Y.lenx rfl (by assumption)) rfl ?_)) | (refine Gt.lss ?_; refine RW.y (Y.lss rfl rfl) rfl ?_))
      exact FQ.one rfl rfl rfl ⟨hk, by rw [hc, cmpL_n x y _ (Nat.le_refl _) hgy]⟩
end Go.Proofs.YtjfdhafmbcppjaaGreatDoor.Ve

namespace Go.Proofs.YtjfdhafmbcppjaaGreatDoor.Ve
open Go.RowKit H S
attribute [local irreducible] H.CL H.RW H.CW H.Yd H.thenK H.blockQ Go.Calls

/-- A version whose marks are short enough for a machine. -/
def Fit (v : Ver) : Prop := v.pre.length ≤ 1000000 ∧ ∀ s ∈ v.pre, s.length ≤ 1000000
theorem cmpI_bd (a b : Int) : -1 ≤ cmpI a b ∧ cmpI a b ≤ 1 := by unfold cmpI; split <;> (try split) <;> omega

theorem cmp0 (l : List T) : cmpI l.length 0 = if l = [] then 0 else 1 := by
  cases l with
  | nil => rfl
  | cons a r => rw [if_neg (by simp), cmpI, if_neg (by omega), if_pos (by simp)]

set_option maxHeartbeats 1000000 in
theorem cmpW (X Y : Value) (x y : Ver) (w : World) (hX : VerAt w X x) (hY : VerAt w Y y) (fx : Fit x) (fy : Fit y) : Calls Tryz.prog 48 #[X, Y] w fun e w' => K0 w w' ∧ e = .returned (.int .i64 (cmpV x y)) := by
  obtain ⟨p, rfl, hp⟩ := hX
  obtain ⟨q, rfl, hq⟩ := hY
  refine H.enter Tryz.func48 Tryz.ntmps48 rfl rfl ?_; dsimp only [H.args]
  repeat' (first | (refine CL.seq ?_) | (refine CL.region ?_))
  refine RW.box rfl rfl (fun w1 hb1 hk1 hlt1 => ?_)
  skip
  refine RW.box rfl rfl (fun w2 hb2 hk2 hlt2 => ?_)
  have hX2 : w2.heap[w.heap.size]? = some (.cells #[.int .i64 x.a, .int .i64 x.b, .int .i64 x.c, p] verT (0, 0)) := hk2.at0 hb1
  have hY2 : w2.heap[w1.heap.size]? = some (.cells #[.int .i64 y.a, .int .i64 y.b, .int .i64 y.c, q] verT (0, 0)) := hb2
  have hK2 : K0 w w2 := hk1.trans0 hk2
  repeat' (first | (refine CL.seq ?_) | (refine Gt.nil ?_; refine RW.nilw [0, 1, 2, 3, 4, 5, 23, 27] ?_; dsimp only [H.keep, H.look, H.Fr.put, Nat.beq]) | (refine Gt.assign ?_; refine RW.y (Y.assign rfl) rfl ?_))
  refine CL.draw (fun w' => K0 w2 w') (by kernel_rfl) (fun w3 hheap hk3 => ?_)
  have hS : K0 w2 w3 := hk3
  skip
  refine AW.take 0 rfl (by kernel_rfl) (by kernel_rfl) (by kernel_rfl) rfl (by assumption) (fun w hS => Y.fieldAddr rfl (by rfl)) ?_
  refine AW.take 1 rfl (by kernel_rfl) (by kernel_rfl) (by kernel_rfl) rfl (by assumption) (fun w hS => Y.loadB rfl (hS.at0 hX2) rfl) ?_
  refine AW.take 2 rfl (by kernel_rfl) (by kernel_rfl) (by kernel_rfl) rfl (by assumption) (fun w hS => Y.fieldAddr rfl (by rfl)) ?_
  refine AW.take 3 rfl (by kernel_rfl) (by kernel_rfl) (by kernel_rfl) rfl (by assumption) (fun w hS => Y.loadB rfl (hS.at0 hY2) rfl) ?_
  refine AW.take 5 rfl (by kernel_rfl) (by kernel_rfl) (by kernel_rfl) rfl (by assumption) (fun w hS => Y.fieldAddr rfl (by rfl)) ?_
  refine AW.take 6 rfl (by kernel_rfl) (by kernel_rfl) (by kernel_rfl) rfl (by assumption) (fun w hS => Y.loadB rfl (hS.at0 hX2) rfl) ?_
  refine AW.take 7 rfl (by kernel_rfl) (by kernel_rfl) (by kernel_rfl) rfl (by assumption) (fun w hS => Y.fieldAddr rfl (by rfl)) ?_
  refine AW.take 8 rfl (by kernel_rfl) (by kernel_rfl) (by kernel_rfl) rfl (by assumption) (fun w hS => Y.loadB rfl (hS.at0 hY2) rfl) ?_
  refine AW.take 10 rfl (by kernel_rfl) (by kernel_rfl) (by kernel_rfl) rfl (by assumption) (fun w hS => Y.fieldAddr rfl (by rfl)) ?_
  refine AW.take 11 rfl (by kernel_rfl) (by kernel_rfl) (by kernel_rfl) rfl (by assumption) (fun w hS => Y.loadB rfl (hS.at0 hX2) rfl) ?_
  refine AW.take 12 rfl (by kernel_rfl) (by kernel_rfl) (by kernel_rfl) rfl (by assumption) (fun w hS => Y.fieldAddr rfl (by rfl)) ?_
  refine AW.take 13 rfl (by kernel_rfl) (by kernel_rfl) (by kernel_rfl) rfl (by assumption) (fun w hS => Y.loadB rfl (hS.at0 hY2) rfl) ?_
  refine AW.next 4 rfl (by kernel_rfl) ?_
  refine RW.fn rfl rfl ((compareI x.a y.a w3).mono ?_)
  rintro e w' ⟨rfl, rfl⟩
  refine RW.nil (Nm.then ⟨hS, ?_⟩)
  refine AW.next 9 rfl (by kernel_rfl) ?_
  refine RW.fn rfl rfl ((compareI x.b y.b w3).mono ?_)
  rintro e w' ⟨rfl, rfl⟩
  refine RW.nil (Nm.then ⟨hS, ?_⟩)
  refine AW.next 14 rfl (by kernel_rfl) ?_
  refine RW.fn rfl rfl ((compareI x.c y.c w3).mono ?_)
  rintro e w' ⟨rfl, rfl⟩
  refine RW.nil (Nm.then ⟨hS, ?_⟩)
  refine AW.next 15 rfl (by kernel_rfl) ?_
  refine RW.buildL (ps := [(0, _), (1, _), (2, _)]) (l := [cmpI x.a y.a, cmpI x.b y.b, cmpI x.c y.c].map (Value.int .i64)) rfl rfl rfl int_cells rfl rfl (fun w4 hb4 hk4 hlt4 => ?_)
  have hK4 : K0 w w4 := (hK2.trans0 hk3).trans0 hk4
  have hX4 := hk4.at0 (hS.at0 hX2)
  have hY4 := hk4.at0 (hS.at0 hY2)
  refine RW.nil (Nm.then (rebase0 hS hk4 fun hS => ?_))
  refine AW.next 16 rfl (by kernel_rfl) ?_
  refine RW.fn rfl rfl ((orInt _ [cmpI x.a y.a, cmpI x.b y.b, cmpI x.c y.c] w4 (show (3 : Nat) ≤ 1000 from by decide) (sl_new hb4 rfl (show (3 : Nat) ≤ 1000000 from by decide))).mono ?_)
  rintro e w' ⟨rfl, rfl⟩
  refine RW.nil (Nm.then ⟨hS, ?_⟩)
  refine AW.take 17 rfl (by kernel_rfl) (by kernel_rfl) (by kernel_rfl) rfl (by assumption) (fun w hS => Y.assign rfl) ?_
  refine AW.donew [2, 3, 4, 5] (by kernel_rfl) ?_
  dsimp only [H.keep, H.look, H.Fr.put, Nat.beq]
  have hp4 := hp.keep0 hK4
  have hq4 := hq.keep0 hK4
  have hor : cmpV x y = if orI [cmpI x.a y.a, cmpI x.b y.b, cmpI x.c y.c] ≠ 0 then orI [cmpI x.a y.a, cmpI x.b y.b, cmpI x.c y.c] else cmpP x.pre y.pre := by
    simp only [cmpV, orI]
    by_cases h1 : cmpI x.a y.a = 0 <;> by_cases h2 : cmpI x.b y.b = 0 <;> by_cases h3 : cmpI x.c y.c = 0 <;> simp [h1, h2, h3]
  have c1 := cmpI_bd x.pre.length 0
  have c2 := cmpI_bd y.pre.length 0
  generalize orI [cmpI x.a y.a, cmpI x.b y.b, cmpI x.c y.c] = o at *
  repeat' (first | (refine CL.seq ?_) | (refine CL.region ?_) | (refine CL.skip ?_) | (refine CL.condP rfl (fun _ => ?_) (fun _ => ?_) <;> try (exfalso; omega)) | (refine CL.condT rfl ?_) | (refine CL.block ?_) | (refine CL.ret ?_) | (refine Rt.block ?_) | (refine CL.done ?_) | (refine Nm.block ?_) | (refine Gt.nil ?_; refine RW.nilw [0, 1, 2, 3, 4, 5, 23, 27] ?_; dsimp only [H.keep, H.look, H.Fr.put, Nat.beq]) | (refine Gt.fieldAddr ?_; refine RW.y (Y.fieldAddr rfl (by rfl)) rfl ?_) | (refine Gt.guard ?_; first | (refine RW.part rfl rfl rfl (fun _ => ?_) (fun _ => ?_) <;> try (exfalso; omega)) | (refine RW.on rfl rfl rfl ?_) | (refine RW.off1 rfl rfl rfl rfl rfl ?_)) | (refine Gt.load ?_; refine RW.y (Y.loadB rfl (by assumption) rfl) rfl ?_) | (refine Gt.assign ?_; refine RW.y (Y.assign rfl) rfl ?_) | (refine Gt.len ?_; (refine RW.y (Y.lenx rfl (by assumption)) rfl ?_)) | (refine Gt.move ?_; refine RW.y (Y.move rfl) rfl ?_) | (refine Gt.eql ?_; refine RW.y (Y.eqi rfl rfl) rfl ?_) | (refine Gt.neq ?_; refine RW.y (Y.nei rfl rfl) rfl ?_) | (refine Gt.pick ?_; first | (refine RW.y (Y.pickT rfl rfl) rfl ?_) | (refine RW.y (Y.pickF rfl rfl) rfl ?_)))
  · rename_i h
    exact FQ.one rfl rfl rfl ⟨hK4, ret_int (by rw [hor, if_pos h])⟩
  · rename_i h h1
    have hx0 : x.pre = [] := List.length_eq_zero_iff.1 (by omega)
    refine CL.draw (fun w' => K0 w4 w') (by kernel_rfl) (fun w5 hheap5 hk5 => ?_)
    have hS : K0 w4 w5 := hk5
    skip
    refine AW.take 0 rfl (by kernel_rfl) (by kernel_rfl) (by kernel_rfl) rfl (by assumption) (fun w hS => Y.fieldAddr rfl (by rfl)) ?_
    refine AW.take 1 rfl (by kernel_rfl) (by kernel_rfl) (by kernel_rfl) rfl (by assumption) (fun w hS => Y.loadB rfl (hS.at0 hY4) rfl) ?_
    refine AW.take 2 rfl (by kernel_rfl) (by kernel_rfl) (by kernel_rfl) rfl (by assumption) (fun w hS => Y.lenx rfl (hq4.keep0 hS)) ?_
    refine AW.take 4 rfl (by kernel_rfl) (by kernel_rfl) (by kernel_rfl) rfl (by assumption) (fun w hS => Y.fieldAddr rfl (by rfl)) ?_
    refine AW.take 5 rfl (by kernel_rfl) (by kernel_rfl) (by kernel_rfl) rfl (by assumption) (fun w hS => Y.loadB rfl (hS.at0 hX4) rfl) ?_
    refine AW.take 6 rfl (by kernel_rfl) (by kernel_rfl) (by kernel_rfl) rfl (by assumption) (fun w hS => Y.lenx rfl (hp4.keep0 hS)) ?_
    refine AW.next 3 rfl (by kernel_rfl) ?_
    refine RW.fn rfl rfl ((compareI y.pre.length 0 w5).mono ?_)
    rintro e w' ⟨rfl, rfl⟩
    refine RW.nil (Nm.then ⟨hS, ?_⟩)
    refine AW.next 7 rfl (by kernel_rfl) ?_
    refine RW.fn rfl rfl ((compareI x.pre.length 0 w5).mono ?_)
    rintro e w' ⟨rfl, rfl⟩
    refine RW.nil (Nm.then ⟨hS, ?_⟩)
    refine AW.take 8 rfl (by kernel_rfl) (by kernel_rfl) (by kernel_rfl) rfl (by assumption) (fun w hS => by exact Y.sub64 rfl rfl (by omega) (by omega)) ?_
    refine AW.take 9 rfl (by kernel_rfl) (by kernel_rfl) (by kernel_rfl) rfl (by assumption) (fun w hS => Y.assign rfl) ?_
    refine AW.donew [4] (by kernel_rfl) ?_
    dsimp only [H.keep, H.look, H.Fr.put, Nat.beq]
    repeat' (first | (refine CL.ret ?_) | (refine Rt.block ?_))
    refine FQ.one rfl rfl rfl ⟨hK4.trans0 hk5, ret_int ?_⟩
    rw [hor, if_neg h, cmp0, cmp0, cmpP]
    first
      | (rw [if_pos hx0, if_pos hx0]; by_cases c : y.pre = [] <;> simp [c])
      | (rw [if_pos hy0, if_neg (fun c => h1 (by rw [c]; rfl)), if_neg (fun c => h1 (by rw [c]; rfl)), if_pos hy0]; rfl)
  · rename_i h h1 h2
    have hy0 : y.pre = [] := List.length_eq_zero_iff.1 (by omega)
    refine CL.draw (fun w' => K0 w4 w') (by kernel_rfl) (fun w5 hheap5 hk5 => ?_)
    have hS : K0 w4 w5 := hk5
    skip
    refine AW.take 0 rfl (by kernel_rfl) (by kernel_rfl) (by kernel_rfl) rfl (by assumption) (fun w hS => Y.fieldAddr rfl (by rfl)) ?_
    refine AW.take 1 rfl (by kernel_rfl) (by kernel_rfl) (by kernel_rfl) rfl (by assumption) (fun w hS => Y.loadB rfl (hS.at0 hY4) rfl) ?_
    refine AW.take 2 rfl (by kernel_rfl) (by kernel_rfl) (by kernel_rfl) rfl (by assumption) (fun w hS => Y.lenx rfl (hq4.keep0 hS)) ?_
    refine AW.take 4 rfl (by kernel_rfl) (by kernel_rfl) (by kernel_rfl) rfl (by assumption) (fun w hS => Y.fieldAddr rfl (by rfl)) ?_
    refine AW.take 5 rfl (by kernel_rfl) (by kernel_rfl) (by kernel_rfl) rfl (by assumption) (fun w hS => Y.loadB rfl (hS.at0 hX4) rfl) ?_
    refine AW.take 6 rfl (by kernel_rfl) (by kernel_rfl) (by kernel_rfl) rfl (by assumption) (fun w hS => Y.lenx rfl (hp4.keep0 hS)) ?_
    refine AW.next 3 rfl (by kernel_rfl) ?_
    refine RW.fn rfl rfl ((compareI y.pre.length 0 w5).mono ?_)
    rintro e w' ⟨rfl, rfl⟩
    refine RW.nil (Nm.then ⟨hS, ?_⟩)
    refine AW.next 7 rfl (by kernel_rfl) ?_
    refine RW.fn rfl rfl ((compareI x.pre.length 0 w5).mono ?_)
    rintro e w' ⟨rfl, rfl⟩
    refine RW.nil (Nm.then ⟨hS, ?_⟩)
    refine AW.take 8 rfl (by kernel_rfl) (by kernel_rfl) (by kernel_rfl) rfl (by assumption) (fun w hS => by exact Y.sub64 rfl rfl (by omega) (by omega)) ?_
    refine AW.take 9 rfl (by kernel_rfl) (by kernel_rfl) (by kernel_rfl) rfl (by assumption) (fun w hS => Y.assign rfl) ?_
    refine AW.donew [4] (by kernel_rfl) ?_
    dsimp only [H.keep, H.look, H.Fr.put, Nat.beq]
    repeat' (first | (refine CL.ret ?_) | (refine Rt.block ?_))
    refine FQ.one rfl rfl rfl ⟨hK4.trans0 hk5, ret_int ?_⟩
    rw [hor, if_neg h, cmp0, cmp0, cmpP]
    first
      | (rw [if_pos hx0, if_pos hx0]; by_cases c : y.pre = [] <;> simp [c])
      | (rw [if_pos hy0, if_neg (fun c => h1 (by rw [c]; rfl)), if_neg (fun c => h1 (by rw [c]; rfl)), if_pos hy0]; rfl)
  · rename_i h h1 h2
    refine RW.fn rfl rfl ((compareMarks p q x.pre y.pre w4 (by have := fx.1; omega) (by have := fy.1; omega) (fun s h => Nat.le_trans (fx.2 s h) (by decide)) (fun s h => Nat.le_trans (fy.2 s h) (by decide)) hp4 hq4).mono ?_)
    rintro e w5 ⟨hk5, rfl⟩
    repeat' (first | (refine CL.ret ?_) | (refine Gt.nil ?_; refine RW.nilw [0, 1, 2, 3, 4, 5, 23, 27] ?_; dsimp only [H.keep, H.look, H.Fr.put, Nat.beq]) | (refine Gt.assign ?_; refine RW.y (Y.assign rfl) rfl ?_))
    exact FQ.one rfl rfl rfl ⟨hK4.trans0 hk5, ret_int (by rw [hor, if_neg h, cmpP, if_neg (fun c => h1 (by rw [c]; rfl)), if_neg (fun c => h2 (by rw [c]; rfl))])⟩
end Go.Proofs.YtjfdhafmbcppjaaGreatDoor.Ve

namespace Go.Proofs.YtjfdhafmbcppjaaGreatDoor.Ve
open Go.RowKit H S
attribute [local irreducible] H.CL H.RW H.CW H.Yd H.thenK H.blockQ Go.Calls

theorem refCmpI (a b : Int) (w : World) : Calls Tryz.prog 50 #[.int .i64 a, .int .i64 b] w fun e w' => w = w' ∧ e = .returned (.int .i64 (cmpI a b)) := by
  refine H.enter Tryz.func50 Tryz.ntmps50 rfl rfl ?_; dsimp only [H.args]
  repeat' (first | (refine CL.seq ?_) | (refine CL.region ?_) | (refine CL.skip ?_) | (refine CL.condP rfl (fun _ => ?_) (fun _ => ?_) <;> try (exfalso; omega)) | (refine CL.block ?_) | (refine CL.ret ?_) | (refine Rt.block ?_) | (refine CL.done ?_) | (refine Nm.block ?_) | (refine Gt.nil ?_; refine RW.nilw [0, 1, 4, 5, 9] ?_; dsimp only [H.keep, H.look, H.Fr.put, Nat.beq]) | (refine Gt.assign ?_; refine RW.y (Y.assign rfl) rfl ?_) | (refine Gt.move ?_; refine RW.y (Y.move rfl) rfl ?_) | (refine Gt.lss ?_; refine RW.y (Y.lss rfl rfl) rfl ?_) | (refine Gt.gtr ?_; refine RW.y (Y.gtr rfl rfl) rfl ?_))
  · exact FQ.one rfl rfl rfl ⟨rfl, ret_int (by rw [cmpI, if_pos (by assumption)])⟩
  · exact FQ.one rfl rfl rfl ⟨rfl, ret_int (by rw [cmpI, if_neg (by assumption), if_pos (by assumption)])⟩
  · exact FQ.one rfl rfl rfl ⟨rfl, ret_int (by rw [cmpI, if_neg (by assumption), if_neg (by assumption)])⟩
theorem refText (a b : T) (w : World) : Calls Tryz.prog 53 #[vs a, vs b] w fun e w' => w = w' ∧ e = .returned (.int .i64 (cmpT a b)) := by
  refine H.enter Tryz.func53 Tryz.ntmps53 rfl rfl ?_; dsimp only [H.args]
  repeat' (first | (refine CL.seq ?_) | (refine CL.region ?_) | (refine CL.skip ?_) | (refine CL.cond rfl (fun _ => ?_) (fun _ => ?_)) | (refine CL.block ?_) | (refine CL.ret ?_) | (refine Rt.block ?_) | (refine CL.done ?_) | (refine Nm.block ?_) | (refine Gt.nil ?_; refine RW.nilw [0, 1, 4, 5, 9] ?_; dsimp only [H.keep, H.look, H.Fr.put, Nat.beq]) | (refine Gt.assign ?_; refine RW.y (Y.assign rfl) rfl ?_) | (refine Gt.move ?_; refine RW.y (Y.move rfl) rfl ?_) | (refine Gt.lss ?_; refine RW.y (Y.lts rfl rfl) rfl ?_) | (refine Gt.gtr ?_; refine RW.y (Y.gts rfl rfl) rfl ?_))
  · rename_i h
    exact FQ.one rfl rfl rfl ⟨rfl, ret_int (by rw [cmpT, if_pos h])⟩
  · rename_i h h2
    exact FQ.one rfl rfl rfl ⟨rfl, ret_int (by rw [h] at h2; simp at h2; rw [cmpT, h, if_neg (by decide), if_neg h2])⟩
  · rename_i h h2
    exact FQ.one rfl rfl rfl ⟨rfl, ret_int (by rw [h] at h2; simp at h2; rw [cmpT, h, if_neg (by decide), if_pos h2])⟩
theorem refOneIf (b : Bool) (w : World) : Calls Tryz.prog 51 #[.bool b] w fun e w' => w = w' ∧ e = .returned (.int .i64 (if b = true then 1 else 0)) := by
  refine H.enter Tryz.func51 Tryz.ntmps51 rfl rfl ?_; dsimp only [H.args]
  cases b
  · repeat' (first | (refine CL.seq ?_) | (refine CL.region ?_) | (refine CL.skip ?_) | (refine CL.condF rfl ?_) | (refine CL.ret ?_) | (refine Gt.nil ?_; refine RW.nilw [0, 2, 3] ?_; dsimp only [H.keep, H.look, H.Fr.put, Nat.beq]) | (refine Gt.assign ?_; refine RW.y (Y.assign rfl) rfl ?_) | (refine Gt.move ?_; refine RW.y (Y.move rfl) rfl ?_))
    exact FQ.one rfl rfl rfl ⟨rfl, rfl⟩
  · repeat' (first | (refine CL.seq ?_) | (refine CL.region ?_) | (refine CL.condT rfl ?_) | (refine CL.ret ?_) | (refine Gt.nil ?_; refine RW.nilw [0, 2, 3] ?_; dsimp only [H.keep, H.look, H.Fr.put, Nat.beq]) | (refine Gt.assign ?_; refine RW.y (Y.assign rfl) rfl ?_) | (refine Gt.move ?_; refine RW.y (Y.move rfl) rfl ?_))
    exact FQ.one rfl rfl rfl ⟨rfl, rfl⟩

theorem sv_at {l : List T} {i : Nat} (h : i < l.length) : (sv l)[i]? = some (vs (l.getD i [])) := by
  simp [sv, List.getD_eq_getElem?_getD, List.getElem?_eq_getElem h]
theorem refEmpty (x y : List T) (h : x = [] ∨ y = []) : cmpI y.length x.length * (if decide ((x.length : Int) ≠ (y.length : Int)) = true then 1 else 0) = cmpP x y := by
  cases x with
  | nil => cases y with
    | nil => rfl
    | cons a r =>
      have e1 : cmpI ((a :: r).length : Nat) (([] : List T).length : Nat) = 1 := by simp only [List.length_nil, List.length_cons, cmpI]; rw [if_neg (by omega), if_pos (by omega)]
      have e2 : decide (((([] : List T).length : Nat) : Int) ≠ (((a :: r).length : Nat) : Int)) = true := decide_eq_true (by simp only [List.length_nil, List.length_cons]; omega)
      rw [e1, e2]; rfl
  | cons b s => cases y with
    | nil =>
      have e1 : cmpI (([] : List T).length : Nat) ((b :: s).length : Nat) = -1 := by simp only [List.length_nil, List.length_cons, cmpI]; rw [if_pos (by omega)]
      have e2 : decide ((((b :: s).length : Nat) : Int) ≠ ((([] : List T).length : Nat) : Int)) = true := decide_eq_true (by simp only [List.length_nil, List.length_cons]; omega)
      rw [e1, e2]; rfl
    | cons a r => simp at h
theorem mulEq {P : Program} {f : Fr} {w : World} {d : Nat} {t yt ty : TypeId} {pos : String} {af : Array Edge} {x y : Operand} {a b c : Int} (hx : f.ev x = some (.int .i64 a)) (hy : f.ev y = some (.int .i64 b)) (h : a * b = c) (h1 : -9223372036854775808 ≤ c) (h2 : c ≤ 9223372036854775807) : Yd P f (op1 d (.binOp .mul t x y yt) ty pos af) (.int .i64 c) w := by
  subst h
  exact Y.mul64 hx hy h1 h2

set_option maxHeartbeats 1000000 in
theorem refCmp (X Y : Value) (x y : Ver) (w : World) (hX : VerAt w X x) (hY : VerAt w Y y) (fx : Fit x) (fy : Fit y) : Calls Tryz.prog 23 #[X, Y] w fun e w' => K0 w w' ∧ e = .returned (.int .i64 (cmpV x y)) := by
  obtain ⟨p, rfl, hp⟩ := hX
  obtain ⟨q, rfl, hq⟩ := hY
  obtain ⟨fx1, fx2⟩ := fx
  obtain ⟨fy1, fy2⟩ := fy
  refine H.enter Tryz.func23 Tryz.ntmps23 rfl rfl ?_; dsimp only [H.args]
  repeat' (first | (refine CL.seq ?_) | (refine CL.region ?_))
  refine RW.box rfl rfl (fun w1 hb1 hk1 hlt1 => ?_)
  skip
  refine RW.box rfl rfl (fun w2 hb2 hk2 hlt2 => ?_)
  have hX2 : w2.heap[w.heap.size]? = some (.cells #[.int .i64 x.a, .int .i64 x.b, .int .i64 x.c, p] verT (0, 0)) := hk2.at0 hb1
  have hY2 : w2.heap[w1.heap.size]? = some (.cells #[.int .i64 y.a, .int .i64 y.b, .int .i64 y.c, q] verT (0, 0)) := hb2
  have hK2 : K0 w w2 := hk1.trans0 hk2
  have hp2 := hp.keep0 hK2
  have hq2 := hq.keep0 hK2
  repeat' (first | (refine CL.seq ?_) | (refine CL.region ?_) | (refine Gt.nil ?_; refine RW.nilw [0, 1, 2, 3, 4, 5, 6, 7, 8, 9, 10, 11, 18, 26, 34, 45, 73, 89, 102, 106, 109, 113] ?_; dsimp only [H.keep, H.look, H.Fr.put, Nat.beq]) | (refine Gt.assign ?_; refine RW.y (Y.assign rfl) rfl ?_) | (refine Gt.load ?_; refine RW.y (Y.loadB rfl (by assumption) rfl) rfl ?_) | (refine Gt.fieldAddr ?_; refine RW.y (Y.fieldAddr rfl (by rfl)) rfl ?_))
  refine RW.fn rfl rfl ((refCmpI x.a y.a w2).mono ?_)
  rintro e w' ⟨rfl, rfl⟩
  repeat' (first | (refine CL.seq ?_) | (refine CL.region ?_) | (refine CL.skip ?_) | (refine CL.condP rfl (fun _ => ?_) (fun _ => ?_) <;> try (exfalso; omega)) | (refine CL.ret ?_) | (refine Gt.nil ?_; refine RW.nilw [0, 1, 2, 3, 4, 5, 6, 7, 8, 9, 10, 11, 18, 26, 34, 45, 73, 89, 102, 106, 109, 113] ?_; dsimp only [H.keep, H.look, H.Fr.put, Nat.beq]) | (refine Gt.move ?_; refine RW.y (Y.move rfl) rfl ?_) | (refine Gt.assign ?_; refine RW.y (Y.assign rfl) rfl ?_) | (refine Gt.load ?_; refine RW.y (Y.loadB rfl (by assumption) rfl) rfl ?_) | (refine Gt.fieldAddr ?_; refine RW.y (Y.fieldAddr rfl (by rfl)) rfl ?_) | (refine Gt.neq ?_; refine RW.y (Y.nei rfl rfl) rfl ?_))
  · rename_i h
    exact FQ.one rfl rfl rfl ⟨hK2, ret_int (by rw [cmpV, if_pos h])⟩
  rename_i e1
  refine RW.fn rfl rfl ((refCmpI x.b y.b w2).mono ?_)
  rintro e w' ⟨rfl, rfl⟩
  repeat' (first | (refine CL.seq ?_) | (refine CL.region ?_) | (refine CL.skip ?_) | (refine CL.condP rfl (fun _ => ?_) (fun _ => ?_) <;> try (exfalso; omega)) | (refine CL.ret ?_) | (refine Gt.nil ?_; refine RW.nilw [0, 1, 2, 3, 4, 5, 6, 7, 8, 9, 10, 11, 18, 26, 34, 45, 73, 89, 102, 106, 109, 113] ?_; dsimp only [H.keep, H.look, H.Fr.put, Nat.beq]) | (refine Gt.move ?_; refine RW.y (Y.move rfl) rfl ?_) | (refine Gt.assign ?_; refine RW.y (Y.assign rfl) rfl ?_) | (refine Gt.load ?_; refine RW.y (Y.loadB rfl (by assumption) rfl) rfl ?_) | (refine Gt.fieldAddr ?_; refine RW.y (Y.fieldAddr rfl (by rfl)) rfl ?_) | (refine Gt.neq ?_; refine RW.y (Y.nei rfl rfl) rfl ?_))
  · rename_i h
    exact FQ.one rfl rfl rfl ⟨hK2, ret_int (by rw [cmpV, if_neg e1, if_pos h])⟩
  rename_i e2
  refine RW.fn rfl rfl ((refCmpI x.c y.c w2).mono ?_)
  rintro e w' ⟨rfl, rfl⟩
  repeat' (first | (refine CL.seq ?_) | (refine CL.region ?_) | (refine CL.skip ?_) | (refine CL.condP rfl (fun _ => ?_) (fun _ => ?_) <;> try (exfalso; omega)) | (refine CL.condT rfl ?_) | (refine CL.block ?_) | (refine CL.ret ?_) | (refine Gt.nil ?_; refine RW.nilw [0, 1, 2, 3, 4, 5, 6, 7, 8, 9, 10, 11, 18, 26, 34, 45, 73, 89, 102, 106, 109, 113] ?_; dsimp only [H.keep, H.look, H.Fr.put, Nat.beq]) | (refine Gt.move ?_; refine RW.y (Y.move rfl) rfl ?_) | (refine Gt.guard ?_; first | (refine RW.part rfl rfl rfl (fun _ => ?_) (fun _ => ?_) <;> try (exfalso; omega)) | (refine RW.on rfl rfl rfl ?_) | (refine RW.off1 rfl rfl rfl rfl rfl ?_)) | (refine Gt.assign ?_; refine RW.y (Y.assign rfl) rfl ?_) | (refine Gt.load ?_; refine RW.y (Y.loadB rfl (by assumption) rfl) rfl ?_) | (refine Gt.fieldAddr ?_; refine RW.y (Y.fieldAddr rfl (by rfl)) rfl ?_) | (refine Gt.len ?_; (refine RW.y (Y.lenx rfl (by assumption)) rfl ?_)) | (refine Gt.neq ?_; refine RW.y (Y.nei rfl rfl) rfl ?_) | (refine Gt.eql ?_; refine RW.y (Y.eqi rfl rfl) rfl ?_) | (refine Gt.pick ?_; first | (refine RW.y (Y.pickT rfl rfl) rfl ?_) | (refine RW.y (Y.pickF rfl rfl) rfl ?_)))
  · rename_i h
    exact FQ.one rfl rfl rfl ⟨hK2, ret_int (by rw [cmpV, if_neg e1, if_neg e2, if_pos h])⟩
  · rename_i e3 h1
    have hE : x.pre = [] ∨ y.pre = [] := .inl (List.length_eq_zero_iff.1 (by omega))
    refine CL.draw (fun w' => K0 w2 w') (by kernel_rfl) (fun w5 hheap5 hk5 => ?_)
    have hS : K0 w2 w5 := hk5
    skip
    refine AW.take 0 rfl (by kernel_rfl) (by kernel_rfl) (by kernel_rfl) rfl (by assumption) (fun w hS => Y.fieldAddr rfl (by rfl)) ?_
    refine AW.take 1 rfl (by kernel_rfl) (by kernel_rfl) (by kernel_rfl) rfl (by assumption) (fun w hS => Y.loadB rfl (hS.at0 hY2) rfl) ?_
    refine AW.take 2 rfl (by kernel_rfl) (by kernel_rfl) (by kernel_rfl) rfl (by assumption) (fun w hS => Y.lenx rfl (hq2.keep0 hS)) ?_
    refine AW.take 3 rfl (by kernel_rfl) (by kernel_rfl) (by kernel_rfl) rfl (by assumption) (fun w hS => Y.fieldAddr rfl (by rfl)) ?_
    refine AW.take 4 rfl (by kernel_rfl) (by kernel_rfl) (by kernel_rfl) rfl (by assumption) (fun w hS => Y.loadB rfl (hS.at0 hX2) rfl) ?_
    refine AW.take 5 rfl (by kernel_rfl) (by kernel_rfl) (by kernel_rfl) rfl (by assumption) (fun w hS => Y.lenx rfl (hp2.keep0 hS)) ?_
    refine AW.take 7 rfl (by kernel_rfl) (by kernel_rfl) (by kernel_rfl) rfl (by assumption) (fun w hS => Y.fieldAddr rfl (by rfl)) ?_
    refine AW.take 8 rfl (by kernel_rfl) (by kernel_rfl) (by kernel_rfl) rfl (by assumption) (fun w hS => Y.loadB rfl (hS.at0 hX2) rfl) ?_
    refine AW.take 9 rfl (by kernel_rfl) (by kernel_rfl) (by kernel_rfl) rfl (by assumption) (fun w hS => Y.lenx rfl (hp2.keep0 hS)) ?_
    refine AW.take 10 rfl (by kernel_rfl) (by kernel_rfl) (by kernel_rfl) rfl (by assumption) (fun w hS => Y.fieldAddr rfl (by rfl)) ?_
    refine AW.take 11 rfl (by kernel_rfl) (by kernel_rfl) (by kernel_rfl) rfl (by assumption) (fun w hS => Y.loadB rfl (hS.at0 hY2) rfl) ?_
    refine AW.take 12 rfl (by kernel_rfl) (by kernel_rfl) (by kernel_rfl) rfl (by assumption) (fun w hS => Y.lenx rfl (hq2.keep0 hS)) ?_
    refine AW.take 13 rfl (by kernel_rfl) (by kernel_rfl) (by kernel_rfl) rfl (by assumption) (fun w hS => by exact Y.nei rfl rfl) ?_
    refine AW.next 6 rfl (by kernel_rfl) ?_
    refine RW.fn rfl rfl ((refCmpI y.pre.length x.pre.length w5).mono ?_)
    rintro e w' ⟨rfl, rfl⟩
    refine RW.nil (Nm.then ⟨hS, ?_⟩)
    refine AW.next 14 rfl (by kernel_rfl) ?_
    refine RW.fn rfl rfl ((refOneIf _ w5).mono ?_)
    rintro e w' ⟨rfl, rfl⟩
    refine RW.nil (Nm.then ⟨hS, ?_⟩)
    have cb := cmpI_bd y.pre.length x.pre.length
    have hmul := refEmpty x.pre y.pre hE
    have hmb : -1 ≤ cmpP x.pre y.pre ∧ cmpP x.pre y.pre ≤ 1 := by rw [← hmul]; split <;> omega
    refine AW.take 15 rfl (by kernel_rfl) (by kernel_rfl) (by kernel_rfl) rfl (by assumption) (fun w hS => mulEq rfl rfl hmul (by omega) (by omega)) ?_
    refine AW.take 16 rfl (by kernel_rfl) (by kernel_rfl) (by kernel_rfl) rfl (by assumption) (fun w hS => Y.assign rfl) ?_
    refine AW.donew [4] (by kernel_rfl) ?_
    dsimp only [H.keep, H.look, H.Fr.put, Nat.beq]
    repeat' ((refine CL.ret ?_))
    exact FQ.one rfl rfl rfl ⟨hK2.trans0 hk5, ret_int (by rw [cmpV, if_neg e1, if_neg e2, if_neg e3])⟩
  · rename_i e3 h1 h2
    have hE : x.pre = [] ∨ y.pre = [] := .inr (List.length_eq_zero_iff.1 (by omega))
    refine CL.draw (fun w' => K0 w2 w') (by kernel_rfl) (fun w5 hheap5 hk5 => ?_)
    have hS : K0 w2 w5 := hk5
    skip
    refine AW.take 0 rfl (by kernel_rfl) (by kernel_rfl) (by kernel_rfl) rfl (by assumption) (fun w hS => Y.fieldAddr rfl (by rfl)) ?_
    refine AW.take 1 rfl (by kernel_rfl) (by kernel_rfl) (by kernel_rfl) rfl (by assumption) (fun w hS => Y.loadB rfl (hS.at0 hY2) rfl) ?_
    refine AW.take 2 rfl (by kernel_rfl) (by kernel_rfl) (by kernel_rfl) rfl (by assumption) (fun w hS => Y.lenx rfl (hq2.keep0 hS)) ?_
    refine AW.take 3 rfl (by kernel_rfl) (by kernel_rfl) (by kernel_rfl) rfl (by assumption) (fun w hS => Y.fieldAddr rfl (by rfl)) ?_
    refine AW.take 4 rfl (by kernel_rfl) (by kernel_rfl) (by kernel_rfl) rfl (by assumption) (fun w hS => Y.loadB rfl (hS.at0 hX2) rfl) ?_
    refine AW.take 5 rfl (by kernel_rfl) (by kernel_rfl) (by kernel_rfl) rfl (by assumption) (fun w hS => Y.lenx rfl (hp2.keep0 hS)) ?_
    refine AW.take 7 rfl (by kernel_rfl) (by kernel_rfl) (by kernel_rfl) rfl (by assumption) (fun w hS => Y.fieldAddr rfl (by rfl)) ?_
    refine AW.take 8 rfl (by kernel_rfl) (by kernel_rfl) (by kernel_rfl) rfl (by assumption) (fun w hS => Y.loadB rfl (hS.at0 hX2) rfl) ?_
    refine AW.take 9 rfl (by kernel_rfl) (by kernel_rfl) (by kernel_rfl) rfl (by assumption) (fun w hS => Y.lenx rfl (hp2.keep0 hS)) ?_
    refine AW.take 10 rfl (by kernel_rfl) (by kernel_rfl) (by kernel_rfl) rfl (by assumption) (fun w hS => Y.fieldAddr rfl (by rfl)) ?_
    refine AW.take 11 rfl (by kernel_rfl) (by kernel_rfl) (by kernel_rfl) rfl (by assumption) (fun w hS => Y.loadB rfl (hS.at0 hY2) rfl) ?_
    refine AW.take 12 rfl (by kernel_rfl) (by kernel_rfl) (by kernel_rfl) rfl (by assumption) (fun w hS => Y.lenx rfl (hq2.keep0 hS)) ?_
    refine AW.take 13 rfl (by kernel_rfl) (by kernel_rfl) (by kernel_rfl) rfl (by assumption) (fun w hS => by exact Y.nei rfl rfl) ?_
    refine AW.next 6 rfl (by kernel_rfl) ?_
    refine RW.fn rfl rfl ((refCmpI y.pre.length x.pre.length w5).mono ?_)
    rintro e w' ⟨rfl, rfl⟩
    refine RW.nil (Nm.then ⟨hS, ?_⟩)
    refine AW.next 14 rfl (by kernel_rfl) ?_
    refine RW.fn rfl rfl ((refOneIf _ w5).mono ?_)
    rintro e w' ⟨rfl, rfl⟩
    refine RW.nil (Nm.then ⟨hS, ?_⟩)
    have cb := cmpI_bd y.pre.length x.pre.length
    have hmul := refEmpty x.pre y.pre hE
    have hmb : -1 ≤ cmpP x.pre y.pre ∧ cmpP x.pre y.pre ≤ 1 := by rw [← hmul]; split <;> omega
    refine AW.take 15 rfl (by kernel_rfl) (by kernel_rfl) (by kernel_rfl) rfl (by assumption) (fun w hS => mulEq rfl rfl hmul (by omega) (by omega)) ?_
    refine AW.take 16 rfl (by kernel_rfl) (by kernel_rfl) (by kernel_rfl) rfl (by assumption) (fun w hS => Y.assign rfl) ?_
    refine AW.donew [4] (by kernel_rfl) ?_
    dsimp only [H.keep, H.look, H.Fr.put, Nat.beq]
    repeat' ((refine CL.ret ?_))
    exact FQ.one rfl rfl rfl ⟨hK2.trans0 hk5, ret_int (by rw [cmpV, if_neg e1, if_neg e2, if_neg e3])⟩
  rename_i e3 h1 h2
  have hx1 : x.pre ≠ [] := fun c => h1 (by rw [c]; rfl)
  have hy1 : y.pre ≠ [] := fun c => h2 (by rw [c]; rfl)
  have hcv : cmpV x y = cmpL x.pre y.pre := by rw [cmpV, if_neg e1, if_neg e2, if_neg e3, cmpP, if_neg hx1, if_neg hy1]
  rw [hcv]
  refine CL.loopS [2, 3, 4, 8] (fun k vals wr => ∃ (i : Nat) (n : Int), vals = [.pointer (some ⟨w.heap.size, 0, none⟩), .pointer (some ⟨w1.heap.size, 0, none⟩), .int .i64 n, .int .i64 (i : Int)] ∧ k = x.pre.length - i ∧ i ≤ x.pre.length ∧ i ≤ y.pre.length ∧ cmpL x.pre y.pre = cmpL (x.pre.drop i) (y.pre.drop i) ∧ K0 w2 wr) x.pre.length ⟨_, rfl, 0, 0, rfl, rfl, Nat.zero_le _, Nat.zero_le _, rfl, Kept.refl _ _⟩ ?_
  rintro k vals wr ⟨i, n, rfl, rfl, hi, hiy, hc, hk⟩
  dsimp only [List.zip, List.zipWith]
  have hpr := hp2.keep0 hk
  have hqr := hq2.keep0 hk
  have hXr := hk.at0 hX2
  have hYr := hk.at0 hY2
  have hi2 : ((i : Int)).toNat = i := Int.toNat_natCast i
  by_cases hboth : i < x.pre.length ∧ i < y.pre.length
  · obtain ⟨hlt, hly⟩ := hboth
    have hd := cmpL_drop x.pre y.pre i hlt hly
    have bx : (x.pre.getD i []).length ≤ 1000000000000 := Nat.le_trans (fx2 _ (getD_mem [] hlt)) (by decide)
    have by' : (y.pre.getD i []).length ≤ 1000000000000 := Nat.le_trans (fy2 _ (getD_mem [] hly)) (by decide)
    repeat' (first | (refine CL.seq ?_) | (refine CL.region ?_) | (refine CL.skip ?_) | (refine CL.condP rfl (fun _ => ?_) (fun _ => ?_) <;> try (exfalso; omega)) | (refine CL.block ?_) | (refine Gt.nil ?_; refine RW.nilw [0, 1, 2, 3, 4, 5, 6, 7, 8, 9, 10, 11, 18, 26, 34, 45, 73, 89, 102, 106, 109, 113] ?_; dsimp only [H.keep, H.look, H.Fr.put, Nat.beq]) | (refine Gt.move ?_; refine RW.y (Y.move rfl) rfl ?_) | (refine Gt.guard ?_; first | (refine RW.part rfl rfl rfl (fun _ => ?_) (fun _ => ?_) <;> try (exfalso; omega)) | (refine RW.on rfl rfl rfl ?_)) | (refine Gt.load ?_; refine RW.y (Y.loadB rfl (by assumption) rfl) rfl ?_) | (refine Gt.fieldAddr ?_; refine RW.y (Y.fieldAddr rfl (by rfl)) rfl ?_) | (refine Gt.len ?_; (refine RW.y (Y.lenx rfl (by assumption)) rfl ?_)) | (refine Gt.pick ?_; (refine RW.y (Y.pickT rfl rfl) rfl ?_)) | (refine Gt.lss ?_; refine RW.y (Y.lss rfl rfl) rfl ?_))
    refine CL.draw (fun w' => K0 wr w') (by kernel_rfl) (fun w3 hheap3 hk3 => ?_)
    have hS : K0 wr w3 := hk3
    have ex : ∀ {w' : World}, K0 wr w' → w'.cell? (Value.spot p ((i : Int).toNat * 1)) = some (vs (x.pre.getD i [])) := fun h => (hpr.keep0 h).cell (by rw [hi2, Nat.mul_one]; exact sv_at hlt)
    have ey : ∀ {w' : World}, K0 wr w' → w'.cell? (Value.spot q ((i : Int).toNat * 1)) = some (vs (y.pre.getD i [])) := fun h => (hqr.keep0 h).cell (by rw [hi2, Nat.mul_one]; exact sv_at hly)
    skip
    refine AW.take 0 rfl (by kernel_rfl) (by kernel_rfl) (by kernel_rfl) rfl (by assumption) (fun w hS => Y.fieldAddr rfl (by rfl)) ?_
    refine AW.take 1 rfl (by kernel_rfl) (by kernel_rfl) (by kernel_rfl) rfl (by assumption) (fun w hS => Y.loadB rfl (hS.at0 hXr) rfl) ?_
    refine AW.take 2 rfl (by kernel_rfl) (by kernel_rfl) (by kernel_rfl) rfl (by assumption) (fun w hS => Y.move rfl) ?_
    refine AW.take 3 rfl (by kernel_rfl) (by kernel_rfl) (by kernel_rfl) rfl (by assumption) (fun w hS => Y.idx rfl rfl (hpr.keep0 hS) (by omega) (by omega)) ?_
    refine AW.take 4 rfl (by kernel_rfl) (by kernel_rfl) (by kernel_rfl) rfl (by assumption) (fun w hS => Y.load1 rfl (ex hS)) ?_
    refine AW.take 5 rfl (by kernel_rfl) (by kernel_rfl) (by kernel_rfl) rfl (by assumption) (fun w hS => Y.fieldAddr rfl (by rfl)) ?_
    refine AW.take 6 rfl (by kernel_rfl) (by kernel_rfl) (by kernel_rfl) rfl (by assumption) (fun w hS => Y.loadB rfl (hS.at0 hYr) rfl) ?_
    refine AW.take 7 rfl (by kernel_rfl) (by kernel_rfl) (by kernel_rfl) rfl (by assumption) (fun w hS => Y.move rfl) ?_
    refine AW.take 8 rfl (by kernel_rfl) (by kernel_rfl) (by kernel_rfl) rfl (by assumption) (fun w hS => Y.idx rfl rfl (hqr.keep0 hS) (by omega) (by omega)) ?_
    refine AW.take 9 rfl (by kernel_rfl) (by kernel_rfl) (by kernel_rfl) rfl (by assumption) (fun w hS => Y.load1 rfl (ey hS)) ?_
    refine AW.take 10 rfl (by kernel_rfl) (by kernel_rfl) (by kernel_rfl) rfl (by assumption) (fun w hS => Y.assign rfl) ?_
    refine AW.take 11 rfl (by kernel_rfl) (by kernel_rfl) (by kernel_rfl) rfl (by assumption) (fun w hS => Y.assign rfl) ?_
    refine AW.donew [2, 3, 4, 8, 9, 10] (by kernel_rfl) ?_
    dsimp only [H.keep, H.look, H.Fr.put, Nat.beq]
    have hK3 : K0 w w3 := (hK2.trans0 hk).trans0 hk3
    generalize x.pre.getD i [] = s at *
    generalize y.pre.getD i [] = t at *
    repeat' (first | (refine CL.seq ?_) | (refine CL.region ?_) | (refine Gt.nil ?_; refine RW.nilw [0, 1, 2, 3, 4, 5, 6, 7, 8, 9, 10, 11, 18, 26, 34, 45, 73, 89, 102, 106, 109, 113] ?_; dsimp only [H.keep, H.look, H.Fr.put, Nat.beq]) | (refine Gt.assign ?_; refine RW.y (Y.assign rfl) rfl ?_))
    refine CL.cutS [2, 3, 4, 8, 11] (fun vals wz => vals = [.pointer (some ⟨w.heap.size, 0, none⟩), .pointer (some ⟨w1.heap.size, 0, none⟩), .int .i64 n, .int .i64 (i : Int), .int .i64 (cmpM s t)] ∧ wz = w3) (by simp) ?_ ?_
    · repeat' (first | (refine CL.seq ?_) | (refine CL.region ?_) | (refine CL.block ?_) | (refine Gt.move ?_; refine RW.y (Y.move rfl) rfl ?_))
      refine RW.fn rfl rfl ((refDigits s bx w3).mono ?_)
      rintro e w' ⟨rfl, rfl⟩
      unfold cmpM
      cases h1 : digB s
      · repeat' (first | (refine CL.seq ?_) | (refine CL.region ?_) | (refine CL.condF rfl ?_) | (refine Gt.nil ?_; refine RW.nilw [0, 1, 2, 3, 4, 5, 6, 7, 8, 9, 10, 11, 18, 26, 34, 45, 73, 89, 102, 106, 109, 113] ?_; dsimp only [H.keep, H.look, H.Fr.put, Nat.beq]) | (refine Gt.move ?_; refine RW.y (Y.move rfl) rfl ?_) | (refine Gt.guard ?_; (refine RW.off1 rfl rfl rfl rfl rfl ?_)) | (refine Gt.assign ?_; refine RW.y (Y.assign rfl) rfl ?_) | (refine Gt.pick ?_; (refine RW.y (Y.pickF rfl rfl) rfl ?_)))
        refine RW.fn rfl rfl ((refDigits s bx w3).mono ?_)
        rintro e w' ⟨rfl, rfl⟩
        rw [h1]
        repeat' (first | (refine CL.seq ?_) | (refine CL.region ?_) | (refine CL.condF rfl ?_) | (refine Gt.nil ?_; refine RW.nilw [0, 1, 2, 3, 4, 5, 6, 7, 8, 9, 10, 11, 18, 26, 34, 45, 73, 89, 102, 106, 109, 113] ?_; dsimp only [H.keep, H.look, H.Fr.put, Nat.beq]) | (refine Gt.move ?_; refine RW.y (Y.move rfl) rfl ?_) | (refine Gt.assign ?_; refine RW.y (Y.assign rfl) rfl ?_))
        refine RW.fn rfl rfl ((refDigits t by' w3).mono ?_)
        rintro e w' ⟨rfl, rfl⟩
        cases h2 : digB t
        · repeat' (first | (refine CL.region ?_) | (refine CL.condF rfl ?_) | (refine Gt.nil ?_; refine RW.nilw [0, 1, 2, 3, 4, 5, 6, 7, 8, 9, 10, 11, 18, 26, 34, 45, 73, 89, 102, 106, 109, 113] ?_; dsimp only [H.keep, H.look, H.Fr.put, Nat.beq]) | (refine Gt.move ?_; refine RW.y (Y.move rfl) rfl ?_) | (refine Gt.assign ?_; refine RW.y (Y.assign rfl) rfl ?_))
          refine RW.fn rfl rfl ((refText s t w3).mono ?_)
          rintro e w' ⟨rfl, rfl⟩
          repeat' (first | (refine CL.done ?_) | (refine Nm.block ?_) | (refine Nm.then ?_) | (refine Gt.nil ?_; refine RW.nilw [0, 1, 2, 3, 4, 5, 6, 7, 8, 9, 10, 11, 18, 26, 34, 45, 73, 89, 102, 106, 109, 113] ?_; dsimp only [H.keep, H.look, H.Fr.put, Nat.beq]) | (refine Gt.assign ?_; refine RW.y (Y.assign rfl) rfl ?_))
          exact ⟨_, rfl, rfl, rfl, by simp, rfl⟩
        · repeat' (first | (refine CL.region ?_) | (refine CL.condT rfl ?_) | (refine CL.done ?_) | (refine Nm.block ?_) | (refine Nm.then ?_) | (refine Gt.nil ?_; refine RW.nilw [0, 1, 2, 3, 4, 5, 6, 7, 8, 9, 10, 11, 18, 26, 34, 45, 73, 89, 102, 106, 109, 113] ?_; dsimp only [H.keep, H.look, H.Fr.put, Nat.beq]) | (refine Gt.assign ?_; refine RW.y (Y.assign rfl) rfl ?_))
          exact ⟨_, rfl, rfl, rfl, by simp, rfl⟩
      · repeat' (first | (refine Gt.move ?_; refine RW.y (Y.move rfl) rfl ?_) | (refine Gt.guard ?_; (refine RW.on rfl rfl rfl ?_)))
        refine RW.fn rfl rfl ((refDigits t by' w3).mono ?_)
        rintro e w' ⟨rfl, rfl⟩
        cases h2 : digB t
        · repeat' (first | (refine CL.seq ?_) | (refine CL.region ?_) | (refine CL.condF rfl ?_) | (refine Gt.nil ?_; refine RW.nilw [0, 1, 2, 3, 4, 5, 6, 7, 8, 9, 10, 11, 18, 26, 34, 45, 73, 89, 102, 106, 109, 113] ?_; dsimp only [H.keep, H.look, H.Fr.put, Nat.beq]) | (refine Gt.move ?_; refine RW.y (Y.move rfl) rfl ?_) | (refine Gt.assign ?_; refine RW.y (Y.assign rfl) rfl ?_) | (refine Gt.pick ?_; (refine RW.y (Y.pickT rfl rfl) rfl ?_)))
          refine RW.fn rfl rfl ((refDigits s bx w3).mono ?_)
          rintro e w' ⟨rfl, rfl⟩
          rw [h1]
          repeat' (first | (refine CL.region ?_) | (refine CL.condT rfl ?_) | (refine CL.done ?_) | (refine Nm.block ?_) | (refine Nm.then ?_) | (refine Gt.nil ?_; refine RW.nilw [0, 1, 2, 3, 4, 5, 6, 7, 8, 9, 10, 11, 18, 26, 34, 45, 73, 89, 102, 106, 109, 113] ?_; dsimp only [H.keep, H.look, H.Fr.put, Nat.beq]) | (refine Gt.assign ?_; refine RW.y (Y.assign rfl) rfl ?_))
          exact ⟨_, rfl, rfl, rfl, by simp, rfl⟩
        · repeat' (first | (refine CL.seq ?_) | (refine CL.region ?_) | (refine CL.condT rfl ?_) | (refine Gt.nil ?_; refine RW.nilw [0, 1, 2, 3, 4, 5, 6, 7, 8, 9, 10, 11, 18, 26, 34, 45, 73, 89, 102, 106, 109, 113] ?_; dsimp only [H.keep, H.look, H.Fr.put, Nat.beq]) | (refine Gt.move ?_; refine RW.y (Y.move rfl) rfl ?_) | (refine Gt.assign ?_; refine RW.y (Y.assign rfl) rfl ?_) | (refine Gt.len ?_; (refine RW.y (Y.lens rfl) rfl ?_)) | (refine Gt.pick ?_; (refine RW.y (Y.pickT rfl rfl) rfl ?_)))
          refine RW.fn rfl rfl ((refCmpI s.length t.length w3).mono ?_)
          rintro e w' ⟨rfl, rfl⟩
          repeat' (first | (refine CL.seq ?_) | (refine CL.region ?_) | (refine CL.skip ?_) | (refine CL.condP rfl (fun _ => ?_) (fun _ => ?_) <;> try (exfalso; omega)) | (refine CL.done ?_) | (refine Nm.block ?_) | (refine Nm.then ?_) | (refine Gt.nil ?_; refine RW.nilw [0, 1, 2, 3, 4, 5, 6, 7, 8, 9, 10, 11, 18, 26, 34, 45, 73, 89, 102, 106, 109, 113] ?_; dsimp only [H.keep, H.look, H.Fr.put, Nat.beq]) | (refine Gt.move ?_; refine RW.y (Y.move rfl) rfl ?_) | (refine Gt.assign ?_; refine RW.y (Y.assign rfl) rfl ?_) | (refine Gt.eql ?_; refine RW.y (Y.eqi rfl rfl) rfl ?_))
          · refine RW.fn rfl rfl ((refText s t w3).mono ?_)
            rintro e w' ⟨rfl, rfl⟩
            repeat' (first | (refine CL.done ?_) | (refine Nm.block ?_) | (refine Nm.then ?_) | (refine Gt.nil ?_; refine RW.nilw [0, 1, 2, 3, 4, 5, 6, 7, 8, 9, 10, 11, 18, 26, 34, 45, 73, 89, 102, 106, 109, 113] ?_; dsimp only [H.keep, H.look, H.Fr.put, Nat.beq]) | (refine Gt.assign ?_; refine RW.y (Y.assign rfl) rfl ?_))
            rename_i h
            exact ⟨_, rfl, rfl, rfl, by simp [h], rfl⟩
          · rename_i h
            exact ⟨_, rfl, rfl, rfl, by simp [h], rfl⟩
    · rintro vals wz ⟨rfl, rfl⟩
      dsimp only [List.zip, List.zipWith]
      repeat' (first | (refine CL.seq ?_) | (refine CL.region ?_) | (refine CL.skip ?_) | (refine CL.condP rfl (fun _ => ?_) (fun _ => ?_) <;> try (exfalso; omega)) | (refine CL.ret ?_) | (refine Rt.then ?_) | (refine Rt.block ?_) | (refine CL.done ?_) | (refine Nm.block ?_) | (refine Nm.then ?_) | (refine Gt.nil ?_; refine RW.nilw [0, 1, 2, 3, 4, 5, 6, 7, 8, 9, 10, 11, 18, 26, 34, 45, 73, 89, 102, 106, 109, 113] ?_; dsimp only [H.keep, H.look, H.Fr.put, Nat.beq]) | (refine Gt.move ?_; refine RW.y (Y.move rfl) rfl ?_) | (refine Gt.assign ?_; refine RW.y (Y.assign rfl) rfl ?_) | (refine Gt.neq ?_; refine RW.y (Y.nei rfl rfl) rfl ?_) | (refine Gt.add ?_; refine RW.y (Y.add64 rfl rfl (by omega) (by omega)) rfl ?_))
      · rename_i h
        exact FQ.one rfl rfl rfl ⟨hK3, ret_int (by rw [hc, hd, if_pos h])⟩
      · rename_i h
        exact ⟨x.pre.length - (i + 1), _, rfl, rfl, rfl, by omega, i + 1, n, rfl, rfl, by omega, by omega, by rw [hc, hd, if_neg h], hk.trans0 hk3⟩
  · have hcc : cmpI x.pre.length y.pre.length = cmpL x.pre y.pre := by
      rw [hc]
      rcases Nat.lt_or_ge i x.pre.length with hlt | hge
      · rw [cmpL_y _ _ i hlt (by omega), cmpI, if_neg (by omega), if_pos (by omega)]
      · rcases Nat.lt_or_ge i y.pre.length with hlt2 | hge2
        · rw [cmpL_x _ _ i hge hlt2, cmpI, if_pos (by omega)]
        · rw [cmpL_n _ _ i hge hge2, cmpI, if_neg (by omega), if_neg (by omega)]
    repeat' (first | (refine CL.seq ?_) | (refine CL.region ?_) | (refine CL.condP rfl (fun _ => ?_) (fun _ => ?_) <;> try (exfalso; omega)) | (refine CL.condF rfl ?_) | (refine CL.exit ?_) | (refine Ex.then ?_) | (refine Ex.hit ?_) | (refine Gt.nil ?_; refine RW.nilw [0, 1, 2, 3, 4, 5, 6, 7, 8, 9, 10, 11, 18, 26, 34, 45, 73, 89, 102, 106, 109, 113] ?_; dsimp only [H.keep, H.look, H.Fr.put, Nat.beq]) | (refine Gt.move ?_; refine RW.y (Y.move rfl) rfl ?_) | (refine Gt.guard ?_; first | (refine RW.part rfl rfl rfl (fun _ => ?_) (fun _ => ?_) <;> try (exfalso; omega)) | (refine RW.on rfl rfl rfl ?_) | (refine RW.off1 rfl rfl rfl rfl rfl ?_)) | (refine Gt.load ?_; refine RW.y (Y.loadB rfl (by assumption) rfl) rfl ?_) | (refine Gt.fieldAddr ?_; refine RW.y (Y.fieldAddr rfl (by rfl)) rfl ?_) | (refine Gt.len ?_; (refine RW.y (Y.lenx rfl (by assumption)) rfl ?_)) | (refine Gt.pick ?_; first | (refine RW.y (Y.pickT rfl rfl) rfl ?_) | (refine RW.y (Y.pickF rfl rfl) rfl ?_)) | (refine Gt.lss ?_; refine RW.y (Y.lss rfl rfl) rfl ?_))
    all_goals
      refine RW.fn rfl rfl ((refCmpI x.pre.length y.pre.length wr).mono ?_)
      rintro e w' ⟨rfl, rfl⟩
      rw [hcc]
      repeat' (first | (refine CL.ret ?_) | (refine Gt.nil ?_; refine RW.nilw [0, 1, 2, 3, 4, 5, 6, 7, 8, 9, 10, 11, 18, 26, 34, 45, 73, 89, 102, 106, 109, 113] ?_; dsimp only [H.keep, H.look, H.Fr.put, Nat.beq]) | (refine Gt.assign ?_; refine RW.y (Y.assign rfl) rfl ?_))
      exact FQ.one rfl rfl rfl ⟨hK2.trans0 hk, rfl⟩
end Go.Proofs.YtjfdhafmbcppjaaGreatDoor.Ve

namespace Go.Proofs.YtjfdhafmbcppjaaGreatDoor.S
open Go.RowKit H

theorem strings_data (l : List (List UInt8)) : (l.map B).map (·.data.toList) = l := by
  rw [List.map_map]
  conv => rhs; rw [← List.map_id l]
  exact List.map_congr_left fun a _ => rfl

theorem join (v : Value) (l : List (List UInt8)) (sep : List UInt8) (w : World) (hs : Sl w 1 v l.length (sv l)) (hlen : (Go.Lib.join l sep).length ≤ 140737488355328) (hl : l.length ≤ 140737488355328) :
    Calls Tryz.prog 36 #[v, vs sep] w fun e w' => e = .returned (vs (Go.Lib.join l sep)) ∧ K0 w w' := by
  rcases hs.2.2 with ⟨p, rfl, h0⟩ | ⟨g, off, cap, cur, e, fz, rfl, hg, hn, hm, ho, ht⟩
  · have : l = [] := List.eq_nil_of_length_eq_zero h0
    subst this
    refine (Tryz.strings_Join_none p 0 (B sep) w).mono fun e w' ⟨he, hw⟩ => ⟨he, ?_⟩
    rw [hw]; exact Kept.refl _ _
  · have h := Tryz.strings_Join g off cap (l.map B) (B sep) w (fun j x hj => by
        rw [List.getElem?_map, Option.map_eq_some_iff] at hj
        obtain ⟨s, hs', rfl⟩ := hj
        have hc := hs.cell (j := j) (u := vs s) (by rw [List.getElem?_map, hs']; rfl)
        simpa [Value.spot, addr_add] using hc) (lt_of_at hg) (by rw [List.length_map]; exact hl) (by rw [List.length_map]; exact hn) (by rw [strings_data]; exact hlen)
    rw [strings_data, List.length_map] at h
    exact h.mono fun e w' ⟨he, hb⟩ => ⟨he, Kept.of_below hb⟩
end Go.Proofs.YtjfdhafmbcppjaaGreatDoor.S

namespace Go.Proofs.YtjfdhafmbcppjaaGreatDoor.Ve
open Go.RowKit H S
attribute [local irreducible] H.CL H.RW H.CW H.Yd H.thenK H.blockQ Go.Calls

/-- The library's table of tens lies where it was laid. -/
def Tb (w : World) : Prop := Go.Lib.TabIs Tryz.prog w "internal/strconv.uint64pow10" .u64 Go.Lib.pow10Tab
theorem var_kept {P : Program} {w w' : World} {n : String} {cs : Array Value} (h : w.var? P n = some cs) (k : K0 w w') : w'.var? P n = some cs := by
  unfold World.var? at h ⊢
  cases hg : P.globalNamed n with
  | none => rw [hg] at h; cases h
  | some g =>
    rw [hg] at h
    simp only [Option.bind_some] at h ⊢
    cases ho : w.heap[g]? with
    | none => rw [ho] at h; cases h
    | some o => rw [k.at0 ho]; rw [ho] at h; exact h
theorem Tb.keep0 {w w' : World} (h : Tb w) (k : K0 w w') : Tb w' := var_kept h k

theorem dec_len : ∀ (k u : Nat), u < 10 ^ (k + 1) → (Go.Lib.decDigits u).length ≤ k + 1
  | 0, u, h => by rw [Go.Lib.decDigits, dif_pos (by simpa using h)]; simp
  | k + 1, u, h => by
    rw [Go.Lib.decDigits]
    split
    · simp
    · have := dec_len k (u / 10) (by rw [Nat.pow_succ] at h; omega)
      simp only [List.length_append, List.length_cons, List.length_nil]
      omega
theorem decI_len (n : Int) (h : n ≤ 9223372036854775807) : (decI n).length ≤ 19 :=
  dec_len 18 n.toNat (by have : (10 : Nat) ^ 19 = 10000000000000000000 := by decide
                         omega)

theorem itoa (n : Int) (h0 : 0 ≤ n) (h1 : n ≤ 9223372036854775807) (w : World) (hT : Tb w) : Calls Tryz.prog 67 #[.int .i64 n] w fun e w' => K0 w w' ∧ e = .returned (vs (decI n)) := by
  refine (Tryz.strconv_Itoa n (by omega) h1 w hT).mono ?_
  rintro e w' ⟨rfl, k, os, rfl⟩
  refine ⟨⟨rfl, rfl, rfl, by simp [Go.Sort.grow], fun j hj _ => ?_⟩, ?_⟩
  · simp only [Go.Sort.grow]
    exact Array.getElem?_append_left hj
  · rw [Go.Lib.itoa, if_neg (by omega)]; rfl

theorem decI_max (n : Int) : decI (max n 0) = decI n := by
  unfold decI
  rw [show (max n 0).toNat = n.toNat from by omega]

set_option maxHeartbeats 1000000 in
theorem text (X : Value) (x : Ver) (w : World) (hX : VerAt w X x) (fx : Fit x) (hT : Tb w) (b1 : x.a ≤ 9223372036854775807) (b2 : x.b ≤ 9223372036854775807) (b3 : x.c ≤ 9223372036854775807) : Calls Tryz.prog 35 #[X] w fun e w' => K0 w w' ∧ e = .returned (vs (textV x)) := by
  obtain ⟨p, rfl, hp⟩ := hX
  have l1 := decI_len x.a b1
  have l2 := decI_len x.b b2
  have l3 := decI_len x.c b3
  have lg := glueC_len 46 1000000 x.pre fx.2
  have lf := fx.1
  have lg2 : x.pre.length * (1000000 + 1) ≤ 1000000 * 1000001 := Nat.mul_le_mul lf (Nat.le_refl _)
  have k1 : ([46] : T).length = 1 := rfl
  have k2 : ([45] : T).length = 1 := rfl
  refine H.enter Tryz.func35 Tryz.ntmps35 rfl rfl ?_; dsimp only [H.args]
  repeat' (first | (refine CL.seq ?_) | (refine CL.region ?_))
  refine RW.box rfl rfl (fun w1 hb1 hk1 hlt1 => ?_)
  have hX1 : w1.heap[w.heap.size]? = some (.cells #[.int .i64 x.a, .int .i64 x.b, .int .i64 x.c, p] verT (0, 0)) := hb1
  have hT1 := hT.keep0 hk1
  repeat' (first | (refine CL.seq ?_) | (refine Gt.nil ?_; refine RW.nilw [0, 1, 2, 3, 23] ?_; dsimp only [H.keep, H.look, H.Fr.put, Nat.beq]) | (refine Gt.assign ?_; refine RW.y (Y.assign rfl) rfl ?_))
  refine CL.draw (fun w' => K0 w1 w') (by kernel_rfl) (fun w2 hheap hk2 => ?_)
  have hS : K0 w1 w2 := hk2
  skip
  refine AW.take 0 rfl (by kernel_rfl) (by kernel_rfl) (by kernel_rfl) rfl (by assumption) (fun w hS => Y.fieldAddr rfl (by rfl)) ?_
  refine AW.take 1 rfl (by kernel_rfl) (by kernel_rfl) (by kernel_rfl) rfl (by assumption) (fun w hS => Y.loadB rfl (hS.at0 hX1) rfl) ?_
  refine AW.take 2 rfl (by kernel_rfl) (by kernel_rfl) (by kernel_rfl) rfl (by assumption) (fun w hS => Y.max2 rfl rfl) ?_
  refine AW.take 5 rfl (by kernel_rfl) (by kernel_rfl) (by kernel_rfl) rfl (by assumption) (fun w hS => Y.fieldAddr rfl (by rfl)) ?_
  refine AW.take 6 rfl (by kernel_rfl) (by kernel_rfl) (by kernel_rfl) rfl (by assumption) (fun w hS => Y.loadB rfl (hS.at0 hX1) rfl) ?_
  refine AW.take 7 rfl (by kernel_rfl) (by kernel_rfl) (by kernel_rfl) rfl (by assumption) (fun w hS => Y.max2 rfl rfl) ?_
  refine AW.take 11 rfl (by kernel_rfl) (by kernel_rfl) (by kernel_rfl) rfl (by assumption) (fun w hS => Y.fieldAddr rfl (by rfl)) ?_
  refine AW.take 12 rfl (by kernel_rfl) (by kernel_rfl) (by kernel_rfl) rfl (by assumption) (fun w hS => Y.loadB rfl (hS.at0 hX1) rfl) ?_
  refine AW.take 13 rfl (by kernel_rfl) (by kernel_rfl) (by kernel_rfl) rfl (by assumption) (fun w hS => Y.max2 rfl rfl) ?_
  refine AW.next 3 rfl (by kernel_rfl) ?_
  refine RW.fn rfl rfl ((itoa _ (by omega) (by omega) w2 (hT1.keep0 hk2)).mono ?_)
  rintro e w3 ⟨hk3, rfl⟩
  rw [decI_max]
  refine RW.nil (Nm.then (rebase0 hS hk3 fun hS => ?_))
  have hT3 := (hT1.keep0 hk2).keep0 hk3
  refine AW.take 4 rfl (by kernel_rfl) (by kernel_rfl) (by kernel_rfl) rfl (by assumption) (fun w hS => Y.cat rfl rfl (by omega)) ?_
  refine AW.next 8 rfl (by kernel_rfl) ?_
  refine RW.fn rfl rfl ((itoa _ (by omega) (by omega) w3 hT3).mono ?_)
  rintro e w4 ⟨hk4, rfl⟩
  rw [decI_max]
  refine RW.nil (Nm.then (rebase0 hS hk4 fun hS => ?_))
  have hT4 := hT3.keep0 hk4
  refine AW.take 9 rfl (by kernel_rfl) (by kernel_rfl) (by kernel_rfl) rfl (by assumption) (fun w hS => by exact Y.cat rfl rfl (by (simp only [List.length_append, List.length_cons, List.length_nil]; omega))) ?_
  refine AW.take 10 rfl (by kernel_rfl) (by kernel_rfl) (by kernel_rfl) rfl (by assumption) (fun w hS => by exact Y.cat rfl rfl (by (simp only [List.length_append, List.length_cons, List.length_nil]; omega))) ?_
  refine AW.next 14 rfl (by kernel_rfl) ?_
  refine RW.fn rfl rfl ((itoa _ (by omega) (by omega) w4 hT4).mono ?_)
  rintro e w5 ⟨hk5, rfl⟩
  rw [decI_max]
  refine RW.nil (Nm.then (rebase0 hS hk5 fun hS => ?_))
  refine AW.take 15 rfl (by kernel_rfl) (by kernel_rfl) (by kernel_rfl) rfl (by assumption) (fun w hS => by exact Y.cat rfl rfl (by (simp only [List.length_append, List.length_cons, List.length_nil]; omega))) ?_
  refine AW.take 16 rfl (by kernel_rfl) (by kernel_rfl) (by kernel_rfl) rfl (by assumption) (fun w hS => Y.assign rfl) ?_
  refine AW.donew [1, 2, 3] (by kernel_rfl) ?_
  dsimp only [H.keep, H.look, H.Fr.put, Nat.beq]
  have hK15 : K0 w1 w5 := ((hk2.trans0 hk3).trans0 hk4).trans0 hk5
  have hX5 := hK15.at0 hX1
  have hK5 : K0 w w5 := hk1.trans0 hK15
  have hp5 := hp.keep0 hK5
  repeat' (first | (refine CL.seq ?_) | (refine CL.region ?_) | (refine CL.skip ?_) | (refine CL.condP rfl (fun _ => ?_) (fun _ => ?_) <;> try (exfalso; omega)) | (refine CL.ret ?_) | (refine Gt.nil ?_; refine RW.nilw [0, 1, 2, 3, 23] ?_; dsimp only [H.keep, H.look, H.Fr.put, Nat.beq]) | (refine Gt.fieldAddr ?_; refine RW.y (Y.fieldAddr rfl (by rfl)) rfl ?_) | (refine Gt.load ?_; refine RW.y (Y.loadB rfl (by assumption) rfl) rfl ?_) | (refine Gt.assign ?_; refine RW.y (Y.assign rfl) rfl ?_) | (refine Gt.move ?_; refine RW.y (Y.move rfl) rfl ?_) | (refine Gt.len ?_; (refine RW.y (Y.lenx rfl (by assumption)) rfl ?_)) | (refine Gt.gtr ?_; refine RW.y (Y.gtr rfl rfl) rfl ?_))
  · rename_i h
    have hne : x.pre ≠ [] := List.length_pos_iff.1 (by omega)
    refine RW.fn rfl rfl ((join p x.pre [46] w5 hp5 (by rw [join_glueC]; omega) (by omega)).mono ?_)
    rintro e w6 ⟨rfl, hk6⟩
    rw [join_glueC]
    repeat' (first | (refine CL.seq ?_) | (refine CL.region ?_) | (refine CL.ret ?_) | (refine Gt.nil ?_; refine RW.nilw [0, 1, 2, 3, 23] ?_; dsimp only [H.keep, H.look, H.Fr.put, Nat.beq]) | (refine Gt.add ?_; refine RW.y (Y.cat rfl rfl (by first | omega | (simp only [List.length_append, List.length_cons, List.length_nil]; omega))) rfl ?_) | (refine Gt.assign ?_; refine RW.y (Y.assign rfl) rfl ?_) | (refine Gt.move ?_; refine RW.y (Y.move rfl) rfl ?_))
    refine FQ.one rfl rfl rfl ⟨hK5.trans0 hk6, ?_⟩
    rw [textV, if_neg hne]
    simp only [List.append_assoc]
    rfl
  · rename_i h
    have hne : x.pre = [] := List.length_eq_zero_iff.1 (by omega)
    refine FQ.one rfl rfl rfl ⟨hK5, ?_⟩
    rw [textV, if_pos hne, List.append_nil]

theorem dig_cut (n : Int) (h0 : 0 ≤ n) (h1 : n < 10) : ((([48, 49, 50, 51, 52, 53, 54, 55, 56, 57] : T).take (n + 1).toNat).drop n.toNat) = [UInt8.ofNat (48 + n.toNat)] := by
  obtain ⟨k, rfl⟩ : ∃ k : Nat, n = k := ⟨n.toNat, by omega⟩
  have h2 : ((k : Int) + 1).toNat = k + 1 := by omega
  rw [h2, Int.toNat_natCast]
  have : k = 0 ∨ k = 1 ∨ k = 2 ∨ k = 3 ∨ k = 4 ∨ k = 5 ∨ k = 6 ∨ k = 7 ∨ k = 8 ∨ k = 9 := by omega
  rcases this with rfl | rfl | rfl | rfl | rfl | rfl | rfl | rfl | rfl | rfl <;> rfl

theorem refDecSmall (n : Int) (h10 : n < 10) (w : World) : Calls Tryz.prog 49 #[.int .i64 n] w fun e w' => K0 w w' ∧ e = .returned (vs (decI n)) := by
  refine H.enter Tryz.func49 Tryz.ntmps49 rfl rfl ?_; dsimp only [H.args]
  repeat' (first | (refine CL.seq ?_) | (refine CL.region ?_) | (refine CL.condP rfl (fun _ => ?_) (fun _ => ?_) <;> try (exfalso; omega)) | (refine Gt.nil ?_; refine RW.nilw [0, 2, 4] ?_; dsimp only [H.keep, H.look, H.Fr.put, Nat.beq]) | (refine Gt.move ?_; refine RW.y (Y.move rfl) rfl ?_) | (refine Gt.assign ?_; refine RW.y (Y.assign rfl) rfl ?_) | (refine Gt.add ?_; (refine RW.y (Y.add64 rfl rfl (by omega) (by omega)) rfl ?_)) | (refine Gt.lss ?_; refine RW.y (Y.lss rfl rfl) rfl ?_) | (refine Gt.call ?_; refine RW.y (Y.max2 rfl rfl) rfl ?_))
  refine RW.y (Y.cutlh (l := [48, 49, 50, 51, 52, 53, 54, 55, 56, 57]) rfl rfl rfl (by omega) (by omega) (show (_ : Int) ≤ ((10 : Nat) : Int) from by omega)) rfl ?_
  repeat' (first | (refine CL.ret ?_) | (refine Gt.nil ?_; refine RW.nilw [0, 2, 4] ?_; dsimp only [H.keep, H.look, H.Fr.put, Nat.beq]) | (refine Gt.assign ?_; refine RW.y (Y.assign rfl) rfl ?_))
  refine FQ.one rfl rfl rfl ⟨Kept.refl _ _, ?_⟩
  rw [dig_cut _ (by omega) (by omega), decI, Go.Lib.decDigits, dif_pos (by omega), show (max n 0).toNat = n.toNat from by omega]

set_option maxHeartbeats 400000 in
theorem refDec : ∀ (m : Nat) (n : Int), n.toNat ≤ m → n ≤ 9223372036854775807 → ∀ (w : World), Calls Tryz.prog 49 #[.int .i64 n] w fun e w' => K0 w w' ∧ e = .returned (vs (decI n)) := by
  intro m
  induction m with
  | zero => exact fun n hm _ w => refDecSmall n (by omega) w
  | succ m ih =>
    intro n hm h1 w
    by_cases h10 : n < 10
    · exact refDecSmall n h10 w
    have hl := decI_len (n / 10) (by omega)
    refine H.enter Tryz.func49 Tryz.ntmps49 rfl rfl ?_; dsimp only [H.args]
    repeat' (first | (refine CL.seq ?_) | (refine CL.region ?_) | (refine CL.skip ?_) | (refine CL.condP rfl (fun _ => ?_) (fun _ => ?_) <;> try (exfalso; omega)) | (refine Gt.nil ?_; refine RW.nilw [0, 2, 4] ?_; dsimp only [H.keep, H.look, H.Fr.put, Nat.beq]) | (refine Gt.move ?_; refine RW.y (Y.move rfl) rfl ?_) | (refine Gt.assign ?_; refine RW.y (Y.assign rfl) rfl ?_) | (refine Gt.lss ?_; refine RW.y (Y.lss rfl rfl) rfl ?_))
    refine CL.draw (fun w' => K0 w w') (by kernel_rfl) (fun w1 hheap hk1 => ?_)
    have hS : K0 w w1 := hk1
    skip
    refine AW.take 0 rfl (by kernel_rfl) (by kernel_rfl) (by kernel_rfl) rfl (by assumption) (fun w hS => Y.move rfl) ?_
    refine AW.take 1 rfl (by kernel_rfl) (by kernel_rfl) (by kernel_rfl) rfl (by assumption) (fun w hS => Y.quoP rfl rfl (by omega) (by omega) (by exact wrap64_id (by omega) (by omega))) ?_
    refine AW.take 3 rfl (by kernel_rfl) (by kernel_rfl) (by kernel_rfl) rfl (by assumption) (fun w hS => Y.move rfl) ?_
    refine AW.take 4 rfl (by kernel_rfl) (by kernel_rfl) (by kernel_rfl) rfl (by assumption) (fun w hS => by exact Y.remP rfl rfl (by omega) (by omega)) ?_
    refine AW.take 5 rfl (by kernel_rfl) (by kernel_rfl) (by kernel_rfl) rfl (by assumption) (fun w hS => Y.move rfl) ?_
    refine AW.take 6 rfl (by kernel_rfl) (by kernel_rfl) (by kernel_rfl) rfl (by assumption) (fun w hS => by exact Y.remP rfl rfl (by omega) (by omega)) ?_
    refine AW.take 7 rfl (by kernel_rfl) (by kernel_rfl) (by kernel_rfl) rfl (by assumption) (fun w hS => by exact Y.add64 rfl rfl (by omega) (by omega)) ?_
    refine AW.take 8 rfl (by kernel_rfl) (by kernel_rfl) (by kernel_rfl) rfl (by assumption) (fun w hS => Y.cutlh (l := [48, 49, 50, 51, 52, 53, 54, 55, 56, 57]) rfl rfl rfl (by omega) (by omega) (show (_ : Int) ≤ ((10 : Nat) : Int) from by omega)) ?_
    refine AW.next 2 rfl (by kernel_rfl) ?_
    refine RW.fn rfl rfl ((ih (n / 10) (by omega) (by omega) w1).mono ?_)
    rintro e w2 ⟨hk2, rfl⟩
    refine RW.nil (Nm.then (rebase0 hS hk2 fun hS => ?_))
    rw [dig_cut _ (by omega) (by omega)]
    have k1 : ∀ c : UInt8, ([c] : T).length = 1 := fun _ => rfl
    refine AW.take 9 rfl (by kernel_rfl) (by kernel_rfl) (by kernel_rfl) rfl (by assumption) (fun w hS => Y.cat rfl rfl (by rw [k1]; omega)) ?_
    refine AW.take 10 rfl (by kernel_rfl) (by kernel_rfl) (by kernel_rfl) rfl (by assumption) (fun w hS => Y.assign rfl) ?_
    refine AW.donew [2] (by kernel_rfl) ?_
    dsimp only [H.keep, H.look, H.Fr.put, Nat.beq]
    repeat' ((refine CL.ret ?_))
    refine FQ.one rfl rfl rfl ⟨hk1.trans0 hk2, ?_⟩
    conv => rhs; rw [decI, Go.Lib.decDigits, dif_neg (by omega)]
    rw [decI, show (n / 10).toNat = n.toNat / 10 from by omega, show (n % 10).toNat = n.toNat % 10 from by omega]

theorem dec (n : Int) (h1 : n ≤ 9223372036854775807) (w : World) : Calls Tryz.prog 49 #[.int .i64 n] w fun e w' => K0 w w' ∧ e = .returned (vs (decI n)) := refDec n.toNat n (Nat.le_refl _) h1 w

def markT (l : List T) : T := if l = [] then [] else 45 :: glueC 46 l
theorem markT_snoc (l : List T) (x : T) : markT (l ++ [x]) = if l = [] then 45 :: x else markT l ++ [46] ++ x := by
  unfold markT
  rw [if_neg (by simp), glueC_snoc]
  by_cases h : l = []
  · simp [h]
  · simp [h]

set_option maxHeartbeats 1000000 in
theorem refVText (X : Value) (x : Ver) (w : World) (hX : VerAt w X x) (fx : Fit x) (b1 : x.a ≤ 9223372036854775807) (b2 : x.b ≤ 9223372036854775807) (b3 : x.c ≤ 9223372036854775807) : Calls Tryz.prog 22 #[X] w fun e w' => K0 w w' ∧ e = .returned (vs (textV x)) := by
  obtain ⟨p, rfl, hp⟩ := hX
  have l1 := decI_len x.a b1
  have l2 := decI_len x.b b2
  have l3 := decI_len x.c b3
  have lf := fx.1
  have k1 : ([46] : T).length = 1 := rfl
  have k2 : ([45] : T).length = 1 := rfl
  refine H.enter Tryz.func22 Tryz.ntmps22 rfl rfl ?_; dsimp only [H.args]
  repeat' (first | (refine CL.seq ?_) | (refine CL.region ?_))
  refine RW.box rfl rfl (fun w1 hb1 hk1 hlt1 => ?_)
  have hX1 : w1.heap[w.heap.size]? = some (.cells #[.int .i64 x.a, .int .i64 x.b, .int .i64 x.c, p] verT (0, 0)) := hb1
  repeat' (first | (refine CL.seq ?_) | (refine Gt.nil ?_; refine RW.nilw [0, 1, 2, 3, 4, 22, 26] ?_; dsimp only [H.keep, H.look, H.Fr.put, Nat.beq]) | (refine Gt.assign ?_; refine RW.y (Y.assign rfl) rfl ?_))
  refine CL.draw (fun w' => K0 w1 w') (by kernel_rfl) (fun w2 hheap hk2 => ?_)
  have hS : K0 w1 w2 := hk2
  skip
  refine AW.take 0 rfl (by kernel_rfl) (by kernel_rfl) (by kernel_rfl) rfl (by assumption) (fun w hS => Y.fieldAddr rfl (by rfl)) ?_
  refine AW.take 1 rfl (by kernel_rfl) (by kernel_rfl) (by kernel_rfl) rfl (by assumption) (fun w hS => Y.loadB rfl (hS.at0 hX1) rfl) ?_
  refine AW.take 4 rfl (by kernel_rfl) (by kernel_rfl) (by kernel_rfl) rfl (by assumption) (fun w hS => Y.fieldAddr rfl (by rfl)) ?_
  refine AW.take 5 rfl (by kernel_rfl) (by kernel_rfl) (by kernel_rfl) rfl (by assumption) (fun w hS => Y.loadB rfl (hS.at0 hX1) rfl) ?_
  refine AW.take 9 rfl (by kernel_rfl) (by kernel_rfl) (by kernel_rfl) rfl (by assumption) (fun w hS => Y.fieldAddr rfl (by rfl)) ?_
  refine AW.take 10 rfl (by kernel_rfl) (by kernel_rfl) (by kernel_rfl) rfl (by assumption) (fun w hS => Y.loadB rfl (hS.at0 hX1) rfl) ?_
  refine AW.next 2 rfl (by kernel_rfl) ?_
  refine RW.fn rfl rfl ((dec _ (by omega) w2).mono ?_)
  rintro e w3 ⟨hk3, rfl⟩
  refine RW.nil (Nm.then (rebase0 hS hk3 fun hS => ?_))
  refine AW.take 3 rfl (by kernel_rfl) (by kernel_rfl) (by kernel_rfl) rfl (by assumption) (fun w hS => by exact Y.cat rfl rfl (by omega)) ?_
  refine AW.next 6 rfl (by kernel_rfl) ?_
  refine RW.fn rfl rfl ((dec _ (by omega) w3).mono ?_)
  rintro e w4 ⟨hk4, rfl⟩
  refine RW.nil (Nm.then (rebase0 hS hk4 fun hS => ?_))
  refine AW.take 7 rfl (by kernel_rfl) (by kernel_rfl) (by kernel_rfl) rfl (by assumption) (fun w hS => by exact Y.cat rfl rfl (by (simp only [List.length_append, List.length_cons, List.length_nil]; omega))) ?_
  refine AW.take 8 rfl (by kernel_rfl) (by kernel_rfl) (by kernel_rfl) rfl (by assumption) (fun w hS => by exact Y.cat rfl rfl (by (simp only [List.length_append, List.length_cons, List.length_nil]; omega))) ?_
  refine AW.next 11 rfl (by kernel_rfl) ?_
  refine RW.fn rfl rfl ((dec _ (by omega) w4).mono ?_)
  rintro e w5 ⟨hk5, rfl⟩
  refine RW.nil (Nm.then (rebase0 hS hk5 fun hS => ?_))
  refine AW.take 12 rfl (by kernel_rfl) (by kernel_rfl) (by kernel_rfl) rfl (by assumption) (fun w hS => by exact Y.cat rfl rfl (by (simp only [List.length_append, List.length_cons, List.length_nil]; omega))) ?_
  refine AW.take 13 rfl (by kernel_rfl) (by kernel_rfl) (by kernel_rfl) rfl (by assumption) (fun w hS => Y.assign rfl) ?_
  refine AW.donew [1, 2, 3] (by kernel_rfl) ?_
  dsimp only [H.keep, H.look, H.Fr.put, Nat.beq]
  have hK15 : K0 w1 w5 := ((hk2.trans0 hk3).trans0 hk4).trans0 hk5
  have hX5 := hK15.at0 hX1
  have hK5 : K0 w w5 := hk1.trans0 hK15
  have hp5 := hp.keep0 hK5
  have hbl : (decI x.a ++ [46] ++ decI x.b ++ [46] ++ decI x.c).length ≤ 100 := by simp only [List.length_append]; omega
  have htx : textV x = decI x.a ++ [46] ++ decI x.b ++ [46] ++ decI x.c ++ markT x.pre := rfl
  rw [htx]
  generalize decI x.a ++ [46] ++ decI x.b ++ [46] ++ decI x.c = base at *
  repeat' (first | (refine CL.seq ?_) | (refine CL.region ?_) | (refine CL.block ?_) | (refine Gt.nil ?_; refine RW.nilw [0, 1, 2, 3, 4, 22, 26] ?_; dsimp only [H.keep, H.look, H.Fr.put, Nat.beq]) | (refine Gt.assign ?_; refine RW.y (Y.assign rfl) rfl ?_))
  refine CL.loopS [1, 3, 4] (fun k vals wr => ∃ (i : Nat), vals = [.pointer (some ⟨w.heap.size, 0, none⟩), vs (base ++ markT (x.pre.take i)), .int .i64 (i : Int)] ∧ k = x.pre.length - i ∧ i ≤ x.pre.length ∧ (markT (x.pre.take i)).length ≤ i * 1000001 ∧ wr = w5) x.pre.length ⟨_, rfl, 0, by simp [markT], rfl, Nat.zero_le _, by simp [markT], rfl⟩ ?_
  rintro k vals wr ⟨i, rfl, rfl, hi, hml, rfl⟩
  dsimp only [List.zip, List.zipWith]
  have hi2 : ((i : Int)).toNat = i := Int.toNat_natCast i
  rcases Nat.lt_or_ge i x.pre.length with hlt | hge
  · have hsn := markT_snoc (x.pre.take i) (x.pre.getD i [])
    rw [← take_snoc [] x.pre i hlt] at hsn
    have hb := fx.2 _ (getD_mem [] hlt)
    have hu : (x.pre.getD ((i : Int)).toNat []).length ≤ 1000000 := by rw [hi2]; exact hb
    rcases Nat.eq_zero_or_pos i with h0 | h0
    · subst h0
      rw [if_pos (by simp)] at hsn
      repeat' (first | (refine CL.seq ?_) | (refine CL.region ?_) | (refine CL.skip ?_) | (refine CL.condP rfl (fun _ => ?_) (fun _ => ?_) <;> try (exfalso; omega)) | (refine CL.block ?_) | (refine CL.done ?_) | (refine Nm.block ?_) | (refine Nm.then ?_) | (refine Gt.nil ?_; refine RW.nilw [0, 1, 2, 3, 4, 22, 26] ?_; dsimp only [H.keep, H.look, H.Fr.put, Nat.beq]) | (refine Gt.assign ?_; refine RW.y (Y.assign rfl) rfl ?_) | (refine Gt.move ?_; refine RW.y (Y.move rfl) rfl ?_) | (refine Gt.add ?_; first | (refine RW.y (Y.cat rfl rfl (by (simp only [List.length_append, List.length_cons, List.length_nil]; omega))) rfl ?_) | (refine RW.y (Y.add64 rfl rfl (by omega) (by omega)) rfl ?_)) | (refine Gt.load ?_; refine RW.y (Y.loadB rfl (by assumption) rfl) rfl ?_) | (refine Gt.fieldAddr ?_; refine RW.y (Y.fieldAddr rfl (by rfl)) rfl ?_) | (refine Gt.len ?_; (refine RW.y (Y.lenx rfl (by assumption)) rfl ?_)) | (refine Gt.lss ?_; refine RW.y (Y.lss rfl rfl) rfl ?_) | (refine Gt.eql ?_; refine RW.y (Y.eqi rfl rfl) rfl ?_) | (refine Gt.idx ?_; refine RW.elemS rfl rfl rfl rfl (by assumption) (by omega) (by omega) ?_))
      refine ⟨x.pre.length - (0 + 1), _, rfl, rfl, rfl, by omega, 0 + 1, ?_, rfl, by omega, by rw [hsn, List.length_cons]; omega, rfl⟩
      rw [hsn]
      simp [markT]
    · have hne : x.pre.take i ≠ [] := fun h => by have := congrArg List.length h; rw [List.length_take] at this; simp only [List.length_nil] at this; omega
      rw [if_neg hne] at hsn
      repeat' (first | (refine CL.seq ?_) | (refine CL.region ?_) | (refine CL.skip ?_) | (refine CL.condP rfl (fun _ => ?_) (fun _ => ?_) <;> try (exfalso; omega)) | (refine CL.block ?_) | (refine CL.done ?_) | (refine Nm.block ?_) | (refine Nm.then ?_) | (refine Gt.nil ?_; refine RW.nilw [0, 1, 2, 3, 4, 22, 26] ?_; dsimp only [H.keep, H.look, H.Fr.put, Nat.beq]) | (refine Gt.assign ?_; refine RW.y (Y.assign rfl) rfl ?_) | (refine Gt.move ?_; refine RW.y (Y.move rfl) rfl ?_) | (refine Gt.add ?_; first | (refine RW.y (Y.cat rfl rfl (by (simp only [List.length_append, List.length_cons, List.length_nil]; omega))) rfl ?_) | (refine RW.y (Y.add64 rfl rfl (by omega) (by omega)) rfl ?_)) | (refine Gt.load ?_; refine RW.y (Y.loadB rfl (by assumption) rfl) rfl ?_) | (refine Gt.fieldAddr ?_; refine RW.y (Y.fieldAddr rfl (by rfl)) rfl ?_) | (refine Gt.len ?_; (refine RW.y (Y.lenx rfl (by assumption)) rfl ?_)) | (refine Gt.lss ?_; refine RW.y (Y.lss rfl rfl) rfl ?_) | (refine Gt.eql ?_; refine RW.y (Y.eqi rfl rfl) rfl ?_) | (refine Gt.idx ?_; refine RW.elemS rfl rfl rfl rfl (by assumption) (by omega) (by omega) ?_))
      refine ⟨x.pre.length - (i + 1), _, rfl, rfl, rfl, by omega, i + 1, ?_, rfl, by omega, by rw [hsn]; simp only [List.length_append]; omega, rfl⟩
      rw [hsn, hi2]
      simp
  · have hi : i = x.pre.length := by omega
    subst hi
    rw [List.take_length]
    repeat' (first | (refine CL.seq ?_) | (refine CL.region ?_) | (refine CL.condP rfl (fun _ => ?_) (fun _ => ?_) <;> try (exfalso; omega)) | (refine CL.exit ?_) | (refine Ex.then ?_) | (refine Ex.hit ?_) | (refine CL.ret ?_) | (refine Gt.nil ?_; refine RW.nilw [0, 1, 2, 3, 4, 22, 26] ?_; dsimp only [H.keep, H.look, H.Fr.put, Nat.beq]) | (refine Gt.assign ?_; refine RW.y (Y.assign rfl) rfl ?_) | (refine Gt.move ?_; refine RW.y (Y.move rfl) rfl ?_) | (refine Gt.load ?_; refine RW.y (Y.loadB rfl (by assumption) rfl) rfl ?_) | (refine Gt.fieldAddr ?_; refine RW.y (Y.fieldAddr rfl (by rfl)) rfl ?_) | (refine Gt.len ?_; (refine RW.y (Y.lenx rfl (by assumption)) rfl ?_)) | (refine Gt.lss ?_; refine RW.y (Y.lss rfl rfl) rfl ?_))
    exact FQ.one rfl rfl rfl ⟨hK5, rfl⟩
end Go.Proofs.YtjfdhafmbcppjaaGreatDoor.Ve

