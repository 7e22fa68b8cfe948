/-
  The program: pins told. The program: pins held against one another. The program: a line read. Bodies that defer, with regions whose order is open: a panic reads few slots. The program: a lockfile read; what is thrown is caught. The program: a lockfile read. The reference: a lockfile read. The chapter's example. The laws, walked: LockReads. A range over a function whose iterator reads what the loop's body leaves as it is (T). The end of a body that holds a range over a function, whatever the results' form. Truths held against one another. The laws, walked: LockTells. Lockfiles, plain: pins made of few numbers; whatever order they stand in.
-/
import Derived.Test.YtggodknolmdegaaGreatDoorQc
import Derived.Shelf.Strings.OnBuilder
import Derived.Test.YtggodknolmdegaaGreatDoorQb
import Derived.Test.YtggodknolmdegaaGreatDoorQa
set_option linter.unusedVariables false
namespace Go.Proofs.YtggodknolmdegaaGreatDoor.Lk
open Go.RowKit H S Ve
attribute [local irreducible] H.CL H.RW H.CW H.Yd H.thenK H.blockQ Go.Calls keyAt unhexB

theorem laysW : Go.Proofs.Lays.n166 Tryz.prog Tryz.lays156_ren := { Tryz.lays156 with }
theorem laysS : Go.Proofs.Lays.n169 Tryz.prog Tryz.lays156_ren := { Tryz.lays156 with }
abbrev bldT : TypeId := 69
/-- A builder in memory, that holds a text. -/
def Bld (w : World) (B b : Nat) (l : T) : Prop := Go.Lib.IsBuilder bldT 5 B b (bv l) w
theorem Bld.keep {w w' : World} {B b : Nat} {l : T} (h : Bld w B b l) {S : Nat → Prop} (k : Kept S w w') (hS : ∀ g, B ≤ g → g < w.heap.size → ¬ S g) : Bld w' B b l := by
  rcases h with ⟨hB, v, hb, ho, hn⟩ | ⟨hB, v, hb, ho, hn⟩
  · exact .inl ⟨hB, v, k.at hb (hS b hB (lt_of_at hb)), own_kept ho k (fun g hg => hS g (ho.lt g hg).1 (ho.lt g hg).2), hn⟩
  · exact .inr ⟨hB, v, k.at hb (hS b hB (lt_of_at hb)), own_kept ho k (fun g hg => hS g (ho.lt g hg).1 (ho.lt g hg).2), hn⟩
theorem Bld.keep0 {w w' : World} {B b : Nat} {l : T} (h : Bld w B b l) (k : K0 w w') : Bld w' B b l := h.keep k fun _ _ _ c => c
theorem Bld.new {w : World} {g : Nat} (h : w.heap[g]? = some (.cells #[.pointer none, .slice none 0 0] bldT (0, 0))) : Bld w g g [] :=
  .inl ⟨Nat.le_refl _, _, h, World.ownsRow_nil _ _ _ _, by simp [Value.ownBlock]⟩
theorem kept_below {B : Nat} {w w' : World} (h : Below B w w') : Kept (fun k => B ≤ k) w w' := ⟨h.os, h.tape, h.output, h.size, fun k _ hn => h.block k (by omega)⟩
theorem writeStr (B b : Nat) (l s : T) (w : World) (h : Bld w B b l) (hlen : l.length + s.length ≤ 140737488355328) (hB : B ≤ w.heap.size) : Calls Tryz.prog 37 #[.pointer (some ⟨b, 0, none⟩), vs s] w fun e w' => e = .returned (.tuple #[.int .i64 (s.length : Int), .nilIface]) ∧ Bld w' B b (l ++ s) ∧ Kept (fun k => B ≤ k) w w' := by
  refine (Go.Proofs.Any.Builder_WriteString laysW Tryz.Builder_Extra_156 B b (bv l) (H.B s) w h (by rw [List.length_map]; exact hlen) hB).mono ?_
  rintro e w' ⟨rfl, h1, h2⟩
  refine ⟨rfl, .inr ?_, kept_below h2⟩
  rw [bv, List.map_append]; exact h1
theorem bldStr (B b : Nat) (l : T) (w : World) (h : Bld w B b l) (hB : B ≤ w.heap.size) : Calls Tryz.prog 40 #[.pointer (some ⟨b, 0, none⟩)] w fun e w' => e = .returned (vs l) ∧ Kept (fun k => B ≤ k) w w' := by
  refine (Go.Proofs.Any.Builder_String_any laysS Tryz.Builder_Extra_156 B b l w h hB).mono ?_
  rintro e w' ⟨rfl, h2⟩
  exact ⟨rfl, kept_below h2⟩
theorem sortN_d (L : List Pm) : (sortN nmP L).map (·.d) = sortP (L.map (·.d)) := by
  rw [← sortN_sortP, ← sortN_map]; rfl

theorem text (v : Value) (L : List Pm) (w : World) (hv : GA pmK w v L) (hX : L.length ≤ 20 ∨ SrtN nmP L) (hl : L.length ≤ 1000) (hf : ∀ x ∈ L, FitP x.d) (hT : Tb w) : Calls Tryz.prog 12 #[v] w fun e w' => K0 w w' ∧ e = .returned (vs (lockT (L.map (·.d)))) := by
  refine H.enter Tryz.func12 Tryz.ntmps12 rfl rfl ?_; dsimp only [H.args]
  repeat' (first | (refine CL.seq ?_) | (refine CL.region ?_) | (refine Gt.nil ?_; refine RW.nilw [0, 2, 3, 5, 11, 12, 13, 14] ?_; dsimp only [H.keep, H.look, H.Fr.put, Nat.beq]) | (refine Gt.move ?_; refine RW.y (Y.move rfl) rfl ?_) | (refine Gt.assign ?_; refine RW.y (Y.assign rfl) rfl ?_))
  refine RW.fn rfl rfl ((cloneP v L.length _ w hv.1 hv.ones (by omega)).mono ?_)
  rintro e w1 ⟨hk1, u, rfl, how1⟩
  repeat' (first | (refine CL.seq ?_) | (refine CL.region ?_) | (refine Gt.nil ?_; refine RW.nilw [0, 2, 3, 5, 11, 12, 13, 14] ?_; dsimp only [H.keep, H.look, H.Fr.put, Nat.beq]) | (refine Gt.move ?_; refine RW.y (Y.move rfl) rfl ?_) | (refine Gt.assign ?_; refine RW.y (Y.assign rfl) rfl ?_))
  have hone : ∀ x ∈ L, x.p.oneCell' = true := fun x hx => (hv.2 x hx).one
  refine RW.fn rfl rfl ((sortPins w.heap.size u L w1 how1 hone hX hl).mono ?_)
  rintro e w2 ⟨rfl, how2, hk2⟩
  have hK2 : K0 w w2 := hk1.trans hk2 fun k h => .inr (how1.lt k h).1
  have hML : (sortN nmP L).length = L.length := sortN_len nmP L
  have hMd := sortN_d L
  have hD2 : ∀ x ∈ sortN nmP L, pmK.D w2 x := fun x hx => pmK.keep0 (hv.2 x ((sortN_mem nmP L x).1 hx)) hK2
  have hF2 : ∀ x ∈ sortN nmP L, FitP x.d := fun x hx => hf x ((sortN_mem nmP L x).1 hx)
  have hs2 : Sl w2 37 u (sortN nmP L).length ((sortN nmP L).flatMap pmC) := by rw [hML]; exact Sl.of_own how2
  generalize sortN nmP L = M at *
  have hT2 := hT.keep0 hK2
  repeat' (first | (refine CL.seq ?_) | (refine CL.region ?_) | (refine Gt.nil ?_; refine RW.nilw [0, 2, 3, 5, 11, 12, 13, 14] ?_; dsimp only [H.keep, H.look, H.Fr.put, Nat.beq]))
  refine RW.alloc rfl (fun w3 hb3 hk3 hlt3 => ?_)
  have hB3 : Bld w3 w2.heap.size w2.heap.size [] := Bld.new hb3
  clear hb3
  repeat' (first | (refine CL.seq ?_) | (refine CL.region ?_) | (refine Gt.nil ?_; refine RW.nilw [0, 2, 3, 5, 11, 12, 13, 14] ?_; dsimp only [H.keep, H.look, H.Fr.put, Nat.beq]))
  refine RW.fn rfl rfl ((writeStr _ _ [] (headL ++ [10]) w3 hB3 (by simp [headL]) (by omega)).mono ?_)
  rintro e w4 ⟨rfl, hB4, hk4⟩
  have hK4 : K0 w2 w4 := hk3.trans hk4 fun k h => .inr h
  have hs4 := hs2.keep0 hK4
  repeat' (first | (refine CL.seq ?_) | (refine CL.region ?_) | (refine CL.block ?_) | (refine Gt.nil ?_; refine RW.nilw [0, 2, 3, 5, 11, 12, 13, 14] ?_; dsimp only [H.keep, H.look, H.Fr.put, Nat.beq]) | (refine Gt.move ?_; refine RW.y (Y.move rfl) rfl ?_) | (refine Gt.len ?_; (refine RW.y (Y.lenx rfl (by assumption)) rfl ?_)))
  refine CL.loopS [3, 11, 12, 13] (fun k vals wr => ∃ i : Nat, vals = [.pointer (some ⟨w2.heap.size, 0, none⟩), u, .int .i64 (M.length : Int), .int .i64 (i : Int)] ∧ k = M.length - i ∧ i ≤ M.length ∧ Bld wr w2.heap.size w2.heap.size (headL ++ [10] ++ ((M.take i).map (·.d)).flatMap pinT) ∧ K0 w2 wr) M.length ⟨_, rfl, 0, rfl, rfl, Nat.zero_le _, hB4, hK4⟩ ?_
  rintro k vals wr ⟨i, rfl, rfl, hi, hBr, hkr⟩
  dsimp only [List.zip, List.zipWith]
  have hsr := hs2.keep0 hkr
  have hzr := hkr.size
  rcases Nat.lt_or_ge i M.length with hlt | hge
  · have hti : ((i : Int)).toNat = i := Int.toNat_natCast i
    have hel := elAll hsr pmK.len (i := (i : Int)) (by omega) (by omega)
    have hm1 : M.getD ((i : Int)).toNat default ∈ M := mem_getD default (by omega)
    have hD1 : Sl wr 1 _ _ _ := pmK.keep0 (hD2 _ hm1) hkr
    have hF := hF2 _ hm1
    have hsn := pins_snoc M i hlt
    have hpl := pins_len (M.take i) (fun y hy => hF2 y (List.mem_of_mem_take hy))
    rw [List.length_take] at hpl
    rw [← hti] at hsn
    rw [← hti] at hpl hBr
    generalize hx : M.getD ((i : Int)).toNat default = x at *
    generalize hq : ((M.take ((i : Int)).toNat).map (·.d)).flatMap pinT = q at *
    have hx32 : (bv x.d.sum).length = 32 := by rw [List.length_map, x.h]
    have hnl := hF.name
    have htl := hF.text
    have hhl := hexB_len x.d.sum
    rw [x.h] at hhl
    have hll : (headL ++ [10] ++ q).length ≤ 400000000 := by simp only [headL, List.length_append, List.length_cons, List.length_nil]; omega
    repeat' (first | (refine CL.seq ?_) | (refine CL.region ?_) | (refine CL.skip ?_) | (refine CL.condP rfl (fun _ => ?_) (fun _ => ?_) <;> try (exfalso; omega)) | (refine CL.block ?_) | (refine Gt.nil ?_; refine RW.nilw [0, 2, 3, 5, 11, 12, 13, 14] ?_; dsimp only [H.keep, H.look, H.Fr.put, Nat.beq]) | (refine RW.elemA rfl rfl rfl rfl hsr pmC_len rfl (by omega) (by omega) (fun _ => ?_)) | (refine Gt.lss ?_; refine RW.y (Y.lss rfl rfl) rfl ?_))
    rw [hx]
    refine RW.varN rfl (by rw [List.size_toArray, pmC_len]; rfl) rfl (fun z hz => pmC_one hD1.one z (by simpa using hz)) rfl (fun wv hbv hkv hltv => ?_)
    have hBv := hBr.keep0 hkv
    have hzv := hkv.size
    repeat' ((refine Gt.nil ?_; refine RW.nilw [0, 2, 3, 5, 11, 12, 13, 14] ?_; dsimp only [H.keep, H.look, H.Fr.put, Nat.beq]))
    refine CL.drawz (fun w' => K0 wv w') (fun j => Nat.beq j 13) (by kernel_rfl) (fun w5 hheap hk5 => ?_)
    have hS : K0 wv w5 := hk5
    have hbl : ∀ w', K0 wv w' → ∀ j u, (pmC x)[j]? = some u → w'.cell? ⟨wr.heap.size, 0 + j, none⟩ = some u := fun w' h => pmBlock (h.at0 hbv)
    skip
    refine AL.take 0 [1, 2, 6, 7, 11, 12, 13] rfl (by kernel_rfl) (by kernel_rfl) (by kernel_rfl) (by kernel_rfl) rfl (by assumption) (fun w hS => Y.fieldAddr rfl (by rfl)) ?_
    refine AL.take 1 [2, 6, 7, 11, 12, 13] rfl (by kernel_rfl) (by kernel_rfl) (by kernel_rfl) (by kernel_rfl) rfl (by assumption) (fun w hS => Y.load1A rfl (hbl _ hS 0 _ rfl)) ?_
    refine AL.take 2 [6, 7, 11, 12, 13] rfl (by kernel_rfl) (by kernel_rfl) (by kernel_rfl) (by kernel_rfl) rfl (by assumption) (fun w hS => by exact Y.cat rfl rfl (by (simp only [List.length_append, List.length_cons, List.length_nil]; omega))) ?_
    refine AL.take 3 [4, 5, 6, 7, 10, 11, 12, 13] rfl (by kernel_rfl) (by kernel_rfl) (by kernel_rfl) (by kernel_rfl) rfl (by assumption) (fun w hS => Y.fieldAddr rfl (by rfl)) ?_
    refine AL.take 4 [5, 6, 7, 10, 11, 12, 13] rfl (by kernel_rfl) (by kernel_rfl) (by kernel_rfl) (by kernel_rfl) rfl (by assumption) (fun w hS => Y.loadN (cs := [_, _, _, _]) rfl rfl (pmVer (hbl _ hS))) ?_
    refine AL.take 8 [9, 10, 11, 12, 13] rfl (by kernel_rfl) (by kernel_rfl) (by kernel_rfl) (by kernel_rfl) rfl (by assumption) (fun w hS => Y.fieldAddr rfl (by rfl)) ?_
    refine AL.take 9 [10, 11, 12, 13] rfl (by kernel_rfl) (by kernel_rfl) (by kernel_rfl) (by kernel_rfl) rfl (by assumption) (fun w hS => Y.loadN (cs := bv x.d.sum) rfl hx32 (pmSum (hbl _ hS))) ?_
    refine AL.next 5 rfl (by kernel_rfl) ?_
    refine RW.fn rfl rfl ((Ve.text _ x.d.v w5 ⟨_, rfl, hD1.keep0 (hkv.trans0 hS)⟩ hF.fit ((hT2.keep0 hkr).keep0 (hkv.trans0 hS)) hF.a hF.b hF.c).mono ?_)
    rintro e w6 ⟨hk6, rfl⟩
    refine RW.nil (Nm.then ⟨hS.trans0 hk6, ?_⟩)
    have hS := hS.trans0 hk6
    refine AL.take 6 [7, 11, 12, 13] rfl (by kernel_rfl) (by kernel_rfl) (by kernel_rfl) (by kernel_rfl) rfl (by assumption) (fun w hS => by exact Y.cat rfl rfl (by (simp only [List.length_append, List.length_cons, List.length_nil]; omega))) ?_
    refine AL.take 7 [11, 12, 13] rfl (by kernel_rfl) (by kernel_rfl) (by kernel_rfl) (by kernel_rfl) rfl (by assumption) (fun w hS => by exact Y.cat rfl rfl (by (simp only [List.length_append, List.length_cons, List.length_nil]; omega))) ?_
    refine AL.next 10 rfl (by kernel_rfl) ?_
    refine RW.fn rfl rfl ((hex _ x.h w6).mono ?_)
    rintro e w7 ⟨hk7, rfl⟩
    refine RW.nil (Nm.then ⟨hS.trans0 hk7, ?_⟩)
    have hS := hS.trans0 hk7
    refine AL.take 11 [12, 13] rfl (by kernel_rfl) (by kernel_rfl) (by kernel_rfl) (by kernel_rfl) rfl (by assumption) (fun w hS => by exact Y.cat rfl rfl (by (simp only [List.length_append, List.length_cons, List.length_nil]; omega))) ?_
    refine AL.take 12 [13] rfl (by kernel_rfl) (by kernel_rfl) (by kernel_rfl) (by kernel_rfl) rfl (by assumption) (fun w hS => by exact Y.cat rfl rfl (by (simp only [List.length_append, List.length_cons, List.length_nil]; omega))) ?_
    refine AL.last 13 rfl (by kernel_rfl) rfl ?_
    have hz7 := hS.size
    have hend : x.d.name ++ [32] ++ textV x.d.v ++ [32] ++ hexB x.d.sum ++ [10] = pinT x.d := by simp only [pinT, List.append_assoc]
    rw [hend]
    have hpt := pinT_len x hF
    refine RW.fn rfl rfl ((writeStr _ _ _ _ w7 (hBv.keep0 hS) (by omega) (by omega)).mono ?_)
    rintro e w8 ⟨rfl, hB8, hk8⟩
    refine RW.nil (Nm.then ⟨trivial, ?_⟩)
    refine AL.donew [3, 11, 12, 13] (by kernel_rfl) ?_
    dsimp only [H.keep, H.look, H.Fr.put, Nat.beq]
    repeat' (first | (refine CL.region ?_) | (refine CL.done ?_) | (refine Nm.block ?_) | (refine Nm.then ?_) | (refine Gt.nil ?_; refine RW.nilw [0, 2, 3, 5, 11, 12, 13, 14] ?_; dsimp only [H.keep, H.look, H.Fr.put, Nat.beq]) | (refine Gt.move ?_; refine RW.y (Y.move rfl) rfl ?_) | (refine Gt.add ?_; (refine RW.y (Y.add64 rfl rfl (by omega) (by omega)) rfl ?_)))
    exact ⟨M.length - (i + 1), _, rfl, rfl, rfl, by omega, i + 1, by simp, rfl, by omega, by rw [← hti, hsn, ← List.append_assoc]; exact hB8, ((hkr.trans0 hkv).trans0 hS).trans hk8 fun k h => .inr h⟩
  · have hi : i = M.length := by omega
    subst hi
    repeat' (first | (refine CL.seq ?_) | (refine CL.region ?_) | (refine CL.condP rfl (fun _ => ?_) (fun _ => ?_) <;> try (exfalso; omega)) | (refine CL.exit ?_) | (refine Ex.then ?_) | (refine Ex.hit ?_) | (refine Gt.nil ?_; refine RW.nilw [0, 2, 3, 5, 11, 12, 13, 14] ?_; dsimp only [H.keep, H.look, H.Fr.put, Nat.beq]) | (refine Gt.lss ?_; refine RW.y (Y.lss rfl rfl) rfl ?_))
    refine RW.fn rfl rfl ((bldStr _ _ _ wr hBr (by omega)).mono ?_)
    rintro e w5 ⟨rfl, hk5⟩
    repeat' (first | (refine CL.ret ?_) | (refine Gt.nil ?_; refine RW.nilw [0, 2, 3, 5, 11, 12, 13, 14] ?_; dsimp only [H.keep, H.look, H.Fr.put, Nat.beq]) | (refine Gt.assign ?_; refine RW.y (Y.assign rfl) rfl ?_))
    exact FQ.one rfl rfl rfl ⟨(hK2.trans0 hkr).trans hk5 fun k h => .inr (by have := hK2.size; omega), by rw [List.take_length, hMd]; rfl⟩
end Go.Proofs.YtggodknolmdegaaGreatDoor.Lk

namespace Go.Proofs.YtggodknolmdegaaGreatDoor.Lk
open Go.RowKit H S Ve
attribute [local irreducible] H.CL H.RW H.CW H.Yd H.thenK H.blockQ Go.Calls keyAt unhexB

theorem alike (x y : Pm) (w : World) (hx : pmK.D w x) (hy : pmK.D w y) (hF : FitP x.d) (hG : FitP y.d) (hT : Tb w) : Calls Tryz.prog 44 #[.agg (pmC x).toArray, .agg (pmC y).toArray] w fun e w' => K0 w w' ∧ e = .returned (.bool (decide (keyP x.d = keyP y.d))) := by
  have hD1 : Sl w 1 _ _ _ := hx
  have hD2 : Sl w 1 _ _ _ := hy
  have hx32 : (bv x.d.sum).length = 32 := by rw [List.length_map, x.h]
  have hy32 : (bv y.d.sum).length = 32 := by rw [List.length_map, y.h]
  obtain ⟨b1, hb1⟩ : ∃ b, decide (x.d.name = y.d.name) = b := ⟨_, rfl⟩
  obtain ⟨b2, hb2⟩ : ∃ b, decide (textV x.d.v = textV y.d.v) = b := ⟨_, rfl⟩
  obtain ⟨b3, hb3⟩ : ∃ b, decide (x.d.sum = y.d.sum) = b := ⟨_, rfl⟩
  have hres : decide (keyP x.d = keyP y.d) = (b1 && b2 && b3) := by
    rw [← hb1, ← hb2, ← hb3]; simp [keyP, Bool.and_assoc]
  rw [hres]
  refine H.enter Tryz.func44 Tryz.ntmps44 rfl rfl ?_; dsimp only [H.args]
  refine CL.seq ?_
  refine CL.region ?_
  refine RW.box rfl rfl (fun w1 hbx hk1 hlt1 => ?_)
  refine RW.box rfl rfl (fun w2 hby hk2 hlt2 => ?_)
  have hbx' : w2.heap[w.heap.size]? = some (.cells (pmC x).toArray pmT (0, 0)) := hk2.at0 hbx
  have hby' : w2.heap[w1.heap.size]? = some (.cells (pmC y).toArray pmT (0, 0)) := hby
  clear hbx hby
  have hK := hk1.trans0 hk2
  repeat' (first | (refine CL.seq ?_) | (refine Gt.nil ?_; refine RW.nilw [0, 1, 2, 3, 4] ?_; dsimp only [H.keep, H.look, H.Fr.put, Nat.beq]) | (refine Gt.assign ?_; refine RW.y (Y.assign rfl) rfl ?_))
  refine CL.draw (fun w' => K0 w2 w') (by kernel_rfl) (fun w3 hheap hk3 => ?_)
  have hS : K0 w2 w3 := hk3
  have hcx : ∀ w', K0 w2 w' → ∀ j u, (pmC x)[j]? = some u → w'.cell? ⟨w.heap.size, 0 + j, none⟩ = some u := fun w' h => pmBlock (h.at0 hbx')
  have hcy : ∀ w', K0 w2 w' → ∀ j u, (pmC y)[j]? = some u → w'.cell? ⟨w1.heap.size, 0 + j, none⟩ = some u := fun w' h => pmBlock (h.at0 hby')
  skip
  skip
  cases b1 with
  | false =>
    skip
    refine AW.take 0 rfl (by kernel_rfl) (by kernel_rfl) (by kernel_rfl) rfl (by assumption) (fun w hS => Y.fieldAddr rfl (by rfl)) ?_
    refine AW.take 1 rfl (by kernel_rfl) (by kernel_rfl) (by kernel_rfl) rfl (by assumption) (fun w hS => Y.load1A rfl (hcx _ hS 0 _ rfl)) ?_
    refine AW.take 2 rfl (by kernel_rfl) (by kernel_rfl) (by kernel_rfl) rfl (by assumption) (fun w hS => Y.fieldAddr rfl (by rfl)) ?_
    refine AW.take 3 rfl (by kernel_rfl) (by kernel_rfl) (by kernel_rfl) rfl (by assumption) (fun w hS => Y.load1A rfl (hcy _ hS 0 _ rfl)) ?_
    refine AW.take 4 rfl (by kernel_rfl) (by kernel_rfl) (by kernel_rfl) rfl (by assumption) (fun w hS => Y.eqsE rfl rfl hb1) ?_
    refine AW.take 5 rfl (by kernel_rfl) (by kernel_rfl) (by kernel_rfl) rfl (by assumption) (fun w hS => Y.move rfl) ?_
    refine AW.takeOff 6 rfl (by kernel_rfl) (by kernel_rfl) (by kernel_rfl) rfl rfl rfl rfl rfl (by assumption) ?_
    refine AW.takeOff 7 rfl (by kernel_rfl) (by kernel_rfl) (by kernel_rfl) rfl rfl rfl rfl rfl (by assumption) ?_
    refine AW.takeOff 8 rfl (by kernel_rfl) (by kernel_rfl) (by kernel_rfl) rfl rfl rfl rfl rfl (by assumption) ?_
    refine AW.takeOff 9 rfl (by kernel_rfl) (by kernel_rfl) (by kernel_rfl) rfl rfl rfl rfl rfl (by assumption) ?_
    refine AW.takeOff 10 rfl (by kernel_rfl) (by kernel_rfl) (by kernel_rfl) rfl rfl rfl rfl rfl (by assumption) ?_
    refine AW.takeOff 11 rfl (by kernel_rfl) (by kernel_rfl) (by kernel_rfl) rfl rfl rfl rfl rfl (by assumption) ?_
    refine AW.takeOff 12 rfl (by kernel_rfl) (by kernel_rfl) (by kernel_rfl) rfl rfl rfl rfl rfl (by assumption) ?_
    refine AW.take 13 rfl (by kernel_rfl) (by kernel_rfl) (by kernel_rfl) rfl (by assumption) (fun w hS => by exact Y.pickF rfl rfl) ?_
    refine AW.take 14 rfl (by kernel_rfl) (by kernel_rfl) (by kernel_rfl) rfl (by assumption) (fun w hS => Y.move rfl) ?_
    refine AW.takeOff 15 rfl (by kernel_rfl) (by kernel_rfl) (by kernel_rfl) rfl rfl rfl rfl rfl (by assumption) ?_
    refine AW.takeOff 16 rfl (by kernel_rfl) (by kernel_rfl) (by kernel_rfl) rfl rfl rfl rfl rfl (by assumption) ?_
    refine AW.takeOff 17 rfl (by kernel_rfl) (by kernel_rfl) (by kernel_rfl) rfl rfl rfl rfl rfl (by assumption) ?_
    refine AW.takeOff 18 rfl (by kernel_rfl) (by kernel_rfl) (by kernel_rfl) rfl rfl rfl rfl rfl (by assumption) ?_
    refine AW.takeOff 19 rfl (by kernel_rfl) (by kernel_rfl) (by kernel_rfl) rfl rfl rfl rfl rfl (by assumption) ?_
    refine AW.take 20 rfl (by kernel_rfl) (by kernel_rfl) (by kernel_rfl) rfl (by assumption) (fun w hS => by exact Y.pickF rfl rfl) ?_
    refine AW.take 21 rfl (by kernel_rfl) (by kernel_rfl) (by kernel_rfl) rfl (by assumption) (fun w hS => Y.assign rfl) ?_
    refine AW.donew [4] (by kernel_rfl) ?_
    dsimp only [H.keep, H.look, H.Fr.put, Nat.beq]
    repeat' ((refine CL.ret ?_))
    exact FQ.one rfl rfl rfl ⟨hK.trans0 hS, rfl⟩
  | true =>
    skip
    refine AW.take 0 rfl (by kernel_rfl) (by kernel_rfl) (by kernel_rfl) rfl (by assumption) (fun w hS => Y.fieldAddr rfl (by rfl)) ?_
    refine AW.take 1 rfl (by kernel_rfl) (by kernel_rfl) (by kernel_rfl) rfl (by assumption) (fun w hS => Y.load1A rfl (hcx _ hS 0 _ rfl)) ?_
    refine AW.take 2 rfl (by kernel_rfl) (by kernel_rfl) (by kernel_rfl) rfl (by assumption) (fun w hS => Y.fieldAddr rfl (by rfl)) ?_
    refine AW.take 3 rfl (by kernel_rfl) (by kernel_rfl) (by kernel_rfl) rfl (by assumption) (fun w hS => Y.load1A rfl (hcy _ hS 0 _ rfl)) ?_
    refine AW.take 4 rfl (by kernel_rfl) (by kernel_rfl) (by kernel_rfl) rfl (by assumption) (fun w hS => Y.eqsE rfl rfl hb1) ?_
    refine AW.take 5 rfl (by kernel_rfl) (by kernel_rfl) (by kernel_rfl) rfl (by assumption) (fun w hS => Y.move rfl) ?_
    refine AW.takeOn 6 rfl (by kernel_rfl) (by kernel_rfl) (by kernel_rfl) rfl rfl rfl rfl (by assumption) (fun w hS => Y.fieldAddr rfl (by rfl)) ?_
    refine AW.takeOn 7 rfl (by kernel_rfl) (by kernel_rfl) (by kernel_rfl) rfl rfl rfl rfl (by assumption) (fun w hS => Y.loadN (cs := [_, _, _, _]) rfl rfl (pmVer (hcx _ hS))) ?_
    refine AW.takeOn 9 rfl (by kernel_rfl) (by kernel_rfl) (by kernel_rfl) rfl rfl rfl rfl (by assumption) (fun w hS => Y.fieldAddr rfl (by rfl)) ?_
    refine AW.takeOn 10 rfl (by kernel_rfl) (by kernel_rfl) (by kernel_rfl) rfl rfl rfl rfl (by assumption) (fun w hS => Y.loadN (cs := [_, _, _, _]) rfl rfl (pmVer (hcy _ hS))) ?_
    refine AW.next 8 rfl (by kernel_rfl) ?_
    refine RW.on rfl rfl rfl ?_
    refine RW.fn rfl rfl ((Ve.text _ x.d.v w3 ⟨_, rfl, hD1.keep0 (hK.trans0 hS)⟩ hF.fit (hT.keep0 (hK.trans0 hS)) hF.a hF.b hF.c).mono ?_)
    rintro e w4 ⟨hk4, rfl⟩
    refine RW.nil (Nm.then ⟨hS.trans0 hk4, ?_⟩)
    have hS := hS.trans0 hk4
    skip
    refine AW.next 11 rfl (by kernel_rfl) ?_
    refine RW.on rfl rfl rfl ?_
    refine RW.fn rfl rfl ((Ve.text _ y.d.v w4 ⟨_, rfl, hD2.keep0 (hK.trans0 hS)⟩ hG.fit (hT.keep0 (hK.trans0 hS)) hG.a hG.b hG.c).mono ?_)
    rintro e w5 ⟨hk5, rfl⟩
    refine RW.nil (Nm.then ⟨hS.trans0 hk5, ?_⟩)
    have hS := hS.trans0 hk5
    skip
    cases b2 with
    | false =>
      skip
      refine AW.takeOn 12 rfl (by kernel_rfl) (by kernel_rfl) (by kernel_rfl) rfl rfl rfl rfl (by assumption) (fun w hS => Y.eqsE rfl rfl hb2) ?_
      refine AW.take 13 rfl (by kernel_rfl) (by kernel_rfl) (by kernel_rfl) rfl (by assumption) (fun w hS => by exact Y.pickT rfl rfl) ?_
      refine AW.take 14 rfl (by kernel_rfl) (by kernel_rfl) (by kernel_rfl) rfl (by assumption) (fun w hS => Y.move rfl) ?_
      refine AW.takeOff 15 rfl (by kernel_rfl) (by kernel_rfl) (by kernel_rfl) rfl rfl rfl rfl rfl (by assumption) ?_
      refine AW.takeOff 16 rfl (by kernel_rfl) (by kernel_rfl) (by kernel_rfl) rfl rfl rfl rfl rfl (by assumption) ?_
      refine AW.takeOff 17 rfl (by kernel_rfl) (by kernel_rfl) (by kernel_rfl) rfl rfl rfl rfl rfl (by assumption) ?_
      refine AW.takeOff 18 rfl (by kernel_rfl) (by kernel_rfl) (by kernel_rfl) rfl rfl rfl rfl rfl (by assumption) ?_
      refine AW.takeOff 19 rfl (by kernel_rfl) (by kernel_rfl) (by kernel_rfl) rfl rfl rfl rfl rfl (by assumption) ?_
      refine AW.take 20 rfl (by kernel_rfl) (by kernel_rfl) (by kernel_rfl) rfl (by assumption) (fun w hS => by exact Y.pickF rfl rfl) ?_
      refine AW.take 21 rfl (by kernel_rfl) (by kernel_rfl) (by kernel_rfl) rfl (by assumption) (fun w hS => Y.assign rfl) ?_
      refine AW.donew [4] (by kernel_rfl) ?_
      dsimp only [H.keep, H.look, H.Fr.put, Nat.beq]
      repeat' ((refine CL.ret ?_))
      exact FQ.one rfl rfl rfl ⟨hK.trans0 hS, rfl⟩
    | true =>
      skip
      refine AW.takeOn 12 rfl (by kernel_rfl) (by kernel_rfl) (by kernel_rfl) rfl rfl rfl rfl (by assumption) (fun w hS => Y.eqsE rfl rfl hb2) ?_
      refine AW.take 13 rfl (by kernel_rfl) (by kernel_rfl) (by kernel_rfl) rfl (by assumption) (fun w hS => by exact Y.pickT rfl rfl) ?_
      refine AW.take 14 rfl (by kernel_rfl) (by kernel_rfl) (by kernel_rfl) rfl (by assumption) (fun w hS => Y.move rfl) ?_
      refine AW.takeOn 15 rfl (by kernel_rfl) (by kernel_rfl) (by kernel_rfl) rfl rfl rfl rfl (by assumption) (fun w hS => Y.fieldAddr rfl (by rfl)) ?_
      refine AW.takeOn 16 rfl (by kernel_rfl) (by kernel_rfl) (by kernel_rfl) rfl rfl rfl rfl (by assumption) (fun w hS => Y.loadN (cs := bv x.d.sum) rfl hx32 (pmSum (hcx _ hS))) ?_
      refine AW.takeOn 17 rfl (by kernel_rfl) (by kernel_rfl) (by kernel_rfl) rfl rfl rfl rfl (by assumption) (fun w hS => Y.fieldAddr rfl (by rfl)) ?_
      refine AW.takeOn 18 rfl (by kernel_rfl) (by kernel_rfl) (by kernel_rfl) rfl rfl rfl rfl (by assumption) (fun w hS => Y.loadN (cs := bv y.d.sum) rfl hy32 (pmSum (hcy _ hS))) ?_
      refine AW.takeOn 19 rfl (by kernel_rfl) (by kernel_rfl) (by kernel_rfl) rfl rfl rfl rfl (by assumption) (fun w hS => Y.eqB rfl rfl (by kernel_rfl) x.h y.h hb3) ?_
      refine AW.take 20 rfl (by kernel_rfl) (by kernel_rfl) (by kernel_rfl) rfl (by assumption) (fun w hS => by exact Y.pickT rfl rfl) ?_
      refine AW.take 21 rfl (by kernel_rfl) (by kernel_rfl) (by kernel_rfl) rfl (by assumption) (fun w hS => Y.assign rfl) ?_
      refine AW.donew [4] (by kernel_rfl) ?_
      dsimp only [H.keep, H.look, H.Fr.put, Nat.beq]
      repeat' ((refine CL.ret ?_))
      exact FQ.one rfl rfl rfl ⟨hK.trans0 hS, by simp⟩

theorem equalPins (v u : Value) (N M : List Pm) (w : World) (hv : GA pmK w v N) (hu : GA pmK w u M) (hf : ∀ x ∈ N, FitP x.d) (hg : ∀ x ∈ M, FitP x.d) (hT : Tb w) : Calls Tryz.prog 43 #[v, u, .func (.func 44) #[] #[]] w fun e w' => K0 w w' ∧ e = .returned (.bool (sameP (N.map (·.d)) (M.map (·.d)))) := by
  have hs := hv.1
  have ht := hu.1
  have hmx : N.length ≤ 9223372036854775807 := by have := hs.2.1; simpa [maxLen] using this
  have hNl : (N.map (·.d)).length = N.length := List.length_map _
  have hMl : (M.map (·.d)).length = M.length := List.length_map _
  refine H.enter Tryz.func43 Tryz.ntmps43 rfl rfl ?_; dsimp only [H.args]
  repeat' (first | (refine CL.seq ?_) | (refine CL.region ?_) | (refine CL.skip ?_) | (refine CL.condP rfl (fun _ => ?_) (fun _ => ?_) <;> try (exfalso; omega)) | (refine CL.block ?_) | (refine CL.ret ?_) | (refine Gt.nil ?_; refine RW.nilw [0, 1, 2, 6, 7, 8, 9, 14, 15, 16, 17, 18, 30] ?_; dsimp only [H.keep, H.look, H.Fr.put, Nat.beq]) | (refine Gt.move ?_; refine RW.y (Y.move rfl) rfl ?_) | (refine Gt.assign ?_; refine RW.y (Y.assign rfl) rfl ?_) | (refine Gt.len ?_; (refine RW.y (Y.lenx rfl (by assumption)) rfl ?_)) | (refine Gt.neq ?_; refine RW.y (Y.nei rfl rfl) rfl ?_))
  · rename_i h
    exact FQ.one rfl rfl rfl ⟨Kept.refl _ _, by rw [same_len (by omega)]⟩
  rename_i hlen
  refine CL.loopS [0, 1, 2, 15, 16, 17] (fun k vals wr => ∃ i : Nat, vals = [v, u, .func (.func 44) #[] #[], v, .int .i64 (N.length : Int), .int .i64 (i : Int)] ∧ k = N.length - i ∧ i ≤ N.length ∧ ((N.map (·.d)).take i).map keyP = ((M.map (·.d)).take i).map keyP ∧ K0 w wr) N.length ⟨_, rfl, 0, rfl, rfl, Nat.zero_le _, rfl, Kept.refl _ _⟩ ?_
  rintro k vals wr ⟨i, rfl, rfl, hi, hsm, hkr⟩
  dsimp only [List.zip, List.zipWith]
  have hvr := hv.keep0 hkr
  have hur := hu.keep0 hkr
  have hsr : Sl wr 37 v N.length (N.flatMap pmC) := hvr.1
  have htr : Sl wr 37 u M.length (M.flatMap pmC) := hur.1
  rcases Nat.lt_or_ge i N.length with hlt | hge
  · have hti : ((i : Int)).toNat = i := Int.toNat_natCast i
    have hm1 : N.getD ((i : Int)).toNat default ∈ N := mem_getD default (by omega)
    have hm2 : M.getD ((i : Int)).toNat default ∈ M := mem_getD default (by omega)
    have hD1 : pmK.D wr _ := hvr.2 _ hm1
    have hD2 : pmK.D wr _ := hur.2 _ hm2
    have hF := hf _ hm1
    have hG := hg _ hm2
    have hno : keyP (N.getD ((i : Int)).toNat default).d ≠ keyP (M.getD ((i : Int)).toNat default).d → sameP (N.map (·.d)) (M.map (·.d)) = false := fun c => same_not (i := i) (by omega) (by omega) (by rw [getD_d _ _ (by omega), getD_d _ _ (by omega)]; rw [hti] at c; exact c)
    have hst : keyP (N.getD ((i : Int)).toNat default).d = keyP (M.getD ((i : Int)).toNat default).d → ((N.map (·.d)).take (i + 1)).map keyP = ((M.map (·.d)).take (i + 1)).map keyP := fun c => same_step (by omega) (by omega) hsm (by rw [getD_d _ _ (by omega), getD_d _ _ (by omega)]; rw [hti] at c; exact c)
    repeat' (first | (refine CL.seq ?_) | (refine CL.region ?_) | (refine CL.skip ?_) | (refine CL.condP rfl (fun _ => ?_) (fun _ => ?_) <;> try (exfalso; omega)) | (refine CL.block ?_) | (refine Gt.nil ?_; refine RW.nilw [0, 1, 2, 6, 7, 8, 9, 14, 15, 16, 17, 18, 30] ?_; dsimp only [H.keep, H.look, H.Fr.put, Nat.beq]) | (refine RW.elemA rfl rfl rfl rfl hsr pmC_len rfl (by omega) (by omega) (fun _ => ?_)) | (refine Gt.move ?_; refine RW.y (Y.move rfl) rfl ?_) | (refine Gt.lss ?_; refine RW.y (Y.lss rfl rfl) rfl ?_))
    generalize N.getD ((i : Int)).toNat default = x at *
    refine RW.alloc rfl (fun w1 hb1 hk1 hlt1 => ?_)
    repeat' ((refine Gt.assign ?_; refine RW.y (Y.assign rfl) rfl ?_))
    refine RW.storeBlock rfl rfl (by rw [List.size_toArray, pmC_len]; rfl) (fun z hz => pmC_one hD1.one z (by simpa using hz)) hb1 rfl (fun w2 hb2 hk2 => ?_)
    have hK2 : K0 wr w2 := hk1.trans hk2 fun k h => .inr (by omega)
    repeat' (first | (refine CL.seq ?_) | (refine CL.region ?_) | (refine Gt.nil ?_; refine RW.nilw [0, 1, 2, 6, 7, 8, 9, 14, 15, 16, 17, 18, 30] ?_; dsimp only [H.keep, H.look, H.Fr.put, Nat.beq]) | (refine RW.elemA rfl rfl rfl rfl (htr.keep0 hK2) pmC_len rfl (by omega) (by omega) (fun _ => ?_)) | (refine Gt.move ?_; refine RW.y (Y.move rfl) rfl ?_))
    generalize M.getD ((i : Int)).toNat default = y at *
    refine RW.alloc rfl (fun w3 hb3 hk3 hlt3 => ?_)
    refine RW.storeBlock rfl rfl (by rw [List.size_toArray, pmC_len]; rfl) (fun z hz => pmC_one hD2.one z (by simpa using hz)) hb3 rfl (fun w4 hb4 hk4 => ?_)
    have hK4 : K0 w2 w4 := hk3.trans hk4 fun k h => .inr (by omega)
    have hb24 := hK4.at0 hb2
    repeat' (first | (refine CL.seq ?_) | (refine CL.region ?_) | (refine Gt.nil ?_; refine RW.nilw [0, 1, 2, 6, 7, 8, 9, 14, 15, 16, 17, 18, 30] ?_; dsimp only [H.keep, H.look, H.Fr.put, Nat.beq]) | (refine Gt.move ?_; refine RW.y (Y.move rfl) rfl ?_))
    refine RW.y (Y.loadBlock rfl hb24 (by rw [List.size_toArray, pmC_len]; rfl)) rfl ?_
    refine RW.y (Y.loadBlock rfl hb4 (by rw [List.size_toArray, pmC_len]; rfl)) rfl ?_
    refine RW.fnv rfl rfl rfl ((alike x y w4 (pmK.keep0 hD1 (hK2.trans0 hK4)) (pmK.keep0 hD2 (hK2.trans0 hK4)) hF hG (hT.keep0 (hkr.trans0 (hK2.trans0 hK4)))).mono ?_)
    rintro e w5 ⟨hk5, rfl⟩
    have hK5 := hkr.trans0 ((hK2.trans0 hK4).trans0 hk5)
    rcases hb : decide (keyP x.d = keyP y.d) with _ | _
    · repeat' (first | (refine CL.seq ?_) | (refine CL.region ?_) | (refine CL.condT rfl ?_) | (refine CL.ret ?_) | (refine Rt.then ?_) | (refine Rt.block ?_) | (refine Gt.nil ?_; refine RW.nilw [0, 1, 2, 6, 7, 8, 9, 14, 15, 16, 17, 18, 30] ?_; dsimp only [H.keep, H.look, H.Fr.put, Nat.beq]) | (refine Gt.assign ?_; refine RW.y (Y.assign rfl) rfl ?_) | (refine Gt.not ?_; (refine RW.y (Y.notb rfl) rfl ?_)))
      exact FQ.one rfl rfl rfl ⟨hK5, by rw [hno (of_decide_eq_false hb)]⟩
    · repeat' (first | (refine CL.region ?_) | (refine CL.skip ?_) | (refine CL.condF rfl ?_) | (refine CL.done ?_) | (refine Nm.block ?_) | (refine Nm.then ?_) | (refine Gt.nil ?_; refine RW.nilw [0, 1, 2, 6, 7, 8, 9, 14, 15, 16, 17, 18, 30] ?_; dsimp only [H.keep, H.look, H.Fr.put, Nat.beq]) | (refine Gt.move ?_; refine RW.y (Y.move rfl) rfl ?_) | (refine Gt.not ?_; (refine RW.y (Y.notb rfl) rfl ?_)) | (refine Gt.add ?_; refine RW.y (Y.add64 rfl rfl (by omega) (by omega)) rfl ?_))
      exact ⟨N.length - (i + 1), _, rfl, rfl, rfl, by omega, i + 1, by simp, rfl, by omega, hst (of_decide_eq_true hb), hK5⟩
  · have hi : i = N.length := by omega
    subst hi
    repeat' (first | (refine CL.seq ?_) | (refine CL.region ?_) | (refine CL.condP rfl (fun _ => ?_) (fun _ => ?_) <;> try (exfalso; omega)) | (refine CL.exit ?_) | (refine Ex.then ?_) | (refine Ex.hit ?_) | (refine CL.ret ?_) | (refine Gt.nil ?_; refine RW.nilw [0, 1, 2, 6, 7, 8, 9, 14, 15, 16, 17, 18, 30] ?_; dsimp only [H.keep, H.look, H.Fr.put, Nat.beq]) | (refine Gt.assign ?_; refine RW.y (Y.assign rfl) rfl ?_) | (refine Gt.lss ?_; refine RW.y (Y.lss rfl rfl) rfl ?_))
    exact FQ.one rfl rfl rfl ⟨hkr, by rw [List.take_of_length_le (by omega), List.take_of_length_le (by omega)] at hsm; rw [sameP, decide_eq_true hsm]⟩
theorem same (v u : Value) (N M : List Pm) (w : World) (hv : GA pmK w v N) (hu : GA pmK w u M) (hf : ∀ x ∈ N, FitP x.d) (hg : ∀ x ∈ M, FitP x.d) (hT : Tb w) : Calls Tryz.prog 15 #[v, u] w fun e w' => K0 w w' ∧ e = .returned (.bool (sameP (N.map (·.d)) (M.map (·.d)))) := by
  refine H.enter Tryz.func15 Tryz.ntmps15 rfl rfl ?_; dsimp only [H.args]
  repeat' (first | (refine CL.seq ?_) | (refine CL.region ?_) | (refine Gt.nil ?_; refine RW.nilw [0, 1, 4] ?_; dsimp only [H.keep, H.look, H.Fr.put, Nat.beq]) | (refine Gt.assign ?_; refine RW.y (Y.assign rfl) rfl ?_) | (refine Gt.move ?_; refine RW.y (Y.move rfl) rfl ?_))
  refine RW.fn rfl rfl ((equalPins v u N M w hv hu hf hg hT).mono ?_)
  rintro e w1 ⟨hk1, rfl⟩
  repeat' (first | (refine CL.ret ?_) | (refine Gt.nil ?_; refine RW.nilw [0, 1, 4] ?_; dsimp only [H.keep, H.look, H.Fr.put, Nat.beq]) | (refine Gt.assign ?_; refine RW.y (Y.assign rfl) rfl ?_))
  exact FQ.one rfl rfl rfl ⟨hk1, rfl⟩
end Go.Proofs.YtggodknolmdegaaGreatDoor.Lk

namespace Go.Proofs.YtggodknolmdegaaGreatDoor.Lk
open Go.RowKit H S Ve

section
variable {f : Fr} {w : World} {d : Nat} {ty : TypeId} {pos : String} {af : Array Edge}
theorem pmBuild (x : Pm) {o0 o1 o2 : Operand} (h0 : f.ev o0 = some (vs x.d.name)) (h1 : f.ev o1 = some (verV x.d.v x.p)) (h2 : f.ev o2 = some (.agg (bv x.d.sum).toArray)) : Yd Tryz.prog f (op1 d (.build pmT #[(0, o0), (1, o1), (2, o2)]) ty pos af) (.agg (pmC x).toArray) w := by
  have hl : ((bv x.d.sum).toArray).size = 32 := by rw [List.size_toArray, List.length_map, x.h]
  refine Y.build (ps := [(0, o0), (1, o1), (2, o2)]) (l := [vs x.d.name, verV x.d.v x.p, .agg (bv x.d.sum).toArray]) ?_ ?_
  · simp [Fr.evs, h0, h1, h2]
  · show Instr.fill _ _ [(0, _), (1, _), (2, _)] = _
    rw [fill_one 1 0 _ 0 (vs x.d.name) _ _ rfl rfl (Nat.le_of_ble_eq_true rfl)]
    rw [fill_one 4 1 _ 1 (verV x.d.v x.p) _ _ rfl rfl (Nat.le_of_ble_eq_true rfl)]
    rw [fill_one 32 5 _ 2 (.agg (bv x.d.sum).toArray) _ _ rfl hl (Nat.le_of_ble_eq_true rfl)]
    rw [fill_nil]
    refine congrArg some (congrArg List.toArray ?_)
    show _ ++ (bv x.d.sum) ++ [] = _
    rw [List.append_nil]; rfl
theorem pmBuild2 (x : Pm) (hs : x.d.sum = List.replicate 32 0) {o0 o1 : Operand} (h0 : f.ev o0 = some (vs x.d.name)) (h1 : f.ev o1 = some (verV x.d.v x.p)) : Yd Tryz.prog f (op1 d (.build pmT #[(0, o0), (1, o1)]) ty pos af) (.agg (pmC x).toArray) w := by
  refine Y.build (ps := [(0, o0), (1, o1)]) (l := [vs x.d.name, verV x.d.v x.p]) ?_ ?_
  · simp [Fr.evs, h0, h1]
  · show Instr.fill _ _ [(0, _), (1, _)] = _
    rw [fill_one 1 0 _ 0 (vs x.d.name) _ _ rfl rfl (Nat.le_of_ble_eq_true rfl)]
    rw [fill_one 4 1 _ 1 (verV x.d.v x.p) _ _ rfl rfl (Nat.le_of_ble_eq_true rfl)]
    rw [fill_nil, pmC, hs]
    rfl
theorem pmBuild1 (x : Pm) (hs : x.d.sum = List.replicate 32 0) (hv : x.d.v = ⟨0, 0, 0, []⟩) (hp : x.p = .slice none 0 0) {o0 : Operand} (h0 : f.ev o0 = some (vs x.d.name)) : Yd Tryz.prog f (op1 d (.build pmT #[(0, o0)]) ty pos af) (.agg (pmC x).toArray) w := by
  refine Y.build (ps := [(0, o0)]) (l := [vs x.d.name]) ?_ ?_
  · simp [Fr.evs, h0]
  · show Instr.fill _ _ [(0, _)] = _
    rw [fill_one 1 0 _ 0 (vs x.d.name) _ _ rfl rfl (Nat.le_of_ble_eq_true rfl)]
    rw [fill_nil, pmC, hs, hv, hp]
    rfl
end
attribute [local irreducible] H.CL H.RW H.CW H.Yd H.thenK H.blockQ Go.Calls keyAt unhexB

/-- What is thrown where reading ends at line n. -/
abbrev failV (n : Int) : Value := .iface 52 (.agg #[.int .i64 n])
theorem must (b : Bool) (n : Int) (w : World) : Calls Tryz.prog 22 #[.bool b, .int .i64 n] w fun e w' => w = w' ∧ e = if b = true then .returned (.tuple #[]) else .panicked [{ v := failV n, recovered := false }] := by
  refine H.enter Tryz.func22 Tryz.ntmps22 rfl rfl ?_; dsimp only [H.args]
  cases b
  · repeat' (first | (refine CL.seq ?_) | (refine CL.region ?_) | (refine CL.condT rfl ?_) | (refine Gt.nil ?_; refine RW.nilw [0, 1, 5] ?_; dsimp only [H.keep, H.look, H.Fr.put, Nat.beq]) | (refine Gt.move ?_; refine RW.y (Y.move rfl) rfl ?_) | (refine Gt.not ?_; (refine RW.y (Y.notb rfl) rfl ?_)) | (refine Gt.iface ?_; refine RW.y (Y.iface rfl) rfl ?_) | (refine RW.y (Y.build (ps := [(0, _)]) rfl rfl) rfl ?_))
    refine RW.panic rfl ?_
    (skip); repeat' (refine Pn.then ?_)
    exact ⟨rfl, rfl, rfl⟩
  · repeat' (first | (refine CL.seq ?_) | (refine CL.region ?_) | (refine CL.skip ?_) | (refine CL.condF rfl ?_) | (refine CL.done ?_) | (refine Gt.nil ?_; refine RW.nilw [0, 1, 5] ?_; dsimp only [H.keep, H.look, H.Fr.put, Nat.beq]) | (refine Gt.move ?_; refine RW.y (Y.move rfl) rfl ?_) | (refine Gt.not ?_; (refine RW.y (Y.notb rfl) rfl ?_)))
    exact FQ.norm (FQ.none rfl rfl ⟨rfl, rfl⟩)

/-- What reading a line comes to. -/
def PinP (B : Nat) (n : Int) (o : Option Pn) (e : Ending) (w' : World) : Prop := match o with
  | none => e = .panicked [{ v := failV n, recovered := false }]
  | some p => ∃ x : Pm, x.d = p ∧ e = .returned (.agg (pmC x).toArray) ∧ pmK.D w' x ∧ ∀ g, live x.p = some g → B ≤ g
theorem pinB_num {s : T} (h : (splitB 32 s).length ≠ 3) : pinB s = none := by
  rw [pinB]; split
  · rename_i e; rw [e] at h; exact absurd rfl h
  · rfl
theorem pinB_three {s a b c : T} (h : splitB 32 s = [a, b, c]) : pinB s = if nameB a = true then (match parseV (cutB 45 b), unhexB c with
    | some v, some k => some ⟨a, v, k⟩
    | _, _ => none) else none := by rw [pinB, h]; rfl
theorem pin (s : T) (n : Int) (hl : s.length ≤ 1000000) (w : World) : Calls Tryz.prog 26 #[vs s, .int .i64 n] w fun e w' => K0 w w' ∧ PinP w.heap.size n (pinB s) e w' := by
  refine H.enter Tryz.func26 Tryz.ntmps26 rfl rfl ?_; dsimp only [H.args]
  repeat' (first | (refine CL.seq ?_) | (refine CL.region ?_))
  refine RW.alloc rfl (fun w1 hb1 hk1 hlt1 => ?_)
  repeat' (first | (refine CL.seq ?_) | (refine CL.region ?_) | (refine Gt.nil ?_; refine RW.nilw [0, 1, 4, 5, 6, 7, 8, 9] ?_; dsimp only [H.keep, H.look, H.Fr.put, Nat.beq]) | (refine Gt.move ?_; refine RW.y (Y.move rfl) rfl ?_))
  refine RW.fn rfl rfl ((split s 32 (by omega) w1).mono ?_)
  rintro e w2 ⟨v2, rfl, how2, hk2⟩
  have hs2 := Sl.of_own how2
  have hml : ∀ x ∈ splitB 32 s, x.length ≤ 1000000 := fun x hx => Nat.le_trans (splitB_mem_len 32 s x hx) (by omega)
  have hbr := hk2.at0 hb1
  have hK2 := hk1.trans0 hk2
  clear hb1
  have h3 := @pinB_num s
  have h4 := @pinB_three s
  generalize splitB 32 s = l at *
  repeat' (first | (refine CL.seq ?_) | (refine CL.region ?_) | (refine Gt.nil ?_; refine RW.nilw [0, 1, 4, 5, 6, 7, 8, 9] ?_; dsimp only [H.keep, H.look, H.Fr.put, Nat.beq]) | (refine Gt.move ?_; refine RW.y (Y.move rfl) rfl ?_) | (refine Gt.guard ?_; first | (refine RW.part rfl rfl rfl (fun _ => ?_) (fun _ => ?_) <;> try (exfalso; omega)) | (refine RW.on rfl rfl rfl ?_) | (refine RW.off1 rfl rfl rfl rfl rfl ?_)) | (refine Gt.idx ?_; (refine RW.elemSOn rfl rfl rfl rfl (by assumption) (by omega) (by omega) rfl rfl rfl ?_)) | (refine Gt.assign ?_; refine RW.y (Y.assign rfl) rfl ?_) | (refine Gt.eql ?_; refine RW.y (Y.eqi rfl rfl) rfl ?_) | (refine Gt.pick ?_; (refine RW.y (Y.pickF rfl rfl) rfl ?_)) | (refine Gt.len ?_; (refine RW.y (Y.lenx rfl (by assumption)) rfl ?_)))
  · rename_i hlen
    obtain ⟨x, y, z, rfl⟩ := len3 (show l.length = 3 by omega)
    have hx := hml x (by simp)
    have hy := hml y (by simp)
    have hz := hml z (by simp)
    rw [h4 rfl]
    refine RW.fn rfl rfl ((name x (by omega) w2).mono ?_)
    rintro e w3 ⟨rfl, rfl⟩
    cases hn : nameB x
    · repeat' (first | (refine Gt.move ?_; refine RW.y (Y.move rfl) rfl ?_) | (refine Gt.pick ?_; (refine RW.y (Y.pickT rfl rfl) rfl ?_)))
      refine RW.fn rfl rfl ((must false n w2).mono ?_)
      rintro e w3 ⟨rfl, rfl⟩
      (refine H.After.pn ?_); repeat' (refine Pn.then ?_)
      exact ⟨rfl, hK2, rfl⟩
    · repeat' (first | (refine Gt.move ?_; refine RW.y (Y.move rfl) rfl ?_) | (refine Gt.pick ?_; (refine RW.y (Y.pickT rfl rfl) rfl ?_)))
      refine RW.fn rfl rfl ((must true n w2).mono ?_)
      rintro e w3 ⟨rfl, rfl⟩
      repeat' (first | (refine CL.seq ?_) | (refine CL.region ?_) | (refine Gt.nil ?_; refine RW.nilw [0, 1, 4, 5, 6, 7, 8, 9] ?_; dsimp only [H.keep, H.look, H.Fr.put, Nat.beq]) | (refine Gt.move ?_; refine RW.y (Y.move rfl) rfl ?_) | (refine Gt.idx ?_; (refine RW.elemS rfl rfl rfl rfl (by assumption) (by omega) (by omega) ?_)))
      refine RW.fn rfl rfl ((parseN y (by omega) w2).mono ?_)
      rintro e w3 ⟨hk3, V, rfl, hV⟩
      obtain ⟨pv, hVe, hpv, hpl⟩ := hV
      subst hVe
      have hs3 := hs2.keep0 hk3
      have hz3 := hk3.size
      repeat' (first | (refine Gt.move ?_; refine RW.y (Y.move rfl) rfl ?_) | (refine Gt.extract ?_; refine RW.y (Y.extract rfl rfl) rfl ?_))
      refine RW.alloc rfl (fun w4 hb4 hk4 hlt4 => ?_)
      refine RW.storeBlock rfl rfl (by rfl) (verCells hpv.one) hb4 rfl (fun w5 hb5 hk5 => ?_)
      have hK5 : K0 w3 w5 := hk4.trans hk5 fun k h => .inr (by omega)
      have hs5 := hs3.keep0 hK5
      repeat' (first | (refine CL.seq ?_) | (refine CL.region ?_) | (refine Gt.nil ?_; refine RW.nilw [0, 1, 4, 5, 6, 7, 8, 9] ?_; dsimp only [H.keep, H.look, H.Fr.put, Nat.beq]) | (refine Gt.move ?_; refine RW.y (Y.move rfl) rfl ?_) | (refine Gt.idx ?_; (refine RW.elemS rfl rfl rfl rfl (by assumption) (by omega) (by omega) ?_)) | (refine Gt.assign ?_; refine RW.y (Y.assign rfl) rfl ?_))
      refine RW.fn rfl rfl ((unhex z (by omega) w5).mono ?_)
      rintro e w6 ⟨hk6, rfl⟩
      have hb56 := hk6.at0 hb5
      have hKs : ∃ ks : T, ks.length = 32 ∧ keyR z = .tuple #[.agg (bv ks).toArray, .bool (unhexB z).isSome] ∧ ∀ k, unhexB z = some k → ks = k := by
        refine ⟨(unhexB z).getD (List.replicate 32 0), ?_, rfl, fun k h => by rw [h]; rfl⟩
        cases h : unhexB z with
        | none => rfl
        | some k => exact (hex_unhex h).2
      obtain ⟨ks, hks, hkr, hkq⟩ := hKs
      rw [hkr]
      repeat' (first | (refine Gt.move ?_; refine RW.y (Y.move rfl) rfl ?_) | (refine Gt.extract ?_; refine RW.y (Y.extract rfl rfl) rfl ?_))
      refine RW.alloc rfl (fun w7 hb7 hk7 hlt7 => ?_)
      refine RW.storeBlock rfl rfl (by rw [List.size_toArray, List.length_map, hks]; rfl) (fun z hz => bv_one ks z (by simpa using hz)) hb7 rfl (fun w8 hb8 hk8 => ?_)
      have hK8 : K0 w6 w8 := hk7.trans hk8 fun k h => .inr (by omega)
      have hb58 := hK8.at0 hb56
      have hK38 := (hK5.trans0 hk6).trans0 hK8
      have hs8 := hs3.keep0 hK38
      have hK28 := hk3.trans0 hK38
      have hbr8 := hK28.at0 hbr
      repeat' (first | (refine CL.seq ?_) | (refine CL.region ?_) | (refine Gt.nil ?_; refine RW.nilw [0, 1, 4, 5, 6, 7, 8, 9] ?_; dsimp only [H.keep, H.look, H.Fr.put, Nat.beq]) | (refine Gt.move ?_; refine RW.y (Y.move rfl) rfl ?_) | (refine Gt.guard ?_; first | (refine RW.part rfl rfl rfl (fun _ => ?_) (fun _ => ?_) <;> try (exfalso; omega)) | (refine RW.on rfl rfl rfl ?_) | (refine RW.off1 rfl rfl rfl rfl rfl ?_)) | (refine Gt.assign ?_; refine RW.y (Y.assign rfl) rfl ?_) | (refine Gt.eql ?_; refine RW.y (Y.eqi rfl rfl) rfl ?_) | (refine Gt.pick ?_; first | (refine RW.y (Y.pickT rfl rfl) rfl ?_) | (refine RW.y (Y.pickF rfl rfl) rfl ?_)))
      · rename_i hc
        cases hv : parseV (cutB 45 y) with
        | none => rw [hv] at hc; exact absurd hc (by decide)
        | some vv =>
          rw [hv] at hpv hb58
          cases hu : unhexB z with
          | none =>
            refine RW.fn rfl rfl ((must false n w8).mono ?_)
            rintro e w9 ⟨rfl, rfl⟩
            (refine H.After.pn ?_); repeat' (refine Pn.then ?_)
            exact ⟨rfl, hK2.trans0 hK28, rfl⟩
          | some kk =>
            have hkk := hkq kk hu
            subst hkk
            refine RW.fn rfl rfl ((must true n w8).mono ?_)
            rintro e w9 ⟨rfl, rfl⟩
            repeat' (first | (refine CL.seq ?_) | (refine Gt.nil ?_; refine RW.nilw [0, 1, 4, 5, 6, 7, 8, 9] ?_; dsimp only [H.keep, H.look, H.Fr.put, Nat.beq]))
            refine CL.draw (fun w' => Kept (fun k => k = w.heap.size) w8 w') (by kernel_rfl) (fun w10 hheap hk10 => ?_)
            have hS : Kept (fun k => k = w.heap.size) w8 w10 := hk10.of0
            have hz2 := hK2.size
            have hz12 := hk2.size
            have hz5 := hK5.size
            have hz6 := hk6.size
            have hV8 : ∀ w', Kept (fun k => k = w.heap.size) w8 w' → w'.heap[w3.heap.size]? = some (.cells #[.int .i64 vv.a, .int .i64 vv.b, .int .i64 vv.c, pv] verT (0, 0)) := fun w' h => h.at hb58 (fun c => by have c' : w3.heap.size = w.heap.size := c; omega)
            have hH8 : ∀ w', Kept (fun k => k = w.heap.size) w8 w' → w'.heap[w6.heap.size]? = some (.cells (bv ks).toArray keyT (0, 0)) := fun w' h => h.at hb8 (fun c => by have c' : w6.heap.size = w.heap.size := c; omega)
            have hsS : ∀ w', Kept (fun k => k = w.heap.size) w8 w' → Sl w' 1 v2 [x, y, z].length (sv [x, y, z]) := fun w' h => hs8.keep h fun g hg c => by have := how2.lt g (live_own hg); omega
            have hpx : ∃ X : Pm, X.d = ⟨x, vv, ks⟩ ∧ X.p = pv := ⟨⟨⟨x, vv, ks⟩, pv, hks⟩, rfl, rfl⟩
            obtain ⟨X, hXd, hXp⟩ := hpx
            skip
            refine AW.take 0 rfl (by kernel_rfl) (by kernel_rfl) (by kernel_rfl) rfl (by assumption) (fun w hS => Y.move rfl) ?_
            refine AW.take 1 rfl (by kernel_rfl) (by kernel_rfl) (by kernel_rfl) rfl (by assumption) (fun w hS => Y.idx rfl rfl (hsS _ hS) (by omega) (by simp)) ?_
            refine AW.take 2 rfl (by kernel_rfl) (by kernel_rfl) (by kernel_rfl) rfl (by assumption) (fun w hS => Y.load1 rfl ((hsS _ hS).cell (j := 0) rfl)) ?_
            refine AW.take 3 rfl (by kernel_rfl) (by kernel_rfl) (by kernel_rfl) rfl (by assumption) (fun w hS => Y.loadBlock rfl (hV8 _ hS) rfl) ?_
            refine AW.take 4 rfl (by kernel_rfl) (by kernel_rfl) (by kernel_rfl) rfl (by assumption) (fun w hS => Y.loadBlock rfl (hH8 _ hS) (by rw [List.size_toArray, List.length_map, hks]; rfl)) ?_
            refine AW.take 5 rfl (by kernel_rfl) (by kernel_rfl) (by kernel_rfl) rfl (by assumption) (fun w hS => pmBuild X (by rw [hXd]; rfl) (by rw [hXd, hXp]; rfl) (by rw [hXd]; rfl)) ?_
            refine AW.next 6 rfl (by kernel_rfl) ?_
            refine RW.storeBlock rfl rfl (by rw [List.size_toArray, pmC_len]; rfl) (fun z hz => pmC_one (by rw [hXp]; exact hpv.one) z (by simpa using hz)) (hk10.at0 hbr8) rfl (fun w11 hb11 hk11 => ?_)
            refine RW.nil (Nm.then ⟨hS.trans hk11 fun k h => .inl h, ?_⟩)
            refine AW.donew [4] (by kernel_rfl) ?_
            dsimp only [H.keep, H.look, H.Fr.put, Nat.beq]
            repeat' ((refine CL.ret ?_))
            have hKall : K0 w w11 := (hK2.trans0 hK28).trans (hS.trans hk11 fun k h => .inl h) fun k h => .inr (by have h' : k = w.heap.size := h; omega)
            have hD : pmK.D w8 X := by
              show Sl w8 1 X.p X.d.v.pre.length (sv X.d.v.pre)
              rw [hXp, hXd]; exact hpv.keep0 hK38
            have hnl : ∀ g, live X.p = some g → g = w.heap.size → False := fun g hl c => by rw [hXp] at hl; have := hpl g hl; omega
            exact FQ.res1 (v := _) rfl rfl ⟨⟨_, rfl, load_block hb11 (pmC_len _)⟩, trivial⟩ (⟨hKall, X, hXd, rfl, pmK.keep _ _ _ _ hD (hS.trans hk11 fun k h => .inl h) (fun g hg hl c => hnl g hl c), fun g hg => by rw [hXp] at hg; have := hpl g hg; omega⟩)
      · rename_i hc
        cases hv : parseV (cutB 45 y) with
        | some vv => rw [hv] at hc; exact absurd rfl hc
        | none =>
          refine RW.fn rfl rfl ((must false n w8).mono ?_)
          rintro e w9 ⟨rfl, rfl⟩
          (refine H.After.pn ?_); repeat' (refine Pn.then ?_)
          exact ⟨rfl, hK2.trans0 hK28, rfl⟩
  · rename_i hlen
    rw [h3 (by omega)]
    refine RW.fn rfl rfl ((must false n w2).mono ?_)
    rintro e w3 ⟨rfl, rfl⟩
    (refine H.After.pn ?_); repeat' (refine Pn.then ?_)
    exact ⟨rfl, hK2, rfl⟩
end Go.Proofs.YtggodknolmdegaaGreatDoor.Lk

namespace Go.Proofs.YtggodknolmdegaaGreatDoor.H
open Go.RowKit
/-- A post that looks at few slots where there is a panic. -/
class PIn (Q : Post) (pl : outParam (List Nat)) : Prop where out : ∀ c f w, Q (.panic c) f w → Q (.panic c) ⟨f.n, f.ds, keep pl f.e⟩ w
instance {K : Fr → World → Prop} {Q : Post} {pl : List Nat} [h : PIn Q pl] : PIn (thenK K Q) pl := ⟨fun c f w hq => h.out c f w hq⟩
instance {k : Nat} {K : Fr → World → Prop} {Q : Post} {pl : List Nat} [h : PIn Q pl] : PIn (blockQ k K Q) pl := ⟨fun c f w hq => h.out c f w hq⟩
theorem look_keep_mem : ∀ (l : List Nat) (e : List (Nat × Value)) (t : Nat) (v : Value), look (keep l e) t = some v → t ∈ l
  | [], _, _, _, h => by simp [keep, look] at h
  | a :: r, e, t, v, h => by
    rw [keep] at h
    cases hl : look e a with
    | none => rw [hl] at h; exact List.mem_cons_of_mem _ (look_keep_mem r e t v h)
    | some u =>
      rw [hl] at h
      simp only [look] at h
      cases hb : Nat.beq a t with
      | true => rw [Nat.eq_of_beq_eq_true hb]; exact List.mem_cons_self
      | false => rw [hb] at h; exact List.mem_cons_of_mem _ (look_keep_mem r e t v h)
theorem put_other {a : Act} {d t : Nat} {v : Value} (h : t ≠ d) : (a.put (some d) v).tmps.getD t undef = a.tmps.getD t undef := by
  simp [Act.put, Array.getD_eq_getD_getElem?, Array.getElem?_setIfInBounds, Ne.symm h]
theorem PIn.lift {Q : Post} {pl : List Nat} [h : PIn Q pl] {d : Nat} (hpl : pl.all (fun t => !(Nat.beq t d)) = true) (v : Value) : ∀ c a w, lift Q (.panic c) (a.put (some d) v) w → lift Q (.panic c) a w := by
  intro c a w ⟨f, hf, hq⟩
  refine ⟨⟨f.n, f.ds, keep pl f.e⟩, ⟨?_, hf.defers, fun t u hu => ?_⟩, h.out c f w hq⟩
  · have := hf.size; simpa [Act.put] using this
  · have hm := look_keep_mem pl f.e t u hu
    have hl := look_keep pl f.e t u hu
    have hne : t ≠ d := fun c => by
      have := List.all_eq_true.1 hpl t hm
      rw [c, beq_self] at this; cases this
    rw [← put_other (v := v) hne]
    exact hf.slot t u hl
/-- The end of a body that defers, and whose results lie in few slots. -/
def DK (P : Program) (fn : Func) (R : Ending → World → Prop) (pl : List Nat) : Post
  | .normal, f, w | .ret, f, w => ∀ a, Ag f a → Leaves P fn a.tmps R f.ds .returning w
  | .panic chain, f, w => ∀ a, Ag ⟨f.n, f.ds, keep pl f.e⟩ a → Leaves P fn a.tmps R f.ds (.panicking chain) w
  | _, _, _ => False
theorem keep_keep : ∀ (l : List Nat) (e : List (Nat × Value)) (t : Nat) (v : Value), look (keep l (keep l e)) t = some v → look (keep l e) t = some v := fun l e t v h => look_keep l (keep l e) t v h
theorem look_keep_of : ∀ (l : List Nat) (e : List (Nat × Value)) (t : Nat) (v : Value), t ∈ l → look e t = some v → look (keep l e) t = some v
  | [], _, _, _, h, _ => by cases h
  | a :: r, e, t, v, h, hv => by
    rw [keep]
    by_cases hat : a = t
    · subst hat; rw [hv]; simp [look, beq_self]
    · have hr : t ∈ r := (List.mem_cons.1 h).resolve_left fun c => hat c.symm
      have ih := look_keep_of r e t v hr hv
      cases hl : look e a with
      | none => exact ih
      | some u => simp only [look, beq_ne hat]; exact ih
instance {P : Program} {fn : Func} {R : Ending → World → Prop} {pl : List Nat} : PIn (DK P fn R pl) pl := ⟨fun c f w hq a ha => hq a ⟨ha.size, ha.defers, fun t v hv => ha.slot t v (look_keep_of pl _ t v (look_keep_mem pl f.e t v hv) hv)⟩⟩
theorem enterDK (pl : List Nat) {P : Program} {w : World} {k n : Nat} {fn : Func} {c : Code} {l : List Value} {R : Ending → World → Prop} (hf : P.funcs[k]? = some fn) (hn : fn.ntmps = n) (hb : fn.body = some c)
    (hl : Nat.ble l.length n = true) (h : CL none P (DK P fn R pl) [c] ⟨n, [], args 0 l⟩ w) : Calls P k l.toArray w R := by
  refine enterD hf hn hb hl ?_
  refine CW.mono (CL.one h) fun x f w q => ?_
  cases x with
  | normal => exact q
  | ret => exact q
  | panic ch => exact fun a ha => q a ⟨ha.size, ha.defers, fun t v hv => ha.slot t v (look_keep pl f.e t v hv)⟩
  | _ => exact q.elim
section
variable {P : Program} {ops : Array Oper} {Q : Post} {f : Fr} {w : World} {S : World → Prop}
theorem AD.take (i : Nat) {op : Op} {ty : TypeId} {pos : String} {af : Array Edge} {d : Nat} {v : Value} {n : Nat} {l : Array Bool} (hi : ops[i]? = some { dst := some d, op := op, type := ty, pos := pos, after := af, guard := none }) (hs : Region.noSelect ops = true) (hf : Region.free .any ops l i = true) (hr : (Region.ready .any ops l).contains i = true)
    {pl : List Nat} [PIn Q pl] (hpl : pl.all (fun t => !(Nat.beq t d)) = true) (hd : Nat.blt d f.n = true) (hS : S w) (hy : ∀ w, S w → Yd P f { dst := some d, op := op, type := ty, pos := pos, after := af, guard := none } v w) (k : AW P ops Q S n (l.setIfInBounds i true) (f.put d v) w) : AW P ops Q S (n + 1) l f w := by
  intro a ha
  exact wpAnyH_take hi hs hf hr (PIn.lift hpl _) (.inl ⟨by simp [Region.wanted], fun w' hw' => hy w' hw' a ha⟩) hS (k _ (ha.put v hd))

theorem AD.takeOn (i : Nat) {op : Op} {ty : TypeId} {pos : String} {af : Array Edge} {d j t : Nat} {b : Bool} {v : Value} {n : Nat} {l : Array Bool} (hi : ops[i]? = some { dst := some d, op := op, type := ty, pos := pos, after := af, guard := some (j, b) }) (hs : Region.noSelect ops = true) (hf : Region.free .any ops l i = true) (hr : (Region.ready .any ops l).contains i = true)
    {pl : List Nat} [PIn Q pl] (hpl : pl.all (fun t => !(Nat.beq t d)) = true) (hj : (ops[j]?).bind (·.dst) = some t) (hn : Nat.blt t f.n = true) (hv : look f.e t = some (.bool b)) (hd : Nat.blt d f.n = true) (hS : S w) (hy : ∀ w, S w → Yd P f { dst := some d, op := op, type := ty, pos := pos, after := af, guard := none } v w) (k : AW P ops Q S n (l.setIfInBounds i true) (f.put d v) w) : AW P ops Q S (n + 1) l f w := by
  intro a ha
  exact wpAnyH_take hi hs hf hr (PIn.lift hpl _) (.inl ⟨by simp [Region.wanted, yields ha hj hn hv], fun w' hw' => hy w' hw' a ha⟩) hS (k _ (ha.put v hd))

theorem AD.takeOff (i : Nat) {op : Op} {ty : TypeId} {pos : String} {af : Array Edge} {d j t : Nat} {b c : Bool} {n : Nat} {l : Array Bool} (hi : ops[i]? = some { dst := some d, op := op, type := ty, pos := pos, after := af, guard := some (j, b) }) (hs : Region.noSelect ops = true) (hf : Region.free .any ops l i = true) (hr : (Region.ready .any ops l).contains i = true)
    {pl : List Nat} [PIn Q pl] (hpl : pl.all (fun t => !(Nat.beq t d)) = true) (hj : (ops[j]?).bind (·.dst) = some t) (hn : Nat.blt t f.n = true) (hv : look f.e t = some (.bool c)) (hbc : (!c) = b) (hd : Nat.blt d f.n = true) (hS : S w) (k : AW P ops Q S n (l.setIfInBounds i true) (f.put d undef) w) : AW P ops Q S (n + 1) l f w := by
  intro a ha
  subst hbc
  exact wpAnyH_take hi hs hf hr (PIn.lift hpl _) (.inr ⟨by cases c <;> simp [Region.wanted, yields ha hj hn hv], rfl⟩) hS (k _ (ha.put undef hd))

theorem AD.takeOffU (i : Nat) {op : Op} {ty : TypeId} {pos : String} {af : Array Edge} {d j t : Nat} {b : Bool} {n : Nat} {l : Array Bool} (hi : ops[i]? = some { dst := some d, op := op, type := ty, pos := pos, after := af, guard := some (j, b) }) (hs : Region.noSelect ops = true) (hf : Region.free .any ops l i = true) (hr : (Region.ready .any ops l).contains i = true)
    {pl : List Nat} [PIn Q pl] (hpl : pl.all (fun t => !(Nat.beq t d)) = true) (hj : (ops[j]?).bind (·.dst) = some t) (hn : Nat.blt t f.n = true) (hv : look f.e t = some undef) (hd : Nat.blt d f.n = true) (hS : S w) (k : AW P ops Q S n (l.setIfInBounds i true) (f.put d undef) w) : AW P ops Q S (n + 1) l f w := by
  intro a ha
  exact wpAnyH_take hi hs hf hr (PIn.lift hpl _) (.inr ⟨by cases b <;> simp [Region.wanted, yieldsU ha hj hn hv], rfl⟩) hS (k _ (ha.put undef hd))
end
end Go.Proofs.YtggodknolmdegaaGreatDoor.H

namespace Go.Proofs.YtggodknolmdegaaGreatDoor.Lk
open Go.RowKit H S Ve
attribute [local irreducible] H.CL H.RW H.CW H.Yd H.thenK H.blockQ Go.Calls keyAt unhexB

/-- the post of a deferred call that leaves its caller's frames as they are -/
def SQ (R : Ending → World → Prop) : Post
  | .normal, f, w | .ret, f, w => f.ds = [] ∧ R (.returned (.tuple #[])) w
  | _, _, _ => False

instance {R : Ending → World → Prop} : PI (SQ R) := ⟨fun _ _ _ _ _ h => h⟩

theorem catchIdle (p q r : Addr) (w : World) : CallsD Tryz.prog 21 #[.pointer (some p), .pointer (some q), .pointer (some r)] .returning w fun e u' w' => e = .returned (.tuple #[]) ∧ u' = .returning ∧ w = w' := by
  refine callsD_of_wpS Tryz.func21 rfl fun c₀ cs hu => ?_
  apply wpS_seq
  apply wpS_region
  simp [wpOpsS, go_sem, recoverD, hu, Tryz.ntmps21, Exit.thenS]
  refine wpS_cl (Q := SQ fun e w' => e = .returned (.tuple #[]) ∧ w = w') (f := ⟨19, [], [(3, .nilIface)]⟩) ?_ (Ag.of (by simp) rfl (by simp)) ?_
  · skip
    repeat' (first | (refine CL.seq ?_) | (refine CL.region ?_) | (refine CL.skip ?_) | (refine CL.condF rfl ?_) | (refine CL.done ?_) | (refine Gt.nil ?_; refine RW.nilw [0, 1, 2, 3, 4, 5, 8, 15] ?_; dsimp only [H.keep, H.look, H.Fr.put, Nat.beq]) | (refine RW.y (Y.neNil rfl) rfl ?_) | (refine Gt.move ?_; refine RW.y (Y.move rfl) rfl ?_))
    exact ⟨rfl, rfl, rfl⟩
  · intro e f a w' ha q
    have hres := results_none (fn := Tryz.f21) rfl a.tmps Tryz.prog w'
    cases e with
    | normal => exact ⟨ha.defers.trans q.1, .returning, by rw [← hu], _, hres, q.2.1, rfl, q.2.2⟩
    | ret => exact ⟨ha.defers.trans q.1, .returning, by rw [← hu], _, hres, q.2.1, rfl, q.2.2⟩
    | _ => exact q.elim

set_option maxHeartbeats 400000 in
theorem catchFail (b0 b1 b2 : Nat) (n : Int) (u0 u1 u2 : Value) (e0 e1 e2 : TypeId) (w : World) (h0 : w.heap[b0]? = some (.cells #[u0] e0 (0, 0))) (h1 : w.heap[b1]? = some (.cells #[u1] e1 (0, 0))) (h2 : w.heap[b2]? = some (.cells #[u2] e2 (0, 0))) (d01 : b0 ≠ b1) (d02 : b0 ≠ b2) (d12 : b1 ≠ b2) :
    CallsD Tryz.prog 21 #[.pointer (some ⟨b0, 0, none⟩), .pointer (some ⟨b1, 0, none⟩), .pointer (some ⟨b2, 0, none⟩)] (.panicking [{ v := failV n, recovered := false }]) w fun e u' w' => e = .returned (.tuple #[]) ∧ u' = .panicking [{ v := failV n, recovered := true }] ∧
      w'.heap[b0]? = some (.cells #[.slice none 0 0] e0 (0, 0)) ∧ w'.heap[b1]? = some (.cells #[.int .i64 n] e1 (0, 0)) ∧ w'.heap[b2]? = some (.cells #[.int .i64 63] e2 (0, 0)) ∧ Kept (fun k => k = b0 ∨ k = b1 ∨ k = b2) w w' := by
  refine callsD_of_wpS Tryz.func21 rfl fun c₀ cs hu => ?_
  apply wpS_seq
  apply wpS_region
  simp [wpOpsS, go_sem, recoverD, hu, Tryz.ntmps21, Exit.thenS]
  refine wpS_cl (Q := SQ fun e w' => e = .returned (.tuple #[]) ∧ w'.heap[b0]? = some (.cells #[.slice none 0 0] e0 (0, 0)) ∧ w'.heap[b1]? = some (.cells #[.int .i64 n] e1 (0, 0)) ∧ w'.heap[b2]? = some (.cells #[.int .i64 63] e2 (0, 0)) ∧ Kept (fun k => k = b0 ∨ k = b1 ∨ k = b2) w w') (f := ⟨19, [], [(0, .pointer (some ⟨b0, 0, none⟩)), (1, .pointer (some ⟨b1, 0, none⟩)), (2, .pointer (some ⟨b2, 0, none⟩)), (3, failV n)]⟩) ?_ (Ag.of (by simp) rfl (by simp)) ?_
  · skip
    repeat' (first | (refine CL.seq ?_) | (refine CL.region ?_) | (refine CL.condT rfl ?_) | (refine Gt.nil ?_; refine RW.nilw [0, 1, 2, 3, 4, 5, 8, 15] ?_; dsimp only [H.keep, H.look, H.Fr.put, Nat.beq]) | (refine RW.y (Y.neHeld rfl rfl) rfl ?_) | (refine RW.y (Y.assert rfl) rfl ?_) | (refine Gt.move ?_; refine RW.y (Y.move rfl) rfl ?_) | (refine Gt.extract ?_; refine RW.y (Y.extract rfl rfl) rfl ?_))
    refine RW.alloc rfl (fun w1 hw1 hk1 hlt1 => ?_)
    refine RW.storeN (n := 1) (fun w => H.run_sizeOf (P := Tryz.prog) (t := 52) w) rfl rfl rfl (by simp [Value.cells, Value.oneCell']) hw1 (by simp [Value.cells]) (fun w2 hw2 hk2 => ?_)
    have hK2 : K0 w w2 := hk1.trans hk2 fun k h => .inr (by omega)
    have g0 := hK2.at0 h0
    have g1 := hK2.at0 h1
    have g2 := hK2.at0 h2
    have hl0 := lt_of_at h0
    have hl1 := lt_of_at h1
    have hl2 := lt_of_at h2
    repeat' (first | (refine CL.seq ?_) | (refine CL.region ?_) | (refine CL.skip ?_) | (refine CL.condF rfl ?_) | (refine Gt.nil ?_; refine RW.nilw [0, 1, 2, 3, 4, 5, 8, 15] ?_; dsimp only [H.keep, H.look, H.Fr.put, Nat.beq]) | (refine Gt.move ?_; refine RW.y (Y.move rfl) rfl ?_) | (refine Gt.assign ?_; refine RW.y (Y.assign rfl) rfl ?_) | (refine Gt.not ?_; (refine RW.y (Y.notb rfl) rfl ?_)))
    have hw2' : w2.heap[w.heap.size]? = some (.cells #[.int .i64 n] 52 (0, 0)) := hw2
    clear hw2
    refine CL.draw (fun w' => Kept (fun k => k = b0 ∨ k = b1 ∨ k = b2) w2 w') (by kernel_rfl) (fun w3 hheap hk3 => ?_)
    have hS : Kept (fun k => k = b0 ∨ k = b1 ∨ k = b2) w2 w3 := hk3.of0
    have hat : ∀ w', Kept (fun k => k = b0 ∨ k = b1 ∨ k = b2) w2 w' → w'.heap[w.heap.size]? = some (.cells #[.int .i64 n] 52 (0, 0)) := fun w' h => h.at hw2' fun c => by rcases c with c | c | c <;> omega
    have f0 := hk3.at0 g0
    have f1 := hk3.at0 g1
    have f2 := hk3.at0 g2
    skip
    refine AW.take 0 rfl (by kernel_rfl) (by kernel_rfl) (by kernel_rfl) rfl (by assumption) (fun w hS => Y.fieldAddr rfl (by rfl)) ?_
    refine AW.take 1 rfl (by kernel_rfl) (by kernel_rfl) (by kernel_rfl) rfl (by assumption) (fun w hS => Y.loadB rfl (hat _ hS) rfl) ?_
    refine AW.next 2 rfl (by kernel_rfl) ?_
    refine RW.storeB rfl rfl rfl f0 (by simp) (fun w4 i0 hk4 => ?_)
    have hS := hS.trans hk4 fun k h => .inl (.inl h)
    refine RW.nil (Nm.then ⟨hS, ?_⟩)
    refine AW.next 3 rfl (by kernel_rfl) ?_
    refine RW.storeB rfl rfl rfl (hk4.at f1 (Ne.symm d01)) (by simp) (fun w5 i1 hk5 => ?_)
    have hS := hS.trans hk5 fun k h => .inl (.inr (.inl h))
    refine RW.nil (Nm.then ⟨hS, ?_⟩)
    refine AW.next 4 rfl (by kernel_rfl) ?_
    refine RW.storeB rfl rfl rfl (hk5.at (hk4.at f2 (Ne.symm d02)) (Ne.symm d12)) (by simp) (fun w6 i2 hk6 => ?_)
    have hS := hS.trans hk6 fun k h => .inl (.inr (.inr h))
    refine RW.nil (Nm.then ⟨hS, ?_⟩)
    refine AW.donew [] (by kernel_rfl) ?_
    dsimp only [H.keep, H.look, H.Fr.put, Nat.beq]
    repeat' ((refine CL.done ?_))
    have j0 : w6.heap[b0]? = some (.cells #[.slice none 0 0] e0 (0, 0)) := hk6.at (hk5.at i0 d01) d02
    have j1 : w6.heap[b1]? = some (.cells #[.int .i64 n] e1 (0, 0)) := hk6.at i1 d12
    exact ⟨rfl, rfl, j0, j1, i2, (Kept.of0 hK2).trans hS fun k h => .inl h⟩
  · intro e f a w' ha q
    have hres := results_none (fn := Tryz.f21) rfl a.tmps Tryz.prog w'
    cases e with
    | normal => exact ⟨ha.defers.trans q.1, _, rfl, _, hres, q.2.1, rfl, q.2.2⟩
    | ret => exact ⟨ha.defers.trans q.1, _, rfl, _, hres, q.2.1, rfl, q.2.2⟩
    | _ => exact q.elim

/-- The deferred call of Parse. -/
abbrev dfr (b0 b1 b2 : Nat) : Deferred := { target := .fn (.func 21) #[.pointer (some ⟨b0, 0, none⟩), .pointer (some ⟨b1, 0, none⟩), .pointer (some ⟨b2, 0, none⟩)], args := #[] }
/-- Reading ends at line n. -/
theorem parseFail {R : Ending → World → Prop} (b0 b1 b2 : Nat) (n : Int) (u0 u1 u2 : Value) (e0 e1 e2 : TypeId) (f : Fr) (w : World) (hf : f.ds = [dfr b0 b1 b2]) (s0 : H.look f.e 2 = some (.pointer (some ⟨b0, 0, none⟩))) (s1 : H.look f.e 3 = some (.pointer (some ⟨b1, 0, none⟩))) (s2 : H.look f.e 4 = some (.pointer (some ⟨b2, 0, none⟩)))
    (h0 : w.heap[b0]? = some (.cells #[u0] e0 (0, 0))) (h1 : w.heap[b1]? = some (.cells #[u1] e1 (0, 0))) (h2 : w.heap[b2]? = some (.cells #[u2] e2 (0, 0))) (d01 : b0 ≠ b1) (d02 : b0 ≠ b2) (d12 : b1 ≠ b2)
    (hR : ∀ w', Kept (fun k => k = b0 ∨ k = b1 ∨ k = b2) w w' → R (.returned (.tuple #[.slice none 0 0, .int .i64 n, .int .i64 63])) w') : DK Tryz.prog Tryz.f9 R [2, 3, 4] (.panic [{ v := failV n, recovered := false }]) f w := by
  show ∀ a, Ag _ a → _
  intro a ha
  have s0 := look_keep_of [2, 3, 4] f.e 2 _ (by simp) s0
  have s1 := look_keep_of [2, 3, 4] f.e 3 _ (by simp) s1
  have s2 := look_keep_of [2, 3, 4] f.e 4 _ (by simp) s2
  rw [hf]
  refine leaves_cons (f := 21) (args := #[.pointer (some ⟨b0, 0, none⟩), .pointer (some ⟨b1, 0, none⟩), .pointer (some ⟨b2, 0, none⟩)]) (by simp) (by simp [invoke, (inferInstance : Ent Tryz.prog 21).out]) ?_
  refine (catchFail b0 b1 b2 n u0 u1 u2 e0 e1 e2 w h0 h1 h2 d01 d02 d12).mono ?_
  rintro e4 u4 w4 ⟨rfl, rfl, j0, j1, j2, hkk⟩
  exact ⟨_, results_list (rs := [.cell 2 _, .cell 3 _, .cell 4 _]) (vs := [_, _, _]) rfl ⟨⟨_, s0, load_block1 j0⟩, ⟨_, s1, load_block1 j1⟩, ⟨_, s2, load_block1 j2⟩, trivial⟩ ha, hR w4 hkk⟩
/-- Reading ends well. -/
theorem parseDone {R : Ending → World → Prop} (b0 b1 b2 : Nat) (u0 u1 u2 : Value) (e0 e1 e2 : TypeId) (f : Fr) (w : World) (hf : f.ds = [dfr b0 b1 b2]) (s0 : H.look f.e 2 = some (.pointer (some ⟨b0, 0, none⟩))) (s1 : H.look f.e 3 = some (.pointer (some ⟨b1, 0, none⟩))) (s2 : H.look f.e 4 = some (.pointer (some ⟨b2, 0, none⟩)))
    (h0 : w.heap[b0]? = some (.cells #[u0] e0 (0, 0))) (h1 : w.heap[b1]? = some (.cells #[u1] e1 (0, 0))) (h2 : w.heap[b2]? = some (.cells #[u2] e2 (0, 0)))
    (hR : R (.returned (.tuple #[u0, u1, u2])) w) : DK Tryz.prog Tryz.f9 R [2, 3, 4] .ret f w := by
  show ∀ a, Ag f a → _
  intro a ha
  rw [hf]
  refine leaves_cons (f := 21) (args := #[.pointer (some ⟨b0, 0, none⟩), .pointer (some ⟨b1, 0, none⟩), .pointer (some ⟨b2, 0, none⟩)]) (by simp) (by simp [invoke, (inferInstance : Ent Tryz.prog 21).out]) ?_
  refine (catchIdle _ _ _ w).mono ?_
  rintro e4 u4 w4 ⟨rfl, rfl, rfl⟩
  exact ⟨_, results_list (rs := [.cell 2 _, .cell 3 _, .cell 4 _]) (vs := [_, _, _]) rfl ⟨⟨_, s0, load_block1 h0⟩, ⟨_, s1, load_block1 h1⟩, ⟨_, s2, load_block1 h2⟩, trivial⟩ ha, hR⟩
end Go.Proofs.YtggodknolmdegaaGreatDoor.Lk

namespace Go.Proofs.YtggodknolmdegaaGreatDoor.Lk
open Go.RowKit H S Ve
attribute [local irreducible] H.CL H.RW H.CW H.Yd H.thenK H.blockQ Go.Calls keyAt unhexB

theorem lock_long {s : T} (h : ¬ (s.length ≤ 65536 ∧ (s ≠ [] ∧ s.getLastD 0 = 10))) : lockB s = ([], 0, 63) := by
  rw [lockB, if_neg]
  rintro ⟨a, b, c⟩
  exact h ⟨a, (fun e => by rw [e] at b; cases b), b⟩
theorem lock_head {s : T} (h : (splitB 10 s.dropLast).headD [] ≠ headL) : lockB s = ([], 0, 63) := by
  rw [lockB, if_neg]
  rintro ⟨a, b, c⟩
  exact h c
theorem lock_rest {s : T} (h : s.length ≤ 65536 ∧ (s ≠ [] ∧ s.getLastD 0 = 10)) (h2 : (splitB 10 s.dropLast).headD [] = headL) : lockB s = rdPins (splitB 10 s.dropLast).tail [] 2 := by
  rw [lockB, if_pos ⟨h.1, h.2.2, h2⟩]
theorem headD_getD (l : List T) : l.headD [] = l.getD 0 [] := by cases l <;> rfl
theorem rd_step {l : List T} {i : Nat} (h : i < l.length) (acc : List Pn) (n : Nat) : rdPins (l.drop i) acc n = match pinB (l.getD i []) with
    | none => ([], (n : Int), 63)
    | some p => if acc.length < 200 ∧ (acc = [] ∨ Op.bytesLess (lastName acc) p.name = true) then rdPins (l.drop (i + 1)) (acc ++ [p]) (n + 1) else ([], (n : Int), 63) := by
  rw [List.drop_eq_getElem_cons h, rdPins, List.getD_eq_getElem?_getD, List.getElem?_eq_getElem h]
  rfl
/-- What reading a lockfile comes to. -/
def LockP (r : List Pn × Int × Int) (e : Ending) (w' : World) : Prop := ∃ (u : Value) (L : List Pm), e = .returned (.tuple #[u, .int .i64 r.2.1, .int .i64 r.2.2]) ∧ GA pmK w' u L ∧ L.map (·.d) = r.1
theorem LockP.bad (n : Int) (w : World) : LockP ([], n, 63) (.returned (.tuple #[.slice none 0 0, .int .i64 n, .int .i64 63])) w := ⟨_, [], rfl, ⟨Sl.nil _ _, fun x hx => by cases hx⟩, rfl⟩
theorem last_name (acc : List Pm) (h : acc ≠ []) : lastName (acc.map (·.d)) = (acc.getD (acc.length - 1) default).d.name := by
  rcases List.eq_nil_or_concat acc with e | ⟨l, x, rfl⟩
  · exact absurd e h
  · simp [lastName, List.getLastD_concat]

set_option maxHeartbeats 1000000 in
theorem parse (s : T) (hl : s.length ≤ 1000000) (w : World) : Calls Tryz.prog 9 #[vs s] w fun e w' => K0 w w' ∧ LockP (lockB s) e w' := by
  refine H.enterDK [2, 3, 4] Tryz.func9 Tryz.ntmps9 rfl rfl ?_; dsimp only [H.args]
  repeat' (first | (refine CL.seq ?_) | (refine CL.region ?_) | (refine CL.skip ?_) | (refine CL.condP rfl (fun _ => ?_) (fun _ => ?_) <;> try (exfalso; omega)) | (refine CL.condT rfl ?_) | (refine CL.condF rfl ?_) | (refine CL.cond rfl (fun _ => ?_) (fun _ => ?_)) | (refine CL.block ?_) | (refine CL.exit ?_) | (refine Ex.then ?_) | (refine Ex.hit ?_) | (refine Ex.miss rfl ?_) | (refine CL.ret ?_) | (refine Rt.then ?_) | (refine Rt.block ?_) | (refine Pn.then ?_) | (refine Pn.block ?_) | (refine CL.done ?_) | (refine Nm.block ?_) | (refine Nm.then ?_) | (refine Gt.nil ?_; refine RW.nilw [0, 2, 3, 4, 5, 6, 7, 8, 27, 28, 29, 30] ?_; dsimp only [H.keep, H.look, H.Fr.put, Nat.beq]) | (refine Gt.move ?_; refine RW.y (Y.move rfl) rfl ?_) | (refine Gt.guard ?_; first | (refine RW.part rfl rfl rfl (fun _ => ?_) (fun _ => ?_) <;> try (exfalso; omega)) | (refine RW.on rfl rfl rfl ?_) | (refine RW.off1 rfl rfl rfl rfl rfl ?_) | (refine RW.off rfl rfl rfl rfl rfl ?_) | (refine RW.offu rfl rfl rfl rfl ?_) | (refine RW.partb rfl rfl rfl (fun _ => ?_) (fun _ => ?_))) | (refine Gt.load ?_; first | (refine RW.y (Y.loadB rfl (by assumption) rfl) rfl ?_) | (refine RW.y (Y.loadBlock rfl (by assumption) rfl) rfl ?_)) | (refine Gt.len ?_; first | (refine RW.y (Y.lenv rfl) rfl ?_) | (refine RW.y (Y.lenx rfl (by assumption)) rfl ?_) | (refine RW.y (Y.lens rfl) rfl ?_)) | (refine Gt.pick ?_; first | (refine RW.y (Y.pickT rfl rfl) rfl ?_) | (refine RW.y (Y.pickF rfl rfl) rfl ?_)) | (refine Gt.assign ?_; refine RW.y (Y.assign rfl) rfl ?_) | (refine Gt.add ?_; refine RW.y (Y.add64 rfl rfl (by omega) (by omega)) rfl ?_) | (refine Gt.idx ?_; first | (refine RW.elemS rfl rfl rfl rfl (by assumption) (by omega) (by omega) ?_) | (refine RW.elemF rfl rfl rfl rfl rfl rfl (by assumption) (fun _ => by rfl) rfl (by omega) (by omega) (by rfl) (fun _ _ => ?_)) | (refine RW.elemA rfl rfl rfl rfl (by assumption) (fun _ => by rfl) rfl (by omega) (by omega) (fun _ => ?_))) | (refine Gt.lss ?_; first | (refine RW.y (Y.lss rfl rfl) rfl ?_) | (refine RW.y (Y.lts rfl rfl) rfl ?_)) | (refine Gt.fieldAddr ?_; refine RW.y (Y.fieldAddr rfl (by rfl)) rfl ?_) | (refine Gt.makeFunc ?_; refine RW.y (Y.makeFunc rfl rfl) rfl ?_) | (refine Gt.leq ?_; refine RW.y (Y.leq rfl rfl) rfl ?_) | (refine Gt.eql ?_; first | (refine RW.y (Y.eqs rfl rfl) rfl ?_) | (refine RW.y (Y.eqi rfl rfl) rfl ?_)) | (refine Gt.sub ?_; refine RW.y (Y.sub64 rfl rfl (by omega) (by omega)) rfl ?_))
  refine RW.alloc rfl (fun w1 hb1 hk1 hlt1 => ?_)
  refine RW.alloc rfl (fun w2 hb2 hk2 hlt2 => ?_)
  refine RW.alloc rfl (fun w3 hb3 hk3 hlt3 => ?_)
  have i0 := hk3.at0 (hk2.at0 hb1)
  have i1 := hk3.at0 hb2
  have i2 := hb3
  have hKc := (hk1.trans0 hk2).trans0 hk3
  have hK4 := hKc
  clear hb1 hb2 hb3
  repeat' (first | (refine CL.seq ?_) | (refine CL.region ?_) | (refine CL.skip ?_) | (refine CL.condP rfl (fun _ => ?_) (fun _ => ?_) <;> try (exfalso; omega)) | (refine CL.condT rfl ?_) | (refine CL.condF rfl ?_) | (refine CL.cond rfl (fun _ => ?_) (fun _ => ?_)) | (refine CL.block ?_) | (refine CL.exit ?_) | (refine Ex.then ?_) | (refine Ex.hit ?_) | (refine Ex.miss rfl ?_) | (refine CL.ret ?_) | (refine Rt.then ?_) | (refine Rt.block ?_) | (refine Pn.then ?_) | (refine Pn.block ?_) | (refine CL.done ?_) | (refine Nm.block ?_) | (refine Nm.then ?_) | (refine Gt.nil ?_; refine RW.nilw [0, 2, 3, 4, 5, 6, 7, 8, 27, 28, 29, 30] ?_; dsimp only [H.keep, H.look, H.Fr.put, Nat.beq]) | (refine Gt.move ?_; refine RW.y (Y.move rfl) rfl ?_) | (refine Gt.guard ?_; first | (refine RW.part rfl rfl rfl (fun _ => ?_) (fun _ => ?_) <;> try (exfalso; omega)) | (refine RW.on rfl rfl rfl ?_) | (refine RW.off1 rfl rfl rfl rfl rfl ?_) | (refine RW.off rfl rfl rfl rfl rfl ?_) | (refine RW.offu rfl rfl rfl rfl ?_) | (refine RW.partb rfl rfl rfl (fun _ => ?_) (fun _ => ?_))) | (refine Gt.load ?_; first | (refine RW.y (Y.loadB rfl (by assumption) rfl) rfl ?_) | (refine RW.y (Y.loadBlock rfl (by assumption) rfl) rfl ?_)) | (refine Gt.len ?_; first | (refine RW.y (Y.lenv rfl) rfl ?_) | (refine RW.y (Y.lenx rfl (by assumption)) rfl ?_) | (refine RW.y (Y.lens rfl) rfl ?_)) | (refine Gt.pick ?_; first | (refine RW.y (Y.pickT rfl rfl) rfl ?_) | (refine RW.y (Y.pickF rfl rfl) rfl ?_)) | (refine Gt.assign ?_; refine RW.y (Y.assign rfl) rfl ?_) | (refine Gt.add ?_; refine RW.y (Y.add64 rfl rfl (by omega) (by omega)) rfl ?_) | (refine Gt.idx ?_; first | (refine RW.elemS rfl rfl rfl rfl (by assumption) (by omega) (by omega) ?_) | (refine RW.elemF rfl rfl rfl rfl rfl rfl (by assumption) (fun _ => by rfl) rfl (by omega) (by omega) (by rfl) (fun _ _ => ?_)) | (refine RW.elemA rfl rfl rfl rfl (by assumption) (fun _ => by rfl) rfl (by omega) (by omega) (fun _ => ?_))) | (refine Gt.lss ?_; first | (refine RW.y (Y.lss rfl rfl) rfl ?_) | (refine RW.y (Y.lts rfl rfl) rfl ?_)) | (refine Gt.fieldAddr ?_; refine RW.y (Y.fieldAddr rfl (by rfl)) rfl ?_) | (refine Gt.makeFunc ?_; refine RW.y (Y.makeFunc rfl rfl) rfl ?_) | (refine Gt.leq ?_; refine RW.y (Y.leq rfl rfl) rfl ?_) | (refine Gt.eql ?_; first | (refine RW.y (Y.eqs rfl rfl) rfl ?_) | (refine RW.y (Y.eqi rfl rfl) rfl ?_)) | (refine Gt.sub ?_; refine RW.y (Y.sub64 rfl rfl (by omega) (by omega)) rfl ?_))
  refine RW.defer rfl rfl ?_
  repeat' (first | (refine CL.seq ?_) | (refine CL.region ?_) | (refine CL.skip ?_) | (refine CL.condP rfl (fun _ => ?_) (fun _ => ?_) <;> try (exfalso; omega)) | (refine CL.condT rfl ?_) | (refine CL.condF rfl ?_) | (refine CL.cond rfl (fun _ => ?_) (fun _ => ?_)) | (refine CL.block ?_) | (refine CL.exit ?_) | (refine Ex.then ?_) | (refine Ex.hit ?_) | (refine Ex.miss rfl ?_) | (refine CL.ret ?_) | (refine Rt.then ?_) | (refine Rt.block ?_) | (refine Pn.then ?_) | (refine Pn.block ?_) | (refine CL.done ?_) | (refine Nm.block ?_) | (refine Nm.then ?_) | (refine Gt.nil ?_; refine RW.nilw [0, 2, 3, 4, 5, 6, 7, 8, 27, 28, 29, 30] ?_; dsimp only [H.keep, H.look, H.Fr.put, Nat.beq]) | (refine Gt.move ?_; refine RW.y (Y.move rfl) rfl ?_) | (refine Gt.guard ?_; first | (refine RW.part rfl rfl rfl (fun _ => ?_) (fun _ => ?_) <;> try (exfalso; omega)) | (refine RW.on rfl rfl rfl ?_) | (refine RW.off1 rfl rfl rfl rfl rfl ?_) | (refine RW.off rfl rfl rfl rfl rfl ?_) | (refine RW.offu rfl rfl rfl rfl ?_) | (refine RW.partb rfl rfl rfl (fun _ => ?_) (fun _ => ?_))) | (refine Gt.load ?_; first | (refine RW.y (Y.loadB rfl (by assumption) rfl) rfl ?_) | (refine RW.y (Y.loadBlock rfl (by assumption) rfl) rfl ?_)) | (refine Gt.len ?_; first | (refine RW.y (Y.lenv rfl) rfl ?_) | (refine RW.y (Y.lenx rfl (by assumption)) rfl ?_) | (refine RW.y (Y.lens rfl) rfl ?_)) | (refine Gt.pick ?_; first | (refine RW.y (Y.pickT rfl rfl) rfl ?_) | (refine RW.y (Y.pickF rfl rfl) rfl ?_)) | (refine Gt.assign ?_; refine RW.y (Y.assign rfl) rfl ?_) | (refine Gt.add ?_; refine RW.y (Y.add64 rfl rfl (by omega) (by omega)) rfl ?_) | (refine Gt.idx ?_; first | (refine RW.elemS rfl rfl rfl rfl (by assumption) (by omega) (by omega) ?_) | (refine RW.elemF rfl rfl rfl rfl rfl rfl (by assumption) (fun _ => by rfl) rfl (by omega) (by omega) (by rfl) (fun _ _ => ?_)) | (refine RW.elemA rfl rfl rfl rfl (by assumption) (fun _ => by rfl) rfl (by omega) (by omega) (fun _ => ?_))) | (refine Gt.lss ?_; first | (refine RW.y (Y.lss rfl rfl) rfl ?_) | (refine RW.y (Y.lts rfl rfl) rfl ?_)) | (refine Gt.fieldAddr ?_; refine RW.y (Y.fieldAddr rfl (by rfl)) rfl ?_) | (refine Gt.makeFunc ?_; refine RW.y (Y.makeFunc rfl rfl) rfl ?_) | (refine Gt.leq ?_; refine RW.y (Y.leq rfl rfl) rfl ?_) | (refine Gt.eql ?_; first | (refine RW.y (Y.eqs rfl rfl) rfl ?_) | (refine RW.y (Y.eqi rfl rfl) rfl ?_)) | (refine Gt.sub ?_; refine RW.y (Y.sub64 rfl rfl (by omega) (by omega)) rfl ?_))
  · rename_i h65
    refine RW.fn rfl rfl ((hasSuffix s 10 (by omega) w3).mono ?_)
    rintro e w4 ⟨rfl, rfl⟩
    repeat' (first | (refine CL.seq ?_) | (refine CL.region ?_) | (refine CL.skip ?_) | (refine CL.condP rfl (fun _ => ?_) (fun _ => ?_) <;> try (exfalso; omega)) | (refine CL.condT rfl ?_) | (refine CL.condF rfl ?_) | (refine CL.cond rfl (fun _ => ?_) (fun _ => ?_)) | (refine CL.block ?_) | (refine CL.exit ?_) | (refine Ex.then ?_) | (refine Ex.hit ?_) | (refine Ex.miss rfl ?_) | (refine CL.ret ?_) | (refine Rt.then ?_) | (refine Rt.block ?_) | (refine Pn.then ?_) | (refine Pn.block ?_) | (refine CL.done ?_) | (refine Nm.block ?_) | (refine Nm.then ?_) | (refine Gt.nil ?_; refine RW.nilw [0, 2, 3, 4, 5, 6, 7, 8, 27, 28, 29, 30] ?_; dsimp only [H.keep, H.look, H.Fr.put, Nat.beq]) | (refine Gt.move ?_; refine RW.y (Y.move rfl) rfl ?_) | (refine Gt.guard ?_; first | (refine RW.part rfl rfl rfl (fun _ => ?_) (fun _ => ?_) <;> try (exfalso; omega)) | (refine RW.on rfl rfl rfl ?_) | (refine RW.off1 rfl rfl rfl rfl rfl ?_) | (refine RW.off rfl rfl rfl rfl rfl ?_) | (refine RW.offu rfl rfl rfl rfl ?_) | (refine RW.partb rfl rfl rfl (fun _ => ?_) (fun _ => ?_))) | (refine Gt.load ?_; first | (refine RW.y (Y.loadB rfl (by assumption) rfl) rfl ?_) | (refine RW.y (Y.loadBlock rfl (by assumption) rfl) rfl ?_)) | (refine Gt.len ?_; first | (refine RW.y (Y.lenv rfl) rfl ?_) | (refine RW.y (Y.lenx rfl (by assumption)) rfl ?_) | (refine RW.y (Y.lens rfl) rfl ?_)) | (refine Gt.pick ?_; first | (refine RW.y (Y.pickT rfl rfl) rfl ?_) | (refine RW.y (Y.pickF rfl rfl) rfl ?_)) | (refine Gt.assign ?_; refine RW.y (Y.assign rfl) rfl ?_) | (refine Gt.add ?_; refine RW.y (Y.add64 rfl rfl (by omega) (by omega)) rfl ?_) | (refine Gt.idx ?_; first | (refine RW.elemS rfl rfl rfl rfl (by assumption) (by omega) (by omega) ?_) | (refine RW.elemF rfl rfl rfl rfl rfl rfl (by assumption) (fun _ => by rfl) rfl (by omega) (by omega) (by rfl) (fun _ _ => ?_)) | (refine RW.elemA rfl rfl rfl rfl (by assumption) (fun _ => by rfl) rfl (by omega) (by omega) (fun _ => ?_))) | (refine Gt.lss ?_; first | (refine RW.y (Y.lss rfl rfl) rfl ?_) | (refine RW.y (Y.lts rfl rfl) rfl ?_)) | (refine Gt.fieldAddr ?_; refine RW.y (Y.fieldAddr rfl (by rfl)) rfl ?_) | (refine Gt.makeFunc ?_; refine RW.y (Y.makeFunc rfl rfl) rfl ?_) | (refine Gt.leq ?_; refine RW.y (Y.leq rfl rfl) rfl ?_) | (refine Gt.eql ?_; first | (refine RW.y (Y.eqs rfl rfl) rfl ?_) | (refine RW.y (Y.eqi rfl rfl) rfl ?_)) | (refine Gt.sub ?_; refine RW.y (Y.sub64 rfl rfl (by omega) (by omega)) rfl ?_))
    by_cases hsf : s ≠ [] ∧ s.getLastD 0 = 10
    · rw [decide_eq_true hsf]
      refine RW.fn rfl rfl ((must true 0 w3).mono ?_)
      rintro e w4 ⟨rfl, rfl⟩
      repeat' (first | (refine CL.seq ?_) | (refine CL.region ?_) | (refine CL.skip ?_) | (refine CL.condP rfl (fun _ => ?_) (fun _ => ?_) <;> try (exfalso; omega)) | (refine CL.condT rfl ?_) | (refine CL.condF rfl ?_) | (refine CL.cond rfl (fun _ => ?_) (fun _ => ?_)) | (refine CL.block ?_) | (refine CL.exit ?_) | (refine Ex.then ?_) | (refine Ex.hit ?_) | (refine Ex.miss rfl ?_) | (refine CL.ret ?_) | (refine Rt.then ?_) | (refine Rt.block ?_) | (refine Pn.then ?_) | (refine Pn.block ?_) | (refine CL.done ?_) | (refine Nm.block ?_) | (refine Nm.then ?_) | (refine Gt.nil ?_; refine RW.nilw [0, 2, 3, 4, 5, 6, 7, 8, 27, 28, 29, 30] ?_; dsimp only [H.keep, H.look, H.Fr.put, Nat.beq]) | (refine Gt.move ?_; refine RW.y (Y.move rfl) rfl ?_) | (refine Gt.guard ?_; first | (refine RW.part rfl rfl rfl (fun _ => ?_) (fun _ => ?_) <;> try (exfalso; omega)) | (refine RW.on rfl rfl rfl ?_) | (refine RW.off1 rfl rfl rfl rfl rfl ?_) | (refine RW.off rfl rfl rfl rfl rfl ?_) | (refine RW.offu rfl rfl rfl rfl ?_) | (refine RW.partb rfl rfl rfl (fun _ => ?_) (fun _ => ?_))) | (refine Gt.load ?_; first | (refine RW.y (Y.loadB rfl (by assumption) rfl) rfl ?_) | (refine RW.y (Y.loadBlock rfl (by assumption) rfl) rfl ?_)) | (refine Gt.len ?_; first | (refine RW.y (Y.lenv rfl) rfl ?_) | (refine RW.y (Y.lenx rfl (by assumption)) rfl ?_) | (refine RW.y (Y.lens rfl) rfl ?_)) | (refine Gt.pick ?_; first | (refine RW.y (Y.pickT rfl rfl) rfl ?_) | (refine RW.y (Y.pickF rfl rfl) rfl ?_)) | (refine Gt.assign ?_; refine RW.y (Y.assign rfl) rfl ?_) | (refine Gt.add ?_; refine RW.y (Y.add64 rfl rfl (by omega) (by omega)) rfl ?_) | (refine Gt.idx ?_; first | (refine RW.elemS rfl rfl rfl rfl (by assumption) (by omega) (by omega) ?_) | (refine RW.elemF rfl rfl rfl rfl rfl rfl (by assumption) (fun _ => by rfl) rfl (by omega) (by omega) (by rfl) (fun _ _ => ?_)) | (refine RW.elemA rfl rfl rfl rfl (by assumption) (fun _ => by rfl) rfl (by omega) (by omega) (fun _ => ?_))) | (refine Gt.lss ?_; first | (refine RW.y (Y.lss rfl rfl) rfl ?_) | (refine RW.y (Y.lts rfl rfl) rfl ?_)) | (refine Gt.fieldAddr ?_; refine RW.y (Y.fieldAddr rfl (by rfl)) rfl ?_) | (refine Gt.makeFunc ?_; refine RW.y (Y.makeFunc rfl rfl) rfl ?_) | (refine Gt.leq ?_; refine RW.y (Y.leq rfl rfl) rfl ?_) | (refine Gt.eql ?_; first | (refine RW.y (Y.eqs rfl rfl) rfl ?_) | (refine RW.y (Y.eqi rfl rfl) rfl ?_)) | (refine Gt.sub ?_; refine RW.y (Y.sub64 rfl rfl (by omega) (by omega)) rfl ?_))
      refine RW.fn rfl rfl ((trimSuffix s 10 (by omega) hsf w3).mono ?_)
      rintro e w4 ⟨rfl, rfl⟩
      refine RW.fn rfl rfl ((split s.dropLast 10 (by rw [List.length_dropLast]; omega) w3).mono ?_)
      rintro e w4 ⟨v4, rfl, how4, hk4⟩
      have hs4 := Sl.of_own how4
      have i0 := hk4.at0 i0
      have i1 := hk4.at0 i1
      have i2 := hk4.at0 i2
      have hKc := hKc.trans0 hk4
      have hne := List.length_pos_iff.2 (splitB_ne 10 s.dropLast)
      have hml : ∀ x ∈ splitB 10 s.dropLast, x.length ≤ 1000000 := fun x hx => Nat.le_trans (splitB_mem_len 10 _ x hx) (by rw [List.length_dropLast]; omega)
      have hcn := splitB_len 10 s.dropLast
      have hcc := List.count_le_length (a := (10 : UInt8)) (l := s.dropLast)
      rw [List.length_dropLast] at hcc
      have hh := @lock_head s
      have hr := @lock_rest s ⟨by omega, hsf⟩
      rw [headD_getD] at hh hr
      generalize splitB 10 s.dropLast = l at *
      repeat' (first | (refine CL.seq ?_) | (refine CL.region ?_) | (refine CL.skip ?_) | (refine CL.condP rfl (fun _ => ?_) (fun _ => ?_) <;> try (exfalso; omega)) | (refine CL.condT rfl ?_) | (refine CL.condF rfl ?_) | (refine CL.cond rfl (fun _ => ?_) (fun _ => ?_)) | (refine CL.block ?_) | (refine CL.exit ?_) | (refine Ex.then ?_) | (refine Ex.hit ?_) | (refine Ex.miss rfl ?_) | (refine CL.ret ?_) | (refine Rt.then ?_) | (refine Rt.block ?_) | (refine Pn.then ?_) | (refine Pn.block ?_) | (refine CL.done ?_) | (refine Nm.block ?_) | (refine Nm.then ?_) | (refine Gt.nil ?_; refine RW.nilw [0, 2, 3, 4, 5, 6, 7, 8, 27, 28, 29, 30] ?_; dsimp only [H.keep, H.look, H.Fr.put, Nat.beq]) | (refine Gt.move ?_; refine RW.y (Y.move rfl) rfl ?_) | (refine Gt.guard ?_; first | (refine RW.part rfl rfl rfl (fun _ => ?_) (fun _ => ?_) <;> try (exfalso; omega)) | (refine RW.on rfl rfl rfl ?_) | (refine RW.off1 rfl rfl rfl rfl rfl ?_) | (refine RW.off rfl rfl rfl rfl rfl ?_) | (refine RW.offu rfl rfl rfl rfl ?_) | (refine RW.partb rfl rfl rfl (fun _ => ?_) (fun _ => ?_))) | (refine Gt.load ?_; first | (refine RW.y (Y.loadB rfl (by assumption) rfl) rfl ?_) | (refine RW.y (Y.loadBlock rfl (by assumption) rfl) rfl ?_)) | (refine Gt.len ?_; first | (refine RW.y (Y.lenv rfl) rfl ?_) | (refine RW.y (Y.lenx rfl (by assumption)) rfl ?_) | (refine RW.y (Y.lens rfl) rfl ?_)) | (refine Gt.pick ?_; first | (refine RW.y (Y.pickT rfl rfl) rfl ?_) | (refine RW.y (Y.pickF rfl rfl) rfl ?_)) | (refine Gt.assign ?_; refine RW.y (Y.assign rfl) rfl ?_) | (refine Gt.add ?_; refine RW.y (Y.add64 rfl rfl (by omega) (by omega)) rfl ?_) | (refine Gt.idx ?_; first | (refine RW.elemS rfl rfl rfl rfl (by assumption) (by omega) (by omega) ?_) | (refine RW.elemF rfl rfl rfl rfl rfl rfl (by assumption) (fun _ => by rfl) rfl (by omega) (by omega) (by rfl) (fun _ _ => ?_)) | (refine RW.elemA rfl rfl rfl rfl (by assumption) (fun _ => by rfl) rfl (by omega) (by omega) (fun _ => ?_))) | (refine Gt.lss ?_; first | (refine RW.y (Y.lss rfl rfl) rfl ?_) | (refine RW.y (Y.lts rfl rfl) rfl ?_)) | (refine Gt.fieldAddr ?_; refine RW.y (Y.fieldAddr rfl (by rfl)) rfl ?_) | (refine Gt.makeFunc ?_; refine RW.y (Y.makeFunc rfl rfl) rfl ?_) | (refine Gt.leq ?_; refine RW.y (Y.leq rfl rfl) rfl ?_) | (refine Gt.eql ?_; first | (refine RW.y (Y.eqs rfl rfl) rfl ?_) | (refine RW.y (Y.eqi rfl rfl) rfl ?_)) | (refine Gt.sub ?_; refine RW.y (Y.sub64 rfl rfl (by omega) (by omega)) rfl ?_))
      have e0 : (Int.toNat 0) = 0 := rfl
      rw [e0]
      by_cases hhd : l.getD 0 [] = headL
      · rw [hr hhd]
        rw [show decide (l.getD 0 [] = ([108, 111, 99, 107, 32, 49] : T)) = true from decide_eq_true hhd]
        refine RW.fn rfl rfl ((must true 0 w4).mono ?_)
        rintro e w5 ⟨rfl, rfl⟩
        repeat' (first | (refine CL.seq ?_) | (refine CL.region ?_) | (refine CL.skip ?_) | (refine CL.condP rfl (fun _ => ?_) (fun _ => ?_) <;> try (exfalso; omega)) | (refine CL.condT rfl ?_) | (refine CL.condF rfl ?_) | (refine CL.cond rfl (fun _ => ?_) (fun _ => ?_)) | (refine CL.block ?_) | (refine CL.exit ?_) | (refine Ex.then ?_) | (refine Ex.hit ?_) | (refine Ex.miss rfl ?_) | (refine CL.ret ?_) | (refine Rt.then ?_) | (refine Rt.block ?_) | (refine Pn.then ?_) | (refine Pn.block ?_) | (refine CL.done ?_) | (refine Nm.block ?_) | (refine Nm.then ?_) | (refine Gt.nil ?_; refine RW.nilw [0, 2, 3, 4, 5, 6, 7, 8, 27, 28, 29, 30] ?_; dsimp only [H.keep, H.look, H.Fr.put, Nat.beq]) | (refine Gt.move ?_; refine RW.y (Y.move rfl) rfl ?_) | (refine Gt.guard ?_; first | (refine RW.part rfl rfl rfl (fun _ => ?_) (fun _ => ?_) <;> try (exfalso; omega)) | (refine RW.on rfl rfl rfl ?_) | (refine RW.off1 rfl rfl rfl rfl rfl ?_) | (refine RW.off rfl rfl rfl rfl rfl ?_) | (refine RW.offu rfl rfl rfl rfl ?_) | (refine RW.partb rfl rfl rfl (fun _ => ?_) (fun _ => ?_))) | (refine Gt.load ?_; first | (refine RW.y (Y.loadB rfl (by assumption) rfl) rfl ?_) | (refine RW.y (Y.loadBlock rfl (by assumption) rfl) rfl ?_)) | (refine Gt.len ?_; first | (refine RW.y (Y.lenv rfl) rfl ?_) | (refine RW.y (Y.lenx rfl (by assumption)) rfl ?_) | (refine RW.y (Y.lens rfl) rfl ?_)) | (refine Gt.pick ?_; first | (refine RW.y (Y.pickT rfl rfl) rfl ?_) | (refine RW.y (Y.pickF rfl rfl) rfl ?_)) | (refine Gt.assign ?_; refine RW.y (Y.assign rfl) rfl ?_) | (refine Gt.add ?_; refine RW.y (Y.add64 rfl rfl (by omega) (by omega)) rfl ?_) | (refine Gt.idx ?_; first | (refine RW.elemS rfl rfl rfl rfl (by assumption) (by omega) (by omega) ?_) | (refine RW.elemF rfl rfl rfl rfl rfl rfl (by assumption) (fun _ => by rfl) rfl (by omega) (by omega) (by rfl) (fun _ _ => ?_)) | (refine RW.elemA rfl rfl rfl rfl (by assumption) (fun _ => by rfl) rfl (by omega) (by omega) (fun _ => ?_))) | (refine Gt.lss ?_; first | (refine RW.y (Y.lss rfl rfl) rfl ?_) | (refine RW.y (Y.lts rfl rfl) rfl ?_)) | (refine Gt.fieldAddr ?_; refine RW.y (Y.fieldAddr rfl (by rfl)) rfl ?_) | (refine Gt.makeFunc ?_; refine RW.y (Y.makeFunc rfl rfl) rfl ?_) | (refine Gt.leq ?_; refine RW.y (Y.leq rfl rfl) rfl ?_) | (refine Gt.eql ?_; first | (refine RW.y (Y.eqs rfl rfl) rfl ?_) | (refine RW.y (Y.eqi rfl rfl) rfl ?_)) | (refine Gt.sub ?_; refine RW.y (Y.sub64 rfl rfl (by omega) (by omega)) rfl ?_))
        refine RW.subl rfl rfl rfl hs4 (by omega) (by omega) (fun v5 hs5 hv5 => ?_)
        have hsT : Sl w4 1 v5 l.tail.length (sv l.tail) := by
          have e1 : (sv l).drop (Int.toNat 1 * 1) = sv l.tail := by cases l <;> rfl
          rw [e1] at hs5
          rw [List.length_tail]; exact hs5
        have hv5l : ∀ g, live v5 = some g → w3.heap.size ≤ g ∧ g < w4.heap.size := fun g hg => how4.lt g (live_own (hv5 g hg))
        have htm : ∀ x ∈ l.tail, x.length ≤ 1000000 := fun x hx => hml x (List.mem_of_mem_tail hx)
        have htl : l.tail.length ≤ 2000000 := by rw [List.length_tail]; omega
        clear hs5 hv5 hml hh hr hs4 how4
        generalize l.tail = tl at *
        repeat' (first | (refine CL.seq ?_) | (refine CL.region ?_) | (refine CL.skip ?_) | (refine CL.condP rfl (fun _ => ?_) (fun _ => ?_) <;> try (exfalso; omega)) | (refine CL.condT rfl ?_) | (refine CL.condF rfl ?_) | (refine CL.cond rfl (fun _ => ?_) (fun _ => ?_)) | (refine CL.block ?_) | (refine CL.exit ?_) | (refine Ex.then ?_) | (refine Ex.hit ?_) | (refine Ex.miss rfl ?_) | (refine CL.ret ?_) | (refine Rt.then ?_) | (refine Rt.block ?_) | (refine Pn.then ?_) | (refine Pn.block ?_) | (refine CL.done ?_) | (refine Nm.block ?_) | (refine Nm.then ?_) | (refine Gt.nil ?_; refine RW.nilw [0, 2, 3, 4, 5, 6, 7, 8, 27, 28, 29, 30] ?_; dsimp only [H.keep, H.look, H.Fr.put, Nat.beq]) | (refine Gt.move ?_; refine RW.y (Y.move rfl) rfl ?_) | (refine Gt.guard ?_; first | (refine RW.part rfl rfl rfl (fun _ => ?_) (fun _ => ?_) <;> try (exfalso; omega)) | (refine RW.on rfl rfl rfl ?_) | (refine RW.off1 rfl rfl rfl rfl rfl ?_) | (refine RW.off rfl rfl rfl rfl rfl ?_) | (refine RW.offu rfl rfl rfl rfl ?_) | (refine RW.partb rfl rfl rfl (fun _ => ?_) (fun _ => ?_))) | (refine Gt.load ?_; first | (refine RW.y (Y.loadB rfl (by assumption) rfl) rfl ?_) | (refine RW.y (Y.loadBlock rfl (by assumption) rfl) rfl ?_)) | (refine Gt.len ?_; first | (refine RW.y (Y.lenv rfl) rfl ?_) | (refine RW.y (Y.lenx rfl (by assumption)) rfl ?_) | (refine RW.y (Y.lens rfl) rfl ?_)) | (refine Gt.pick ?_; first | (refine RW.y (Y.pickT rfl rfl) rfl ?_) | (refine RW.y (Y.pickF rfl rfl) rfl ?_)) | (refine Gt.assign ?_; refine RW.y (Y.assign rfl) rfl ?_) | (refine Gt.add ?_; refine RW.y (Y.add64 rfl rfl (by omega) (by omega)) rfl ?_) | (refine Gt.idx ?_; first | (refine RW.elemS rfl rfl rfl rfl (by assumption) (by omega) (by omega) ?_) | (refine RW.elemF rfl rfl rfl rfl rfl rfl (by assumption) (fun _ => by rfl) rfl (by omega) (by omega) (by rfl) (fun _ _ => ?_)) | (refine RW.elemA rfl rfl rfl rfl (by assumption) (fun _ => by rfl) rfl (by omega) (by omega) (fun _ => ?_))) | (refine Gt.lss ?_; first | (refine RW.y (Y.lss rfl rfl) rfl ?_) | (refine RW.y (Y.lts rfl rfl) rfl ?_)) | (refine Gt.fieldAddr ?_; refine RW.y (Y.fieldAddr rfl (by rfl)) rfl ?_) | (refine Gt.makeFunc ?_; refine RW.y (Y.makeFunc rfl rfl) rfl ?_) | (refine Gt.leq ?_; refine RW.y (Y.leq rfl rfl) rfl ?_) | (refine Gt.eql ?_; first | (refine RW.y (Y.eqs rfl rfl) rfl ?_) | (refine RW.y (Y.eqi rfl rfl) rfl ?_)) | (refine Gt.sub ?_; refine RW.y (Y.sub64 rfl rfl (by omega) (by omega)) rfl ?_))
        refine CL.loopS [2, 3, 4, 27, 28, 29] (fun k vals wr => ∃ (i : Nat) (q : Value) (acc : List Pm), vals = [.pointer (some ⟨w.heap.size, 0, none⟩), .pointer (some ⟨w1.heap.size, 0, none⟩), .pointer (some ⟨w2.heap.size, 0, none⟩), v5, .int .i64 (tl.length : Int), .int .i64 (i : Int)] ∧ k = tl.length - i ∧ i ≤ tl.length ∧ wr.heap[w.heap.size]? = some (.cells #[q] 23 (0, 0)) ∧ GI pmK wr w4.heap.size pmT q acc ∧ (∀ x ∈ acc, ∀ g, live x.p = some g → w4.heap.size ≤ g) ∧ rdPins tl [] 2 = rdPins (tl.drop i) (acc.map (·.d)) (i + 2) ∧ acc.length ≤ i ∧ Kept (fun k => k = w.heap.size) w4 wr) tl.length ⟨_, rfl, 0, _, [], rfl, rfl, Nat.zero_le _, i0, GI.nil _ _ _ _, (fun x hx => by cases hx), rfl, Nat.le_refl _, Kept.refl _ _⟩ ?_
        rintro k vals wr ⟨i, q, acc, rfl, rfl, hi, hq0, hI, hIl, hinv, hai, hkr⟩
        dsimp only [List.zip, List.zipWith]
        have hzk := hK4.size
        have hz4 := hk4.size
        have hzr := hkr.size
        have i1r := hkr.at i1 (fun c => by omega)
        have i2r := hkr.at i2 (fun c => by omega)
        have hKr : K0 w wr := hKc.trans hkr fun k h => .inr (by omega)
        have hsT' := hsT.keep hkr fun g hg c => by have := hv5l g hg; omega
        rcases Nat.lt_or_ge i tl.length with hlt | hge
        · have hti : ((i : Int)).toNat = i := Int.toNat_natCast i
          have hst := rd_step hlt (acc.map (·.d)) (i + 2)
          have hxm := htm _ (mem_getD [] hlt)
          repeat' (first | (refine CL.seq ?_) | (refine CL.region ?_) | (refine CL.skip ?_) | (refine CL.condP rfl (fun _ => ?_) (fun _ => ?_) <;> try (exfalso; omega)) | (refine CL.condT rfl ?_) | (refine CL.condF rfl ?_) | (refine CL.cond rfl (fun _ => ?_) (fun _ => ?_)) | (refine CL.block ?_) | (refine CL.exit ?_) | (refine Ex.then ?_) | (refine Ex.hit ?_) | (refine Ex.miss rfl ?_) | (refine CL.ret ?_) | (refine Rt.then ?_) | (refine Rt.block ?_) | (refine Pn.then ?_) | (refine Pn.block ?_) | (refine CL.done ?_) | (refine Nm.block ?_) | (refine Nm.then ?_) | (refine Gt.nil ?_; refine RW.nilw [0, 2, 3, 4, 5, 6, 7, 8, 27, 28, 29, 30] ?_; dsimp only [H.keep, H.look, H.Fr.put, Nat.beq]) | (refine Gt.move ?_; refine RW.y (Y.move rfl) rfl ?_) | (refine Gt.guard ?_; first | (refine RW.part rfl rfl rfl (fun _ => ?_) (fun _ => ?_) <;> try (exfalso; omega)) | (refine RW.on rfl rfl rfl ?_) | (refine RW.off1 rfl rfl rfl rfl rfl ?_) | (refine RW.off rfl rfl rfl rfl rfl ?_) | (refine RW.offu rfl rfl rfl rfl ?_) | (refine RW.partb rfl rfl rfl (fun _ => ?_) (fun _ => ?_))) | (refine Gt.load ?_; first | (refine RW.y (Y.loadB rfl (by assumption) rfl) rfl ?_) | (refine RW.y (Y.loadBlock rfl (by assumption) rfl) rfl ?_)) | (refine Gt.len ?_; first | (refine RW.y (Y.lenv rfl) rfl ?_) | (refine RW.y (Y.lenx rfl (by assumption)) rfl ?_) | (refine RW.y (Y.lens rfl) rfl ?_)) | (refine Gt.pick ?_; first | (refine RW.y (Y.pickT rfl rfl) rfl ?_) | (refine RW.y (Y.pickF rfl rfl) rfl ?_)) | (refine Gt.assign ?_; refine RW.y (Y.assign rfl) rfl ?_) | (refine Gt.add ?_; refine RW.y (Y.add64 rfl rfl (by omega) (by omega)) rfl ?_) | (refine Gt.idx ?_; first | (refine RW.elemS rfl rfl rfl rfl (by assumption) (by omega) (by omega) ?_) | (refine RW.elemF rfl rfl rfl rfl rfl rfl (by assumption) (fun _ => by rfl) rfl (by omega) (by omega) (by rfl) (fun _ _ => ?_)) | (refine RW.elemA rfl rfl rfl rfl (by assumption) (fun _ => by rfl) rfl (by omega) (by omega) (fun _ => ?_))) | (refine Gt.lss ?_; first | (refine RW.y (Y.lss rfl rfl) rfl ?_) | (refine RW.y (Y.lts rfl rfl) rfl ?_)) | (refine Gt.fieldAddr ?_; refine RW.y (Y.fieldAddr rfl (by rfl)) rfl ?_) | (refine Gt.makeFunc ?_; refine RW.y (Y.makeFunc rfl rfl) rfl ?_) | (refine Gt.leq ?_; refine RW.y (Y.leq rfl rfl) rfl ?_) | (refine Gt.eql ?_; first | (refine RW.y (Y.eqs rfl rfl) rfl ?_) | (refine RW.y (Y.eqi rfl rfl) rfl ?_)) | (refine Gt.sub ?_; refine RW.y (Y.sub64 rfl rfl (by omega) (by omega)) rfl ?_))
          rw [hti]
          refine RW.fn rfl rfl ((pin (tl.getD i []) _ hxm wr).mono ?_)
          rintro e w5 ⟨hk5, hp⟩
          have i0 := hk5.at0 hq0
          have i1 := hk5.at0 i1r
          have i2 := hk5.at0 i2r
          have hKc := hKr.trans0 hk5
          generalize tl.getD i [] = x at *
          cases hpb : pinB x with
          | none =>
            rw [hpb] at hp hst
            obtain rfl := hp
            rw [hinv, hst]
            (first | refine H.After.pn ?_ | refine H.After0.pn ?_ | skip); repeat' (first | refine Pn.then ?_ | refine Pn.block ?_)
            exact parseFail _ _ _ _ _ _ _ _ _ _ _ _ rfl rfl rfl rfl i0 i1 i2 (by omega) (by omega) (by omega) (fun w' hk => ⟨hKc.trans hk fun k h => .inr (by rcases h with h | h | h <;> omega), LockP.bad _ w'⟩)
          | some p =>
            rw [hpb] at hp hst
            obtain ⟨X, hXd, rfl, hD, hnl⟩ := hp
            refine RW.varN rfl (by rw [List.size_toArray, pmC_len]; rfl) rfl (fun z hz => pmC_one hD.one z (by simpa using hz)) rfl (fun wv hbv hkv hltv => ?_)
            have i0 := hkv.at0 i0
            have i1 := hkv.at0 i1
            have i2 := hkv.at0 i2
            have hKc := hKc.trans0 hkv
            have hIv := hI.keep0 (hk5.trans0 hkv)
            have hDv := pmK.keep0 hD hkv
            have hzv := hkv.size
            have hz5 := hk5.size
            have hsA : ∀ w', K0 wv w' → Sl w' 37 q acc.length (acc.flatMap pmC) := fun w' h => (hIv.ga.1).keep0 h
            have hbl : ∀ w', K0 wv w' → ∀ j u, (pmC X)[j]? = some u → w'.cell? ⟨w5.heap.size, 0 + j, none⟩ = some u := fun w' h => pmBlock (h.at0 hbv)
            have hal : (acc.map (·.d)).length = acc.length := List.length_map _
            have hmx : acc.length ≤ 2000000 := by omega
            obtain ⟨c1, hc1⟩ : ∃ b, decide ((acc.length : Int) < 200) = b := ⟨_, rfl⟩
            obtain ⟨c2, hc2⟩ : ∃ b, decide ((acc.length : Int) = 0) = b := ⟨_, rfl⟩
            repeat' (first | (refine CL.seq ?_) | (refine CL.region ?_) | (refine CL.skip ?_) | (refine CL.condP rfl (fun _ => ?_) (fun _ => ?_) <;> try (exfalso; omega)) | (refine CL.condT rfl ?_) | (refine CL.condF rfl ?_) | (refine CL.cond rfl (fun _ => ?_) (fun _ => ?_)) | (refine CL.block ?_) | (refine CL.exit ?_) | (refine Ex.then ?_) | (refine Ex.hit ?_) | (refine Ex.miss rfl ?_) | (refine CL.ret ?_) | (refine Rt.then ?_) | (refine Rt.block ?_) | (refine Pn.then ?_) | (refine Pn.block ?_) | (refine CL.done ?_) | (refine Nm.block ?_) | (refine Nm.then ?_) | (refine Gt.nil ?_; refine RW.nilw [0, 2, 3, 4, 5, 6, 7, 8, 27, 28, 29, 30] ?_; dsimp only [H.keep, H.look, H.Fr.put, Nat.beq]) | (refine Gt.move ?_; refine RW.y (Y.move rfl) rfl ?_) | (refine Gt.guard ?_; first | (refine RW.part rfl rfl rfl (fun _ => ?_) (fun _ => ?_) <;> try (exfalso; omega)) | (refine RW.on rfl rfl rfl ?_) | (refine RW.off1 rfl rfl rfl rfl rfl ?_) | (refine RW.off rfl rfl rfl rfl rfl ?_) | (refine RW.offu rfl rfl rfl rfl ?_) | (refine RW.partb rfl rfl rfl (fun _ => ?_) (fun _ => ?_))) | (refine Gt.load ?_; first | (refine RW.y (Y.loadB rfl (by assumption) rfl) rfl ?_) | (refine RW.y (Y.loadBlock rfl (by assumption) rfl) rfl ?_)) | (refine Gt.len ?_; first | (refine RW.y (Y.lenv rfl) rfl ?_) | (refine RW.y (Y.lenx rfl (by assumption)) rfl ?_) | (refine RW.y (Y.lens rfl) rfl ?_)) | (refine Gt.pick ?_; first | (refine RW.y (Y.pickT rfl rfl) rfl ?_) | (refine RW.y (Y.pickF rfl rfl) rfl ?_)) | (refine Gt.assign ?_; refine RW.y (Y.assign rfl) rfl ?_) | (refine Gt.add ?_; refine RW.y (Y.add64 rfl rfl (by omega) (by omega)) rfl ?_) | (refine Gt.idx ?_; first | (refine RW.elemS rfl rfl rfl rfl (by assumption) (by omega) (by omega) ?_) | (refine RW.elemF rfl rfl rfl rfl rfl rfl (by assumption) (fun _ => by rfl) rfl (by omega) (by omega) (by rfl) (fun _ _ => ?_)) | (refine RW.elemA rfl rfl rfl rfl (by assumption) (fun _ => by rfl) rfl (by omega) (by omega) (fun _ => ?_))) | (refine Gt.lss ?_; first | (refine RW.y (Y.lss rfl rfl) rfl ?_) | (refine RW.y (Y.lts rfl rfl) rfl ?_)) | (refine Gt.fieldAddr ?_; refine RW.y (Y.fieldAddr rfl (by rfl)) rfl ?_) | (refine Gt.makeFunc ?_; refine RW.y (Y.makeFunc rfl rfl) rfl ?_) | (refine Gt.leq ?_; refine RW.y (Y.leq rfl rfl) rfl ?_) | (refine Gt.eql ?_; first | (refine RW.y (Y.eqs rfl rfl) rfl ?_) | (refine RW.y (Y.eqi rfl rfl) rfl ?_)) | (refine Gt.sub ?_; refine RW.y (Y.sub64 rfl rfl (by omega) (by omega)) rfl ?_))
            refine CL.draw (fun w' => K0 wv w') (by kernel_rfl) (fun w6 hheap hk6 => ?_)
            have hS : K0 wv w6 := hk6
            skip
            skip
            cases c1 with
            | false =>
              skip
              refine AD.take 0 rfl (by kernel_rfl) (by kernel_rfl) (by kernel_rfl) rfl rfl (by assumption) (fun w hS => Y.loadB rfl (hS.at0 i0) rfl) ?_
              refine AD.take 1 rfl (by kernel_rfl) (by kernel_rfl) (by kernel_rfl) rfl rfl (by assumption) (fun w hS => Y.lenx rfl (hsA _ hS)) ?_
              refine AD.take 2 rfl (by kernel_rfl) (by kernel_rfl) (by kernel_rfl) rfl rfl (by assumption) (fun w hS => Y.lssE rfl rfl hc1) ?_
              refine AD.take 3 rfl (by kernel_rfl) (by kernel_rfl) (by kernel_rfl) rfl rfl (by assumption) (fun w hS => Y.move rfl) ?_
              refine AD.takeOff 4 rfl (by kernel_rfl) (by kernel_rfl) (by kernel_rfl) rfl rfl rfl rfl rfl rfl (by assumption) ?_
              refine AD.takeOff 5 rfl (by kernel_rfl) (by kernel_rfl) (by kernel_rfl) rfl rfl rfl rfl rfl rfl (by assumption) ?_
              refine AD.takeOff 6 rfl (by kernel_rfl) (by kernel_rfl) (by kernel_rfl) rfl rfl rfl rfl rfl rfl (by assumption) ?_
              refine AD.takeOff 7 rfl (by kernel_rfl) (by kernel_rfl) (by kernel_rfl) rfl rfl rfl rfl rfl rfl (by assumption) ?_
              refine AD.takeOffU 8 rfl (by kernel_rfl) (by kernel_rfl) (by kernel_rfl) rfl rfl rfl rfl rfl (by assumption) ?_
              refine AD.takeOffU 9 rfl (by kernel_rfl) (by kernel_rfl) (by kernel_rfl) rfl rfl rfl rfl rfl (by assumption) ?_
              refine AD.takeOffU 10 rfl (by kernel_rfl) (by kernel_rfl) (by kernel_rfl) rfl rfl rfl rfl rfl (by assumption) ?_
              refine AD.takeOffU 11 rfl (by kernel_rfl) (by kernel_rfl) (by kernel_rfl) rfl rfl rfl rfl rfl (by assumption) ?_
              refine AD.takeOffU 12 rfl (by kernel_rfl) (by kernel_rfl) (by kernel_rfl) rfl rfl rfl rfl rfl (by assumption) ?_
              refine AD.takeOffU 13 rfl (by kernel_rfl) (by kernel_rfl) (by kernel_rfl) rfl rfl rfl rfl rfl (by assumption) ?_
              refine AD.takeOffU 14 rfl (by kernel_rfl) (by kernel_rfl) (by kernel_rfl) rfl rfl rfl rfl rfl (by assumption) ?_
              refine AD.takeOffU 15 rfl (by kernel_rfl) (by kernel_rfl) (by kernel_rfl) rfl rfl rfl rfl rfl (by assumption) ?_
              refine AD.takeOffU 16 rfl (by kernel_rfl) (by kernel_rfl) (by kernel_rfl) rfl rfl rfl rfl rfl (by assumption) ?_
              refine AD.takeOffU 17 rfl (by kernel_rfl) (by kernel_rfl) (by kernel_rfl) rfl rfl rfl rfl rfl (by assumption) ?_
              refine AD.takeOff 18 rfl (by kernel_rfl) (by kernel_rfl) (by kernel_rfl) rfl rfl rfl rfl rfl rfl (by assumption) ?_
              refine AD.take 19 rfl (by kernel_rfl) (by kernel_rfl) (by kernel_rfl) rfl rfl (by assumption) (fun w hS => by first | exact Y.pickT rfl rfl | exact Y.pickF rfl rfl) ?_
              refine AD.take 20 rfl (by kernel_rfl) (by kernel_rfl) (by kernel_rfl) rfl rfl (by assumption) (fun w hS => Y.move rfl) ?_
              refine AD.take 21 rfl (by kernel_rfl) (by kernel_rfl) (by kernel_rfl) rfl rfl (by assumption) (fun w hS => by first | exact Y.add64 rfl rfl (by omega) (by omega) | exact Y.addu rfl rfl (by omega) (by omega) | exact Y.addN rfl rfl (by first | exact wrap64_id (by omega) (by omega) | exact wrapu64_id (by omega) (by omega) | exact wrapu8_id (by omega) (by omega) | exact wrapu16_id (by omega) (by omega) | exact wrapu32_id (by omega) (by omega)) | exact Y.cat rfl rfl (by first | omega | (simp only [List.length_append, List.length_cons, List.length_nil]; omega))) ?_
              refine AW.next 22 rfl (by kernel_rfl) ?_
              refine RW.fn rfl rfl ((must false _ w6).mono ?_)
              rintro e w7 ⟨rfl, rfl⟩
              have hst' : rdPins (tl.drop i) (acc.map (·.d)) (i + 2) = ([], ((i + 2 : Nat) : Int), 63) := by
                rw [hst]; exact if_neg (by have := of_decide_eq_false hc1; omega)
              rw [hinv, hst']
              have i0 := hS.at0 i0
              have i1 := hS.at0 i1
              have i2 := hS.at0 i2
              have hKc := hKc.trans0 hS
              (first | refine H.After.pn ?_ | refine H.After0.pn ?_ | skip); repeat' (first | refine Pn.then ?_ | refine Pn.block ?_)
              exact parseFail _ _ _ _ _ _ _ _ _ _ _ _ rfl rfl rfl rfl i0 i1 i2 (by omega) (by omega) (by omega) (fun w' hk => ⟨hKc.trans hk fun k h => .inr (by rcases h with h | h | h <;> omega), LockP.bad _ w'⟩)
            | true =>
              have hc1' := of_decide_eq_true hc1
              cases c2 with
              | true =>
                have hc2' := of_decide_eq_true hc2
                have hnil : acc = [] := List.eq_nil_of_length_eq_zero (by omega)
                skip
                refine AD.take 0 rfl (by kernel_rfl) (by kernel_rfl) (by kernel_rfl) rfl rfl (by assumption) (fun w hS => Y.loadB rfl (hS.at0 i0) rfl) ?_
                refine AD.take 1 rfl (by kernel_rfl) (by kernel_rfl) (by kernel_rfl) rfl rfl (by assumption) (fun w hS => Y.lenx rfl (hsA _ hS)) ?_
                refine AD.take 2 rfl (by kernel_rfl) (by kernel_rfl) (by kernel_rfl) rfl rfl (by assumption) (fun w hS => Y.lssE rfl rfl hc1) ?_
                refine AD.take 3 rfl (by kernel_rfl) (by kernel_rfl) (by kernel_rfl) rfl rfl (by assumption) (fun w hS => Y.move rfl) ?_
                refine AD.takeOn 4 rfl (by kernel_rfl) (by kernel_rfl) (by kernel_rfl) rfl rfl rfl rfl rfl (by assumption) (fun w hS => Y.loadB rfl (hS.at0 i0) rfl) ?_
                refine AD.takeOn 5 rfl (by kernel_rfl) (by kernel_rfl) (by kernel_rfl) rfl rfl rfl rfl rfl (by assumption) (fun w hS => Y.lenx rfl (hsA _ hS)) ?_
                refine AD.takeOn 6 rfl (by kernel_rfl) (by kernel_rfl) (by kernel_rfl) rfl rfl rfl rfl rfl (by assumption) (fun w hS => Y.eqiE rfl rfl hc2) ?_
                refine AD.takeOn 7 rfl (by kernel_rfl) (by kernel_rfl) (by kernel_rfl) rfl rfl rfl rfl rfl (by assumption) (fun w hS => Y.move rfl) ?_
                refine AD.takeOff 8 rfl (by kernel_rfl) (by kernel_rfl) (by kernel_rfl) rfl rfl rfl rfl rfl rfl (by assumption) ?_
                refine AD.takeOff 9 rfl (by kernel_rfl) (by kernel_rfl) (by kernel_rfl) rfl rfl rfl rfl rfl rfl (by assumption) ?_
                refine AD.takeOff 10 rfl (by kernel_rfl) (by kernel_rfl) (by kernel_rfl) rfl rfl rfl rfl rfl rfl (by assumption) ?_
                refine AD.takeOff 11 rfl (by kernel_rfl) (by kernel_rfl) (by kernel_rfl) rfl rfl rfl rfl rfl rfl (by assumption) ?_
                refine AD.takeOff 12 rfl (by kernel_rfl) (by kernel_rfl) (by kernel_rfl) rfl rfl rfl rfl rfl rfl (by assumption) ?_
                refine AD.takeOff 13 rfl (by kernel_rfl) (by kernel_rfl) (by kernel_rfl) rfl rfl rfl rfl rfl rfl (by assumption) ?_
                refine AD.takeOff 14 rfl (by kernel_rfl) (by kernel_rfl) (by kernel_rfl) rfl rfl rfl rfl rfl rfl (by assumption) ?_
                refine AD.takeOff 15 rfl (by kernel_rfl) (by kernel_rfl) (by kernel_rfl) rfl rfl rfl rfl rfl rfl (by assumption) ?_
                refine AD.takeOff 16 rfl (by kernel_rfl) (by kernel_rfl) (by kernel_rfl) rfl rfl rfl rfl rfl rfl (by assumption) ?_
                refine AD.takeOff 17 rfl (by kernel_rfl) (by kernel_rfl) (by kernel_rfl) rfl rfl rfl rfl rfl rfl (by assumption) ?_
                refine AD.takeOn 18 rfl (by kernel_rfl) (by kernel_rfl) (by kernel_rfl) rfl rfl rfl rfl rfl (by assumption) (fun w hS => by first | exact Y.pickT rfl rfl | exact Y.pickF rfl rfl) ?_
                refine AD.take 19 rfl (by kernel_rfl) (by kernel_rfl) (by kernel_rfl) rfl rfl (by assumption) (fun w hS => by first | exact Y.pickT rfl rfl | exact Y.pickF rfl rfl) ?_
                refine AD.take 20 rfl (by kernel_rfl) (by kernel_rfl) (by kernel_rfl) rfl rfl (by assumption) (fun w hS => Y.move rfl) ?_
                refine AD.take 21 rfl (by kernel_rfl) (by kernel_rfl) (by kernel_rfl) rfl rfl (by assumption) (fun w hS => by first | exact Y.add64 rfl rfl (by omega) (by omega) | exact Y.addu rfl rfl (by omega) (by omega) | exact Y.addN rfl rfl (by first | exact wrap64_id (by omega) (by omega) | exact wrapu64_id (by omega) (by omega) | exact wrapu8_id (by omega) (by omega) | exact wrapu16_id (by omega) (by omega) | exact wrapu32_id (by omega) (by omega)) | exact Y.cat rfl rfl (by first | omega | (simp only [List.length_append, List.length_cons, List.length_nil]; omega))) ?_
                refine AW.next 22 rfl (by kernel_rfl) ?_
                refine RW.fn rfl rfl ((must true _ w6).mono ?_)
                rintro e w7 ⟨rfl, rfl⟩
                have hgo : rdPins (tl.drop i) (acc.map (·.d)) (i + 2) = rdPins (tl.drop (i + 1)) (acc.map (·.d) ++ [p]) (i + 2 + 1) := by
                  rw [hst]; exact if_pos ⟨by omega, .inl (by rw [hnil]; rfl)⟩
                have i0 := hS.at0 i0
                have i1 := hS.at0 i1
                have i2 := hS.at0 i2
                have hbv6 := hS.at0 hbv
                have hI6 := hIv.keep0 hS
                have hD6 := pmK.keep0 hDv hS
                have hz6 := hS.size
                refine RW.nil (Nm.then ⟨hS, ?_⟩)
                skip
                refine AW.donew [2, 3, 4, 8, 27, 28, 29] (by kernel_rfl) ?_
                dsimp only [H.keep, H.look, H.Fr.put, Nat.beq]
                repeat' (first | (refine CL.seq ?_) | (refine CL.region ?_) | (refine CL.skip ?_) | (refine CL.condP rfl (fun _ => ?_) (fun _ => ?_) <;> try (exfalso; omega)) | (refine CL.condT rfl ?_) | (refine CL.condF rfl ?_) | (refine CL.cond rfl (fun _ => ?_) (fun _ => ?_)) | (refine CL.block ?_) | (refine CL.exit ?_) | (refine Ex.then ?_) | (refine Ex.hit ?_) | (refine Ex.miss rfl ?_) | (refine CL.ret ?_) | (refine Rt.then ?_) | (refine Rt.block ?_) | (refine Pn.then ?_) | (refine Pn.block ?_) | (refine CL.done ?_) | (refine Nm.block ?_) | (refine Nm.then ?_) | (refine Gt.nil ?_; refine RW.nilw [0, 2, 3, 4, 5, 6, 7, 8, 27, 28, 29, 30] ?_; dsimp only [H.keep, H.look, H.Fr.put, Nat.beq]) | (refine Gt.move ?_; refine RW.y (Y.move rfl) rfl ?_) | (refine Gt.guard ?_; first | (refine RW.part rfl rfl rfl (fun _ => ?_) (fun _ => ?_) <;> try (exfalso; omega)) | (refine RW.on rfl rfl rfl ?_) | (refine RW.off1 rfl rfl rfl rfl rfl ?_) | (refine RW.off rfl rfl rfl rfl rfl ?_) | (refine RW.offu rfl rfl rfl rfl ?_) | (refine RW.partb rfl rfl rfl (fun _ => ?_) (fun _ => ?_))) | (refine Gt.load ?_; first | (refine RW.y (Y.loadB rfl (by assumption) rfl) rfl ?_) | (refine RW.y (Y.loadBlock rfl (by assumption) rfl) rfl ?_)) | (refine Gt.len ?_; first | (refine RW.y (Y.lenv rfl) rfl ?_) | (refine RW.y (Y.lenx rfl (by assumption)) rfl ?_) | (refine RW.y (Y.lens rfl) rfl ?_)) | (refine Gt.pick ?_; first | (refine RW.y (Y.pickT rfl rfl) rfl ?_) | (refine RW.y (Y.pickF rfl rfl) rfl ?_)) | (refine Gt.assign ?_; refine RW.y (Y.assign rfl) rfl ?_) | (refine Gt.add ?_; refine RW.y (Y.add64 rfl rfl (by omega) (by omega)) rfl ?_) | (refine Gt.idx ?_; first | (refine RW.elemS rfl rfl rfl rfl (by assumption) (by omega) (by omega) ?_) | (refine RW.elemF rfl rfl rfl rfl rfl rfl (by assumption) (fun _ => by rfl) rfl (by omega) (by omega) (by rfl) (fun _ _ => ?_)) | (refine RW.elemA rfl rfl rfl rfl (by assumption) (fun _ => by rfl) rfl (by omega) (by omega) (fun _ => ?_))) | (refine Gt.lss ?_; first | (refine RW.y (Y.lss rfl rfl) rfl ?_) | (refine RW.y (Y.lts rfl rfl) rfl ?_)) | (refine Gt.fieldAddr ?_; refine RW.y (Y.fieldAddr rfl (by rfl)) rfl ?_) | (refine Gt.makeFunc ?_; refine RW.y (Y.makeFunc rfl rfl) rfl ?_) | (refine Gt.leq ?_; refine RW.y (Y.leq rfl rfl) rfl ?_) | (refine Gt.eql ?_; first | (refine RW.y (Y.eqs rfl rfl) rfl ?_) | (refine RW.y (Y.eqi rfl rfl) rfl ?_)) | (refine Gt.sub ?_; refine RW.y (Y.sub64 rfl rfl (by omega) (by omega)) rfl ?_))
                refine RW.y (Y.loadBlock rfl hbv6 (by rw [List.size_toArray, pmC_len]; rfl)) rfl ?_
                refine RW.appG pmK X rfl rfl rfl rfl hI6 rfl rfl rfl rfl hD6 (fun g hg c => by have := hnl g hg; have := (hI.lt g c).2; omega) (by omega) (by omega) rfl (fun q' w8 hI8 hk8 hl8 => ?_)
                have i0 := hk8.at i0 (fun c => by have := (hI.lt _ c).1; omega)
                have i1 := hk8.at i1 (fun c => by have := (hI.lt _ c).1; omega)
                have i2 := hk8.at i2 (fun c => by have := (hI.lt _ c).1; omega)
                refine RW.storeB rfl rfl hI8.ga.1.one i0 (by simp) (fun w9 j0 hk9 => ?_)
                repeat' (first | (refine CL.seq ?_) | (refine CL.region ?_) | (refine CL.skip ?_) | (refine CL.condP rfl (fun _ => ?_) (fun _ => ?_) <;> try (exfalso; omega)) | (refine CL.condT rfl ?_) | (refine CL.condF rfl ?_) | (refine CL.cond rfl (fun _ => ?_) (fun _ => ?_)) | (refine CL.block ?_) | (refine CL.exit ?_) | (refine Ex.then ?_) | (refine Ex.hit ?_) | (refine Ex.miss rfl ?_) | (refine CL.ret ?_) | (refine Rt.then ?_) | (refine Rt.block ?_) | (refine Pn.then ?_) | (refine Pn.block ?_) | (refine CL.done ?_) | (refine Nm.block ?_) | (refine Nm.then ?_) | (refine Gt.nil ?_; refine RW.nilw [0, 2, 3, 4, 5, 6, 7, 8, 27, 28, 29, 30] ?_; dsimp only [H.keep, H.look, H.Fr.put, Nat.beq]) | (refine Gt.move ?_; refine RW.y (Y.move rfl) rfl ?_) | (refine Gt.guard ?_; first | (refine RW.part rfl rfl rfl (fun _ => ?_) (fun _ => ?_) <;> try (exfalso; omega)) | (refine RW.on rfl rfl rfl ?_) | (refine RW.off1 rfl rfl rfl rfl rfl ?_) | (refine RW.off rfl rfl rfl rfl rfl ?_) | (refine RW.offu rfl rfl rfl rfl ?_) | (refine RW.partb rfl rfl rfl (fun _ => ?_) (fun _ => ?_))) | (refine Gt.load ?_; first | (refine RW.y (Y.loadB rfl (by assumption) rfl) rfl ?_) | (refine RW.y (Y.loadBlock rfl (by assumption) rfl) rfl ?_)) | (refine Gt.len ?_; first | (refine RW.y (Y.lenv rfl) rfl ?_) | (refine RW.y (Y.lenx rfl (by assumption)) rfl ?_) | (refine RW.y (Y.lens rfl) rfl ?_)) | (refine Gt.pick ?_; first | (refine RW.y (Y.pickT rfl rfl) rfl ?_) | (refine RW.y (Y.pickF rfl rfl) rfl ?_)) | (refine Gt.assign ?_; refine RW.y (Y.assign rfl) rfl ?_) | (refine Gt.add ?_; refine RW.y (Y.add64 rfl rfl (by omega) (by omega)) rfl ?_) | (refine Gt.idx ?_; first | (refine RW.elemS rfl rfl rfl rfl (by assumption) (by omega) (by omega) ?_) | (refine RW.elemF rfl rfl rfl rfl rfl rfl (by assumption) (fun _ => by rfl) rfl (by omega) (by omega) (by rfl) (fun _ _ => ?_)) | (refine RW.elemA rfl rfl rfl rfl (by assumption) (fun _ => by rfl) rfl (by omega) (by omega) (fun _ => ?_))) | (refine Gt.lss ?_; first | (refine RW.y (Y.lss rfl rfl) rfl ?_) | (refine RW.y (Y.lts rfl rfl) rfl ?_)) | (refine Gt.fieldAddr ?_; refine RW.y (Y.fieldAddr rfl (by rfl)) rfl ?_) | (refine Gt.makeFunc ?_; refine RW.y (Y.makeFunc rfl rfl) rfl ?_) | (refine Gt.leq ?_; refine RW.y (Y.leq rfl rfl) rfl ?_) | (refine Gt.eql ?_; first | (refine RW.y (Y.eqs rfl rfl) rfl ?_) | (refine RW.y (Y.eqi rfl rfl) rfl ?_)) | (refine Gt.sub ?_; refine RW.y (Y.sub64 rfl rfl (by omega) (by omega)) rfl ?_))
                have hIl' : ∀ x ∈ acc ++ [X], ∀ g, live x.p = some g → w4.heap.size ≤ g := fun x hx g hg => by
                  rcases List.mem_append.1 hx with hx | hx
                  · exact hIl x hx g hg
                  · rw [List.mem_singleton.1 hx] at hg; have := hnl g hg; omega
                have hend : Kept (fun k => k = w.heap.size) w4 w9 := by
                  have a1 := (((hkr.trans0 hk5).trans0 hkv).trans0 hS)
                  exact (a1.trans hk8 fun k h => .inr (hI.lt k h).1).trans hk9 fun k h => .inl h
                refine ⟨tl.length - (i + 1), _, rfl, rfl, rfl, by omega, i + 1, q', acc ++ [X], rfl, rfl, by omega, j0, hI8.keep hk9 (fun g hg h c => by
                  have c' : g = w.heap.size := c
                  rcases h with h | ⟨x, hx, h⟩
                  · have := (hI8.lt g h).1; omega
                  · have := hIl' x hx g h; omega), hIl', ?_, by rw [List.length_append, List.length_singleton]; omega, ?_⟩
                · rw [hinv, hgo, List.map_append, List.map_cons, List.map_nil, hXd]
                · exact hend
              | false =>
                have hc2' := of_decide_eq_false hc2
                have hne2 : acc ≠ [] := List.length_pos_iff.1 (by omega)
                have hln := last_name acc hne2
                obtain ⟨c3, hc3⟩ : ∃ b, Op.bytesLess (acc.getD ((acc.length : Int) - 1).toNat default).d.name X.d.name = b := ⟨_, rfl⟩
                obtain ⟨g1, o1, hsp1, hcl1⟩ := elSpot hIv.ga.1 pmK.len (i := (acc.length : Int) - 1) (by omega) (by omega)
                skip
                refine AD.take 0 rfl (by kernel_rfl) (by kernel_rfl) (by kernel_rfl) rfl rfl (by assumption) (fun w hS => Y.loadB rfl (hS.at0 i0) rfl) ?_
                refine AD.take 1 rfl (by kernel_rfl) (by kernel_rfl) (by kernel_rfl) rfl rfl (by assumption) (fun w hS => Y.lenx rfl (hsA _ hS)) ?_
                refine AD.take 2 rfl (by kernel_rfl) (by kernel_rfl) (by kernel_rfl) rfl rfl (by assumption) (fun w hS => Y.lssE rfl rfl hc1) ?_
                refine AD.take 3 rfl (by kernel_rfl) (by kernel_rfl) (by kernel_rfl) rfl rfl (by assumption) (fun w hS => Y.move rfl) ?_
                refine AD.takeOn 4 rfl (by kernel_rfl) (by kernel_rfl) (by kernel_rfl) rfl rfl rfl rfl rfl (by assumption) (fun w hS => Y.loadB rfl (hS.at0 i0) rfl) ?_
                refine AD.takeOn 5 rfl (by kernel_rfl) (by kernel_rfl) (by kernel_rfl) rfl rfl rfl rfl rfl (by assumption) (fun w hS => Y.lenx rfl (hsA _ hS)) ?_
                refine AD.takeOn 6 rfl (by kernel_rfl) (by kernel_rfl) (by kernel_rfl) rfl rfl rfl rfl rfl (by assumption) (fun w hS => Y.eqiE rfl rfl hc2) ?_
                refine AD.takeOn 7 rfl (by kernel_rfl) (by kernel_rfl) (by kernel_rfl) rfl rfl rfl rfl rfl (by assumption) (fun w hS => Y.move rfl) ?_
                refine AD.takeOn 8 rfl (by kernel_rfl) (by kernel_rfl) (by kernel_rfl) rfl rfl rfl rfl rfl (by assumption) (fun w hS => Y.loadB rfl (hS.at0 i0) rfl) ?_
                refine AD.takeOn 9 rfl (by kernel_rfl) (by kernel_rfl) (by kernel_rfl) rfl rfl rfl rfl rfl (by assumption) (fun w hS => Y.loadB rfl (hS.at0 i0) rfl) ?_
                refine AD.takeOn 10 rfl (by kernel_rfl) (by kernel_rfl) (by kernel_rfl) rfl rfl rfl rfl rfl (by assumption) (fun w hS => Y.lenx rfl (hsA _ hS)) ?_
                refine AD.takeOn 11 rfl (by kernel_rfl) (by kernel_rfl) (by kernel_rfl) rfl rfl rfl rfl rfl (by assumption) (fun w hS => by first | exact Y.sub64 rfl rfl (by omega) (by omega) | exact Y.subN rfl rfl (by first | exact wrap64_id (by omega) (by omega) | exact wrapu64_id (by omega) (by omega) | exact wrapu8_id (by omega) (by omega) | exact wrapu16_id (by omega) (by omega) | exact wrapu32_id (by omega) (by omega))) ?_
                refine AD.takeOn 12 rfl (by kernel_rfl) (by kernel_rfl) (by kernel_rfl) rfl rfl rfl rfl rfl (by assumption) (fun w hS => Y.idx rfl rfl (hsA _ hS) (by omega) (by omega)) ?_
                refine AD.takeOn 13 rfl (by kernel_rfl) (by kernel_rfl) (by kernel_rfl) rfl rfl rfl rfl rfl (by assumption) (fun w hS => Y.fieldAddr (congrArg (fun a => some (Value.pointer (some a))) hsp1) (by rfl)) ?_
                refine AD.takeOn 14 rfl (by kernel_rfl) (by kernel_rfl) (by kernel_rfl) rfl rfl rfl rfl rfl (by assumption) (fun w hS => Y.load1A rfl (hcl1 _ hS 0 _ rfl)) ?_
                refine AD.takeOn 15 rfl (by kernel_rfl) (by kernel_rfl) (by kernel_rfl) rfl rfl rfl rfl rfl (by assumption) (fun w hS => Y.fieldAddr rfl (by rfl)) ?_
                refine AD.takeOn 16 rfl (by kernel_rfl) (by kernel_rfl) (by kernel_rfl) rfl rfl rfl rfl rfl (by assumption) (fun w hS => Y.load1A rfl (hbl _ hS 0 _ rfl)) ?_
                refine AD.takeOn 17 rfl (by kernel_rfl) (by kernel_rfl) (by kernel_rfl) rfl rfl rfl rfl rfl (by assumption) (fun w hS => Y.ltsE rfl rfl hc3) ?_
                refine AD.takeOn 18 rfl (by kernel_rfl) (by kernel_rfl) (by kernel_rfl) rfl rfl rfl rfl rfl (by assumption) (fun w hS => by first | exact Y.pickT rfl rfl | exact Y.pickF rfl rfl) ?_
                refine AD.take 19 rfl (by kernel_rfl) (by kernel_rfl) (by kernel_rfl) rfl rfl (by assumption) (fun w hS => by first | exact Y.pickT rfl rfl | exact Y.pickF rfl rfl) ?_
                refine AD.take 20 rfl (by kernel_rfl) (by kernel_rfl) (by kernel_rfl) rfl rfl (by assumption) (fun w hS => Y.move rfl) ?_
                refine AD.take 21 rfl (by kernel_rfl) (by kernel_rfl) (by kernel_rfl) rfl rfl (by assumption) (fun w hS => by first | exact Y.add64 rfl rfl (by omega) (by omega) | exact Y.addu rfl rfl (by omega) (by omega) | exact Y.addN rfl rfl (by first | exact wrap64_id (by omega) (by omega) | exact wrapu64_id (by omega) (by omega) | exact wrapu8_id (by omega) (by omega) | exact wrapu16_id (by omega) (by omega) | exact wrapu32_id (by omega) (by omega)) | exact Y.cat rfl rfl (by first | omega | (simp only [List.length_append, List.length_cons, List.length_nil]; omega))) ?_
                refine AW.next 22 rfl (by kernel_rfl) ?_
                rw [show ((acc.length : Int) - 1).toNat = acc.length - 1 from by omega, ← hln, hXd] at hc3
                cases c3 with
                | false =>
                  refine RW.fn rfl rfl ((must false _ w6).mono ?_)
                  rintro e w7 ⟨rfl, rfl⟩
                  have hst' : rdPins (tl.drop i) (acc.map (·.d)) (i + 2) = ([], ((i + 2 : Nat) : Int), 63) := by
                    rw [hst]; refine if_neg ?_
                    rintro ⟨_, c | c⟩
                    · exact hne2 (List.map_eq_nil_iff.1 c)
                    · rw [hc3] at c; cases c
                  rw [hinv, hst']
                  have i0 := hS.at0 i0
                  have i1 := hS.at0 i1
                  have i2 := hS.at0 i2
                  have hKc := hKc.trans0 hS
                  (first | refine H.After.pn ?_ | refine H.After0.pn ?_ | skip); repeat' (first | refine Pn.then ?_ | refine Pn.block ?_)
                  exact parseFail _ _ _ _ _ _ _ _ _ _ _ _ rfl rfl rfl rfl i0 i1 i2 (by omega) (by omega) (by omega) (fun w' hk => ⟨hKc.trans hk fun k h => .inr (by rcases h with h | h | h <;> omega), LockP.bad _ w'⟩)
                | true =>
                  refine RW.fn rfl rfl ((must true _ w6).mono ?_)
                  rintro e w7 ⟨rfl, rfl⟩
                  have hgo : rdPins (tl.drop i) (acc.map (·.d)) (i + 2) = rdPins (tl.drop (i + 1)) (acc.map (·.d) ++ [p]) (i + 2 + 1) := by
                    rw [hst]; exact if_pos ⟨by omega, .inr hc3⟩
                  have i0 := hS.at0 i0
                  have i1 := hS.at0 i1
                  have i2 := hS.at0 i2
                  have hbv6 := hS.at0 hbv
                  have hI6 := hIv.keep0 hS
                  have hD6 := pmK.keep0 hDv hS
                  have hz6 := hS.size
                  refine RW.nil (Nm.then ⟨hS, ?_⟩)
                  skip
                  refine AW.donew [2, 3, 4, 8, 27, 28, 29] (by kernel_rfl) ?_
                  dsimp only [H.keep, H.look, H.Fr.put, Nat.beq]
                  repeat' (first | (refine CL.seq ?_) | (refine CL.region ?_) | (refine CL.skip ?_) | (refine CL.condP rfl (fun _ => ?_) (fun _ => ?_) <;> try (exfalso; omega)) | (refine CL.condT rfl ?_) | (refine CL.condF rfl ?_) | (refine CL.cond rfl (fun _ => ?_) (fun _ => ?_)) | (refine CL.block ?_) | (refine CL.exit ?_) | (refine Ex.then ?_) | (refine Ex.hit ?_) | (refine Ex.miss rfl ?_) | (refine CL.ret ?_) | (refine Rt.then ?_) | (refine Rt.block ?_) | (refine Pn.then ?_) | (refine Pn.block ?_) | (refine CL.done ?_) | (refine Nm.block ?_) | (refine Nm.then ?_) | (refine Gt.nil ?_; refine RW.nilw [0, 2, 3, 4, 5, 6, 7, 8, 27, 28, 29, 30] ?_; dsimp only [H.keep, H.look, H.Fr.put, Nat.beq]) | (refine Gt.move ?_; refine RW.y (Y.move rfl) rfl ?_) | (refine Gt.guard ?_; first | (refine RW.part rfl rfl rfl (fun _ => ?_) (fun _ => ?_) <;> try (exfalso; omega)) | (refine RW.on rfl rfl rfl ?_) | (refine RW.off1 rfl rfl rfl rfl rfl ?_) | (refine RW.off rfl rfl rfl rfl rfl ?_) | (refine RW.offu rfl rfl rfl rfl ?_) | (refine RW.partb rfl rfl rfl (fun _ => ?_) (fun _ => ?_))) | (refine Gt.load ?_; first | (refine RW.y (Y.loadB rfl (by assumption) rfl) rfl ?_) | (refine RW.y (Y.loadBlock rfl (by assumption) rfl) rfl ?_)) | (refine Gt.len ?_; first | (refine RW.y (Y.lenv rfl) rfl ?_) | (refine RW.y (Y.lenx rfl (by assumption)) rfl ?_) | (refine RW.y (Y.lens rfl) rfl ?_)) | (refine Gt.pick ?_; first | (refine RW.y (Y.pickT rfl rfl) rfl ?_) | (refine RW.y (Y.pickF rfl rfl) rfl ?_)) | (refine Gt.assign ?_; refine RW.y (Y.assign rfl) rfl ?_) | (refine Gt.add ?_; refine RW.y (Y.add64 rfl rfl (by omega) (by omega)) rfl ?_) | (refine Gt.idx ?_; first | (refine RW.elemS rfl rfl rfl rfl (by assumption) (by omega) (by omega) ?_) | (refine RW.elemF rfl rfl rfl rfl rfl rfl (by assumption) (fun _ => by rfl) rfl (by omega) (by omega) (by rfl) (fun _ _ => ?_)) | (refine RW.elemA rfl rfl rfl rfl (by assumption) (fun _ => by rfl) rfl (by omega) (by omega) (fun _ => ?_))) | (refine Gt.lss ?_; first | (refine RW.y (Y.lss rfl rfl) rfl ?_) | (refine RW.y (Y.lts rfl rfl) rfl ?_)) | (refine Gt.fieldAddr ?_; refine RW.y (Y.fieldAddr rfl (by rfl)) rfl ?_) | (refine Gt.makeFunc ?_; refine RW.y (Y.makeFunc rfl rfl) rfl ?_) | (refine Gt.leq ?_; refine RW.y (Y.leq rfl rfl) rfl ?_) | (refine Gt.eql ?_; first | (refine RW.y (Y.eqs rfl rfl) rfl ?_) | (refine RW.y (Y.eqi rfl rfl) rfl ?_)) | (refine Gt.sub ?_; refine RW.y (Y.sub64 rfl rfl (by omega) (by omega)) rfl ?_))
                  refine RW.y (Y.loadBlock rfl hbv6 (by rw [List.size_toArray, pmC_len]; rfl)) rfl ?_
                  refine RW.appG pmK X rfl rfl rfl rfl hI6 rfl rfl rfl rfl hD6 (fun g hg c => by have := hnl g hg; have := (hI.lt g c).2; omega) (by omega) (by omega) rfl (fun q' w8 hI8 hk8 hl8 => ?_)
                  have i0 := hk8.at i0 (fun c => by have := (hI.lt _ c).1; omega)
                  have i1 := hk8.at i1 (fun c => by have := (hI.lt _ c).1; omega)
                  have i2 := hk8.at i2 (fun c => by have := (hI.lt _ c).1; omega)
                  refine RW.storeB rfl rfl hI8.ga.1.one i0 (by simp) (fun w9 j0 hk9 => ?_)
                  repeat' (first | (refine CL.seq ?_) | (refine CL.region ?_) | (refine CL.skip ?_) | (refine CL.condP rfl (fun _ => ?_) (fun _ => ?_) <;> try (exfalso; omega)) | (refine CL.condT rfl ?_) | (refine CL.condF rfl ?_) | (refine CL.cond rfl (fun _ => ?_) (fun _ => ?_)) | (refine CL.block ?_) | (refine CL.exit ?_) | (refine Ex.then ?_) | (refine Ex.hit ?_) | (refine Ex.miss rfl ?_) | (refine CL.ret ?_) | (refine Rt.then ?_) | (refine Rt.block ?_) | (refine Pn.then ?_) | (refine Pn.block ?_) | (refine CL.done ?_) | (refine Nm.block ?_) | (refine Nm.then ?_) | (refine Gt.nil ?_; refine RW.nilw [0, 2, 3, 4, 5, 6, 7, 8, 27, 28, 29, 30] ?_; dsimp only [H.keep, H.look, H.Fr.put, Nat.beq]) | (refine Gt.move ?_; refine RW.y (Y.move rfl) rfl ?_) | (refine Gt.guard ?_; first | (refine RW.part rfl rfl rfl (fun _ => ?_) (fun _ => ?_) <;> try (exfalso; omega)) | (refine RW.on rfl rfl rfl ?_) | (refine RW.off1 rfl rfl rfl rfl rfl ?_) | (refine RW.off rfl rfl rfl rfl rfl ?_) | (refine RW.offu rfl rfl rfl rfl ?_) | (refine RW.partb rfl rfl rfl (fun _ => ?_) (fun _ => ?_))) | (refine Gt.load ?_; first | (refine RW.y (Y.loadB rfl (by assumption) rfl) rfl ?_) | (refine RW.y (Y.loadBlock rfl (by assumption) rfl) rfl ?_)) | (refine Gt.len ?_; first | (refine RW.y (Y.lenv rfl) rfl ?_) | (refine RW.y (Y.lenx rfl (by assumption)) rfl ?_) | (refine RW.y (Y.lens rfl) rfl ?_)) | (refine Gt.pick ?_; first | (refine RW.y (Y.pickT rfl rfl) rfl ?_) | (refine RW.y (Y.pickF rfl rfl) rfl ?_)) | (refine Gt.assign ?_; refine RW.y (Y.assign rfl) rfl ?_) | (refine Gt.add ?_; refine RW.y (Y.add64 rfl rfl (by omega) (by omega)) rfl ?_) | (refine Gt.idx ?_; first | (refine RW.elemS rfl rfl rfl rfl (by assumption) (by omega) (by omega) ?_) | (refine RW.elemF rfl rfl rfl rfl rfl rfl (by assumption) (fun _ => by rfl) rfl (by omega) (by omega) (by rfl) (fun _ _ => ?_)) | (refine RW.elemA rfl rfl rfl rfl (by assumption) (fun _ => by rfl) rfl (by omega) (by omega) (fun _ => ?_))) | (refine Gt.lss ?_; first | (refine RW.y (Y.lss rfl rfl) rfl ?_) | (refine RW.y (Y.lts rfl rfl) rfl ?_)) | (refine Gt.fieldAddr ?_; refine RW.y (Y.fieldAddr rfl (by rfl)) rfl ?_) | (refine Gt.makeFunc ?_; refine RW.y (Y.makeFunc rfl rfl) rfl ?_) | (refine Gt.leq ?_; refine RW.y (Y.leq rfl rfl) rfl ?_) | (refine Gt.eql ?_; first | (refine RW.y (Y.eqs rfl rfl) rfl ?_) | (refine RW.y (Y.eqi rfl rfl) rfl ?_)) | (refine Gt.sub ?_; refine RW.y (Y.sub64 rfl rfl (by omega) (by omega)) rfl ?_))
                  have hIl' : ∀ x ∈ acc ++ [X], ∀ g, live x.p = some g → w4.heap.size ≤ g := fun x hx g hg => by
                    rcases List.mem_append.1 hx with hx | hx
                    · exact hIl x hx g hg
                    · rw [List.mem_singleton.1 hx] at hg; have := hnl g hg; omega
                  have hend : Kept (fun k => k = w.heap.size) w4 w9 := by
                    have a1 := (((hkr.trans0 hk5).trans0 hkv).trans0 hS)
                    exact (a1.trans hk8 fun k h => .inr (hI.lt k h).1).trans hk9 fun k h => .inl h
                  refine ⟨tl.length - (i + 1), _, rfl, rfl, rfl, by omega, i + 1, q', acc ++ [X], rfl, rfl, by omega, j0, hI8.keep hk9 (fun g hg h c => by
                    have c' : g = w.heap.size := c
                    rcases h with h | ⟨x, hx, h⟩
                    · have := (hI8.lt g h).1; omega
                    · have := hIl' x hx g h; omega), hIl', ?_, by rw [List.length_append, List.length_singleton]; omega, ?_⟩
                  · rw [hinv, hgo, List.map_append, List.map_cons, List.map_nil, hXd]
                  · exact hend
        · have hi : i = tl.length := by omega
          subst hi
          rw [List.drop_length, rdPins] at hinv
          repeat' (first | (refine CL.seq ?_) | (refine CL.region ?_) | (refine CL.skip ?_) | (refine CL.condP rfl (fun _ => ?_) (fun _ => ?_) <;> try (exfalso; omega)) | (refine CL.condT rfl ?_) | (refine CL.condF rfl ?_) | (refine CL.cond rfl (fun _ => ?_) (fun _ => ?_)) | (refine CL.block ?_) | (refine CL.exit ?_) | (refine Ex.then ?_) | (refine Ex.hit ?_) | (refine Ex.miss rfl ?_) | (refine CL.ret ?_) | (refine Rt.then ?_) | (refine Rt.block ?_) | (refine Pn.then ?_) | (refine Pn.block ?_) | (refine CL.done ?_) | (refine Nm.block ?_) | (refine Nm.then ?_) | (refine Gt.nil ?_; refine RW.nilw [0, 2, 3, 4, 5, 6, 7, 8, 27, 28, 29, 30] ?_; dsimp only [H.keep, H.look, H.Fr.put, Nat.beq]) | (refine Gt.move ?_; refine RW.y (Y.move rfl) rfl ?_) | (refine Gt.guard ?_; first | (refine RW.part rfl rfl rfl (fun _ => ?_) (fun _ => ?_) <;> try (exfalso; omega)) | (refine RW.on rfl rfl rfl ?_) | (refine RW.off1 rfl rfl rfl rfl rfl ?_) | (refine RW.off rfl rfl rfl rfl rfl ?_) | (refine RW.offu rfl rfl rfl rfl ?_) | (refine RW.partb rfl rfl rfl (fun _ => ?_) (fun _ => ?_))) | (refine Gt.load ?_; first | (refine RW.y (Y.loadB rfl (by assumption) rfl) rfl ?_) | (refine RW.y (Y.loadBlock rfl (by assumption) rfl) rfl ?_)) | (refine Gt.len ?_; first | (refine RW.y (Y.lenv rfl) rfl ?_) | (refine RW.y (Y.lenx rfl (by assumption)) rfl ?_) | (refine RW.y (Y.lens rfl) rfl ?_)) | (refine Gt.pick ?_; first | (refine RW.y (Y.pickT rfl rfl) rfl ?_) | (refine RW.y (Y.pickF rfl rfl) rfl ?_)) | (refine Gt.assign ?_; refine RW.y (Y.assign rfl) rfl ?_) | (refine Gt.add ?_; refine RW.y (Y.add64 rfl rfl (by omega) (by omega)) rfl ?_) | (refine Gt.idx ?_; first | (refine RW.elemS rfl rfl rfl rfl (by assumption) (by omega) (by omega) ?_) | (refine RW.elemF rfl rfl rfl rfl rfl rfl (by assumption) (fun _ => by rfl) rfl (by omega) (by omega) (by rfl) (fun _ _ => ?_)) | (refine RW.elemA rfl rfl rfl rfl (by assumption) (fun _ => by rfl) rfl (by omega) (by omega) (fun _ => ?_))) | (refine Gt.lss ?_; first | (refine RW.y (Y.lss rfl rfl) rfl ?_) | (refine RW.y (Y.lts rfl rfl) rfl ?_)) | (refine Gt.fieldAddr ?_; refine RW.y (Y.fieldAddr rfl (by rfl)) rfl ?_) | (refine Gt.makeFunc ?_; refine RW.y (Y.makeFunc rfl rfl) rfl ?_) | (refine Gt.leq ?_; refine RW.y (Y.leq rfl rfl) rfl ?_) | (refine Gt.eql ?_; first | (refine RW.y (Y.eqs rfl rfl) rfl ?_) | (refine RW.y (Y.eqi rfl rfl) rfl ?_)) | (refine Gt.sub ?_; refine RW.y (Y.sub64 rfl rfl (by omega) (by omega)) rfl ?_))
          refine RW.storeB rfl rfl hI.ga.1.one hq0 (by show 0 < 1; omega) (fun w5 j0 hk5 => ?_)
          repeat' (first | (refine CL.seq ?_) | (refine CL.region ?_) | (refine CL.skip ?_) | (refine CL.condP rfl (fun _ => ?_) (fun _ => ?_) <;> try (exfalso; omega)) | (refine CL.condT rfl ?_) | (refine CL.condF rfl ?_) | (refine CL.cond rfl (fun _ => ?_) (fun _ => ?_)) | (refine CL.block ?_) | (refine CL.exit ?_) | (refine Ex.then ?_) | (refine Ex.hit ?_) | (refine Ex.miss rfl ?_) | (refine CL.ret ?_) | (refine Rt.then ?_) | (refine Rt.block ?_) | (refine Pn.then ?_) | (refine Pn.block ?_) | (refine CL.done ?_) | (refine Nm.block ?_) | (refine Nm.then ?_) | (refine Gt.nil ?_; refine RW.nilw [0, 2, 3, 4, 5, 6, 7, 8, 27, 28, 29, 30] ?_; dsimp only [H.keep, H.look, H.Fr.put, Nat.beq]) | (refine Gt.move ?_; refine RW.y (Y.move rfl) rfl ?_) | (refine Gt.guard ?_; first | (refine RW.part rfl rfl rfl (fun _ => ?_) (fun _ => ?_) <;> try (exfalso; omega)) | (refine RW.on rfl rfl rfl ?_) | (refine RW.off1 rfl rfl rfl rfl rfl ?_) | (refine RW.off rfl rfl rfl rfl rfl ?_) | (refine RW.offu rfl rfl rfl rfl ?_) | (refine RW.partb rfl rfl rfl (fun _ => ?_) (fun _ => ?_))) | (refine Gt.load ?_; first | (refine RW.y (Y.loadB rfl (by assumption) rfl) rfl ?_) | (refine RW.y (Y.loadBlock rfl (by assumption) rfl) rfl ?_)) | (refine Gt.len ?_; first | (refine RW.y (Y.lenv rfl) rfl ?_) | (refine RW.y (Y.lenx rfl (by assumption)) rfl ?_) | (refine RW.y (Y.lens rfl) rfl ?_)) | (refine Gt.pick ?_; first | (refine RW.y (Y.pickT rfl rfl) rfl ?_) | (refine RW.y (Y.pickF rfl rfl) rfl ?_)) | (refine Gt.assign ?_; refine RW.y (Y.assign rfl) rfl ?_) | (refine Gt.add ?_; refine RW.y (Y.add64 rfl rfl (by omega) (by omega)) rfl ?_) | (refine Gt.idx ?_; first | (refine RW.elemS rfl rfl rfl rfl (by assumption) (by omega) (by omega) ?_) | (refine RW.elemF rfl rfl rfl rfl rfl rfl (by assumption) (fun _ => by rfl) rfl (by omega) (by omega) (by rfl) (fun _ _ => ?_)) | (refine RW.elemA rfl rfl rfl rfl (by assumption) (fun _ => by rfl) rfl (by omega) (by omega) (fun _ => ?_))) | (refine Gt.lss ?_; first | (refine RW.y (Y.lss rfl rfl) rfl ?_) | (refine RW.y (Y.lts rfl rfl) rfl ?_)) | (refine Gt.fieldAddr ?_; refine RW.y (Y.fieldAddr rfl (by rfl)) rfl ?_) | (refine Gt.makeFunc ?_; refine RW.y (Y.makeFunc rfl rfl) rfl ?_) | (refine Gt.leq ?_; refine RW.y (Y.leq rfl rfl) rfl ?_) | (refine Gt.eql ?_; first | (refine RW.y (Y.eqs rfl rfl) rfl ?_) | (refine RW.y (Y.eqi rfl rfl) rfl ?_)) | (refine Gt.sub ?_; refine RW.y (Y.sub64 rfl rfl (by omega) (by omega)) rfl ?_))
          refine RW.storeB rfl rfl rfl (hk5.at i1r (by omega)) (by show 0 < 1; omega) (fun w6 j1 hk6 => ?_)
          repeat' (first | (refine CL.seq ?_) | (refine CL.region ?_) | (refine CL.skip ?_) | (refine CL.condP rfl (fun _ => ?_) (fun _ => ?_) <;> try (exfalso; omega)) | (refine CL.condT rfl ?_) | (refine CL.condF rfl ?_) | (refine CL.cond rfl (fun _ => ?_) (fun _ => ?_)) | (refine CL.block ?_) | (refine CL.exit ?_) | (refine Ex.then ?_) | (refine Ex.hit ?_) | (refine Ex.miss rfl ?_) | (refine CL.ret ?_) | (refine Rt.then ?_) | (refine Rt.block ?_) | (refine Pn.then ?_) | (refine Pn.block ?_) | (refine CL.done ?_) | (refine Nm.block ?_) | (refine Nm.then ?_) | (refine Gt.nil ?_; refine RW.nilw [0, 2, 3, 4, 5, 6, 7, 8, 27, 28, 29, 30] ?_; dsimp only [H.keep, H.look, H.Fr.put, Nat.beq]) | (refine Gt.move ?_; refine RW.y (Y.move rfl) rfl ?_) | (refine Gt.guard ?_; first | (refine RW.part rfl rfl rfl (fun _ => ?_) (fun _ => ?_) <;> try (exfalso; omega)) | (refine RW.on rfl rfl rfl ?_) | (refine RW.off1 rfl rfl rfl rfl rfl ?_) | (refine RW.off rfl rfl rfl rfl rfl ?_) | (refine RW.offu rfl rfl rfl rfl ?_) | (refine RW.partb rfl rfl rfl (fun _ => ?_) (fun _ => ?_))) | (refine Gt.load ?_; first | (refine RW.y (Y.loadB rfl (by assumption) rfl) rfl ?_) | (refine RW.y (Y.loadBlock rfl (by assumption) rfl) rfl ?_)) | (refine Gt.len ?_; first | (refine RW.y (Y.lenv rfl) rfl ?_) | (refine RW.y (Y.lenx rfl (by assumption)) rfl ?_) | (refine RW.y (Y.lens rfl) rfl ?_)) | (refine Gt.pick ?_; first | (refine RW.y (Y.pickT rfl rfl) rfl ?_) | (refine RW.y (Y.pickF rfl rfl) rfl ?_)) | (refine Gt.assign ?_; refine RW.y (Y.assign rfl) rfl ?_) | (refine Gt.add ?_; refine RW.y (Y.add64 rfl rfl (by omega) (by omega)) rfl ?_) | (refine Gt.idx ?_; first | (refine RW.elemS rfl rfl rfl rfl (by assumption) (by omega) (by omega) ?_) | (refine RW.elemF rfl rfl rfl rfl rfl rfl (by assumption) (fun _ => by rfl) rfl (by omega) (by omega) (by rfl) (fun _ _ => ?_)) | (refine RW.elemA rfl rfl rfl rfl (by assumption) (fun _ => by rfl) rfl (by omega) (by omega) (fun _ => ?_))) | (refine Gt.lss ?_; first | (refine RW.y (Y.lss rfl rfl) rfl ?_) | (refine RW.y (Y.lts rfl rfl) rfl ?_)) | (refine Gt.fieldAddr ?_; refine RW.y (Y.fieldAddr rfl (by rfl)) rfl ?_) | (refine Gt.makeFunc ?_; refine RW.y (Y.makeFunc rfl rfl) rfl ?_) | (refine Gt.leq ?_; refine RW.y (Y.leq rfl rfl) rfl ?_) | (refine Gt.eql ?_; first | (refine RW.y (Y.eqs rfl rfl) rfl ?_) | (refine RW.y (Y.eqi rfl rfl) rfl ?_)) | (refine Gt.sub ?_; refine RW.y (Y.sub64 rfl rfl (by omega) (by omega)) rfl ?_))
          refine RW.storeB rfl rfl rfl (hk6.at (hk5.at i2r (by omega)) (by omega)) (by show 0 < 1; omega) (fun w7 j2 hk7 => ?_)
          repeat' (first | (refine CL.seq ?_) | (refine CL.region ?_) | (refine CL.skip ?_) | (refine CL.condP rfl (fun _ => ?_) (fun _ => ?_) <;> try (exfalso; omega)) | (refine CL.condT rfl ?_) | (refine CL.condF rfl ?_) | (refine CL.cond rfl (fun _ => ?_) (fun _ => ?_)) | (refine CL.block ?_) | (refine CL.exit ?_) | (refine Ex.then ?_) | (refine Ex.hit ?_) | (refine Ex.miss rfl ?_) | (refine CL.ret ?_) | (refine Rt.then ?_) | (refine Rt.block ?_) | (refine Pn.then ?_) | (refine Pn.block ?_) | (refine CL.done ?_) | (refine Nm.block ?_) | (refine Nm.then ?_) | (refine Gt.nil ?_; refine RW.nilw [0, 2, 3, 4, 5, 6, 7, 8, 27, 28, 29, 30] ?_; dsimp only [H.keep, H.look, H.Fr.put, Nat.beq]) | (refine Gt.move ?_; refine RW.y (Y.move rfl) rfl ?_) | (refine Gt.guard ?_; first | (refine RW.part rfl rfl rfl (fun _ => ?_) (fun _ => ?_) <;> try (exfalso; omega)) | (refine RW.on rfl rfl rfl ?_) | (refine RW.off1 rfl rfl rfl rfl rfl ?_) | (refine RW.off rfl rfl rfl rfl rfl ?_) | (refine RW.offu rfl rfl rfl rfl ?_) | (refine RW.partb rfl rfl rfl (fun _ => ?_) (fun _ => ?_))) | (refine Gt.load ?_; first | (refine RW.y (Y.loadB rfl (by assumption) rfl) rfl ?_) | (refine RW.y (Y.loadBlock rfl (by assumption) rfl) rfl ?_)) | (refine Gt.len ?_; first | (refine RW.y (Y.lenv rfl) rfl ?_) | (refine RW.y (Y.lenx rfl (by assumption)) rfl ?_) | (refine RW.y (Y.lens rfl) rfl ?_)) | (refine Gt.pick ?_; first | (refine RW.y (Y.pickT rfl rfl) rfl ?_) | (refine RW.y (Y.pickF rfl rfl) rfl ?_)) | (refine Gt.assign ?_; refine RW.y (Y.assign rfl) rfl ?_) | (refine Gt.add ?_; refine RW.y (Y.add64 rfl rfl (by omega) (by omega)) rfl ?_) | (refine Gt.idx ?_; first | (refine RW.elemS rfl rfl rfl rfl (by assumption) (by omega) (by omega) ?_) | (refine RW.elemF rfl rfl rfl rfl rfl rfl (by assumption) (fun _ => by rfl) rfl (by omega) (by omega) (by rfl) (fun _ _ => ?_)) | (refine RW.elemA rfl rfl rfl rfl (by assumption) (fun _ => by rfl) rfl (by omega) (by omega) (fun _ => ?_))) | (refine Gt.lss ?_; first | (refine RW.y (Y.lss rfl rfl) rfl ?_) | (refine RW.y (Y.lts rfl rfl) rfl ?_)) | (refine Gt.fieldAddr ?_; refine RW.y (Y.fieldAddr rfl (by rfl)) rfl ?_) | (refine Gt.makeFunc ?_; refine RW.y (Y.makeFunc rfl rfl) rfl ?_) | (refine Gt.leq ?_; refine RW.y (Y.leq rfl rfl) rfl ?_) | (refine Gt.eql ?_; first | (refine RW.y (Y.eqs rfl rfl) rfl ?_) | (refine RW.y (Y.eqi rfl rfl) rfl ?_)) | (refine Gt.sub ?_; refine RW.y (Y.sub64 rfl rfl (by omega) (by omega)) rfl ?_))
          have hKk : Kept (fun k => k = w.heap.size ∨ k = w1.heap.size ∨ k = w2.heap.size) wr w7 := ((hk5.mono fun k h => .inl h).trans hk6 fun k h => .inl (.inr (.inl h))).trans hk7 fun k h => .inl (.inr (.inr h))
          have j0' : w7.heap[w.heap.size]? = some (.cells #[q] 23 (0, 0)) := hk7.at (hk6.at j0 (by omega)) (by omega)
          have j1' : w7.heap[w1.heap.size]? = some (.cells #[.int .i64 0] _ (0, 0)) := hk7.at j1 (by omega)
          refine parseDone _ _ _ _ _ _ _ _ _ _ _ rfl rfl rfl rfl j0' j1' j2 ?_
          refine ⟨hKr.trans hKk fun k h => .inr (by rcases h with h | h | h <;> omega), ?_⟩
          rw [hinv]
          have hGA : GA pmK w7 q acc := GA.keep hI.ga hKk fun g hl hg c => by
            rcases hg with hg | ⟨x, hx, hg⟩
            · have := (hI.lt g (live_own hg)).1; rcases c with c | c | c <;> omega
            · have := hIl x hx g hg; rcases c with c | c | c <;> omega
          exact ⟨q, acc, rfl, hGA, rfl⟩
      · rw [hh hhd]
        rw [show decide (l.getD 0 [] = ([108, 111, 99, 107, 32, 49] : T)) = false from decide_eq_false hhd]
        refine RW.fn rfl rfl ((must false 0 w4).mono ?_)
        rintro e w5 ⟨rfl, rfl⟩
        (first | refine H.After.pn ?_ | refine H.After0.pn ?_ | skip); repeat' (first | refine Pn.then ?_ | refine Pn.block ?_)
        exact parseFail _ _ _ _ _ _ _ _ _ _ _ _ rfl rfl rfl rfl i0 i1 i2 (by omega) (by omega) (by omega) (fun w' hk => ⟨hKc.trans hk fun k h => .inr (by rcases h with h | h | h <;> omega), LockP.bad _ w'⟩)
    · rw [decide_eq_false hsf, lock_long fun c => hsf c.2]
      refine RW.fn rfl rfl ((must false 0 w3).mono ?_)
      rintro e w4 ⟨rfl, rfl⟩
      (first | refine H.After.pn ?_ | refine H.After0.pn ?_ | skip); repeat' (first | refine Pn.then ?_ | refine Pn.block ?_)
      exact parseFail _ _ _ _ _ _ _ _ _ _ _ _ rfl rfl rfl rfl i0 i1 i2 (by omega) (by omega) (by omega) (fun w' hk => ⟨hKc.trans hk fun k h => .inr (by rcases h with h | h | h <;> omega), LockP.bad _ w'⟩)
  · rename_i h65
    rw [lock_long fun c => h65 (by omega)]
    refine RW.fn rfl rfl ((must false 0 w3).mono ?_)
    rintro e w4 ⟨rfl, rfl⟩
    (first | refine H.After.pn ?_ | refine H.After0.pn ?_ | skip); repeat' (first | refine Pn.then ?_ | refine Pn.block ?_)
    exact parseFail _ _ _ _ _ _ _ _ _ _ _ _ rfl rfl rfl rfl i0 i1 i2 (by omega) (by omega) (by omega) (fun w' hk => ⟨hKc.trans hk fun k h => .inr (by rcases h with h | h | h <;> omega), LockP.bad _ w'⟩)
end Go.Proofs.YtggodknolmdegaaGreatDoor.Lk

namespace Go.Proofs.YtggodknolmdegaaGreatDoor.Lk
open Go.RowKit H S Ve
section
variable {P : Program} {f : Fr} {w : World} {d : Nat} {ty : TypeId} {pos : String} {af : Array Edge} {t yt : TypeId} {x y : Operand}
theorem gesE {a b : List UInt8} {c : Bool} (hx : f.ev x = some (.string (H.B a))) (hy : f.ev y = some (.string (H.B b))) (h : (!(Op.bytesLess a b)) = c) : Yd P f (op1 d (.binOp .geq t x y yt) ty pos af) (.bool c) w := by
  subst h; exact Y.ges hx hy
end
attribute [local irreducible] H.CL H.RW H.CW H.Yd H.thenK H.blockQ Go.Calls keyAt unhexB

theorem last_app {s : T} (h : s ≠ []) : s = s.dropLast ++ [s.getLastD 0] := by
  rcases List.eq_nil_or_concat s with e | ⟨l, x, rfl⟩
  · exact absurd e h
  · simp [List.getLastD_concat]
theorem lines_drop {s : T} (h : s ≠ [] ∧ s.getLastD 0 = 10) : linesB s = splitB 10 s.dropLast := by
  have e := last_app h.1
  rw [h.2] at e
  have hs : splitB 10 s = splitB 10 s.dropLast ++ [[]] := by
    conv => lhs; rw [e]
    have := splitC_app 10 [] s.dropLast
    rw [this]; rfl
  rw [linesB, hs, List.getLastD_concat, if_pos rfl, List.dropLast_concat]
theorem head_iff {s : T} (h : s ≠ [] ∧ s.getLastD 0 = 10) : s.take 7 = headL ++ [10] ↔ (splitB 10 s.dropLast).headD [] = headL := by
  have e := last_app h.1
  rw [h.2] at e
  have hg := glueC_split 10 s.dropLast
  constructor
  · intro ht
    have hs : s = headL ++ 10 :: s.drop 7 := by
      have := List.take_append_drop 7 s
      rw [ht] at this
      rw [List.append_assoc] at this
      exact this.symm
    generalize s.drop 7 = r at *
    rcases List.eq_nil_or_concat r with e2 | ⟨r', y, rfl⟩
    · subst e2
      have hd : s.dropLast = headL := by rw [hs]; rfl
      rw [hd]; rfl
    · have hd : s.dropLast = headL ++ 10 :: r' := by rw [hs, List.concat_eq_append, show headL ++ 10 :: (r' ++ [y]) = (headL ++ 10 :: r') ++ [y] from by simp, List.dropLast_concat]
      rw [hd, splitC_app]; rfl
  · intro hh
    cases hsp : splitB 10 s.dropLast with
    | nil => exact absurd hsp (splitB_ne 10 _)
    | cons a r =>
      rw [hsp] at hg hh
      have ha : a = headL := hh
      subst ha
      rw [e, ← hg]
      cases r with
      | nil => rfl
      | cons b r =>
        show (glueC 10 (headL :: b :: r) ++ [10]).take 7 = _
        rw [glueC, List.append_assoc, List.cons_append]
        rfl

theorem refLong {s : T} (h : ¬ (s.length ≤ 65536 ∧ s.take 7 = headL ++ [10] ∧ s.getLastD 0 = 10)) : lockB s = ([], 0, 63) := by
  rw [lockB, if_neg]
  rintro ⟨a, b, c⟩
  have hne : s ≠ [] := fun e => by rw [e] at b; cases b
  exact h ⟨a, (head_iff ⟨hne, b⟩).2 c, b⟩
theorem refRest {s : T} (h : s.length ≤ 65536 ∧ s.take 7 = headL ++ [10] ∧ s.getLastD 0 = 10) : lockB s = rdPins (linesB s).tail [] 2 := by
  have hne : s ≠ [] := fun e => by rw [e] at h; cases h.2.2
  rw [lines_drop ⟨hne, h.2.2⟩]
  exact lock_rest ⟨h.1, hne, h.2.2⟩ ((head_iff ⟨hne, h.2.2⟩).1 h.2.1)
theorem getD_last (s : T) : s.getD (s.length - 1) 0 = s.getLastD 0 := by
  rcases List.eq_nil_or_concat s with e | ⟨a, x, rfl⟩
  · rw [e]; rfl
  · simp [List.getLastD_concat]
theorem ges_lt (a b : T) : (!(Op.bytesLess a b)) = !(ltT a b) := rfl

set_option maxHeartbeats 1000000 in
theorem refLockOf (s : T) (hl : s.length ≤ 1000000) (w : World) : Calls Tryz.prog 10 #[vs s] w fun e w' => K0 w w' ∧ LockP (lockB s) e w' := by
  refine H.enter Tryz.func10 Tryz.ntmps10 rfl rfl ?_; dsimp only [H.args]
  repeat' (first | (refine CL.seq ?_) | (refine CL.region ?_) | (refine CL.condT rfl ?_) | (refine CL.ret ?_) | (refine Gt.nil ?_; refine RW.nilw [0, 2, 3, 4, 5, 6, 7, 8, 9, 10, 11, 12, 28, 34, 74, 96] ?_; dsimp only [H.keep, H.look, H.Fr.put, Nat.beq]) | (refine Gt.move ?_; refine RW.y (Y.move rfl) rfl ?_) | (refine Gt.guard ?_; first | (refine RW.part rfl rfl rfl (fun _ => ?_) (fun _ => ?_) <;> try (exfalso; omega)) | (refine RW.on rfl rfl rfl ?_) | (refine RW.off1 rfl rfl rfl rfl rfl ?_)) | (refine Gt.assign ?_; refine RW.y (Y.assign rfl) rfl ?_) | (refine Gt.pick ?_; (refine RW.y (Y.pickT rfl rfl) rfl ?_)) | (refine Gt.len ?_; (refine RW.y (Y.lens rfl) rfl ?_)) | (refine Gt.gtr ?_; refine RW.y (Y.gtr rfl rfl) rfl ?_))
  · rename_i h
    rw [refLong fun c => by omega]
    exact FQ.res (rs := [.tmp 2, .tmp 3, .tmp 4]) (vs := [_, _, _]) rfl rfl ⟨rfl, rfl, rfl, trivial⟩ rfl (⟨Kept.refl _ _, LockP.bad _ _⟩)
  rename_i h65
  refine RW.fn rfl rfl ((begins s _ (by omega) w).mono ?_)
  rintro e w1 ⟨rfl, rfl⟩
  rcases hbg : decide (s.take ([108, 111, 99, 107, 32, 49, 10] : T).length = [108, 111, 99, 107, 32, 49, 10]) with _ | _
  · have hbg := of_decide_eq_false hbg
    rw [refLong fun c => hbg c.2.1]
    repeat' (first | (refine CL.seq ?_) | (refine CL.region ?_) | (refine CL.condT rfl ?_) | (refine CL.ret ?_) | (refine Gt.nil ?_; refine RW.nilw [0, 2, 3, 4, 5, 6, 7, 8, 9, 10, 11, 12, 28, 34, 74, 96] ?_; dsimp only [H.keep, H.look, H.Fr.put, Nat.beq]) | (refine Gt.move ?_; refine RW.y (Y.move rfl) rfl ?_) | (refine Gt.guard ?_; first | (refine RW.on rfl rfl rfl ?_) | (refine RW.off1 rfl rfl rfl rfl rfl ?_)) | (refine Gt.assign ?_; refine RW.y (Y.assign rfl) rfl ?_) | (refine Gt.pick ?_; first | (refine RW.y (Y.pickT rfl rfl) rfl ?_) | (refine RW.y (Y.pickF rfl rfl) rfl ?_)) | (refine Gt.not ?_; (refine RW.y (Y.notb rfl) rfl ?_)))
    exact FQ.res (rs := [.tmp 2, .tmp 3, .tmp 4]) (vs := [_, _, _]) rfl rfl ⟨rfl, rfl, rfl, trivial⟩ rfl (⟨Kept.refl _ _, LockP.bad _ _⟩)
  have hbg : s.take 7 = headL ++ [10] := of_decide_eq_true hbg
  have hs7 : 7 ≤ s.length := by
    have := congrArg List.length hbg
    rw [List.length_take] at this
    simp [headL] at this; omega
  have hgl := getD_last s
  have hti0 : ((s.length : Int) - 1).toNat = s.length - 1 := by omega
  repeat' (first | (refine CL.seq ?_) | (refine CL.region ?_) | (refine CL.skip ?_) | (refine CL.condP rfl (fun _ => ?_) (fun _ => ?_) <;> try (exfalso; omega)) | (refine CL.ret ?_) | (refine Gt.nil ?_; refine RW.nilw [0, 2, 3, 4, 5, 6, 7, 8, 9, 10, 11, 12, 28, 34, 74, 96] ?_; dsimp only [H.keep, H.look, H.Fr.put, Nat.beq]) | (refine Gt.move ?_; refine RW.y (Y.move rfl) rfl ?_) | (refine Gt.guard ?_; (refine RW.on rfl rfl rfl ?_)) | (refine Gt.assign ?_; refine RW.y (Y.assign rfl) rfl ?_) | (refine Gt.pick ?_; (refine RW.y (Y.pickF rfl rfl) rfl ?_)) | (refine Gt.len ?_; (refine RW.y (Y.lens rfl) rfl ?_)) | (refine Gt.not ?_; (refine RW.y (Y.notb rfl) rfl ?_)) | (refine Gt.neq ?_; refine RW.y (Y.nei rfl rfl) rfl ?_) | (refine Gt.sub ?_; refine RW.y (Y.sub64 rfl rfl (by omega) (by omega)) rfl ?_) | (refine Gt.index ?_; refine RW.y (Y.idxs rfl rfl (by omega) (by omega)) rfl ?_))
  · rename_i h
    rw [hti0, hgl] at h
    rw [refLong fun c => h (by rw [c.2.2]; rfl)]
    exact FQ.res (rs := [.tmp 2, .tmp 3, .tmp 4]) (vs := [_, _, _]) rfl rfl ⟨rfl, rfl, rfl, trivial⟩ rfl (⟨Kept.refl _ _, LockP.bad _ _⟩)
  rename_i h
  rw [hti0, hgl] at h
  have hla : s.getLastD 0 = 10 := Classical.byContradiction fun c => h fun q => c (u8_eq (by simpa using q))
  rw [refRest ⟨by omega, hbg, hla⟩]
  refine RW.fn rfl rfl ((lines s (by omega) w).mono ?_)
  rintro e w1 ⟨v1, rfl, how1, hk1⟩
  have hsT := Sl.of_own how1
  have hlm : ∀ x ∈ linesB s, x.length ≤ 1000000 := fun x hx => by
    have h1 : x ∈ splitB 10 s := by
      rw [linesB] at hx; split at hx
      · exact List.dropLast_subset _ hx
      · exact hx
    exact Nat.le_trans (splitB_mem_len 10 _ x h1) (by omega)
  have hll : (linesB s).length ≤ 2000000 := by
    have h1 := splitB_len 10 s
    have h2 := List.count_le_length (a := (10 : UInt8)) (l := s)
    rw [linesB]; split
    · rw [List.length_dropLast]; omega
    · omega
  generalize linesB s = l at *
  have hrd : rdPins l.tail [] 2 = rdPins (l.drop 1) [] (1 + 1) := by rw [List.drop_one]
  rw [hrd]
  repeat' (first | (refine CL.seq ?_) | (refine CL.region ?_) | (refine CL.block ?_) | (refine Gt.nil ?_; refine RW.nilw [0, 2, 3, 4, 5, 6, 7, 8, 9, 10, 11, 12, 28, 34, 74, 96] ?_; dsimp only [H.keep, H.look, H.Fr.put, Nat.beq]) | (refine Gt.assign ?_; refine RW.y (Y.assign rfl) rfl ?_))
  refine CL.loopS [5, 6, 7] (fun k vals wr => ∃ (i : Nat) (q : Value) (acc : List Pm), vals = [v1, q, .int .i64 (i : Int)] ∧ k = l.length - i ∧ 1 ≤ i ∧ GI pmK wr w1.heap.size pmT q acc ∧ rdPins (l.drop 1) [] (1 + 1) = rdPins (l.drop i) (acc.map (·.d)) (i + 1) ∧ acc.length ≤ i ∧ i ≤ max 1 l.length ∧ K0 w1 wr) (l.length - 1) ⟨_, rfl, 1, _, [], rfl, rfl, Nat.le_refl _, GI.nil _ _ _ _, rfl, by simp, by omega, Kept.refl _ _⟩ ?_
  rintro k vals wr ⟨i, q, acc, rfl, rfl, h1i, hI, hinv, hai, him, hkr⟩
  dsimp only [List.zip, List.zipWith]
  have hz1 := hk1.size
  have hzr := hkr.size
  have hKr : K0 w wr := hk1.trans0 hkr
  have hsr := hsT.keep0 hkr
  rcases Nat.lt_or_ge i l.length with hlt | hge
  · have hti : ((i : Int)).toNat = i := Int.toNat_natCast i
    have hst := rd_step hlt (acc.map (·.d)) (i + 1)
    have hxm := hlm _ (mem_getD [] hlt)
    repeat' (first | (refine CL.seq ?_) | (refine CL.region ?_) | (refine CL.skip ?_) | (refine CL.condP rfl (fun _ => ?_) (fun _ => ?_) <;> try (exfalso; omega)) | (refine CL.block ?_) | (refine Gt.nil ?_; refine RW.nilw [0, 2, 3, 4, 5, 6, 7, 8, 9, 10, 11, 12, 28, 34, 74, 96] ?_; dsimp only [H.keep, H.look, H.Fr.put, Nat.beq]) | (refine Gt.move ?_; refine RW.y (Y.move rfl) rfl ?_) | (refine Gt.idx ?_; (refine RW.elemS rfl rfl rfl rfl (by assumption) (by omega) (by omega) ?_)) | (refine Gt.len ?_; (refine RW.y (Y.lenx rfl (by assumption)) rfl ?_)) | (refine Gt.lss ?_; refine RW.y (Y.lss rfl rfl) rfl ?_))
    rw [hti]
    refine RW.fn rfl rfl ((refSplit (l.getD i []) 32 (by omega) wr).mono ?_)
    rintro e w2 ⟨v2, rfl, how2, hk2⟩
    have hs2 := Sl.of_own how2
    have hKc := hKr.trans0 hk2
    have hxl : ∀ y ∈ splitB 32 (l.getD i []), y.length ≤ 1000000 := fun y hy => Nat.le_trans (splitB_mem_len 32 _ y hy) hxm
    generalize l.getD i [] = x at *
    have hIv := hI.keep0 hk2
    have h3 := @pinB_num x
    have h4 := @pinB_three x
    generalize splitB 32 x = ws at *
    have hz2 := hk2.size
    have hbad : pinB x = none → rdPins (l.drop i) (acc.map (·.d)) (i + 1) = ([], ((i + 1 : Nat) : Int), 63) := fun c => by rw [hst, c]
    have hfail : rdPins (l.drop i) (acc.map (·.d)) (i + 1) = ([], ((i + 1 : Nat) : Int), 63) → ∀ w', K0 w2 w' → K0 w w' ∧ LockP (rdPins (l.drop 1) [] (1 + 1)) (.returned (.tuple #[.slice none 0 0, .int .i64 ((i : Int) + 1), .int .i64 63])) w' := fun c w' hk => ⟨hKc.trans0 hk, by rw [hinv, c]; exact LockP.bad _ w'⟩
    have hsA : ∀ w', K0 w2 w' → Sl w' 37 q acc.length (acc.flatMap pmC) := fun w' h => (hIv.ga.1).keep0 h
    have hsW : ∀ w', K0 w2 w' → Sl w' 1 v2 ws.length (sv ws) := fun w' h => hs2.keep0 h
    have hal : (acc.map (·.d)).length = acc.length := List.length_map _
    have hmx : acc.length ≤ 2000000 := by omega
    repeat' (first | (refine CL.seq ?_) | (refine Gt.nil ?_; refine RW.nilw [0, 2, 3, 4, 5, 6, 7, 8, 9, 10, 11, 12, 28, 34, 74, 96] ?_; dsimp only [H.keep, H.look, H.Fr.put, Nat.beq]) | (refine Gt.assign ?_; refine RW.y (Y.assign rfl) rfl ?_))
    refine CL.draw (fun w' => K0 w2 w') (by kernel_rfl) (fun w3 hheap hk3 => ?_)
    have hS : K0 w2 w3 := hk3
    skip
    skip
    by_cases hw3 : ws.length = 3
    · obtain ⟨a, b, c, rfl⟩ := len3 hw3
      have hst' := hst
      have hc1 : decide ((([a, b, c] : List T).length : Int) ≠ 3) = false := by simp
      have hxa := hxl a (by simp)
      have hxb := hxl b (by simp)
      have hxc := hxl c (by simp)
      skip
      refine AW.take 0 rfl (by kernel_rfl) (by kernel_rfl) (by kernel_rfl) rfl (by assumption) (fun w hS => Y.move rfl) ?_
      refine AW.take 1 rfl (by kernel_rfl) (by kernel_rfl) (by kernel_rfl) rfl (by assumption) (fun w hS => Y.lenx rfl (hsW _ hS)) ?_
      refine AW.take 2 rfl (by kernel_rfl) (by kernel_rfl) (by kernel_rfl) rfl (by assumption) (fun w hS => Y.neiE rfl rfl hc1) ?_
      refine AW.take 3 rfl (by kernel_rfl) (by kernel_rfl) (by kernel_rfl) rfl (by assumption) (fun w hS => Y.move rfl) ?_
      refine AW.takeOn 4 rfl (by kernel_rfl) (by kernel_rfl) (by kernel_rfl) rfl rfl rfl rfl (by assumption) (fun w hS => Y.move rfl) ?_
      refine AW.takeOn 5 rfl (by kernel_rfl) (by kernel_rfl) (by kernel_rfl) rfl rfl rfl rfl (by assumption) (fun w hS => Y.idx rfl rfl (hsW _ hS) (by omega) (by simp)) ?_
      refine AW.takeOn 6 rfl (by kernel_rfl) (by kernel_rfl) (by kernel_rfl) rfl rfl rfl rfl (by assumption) (fun w hS => Y.load1 rfl ((hsW _ hS).cell (j := 0) rfl)) ?_
      refine AW.next 7 rfl (by kernel_rfl) ?_
      refine RW.on rfl rfl rfl ?_
      refine RW.fn rfl rfl ((refName a (by omega) w3).mono ?_)
      rintro e w4 ⟨rfl, rfl⟩
      refine RW.nil (Nm.then ⟨hS, ?_⟩)
      skip
      have hpb := h4 rfl
      have hpa : ∀ p, pinB x = some p → p.name = a := fun p hp => by
        rw [hpb] at hp
        split at hp
        · split at hp
          · cases hp; rfl
          · cases hp
        · cases hp
      have hno : (∀ p, pinB x = some p → ¬ (acc.length < 200 ∧ (acc = [] ∨ ltT (lastName (acc.map (·.d))) p.name = true))) → rdPins (l.drop i) (acc.map (·.d)) (i + 1) = ([], ((i + 1 : Nat) : Int), 63) := fun hq => by
        rw [hst']
        cases hp : pinB x with
        | none => rfl
        | some p => exact if_neg fun c => hq p hp ⟨by omega, c.2.imp List.map_eq_nil_iff.1 id⟩
      have hyes : ∀ p, pinB x = some p → acc.length < 200 ∧ (acc = [] ∨ ltT (lastName (acc.map (·.d))) p.name = true) → rdPins (l.drop i) (acc.map (·.d)) (i + 1) = rdPins (l.drop (i + 1)) (acc.map (·.d) ++ [p]) (i + 1 + 1) := fun p hp hq => by
        rw [hst', hp]; exact if_pos ⟨by omega, hq.2.imp (fun e => by rw [e]; rfl) id⟩
      cases hn : nameB a
      · skip
        refine AW.takeOn 8 rfl (by kernel_rfl) (by kernel_rfl) (by kernel_rfl) rfl rfl rfl rfl (by assumption) (fun w hS => Y.notb rfl) ?_
        refine AW.take 9 rfl (by kernel_rfl) (by kernel_rfl) (by kernel_rfl) rfl (by assumption) (fun w hS => by exact Y.pickF rfl rfl) ?_
        refine AW.take 10 rfl (by kernel_rfl) (by kernel_rfl) (by kernel_rfl) rfl (by assumption) (fun w hS => Y.move rfl) ?_
        refine AW.takeOff 11 rfl (by kernel_rfl) (by kernel_rfl) (by kernel_rfl) rfl rfl rfl rfl rfl (by assumption) ?_
        refine AW.takeOff 12 rfl (by kernel_rfl) (by kernel_rfl) (by kernel_rfl) rfl rfl rfl rfl rfl (by assumption) ?_
        refine AW.takeOff 13 rfl (by kernel_rfl) (by kernel_rfl) (by kernel_rfl) rfl rfl rfl rfl rfl (by assumption) ?_
        refine AW.takeOff 14 rfl (by kernel_rfl) (by kernel_rfl) (by kernel_rfl) rfl rfl rfl rfl rfl (by assumption) ?_
        refine AW.takeOffU 15 rfl (by kernel_rfl) (by kernel_rfl) (by kernel_rfl) rfl rfl rfl rfl (by assumption) ?_
        refine AW.takeOffU 16 rfl (by kernel_rfl) (by kernel_rfl) (by kernel_rfl) rfl rfl rfl rfl (by assumption) ?_
        refine AW.takeOffU 17 rfl (by kernel_rfl) (by kernel_rfl) (by kernel_rfl) rfl rfl rfl rfl (by assumption) ?_
        refine AW.takeOffU 18 rfl (by kernel_rfl) (by kernel_rfl) (by kernel_rfl) rfl rfl rfl rfl (by assumption) ?_
        refine AW.takeOffU 19 rfl (by kernel_rfl) (by kernel_rfl) (by kernel_rfl) rfl rfl rfl rfl (by assumption) ?_
        refine AW.takeOffU 20 rfl (by kernel_rfl) (by kernel_rfl) (by kernel_rfl) rfl rfl rfl rfl (by assumption) ?_
        refine AW.takeOffU 21 rfl (by kernel_rfl) (by kernel_rfl) (by kernel_rfl) rfl rfl rfl rfl (by assumption) ?_
        refine AW.takeOffU 22 rfl (by kernel_rfl) (by kernel_rfl) (by kernel_rfl) rfl rfl rfl rfl (by assumption) ?_
        refine AW.takeOffU 23 rfl (by kernel_rfl) (by kernel_rfl) (by kernel_rfl) rfl rfl rfl rfl (by assumption) ?_
        refine AW.takeOffU 24 rfl (by kernel_rfl) (by kernel_rfl) (by kernel_rfl) rfl rfl rfl rfl (by assumption) ?_
        refine AW.takeOffU 25 rfl (by kernel_rfl) (by kernel_rfl) (by kernel_rfl) rfl rfl rfl rfl (by assumption) ?_
        refine AW.takeOff 26 rfl (by kernel_rfl) (by kernel_rfl) (by kernel_rfl) rfl rfl rfl rfl rfl (by assumption) ?_
        refine AW.take 27 rfl (by kernel_rfl) (by kernel_rfl) (by kernel_rfl) rfl (by assumption) (fun w hS => by exact Y.pickT rfl rfl) ?_
        refine AW.take 28 rfl (by kernel_rfl) (by kernel_rfl) (by kernel_rfl) rfl (by assumption) (fun w hS => Y.move rfl) ?_
        refine AW.takeOff 29 rfl (by kernel_rfl) (by kernel_rfl) (by kernel_rfl) rfl rfl rfl rfl rfl (by assumption) ?_
        refine AW.takeOff 30 rfl (by kernel_rfl) (by kernel_rfl) (by kernel_rfl) rfl rfl rfl rfl rfl (by assumption) ?_
        refine AW.takeOff 31 rfl (by kernel_rfl) (by kernel_rfl) (by kernel_rfl) rfl rfl rfl rfl rfl (by assumption) ?_
        refine AW.take 32 rfl (by kernel_rfl) (by kernel_rfl) (by kernel_rfl) rfl (by assumption) (fun w hS => by exact Y.pickT rfl rfl) ?_
        refine AW.donew [5, 6, 7, 8, 74] (by kernel_rfl) ?_
        dsimp only [H.keep, H.look, H.Fr.put, Nat.beq]
        repeat' (first | (refine CL.seq ?_) | (refine CL.region ?_) | (refine CL.condT rfl ?_) | (refine CL.ret ?_) | (refine Rt.then ?_) | (refine Rt.block ?_) | (refine Gt.nil ?_; refine RW.nilw [0, 2, 3, 4, 5, 6, 7, 8, 9, 10, 11, 12, 28, 34, 74, 96] ?_; dsimp only [H.keep, H.look, H.Fr.put, Nat.beq]) | (refine Gt.move ?_; refine RW.y (Y.move rfl) rfl ?_) | (refine Gt.assign ?_; refine RW.y (Y.assign rfl) rfl ?_) | (refine Gt.add ?_; refine RW.y (Y.add64 rfl rfl (by omega) (by omega)) rfl ?_))
        exact FQ.res (rs := [.tmp 2, .tmp 3, .tmp 4]) (vs := [_, _, _]) rfl rfl ⟨rfl, rfl, rfl, trivial⟩ rfl (hfail (hbad (by rw [hpb, if_neg (by rw [hn]; simp)])) _ hS)
      · rw [if_pos hn] at hpb
        by_cases hac : acc = []
        · have hac0 : acc.length = 0 := by rw [hac]; rfl
          have hord : ∀ p, pinB x = some p → (acc = [] ∨ ltT (lastName (acc.map (·.d))) p.name = true) := fun _ _ => .inl hac
          skip
          refine AW.takeOn 8 rfl (by kernel_rfl) (by kernel_rfl) (by kernel_rfl) rfl rfl rfl rfl (by assumption) (fun w hS => Y.notb rfl) ?_
          refine AW.take 9 rfl (by kernel_rfl) (by kernel_rfl) (by kernel_rfl) rfl (by assumption) (fun w hS => by exact Y.pickF rfl rfl) ?_
          refine AW.take 10 rfl (by kernel_rfl) (by kernel_rfl) (by kernel_rfl) rfl (by assumption) (fun w hS => Y.move rfl) ?_
          refine AW.takeOn 11 rfl (by kernel_rfl) (by kernel_rfl) (by kernel_rfl) rfl rfl rfl rfl (by assumption) (fun w hS => Y.move rfl) ?_
          refine AW.takeOn 12 rfl (by kernel_rfl) (by kernel_rfl) (by kernel_rfl) rfl rfl rfl rfl (by assumption) (fun w hS => Y.lenx rfl (hsA _ hS)) ?_
          refine AW.takeOn 13 rfl (by kernel_rfl) (by kernel_rfl) (by kernel_rfl) rfl rfl rfl rfl (by assumption) (fun w hS => Y.gtrF rfl rfl (by omega)) ?_
          refine AW.takeOn 14 rfl (by kernel_rfl) (by kernel_rfl) (by kernel_rfl) rfl rfl rfl rfl (by assumption) (fun w hS => Y.move rfl) ?_
          refine AW.takeOff 15 rfl (by kernel_rfl) (by kernel_rfl) (by kernel_rfl) rfl rfl rfl rfl rfl (by assumption) ?_
          refine AW.takeOff 16 rfl (by kernel_rfl) (by kernel_rfl) (by kernel_rfl) rfl rfl rfl rfl rfl (by assumption) ?_
          refine AW.takeOff 17 rfl (by kernel_rfl) (by kernel_rfl) (by kernel_rfl) rfl rfl rfl rfl rfl (by assumption) ?_
          refine AW.takeOff 18 rfl (by kernel_rfl) (by kernel_rfl) (by kernel_rfl) rfl rfl rfl rfl rfl (by assumption) ?_
          refine AW.takeOff 19 rfl (by kernel_rfl) (by kernel_rfl) (by kernel_rfl) rfl rfl rfl rfl rfl (by assumption) ?_
          refine AW.takeOff 20 rfl (by kernel_rfl) (by kernel_rfl) (by kernel_rfl) rfl rfl rfl rfl rfl (by assumption) ?_
          refine AW.takeOff 21 rfl (by kernel_rfl) (by kernel_rfl) (by kernel_rfl) rfl rfl rfl rfl rfl (by assumption) ?_
          refine AW.takeOff 22 rfl (by kernel_rfl) (by kernel_rfl) (by kernel_rfl) rfl rfl rfl rfl rfl (by assumption) ?_
          refine AW.takeOff 23 rfl (by kernel_rfl) (by kernel_rfl) (by kernel_rfl) rfl rfl rfl rfl rfl (by assumption) ?_
          refine AW.takeOff 24 rfl (by kernel_rfl) (by kernel_rfl) (by kernel_rfl) rfl rfl rfl rfl rfl (by assumption) ?_
          refine AW.takeOff 25 rfl (by kernel_rfl) (by kernel_rfl) (by kernel_rfl) rfl rfl rfl rfl rfl (by assumption) ?_
          refine AW.takeOn 26 rfl (by kernel_rfl) (by kernel_rfl) (by kernel_rfl) rfl rfl rfl rfl (by assumption) (fun w hS => by exact Y.pickF rfl rfl) ?_
          refine AW.take 27 rfl (by kernel_rfl) (by kernel_rfl) (by kernel_rfl) rfl (by assumption) (fun w hS => by exact Y.pickF rfl rfl) ?_
          refine AW.take 28 rfl (by kernel_rfl) (by kernel_rfl) (by kernel_rfl) rfl (by assumption) (fun w hS => Y.move rfl) ?_
          refine AW.takeOn 29 rfl (by kernel_rfl) (by kernel_rfl) (by kernel_rfl) rfl rfl rfl rfl (by assumption) (fun w hS => Y.move rfl) ?_
          refine AW.takeOn 30 rfl (by kernel_rfl) (by kernel_rfl) (by kernel_rfl) rfl rfl rfl rfl (by assumption) (fun w hS => Y.lenx rfl (hsA _ hS)) ?_
          refine AW.takeOn 31 rfl (by kernel_rfl) (by kernel_rfl) (by kernel_rfl) rfl rfl rfl rfl (by assumption) (fun w hS => Y.geq rfl rfl) ?_
          refine AW.take 32 rfl (by kernel_rfl) (by kernel_rfl) (by kernel_rfl) rfl (by assumption) (fun w hS => by exact Y.pickF rfl rfl) ?_
          refine AW.donew [5, 6, 7, 8, 74] (by kernel_rfl) ?_
          dsimp only [H.keep, H.look, H.Fr.put, Nat.beq]
          have hsW3 := hsW _ hS
          by_cases h200 : acc.length < 200
          rotate_left
          · try (exfalso; omega)
            all_goals skip
            all_goals exact FQ.res (rs := [.tmp 2, .tmp 3, .tmp 4]) (vs := [_, _, _]) rfl rfl ⟨rfl, rfl, rfl, trivial⟩ rfl (hfail (hno fun p hp c => by omega) _ hS)
          repeat' (first | (refine CL.seq ?_) | (refine CL.region ?_) | (refine CL.skip ?_) | (refine CL.condP rfl (fun _ => ?_) (fun _ => ?_) <;> try (exfalso; omega)) | (refine Gt.move ?_; refine RW.y (Y.move rfl) rfl ?_) | (refine Gt.idx ?_; (refine RW.elemS rfl rfl rfl rfl (by assumption) (by omega) (by omega) ?_)))
          refine RW.fn rfl rfl ((versionOfN b (by omega) w3).mono ?_)
          rintro e w4 ⟨hk4, V, rfl, hV⟩
          obtain ⟨pv, hVe, hpv, hpl⟩ := hV
          subst hVe
          repeat' (first | (refine Gt.move ?_; refine RW.y (Y.move rfl) rfl ?_) | (refine Gt.extract ?_; refine RW.y (Y.extract rfl rfl) rfl ?_))
          refine RW.varN rfl (by rfl) rfl (verCells hpv.one) rfl (fun w5 hb5 hk5 hlt5 => ?_)
          have hS5 := (hS.trans0 hk4).trans0 hk5
          have hsW5 := hsW _ hS5
          repeat' (first | (refine CL.seq ?_) | (refine CL.region ?_) | (refine Gt.nil ?_; refine RW.nilw [0, 2, 3, 4, 5, 6, 7, 8, 9, 10, 11, 12, 28, 34, 74, 96] ?_; dsimp only [H.keep, H.look, H.Fr.put, Nat.beq]) | (refine Gt.move ?_; refine RW.y (Y.move rfl) rfl ?_) | (refine Gt.assign ?_; refine RW.y (Y.assign rfl) rfl ?_) | (refine Gt.idx ?_; (refine RW.elemS rfl rfl rfl rfl (by assumption) (by omega) (by omega) ?_)))
          refine RW.fn rfl rfl ((refUnhex c (by omega) w5).mono ?_)
          rintro e w6 ⟨hk6, rfl⟩
          have hKs : ∃ ks : T, ks.length = 32 ∧ keyR c = .tuple #[.agg (bv ks).toArray, .bool (unhexB c).isSome] ∧ ∀ k, unhexB c = some k → ks = k := by
            refine ⟨(unhexB c).getD (List.replicate 32 0), ?_, rfl, fun k h => by rw [h]; rfl⟩
            cases h : unhexB c with
            | none => rfl
            | some k => exact (hex_unhex h).2
          obtain ⟨ks, hks, hkr2, hkq⟩ := hKs
          rw [hkr2]
          repeat' (first | (refine Gt.move ?_; refine RW.y (Y.move rfl) rfl ?_) | (refine Gt.extract ?_; refine RW.y (Y.extract rfl rfl) rfl ?_))
          refine RW.varN rfl (by rw [List.size_toArray, List.length_map, hks]; rfl) rfl (fun z hz => bv_one ks z (by simpa using hz)) rfl (fun w7 hb7 hk7 hlt7 => ?_)
          have hb57 := hk7.at0 (hk6.at0 hb5)
          have hS7 := (hS5.trans0 hk6).trans0 hk7
          have hpv7 := ((hpv.keep0 hk5).keep0 hk6).keep0 hk7
          have hz4 := hk4.size
          have hz34 := hS.size
          have hKf : ∀ w', K0 w7 w' → K0 w2 w' := fun w' h => hS7.trans0 h
          obtain ⟨cd, hcd⟩ : ∃ cd : Int, (verR (parseV (cutB 45 b))).2 = cd := ⟨_, rfl⟩
          obtain ⟨ok, hok⟩ : ∃ ok, (unhexB c).isSome = ok := ⟨_, rfl⟩
          rw [hcd, hok]
          cases ok with
          | false =>
            have hu : unhexB c = none := by simpa using hok
            have hpn : pinB x = none := by rw [hpb, hu]; split <;> first | rfl | (rename_i q; cases q)
            repeat' (first | (refine CL.seq ?_) | (refine CL.region ?_) | (refine CL.condT rfl ?_) | (refine CL.ret ?_) | (refine Rt.then ?_) | (refine Rt.block ?_) | (refine Gt.nil ?_; refine RW.nilw [0, 2, 3, 4, 5, 6, 7, 8, 9, 10, 11, 12, 28, 34, 74, 96] ?_; dsimp only [H.keep, H.look, H.Fr.put, Nat.beq]) | (refine Gt.move ?_; refine RW.y (Y.move rfl) rfl ?_) | (refine Gt.guard ?_; first | (refine RW.part rfl rfl rfl (fun _ => ?_) (fun _ => ?_) <;> try (exfalso; omega)) | (refine RW.on rfl rfl rfl ?_) | (refine RW.off1 rfl rfl rfl rfl rfl ?_)) | (refine Gt.assign ?_; refine RW.y (Y.assign rfl) rfl ?_) | (refine Gt.pick ?_; first | (refine RW.y (Y.pickT rfl rfl) rfl ?_) | (refine RW.y (Y.pickF rfl rfl) rfl ?_)) | (refine Gt.not ?_; (refine RW.y (Y.notb rfl) rfl ?_)) | (refine Gt.neq ?_; refine RW.y (Y.nei rfl rfl) rfl ?_) | (refine Gt.add ?_; refine RW.y (Y.add64 rfl rfl (by omega) (by omega)) rfl ?_))
            all_goals exact FQ.res (rs := [.tmp 2, .tmp 3, .tmp 4]) (vs := [_, _, _]) rfl rfl ⟨rfl, rfl, rfl, trivial⟩ rfl (hfail (hbad hpn) _ hS7)
          | true =>
            repeat' (first | (refine CL.seq ?_) | (refine CL.region ?_) | (refine CL.skip ?_) | (refine CL.condT rfl ?_) | (refine CL.condF rfl ?_) | (refine CL.ret ?_) | (refine Rt.then ?_) | (refine Rt.block ?_) | (refine Gt.nil ?_; refine RW.nilw [0, 2, 3, 4, 5, 6, 7, 8, 9, 10, 11, 12, 28, 34, 74, 96] ?_; dsimp only [H.keep, H.look, H.Fr.put, Nat.beq]) | (refine Gt.move ?_; refine RW.y (Y.move rfl) rfl ?_) | (refine Gt.guard ?_; first | (refine RW.part rfl rfl rfl (fun _ => ?_) (fun _ => ?_) <;> try (exfalso; omega)) | (refine RW.on rfl rfl rfl ?_) | (refine RW.off1 rfl rfl rfl rfl rfl ?_)) | (refine Gt.assign ?_; refine RW.y (Y.assign rfl) rfl ?_) | (refine Gt.pick ?_; first | (refine RW.y (Y.pickT rfl rfl) rfl ?_) | (refine RW.y (Y.pickF rfl rfl) rfl ?_)) | (refine Gt.not ?_; (refine RW.y (Y.notb rfl) rfl ?_)) | (refine Gt.neq ?_; refine RW.y (Y.nei rfl rfl) rfl ?_) | (refine Gt.add ?_; refine RW.y (Y.add64 rfl rfl (by omega) (by omega)) rfl ?_))
            · rename_i hc0
              have hvn : parseV (cutB 45 b) = none := by
                cases hv : parseV (cutB 45 b) with
                | none => rfl
                | some vv => rw [hv] at hcd; exact absurd hcd.symm hc0
              have hpn : pinB x = none := by rw [hpb, hvn]
              exact FQ.res (rs := [.tmp 2, .tmp 3, .tmp 4]) (vs := [_, _, _]) rfl rfl ⟨rfl, rfl, rfl, trivial⟩ rfl (hfail (hbad hpn) _ hS7)
            rename_i hc0
            obtain ⟨vv, hvv⟩ : ∃ vv, parseV (cutB 45 b) = some vv := by
              cases hv : parseV (cutB 45 b) with
              | some vv => exact ⟨vv, rfl⟩
              | none => rw [hv] at hcd; exact absurd hcd (by have : cd = 0 := by omega
                                                             rw [this]; decide)
            obtain ⟨kk, hkk⟩ := Option.isSome_iff_exists.1 hok
            have hke := hkq kk hkk
            subst hke
            have hpp : pinB x = some ⟨a, vv, ks⟩ := by rw [hpb, hvv, hkk]
            rw [hvv] at hb57 hpv7
            obtain ⟨X, hXd, hXp⟩ : ∃ X : Pm, X.d = ⟨a, vv, ks⟩ ∧ X.p = pv := ⟨⟨⟨a, vv, ks⟩, pv, hks⟩, rfl, rfl⟩
            have hI7 := hIv.keep0 hS7
            have hs77 := hsW _ hS7
            have hIlt := hIv.lt
            have hz5 := hk5.size
            have hz6 := hk6.size
            have hqn : ∀ g, w2.heap.size ≤ g → ¬ q.ownBlock = some g := fun g hg c => by have := (hIlt g c).2; omega
            refine CL.draw (fun w' => Kept (fun k => q.ownBlock = some k) w7 w') (by kernel_rfl) (fun w8 hheap8 hk8 => ?_)
            have hS : Kept (fun k => q.ownBlock = some k) w7 w8 := hk8.of0
            have hat1 : ∀ w', Kept (fun k => q.ownBlock = some k) w7 w' → w'.heap[w4.heap.size]? = some (.cells #[.int .i64 vv.a, .int .i64 vv.b, .int .i64 vv.c, pv] verT (0, 0)) := fun w' h => h.at hb57 (hqn _ (by omega))
            have hat2 : ∀ w', Kept (fun k => q.ownBlock = some k) w7 w' → w'.heap[w6.heap.size]? = some (.cells (bv ks).toArray keyT (0, 0)) := fun w' h => h.at hb7 (hqn _ (by omega))
            have hatW : ∀ w', Kept (fun k => q.ownBlock = some k) w7 w' → Sl w' 1 v2 [a, b, c].length (sv [a, b, c]) := fun w' h => hs77.keep h fun g hg cc => by
              have h1 := (how2.lt g (live_own hg)).1
              have h2 := (hI.lt g cc).2
              omega
            skip
            refine AW.take 0 rfl (by kernel_rfl) (by kernel_rfl) (by kernel_rfl) rfl (by assumption) (fun w hS => Y.move rfl) ?_
            refine AW.take 1 rfl (by kernel_rfl) (by kernel_rfl) (by kernel_rfl) rfl (by assumption) (fun w hS => Y.move rfl) ?_
            refine AW.take 2 rfl (by kernel_rfl) (by kernel_rfl) (by kernel_rfl) rfl (by assumption) (fun w hS => Y.idx rfl rfl (hatW _ hS) (by omega) (by simp)) ?_
            refine AW.take 3 rfl (by kernel_rfl) (by kernel_rfl) (by kernel_rfl) rfl (by assumption) (fun w hS => Y.load1 rfl ((hatW _ hS).cell (j := 0) rfl)) ?_
            refine AW.take 4 rfl (by kernel_rfl) (by kernel_rfl) (by kernel_rfl) rfl (by assumption) (fun w hS => Y.loadBlock rfl (hat1 _ hS) rfl) ?_
            refine AW.take 5 rfl (by kernel_rfl) (by kernel_rfl) (by kernel_rfl) rfl (by assumption) (fun w hS => Y.loadBlock rfl (hat2 _ hS) (by rw [List.size_toArray, List.length_map, hks]; rfl)) ?_
            refine AW.take 6 rfl (by kernel_rfl) (by kernel_rfl) (by kernel_rfl) rfl (by assumption) (fun w hS => pmBuild X (by rw [hXd]; rfl) (by rw [hXd, hXp]; rfl) (by rw [hXd]; rfl)) ?_
            refine AW.next 7 rfl (by kernel_rfl) ?_
            have hz8 := hk8.size
            refine RW.build1 rfl (by show (pmC _).toArray.size = _; rw [List.size_toArray, pmC_len]) rfl rfl (fun w9 hb9 hk9 hlt9 => ?_)
            have hown9 : w9.ownsRow w8.heap.size pmT 37 (.slice (some ⟨w8.heap.size, 0, none⟩) 1 1) 1 (pmC X) := own_new hb9 (Nat.le_refl _) (by show (pmC _).toArray.size = _; rw [List.size_toArray, pmC_len]) (by decide)
            have hS := hS.trans0 hk9
            refine RW.nil (Nm.then ⟨hS, ?_⟩)
            skip
            refine AW.next 8 rfl (by kernel_rfl) ?_
            have hz9 := hk9.size
            have hI9 := hI7.keep0 (hk8.trans0 hk9)
            refine RW.app (sz := 37) rfl rfl rfl rfl rfl hI9.1 (Sl.of_own hown9) (pmC_one (by rw [hXp]; exact hpv7.one)) (by omega) (by omega) (by omega) (fun q' w10 how10 hk10 hl10 => ?_)
            have hS := hS.trans hk10 fun k h => .inl h
            refine RW.nil (Nm.then ⟨hS, ?_⟩)
            refine AW.take 9 rfl (by kernel_rfl) (by kernel_rfl) (by kernel_rfl) rfl (by assumption) (fun w hS => Y.assign rfl) ?_
            refine AW.donew [5, 6, 7] (by kernel_rfl) ?_
            dsimp only [H.keep, H.look, H.Fr.put, Nat.beq]
            repeat' (first | (refine CL.region ?_) | (refine CL.done ?_) | (refine Nm.block ?_) | (refine Nm.then ?_) | (refine Gt.nil ?_; refine RW.nilw [0, 2, 3, 4, 5, 6, 7, 8, 9, 10, 11, 12, 28, 34, 74, 96] ?_; dsimp only [H.keep, H.look, H.Fr.put, Nat.beq]) | (refine Gt.move ?_; refine RW.y (Y.move rfl) rfl ?_) | (refine Gt.assign ?_; refine RW.y (Y.assign rfl) rfl ?_) | (refine Gt.add ?_; refine RW.y (Y.add64 rfl rfl (by omega) (by omega)) rfl ?_))
            have hDX : pmK.D w9 X := by
              show Sl w9 1 X.p X.d.v.pre.length (sv X.d.v.pre)
              rw [hXp, hXd]; exact (hpv7.keep0 hk8).keep0 hk9
            have hXl : ∀ g, pmK.R X g → ¬ q.ownBlock = some g := fun g hg c => by
              have hg' : live pv = some g := by rw [← hXp]; exact hg
              have := hpl g hg'
              exact hqn g (by omega) c
            have hmem : ∀ y ∈ acc ++ [X], pmK.D w9 y ∧ ∀ g, pmK.R y g → ¬ q.ownBlock = some g := fun y hy => by
              rcases List.mem_append.1 hy with hy | hy
              · exact ⟨(hI9.2 y hy).1, fun g hg => (hI9.2 y hy).2 g hg⟩
              · rw [List.mem_singleton.1 hy]; exact ⟨hDX, hXl⟩
            have hI10 : GI pmK w10 w1.heap.size pmT q' (acc ++ [X]) := by
              refine ⟨?_, fun y hy => ⟨pmK.keep _ _ _ y (hmem y hy).1 hk10 fun g hl hg => (hmem y hy).2 g hg, fun g hg c => ?_⟩⟩
              · rw [List.length_append, List.flatMap_append]
                have e : ([X] : List Pm).flatMap pmK.enc = pmC X := by simp [pmK]
                rw [e]; exact how10
              · rcases hl10 g c with c | c
                · exact (hmem y hy).2 g hg c
                · have := pmK.lt _ _ g (hmem y hy).1 hg; omega
            exact ⟨l.length - (i + 1), _, rfl, rfl, rfl, by omega, i + 1, q', acc ++ [X], by simp, rfl, by omega, hI10, by rw [hinv, hyes _ hpp ⟨h200, hord _ hpp⟩, List.map_append, List.map_cons, List.map_nil, hXd], by rw [List.length_append, List.length_singleton]; omega, by omega, ((hkr.trans0 hk2).trans0 hS7).trans hS fun k h => .inr (hI.lt k h).1⟩
        · have hacp := List.length_pos_iff.2 hac
          have hln := last_name acc hac
          obtain ⟨c3, hc3⟩ : ∃ b, (!(Op.bytesLess (acc.getD ((acc.length : Int) - 1).toNat default).d.name a)) = b := ⟨_, rfl⟩
          obtain ⟨g1, o1, hsp1, hcl1⟩ := elSpot hIv.ga.1 pmK.len (i := (acc.length : Int) - 1) (by omega) (by omega)
          have hc3' : (!(ltT (lastName (acc.map (·.d))) a)) = c3 := by rw [← hc3, show ((acc.length : Int) - 1).toNat = acc.length - 1 from by omega, ← hln]
          cases c3 with
          | true =>
            skip
            refine AW.takeOn 8 rfl (by kernel_rfl) (by kernel_rfl) (by kernel_rfl) rfl rfl rfl rfl (by assumption) (fun w hS => Y.notb rfl) ?_
            refine AW.take 9 rfl (by kernel_rfl) (by kernel_rfl) (by kernel_rfl) rfl (by assumption) (fun w hS => by exact Y.pickF rfl rfl) ?_
            refine AW.take 10 rfl (by kernel_rfl) (by kernel_rfl) (by kernel_rfl) rfl (by assumption) (fun w hS => Y.move rfl) ?_
            refine AW.takeOn 11 rfl (by kernel_rfl) (by kernel_rfl) (by kernel_rfl) rfl rfl rfl rfl (by assumption) (fun w hS => Y.move rfl) ?_
            refine AW.takeOn 12 rfl (by kernel_rfl) (by kernel_rfl) (by kernel_rfl) rfl rfl rfl rfl (by assumption) (fun w hS => Y.lenx rfl (hsA _ hS)) ?_
            refine AW.takeOn 13 rfl (by kernel_rfl) (by kernel_rfl) (by kernel_rfl) rfl rfl rfl rfl (by assumption) (fun w hS => Y.gtrT rfl rfl (by omega)) ?_
            refine AW.takeOn 14 rfl (by kernel_rfl) (by kernel_rfl) (by kernel_rfl) rfl rfl rfl rfl (by assumption) (fun w hS => Y.move rfl) ?_
            refine AW.takeOn 15 rfl (by kernel_rfl) (by kernel_rfl) (by kernel_rfl) rfl rfl rfl rfl (by assumption) (fun w hS => Y.move rfl) ?_
            refine AW.takeOn 16 rfl (by kernel_rfl) (by kernel_rfl) (by kernel_rfl) rfl rfl rfl rfl (by assumption) (fun w hS => Y.move rfl) ?_
            refine AW.takeOn 17 rfl (by kernel_rfl) (by kernel_rfl) (by kernel_rfl) rfl rfl rfl rfl (by assumption) (fun w hS => Y.lenx rfl (hsA _ hS)) ?_
            refine AW.takeOn 18 rfl (by kernel_rfl) (by kernel_rfl) (by kernel_rfl) rfl rfl rfl rfl (by assumption) (fun w hS => by exact Y.sub64 rfl rfl (by omega) (by omega)) ?_
            refine AW.takeOn 19 rfl (by kernel_rfl) (by kernel_rfl) (by kernel_rfl) rfl rfl rfl rfl (by assumption) (fun w hS => Y.idx rfl rfl (hsA _ hS) (by omega) (by omega)) ?_
            refine AW.takeOn 20 rfl (by kernel_rfl) (by kernel_rfl) (by kernel_rfl) rfl rfl rfl rfl (by assumption) (fun w hS => Y.fieldAddr (congrArg (fun a => some (Value.pointer (some a))) hsp1) (by rfl)) ?_
            refine AW.takeOn 21 rfl (by kernel_rfl) (by kernel_rfl) (by kernel_rfl) rfl rfl rfl rfl (by assumption) (fun w hS => Y.load1A rfl (hcl1 _ hS 0 _ rfl)) ?_
            refine AW.takeOn 22 rfl (by kernel_rfl) (by kernel_rfl) (by kernel_rfl) rfl rfl rfl rfl (by assumption) (fun w hS => Y.move rfl) ?_
            refine AW.takeOn 23 rfl (by kernel_rfl) (by kernel_rfl) (by kernel_rfl) rfl rfl rfl rfl (by assumption) (fun w hS => Y.idx rfl rfl (hsW _ hS) (by omega) (by simp)) ?_
            refine AW.takeOn 24 rfl (by kernel_rfl) (by kernel_rfl) (by kernel_rfl) rfl rfl rfl rfl (by assumption) (fun w hS => Y.load1 rfl ((hsW _ hS).cell (j := 0) rfl)) ?_
            refine AW.takeOn 25 rfl (by kernel_rfl) (by kernel_rfl) (by kernel_rfl) rfl rfl rfl rfl (by assumption) (fun w hS => gesE rfl rfl hc3) ?_
            refine AW.takeOn 26 rfl (by kernel_rfl) (by kernel_rfl) (by kernel_rfl) rfl rfl rfl rfl (by assumption) (fun w hS => by exact Y.pickT rfl rfl) ?_
            refine AW.take 27 rfl (by kernel_rfl) (by kernel_rfl) (by kernel_rfl) rfl (by assumption) (fun w hS => by exact Y.pickF rfl rfl) ?_
            refine AW.take 28 rfl (by kernel_rfl) (by kernel_rfl) (by kernel_rfl) rfl (by assumption) (fun w hS => Y.move rfl) ?_
            refine AW.takeOff 29 rfl (by kernel_rfl) (by kernel_rfl) (by kernel_rfl) rfl rfl rfl rfl rfl (by assumption) ?_
            refine AW.takeOff 30 rfl (by kernel_rfl) (by kernel_rfl) (by kernel_rfl) rfl rfl rfl rfl rfl (by assumption) ?_
            refine AW.takeOff 31 rfl (by kernel_rfl) (by kernel_rfl) (by kernel_rfl) rfl rfl rfl rfl rfl (by assumption) ?_
            refine AW.take 32 rfl (by kernel_rfl) (by kernel_rfl) (by kernel_rfl) rfl (by assumption) (fun w hS => by exact Y.pickT rfl rfl) ?_
            refine AW.donew [5, 6, 7, 8, 74] (by kernel_rfl) ?_
            dsimp only [H.keep, H.look, H.Fr.put, Nat.beq]
            repeat' (first | (refine CL.seq ?_) | (refine CL.region ?_) | (refine CL.condT rfl ?_) | (refine CL.ret ?_) | (refine Rt.then ?_) | (refine Rt.block ?_) | (refine Gt.nil ?_; refine RW.nilw [0, 2, 3, 4, 5, 6, 7, 8, 9, 10, 11, 12, 28, 34, 74, 96] ?_; dsimp only [H.keep, H.look, H.Fr.put, Nat.beq]) | (refine Gt.move ?_; refine RW.y (Y.move rfl) rfl ?_) | (refine Gt.assign ?_; refine RW.y (Y.assign rfl) rfl ?_) | (refine Gt.add ?_; refine RW.y (Y.add64 rfl rfl (by omega) (by omega)) rfl ?_))
            have hno2 : ∀ p, pinB x = some p → ¬ (acc.length < 200 ∧ (acc = [] ∨ ltT (lastName (acc.map (·.d))) p.name = true)) := fun p hp q => by
              rcases q.2 with q | q
              · exact hac q
              · rw [hpa p hp] at q; rw [q] at hc3'; cases hc3'
            exact FQ.res (rs := [.tmp 2, .tmp 3, .tmp 4]) (vs := [_, _, _]) rfl rfl ⟨rfl, rfl, rfl, trivial⟩ rfl (hfail (hno hno2) _ hS)
          | false =>
            have hord : ∀ p, pinB x = some p → (acc = [] ∨ ltT (lastName (acc.map (·.d))) p.name = true) := fun p hp => .inr (by rw [hpa p hp]; simpa using hc3')
            skip
            refine AW.takeOn 8 rfl (by kernel_rfl) (by kernel_rfl) (by kernel_rfl) rfl rfl rfl rfl (by assumption) (fun w hS => Y.notb rfl) ?_
            refine AW.take 9 rfl (by kernel_rfl) (by kernel_rfl) (by kernel_rfl) rfl (by assumption) (fun w hS => by exact Y.pickF rfl rfl) ?_
            refine AW.take 10 rfl (by kernel_rfl) (by kernel_rfl) (by kernel_rfl) rfl (by assumption) (fun w hS => Y.move rfl) ?_
            refine AW.takeOn 11 rfl (by kernel_rfl) (by kernel_rfl) (by kernel_rfl) rfl rfl rfl rfl (by assumption) (fun w hS => Y.move rfl) ?_
            refine AW.takeOn 12 rfl (by kernel_rfl) (by kernel_rfl) (by kernel_rfl) rfl rfl rfl rfl (by assumption) (fun w hS => Y.lenx rfl (hsA _ hS)) ?_
            refine AW.takeOn 13 rfl (by kernel_rfl) (by kernel_rfl) (by kernel_rfl) rfl rfl rfl rfl (by assumption) (fun w hS => Y.gtrT rfl rfl (by omega)) ?_
            refine AW.takeOn 14 rfl (by kernel_rfl) (by kernel_rfl) (by kernel_rfl) rfl rfl rfl rfl (by assumption) (fun w hS => Y.move rfl) ?_
            refine AW.takeOn 15 rfl (by kernel_rfl) (by kernel_rfl) (by kernel_rfl) rfl rfl rfl rfl (by assumption) (fun w hS => Y.move rfl) ?_
            refine AW.takeOn 16 rfl (by kernel_rfl) (by kernel_rfl) (by kernel_rfl) rfl rfl rfl rfl (by assumption) (fun w hS => Y.move rfl) ?_
            refine AW.takeOn 17 rfl (by kernel_rfl) (by kernel_rfl) (by kernel_rfl) rfl rfl rfl rfl (by assumption) (fun w hS => Y.lenx rfl (hsA _ hS)) ?_
            refine AW.takeOn 18 rfl (by kernel_rfl) (by kernel_rfl) (by kernel_rfl) rfl rfl rfl rfl (by assumption) (fun w hS => by exact Y.sub64 rfl rfl (by omega) (by omega)) ?_
            refine AW.takeOn 19 rfl (by kernel_rfl) (by kernel_rfl) (by kernel_rfl) rfl rfl rfl rfl (by assumption) (fun w hS => Y.idx rfl rfl (hsA _ hS) (by omega) (by omega)) ?_
            refine AW.takeOn 20 rfl (by kernel_rfl) (by kernel_rfl) (by kernel_rfl) rfl rfl rfl rfl (by assumption) (fun w hS => Y.fieldAddr (congrArg (fun a => some (Value.pointer (some a))) hsp1) (by rfl)) ?_
            refine AW.takeOn 21 rfl (by kernel_rfl) (by kernel_rfl) (by kernel_rfl) rfl rfl rfl rfl (by assumption) (fun w hS => Y.load1A rfl (hcl1 _ hS 0 _ rfl)) ?_
            refine AW.takeOn 22 rfl (by kernel_rfl) (by kernel_rfl) (by kernel_rfl) rfl rfl rfl rfl (by assumption) (fun w hS => Y.move rfl) ?_
            refine AW.takeOn 23 rfl (by kernel_rfl) (by kernel_rfl) (by kernel_rfl) rfl rfl rfl rfl (by assumption) (fun w hS => Y.idx rfl rfl (hsW _ hS) (by omega) (by simp)) ?_
            refine AW.takeOn 24 rfl (by kernel_rfl) (by kernel_rfl) (by kernel_rfl) rfl rfl rfl rfl (by assumption) (fun w hS => Y.load1 rfl ((hsW _ hS).cell (j := 0) rfl)) ?_
            refine AW.takeOn 25 rfl (by kernel_rfl) (by kernel_rfl) (by kernel_rfl) rfl rfl rfl rfl (by assumption) (fun w hS => gesE rfl rfl hc3) ?_
            refine AW.takeOn 26 rfl (by kernel_rfl) (by kernel_rfl) (by kernel_rfl) rfl rfl rfl rfl (by assumption) (fun w hS => by exact Y.pickT rfl rfl) ?_
            refine AW.take 27 rfl (by kernel_rfl) (by kernel_rfl) (by kernel_rfl) rfl (by assumption) (fun w hS => by exact Y.pickF rfl rfl) ?_
            refine AW.take 28 rfl (by kernel_rfl) (by kernel_rfl) (by kernel_rfl) rfl (by assumption) (fun w hS => Y.move rfl) ?_
            refine AW.takeOn 29 rfl (by kernel_rfl) (by kernel_rfl) (by kernel_rfl) rfl rfl rfl rfl (by assumption) (fun w hS => Y.move rfl) ?_
            refine AW.takeOn 30 rfl (by kernel_rfl) (by kernel_rfl) (by kernel_rfl) rfl rfl rfl rfl (by assumption) (fun w hS => Y.lenx rfl (hsA _ hS)) ?_
            refine AW.takeOn 31 rfl (by kernel_rfl) (by kernel_rfl) (by kernel_rfl) rfl rfl rfl rfl (by assumption) (fun w hS => Y.geq rfl rfl) ?_
            refine AW.take 32 rfl (by kernel_rfl) (by kernel_rfl) (by kernel_rfl) rfl (by assumption) (fun w hS => by exact Y.pickF rfl rfl) ?_
            refine AW.donew [5, 6, 7, 8, 74] (by kernel_rfl) ?_
            dsimp only [H.keep, H.look, H.Fr.put, Nat.beq]
            have hsW3 := hsW _ hS
            by_cases h200 : acc.length < 200
            rotate_left
            · try (exfalso; omega)
              all_goals repeat' (first | (refine CL.seq ?_) | (refine CL.region ?_) | (refine CL.condP rfl (fun _ => ?_) (fun _ => ?_) <;> try (exfalso; omega)) | (refine CL.ret ?_) | (refine Rt.then ?_) | (refine Rt.block ?_) | (refine Gt.nil ?_; refine RW.nilw [0, 2, 3, 4, 5, 6, 7, 8, 9, 10, 11, 12, 28, 34, 74, 96] ?_; dsimp only [H.keep, H.look, H.Fr.put, Nat.beq]) | (refine Gt.move ?_; refine RW.y (Y.move rfl) rfl ?_) | (refine Gt.assign ?_; refine RW.y (Y.assign rfl) rfl ?_) | (refine Gt.add ?_; refine RW.y (Y.add64 rfl rfl (by omega) (by omega)) rfl ?_))
              all_goals exact FQ.res (rs := [.tmp 2, .tmp 3, .tmp 4]) (vs := [_, _, _]) rfl rfl ⟨rfl, rfl, rfl, trivial⟩ rfl (hfail (hno fun p hp c => by omega) _ hS)
            repeat' (first | (refine CL.seq ?_) | (refine CL.region ?_) | (refine CL.skip ?_) | (refine CL.condP rfl (fun _ => ?_) (fun _ => ?_) <;> try (exfalso; omega)) | (refine Gt.move ?_; refine RW.y (Y.move rfl) rfl ?_) | (refine Gt.idx ?_; (refine RW.elemS rfl rfl rfl rfl (by assumption) (by omega) (by omega) ?_)))
            refine RW.fn rfl rfl ((versionOfN b (by omega) w3).mono ?_)
            rintro e w4 ⟨hk4, V, rfl, hV⟩
            obtain ⟨pv, hVe, hpv, hpl⟩ := hV
            subst hVe
            repeat' (first | (refine Gt.move ?_; refine RW.y (Y.move rfl) rfl ?_) | (refine Gt.extract ?_; refine RW.y (Y.extract rfl rfl) rfl ?_))
            refine RW.varN rfl (by rfl) rfl (verCells hpv.one) rfl (fun w5 hb5 hk5 hlt5 => ?_)
            have hS5 := (hS.trans0 hk4).trans0 hk5
            have hsW5 := hsW _ hS5
            repeat' (first | (refine CL.seq ?_) | (refine CL.region ?_) | (refine Gt.nil ?_; refine RW.nilw [0, 2, 3, 4, 5, 6, 7, 8, 9, 10, 11, 12, 28, 34, 74, 96] ?_; dsimp only [H.keep, H.look, H.Fr.put, Nat.beq]) | (refine Gt.move ?_; refine RW.y (Y.move rfl) rfl ?_) | (refine Gt.assign ?_; refine RW.y (Y.assign rfl) rfl ?_) | (refine Gt.idx ?_; (refine RW.elemS rfl rfl rfl rfl (by assumption) (by omega) (by omega) ?_)))
            refine RW.fn rfl rfl ((refUnhex c (by omega) w5).mono ?_)
            rintro e w6 ⟨hk6, rfl⟩
            have hKs : ∃ ks : T, ks.length = 32 ∧ keyR c = .tuple #[.agg (bv ks).toArray, .bool (unhexB c).isSome] ∧ ∀ k, unhexB c = some k → ks = k := by
              refine ⟨(unhexB c).getD (List.replicate 32 0), ?_, rfl, fun k h => by rw [h]; rfl⟩
              cases h : unhexB c with
              | none => rfl
              | some k => exact (hex_unhex h).2
            obtain ⟨ks, hks, hkr2, hkq⟩ := hKs
            rw [hkr2]
            repeat' (first | (refine Gt.move ?_; refine RW.y (Y.move rfl) rfl ?_) | (refine Gt.extract ?_; refine RW.y (Y.extract rfl rfl) rfl ?_))
            refine RW.varN rfl (by rw [List.size_toArray, List.length_map, hks]; rfl) rfl (fun z hz => bv_one ks z (by simpa using hz)) rfl (fun w7 hb7 hk7 hlt7 => ?_)
            have hb57 := hk7.at0 (hk6.at0 hb5)
            have hS7 := (hS5.trans0 hk6).trans0 hk7
            have hpv7 := ((hpv.keep0 hk5).keep0 hk6).keep0 hk7
            have hz4 := hk4.size
            have hz34 := hS.size
            have hKf : ∀ w', K0 w7 w' → K0 w2 w' := fun w' h => hS7.trans0 h
            obtain ⟨cd, hcd⟩ : ∃ cd : Int, (verR (parseV (cutB 45 b))).2 = cd := ⟨_, rfl⟩
            obtain ⟨ok, hok⟩ : ∃ ok, (unhexB c).isSome = ok := ⟨_, rfl⟩
            rw [hcd, hok]
            cases ok with
            | false =>
              have hu : unhexB c = none := by simpa using hok
              have hpn : pinB x = none := by rw [hpb, hu]; split <;> first | rfl | (rename_i q; cases q)
              repeat' (first | (refine CL.seq ?_) | (refine CL.region ?_) | (refine CL.condT rfl ?_) | (refine CL.ret ?_) | (refine Rt.then ?_) | (refine Rt.block ?_) | (refine Gt.nil ?_; refine RW.nilw [0, 2, 3, 4, 5, 6, 7, 8, 9, 10, 11, 12, 28, 34, 74, 96] ?_; dsimp only [H.keep, H.look, H.Fr.put, Nat.beq]) | (refine Gt.move ?_; refine RW.y (Y.move rfl) rfl ?_) | (refine Gt.guard ?_; first | (refine RW.part rfl rfl rfl (fun _ => ?_) (fun _ => ?_) <;> try (exfalso; omega)) | (refine RW.on rfl rfl rfl ?_) | (refine RW.off1 rfl rfl rfl rfl rfl ?_)) | (refine Gt.assign ?_; refine RW.y (Y.assign rfl) rfl ?_) | (refine Gt.pick ?_; first | (refine RW.y (Y.pickT rfl rfl) rfl ?_) | (refine RW.y (Y.pickF rfl rfl) rfl ?_)) | (refine Gt.not ?_; (refine RW.y (Y.notb rfl) rfl ?_)) | (refine Gt.neq ?_; refine RW.y (Y.nei rfl rfl) rfl ?_) | (refine Gt.add ?_; refine RW.y (Y.add64 rfl rfl (by omega) (by omega)) rfl ?_))
              all_goals exact FQ.res (rs := [.tmp 2, .tmp 3, .tmp 4]) (vs := [_, _, _]) rfl rfl ⟨rfl, rfl, rfl, trivial⟩ rfl (hfail (hbad hpn) _ hS7)
            | true =>
              repeat' (first | (refine CL.seq ?_) | (refine CL.region ?_) | (refine CL.skip ?_) | (refine CL.condT rfl ?_) | (refine CL.condF rfl ?_) | (refine CL.ret ?_) | (refine Rt.then ?_) | (refine Rt.block ?_) | (refine Gt.nil ?_; refine RW.nilw [0, 2, 3, 4, 5, 6, 7, 8, 9, 10, 11, 12, 28, 34, 74, 96] ?_; dsimp only [H.keep, H.look, H.Fr.put, Nat.beq]) | (refine Gt.move ?_; refine RW.y (Y.move rfl) rfl ?_) | (refine Gt.guard ?_; first | (refine RW.part rfl rfl rfl (fun _ => ?_) (fun _ => ?_) <;> try (exfalso; omega)) | (refine RW.on rfl rfl rfl ?_) | (refine RW.off1 rfl rfl rfl rfl rfl ?_)) | (refine Gt.assign ?_; refine RW.y (Y.assign rfl) rfl ?_) | (refine Gt.pick ?_; first | (refine RW.y (Y.pickT rfl rfl) rfl ?_) | (refine RW.y (Y.pickF rfl rfl) rfl ?_)) | (refine Gt.not ?_; (refine RW.y (Y.notb rfl) rfl ?_)) | (refine Gt.neq ?_; refine RW.y (Y.nei rfl rfl) rfl ?_) | (refine Gt.add ?_; refine RW.y (Y.add64 rfl rfl (by omega) (by omega)) rfl ?_))
              · rename_i hc0
                have hvn : parseV (cutB 45 b) = none := by
                  cases hv : parseV (cutB 45 b) with
                  | none => rfl
                  | some vv => rw [hv] at hcd; exact absurd hcd.symm hc0
                have hpn : pinB x = none := by rw [hpb, hvn]
                exact FQ.res (rs := [.tmp 2, .tmp 3, .tmp 4]) (vs := [_, _, _]) rfl rfl ⟨rfl, rfl, rfl, trivial⟩ rfl (hfail (hbad hpn) _ hS7)
              rename_i hc0
              obtain ⟨vv, hvv⟩ : ∃ vv, parseV (cutB 45 b) = some vv := by
                cases hv : parseV (cutB 45 b) with
                | some vv => exact ⟨vv, rfl⟩
                | none => rw [hv] at hcd; exact absurd hcd (by have : cd = 0 := by omega
                                                               rw [this]; decide)
              obtain ⟨kk, hkk⟩ := Option.isSome_iff_exists.1 hok
              have hke := hkq kk hkk
              subst hke
              have hpp : pinB x = some ⟨a, vv, ks⟩ := by rw [hpb, hvv, hkk]
              rw [hvv] at hb57 hpv7
              obtain ⟨X, hXd, hXp⟩ : ∃ X : Pm, X.d = ⟨a, vv, ks⟩ ∧ X.p = pv := ⟨⟨⟨a, vv, ks⟩, pv, hks⟩, rfl, rfl⟩
              have hI7 := hIv.keep0 hS7
              have hs77 := hsW _ hS7
              have hIlt := hIv.lt
              have hz5 := hk5.size
              have hz6 := hk6.size
              have hqn : ∀ g, w2.heap.size ≤ g → ¬ q.ownBlock = some g := fun g hg c => by have := (hIlt g c).2; omega
              refine CL.draw (fun w' => Kept (fun k => q.ownBlock = some k) w7 w') (by kernel_rfl) (fun w8 hheap8 hk8 => ?_)
              have hS : Kept (fun k => q.ownBlock = some k) w7 w8 := hk8.of0
              have hat1 : ∀ w', Kept (fun k => q.ownBlock = some k) w7 w' → w'.heap[w4.heap.size]? = some (.cells #[.int .i64 vv.a, .int .i64 vv.b, .int .i64 vv.c, pv] verT (0, 0)) := fun w' h => h.at hb57 (hqn _ (by omega))
              have hat2 : ∀ w', Kept (fun k => q.ownBlock = some k) w7 w' → w'.heap[w6.heap.size]? = some (.cells (bv ks).toArray keyT (0, 0)) := fun w' h => h.at hb7 (hqn _ (by omega))
              have hatW : ∀ w', Kept (fun k => q.ownBlock = some k) w7 w' → Sl w' 1 v2 [a, b, c].length (sv [a, b, c]) := fun w' h => hs77.keep h fun g hg cc => by
                have h1 := (how2.lt g (live_own hg)).1
                have h2 := (hI.lt g cc).2
                omega
              skip
              refine AW.take 0 rfl (by kernel_rfl) (by kernel_rfl) (by kernel_rfl) rfl (by assumption) (fun w hS => Y.move rfl) ?_
              refine AW.take 1 rfl (by kernel_rfl) (by kernel_rfl) (by kernel_rfl) rfl (by assumption) (fun w hS => Y.move rfl) ?_
              refine AW.take 2 rfl (by kernel_rfl) (by kernel_rfl) (by kernel_rfl) rfl (by assumption) (fun w hS => Y.idx rfl rfl (hatW _ hS) (by omega) (by simp)) ?_
              refine AW.take 3 rfl (by kernel_rfl) (by kernel_rfl) (by kernel_rfl) rfl (by assumption) (fun w hS => Y.load1 rfl ((hatW _ hS).cell (j := 0) rfl)) ?_
              refine AW.take 4 rfl (by kernel_rfl) (by kernel_rfl) (by kernel_rfl) rfl (by assumption) (fun w hS => Y.loadBlock rfl (hat1 _ hS) rfl) ?_
              refine AW.take 5 rfl (by kernel_rfl) (by kernel_rfl) (by kernel_rfl) rfl (by assumption) (fun w hS => Y.loadBlock rfl (hat2 _ hS) (by rw [List.size_toArray, List.length_map, hks]; rfl)) ?_
              refine AW.take 6 rfl (by kernel_rfl) (by kernel_rfl) (by kernel_rfl) rfl (by assumption) (fun w hS => pmBuild X (by rw [hXd]; rfl) (by rw [hXd, hXp]; rfl) (by rw [hXd]; rfl)) ?_
              refine AW.next 7 rfl (by kernel_rfl) ?_
              have hz8 := hk8.size
              refine RW.build1 rfl (by show (pmC _).toArray.size = _; rw [List.size_toArray, pmC_len]) rfl rfl (fun w9 hb9 hk9 hlt9 => ?_)
              have hown9 : w9.ownsRow w8.heap.size pmT 37 (.slice (some ⟨w8.heap.size, 0, none⟩) 1 1) 1 (pmC X) := own_new hb9 (Nat.le_refl _) (by show (pmC _).toArray.size = _; rw [List.size_toArray, pmC_len]) (by decide)
              have hS := hS.trans0 hk9
              refine RW.nil (Nm.then ⟨hS, ?_⟩)
              skip
              refine AW.next 8 rfl (by kernel_rfl) ?_
              have hz9 := hk9.size
              have hI9 := hI7.keep0 (hk8.trans0 hk9)
              refine RW.app (sz := 37) rfl rfl rfl rfl rfl hI9.1 (Sl.of_own hown9) (pmC_one (by rw [hXp]; exact hpv7.one)) (by omega) (by omega) (by omega) (fun q' w10 how10 hk10 hl10 => ?_)
              have hS := hS.trans hk10 fun k h => .inl h
              refine RW.nil (Nm.then ⟨hS, ?_⟩)
              refine AW.take 9 rfl (by kernel_rfl) (by kernel_rfl) (by kernel_rfl) rfl (by assumption) (fun w hS => Y.assign rfl) ?_
              refine AW.donew [5, 6, 7] (by kernel_rfl) ?_
              dsimp only [H.keep, H.look, H.Fr.put, Nat.beq]
              repeat' (first | (refine CL.region ?_) | (refine CL.done ?_) | (refine Nm.block ?_) | (refine Nm.then ?_) | (refine Gt.nil ?_; refine RW.nilw [0, 2, 3, 4, 5, 6, 7, 8, 9, 10, 11, 12, 28, 34, 74, 96] ?_; dsimp only [H.keep, H.look, H.Fr.put, Nat.beq]) | (refine Gt.move ?_; refine RW.y (Y.move rfl) rfl ?_) | (refine Gt.assign ?_; refine RW.y (Y.assign rfl) rfl ?_) | (refine Gt.add ?_; refine RW.y (Y.add64 rfl rfl (by omega) (by omega)) rfl ?_))
              have hDX : pmK.D w9 X := by
                show Sl w9 1 X.p X.d.v.pre.length (sv X.d.v.pre)
                rw [hXp, hXd]; exact (hpv7.keep0 hk8).keep0 hk9
              have hXl : ∀ g, pmK.R X g → ¬ q.ownBlock = some g := fun g hg c => by
                have hg' : live pv = some g := by rw [← hXp]; exact hg
                have := hpl g hg'
                exact hqn g (by omega) c
              have hmem : ∀ y ∈ acc ++ [X], pmK.D w9 y ∧ ∀ g, pmK.R y g → ¬ q.ownBlock = some g := fun y hy => by
                rcases List.mem_append.1 hy with hy | hy
                · exact ⟨(hI9.2 y hy).1, fun g hg => (hI9.2 y hy).2 g hg⟩
                · rw [List.mem_singleton.1 hy]; exact ⟨hDX, hXl⟩
              have hI10 : GI pmK w10 w1.heap.size pmT q' (acc ++ [X]) := by
                refine ⟨?_, fun y hy => ⟨pmK.keep _ _ _ y (hmem y hy).1 hk10 fun g hl hg => (hmem y hy).2 g hg, fun g hg c => ?_⟩⟩
                · rw [List.length_append, List.flatMap_append]
                  have e : ([X] : List Pm).flatMap pmK.enc = pmC X := by simp [pmK]
                  rw [e]; exact how10
                · rcases hl10 g c with c | c
                  · exact (hmem y hy).2 g hg c
                  · have := pmK.lt _ _ g (hmem y hy).1 hg; omega
              exact ⟨l.length - (i + 1), _, rfl, rfl, rfl, by omega, i + 1, q', acc ++ [X], by simp, rfl, by omega, hI10, by rw [hinv, hyes _ hpp ⟨h200, hord _ hpp⟩, List.map_append, List.map_cons, List.map_nil, hXd], by rw [List.length_append, List.length_singleton]; omega, by omega, ((hkr.trans0 hk2).trans0 hS7).trans hS fun k h => .inr (hI.lt k h).1⟩
    · have hc1 : decide ((ws.length : Int) ≠ 3) = true := decide_eq_true (by omega)
      skip
      refine AW.take 0 rfl (by kernel_rfl) (by kernel_rfl) (by kernel_rfl) rfl (by assumption) (fun w hS => Y.move rfl) ?_
      refine AW.take 1 rfl (by kernel_rfl) (by kernel_rfl) (by kernel_rfl) rfl (by assumption) (fun w hS => Y.lenx rfl (hsW _ hS)) ?_
      refine AW.take 2 rfl (by kernel_rfl) (by kernel_rfl) (by kernel_rfl) rfl (by assumption) (fun w hS => Y.neiE rfl rfl hc1) ?_
      refine AW.take 3 rfl (by kernel_rfl) (by kernel_rfl) (by kernel_rfl) rfl (by assumption) (fun w hS => Y.move rfl) ?_
      refine AW.takeOff 4 rfl (by kernel_rfl) (by kernel_rfl) (by kernel_rfl) rfl rfl rfl rfl rfl (by assumption) ?_
      refine AW.takeOff 5 rfl (by kernel_rfl) (by kernel_rfl) (by kernel_rfl) rfl rfl rfl rfl rfl (by assumption) ?_
      refine AW.takeOff 6 rfl (by kernel_rfl) (by kernel_rfl) (by kernel_rfl) rfl rfl rfl rfl rfl (by assumption) ?_
      refine AW.takeOff 7 rfl (by kernel_rfl) (by kernel_rfl) (by kernel_rfl) rfl rfl rfl rfl rfl (by assumption) ?_
      refine AW.takeOff 8 rfl (by kernel_rfl) (by kernel_rfl) (by kernel_rfl) rfl rfl rfl rfl rfl (by assumption) ?_
      refine AW.take 9 rfl (by kernel_rfl) (by kernel_rfl) (by kernel_rfl) rfl (by assumption) (fun w hS => by exact Y.pickT rfl rfl) ?_
      refine AW.take 10 rfl (by kernel_rfl) (by kernel_rfl) (by kernel_rfl) rfl (by assumption) (fun w hS => Y.move rfl) ?_
      refine AW.takeOff 11 rfl (by kernel_rfl) (by kernel_rfl) (by kernel_rfl) rfl rfl rfl rfl rfl (by assumption) ?_
      refine AW.takeOff 12 rfl (by kernel_rfl) (by kernel_rfl) (by kernel_rfl) rfl rfl rfl rfl rfl (by assumption) ?_
      refine AW.takeOff 13 rfl (by kernel_rfl) (by kernel_rfl) (by kernel_rfl) rfl rfl rfl rfl rfl (by assumption) ?_
      refine AW.takeOff 14 rfl (by kernel_rfl) (by kernel_rfl) (by kernel_rfl) rfl rfl rfl rfl rfl (by assumption) ?_
      refine AW.takeOffU 15 rfl (by kernel_rfl) (by kernel_rfl) (by kernel_rfl) rfl rfl rfl rfl (by assumption) ?_
      refine AW.takeOffU 16 rfl (by kernel_rfl) (by kernel_rfl) (by kernel_rfl) rfl rfl rfl rfl (by assumption) ?_
      refine AW.takeOffU 17 rfl (by kernel_rfl) (by kernel_rfl) (by kernel_rfl) rfl rfl rfl rfl (by assumption) ?_
      refine AW.takeOffU 18 rfl (by kernel_rfl) (by kernel_rfl) (by kernel_rfl) rfl rfl rfl rfl (by assumption) ?_
      refine AW.takeOffU 19 rfl (by kernel_rfl) (by kernel_rfl) (by kernel_rfl) rfl rfl rfl rfl (by assumption) ?_
      refine AW.takeOffU 20 rfl (by kernel_rfl) (by kernel_rfl) (by kernel_rfl) rfl rfl rfl rfl (by assumption) ?_
      refine AW.takeOffU 21 rfl (by kernel_rfl) (by kernel_rfl) (by kernel_rfl) rfl rfl rfl rfl (by assumption) ?_
      refine AW.takeOffU 22 rfl (by kernel_rfl) (by kernel_rfl) (by kernel_rfl) rfl rfl rfl rfl (by assumption) ?_
      refine AW.takeOffU 23 rfl (by kernel_rfl) (by kernel_rfl) (by kernel_rfl) rfl rfl rfl rfl (by assumption) ?_
      refine AW.takeOffU 24 rfl (by kernel_rfl) (by kernel_rfl) (by kernel_rfl) rfl rfl rfl rfl (by assumption) ?_
      refine AW.takeOffU 25 rfl (by kernel_rfl) (by kernel_rfl) (by kernel_rfl) rfl rfl rfl rfl (by assumption) ?_
      refine AW.takeOff 26 rfl (by kernel_rfl) (by kernel_rfl) (by kernel_rfl) rfl rfl rfl rfl rfl (by assumption) ?_
      refine AW.take 27 rfl (by kernel_rfl) (by kernel_rfl) (by kernel_rfl) rfl (by assumption) (fun w hS => by exact Y.pickT rfl rfl) ?_
      refine AW.take 28 rfl (by kernel_rfl) (by kernel_rfl) (by kernel_rfl) rfl (by assumption) (fun w hS => Y.move rfl) ?_
      refine AW.takeOff 29 rfl (by kernel_rfl) (by kernel_rfl) (by kernel_rfl) rfl rfl rfl rfl rfl (by assumption) ?_
      refine AW.takeOff 30 rfl (by kernel_rfl) (by kernel_rfl) (by kernel_rfl) rfl rfl rfl rfl rfl (by assumption) ?_
      refine AW.takeOff 31 rfl (by kernel_rfl) (by kernel_rfl) (by kernel_rfl) rfl rfl rfl rfl rfl (by assumption) ?_
      refine AW.take 32 rfl (by kernel_rfl) (by kernel_rfl) (by kernel_rfl) rfl (by assumption) (fun w hS => by exact Y.pickT rfl rfl) ?_
      refine AW.donew [5, 6, 7, 8, 74] (by kernel_rfl) ?_
      dsimp only [H.keep, H.look, H.Fr.put, Nat.beq]
      repeat' (first | (refine CL.seq ?_) | (refine CL.region ?_) | (refine CL.condT rfl ?_) | (refine CL.ret ?_) | (refine Rt.then ?_) | (refine Rt.block ?_) | (refine Gt.nil ?_; refine RW.nilw [0, 2, 3, 4, 5, 6, 7, 8, 9, 10, 11, 12, 28, 34, 74, 96] ?_; dsimp only [H.keep, H.look, H.Fr.put, Nat.beq]) | (refine Gt.move ?_; refine RW.y (Y.move rfl) rfl ?_) | (refine Gt.assign ?_; refine RW.y (Y.assign rfl) rfl ?_) | (refine Gt.add ?_; refine RW.y (Y.add64 rfl rfl (by omega) (by omega)) rfl ?_))
      exact FQ.res (rs := [.tmp 2, .tmp 3, .tmp 4]) (vs := [_, _, _]) rfl rfl ⟨rfl, rfl, rfl, trivial⟩ rfl (hfail (hbad (h3 hw3)) _ hS)
  · have hdr : l.drop i = [] := List.drop_of_length_le hge
    rw [hdr, rdPins] at hinv
    repeat' (first | (refine CL.seq ?_) | (refine CL.region ?_) | (refine CL.condP rfl (fun _ => ?_) (fun _ => ?_) <;> try (exfalso; omega)) | (refine CL.exit ?_) | (refine Ex.then ?_) | (refine Ex.hit ?_) | (refine CL.ret ?_) | (refine Gt.nil ?_; refine RW.nilw [0, 2, 3, 4, 5, 6, 7, 8, 9, 10, 11, 12, 28, 34, 74, 96] ?_; dsimp only [H.keep, H.look, H.Fr.put, Nat.beq]) | (refine Gt.move ?_; refine RW.y (Y.move rfl) rfl ?_) | (refine Gt.assign ?_; refine RW.y (Y.assign rfl) rfl ?_) | (refine Gt.len ?_; (refine RW.y (Y.lenx rfl (by assumption)) rfl ?_)) | (refine Gt.lss ?_; refine RW.y (Y.lss rfl rfl) rfl ?_))
    exact FQ.res (rs := [.tmp 2, .tmp 3, .tmp 4]) (vs := [_, _, _]) rfl rfl ⟨rfl, rfl, rfl, trivial⟩ rfl (⟨hKr, by rw [hinv]; exact ⟨q, acc, rfl, hI.ga, rfl⟩⟩)
end Go.Proofs.YtggodknolmdegaaGreatDoor.Lk

namespace Go.Proofs.YtggodknolmdegaaGreatDoor.Lk
open Go.RowKit H S Ve
attribute [local irreducible] H.CL H.RW H.CW H.Yd H.thenK H.blockQ Go.Calls keyAt unhexB

def oneV : Ver := ⟨1, 0, 0, []⟩
def pinA : Pn := ⟨[97], oneV, List.replicate 32 0⟩
theorem one_parse : parseV (cutB 45 [49, 46, 48, 46, 48]) = some oneV := rfl
theorem ex1 : lockB [108, 111, 99, 107, 32, 49, 10] = ([], 0, 0) := by
  have e : splitB 10 ([108, 111, 99, 107, 32, 49, 10] : T).dropLast = [headL] := rfl
  rw [lockB, e, if_pos ⟨by decide, rfl, rfl⟩]; rfl
theorem pin_x : pinB [120] = none := by
  have e : splitB 32 ([120] : T) = [[120]] := rfl
  rw [pinB, e]
theorem ex2 : lockB [108, 111, 99, 107, 32, 49, 10, 120, 10] = ([], 2, 63) := by
  have e : splitB 10 ([108, 111, 99, 107, 32, 49, 10, 120, 10] : T).dropLast = [headL, [120]] := rfl
  rw [lockB, e, if_pos ⟨by decide, rfl, rfl⟩]
  show rdPins [[120]] [] 2 = _
  rw [rdPins, pin_x]; rfl
theorem okA : Ok pinA := ⟨rfl, ⟨_, one_parse⟩, rfl⟩
theorem textV_len {v : Ver} (h1 : v.pre.length ≤ 10) (h2 : ∀ s ∈ v.pre, s.length ≤ 100) (ha : v.a ≤ 9223372036854775807) (hb : v.b ≤ 9223372036854775807) (hc : v.c ≤ 9223372036854775807) : (textV v).length ≤ 2000 := by
  have l1 := decI_len v.a ha
  have l2 := decI_len v.b hb
  have l3 := decI_len v.c hc
  have lg := glueC_len 46 100 v.pre h2
  have : v.pre.length * (100 + 1) ≤ 10 * 101 := Nat.mul_le_mul h1 (Nat.le_refl _)
  rw [textV]
  split <;> simp <;> omega
theorem fit_of {p : Pn} (h : Ok p) : FitP p := by
  obtain ⟨s, hs⟩ := h.v
  have hp := parse_parts hs
  have hm : Fit p.v := by
    have := parse_fit s
    rw [hs] at this; exact this
  refine ⟨?_, hm, by omega, by omega, by omega, ?_⟩
  · have := h.name
    simp only [nameB, Bool.and_eq_true, decide_eq_true_eq] at this; omega
  · have := textV_len (v := p.v) (by omega) (fun s hs => by have := mark_len (List.all_eq_true.1 hp.2.1 s hs); omega) (by omega) (by omega) (by omega)
    omega
theorem sort_one (p : Pn) : sortP [p] = [p] := rfl
theorem exA : lockB (lockT [pinA]) = ([pinA], 0, 0) := by
  have h := lock_back (l := [pinA]) (fun p hp => by rw [List.mem_singleton.1 hp]; exact okA) (by simp [Diff]) (by simp) (by
    have h1 := (fit_of okA).text
    have h2 : (textV pinA.v).length ≤ 2000 := textV_len (v := oneV) (by simp [oneV]) (fun s hs => by simp [oneV] at hs) (by decide) (by decide) (by decide)
    rw [lockT, sort_one]
    simp only [List.flatMap_cons, List.flatMap_nil, List.append_nil, pinT, List.length_append, hexB_len, headL, List.length_cons, List.length_nil]
    have : pinA.sum.length = 32 := rfl
    have : pinA.name.length = 1 := rfl
    omega)
  exact h
theorem LockP.out {l : List Pn} {n c : Int} {e : Ending} {w : World} (h : LockP (l, n, c) e w) : ∃ (u : Value) (L : List Pm), e = .returned (.tuple #[u, .int .i64 n, .int .i64 c]) ∧ GA pmK w u L ∧ L.map (·.d) = l := h
theorem map_nil_of {L : List Pm} (h : L.map (·.d) = []) : L = [] := List.map_eq_nil_iff.1 h

set_option maxHeartbeats 1000000 in
theorem known (w : World) (hT : Tb w) : Calls Tryz.prog 8 #[] w fun e w' => K0 w w' ∧ e = .returned (.bool true) := by
  refine H.enter Tryz.func8 Tryz.ntmps8 rfl rfl ?_; dsimp only [H.args]
  repeat' (first | (refine CL.seq ?_) | (refine CL.region ?_) | (refine Gt.nil ?_; refine RW.nilw [0, 1, 3, 5, 6, 7, 9, 10, 12] ?_; dsimp only [H.keep, H.look, H.Fr.put, Nat.beq]) | (refine Gt.assign ?_; refine RW.y (Y.assign rfl) rfl ?_))
  refine RW.fn rfl rfl ((parse _ (by decide) w).mono ?_)
  rintro e w1 ⟨hk1, h1⟩
  rw [ex1] at h1
  obtain ⟨u1, L1, rfl, hG1, hd1⟩ := h1.out
  obtain rfl := map_nil_of hd1
  repeat' (first | (refine CL.seq ?_) | (refine CL.region ?_) | (refine Gt.nil ?_; refine RW.nilw [0, 1, 3, 5, 6, 7, 9, 10, 12] ?_; dsimp only [H.keep, H.look, H.Fr.put, Nat.beq]) | (refine Gt.move ?_; refine RW.y (Y.move rfl) rfl ?_) | (refine Gt.assign ?_; refine RW.y (Y.assign rfl) rfl ?_) | (refine Gt.extract ?_; refine RW.y (Y.extract rfl rfl) rfl ?_))
  refine RW.fn rfl rfl ((parse _ (by decide) w1).mono ?_)
  rintro e w2 ⟨hk2, h2⟩
  rw [ex2] at h2
  obtain ⟨u2, L2, rfl, hG2, hd2⟩ := h2.out
  repeat' (first | (refine CL.seq ?_) | (refine CL.region ?_) | (refine Gt.nil ?_; refine RW.nilw [0, 1, 3, 5, 6, 7, 9, 10, 12] ?_; dsimp only [H.keep, H.look, H.Fr.put, Nat.beq]) | (refine Gt.move ?_; refine RW.y (Y.move rfl) rfl ?_) | (refine Gt.assign ?_; refine RW.y (Y.assign rfl) rfl ?_) | (refine Gt.extract ?_; refine RW.y (Y.extract rfl rfl) rfl ?_))
  refine RW.fn rfl rfl ((versionOfN _ (by decide) w2).mono ?_)
  rintro e w3 ⟨hk3, V, rfl, hV⟩
  rw [one_parse] at hV ⊢
  obtain ⟨pv, rfl, hpv, hpl⟩ := hV
  repeat' (first | (refine Gt.move ?_; refine RW.y (Y.move rfl) rfl ?_) | (refine Gt.extract ?_; refine RW.y (Y.extract rfl rfl) rfl ?_))
  refine RW.varN rfl (by rfl) rfl (verCells hpv.one) rfl (fun w4 hb4 hk4 hlt4 => ?_)
  obtain ⟨X, hXd, hXp⟩ : ∃ X : Pm, X.d = pinA ∧ X.p = pv := ⟨⟨pinA, pv, rfl⟩, rfl, rfl⟩
  repeat' (first | (refine CL.seq ?_) | (refine CL.region ?_) | (refine Gt.nil ?_; refine RW.nilw [0, 1, 3, 5, 6, 7, 9, 10, 12] ?_; dsimp only [H.keep, H.look, H.Fr.put, Nat.beq]) | (refine RW.y (pmBuild2 X (by rw [hXd]; rfl) (by rw [hXd]; rfl) (by rw [hXd, hXp]; rfl)) rfl ?_) | (refine Gt.assign ?_; refine RW.y (Y.assign rfl) rfl ?_) | (refine Gt.load ?_; (refine RW.y (Y.loadBlock rfl (by assumption) rfl) rfl ?_)))
  refine RW.build1 rfl (by show (pmC _).toArray.size = _; rw [List.size_toArray, pmC_len]) rfl rfl (fun w5 hb5 hk5 hlt5 => ?_)
  have hD5 : pmK.D w5 X := by
    show Sl w5 1 X.p X.d.v.pre.length (sv X.d.v.pre)
    rw [hXp, hXd]; exact (hpv.keep0 hk4).keep0 hk5
  have hG5 : GA pmK w5 (.slice (some ⟨w4.heap.size, 0, none⟩) 1 1) [X] := by
    refine ⟨?_, fun y hy => by rw [List.mem_singleton.1 hy]; exact hD5⟩
    have h := sl_new (sz := 37) (n := 1) hb5 (by show (pmC _).toArray.size = _; rw [List.size_toArray, pmC_len]) (by decide)
    have e : ([X] : List Pm).flatMap pmK.enc = pmC X := by simp [pmK]
    rw [e]; exact h
  have hF : ∀ x ∈ [X], FitP x.d := fun x hx => by rw [List.mem_singleton.1 hx, hXd]; exact fit_of okA
  have hT5 : Tb w5 := hT.keep0 ((((hk1.trans0 hk2).trans0 hk3).trans0 hk4).trans0 hk5)
  have hK5 := (((hk1.trans0 hk2).trans0 hk3).trans0 hk4).trans0 hk5
  repeat' (first | (refine CL.seq ?_) | (refine CL.region ?_) | (refine Gt.nil ?_; refine RW.nilw [0, 1, 3, 5, 6, 7, 9, 10, 12] ?_; dsimp only [H.keep, H.look, H.Fr.put, Nat.beq]) | (refine Gt.move ?_; refine RW.y (Y.move rfl) rfl ?_) | (refine Gt.assign ?_; refine RW.y (Y.assign rfl) rfl ?_))
  refine RW.fn rfl rfl ((text _ [X] w5 hG5 (.inl (by simp)) (by simp) hF hT5).mono ?_)
  rintro e w6 ⟨hk6, rfl⟩
  have hXX : [X].map (·.d) = [pinA] := by rw [List.map_cons, List.map_nil, hXd]
  rw [hXX]
  have hlt : (lockT [pinA]).length ≤ 1000000 := by
    have h2 : (textV pinA.v).length ≤ 2000 := textV_len (v := oneV) (by simp [oneV]) (fun s hs => by simp [oneV] at hs) (by decide) (by decide) (by decide)
    rw [lockT, sort_one]
    simp only [List.flatMap_cons, List.flatMap_nil, List.append_nil, pinT, List.length_append, hexB_len, headL, List.length_cons, List.length_nil]
    have : pinA.sum.length = 32 := rfl
    have : pinA.name.length = 1 := rfl
    omega
  refine RW.fn rfl rfl ((parse _ hlt w6).mono ?_)
  rintro e w7 ⟨hk7, h7⟩
  rw [exA] at h7
  obtain ⟨u7, L7, rfl, hG7, hd7⟩ := h7.out
  have hF7 : ∀ x ∈ L7, FitP x.d := fun x hx => by
    have : x.d ∈ L7.map (·.d) := List.mem_map_of_mem hx
    rw [hd7] at this
    rw [List.mem_singleton.1 this]; exact fit_of okA
  have hT7 : Tb w7 := (hT5.keep0 hk6).keep0 hk7
  have hu1 : Sl w7 37 u1 0 [] := hG1.1.keep0 ((((((hk2.trans0 hk3).trans0 hk4).trans0 hk5).trans0 hk6).trans0 hk7))
  have hG57 := (hG5.keep0 hk6).keep0 hk7
  repeat' (first | (refine CL.seq ?_) | (refine CL.region ?_) | (refine Gt.nil ?_; refine RW.nilw [0, 1, 3, 5, 6, 7, 9, 10, 12] ?_; dsimp only [H.keep, H.look, H.Fr.put, Nat.beq]) | (refine Gt.move ?_; refine RW.y (Y.move rfl) rfl ?_) | (refine Gt.guard ?_; first | (refine RW.part rfl rfl rfl (fun _ => ?_) (fun _ => ?_) <;> try (exfalso; omega)) | (refine RW.on rfl rfl rfl ?_)) | (refine Gt.assign ?_; refine RW.y (Y.assign rfl) rfl ?_) | (refine Gt.extract ?_; refine RW.y (Y.extract rfl rfl) rfl ?_) | (refine Gt.pick ?_; (refine RW.y (Y.pickT rfl rfl) rfl ?_)) | (refine Gt.eql ?_; refine RW.y (Y.eqi rfl rfl) rfl ?_) | (refine Gt.len ?_; (refine RW.y (Y.lenx rfl (by assumption)) rfl ?_)))
  refine RW.fn rfl rfl ((same u7 _ L7 [X] w7 hG7 hG57 hF7 hF hT7).mono ?_)
  rintro e w8 ⟨hk8, rfl⟩
  rw [hd7, hXX, show sameP [pinA] [pinA] = true from by simp [sameP]]
  repeat' (first | (refine Gt.move ?_; refine RW.y (Y.move rfl) rfl ?_) | (refine Gt.guard ?_; (refine RW.on rfl rfl rfl ?_)) | (refine Gt.pick ?_; (refine RW.y (Y.pickT rfl rfl) rfl ?_)))
  refine RW.fn rfl rfl ((same u7 _ L7 [] w8 (hG7.keep0 hk8) ⟨Sl.nil _ _, fun x hx => by cases hx⟩ hF7 (fun x hx => by cases hx) (hT7.keep0 hk8)).mono ?_)
  rintro e w9 ⟨hk9, rfl⟩
  rw [hd7, show sameP [pinA] (([] : List Pm).map (·.d)) = false from by simp [sameP]]
  repeat' (first | (refine CL.ret ?_) | (refine Gt.nil ?_; refine RW.nilw [0, 1, 3, 5, 6, 7, 9, 10, 12] ?_; dsimp only [H.keep, H.look, H.Fr.put, Nat.beq]) | (refine Gt.guard ?_; (refine RW.on rfl rfl rfl ?_)) | (refine Gt.assign ?_; refine RW.y (Y.assign rfl) rfl ?_) | (refine Gt.pick ?_; (refine RW.y (Y.pickT rfl rfl) rfl ?_)) | (refine Gt.not ?_; (refine RW.y (Y.notb rfl) rfl ?_)))
  exact FQ.one rfl rfl rfl ⟨(((hK5.trans0 hk6).trans0 hk7).trans0 hk8).trans0 hk9, rfl⟩
end Go.Proofs.YtggodknolmdegaaGreatDoor.Lk

namespace Go.Proofs.YtggodknolmdegaaGreatDoor.Lk
open Go.RowKit H S Ve
attribute [local irreducible] H.CL H.RW H.CW H.Yd H.thenK H.blockQ Go.Calls keyAt unhexB

theorem rd_all : ∀ (ls : List T) (acc : List Pn) (n : Nat) (l : List Pn) (k : Int), rdPins ls acc n = (l, k, 0) → (∀ p ∈ acc, Ok p) → acc.length ≤ 200 → (∀ p ∈ l, Ok p) ∧ l.length ≤ 200
  | [], acc, n, l, k, h, ha, hl => by
    rw [rdPins] at h
    cases h
    exact ⟨ha, hl⟩
  | x :: r, acc, n, l, k, h, ha, hl => by
    rw [rdPins] at h
    split at h
    · cases h
    · rename_i p hp
      split at h
      · rename_i hc
        obtain ⟨_, h2, h3, h4⟩ := pin_line hp
        refine rd_all r (acc ++ [p]) (n + 1) l k h (fun q hq => ?_) (by rw [List.length_append, List.length_singleton]; omega)
        rcases List.mem_append.1 hq with hq | hq
        · exact ha q hq
        · rw [List.mem_singleton.1 hq]; exact ⟨h2, h3, h4⟩
      · cases h
theorem lock_ok {s : T} {l : List Pn} {k : Int} (h : lockB s = (l, k, 0)) : (∀ p ∈ l, Ok p) ∧ l.length ≤ 200 ∧ Asc l := by
  rw [lockB] at h
  split at h
  · have h1 := rd_all _ _ _ _ _ h (fun p hp => by cases hp) (by simp)
    exact ⟨h1.1, h1.2, (rd_ok _ _ _ _ _ h List.Pairwise.nil).1⟩
  · cases h
theorem asc_srtN {L : List Pm} (h : Asc (L.map (·.d))) : SrtN nmP L := by
  have h1 := h.srt
  rw [Srt, List.pairwise_map] at h1
  exact h1

set_option maxHeartbeats 1000000 in
theorem lawReads (s : T) (w : World) (hT : Tb w) : Calls Tryz.prog 3 #[vs s] w fun e w' => e = .returned (.bool true) ∧ K0 w w' := by
  refine H.enter Tryz.func3 Tryz.ntmps3 rfl rfl ?_; dsimp only [H.args]
  repeat' (first | (refine CL.seq ?_) | (refine CL.region ?_) | (refine Gt.nil ?_; refine RW.nilw [0, 2, 3, 4, 5, 6, 7, 8, 10, 13] ?_; dsimp only [H.keep, H.look, H.Fr.put, Nat.beq]) | (refine Gt.assign ?_; refine RW.y (Y.assign rfl) rfl ?_))
  refine RW.fn rfl rfl ((known w hT).mono ?_)
  rintro e w1 ⟨hk1, rfl⟩
  by_cases h3 : s.length ≤ 3000
  rotate_left
  · have hl9 : (s.length : Int) ≤ 9223372036854775807 ∨ 3000 < (s.length : Int) := by omega
    repeat' (first | (refine CL.seq ?_) | (refine CL.region ?_) | (refine CL.skip ?_) | (refine CL.condP rfl (fun _ => ?_) (fun _ => ?_) <;> try (exfalso; omega)) | (refine CL.condF rfl ?_) | (refine CL.ret ?_) | (refine Gt.nil ?_; refine RW.nilw [0, 2, 3, 4, 5, 6, 7, 8, 10, 13] ?_; dsimp only [H.keep, H.look, H.Fr.put, Nat.beq]) | (refine Gt.move ?_; refine RW.y (Y.move rfl) rfl ?_) | (refine Gt.assign ?_; refine RW.y (Y.assign rfl) rfl ?_) | (refine Gt.not ?_; (refine RW.y (Y.notb rfl) rfl ?_)) | (refine Gt.len ?_; refine RW.y (Y.lens rfl) rfl ?_) | (refine Gt.gtr ?_; refine RW.y (Y.gtr rfl rfl) rfl ?_))
    exact FQ.one rfl rfl rfl ⟨rfl, hk1⟩
  repeat' (first | (refine CL.seq ?_) | (refine CL.region ?_) | (refine CL.skip ?_) | (refine CL.condP rfl (fun _ => ?_) (fun _ => ?_) <;> try (exfalso; omega)) | (refine CL.condF rfl ?_) | (refine Gt.nil ?_; refine RW.nilw [0, 2, 3, 4, 5, 6, 7, 8, 10, 13] ?_; dsimp only [H.keep, H.look, H.Fr.put, Nat.beq]) | (refine Gt.move ?_; refine RW.y (Y.move rfl) rfl ?_) | (refine Gt.not ?_; (refine RW.y (Y.notb rfl) rfl ?_)) | (refine Gt.len ?_; refine RW.y (Y.lens rfl) rfl ?_) | (refine Gt.gtr ?_; refine RW.y (Y.gtr rfl rfl) rfl ?_))
  refine RW.fn rfl rfl ((parse s (by omega) w1).mono ?_)
  rintro e w2 ⟨hk2, h2⟩
  skip
  have hp2 : ∃ r, lockB s = r := ⟨_, rfl⟩
  obtain ⟨⟨ps, n, c⟩, hr⟩ := hp2
  rw [hr] at h2
  obtain ⟨u2, L2, rfl, hG2, hd2⟩ := h2.out
  repeat' (first | (refine CL.seq ?_) | (refine CL.region ?_) | (refine Gt.nil ?_; refine RW.nilw [0, 2, 3, 4, 5, 6, 7, 8, 10, 13] ?_; dsimp only [H.keep, H.look, H.Fr.put, Nat.beq]) | (refine Gt.move ?_; refine RW.y (Y.move rfl) rfl ?_) | (refine Gt.assign ?_; refine RW.y (Y.assign rfl) rfl ?_) | (refine Gt.extract ?_; refine RW.y (Y.extract rfl rfl) rfl ?_))
  refine RW.fn rfl rfl ((refLockOf s (by omega) w2).mono ?_)
  rintro e w3 ⟨hk3, h3'⟩
  rw [hr] at h3'
  obtain ⟨u3, L3, rfl, hG3, hd3⟩ := h3'.out
  have hG23 := hG2.keep0 hk3
  have hK3 := (hk1.trans0 hk2).trans0 hk3
  have hT3 := hT.keep0 hK3
  repeat' (first | (refine CL.seq ?_) | (refine CL.region ?_) | (refine Gt.nil ?_; refine RW.nilw [0, 2, 3, 4, 5, 6, 7, 8, 10, 13] ?_; dsimp only [H.keep, H.look, H.Fr.put, Nat.beq]) | (refine RW.y (Y.eqiS rfl rfl) rfl ?_) | (refine Gt.move ?_; refine RW.y (Y.move rfl) rfl ?_) | (refine Gt.guard ?_; (refine RW.on rfl rfl rfl ?_)) | (refine Gt.assign ?_; refine RW.y (Y.assign rfl) rfl ?_) | (refine Gt.extract ?_; refine RW.y (Y.extract rfl rfl) rfl ?_) | (refine Gt.pick ?_; (refine RW.y (Y.pickT rfl rfl) rfl ?_)))
  refine RW.fn rfl rfl ((helpPins u2 u3 L2 L3 w3 hG23 hG3 (by rw [hd2, hd3])).mono ?_)
  rintro e w4 ⟨hk4, rfl⟩
  by_cases hc : c = 0
  · subst hc
    obtain ⟨hok, hlen, hasc⟩ := lock_ok hr
    have hF2 : ∀ x ∈ L2, FitP x.d := fun x hx => fit_of (hok _ (by rw [← hd2]; exact List.mem_map_of_mem hx))
    have hL2 : L2.length ≤ 200 := by rw [← hd2, List.length_map] at hlen; exact hlen
    repeat' (first | (refine Gt.move ?_; refine RW.y (Y.move rfl) rfl ?_) | (refine Gt.guard ?_; first | (refine RW.part rfl rfl rfl (fun _ => ?_) (fun _ => ?_) <;> try (exfalso; omega)) | (refine RW.on rfl rfl rfl ?_)) | (refine Gt.pick ?_; (refine RW.y (Y.pickT rfl rfl) rfl ?_)) | (refine Gt.neq ?_; refine RW.y (Y.nei rfl rfl) rfl ?_))
    refine RW.fn rfl rfl ((text u2 L2 w4 (hG23.keep0 hk4) (.inr (asc_srtN (by rw [hd2]; exact hasc))) (by omega) hF2 (hT3.keep0 hk4)).mono ?_)
    rintro e w5 ⟨hk5, rfl⟩
    rw [hd2, lock_text hr]
    repeat' (first | (refine CL.ret ?_) | (refine Gt.nil ?_; refine RW.nilw [0, 2, 3, 4, 5, 6, 7, 8, 10, 13] ?_; dsimp only [H.keep, H.look, H.Fr.put, Nat.beq]) | (refine RW.y (Y.eqsS rfl rfl) rfl ?_) | (refine Gt.move ?_; refine RW.y (Y.move rfl) rfl ?_) | (refine Gt.guard ?_; (refine RW.on rfl rfl rfl ?_)) | (refine Gt.assign ?_; refine RW.y (Y.assign rfl) rfl ?_) | (refine Gt.pick ?_; first | (refine RW.y (Y.pickT rfl rfl) rfl ?_) | (refine RW.y (Y.pickF rfl rfl) rfl ?_)))
    exact FQ.one rfl rfl rfl ⟨rfl, (hK3.trans0 hk4).trans0 hk5⟩
  · repeat' (first | (refine CL.ret ?_) | (refine Gt.nil ?_; refine RW.nilw [0, 2, 3, 4, 5, 6, 7, 8, 10, 13] ?_; dsimp only [H.keep, H.look, H.Fr.put, Nat.beq]) | (refine Gt.move ?_; refine RW.y (Y.move rfl) rfl ?_) | (refine Gt.guard ?_; first | (refine RW.part rfl rfl rfl (fun _ => ?_) (fun _ => ?_) <;> try (exfalso; omega)) | (refine RW.on rfl rfl rfl ?_) | (refine RW.off1 rfl rfl rfl rfl rfl ?_)) | (refine Gt.assign ?_; refine RW.y (Y.assign rfl) rfl ?_) | (refine Gt.pick ?_; (refine RW.y (Y.pickT rfl rfl) rfl ?_)) | (refine Gt.neq ?_; refine RW.y (Y.nei rfl rfl) rfl ?_))
    exact FQ.one rfl rfl rfl ⟨rfl, hK3.trans0 hk4⟩
end Go.Proofs.YtggodknolmdegaaGreatDoor.Lk

namespace Go.Proofs.YtggodknolmdegaaGreatDoor.H
open Go.RowKit

/-- What an iterator that yields the list xs does; T: what it reads besides, and what must hold behind each round. -/
def SeqT {α : Type} (P : Program) (gf : Nat) (cap : List Value) (enc : α → List Value) (S : Nat → Prop) (T : World → Prop) (Pre : World → Prop) (xs : List α) : Prop :=
  ∀ (l : Nat) (J Jx : List α → World → Prop) (W : World), Pre W → Abid S J → Abid S Jx → (∀ pre W, J pre W → T W) →
    (∀ pre x W1, J pre W1 → (pre ++ [x]) <+: xs → YieldAt Fence.wide 0 P l (enc x).toArray W1 fun e W' =>
      (e = .returned (.bool true) ∧ J (pre ++ [x]) W' ∧ Same S W1 W') ∨ (e = .returned (.bool false) ∧ Jx (pre ++ [x]) W')) →
    J [] W → Calls P gf (.func (.yield l) #[] #[] :: cap).toArray W fun e W' => (∃ v, e = .returned v) ∧ (J xs W' ∨ ∃ pre, Jx pre W')
section
variable {P : Program} {Q : Post} {cs : List Code} {f : Fr} {w : World}
theorem CL.rangeFuncT {α : Type} {g : Operand} {ps : List Nat} {assign body : Code} {gf : Nat} {cap : List Value} {enc : α → List Value} {S : Nat → Prop} {T : World → Prop} {Pre : World → Prop} {xs : List α} [he : Ent P gf]
    (hg : f.ev g = some (.func (.func gf) #[] cap.toArray)) (hseq : SeqT P gf cap enc S T Pre xs) (hpre : ∀ W, K0 w W → Pre W) (hps : ∀ x, (enc x).length = ps.length) (hpn : ∀ p ∈ ps, Nat.blt p f.n = true)
    (hS : ∀ k, S k → k < w.heap.size) (I : List α → World → Prop) (Ix : Option Nat → List α → World → Prop)
    (hI : Abid (fun k => S k ∨ k = w.heap.size ∨ k = w.heap.size + 1) I) (hIx : ∀ c, Abid (fun k => S k ∨ k = w.heap.size ∨ k = w.heap.size + 1) (Ix c)) (h0 : I [] w) (hT : ∀ pre W, I pre W → T W)
    (hround : ∀ l pre x W, I pre W → (pre ++ [x]) <+: xs → w.heap.size + 2 ≤ W.heap.size →
      CL (some (some l)) P (thenK (fun f1 W1 => W1 = W ∧ ∀ W2, I pre W2 → w.heap.size + 2 ≤ W2.heap.size → CL (some (some l)) P (RQ (fun k => S k ∨ k = w.heap.size ∨ k = w.heap.size + 1) I Ix (pre ++ [x]) W2) [body] f1 W2) (fun _ _ _ => False)) [assign] (Fr.puts ⟨f.n, [], f.e⟩ ps (enc x)) W)
    (hdone : ∀ W, I xs W → W.heap[w.heap.size]? = some (.deferred (some [])) → CL none P Q cs ⟨f.n, markOf w.heap.size :: f.ds, f.e⟩ W)
    (hstop : ∀ c pre W, Ix c pre W → W.heap[w.heap.size]? = some (.deferred (some [])) → match c with
      | none => Q .ret ⟨f.n, markOf w.heap.size :: f.ds, f.e⟩ W
      | some k => Q (.exit k) ⟨f.n, markOf w.heap.size :: f.ds, f.e⟩ W) :
    CL none P Q (.rangeFunc g ps.toArray assign body :: cs) f w := by
  intro a ha
  show Code.wp P _ _ a w
  refine (wpIn_wide (n := 0)).1 (wpIn_rangeFunc fun fn _ => ?_)
  have ha0 : Ag ⟨f.n, [], f.e⟩ { tmps := a.tmps, defers := [] } := ⟨ha.size, rfl, ha.slot⟩
  have ham : Ag ⟨f.n, markOf w.heap.size :: f.ds, f.e⟩ { a with defers := [markOf w.heap.size] ++ a.defers } := ⟨ha.size, by simp [ha.defers], ha.slot⟩
  have hga := ha.eval hg
  obtain ⟨rec, hrec⟩ : ∃ rec : LoopState → Option Code → Loop, rec = fun st pe => { state := st, pending := pe, fn, tmps := a.tmps, params := ps.toArray, assign, body, defers := w.heap.size } := ⟨_, rfl⟩
  obtain ⟨W1, hW1⟩ : ∃ W1, (w.alloc (.deferred (some []))).alloc (.loop (rec .ready none)) = W1 := ⟨_, rfl⟩
  have hL1 : W1.heap[w.heap.size + 1]? = some (.loop (rec .ready none)) := by
    rw [← hW1]; have := World.alloc_heap_new (w.alloc (.deferred (some []))) (.loop (rec .ready none)); rwa [World.size_alloc] at this
  have hK1 : W1.heap[w.heap.size]? = some (.deferred (some [])) := by
    rw [← hW1]; exact (Below.heap_alloc _ _ _ (by simp)).trans (World.alloc_heap_new w _)
  have hk1 : K0 w W1 := by rw [← hW1]; exact (Kept.alloc w _).trans0 (Kept.alloc _ _)
  have hI1 : I [] W1 := hI _ _ _ h0 hk1.of0
  refine ⟨w.heap.size + 1, [markOf w.heap.size], W1, { target := .fn (.func gf) cap.toArray, args := #[.func (.yield (w.heap.size + 1)) #[] #[]] }, W1, gf,
    #[.func (.yield (w.heap.size + 1)) #[] #[]] ++ cap.toArray, W1, ?_, ?_, ?_, ?_, ?_, ?_⟩
  · rw [← hW1, hrec]; exact run_enterLoop_outer _ _ _ _ _
  · simp only [resolve, hga]
    simp [go_sem]
  · intro _ _; trivial
  · simp [invoke, go_sem, he.out]
  · intro c; simp [Fence.wide] at c
  refine callsIn_wide.2 ?_
  have hargs : #[.func (.yield (w.heap.size + 1)) #[] #[]] ++ cap.toArray = (Value.func (.yield (w.heap.size + 1)) #[] #[] :: cap).toArray := by simp
  rw [hargs]
  have hput : ∀ {k : Nat}, k = w.heap.size + 1 → S k ∨ k = w.heap.size ∨ k = w.heap.size + 1 := fun h => .inr (.inr h)
  refine Calls.mono (hseq (w.heap.size + 1)
    (fun pre W => I pre W ∧ W.heap[w.heap.size + 1]? = some (.loop (rec .ready none)) ∧ W.heap[w.heap.size]? = some (.deferred (some [])))
    (fun pre W => ∃ c, Ix c pre W ∧ W.heap[w.heap.size + 1]? = some (.loop (rec .done (some (jumpOf c)))) ∧ W.heap[w.heap.size]? = some (.deferred (some [])))
    W1 (hpre _ hk1) ?_ ?_ (fun pre W h => hT pre W h.1) ?_ ⟨hI1, hL1, hK1⟩) ?_
  · rintro s A B ⟨h1, h2, h3⟩ hk
    exact ⟨hI _ _ _ h1 (hk.mono fun k h => .inl h), hk.at h2 (fun c => by have := hS _ c; omega), hk.at h3 (fun c => by have := hS _ c; omega)⟩
  · rintro s A B ⟨c, h1, h2, h3⟩ hk
    exact ⟨c, hIx _ _ _ _ h1 (hk.mono fun k h => .inl h), hk.at h2 (fun c => by have := hS _ c; omega), hk.at h3 (fun c => by have := hS _ c; omega)⟩
  · -- one round
    rintro pre x W ⟨hi, hl, hk⟩ hpf
    have hlt : w.heap.size + 1 < W.heap.size := (Array.getElem?_eq_some_iff.1 hl).1
    have hy := run_yield (P := P) (args := (enc x).toArray) hl (by rw [hrec]; simp [hps x])
    rw [hrec] at hy
    refine ⟨fn, _, assign, body, hy, roundIn_of_wpIn trivial ?_⟩
    have hag := Ag.puts ps (enc x) ha0 hpn
    have hw := CL.one (hround (w.heap.size + 1) pre x W hi hpf hlt) _ hag
    have hin : Rd1 (some (w.heap.size + 1)) = Fence.wide.inRound (w.heap.size + 1) := rfl
    have htm : (ps.toArray.zip (enc x).toArray).foldl (fun tmps (x : Tmp × Value) => match x with | (t, a) => tmps.setIfInBounds t a) a.tmps = (ps.zip (enc x)).foldl (fun t (x : Nat × Value) => t.setIfInBounds x.1 x.2) a.tmps := by
      rw [List.zip_toArray, List.foldl_toArray]
    rw [htm]
    refine wpIn_mono (show Code.wpIn (Fence.wide.inRound (w.heap.size + 1)) 0 P assign _ _ W from hw) ?_
    rintro e a1 W' ⟨f1, hf1, q⟩
    cases e with
    | normal =>
      obtain ⟨rfl, q⟩ := q
      refine ⟨_, run_beginRound hl (by rw [hrec]), ?_⟩
      obtain ⟨W2, hW2⟩ : ∃ W2, W'.putObj (w.heap.size + 1) (.loop { rec .ready none with state := .busy }) = W2 := ⟨_, rfl⟩
      have hl2 : W2.heap[w.heap.size + 1]? = some (.loop { rec .ready none with state := .busy }) := by rw [← hW2]; exact World.putObj_heap_same hlt
      have hk2 : W2.heap[w.heap.size]? = some (.deferred (some [])) := by rw [← hW2]; exact (World.putObj_heap_other (by omega)).trans hk
      have hkp2 : Kept (fun k => k = w.heap.size + 1) W' W2 := by rw [← hW2]; exact kept_putObj _ _ _
      have hi2 := hI _ _ _ hi (hkp2.mono fun k h => hput h)
      rw [hW2]
      have hb := CL.one (q W2 hi2 (by have := hkp2.size; omega)) a1 hf1
      refine wpIn_mono (show Code.wpIn (Fence.wide.inRound (w.heap.size + 1)) 0 P body _ _ W2 from hb) ?_
      have fin : ∀ (jump : Option Code) (W3 : World), Same (fun k => S k ∨ k = w.heap.size ∨ k = w.heap.size + 1) W2 W3 →
          ∃ W4, (Instr.endRound (w.heap.size + 1) jump).run P W3 = .ok (.bool jump.isNone) W4 ∧ Kept (fun k => k = w.heap.size + 1) W3 W4 ∧
          W4.heap[w.heap.size + 1]? = some (.loop (rec (if jump.isNone then .ready else .done) jump)) ∧ W4.heap[w.heap.size]? = some (.deferred (some [])) ∧ Same S W' W4 := fun jump W3 hs3 => by
        have hl3 := (hs3.2 _ (.inr (.inr rfl))).trans hl2
        have hk3 := (hs3.2 _ (.inr (.inl rfl))).trans hk2
        have := run_endRound (P := P) jump hl3
        rw [hrec] at this ⊢
        refine ⟨_, this, kept_putObj _ _ _, World.putObj_heap_same (Array.getElem?_eq_some_iff.1 hl3).1, (World.putObj_heap_other (by omega)).trans hk3, ?_⟩
        have hne : ∀ k, S k → k ≠ w.heap.size + 1 := fun k hk => by have := hS k hk; omega
        refine ⟨by have h1 := hkp2.size; have h2 := hs3.1; simp; omega, fun k hk => ?_⟩
        rw [World.putObj_heap_other (hne k hk), hs3.2 k (.inl hk), ← hW2, World.putObj_heap_other (hne k hk)]
      rintro e a3 W3 ⟨f3, hf3, hp⟩
      cases e with
      | normal =>
        obtain ⟨hs3, hi3⟩ := hp
        obtain ⟨W4, hr, hk4, hl4, hd4, hs4⟩ := fin none W3 hs3
        exact ⟨_, _, hr, .inl ⟨rfl, ⟨hI _ _ _ hi3 (hk4.mono fun k h => hput h), hl4, hd4⟩, hs4⟩⟩
      | ret =>
        obtain ⟨hs3, hi3⟩ := hp
        obtain ⟨W4, hr, hk4, hl4, hd4, hs4⟩ := fin (some .ret) W3 hs3
        exact ⟨_, _, hr, .inr ⟨rfl, none, hIx _ _ _ _ hi3 (hk4.mono fun k h => hput h), hl4, hd4⟩⟩
      | exit k =>
        obtain ⟨hs3, hi3⟩ := hp
        obtain ⟨W4, hr, hk4, hl4, hd4, hs4⟩ := fin (some (.exit k)) W3 hs3
        exact ⟨_, _, hr, .inr ⟨rfl, some k, hIx _ _ _ _ hi3 (hk4.mono fun k h => hput h), hl4, hd4⟩⟩
      | goto t => exact hp.elim
      | panic ch => exact hp.elim
      | outgrown => exact hp.elim
    | _ => exact q.elim
  · -- behind the iterator
    rintro e W2 ⟨⟨v, rfl⟩, (⟨hi, hl, hk⟩ | ⟨pre, c, hi, hl, hk⟩)⟩
    · have hend := run_endLoop (P := P) hl (by rw [hrec]; simp)
      rw [hrec] at hend
      exact ⟨none, _, hend, ⟨_, ham, hdone _ (hI _ _ _ hi ((kept_putObj _ _ _).mono fun k h => hput h)) ((World.putObj_heap_other (by omega)).trans hk)⟩⟩
    · have hend : (Instr.endLoop (w.heap.size + 1)).run P W2 = .ok (some (jumpOf c)) (W2.putObj (w.heap.size + 1) (.loop { rec .done (some (jumpOf c)) with state := .exhausted })) := by
        have := run_endLoop (P := P) hl (by rw [hrec]; simp)
        rw [this, hrec]
      have hIx4 := hIx c _ _ _ hi ((kept_putObj W2 (w.heap.size + 1) (.loop { rec .done (some (jumpOf c)) with state := .exhausted })).mono fun k h => hput h)
      have hd4 : (W2.putObj (w.heap.size + 1) (.loop { rec .done (some (jumpOf c)) with state := .exhausted })).heap[w.heap.size]? = some (.deferred (some [])) := (World.putObj_heap_other (by omega)).trans hk
      have hs := hstop c pre _ hIx4 hd4
      refine ⟨some (jumpOf c), _, hend, ?_⟩
      cases c with
      | none => exact wpIn_ret ⟨_, ham, hs⟩
      | some k => exact wpIn_exit ⟨_, ham, hs⟩

end
end Go.Proofs.YtggodknolmdegaaGreatDoor.H

namespace Go.Proofs.YtggodknolmdegaaGreatDoor.H
open Go.RowKit
section
variable {P : Program} {f : Fr} {w : World}
theorem MQ.res {fn : Func} {R : Ending → World → Prop} {rs : List ResultVar} {vs : List Value} (hr : fn.results = rs.toArray) (hd : f.ds = []) (h : RS P f w rs vs) (hn : Nat.beq vs.length 1 = false) (hR : R (.returned (.tuple vs.toArray)) w) : MQ P fn R .ret f w :=
  .inl ⟨hd, _, fun a ha => by rw [results_list hr h ha, dif_neg (by intro c; rw [List.size_toArray] at c; rw [c] at hn; cases hn)], hR⟩
theorem MQ.resD {fn : Func} {R : Ending → World → Prop} {rs : List ResultVar} {D : Nat} (hr : fn.results = rs.toArray) (hd : f.ds = [markOf D]) (hD : w.heap[D]? = some (.deferred (some [])))
    (h : ∀ w', Kept (fun k => k = D) w w' → ∃ vs, RS P f w' rs vs ∧ Nat.beq vs.length 1 = false ∧ R (.returned (.tuple vs.toArray)) w') : MQ P fn R .ret f w :=
  .inr ⟨D, hd, hD, fun w' hk' => by
    obtain ⟨vs, h1, h2, h3⟩ := h w' hk'
    exact ⟨_, fun a ha => by rw [results_list hr h1 ha, dif_neg (by intro c; rw [List.size_toArray] at c; rw [c] at h2; cases h2)], h3⟩⟩
end
end Go.Proofs.YtggodknolmdegaaGreatDoor.H

namespace Go.Proofs.YtggodknolmdegaaGreatDoor.H
open Go.RowKit
section
variable {P : Program} {f : Fr} {w : World} {d : Nat} {ty t yt : TypeId} {pos : String} {af : Array Edge} {x y : Operand} {a b : Bool}
theorem Y.neb [ht : Und P t .bool] (hx : f.ev x = some (.bool a)) (hy : f.ev y = some (.bool b)) : Yd P f (op1 d (.binOp .neq t x y yt) ty pos af) (.bool (decide (a ≠ b))) w :=
  Y.bin hx hy (by simp) (by simp) (by rw [run_neq_bool w t a b ht.out]; cases a <;> cases b <;> rfl)
theorem Y.nebE [ht : Und P t .bool] (hx : f.ev x = some (.bool a)) (hy : f.ev y = some (.bool b)) (h : a = b) : Yd P f (op1 d (.binOp .neq t x y yt) ty pos af) (.bool false) w := by
  have := Y.neb (P := P) (w := w) (d := d) (t := t) (yt := yt) (ty := ty) (pos := pos) (af := af) hx hy
  rw [h] at this
  simpa using this
theorem Y.nebS [ht : Und P t .bool] (hx : f.ev x = some (.bool a)) (hy : f.ev y = some (.bool a)) : Yd P f (op1 d (.binOp .neq t x y yt) ty pos af) (.bool false) w := Y.nebE hx hy rfl
theorem Y.eqbE [ht : Und P t .bool] (hx : f.ev x = some (.bool a)) (hy : f.ev y = some (.bool b)) (h : a = b) : Yd P f (op1 d (.binOp .eql t x y yt) ty pos af) (.bool true) w := by
  have := Y.eqb (P := P) (w := w) (d := d) (t := t) (yt := yt) (ty := ty) (pos := pos) (af := af) hx hy
  rw [h] at this
  simpa using this
end
end Go.Proofs.YtggodknolmdegaaGreatDoor.H

namespace Go.Proofs.YtggodknolmdegaaGreatDoor.Lk
open Go.RowKit H S Ve
attribute [local irreducible] H.CL H.RW H.CW H.Yd H.thenK H.blockQ Go.Calls keyAt unhexB

/-- A version's numbers are the machine's. -/
def Mach (p : Pn) : Prop := p.v.a ≤ 9223372036854775807 ∧ p.v.b ≤ 9223372036854775807 ∧ p.v.c ≤ 9223372036854775807
def okX (p : Pn) : Bool := decide (p.name.length ≤ 50) && lightB p.v
theorem fit_light {p : Pn} (h : okX p = true) (hm : Mach p) : FitP p := by
  simp only [okX, Bool.and_eq_true, decide_eq_true_eq] at h
  have hl := h.2
  simp only [lightB, Bool.and_eq_true, decide_eq_true_eq, List.all_eq_true] at hl
  refine ⟨by omega, light_fit h.2, hm.1, hm.2.1, hm.2.2, ?_⟩
  have := textV_len (v := p.v) (by omega) (fun s hs => by have := hl.2 s hs; omega) hm.1 hm.2.1 hm.2.2
  omega
theorem same_self (l : List Pn) : sameP l l = true := by simp [sameP]

set_option maxHeartbeats 1000000 in
theorem lawTells (v u : Value) (N M : List Pm) (w : World) (hv : GA pmK w v N) (hu : GA pmK w u M) (hN : ∀ x ∈ N, Mach x.d) (hM : ∀ x ∈ M, Mach x.d) (hT : Tb w) : Calls Tryz.prog 4 #[v, u] w fun e w' => e = .returned (.bool true) ∧ K0 w w' := by
  have hmx : N.length ≤ 9223372036854775807 := by have := hv.1.2.1; simpa [maxLen] using this
  have hmy : M.length ≤ 9223372036854775807 := by have := hu.1.2.1; simpa [maxLen] using this
  refine H.enter Tryz.func4 Tryz.ntmps4 rfl rfl ?_; dsimp only [H.args]
  repeat' (first | (refine CL.seq ?_) | (refine CL.region ?_) | (refine Gt.nil ?_; refine RW.nilw [0, 1, 4, 6, 7, 9, 17, 20, 21, 22, 23, 29, 47] ?_; dsimp only [H.keep, H.look, H.Fr.put, Nat.beq]) | (refine Gt.assign ?_; refine RW.y (Y.assign rfl) rfl ?_))
  refine RW.fn rfl rfl ((known w hT).mono ?_)
  rintro e w1 ⟨hk1, rfl⟩
  have hs1 := (hv.keep0 hk1).1
  have ht1 := (hu.keep0 hk1).1
  repeat' (first | (refine CL.seq ?_) | (refine CL.region ?_) | (refine CL.skip ?_) | (refine CL.condP rfl (fun _ => ?_) (fun _ => ?_) <;> try (exfalso; omega)) | (refine CL.condT rfl ?_) | (refine CL.condF rfl ?_) | (refine CL.ret ?_) | (refine Gt.nil ?_; refine RW.nilw [0, 1, 4, 6, 7, 9, 17, 20, 21, 22, 23, 29, 47] ?_; dsimp only [H.keep, H.look, H.Fr.put, Nat.beq]) | (refine Gt.move ?_; refine RW.y (Y.move rfl) rfl ?_) | (refine Gt.guard ?_; first | (refine RW.part rfl rfl rfl (fun _ => ?_) (fun _ => ?_) <;> try (exfalso; omega)) | (refine RW.on rfl rfl rfl ?_) | (refine RW.off1 rfl rfl rfl rfl rfl ?_)) | (refine Gt.assign ?_; refine RW.y (Y.assign rfl) rfl ?_) | (refine Gt.len ?_; (refine RW.y (Y.lenx rfl (by assumption)) rfl ?_)) | (refine Gt.pick ?_; first | (refine RW.y (Y.pickT rfl rfl) rfl ?_) | (refine RW.y (Y.pickF rfl rfl) rfl ?_)) | (refine Gt.gtr ?_; refine RW.y (Y.gtr rfl rfl) rfl ?_) | (refine Gt.not ?_; (refine RW.y (Y.notb rfl) rfl ?_)))
  · exact FQ.one rfl rfl rfl ⟨rfl, hk1⟩
  · exact FQ.one rfl rfl rfl ⟨rfl, hk1⟩
  rename_i hn10 hm10
  refine RW.build2 rfl rfl (by rw [hs1.cells]; rfl) (by rw [ht1.cells]; rfl) rfl rfl (fun w2 hb2 hk2 hlt2 => ?_)
  have hs2 : Sl w2 1 (.slice (some ⟨w1.heap.size, 0, none⟩) 2 2) 2 [v, u] := by
    have h := sl_new (sz := 1) (n := 2) hb2 (by rw [hs1.cells, ht1.cells]; rfl) (by decide)
    rw [hs1.cells, ht1.cells] at h
    exact h
  repeat' (first | (refine CL.block ?_) | (refine Gt.nil ?_; refine RW.nilw [0, 1, 4, 6, 7, 9, 17, 20, 21, 22, 23, 29, 47] ?_; dsimp only [H.keep, H.look, H.Fr.put, Nat.beq]) | (refine Gt.move ?_; refine RW.y (Y.move rfl) rfl ?_) | (refine Gt.len ?_; (refine RW.y (Y.lenv rfl) rfl ?_)))
  refine CL.loopS [0, 1, 20, 21, 22] (fun k vals wr => ∃ i : Nat, vals = [v, u, .slice (some ⟨w1.heap.size, 0, none⟩) 2 2, .int .i64 2, .int .i64 (i : Int)] ∧ k = 2 - i ∧ i ≤ 2 ∧ (1 ≤ i → N.all (fun x => okX x.d) = true) ∧ (2 ≤ i → M.all (fun x => okX x.d) = true) ∧ K0 w wr ∧ K0 w2 wr) 2 ⟨_, rfl, 0, rfl, rfl, by omega, by omega, by omega, hk1.trans0 hk2, Kept.refl _ _⟩ ?_
  rintro k vals wr ⟨i, rfl, rfl, hi, c1, c2, hkr, hk2r⟩
  dsimp only [List.zip, List.zipWith]
  have hsr := hs2.keep0 hk2r
  rcases (by omega : i = 0 ∨ i = 1 ∨ i = 2) with rfl | rfl | rfl
  · repeat' (first | (refine CL.seq ?_) | (refine CL.region ?_) | (refine CL.skip ?_) | (refine CL.condP rfl (fun _ => ?_) (fun _ => ?_) <;> try (exfalso; omega)) | (refine CL.block ?_) | (refine Gt.nil ?_; refine RW.nilw [0, 1, 4, 6, 7, 9, 17, 20, 21, 22, 23, 29, 47] ?_; dsimp only [H.keep, H.look, H.Fr.put, Nat.beq]) | (refine RW.elem (u := v) rfl rfl rfl rfl hsr (by omega) (by omega) rfl ?_) | (refine Gt.assign ?_; refine RW.y (Y.assign rfl) rfl ?_) | (refine Gt.lss ?_; refine RW.y (Y.lss rfl rfl) rfl ?_))
    refine CL.loopS [0, 1, 6, 7, 20, 21, 22] (fun k vals wq => ∃ j : Nat, vals = [v, u, v, .int .i64 (j : Int), .slice (some ⟨w1.heap.size, 0, none⟩) 2 2, .int .i64 2, .int .i64 ((0 : Nat) : Int)] ∧ k = N.length - j ∧ j ≤ N.length ∧ (N.take j).all (fun x => okX x.d) = true ∧ K0 w wq ∧ K0 w2 wq) N.length ⟨_, rfl, 0, rfl, rfl, Nat.zero_le _, rfl, hkr, hk2r⟩ ?_
    rintro k vals wq ⟨j, rfl, rfl, hj, hall, hkq, hk2q⟩
    dsimp only [List.zip, List.zipWith]
    have hgq := hv.keep0 hkq
    have hsq : Sl wq 37 v N.length (N.flatMap pmC) := hgq.1
    rcases Nat.lt_or_ge j N.length with hlt | hge
    · have htj : ((j : Int)).toNat = j := Int.toNat_natCast j
      obtain ⟨g1, o1, hsp1, hcl1⟩ := elSpot hgq.1 pmK.len (i := (j : Int)) (by omega) (by omega)
      rw [htj] at hcl1
      have hm1 : N.getD j default ∈ N := mem_getD default (by omega)
      have hD1 : Sl wq 1 _ _ _ := hgq.2 _ hm1
      have hnx : okX (N.getD j default).d = true → (N.take (j + 1)).all (fun x => okX x.d) = true := fun h => all_step default hlt hall h
      generalize N.getD j default = x at *
      have hK00 : K0 wq wq := Kept.refl _ _
      refine CL.seq ?_
      refine CL.seq ?_
      refine CL.region ?_
      repeat' (first | (refine CL.seq ?_) | (refine CL.region ?_) | (refine CL.skip ?_) | (refine CL.condP rfl (fun _ => ?_) (fun _ => ?_) <;> try (exfalso; omega)) | (refine CL.condT rfl ?_) | (refine CL.block ?_) | (refine CL.ret ?_) | (refine Rt.then ?_) | (refine Rt.block ?_) | (refine Gt.nil ?_; refine RW.nilw [0, 1, 4, 6, 7, 9, 17, 20, 21, 22, 23, 29, 47] ?_; dsimp only [H.keep, H.look, H.Fr.put, Nat.beq]) | (refine RW.y (Y.idx rfl rfl hsq (by omega) (by omega)) rfl ?_) | (refine RW.y (Y.fieldAddr (congrArg (fun a => some (Value.pointer (some a))) hsp1) (by rfl)) rfl ?_) | (refine RW.y (Y.load1A rfl (hcl1 _ hK00 0 _ rfl)) rfl ?_) | (refine Gt.move ?_; refine RW.y (Y.move rfl) rfl ?_) | (refine Gt.guard ?_; first | (refine RW.part rfl rfl rfl (fun _ => ?_) (fun _ => ?_) <;> try (exfalso; omega)) | (refine RW.on rfl rfl rfl ?_) | (refine RW.off1 rfl rfl rfl rfl rfl ?_)) | (refine Gt.assign ?_; refine RW.y (Y.assign rfl) rfl ?_) | (refine Gt.len ?_; first | (refine RW.y (Y.lenx rfl (by assumption)) rfl ?_) | (refine RW.y (Y.lens rfl) rfl ?_)) | (refine Gt.pick ?_; (refine RW.y (Y.pickT rfl rfl) rfl ?_)) | (refine Gt.gtr ?_; refine RW.y (Y.gtr rfl rfl) rfl ?_) | (refine Gt.lss ?_; refine RW.y (Y.lss rfl rfl) rfl ?_))
      · rename_i hc h50
        exact FQ.one rfl rfl rfl ⟨rfl, hkq⟩
      · rename_i hc h50
        refine RW.y (Y.loadN (cs := [_, _, _, _]) rfl rfl (pmVer (hcl1 _ hK00))) rfl ?_
        refine RW.on rfl rfl rfl ?_
        refine RW.fn rfl rfl ((lightV _ x.d.v wq ⟨_, rfl, hD1⟩).mono ?_)
        rintro e w5 ⟨hk5, rfl⟩
        cases hlb : lightB x.d.v
        · repeat' (first | (refine CL.seq ?_) | (refine CL.region ?_) | (refine CL.condT rfl ?_) | (refine CL.ret ?_) | (refine Rt.then ?_) | (refine Rt.block ?_) | (refine Gt.nil ?_; refine RW.nilw [0, 1, 4, 6, 7, 9, 17, 20, 21, 22, 23, 29, 47] ?_; dsimp only [H.keep, H.look, H.Fr.put, Nat.beq]) | (refine Gt.guard ?_; (refine RW.on rfl rfl rfl ?_)) | (refine Gt.assign ?_; refine RW.y (Y.assign rfl) rfl ?_) | (refine Gt.pick ?_; (refine RW.y (Y.pickF rfl rfl) rfl ?_)) | (refine Gt.not ?_; (refine RW.y (Y.notb rfl) rfl ?_)))
          exact FQ.one rfl rfl rfl ⟨rfl, hkq.trans0 hk5⟩
        · repeat' (first | (refine CL.region ?_) | (refine CL.skip ?_) | (refine CL.condF rfl ?_) | (refine CL.done ?_) | (refine Nm.block ?_) | (refine Nm.then ?_) | (refine Gt.nil ?_; refine RW.nilw [0, 1, 4, 6, 7, 9, 17, 20, 21, 22, 23, 29, 47] ?_; dsimp only [H.keep, H.look, H.Fr.put, Nat.beq]) | (refine Gt.move ?_; refine RW.y (Y.move rfl) rfl ?_) | (refine Gt.guard ?_; (refine RW.on rfl rfl rfl ?_)) | (refine Gt.assign ?_; refine RW.y (Y.assign rfl) rfl ?_) | (refine Gt.pick ?_; (refine RW.y (Y.pickF rfl rfl) rfl ?_)) | (refine Gt.not ?_; (refine RW.y (Y.notb rfl) rfl ?_)) | (refine Gt.add ?_; refine RW.y (Y.add64 rfl rfl (by omega) (by omega)) rfl ?_))
          exact ⟨N.length - (j + 1), _, rfl, rfl, rfl, by omega, j + 1, by simp, rfl, by omega, hnx (by rw [okX, hlb, decide_eq_true (by omega)]; rfl), hkq.trans0 hk5, hk2q.trans0 hk5⟩
    · have hj2 : j = N.length := by omega
      subst hj2
      rw [List.take_length] at hall
      repeat' (first | (refine CL.seq ?_) | (refine CL.region ?_) | (refine CL.condP rfl (fun _ => ?_) (fun _ => ?_) <;> try (exfalso; omega)) | (refine CL.exit ?_) | (refine Ex.then ?_) | (refine Ex.hit ?_) | (refine CL.done ?_) | (refine Nm.block ?_) | (refine Nm.then ?_) | (refine Gt.nil ?_; refine RW.nilw [0, 1, 4, 6, 7, 9, 17, 20, 21, 22, 23, 29, 47] ?_; dsimp only [H.keep, H.look, H.Fr.put, Nat.beq]) | (refine Gt.move ?_; refine RW.y (Y.move rfl) rfl ?_) | (refine Gt.len ?_; (refine RW.y (Y.lenx rfl (by assumption)) rfl ?_)) | (refine Gt.lss ?_; refine RW.y (Y.lss rfl rfl) rfl ?_) | (refine Gt.add ?_; refine RW.y (Y.add64 rfl rfl (by omega) (by omega)) rfl ?_))
      exact ⟨1, _, rfl, rfl, rfl, by omega, 1, rfl, rfl, by omega, fun _ => hall, by omega, hkq, hk2q⟩
  · repeat' (first | (refine CL.seq ?_) | (refine CL.region ?_) | (refine CL.skip ?_) | (refine CL.condP rfl (fun _ => ?_) (fun _ => ?_) <;> try (exfalso; omega)) | (refine CL.block ?_) | (refine Gt.nil ?_; refine RW.nilw [0, 1, 4, 6, 7, 9, 17, 20, 21, 22, 23, 29, 47] ?_; dsimp only [H.keep, H.look, H.Fr.put, Nat.beq]) | (refine RW.elem (u := u) rfl rfl rfl rfl hsr (by omega) (by omega) rfl ?_) | (refine Gt.assign ?_; refine RW.y (Y.assign rfl) rfl ?_) | (refine Gt.lss ?_; refine RW.y (Y.lss rfl rfl) rfl ?_))
    refine CL.loopS [0, 1, 6, 7, 20, 21, 22] (fun k vals wq => ∃ j : Nat, vals = [v, u, u, .int .i64 (j : Int), .slice (some ⟨w1.heap.size, 0, none⟩) 2 2, .int .i64 2, .int .i64 ((1 : Nat) : Int)] ∧ k = M.length - j ∧ j ≤ M.length ∧ (M.take j).all (fun x => okX x.d) = true ∧ K0 w wq ∧ K0 w2 wq) M.length ⟨_, rfl, 0, rfl, rfl, Nat.zero_le _, rfl, hkr, hk2r⟩ ?_
    rintro k vals wq ⟨j, rfl, rfl, hj, hall, hkq, hk2q⟩
    dsimp only [List.zip, List.zipWith]
    have hgq := hu.keep0 hkq
    have hsq : Sl wq 37 u M.length (M.flatMap pmC) := hgq.1
    rcases Nat.lt_or_ge j M.length with hlt | hge
    · have htj : ((j : Int)).toNat = j := Int.toNat_natCast j
      obtain ⟨g1, o1, hsp1, hcl1⟩ := elSpot hgq.1 pmK.len (i := (j : Int)) (by omega) (by omega)
      rw [htj] at hcl1
      have hm1 : M.getD j default ∈ M := mem_getD default (by omega)
      have hD1 : Sl wq 1 _ _ _ := hgq.2 _ hm1
      have hnx : okX (M.getD j default).d = true → (M.take (j + 1)).all (fun x => okX x.d) = true := fun h => all_step default hlt hall h
      generalize M.getD j default = x at *
      have hK00 : K0 wq wq := Kept.refl _ _
      refine CL.seq ?_
      refine CL.seq ?_
      refine CL.region ?_
      repeat' (first | (refine CL.seq ?_) | (refine CL.region ?_) | (refine CL.skip ?_) | (refine CL.condP rfl (fun _ => ?_) (fun _ => ?_) <;> try (exfalso; omega)) | (refine CL.condT rfl ?_) | (refine CL.block ?_) | (refine CL.ret ?_) | (refine Rt.then ?_) | (refine Rt.block ?_) | (refine Gt.nil ?_; refine RW.nilw [0, 1, 4, 6, 7, 9, 17, 20, 21, 22, 23, 29, 47] ?_; dsimp only [H.keep, H.look, H.Fr.put, Nat.beq]) | (refine RW.y (Y.idx rfl rfl hsq (by omega) (by omega)) rfl ?_) | (refine RW.y (Y.fieldAddr (congrArg (fun a => some (Value.pointer (some a))) hsp1) (by rfl)) rfl ?_) | (refine RW.y (Y.load1A rfl (hcl1 _ hK00 0 _ rfl)) rfl ?_) | (refine Gt.move ?_; refine RW.y (Y.move rfl) rfl ?_) | (refine Gt.guard ?_; first | (refine RW.part rfl rfl rfl (fun _ => ?_) (fun _ => ?_) <;> try (exfalso; omega)) | (refine RW.on rfl rfl rfl ?_) | (refine RW.off1 rfl rfl rfl rfl rfl ?_)) | (refine Gt.assign ?_; refine RW.y (Y.assign rfl) rfl ?_) | (refine Gt.len ?_; first | (refine RW.y (Y.lenx rfl (by assumption)) rfl ?_) | (refine RW.y (Y.lens rfl) rfl ?_)) | (refine Gt.pick ?_; (refine RW.y (Y.pickT rfl rfl) rfl ?_)) | (refine Gt.gtr ?_; refine RW.y (Y.gtr rfl rfl) rfl ?_) | (refine Gt.lss ?_; refine RW.y (Y.lss rfl rfl) rfl ?_))
      · rename_i hc h50
        exact FQ.one rfl rfl rfl ⟨rfl, hkq⟩
      · rename_i hc h50
        refine RW.y (Y.loadN (cs := [_, _, _, _]) rfl rfl (pmVer (hcl1 _ hK00))) rfl ?_
        refine RW.on rfl rfl rfl ?_
        refine RW.fn rfl rfl ((lightV _ x.d.v wq ⟨_, rfl, hD1⟩).mono ?_)
        rintro e w5 ⟨hk5, rfl⟩
        cases hlb : lightB x.d.v
        · repeat' (first | (refine CL.seq ?_) | (refine CL.region ?_) | (refine CL.condT rfl ?_) | (refine CL.ret ?_) | (refine Rt.then ?_) | (refine Rt.block ?_) | (refine Gt.nil ?_; refine RW.nilw [0, 1, 4, 6, 7, 9, 17, 20, 21, 22, 23, 29, 47] ?_; dsimp only [H.keep, H.look, H.Fr.put, Nat.beq]) | (refine Gt.guard ?_; (refine RW.on rfl rfl rfl ?_)) | (refine Gt.assign ?_; refine RW.y (Y.assign rfl) rfl ?_) | (refine Gt.pick ?_; (refine RW.y (Y.pickF rfl rfl) rfl ?_)) | (refine Gt.not ?_; (refine RW.y (Y.notb rfl) rfl ?_)))
          exact FQ.one rfl rfl rfl ⟨rfl, hkq.trans0 hk5⟩
        · repeat' (first | (refine CL.region ?_) | (refine CL.skip ?_) | (refine CL.condF rfl ?_) | (refine CL.done ?_) | (refine Nm.block ?_) | (refine Nm.then ?_) | (refine Gt.nil ?_; refine RW.nilw [0, 1, 4, 6, 7, 9, 17, 20, 21, 22, 23, 29, 47] ?_; dsimp only [H.keep, H.look, H.Fr.put, Nat.beq]) | (refine Gt.move ?_; refine RW.y (Y.move rfl) rfl ?_) | (refine Gt.guard ?_; (refine RW.on rfl rfl rfl ?_)) | (refine Gt.assign ?_; refine RW.y (Y.assign rfl) rfl ?_) | (refine Gt.pick ?_; (refine RW.y (Y.pickF rfl rfl) rfl ?_)) | (refine Gt.not ?_; (refine RW.y (Y.notb rfl) rfl ?_)) | (refine Gt.add ?_; refine RW.y (Y.add64 rfl rfl (by omega) (by omega)) rfl ?_))
          exact ⟨M.length - (j + 1), _, rfl, rfl, rfl, by omega, j + 1, by simp, rfl, by omega, hnx (by rw [okX, hlb, decide_eq_true (by omega)]; rfl), hkq.trans0 hk5, hk2q.trans0 hk5⟩
    · have hj2 : j = M.length := by omega
      subst hj2
      rw [List.take_length] at hall
      repeat' (first | (refine CL.seq ?_) | (refine CL.region ?_) | (refine CL.condP rfl (fun _ => ?_) (fun _ => ?_) <;> try (exfalso; omega)) | (refine CL.exit ?_) | (refine Ex.then ?_) | (refine Ex.hit ?_) | (refine CL.done ?_) | (refine Nm.block ?_) | (refine Nm.then ?_) | (refine Gt.nil ?_; refine RW.nilw [0, 1, 4, 6, 7, 9, 17, 20, 21, 22, 23, 29, 47] ?_; dsimp only [H.keep, H.look, H.Fr.put, Nat.beq]) | (refine Gt.move ?_; refine RW.y (Y.move rfl) rfl ?_) | (refine Gt.len ?_; (refine RW.y (Y.lenx rfl (by assumption)) rfl ?_)) | (refine Gt.lss ?_; refine RW.y (Y.lss rfl rfl) rfl ?_) | (refine Gt.add ?_; refine RW.y (Y.add64 rfl rfl (by omega) (by omega)) rfl ?_))
      exact ⟨0, _, rfl, rfl, rfl, by omega, 2, rfl, rfl, by omega, (fun _ => c1 (by omega)), fun _ => hall, hkq, hk2q⟩
  · have hNa := c1 (by omega)
    have hMa := c2 (by omega)
    have hF : ∀ x ∈ N, FitP x.d := fun x hx => fit_light (List.all_eq_true.1 hNa x hx) (hN x hx)
    have hG : ∀ x ∈ M, FitP x.d := fun x hx => fit_light (List.all_eq_true.1 hMa x hx) (hM x hx)
    have hT0 := hT.keep0 hkr
    repeat' (first | (refine CL.seq ?_) | (refine CL.region ?_) | (refine CL.condP rfl (fun _ => ?_) (fun _ => ?_) <;> try (exfalso; omega)) | (refine CL.exit ?_) | (refine Ex.then ?_) | (refine Ex.hit ?_) | (refine Gt.nil ?_; refine RW.nilw [0, 1, 4, 6, 7, 9, 17, 20, 21, 22, 23, 29, 47] ?_; dsimp only [H.keep, H.look, H.Fr.put, Nat.beq]) | (refine Gt.move ?_; refine RW.y (Y.move rfl) rfl ?_) | (refine Gt.lss ?_; refine RW.y (Y.lss rfl rfl) rfl ?_))
    refine RW.fn rfl rfl ((text v N wr (hv.keep0 hkr) (.inl (by omega)) (by omega) hF hT0).mono ?_)
    rintro e w3 ⟨hk3, rfl⟩
    have hk3' := hkr.trans0 hk3
    repeat' ((refine Gt.move ?_; refine RW.y (Y.move rfl) rfl ?_))
    refine RW.fn rfl rfl ((refLockText v N w3 (hv.keep0 hk3') (by omega) hF).mono ?_)
    rintro e w4 ⟨hk4, rfl⟩
    have hk4' := hk3'.trans0 hk4
    repeat' (first | (refine RW.y (Y.eqsS rfl rfl) rfl ?_) | (refine Gt.move ?_; refine RW.y (Y.move rfl) rfl ?_) | (refine Gt.guard ?_; (refine RW.on rfl rfl rfl ?_)))
    refine RW.fn rfl rfl ((same v u N M w4 (hv.keep0 hk4') (hu.keep0 hk4') hF hG (hT.keep0 hk4')).mono ?_)
    rintro e w5 ⟨hk5, rfl⟩
    have hk5' := hk4'.trans0 hk5
    repeat' (first | (refine Gt.move ?_; refine RW.y (Y.move rfl) rfl ?_) | (refine Gt.guard ?_; (refine RW.on rfl rfl rfl ?_)))
    refine RW.fn rfl rfl ((refSamePins v u N M w5 (hv.keep0 hk5') (hu.keep0 hk5') hF hG).mono ?_)
    rintro e w6 ⟨hk6, rfl⟩
    have hk6' := hk5'.trans0 hk6
    repeat' (first | (refine RW.y (Y.eqbS rfl rfl) rfl ?_) | (refine Gt.move ?_; refine RW.y (Y.move rfl) rfl ?_) | (refine Gt.guard ?_; (refine RW.on rfl rfl rfl ?_)) | (refine Gt.pick ?_; (refine RW.y (Y.pickT rfl rfl) rfl ?_)))
    refine RW.fn rfl rfl ((same v v N N w6 (hv.keep0 hk6') (hv.keep0 hk6') hF hF (hT.keep0 hk6')).mono ?_)
    rintro e w7 ⟨hk7, rfl⟩
    rw [same_self]
    repeat' (first | (refine CL.ret ?_) | (refine Gt.nil ?_; refine RW.nilw [0, 1, 4, 6, 7, 9, 17, 20, 21, 22, 23, 29, 47] ?_; dsimp only [H.keep, H.look, H.Fr.put, Nat.beq]) | (refine Gt.assign ?_; refine RW.y (Y.assign rfl) rfl ?_) | (refine Gt.pick ?_; (refine RW.y (Y.pickT rfl rfl) rfl ?_)))
    exact FQ.one rfl rfl rfl ⟨rfl, hk6'.trans0 hk7⟩
end Go.Proofs.YtggodknolmdegaaGreatDoor.Lk

namespace Go.Proofs.YtggodknolmdegaaGreatDoor.Lk
open Go.Proofs.YtggodknolmdegaaGreatDoor.S Go.Proofs.YtggodknolmdegaaGreatDoor.Ve Go.Proofs.YtggodknolmdegaaGreatDoor.Sp
open Go

def thereP (acc : List Pn) (nm : T) : Bool := acc.any fun q => decide (q.name = nm)
def addP (acc : List Pn) (p : Pn) : List Pn := if thereP acc p.name = true then acc else acc ++ [p]
def dedP (ps : List Pn) : List Pn := ps.foldl addP []
theorem dedP_snoc (ps : List Pn) (p : Pn) : dedP (ps ++ [p]) = addP (dedP ps) p := by simp [dedP]
theorem addP_ok {acc : List Pn} {p : Pn} (h : Diff acc) : Diff (addP acc p) ∧ (addP acc p).length ≤ acc.length + 1 ∧ ∀ q ∈ addP acc p, q ∈ acc ∨ q = p := by
  rw [addP]
  split
  · exact ⟨h, by omega, fun q hq => .inl hq⟩
  · rename_i hn
    refine ⟨?_, by simp, fun q hq => by simpa using hq⟩
    rw [Diff, List.map_append, List.map_cons, List.map_nil]
    refine List.nodup_append.2 ⟨h, by simp, fun a ha b hb => ?_⟩
    rw [List.mem_singleton] at hb
    subst hb
    intro c
    subst c
    apply hn
    obtain ⟨q, hq, e⟩ := List.mem_map.1 ha
    exact List.any_eq_true.2 ⟨q, hq, decide_eq_true e⟩
theorem dedP_from : ∀ (ps acc : List Pn), Diff acc → Diff (ps.foldl addP acc) ∧ (ps.foldl addP acc).length ≤ acc.length + ps.length ∧ ∀ q ∈ ps.foldl addP acc, q ∈ acc ∨ q ∈ ps
  | [], acc, h => ⟨h, by simp, fun q hq => .inl hq⟩
  | p :: r, acc, h => by
    obtain ⟨h1, h2, h3⟩ := addP_ok (p := p) h
    obtain ⟨g1, g2, g3⟩ := dedP_from r (addP acc p) h1
    refine ⟨g1, by rw [List.foldl_cons, List.length_cons]; omega, fun q hq => ?_⟩
    rcases g3 q hq with c | c
    · rcases h3 q c with c | c
      · exact .inl c
      · right; rw [c]; simp
    · right; simp [c]
theorem dedP_ok (ps : List Pn) : Diff (dedP ps) ∧ (dedP ps).length ≤ ps.length ∧ ∀ q ∈ dedP ps, q ∈ ps := by
  obtain ⟨h1, h2, h3⟩ := dedP_from ps [] (by simp [Diff])
  exact ⟨h1, by simpa [dedP] using h2, fun q hq => (h3 q hq).resolve_left (by simp)⟩

/-- What stands in order, without a name twice, stands in one order. -/
theorem asc_one : ∀ (A B : List Pn), Asc A → Asc B → A.Perm B → A = B
  | [], B, _, _, h => (List.nil_perm.1 h).symm ▸ rfl
  | a :: A, [], _, _, h => by cases List.perm_nil.1 h
  | a :: A, b :: B, hA, hB, h => by
    have h1 := List.pairwise_cons.1 hA
    have h2 := List.pairwise_cons.1 hB
    have e : a = b := by
      have m1 := h.mem_iff.1 (List.mem_cons_self (a := a) (l := A))
      have m2 := h.mem_iff.2 (List.mem_cons_self (a := b) (l := B))
      rcases List.mem_cons.1 m1 with e | m1
      · exact e
      · rcases List.mem_cons.1 m2 with e | m2
        · exact e.symm
        · have c1 := h2.1 a m1
          have c2 := h1.1 b m2
          rw [ltT_asym c1] at c2; cases c2
    subst e
    rw [asc_one A B h1.2 h2.2 (List.perm_cons _ |>.1 h)]
theorem diff_perm {A B : List Pn} (h : A.Perm B) (hd : Diff A) : Diff B := (h.map Pn.name).nodup_iff.1 hd
theorem sort_one_order {A B : List Pn} (h : A.Perm B) (hd : Diff A) : sortP A = sortP B := by
  obtain ⟨s1, p1⟩ := sortP_ok A
  obtain ⟨s2, p2⟩ := sortP_ok B
  exact asc_one _ _ (srt_asc s1 (diff_perm p1.symm hd)) (srt_asc s2 (diff_perm (h.trans p2.symm) hd)) (p1.trans (h.trans p2.symm))
theorem lockT_order {A B : List Pn} (h : A.Perm B) (hd : Diff A) : lockT A = lockT B := by rw [lockT, lockT, sort_one_order h hd]
/-- A list turned. -/
def turnP {α : Type} (r : Nat) (l : List α) : List α := l.drop r ++ l.take r
theorem turnP_perm {α : Type} (r : Nat) (l : List α) : (turnP r l).Perm l := by
  have := List.perm_append_comm (l₁ := l.drop r) (l₂ := l.take r)
  rw [List.take_append_drop] at this
  exact this
theorem turnP_len {α : Type} (r : Nat) (l : List α) : (turnP r l).length = l.length := (turnP_perm r l).length_eq
theorem turnP_at {α : Type} (d : α) (t : Nat) (l : List α) (j : Nat) (hj : j < l.length) : (turnP (t % l.length) l).getD j d = l.getD ((j + t) % l.length) d := by
  have hr : t % l.length < l.length := Nat.mod_lt _ (by omega)
  have e : (j + t) % l.length = (j + t % l.length) % l.length := by rw [Nat.add_mod_mod]
  rw [e]
  generalize t % l.length = r at *
  rw [turnP, List.getD_eq_getElem?_getD, List.getD_eq_getElem?_getD]
  rcases Nat.lt_or_ge j (l.length - r) with h | h
  · rw [List.getElem?_append_left (by rw [List.length_drop]; exact h), List.getElem?_drop, Nat.mod_eq_of_lt (by omega), Nat.add_comm r j]
  · rw [List.getElem?_append_right (by rw [List.length_drop]; exact h), List.length_drop, List.getElem?_take, if_pos (by omega)]
    congr 2
    rw [Nat.mod_eq_sub_mod (by omega), Nat.mod_eq_of_lt (by omega)]; omega

def mkO (n : UInt8) : Pn := ⟨110 :: decI (n.toNat : Int), ⟨(n.toNat : Int), 0, 0, []⟩, n :: List.replicate 31 0⟩
def versL : List T := [[49, 46, 48, 46, 48], [48, 46, 49, 46, 48, 45, 97, 46, 49], [49, 50, 46, 51, 46, 57, 57, 57, 57, 57, 57, 57, 57, 57]]
def versV : List Ver := [⟨1, 0, 0, []⟩, ⟨0, 1, 0, [[97], [49]]⟩, ⟨12, 3, 999999999, []⟩]
theorem vers_parse : ∀ k, k < 3 → parseV (cutB 45 (versL.getD k [])) = some (versV.getD k default)
  | 0, _ => rfl
  | 1, _ => rfl
  | 2, _ => rfl
  | k + 3, h => by omega
def mkB (n v : UInt8) (s : T) : Pn := ⟨112 :: decI (n.toNat : Int), versV.getD (v.toNat % 3) default, s⟩
theorem dec_name (c : UInt8) (hc : smallB c = true) (n : UInt8) : nameB (c :: decI (n.toNat : Int)) = true := by
  have hn := n.toNat_lt
  have hd := (dec_spec n.toNat n.toNat (Nat.le_refl _)).1
  have hl := dec_len 2 n.toNat (by omega)
  have he : decI (n.toNat : Int) = Go.Lib.decDigits n.toNat := rfl
  rw [he]
  simp only [nameB, Bool.and_eq_true, decide_eq_true_eq, List.length_cons, List.all_cons]
  refine ⟨⟨⟨by omega, by omega⟩, hc⟩, by simp [nameC, hc], ?_⟩
  rw [List.all_eq_true] at hd ⊢
  intro x hx
  simp [nameC, hd x hx]
theorem mkO_ok (n : UInt8) : Ok (mkO n) := by
  have hn := n.toNat_lt
  refine ⟨dec_name 110 rfl n, ⟨_, numT_parse (n.toNat : Int) 0 0 (by omega) (by omega) (by omega)⟩, by simp [mkO]⟩
theorem mkB_ok (n v : UInt8) (s : T) (h : s.length = 32) : Ok (mkB n v s) :=
  ⟨dec_name 112 rfl n, ⟨_, vers_parse (v.toNat % 3) (Nat.mod_lt _ (by omega))⟩, h⟩
/-- Few pins are told in few bytes. -/
theorem lock_len {l : List Pn} (hok : ∀ p ∈ l, Ok p) (hl : l.length ≤ 10) : (lockT l).length ≤ 65536 := by
  have hp : ∀ p ∈ l, (pinT p).length ≤ 2200 := fun p hp => by
    obtain ⟨s, hs⟩ := (hok p hp).v
    have hq := parse_parts hs
    have h1 := textV_len (v := p.v) (by omega) (fun s hs => by have := mark_len (List.all_eq_true.1 hq.2.1 s hs); omega) (by omega) (by omega) (by omega)
    have h2 := (hok p hp).name
    have h3 := (hok p hp).sum
    simp only [nameB, Bool.and_eq_true, decide_eq_true_eq] at h2
    simp only [pinT, List.length_append, hexB_len, List.length_cons, List.length_nil]
    omega
  have hsum : ∀ m : List Pn, (∀ p ∈ m, (pinT p).length ≤ 2200) → (m.flatMap pinT).length ≤ m.length * 2200 := by
    intro m
    induction m with
    | nil => simp
    | cons x r ih =>
      intro h
      have h1 := h x (by simp)
      have h2 := ih fun p hp => h p (by simp [hp])
      simp only [List.flatMap_cons, List.length_append, List.length_cons]; omega
  have hperm := (sortP_ok l).2
  have h1 := hsum (sortP l) fun p hp' => hp p (hperm.mem_iff.1 hp')
  rw [hperm.length_eq] at h1
  rw [lockT, List.length_append, List.length_append, headL]
  simp only [List.length_cons, List.length_nil]
  omega
end Go.Proofs.YtggodknolmdegaaGreatDoor.Lk

