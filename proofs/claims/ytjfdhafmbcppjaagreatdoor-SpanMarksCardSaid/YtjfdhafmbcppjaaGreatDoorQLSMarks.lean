/-
  It is proved that the statement SpanMarks returns true for every input and does not panic. Conditions: the listed package-level variables start as the program's text lays them (the card ties them).
-/
import Derived.Test.YtjfdhafmbcppjaaGreatDoorQf
import Derived.Test.YtjfdhafmbcppjaaGreatDoorQb
import Derived.WalkKit
import Derived.ProofKit
import Derived.OpenShut
import Derived.Carry
import Derived.ChangeArms
import Derived.Deep.Slices
import Derived.Test.YtjfdhafmbcppjaaGreatDoorQc
import Derived.Test.YtjfdhafmbcppjaaGreatDoorRows
import Derived.Stop.LaidErr
import Derived.Lib.LaidTab
import Derived.LaidMore
import Derived.Handed
import Derived.HandedShaped
import Derived.Shelf.Vars
import Derived.Test.YtjfdhafmbcppjaaGreatDoorCards
import Derived.Test.YtjfdhafmbcppjaaGreatDoorTie
import Derived.Lay
import Derived.SevenTiedAt
import Derived.Stop.Joined
set_option linter.unusedVariables false
namespace Go.Proofs.YtjfdhafmbcppjaaGreatDoor.Sp
open Go.RowKit H S Ve
attribute [local irreducible] H.CL H.RW H.CW H.Yd H.thenK H.blockQ Go.Calls

def mT : List T := [[97], [98], [114, 99, 46, 49], [49]]
def mkS (i : Nat) : T := (mT.getD i []).take 1
def mV (x : Nat) (p : List T) : Ver := ⟨1, x, 0, p⟩
def mP (same : Bool) (j : Nat) : List T := if same = true then [mkS j] else []
theorem marks_all : ((List.range 8).all fun g => (List.range 2).all fun x => (List.range 4).all fun i => (List.range 2).all fun y => (List.range 4).all fun j => [false, true].all fun same =>
    !(hasB ⟨false, [expand (signsB.getD g []) (mV y (mP same j))]⟩ (mV x [mkS i])) || (same && decide (x = y))) = true := by kernel_rfl
theorem marks_good : ((List.range 2).all fun y => (List.range 4).all fun j => [false, true].all fun same =>
    match parseV (cutB 45 (textV (mV y (mP same j)))) with
    | none => false
    | some v => decide (v.a = 1) && decide (v.b = y) && decide (v.c = 0) && decide (v.pre = mP same j)) = true := by decide +kernel
theorem in_bools (b : Bool) : b ∈ [false, true] := by cases b <;> decide
theorem marks_has {g x i y j : Nat} {same : Bool} (hg : g < 8) (hx : x < 2) (hi : i < 4) (hy : y < 2) (hj : j < 4) (h : hasB ⟨false, [expand (signsB.getD g []) (mV y (mP same j))]⟩ (mV x [mkS i]) = true) : same = true ∧ x = y := by
  have := List.all_eq_true.1 (all_range (all_range (all_range (all_range (all_range marks_all hg) hx) hi) hy) hj) same (in_bools same)
  rw [h] at this
  simpa using this
theorem mV_good {y j : Nat} (same : Bool) (hy : y < 2) (hj : j < 4) : Good (mV y (mP same j)) := by
  have := List.all_eq_true.1 (all_range (all_range marks_good hy) hj) same (in_bools same)
  rw [Good]
  revert this
  cases parseV (cutB 45 (textV (mV y (mP same j)))) with
  | none => intro h; cases h
  | some v =>
    intro h
    simp only [Bool.and_eq_true, decide_eq_true_eq] at h
    obtain ⟨a, b, c, p⟩ := v
    obtain ⟨⟨⟨rfl, rfl⟩, rfl⟩, rfl⟩ := h
    rfl
theorem mkS_len {i : Nat} (h : i < 4) : (mkS i).length = 1 := by
  have : i = 0 ∨ i = 1 ∨ i = 2 ∨ i = 3 := by omega
  rcases this with rfl | rfl | rfl | rfl <;> rfl
theorem mT_len {i : Nat} (h : i < 4) : 1 ≤ (mT.getD i []).length := by
  have : i = 0 ∨ i = 1 ∨ i = 2 ∨ i = 3 := by omega
  rcases this with rfl | rfl | rfl | rfl <;> decide
theorem mV_fit {y : Nat} {p : List T} (hy : y < 2) (hp : p.length ≤ 1) (hq : ∀ s ∈ p, s.length ≤ 1) : FitV (mV y p) := ⟨⟨by show p.length ≤ 10; omega, fun s hs => by have := hq s hs; omega⟩, by simp only [I64, mV]; omega⟩

set_option maxHeartbeats 4000000 in
theorem lawMarks (g0 a0 a1 b0 b1 : UInt8) (same : Bool) (w : World) (hT : Tb w) (hM : Ml w) : Calls Tryz.prog 7 #[vb g0, .agg #[vb a0, vb a1], .agg #[vb b0, vb b1], .bool same] w fun e w' => e = .returned (.bool true) ∧ K0 w w' := by
  obtain ⟨A0, hA0⟩ : ∃ x : Nat, a0.toNat % 2 = x := ⟨_, rfl⟩
  obtain ⟨A1, hA1⟩ : ∃ x : Nat, a1.toNat % 4 = x := ⟨_, rfl⟩
  obtain ⟨B0, hB0⟩ : ∃ x : Nat, b0.toNat % 2 = x := ⟨_, rfl⟩
  obtain ⟨B1, hB1⟩ : ∃ x : Nat, b1.toNat % 4 = x := ⟨_, rfl⟩
  obtain ⟨G, hG⟩ : ∃ x : Nat, g0.toNat % 8 = x := ⟨_, rfl⟩
  have eA0 : (a0.toNat : Int) % 2 = (A0 : Int) := by omega
  have eA1 : (a1.toNat : Int) % 4 = (A1 : Int) := by omega
  have eB0 : (b0.toNat : Int) % 2 = (B0 : Int) := by omega
  have eB1 : (b1.toNat : Int) % 4 = (B1 : Int) := by omega
  have eG : (g0.toNat : Int) % 8 = (G : Int) := by omega
  have hmA := mT_len (show A1 < 4 by omega)
  have hmB := mT_len (show B1 < 4 by omega)
  have hl4 : mT.length = 4 := rfl
  have hl8 : signsB.length = 8 := rfl
  refine H.enter Tryz.func7 Tryz.ntmps7 rfl rfl ?_; dsimp only [H.args]
  repeat' (first | (refine CL.seq ?_) | (refine CL.region ?_) | (refine CL.skip ?_) | (refine CL.condP rfl (fun _ => ?_) (fun _ => ?_) <;> try (exfalso; omega)) | (refine CL.condT rfl ?_) | (refine CL.condF rfl ?_) | (refine CL.cond rfl (fun _ => ?_) (fun _ => ?_)) | (refine CL.block ?_) | (refine CL.exit ?_) | (refine Ex.then ?_) | (refine Ex.hit ?_) | (refine Ex.miss rfl ?_) | (refine CL.ret ?_) | (refine Rt.then ?_) | (refine Rt.block ?_) | (refine Pn.then ?_) | (refine Pn.block ?_) | (refine CL.done ?_) | (refine Nm.block ?_) | (refine Nm.then ?_) | (refine Gt.nil ?_; refine RW.nilw [0, 1, 2, 3, 5, 6, 8, 9, 10, 11, 12, 13, 14, 15, 16, 17, 19, 21, 41] ?_; dsimp only [H.keep, H.look, H.Fr.put, Nat.beq]) | (refine Gt.move ?_; refine RW.y (Y.move rfl) rfl ?_) | (refine Gt.guard ?_; first | (refine RW.part rfl rfl rfl (fun _ => ?_) (fun _ => ?_) <;> try (exfalso; omega)) | (refine RW.on rfl rfl rfl ?_) | (refine RW.off1 rfl rfl rfl rfl rfl ?_) | (refine RW.off rfl rfl rfl rfl rfl ?_) | (refine RW.offu rfl rfl rfl rfl ?_) | (refine RW.partb rfl rfl rfl (fun _ => ?_) (fun _ => ?_))) | (refine Gt.load ?_; first | (refine RW.y (Y.loadB rfl (by assumption) rfl) rfl ?_) | (refine RW.y (Y.loadBlock rfl (by assumption) rfl) rfl ?_)) | (refine Gt.assign ?_; refine RW.y (Y.assign rfl) rfl ?_) | (refine Gt.extract ?_; refine RW.y (Y.extract rfl rfl) rfl ?_) | (refine Gt.rem ?_; first | (refine RW.y (Y.remP rfl rfl (by omega) (by omega)) rfl ?_) | (refine RW.y (Y.rem rfl rfl (by omega)) rfl ?_)) | (refine Gt.pick ?_; first | (refine RW.y (Y.pickT rfl rfl) rfl ?_) | (refine RW.y (Y.pickF rfl rfl) rfl ?_)) | (refine Gt.idx ?_; first | (refine RW.y (Y.idxP rfl rfl (by omega) (by omega)) rfl ?_) | (refine RW.elemS rfl rfl rfl rfl (by assumption) (by omega) (by omega) ?_)) | (refine Gt.not ?_; first | (refine RW.y (Y.not rfl) rfl ?_) | (refine RW.y (Y.notb rfl) rfl ?_)) | (refine Gt.fieldAddr ?_; refine RW.y (Y.fieldAddr rfl (by rfl)) rfl ?_) | (refine Gt.convert ?_; first | (refine RW.y (Y.convN rfl (by first | exact wrap64_id (by omega) (by omega) | exact wrapu64_id (by omega) (by omega) | exact wrapu8_id (by omega) (by omega) | exact wrapu16_id (by omega) (by omega) | exact wrapu32_id (by omega) (by omega))) rfl ?_) | (refine RW.y (Y.convW rfl) rfl ?_)) | (refine Gt.slice ?_; refine RW.y (Y.cuth rfl rfl (by omega) (by omega)) rfl ?_) | (refine Gt.eql ?_; first | (refine RW.y (Y.eqi rfl rfl) rfl ?_) | (refine RW.y (Y.eqb rfl rfl) rfl ?_)) | (refine Gt.add ?_; refine RW.y (Y.cat rfl rfl (by first | omega | (simp only [List.length_append, List.length_cons, List.length_nil]; omega))) rfl ?_) | (refine RW.y (Y.build (ps := [(0, _), (1, _), (3, _)]) rfl rfl) rfl ?_) | (refine RW.y (Y.build (ps := [(0, _), (1, _)]) rfl rfl) rfl ?_))
  refine RW.box rfl rfl (fun w1 hb1 hk1 hlt1 => ?_)
  refine RW.box rfl rfl (fun w2 hb2 hk2 hlt2 => ?_)
  have hX2 : w2.heap[w.heap.size]? = some (.cells #[vb a0, vb a1] 54 (0, 0)) := hk2.at0 hb1
  have hY2 : w2.heap[w1.heap.size]? = some (.cells #[vb b0, vb b1] 54 (0, 0)) := hb2
  have hK2 : K0 w w2 := hk1.trans0 hk2
  repeat' (first | (refine CL.seq ?_) | (refine CL.region ?_) | (refine CL.skip ?_) | (refine CL.condP rfl (fun _ => ?_) (fun _ => ?_) <;> try (exfalso; omega)) | (refine CL.condT rfl ?_) | (refine CL.condF rfl ?_) | (refine CL.cond rfl (fun _ => ?_) (fun _ => ?_)) | (refine CL.block ?_) | (refine CL.exit ?_) | (refine Ex.then ?_) | (refine Ex.hit ?_) | (refine Ex.miss rfl ?_) | (refine CL.ret ?_) | (refine Rt.then ?_) | (refine Rt.block ?_) | (refine Pn.then ?_) | (refine Pn.block ?_) | (refine CL.done ?_) | (refine Nm.block ?_) | (refine Nm.then ?_) | (refine Gt.nil ?_; refine RW.nilw [0, 1, 2, 3, 5, 6, 8, 9, 10, 11, 12, 13, 14, 15, 16, 17, 19, 21, 41] ?_; dsimp only [H.keep, H.look, H.Fr.put, Nat.beq]) | (refine Gt.move ?_; refine RW.y (Y.move rfl) rfl ?_) | (refine Gt.guard ?_; first | (refine RW.part rfl rfl rfl (fun _ => ?_) (fun _ => ?_) <;> try (exfalso; omega)) | (refine RW.on rfl rfl rfl ?_) | (refine RW.off1 rfl rfl rfl rfl rfl ?_) | (refine RW.off rfl rfl rfl rfl rfl ?_) | (refine RW.offu rfl rfl rfl rfl ?_) | (refine RW.partb rfl rfl rfl (fun _ => ?_) (fun _ => ?_))) | (refine Gt.load ?_; first | (refine RW.y (Y.loadB rfl (by assumption) rfl) rfl ?_) | (refine RW.y (Y.loadBlock rfl (by assumption) rfl) rfl ?_)) | (refine Gt.assign ?_; refine RW.y (Y.assign rfl) rfl ?_) | (refine Gt.extract ?_; refine RW.y (Y.extract rfl rfl) rfl ?_) | (refine Gt.rem ?_; first | (refine RW.y (Y.remP rfl rfl (by omega) (by omega)) rfl ?_) | (refine RW.y (Y.rem rfl rfl (by omega)) rfl ?_)) | (refine Gt.pick ?_; first | (refine RW.y (Y.pickT rfl rfl) rfl ?_) | (refine RW.y (Y.pickF rfl rfl) rfl ?_)) | (refine Gt.idx ?_; first | (refine RW.y (Y.idxP rfl rfl (by omega) (by omega)) rfl ?_) | (refine RW.elemS rfl rfl rfl rfl (by assumption) (by omega) (by omega) ?_)) | (refine Gt.not ?_; first | (refine RW.y (Y.not rfl) rfl ?_) | (refine RW.y (Y.notb rfl) rfl ?_)) | (refine Gt.fieldAddr ?_; refine RW.y (Y.fieldAddr rfl (by rfl)) rfl ?_) | (refine Gt.convert ?_; first | (refine RW.y (Y.convN rfl (by first | exact wrap64_id (by omega) (by omega) | exact wrapu64_id (by omega) (by omega) | exact wrapu8_id (by omega) (by omega) | exact wrapu16_id (by omega) (by omega) | exact wrapu32_id (by omega) (by omega))) rfl ?_) | (refine RW.y (Y.convW rfl) rfl ?_)) | (refine Gt.slice ?_; refine RW.y (Y.cuth rfl rfl (by omega) (by omega)) rfl ?_) | (refine Gt.eql ?_; first | (refine RW.y (Y.eqi rfl rfl) rfl ?_) | (refine RW.y (Y.eqb rfl rfl) rfl ?_)) | (refine Gt.add ?_; refine RW.y (Y.cat rfl rfl (by first | omega | (simp only [List.length_append, List.length_cons, List.length_nil]; omega))) rfl ?_) | (refine RW.y (Y.build (ps := [(0, _), (1, _), (3, _)]) rfl rfl) rfl ?_) | (refine RW.y (Y.build (ps := [(0, _), (1, _)]) rfl rfl) rfl ?_))
  refine RW.fn rfl rfl ((known w2 (hT.keep0 hK2) (hM.keep0 hK2)).mono ?_)
  rintro e w3 ⟨rfl, hk3⟩
  have hX3 := hk3.at0 hX2
  have hY3 := hk3.at0 hY2
  have hK3 := hK2.trans0 hk3
  repeat' (first | (refine CL.seq ?_) | (refine CL.region ?_) | (refine CL.skip ?_) | (refine CL.condP rfl (fun _ => ?_) (fun _ => ?_) <;> try (exfalso; omega)) | (refine CL.condT rfl ?_) | (refine CL.condF rfl ?_) | (refine CL.cond rfl (fun _ => ?_) (fun _ => ?_)) | (refine CL.block ?_) | (refine CL.exit ?_) | (refine Ex.then ?_) | (refine Ex.hit ?_) | (refine Ex.miss rfl ?_) | (refine CL.ret ?_) | (refine Rt.then ?_) | (refine Rt.block ?_) | (refine Pn.then ?_) | (refine Pn.block ?_) | (refine CL.done ?_) | (refine Nm.block ?_) | (refine Nm.then ?_) | (refine Gt.nil ?_; refine RW.nilw [0, 1, 2, 3, 5, 6, 8, 9, 10, 11, 12, 13, 14, 15, 16, 17, 19, 21, 41] ?_; dsimp only [H.keep, H.look, H.Fr.put, Nat.beq]) | (refine Gt.move ?_; refine RW.y (Y.move rfl) rfl ?_) | (refine Gt.guard ?_; first | (refine RW.part rfl rfl rfl (fun _ => ?_) (fun _ => ?_) <;> try (exfalso; omega)) | (refine RW.on rfl rfl rfl ?_) | (refine RW.off1 rfl rfl rfl rfl rfl ?_) | (refine RW.off rfl rfl rfl rfl rfl ?_) | (refine RW.offu rfl rfl rfl rfl ?_) | (refine RW.partb rfl rfl rfl (fun _ => ?_) (fun _ => ?_))) | (refine Gt.load ?_; first | (refine RW.y (Y.loadB rfl (by assumption) rfl) rfl ?_) | (refine RW.y (Y.loadBlock rfl (by assumption) rfl) rfl ?_)) | (refine Gt.assign ?_; refine RW.y (Y.assign rfl) rfl ?_) | (refine Gt.extract ?_; refine RW.y (Y.extract rfl rfl) rfl ?_) | (refine Gt.rem ?_; first | (refine RW.y (Y.remP rfl rfl (by omega) (by omega)) rfl ?_) | (refine RW.y (Y.rem rfl rfl (by omega)) rfl ?_)) | (refine Gt.pick ?_; first | (refine RW.y (Y.pickT rfl rfl) rfl ?_) | (refine RW.y (Y.pickF rfl rfl) rfl ?_)) | (refine Gt.idx ?_; first | (refine RW.y (Y.idxP rfl rfl (by omega) (by omega)) rfl ?_) | (refine RW.elemS rfl rfl rfl rfl (by assumption) (by omega) (by omega) ?_)) | (refine Gt.not ?_; first | (refine RW.y (Y.not rfl) rfl ?_) | (refine RW.y (Y.notb rfl) rfl ?_)) | (refine Gt.fieldAddr ?_; refine RW.y (Y.fieldAddr rfl (by rfl)) rfl ?_) | (refine Gt.convert ?_; first | (refine RW.y (Y.convN rfl (by first | exact wrap64_id (by omega) (by omega) | exact wrapu64_id (by omega) (by omega) | exact wrapu8_id (by omega) (by omega) | exact wrapu16_id (by omega) (by omega) | exact wrapu32_id (by omega) (by omega))) rfl ?_) | (refine RW.y (Y.convW rfl) rfl ?_)) | (refine Gt.slice ?_; refine RW.y (Y.cuth rfl rfl (by omega) (by omega)) rfl ?_) | (refine Gt.eql ?_; first | (refine RW.y (Y.eqi rfl rfl) rfl ?_) | (refine RW.y (Y.eqb rfl rfl) rfl ?_)) | (refine Gt.add ?_; refine RW.y (Y.cat rfl rfl (by first | omega | (simp only [List.length_append, List.length_cons, List.length_nil]; omega))) rfl ?_) | (refine RW.y (Y.build (ps := [(0, _), (1, _), (3, _)]) rfl rfl) rfl ?_) | (refine RW.y (Y.build (ps := [(0, _), (1, _)]) rfl rfl) rfl ?_))
  refine RW.buildL (ps := [(0, _), (1, _), (2, _), (3, _)]) (l := sv mT) rfl rfl rfl text_cells rfl rfl (fun w4 hb4 hk4 hlt4 => ?_)
  have hs4 : Sl w4 1 (.slice (some ⟨w3.heap.size, 0, none⟩) 4 4) mT.length (sv mT) := sl_new hb4 rfl (by decide)
  have hX4 := hk4.at0 hX3
  have hY4 := hk4.at0 hY3
  have hK4 := hK3.trans0 hk4
  have hc4 : ∀ {w' : World}, K0 w4 w' → w'.cell? (Value.spot (.slice (some ⟨w3.heap.size, 0, none⟩) 4 4) (((a1.toNat : Int) % 4).toNat * 1)) = some (vs (mT.getD A1 [])) := fun h => by rw [eA1, Int.toNat_natCast, Nat.mul_one]; exact (hs4.keep0 h).cell (sv_at (by omega))
  repeat' (first | (refine CL.seq ?_) | (refine Nm.block ?_) | (refine Nm.then ?_) | (refine Gt.nil ?_; refine RW.nilw [0, 1, 2, 3, 5, 6, 8, 9, 10, 11, 12, 13, 14, 15, 16, 17, 19, 21, 41] ?_; dsimp only [H.keep, H.look, H.Fr.put, Nat.beq]) | (refine Gt.move ?_; refine RW.y (Y.move rfl) rfl ?_) | (refine Gt.guard ?_; first | (refine RW.part rfl rfl rfl (fun _ => ?_) (fun _ => ?_) <;> try (exfalso; omega)) | (refine RW.on rfl rfl rfl ?_) | (refine RW.off1 rfl rfl rfl rfl rfl ?_) | (refine RW.off rfl rfl rfl rfl rfl ?_) | (refine RW.offu rfl rfl rfl rfl ?_) | (refine RW.partb rfl rfl rfl (fun _ => ?_) (fun _ => ?_))) | (refine Gt.load ?_; first | (refine RW.y (Y.loadB rfl (by assumption) rfl) rfl ?_) | (refine RW.y (Y.loadBlock rfl (by assumption) rfl) rfl ?_)) | (refine Gt.assign ?_; refine RW.y (Y.assign rfl) rfl ?_) | (refine Gt.extract ?_; refine RW.y (Y.extract rfl rfl) rfl ?_) | (refine Gt.rem ?_; first | (refine RW.y (Y.remP rfl rfl (by omega) (by omega)) rfl ?_) | (refine RW.y (Y.rem rfl rfl (by omega)) rfl ?_)) | (refine Gt.pick ?_; first | (refine RW.y (Y.pickT rfl rfl) rfl ?_) | (refine RW.y (Y.pickF rfl rfl) rfl ?_)) | (refine Gt.idx ?_; first | (refine RW.y (Y.idxP rfl rfl (by omega) (by omega)) rfl ?_) | (refine RW.elemS rfl rfl rfl rfl (by assumption) (by omega) (by omega) ?_)) | (refine Gt.not ?_; first | (refine RW.y (Y.not rfl) rfl ?_) | (refine RW.y (Y.notb rfl) rfl ?_)) | (refine Gt.fieldAddr ?_; refine RW.y (Y.fieldAddr rfl (by rfl)) rfl ?_) | (refine Gt.convert ?_; first | (refine RW.y (Y.convN rfl (by first | exact wrap64_id (by omega) (by omega) | exact wrapu64_id (by omega) (by omega) | exact wrapu8_id (by omega) (by omega) | exact wrapu16_id (by omega) (by omega) | exact wrapu32_id (by omega) (by omega))) rfl ?_) | (refine RW.y (Y.convW rfl) rfl ?_)) | (refine Gt.slice ?_; refine RW.y (Y.cuth rfl rfl (by omega) (by omega)) rfl ?_) | (refine Gt.eql ?_; first | (refine RW.y (Y.eqi rfl rfl) rfl ?_) | (refine RW.y (Y.eqb rfl rfl) rfl ?_)) | (refine Gt.add ?_; refine RW.y (Y.cat rfl rfl (by first | omega | (simp only [List.length_append, List.length_cons, List.length_nil]; omega))) rfl ?_) | (refine RW.y (Y.build (ps := [(0, _), (1, _), (3, _)]) rfl rfl) rfl ?_) | (refine RW.y (Y.build (ps := [(0, _), (1, _)]) rfl rfl) rfl ?_))
  refine CL.cutS [0, 3, 6, 9, 10] (fun vals wx => ∃ gA qA, vals = [vb g0, .bool same, .pointer (some ⟨w1.heap.size, 0, none⟩), .slice (some ⟨w3.heap.size, 0, none⟩) 4 4, .pointer (some ⟨gA, 0, none⟩)] ∧ wx.heap[gA]? = some (.cells #[.int .i64 1, .int .i64 (A0 : Int), .int .i64 0, qA] verT (0, 0)) ∧ qA.oneCell' = true ∧ Sl wx 1 qA 1 (sv [mkS A1]) ∧ K0 w4 wx) (by simp) ?_ ?_
  · refine CL.draw (fun w' => K0 w4 w') (by kernel_rfl) (fun w5 hheap hk5 => ?_)
    have hS : K0 w4 w5 := hk5
    skip
    refine AW.take 0 rfl (by kernel_rfl) (by kernel_rfl) (by kernel_rfl) rfl (by assumption) (fun w hS => Y.idxP rfl rfl (by omega) (by omega)) ?_
    refine AW.take 1 rfl (by kernel_rfl) (by kernel_rfl) (by kernel_rfl) rfl (by assumption) (fun w hS => Y.loadB rfl (hS.at0 hX4) rfl) ?_
    refine AW.take 2 rfl (by kernel_rfl) (by kernel_rfl) (by kernel_rfl) rfl (by assumption) (fun w hS => by first | exact Y.remP rfl rfl (by omega) (by omega) | exact Y.rem rfl rfl (by omega)) ?_
    refine AW.take 3 rfl (by kernel_rfl) (by kernel_rfl) (by kernel_rfl) rfl (by assumption) (fun w hS => Y.convN rfl (by first | exact wrap64_id (by omega) (by omega))) ?_
    refine AW.take 4 rfl (by kernel_rfl) (by kernel_rfl) (by kernel_rfl) rfl (by assumption) (fun w hS => Y.move rfl) ?_
    refine AW.take 5 rfl (by kernel_rfl) (by kernel_rfl) (by kernel_rfl) rfl (by assumption) (fun w hS => Y.idxP rfl rfl (by omega) (by omega)) ?_
    refine AW.take 6 rfl (by kernel_rfl) (by kernel_rfl) (by kernel_rfl) rfl (by assumption) (fun w hS => Y.loadB rfl (hS.at0 hX4) rfl) ?_
    refine AW.take 7 rfl (by kernel_rfl) (by kernel_rfl) (by kernel_rfl) rfl (by assumption) (fun w hS => by first | exact Y.remP rfl rfl (by omega) (by omega) | exact Y.rem rfl rfl (by omega)) ?_
    refine AW.take 8 rfl (by kernel_rfl) (by kernel_rfl) (by kernel_rfl) rfl (by assumption) (fun w hS => Y.idx rfl rfl (hs4.keep0 hS) (by omega) (by omega)) ?_
    refine AW.take 9 rfl (by kernel_rfl) (by kernel_rfl) (by kernel_rfl) rfl (by assumption) (fun w hS => Y.load1 rfl (hc4 hS)) ?_
    refine AW.take 10 rfl (by kernel_rfl) (by kernel_rfl) (by kernel_rfl) rfl (by assumption) (fun w hS => Y.cuth rfl rfl (by omega) (by omega)) ?_
    rw [eA0]
    refine AW.two 11 13 rfl rfl (by kernel_rfl) ?_ ?_
    · skip
      refine RW.buildL (ps := [(0, _)]) (l := sv [mkS A1]) rfl rfl rfl text_cells rfl rfl (fun w6 hb6 hk6 hlt6 => ?_)
      have hS6 : K0 w4 w6 := hS.trans0 hk6
      have hs6 : Sl w6 1 (.slice (some ⟨w5.heap.size, 0, none⟩) 1 1) 1 (sv [mkS A1]) := sl_new hb6 rfl (by decide)
      refine RW.nil (Nm.then ⟨hS6, ?_⟩)
      refine AW.take 12 rfl (by kernel_rfl) (by kernel_rfl) (by kernel_rfl) rfl (by assumption) (fun w hS => Y.build (ps := [(0, _), (1, _), (3, _)]) (l := [_, _, _]) (c := #[.int .i64 1, .int .i64 (A0 : Int), .int .i64 0, .slice (some ⟨w5.heap.size, 0, none⟩) 1 1]) rfl rfl) ?_
      refine AW.next 13 rfl (by kernel_rfl) ?_
      refine RW.alloc rfl (fun w7 hb7 hk7 hlt7 => ?_)
      have hS7 : K0 w4 w7 := hS6.trans0 hk7
      refine RW.nil (Nm.then ⟨hS7, ?_⟩)
      skip
      refine AW.next 14 rfl (by kernel_rfl) ?_
      refine RW.storeBlock rfl rfl rfl (verCells rfl) hb7 rfl (fun wq hbq hk8 => ?_)
      have hKq : K0 w4 wq := hS7.trans hk8 fun k h => .inr (by have h' : k = w6.heap.size := h; have := hS6.size; omega)
      have hsq := (hs6.keep0 hk7).keep hk8 fun g hg c => by
        have c' : g = w6.heap.size := c
        have := live_own hg
        simp [Value.ownBlock] at this
        omega
      refine RW.nil (Nm.then ⟨hKq, ?_⟩)
      have hKp : K0 w4 wq := hKq
      refine AW.donew [0, 3, 6, 9, 10] (by kernel_rfl) ?_
      dsimp only [H.keep, H.look, H.Fr.put, Nat.beq]
      repeat' (first | (refine CL.seq ?_) | (refine CL.region ?_) | (refine CL.skip ?_) | (refine CL.condP rfl (fun _ => ?_) (fun _ => ?_) <;> try (exfalso; omega)) | (refine CL.condT rfl ?_) | (refine CL.condF rfl ?_) | (refine CL.cond rfl (fun _ => ?_) (fun _ => ?_)) | (refine CL.block ?_) | (refine CL.exit ?_) | (refine Ex.then ?_) | (refine Ex.hit ?_) | (refine Ex.miss rfl ?_) | (refine CL.ret ?_) | (refine Rt.then ?_) | (refine Rt.block ?_) | (refine Pn.then ?_) | (refine Pn.block ?_) | (refine CL.done ?_) | (refine Nm.block ?_) | (refine Nm.then ?_) | (refine Gt.nil ?_; refine RW.nilw [0, 1, 2, 3, 5, 6, 8, 9, 10, 11, 12, 13, 14, 15, 16, 17, 19, 21, 41] ?_; dsimp only [H.keep, H.look, H.Fr.put, Nat.beq]) | (refine Gt.move ?_; refine RW.y (Y.move rfl) rfl ?_) | (refine Gt.guard ?_; first | (refine RW.part rfl rfl rfl (fun _ => ?_) (fun _ => ?_) <;> try (exfalso; omega)) | (refine RW.on rfl rfl rfl ?_) | (refine RW.off1 rfl rfl rfl rfl rfl ?_) | (refine RW.off rfl rfl rfl rfl rfl ?_) | (refine RW.offu rfl rfl rfl rfl ?_) | (refine RW.partb rfl rfl rfl (fun _ => ?_) (fun _ => ?_))) | (refine Gt.load ?_; first | (refine RW.y (Y.loadB rfl (by assumption) rfl) rfl ?_) | (refine RW.y (Y.loadBlock rfl (by assumption) rfl) rfl ?_)) | (refine Gt.assign ?_; refine RW.y (Y.assign rfl) rfl ?_) | (refine Gt.extract ?_; refine RW.y (Y.extract rfl rfl) rfl ?_) | (refine Gt.rem ?_; first | (refine RW.y (Y.remP rfl rfl (by omega) (by omega)) rfl ?_) | (refine RW.y (Y.rem rfl rfl (by omega)) rfl ?_)) | (refine Gt.pick ?_; first | (refine RW.y (Y.pickT rfl rfl) rfl ?_) | (refine RW.y (Y.pickF rfl rfl) rfl ?_)) | (refine Gt.idx ?_; first | (refine RW.y (Y.idxP rfl rfl (by omega) (by omega)) rfl ?_) | (refine RW.elemS rfl rfl rfl rfl (by assumption) (by omega) (by omega) ?_)) | (refine Gt.not ?_; first | (refine RW.y (Y.not rfl) rfl ?_) | (refine RW.y (Y.notb rfl) rfl ?_)) | (refine Gt.fieldAddr ?_; refine RW.y (Y.fieldAddr rfl (by rfl)) rfl ?_) | (refine Gt.convert ?_; first | (refine RW.y (Y.convN rfl (by first | exact wrap64_id (by omega) (by omega) | exact wrapu64_id (by omega) (by omega) | exact wrapu8_id (by omega) (by omega) | exact wrapu16_id (by omega) (by omega) | exact wrapu32_id (by omega) (by omega))) rfl ?_) | (refine RW.y (Y.convW rfl) rfl ?_)) | (refine Gt.slice ?_; refine RW.y (Y.cuth rfl rfl (by omega) (by omega)) rfl ?_) | (refine Gt.eql ?_; first | (refine RW.y (Y.eqi rfl rfl) rfl ?_) | (refine RW.y (Y.eqb rfl rfl) rfl ?_)) | (refine Gt.add ?_; refine RW.y (Y.cat rfl rfl (by first | omega | (simp only [List.length_append, List.length_cons, List.length_nil]; omega))) rfl ?_) | (refine RW.y (Y.build (ps := [(0, _), (1, _), (3, _)]) rfl rfl) rfl ?_) | (refine RW.y (Y.build (ps := [(0, _), (1, _)]) rfl rfl) rfl ?_))
      exact ⟨_, rfl, rfl, rfl, _, _, rfl, hbq, rfl, hsq, hKp⟩
    · skip
      refine RW.alloc rfl (fun w6 hb6 hk6 hlt6 => ?_)
      have hS6 : K0 w4 w6 := hS.trans0 hk6
      refine RW.nil (Nm.then ⟨hS6, ?_⟩)
      skip
      refine AW.next 11 rfl (by kernel_rfl) ?_
      refine RW.buildL (ps := [(0, _)]) (l := sv [mkS A1]) rfl rfl rfl text_cells rfl rfl (fun w7 hb7 hk7 hlt7 => ?_)
      have hS7 : K0 w4 w7 := hS6.trans0 hk7
      have hs7 : Sl w7 1 (.slice (some ⟨w6.heap.size, 0, none⟩) 1 1) 1 (sv [mkS A1]) := sl_new hb7 rfl (by decide)
      refine RW.nil (Nm.then ⟨hS7, ?_⟩)
      refine AW.take 12 rfl (by kernel_rfl) (by kernel_rfl) (by kernel_rfl) rfl (by assumption) (fun w hS => Y.build (ps := [(0, _), (1, _), (3, _)]) (l := [_, _, _]) (c := #[.int .i64 1, .int .i64 (A0 : Int), .int .i64 0, .slice (some ⟨w6.heap.size, 0, none⟩) 1 1]) rfl rfl) ?_
      refine AW.next 14 rfl (by kernel_rfl) ?_
      refine RW.storeBlock rfl rfl rfl (verCells rfl) (hk7.at0 hb6) rfl (fun wq hbq hk8 => ?_)
      have hKq : K0 w4 wq := hS7.trans hk8 fun k h => .inr (by have h' : k = w5.heap.size := h; have := hS.size; omega)
      have hsq := hs7.keep hk8 fun g hg c => by
        have c' : g = w5.heap.size := c
        have := live_own hg
        simp [Value.ownBlock] at this
        omega
      refine RW.nil (Nm.then ⟨hKq, ?_⟩)
      have hKp : K0 w4 wq := hKq
      refine AW.donew [0, 3, 6, 9, 10] (by kernel_rfl) ?_
      dsimp only [H.keep, H.look, H.Fr.put, Nat.beq]
      repeat' (first | (refine CL.seq ?_) | (refine CL.region ?_) | (refine CL.skip ?_) | (refine CL.condP rfl (fun _ => ?_) (fun _ => ?_) <;> try (exfalso; omega)) | (refine CL.condT rfl ?_) | (refine CL.condF rfl ?_) | (refine CL.cond rfl (fun _ => ?_) (fun _ => ?_)) | (refine CL.block ?_) | (refine CL.exit ?_) | (refine Ex.then ?_) | (refine Ex.hit ?_) | (refine Ex.miss rfl ?_) | (refine CL.ret ?_) | (refine Rt.then ?_) | (refine Rt.block ?_) | (refine Pn.then ?_) | (refine Pn.block ?_) | (refine CL.done ?_) | (refine Nm.block ?_) | (refine Nm.then ?_) | (refine Gt.nil ?_; refine RW.nilw [0, 1, 2, 3, 5, 6, 8, 9, 10, 11, 12, 13, 14, 15, 16, 17, 19, 21, 41] ?_; dsimp only [H.keep, H.look, H.Fr.put, Nat.beq]) | (refine Gt.move ?_; refine RW.y (Y.move rfl) rfl ?_) | (refine Gt.guard ?_; first | (refine RW.part rfl rfl rfl (fun _ => ?_) (fun _ => ?_) <;> try (exfalso; omega)) | (refine RW.on rfl rfl rfl ?_) | (refine RW.off1 rfl rfl rfl rfl rfl ?_) | (refine RW.off rfl rfl rfl rfl rfl ?_) | (refine RW.offu rfl rfl rfl rfl ?_) | (refine RW.partb rfl rfl rfl (fun _ => ?_) (fun _ => ?_))) | (refine Gt.load ?_; first | (refine RW.y (Y.loadB rfl (by assumption) rfl) rfl ?_) | (refine RW.y (Y.loadBlock rfl (by assumption) rfl) rfl ?_)) | (refine Gt.assign ?_; refine RW.y (Y.assign rfl) rfl ?_) | (refine Gt.extract ?_; refine RW.y (Y.extract rfl rfl) rfl ?_) | (refine Gt.rem ?_; first | (refine RW.y (Y.remP rfl rfl (by omega) (by omega)) rfl ?_) | (refine RW.y (Y.rem rfl rfl (by omega)) rfl ?_)) | (refine Gt.pick ?_; first | (refine RW.y (Y.pickT rfl rfl) rfl ?_) | (refine RW.y (Y.pickF rfl rfl) rfl ?_)) | (refine Gt.idx ?_; first | (refine RW.y (Y.idxP rfl rfl (by omega) (by omega)) rfl ?_) | (refine RW.elemS rfl rfl rfl rfl (by assumption) (by omega) (by omega) ?_)) | (refine Gt.not ?_; first | (refine RW.y (Y.not rfl) rfl ?_) | (refine RW.y (Y.notb rfl) rfl ?_)) | (refine Gt.fieldAddr ?_; refine RW.y (Y.fieldAddr rfl (by rfl)) rfl ?_) | (refine Gt.convert ?_; first | (refine RW.y (Y.convN rfl (by first | exact wrap64_id (by omega) (by omega) | exact wrapu64_id (by omega) (by omega) | exact wrapu8_id (by omega) (by omega) | exact wrapu16_id (by omega) (by omega) | exact wrapu32_id (by omega) (by omega))) rfl ?_) | (refine RW.y (Y.convW rfl) rfl ?_)) | (refine Gt.slice ?_; refine RW.y (Y.cuth rfl rfl (by omega) (by omega)) rfl ?_) | (refine Gt.eql ?_; first | (refine RW.y (Y.eqi rfl rfl) rfl ?_) | (refine RW.y (Y.eqb rfl rfl) rfl ?_)) | (refine Gt.add ?_; refine RW.y (Y.cat rfl rfl (by first | omega | (simp only [List.length_append, List.length_cons, List.length_nil]; omega))) rfl ?_) | (refine RW.y (Y.build (ps := [(0, _), (1, _), (3, _)]) rfl rfl) rfl ?_) | (refine RW.y (Y.build (ps := [(0, _), (1, _)]) rfl rfl) rfl ?_))
      exact ⟨_, rfl, rfl, rfl, _, _, rfl, hbq, rfl, hsq, hKp⟩
  rintro vals w5 ⟨gA, qA, rfl, hbA, hA1c, hsA, hk5⟩
  dsimp only [List.zip, List.zipWith]
  have hY5 := hk5.at0 hY4
  have hs5 := hs4.keep0 hk5
  have hK5 := hK4.trans0 hk5
  repeat' (first | (refine CL.seq ?_) | (refine CL.region ?_) | (refine CL.skip ?_) | (refine CL.condP rfl (fun _ => ?_) (fun _ => ?_) <;> try (exfalso; omega)) | (refine CL.condT rfl ?_) | (refine CL.condF rfl ?_) | (refine CL.cond rfl (fun _ => ?_) (fun _ => ?_)) | (refine CL.block ?_) | (refine CL.exit ?_) | (refine Ex.then ?_) | (refine Ex.hit ?_) | (refine Ex.miss rfl ?_) | (refine CL.ret ?_) | (refine Rt.then ?_) | (refine Rt.block ?_) | (refine Pn.then ?_) | (refine Pn.block ?_) | (refine CL.done ?_) | (refine Nm.block ?_) | (refine Nm.then ?_) | (refine Gt.nil ?_; refine RW.nilw [0, 1, 2, 3, 5, 6, 8, 9, 10, 11, 12, 13, 14, 15, 16, 17, 19, 21, 41] ?_; dsimp only [H.keep, H.look, H.Fr.put, Nat.beq]) | (refine RW.y (Y.build (ps := [(0, _), (1, _)]) (l := [_, _]) (c := #[_, _, .int .i64 0, .slice none 0 0]) rfl rfl) rfl ?_) | (refine Gt.move ?_; refine RW.y (Y.move rfl) rfl ?_) | (refine Gt.guard ?_; first | (refine RW.part rfl rfl rfl (fun _ => ?_) (fun _ => ?_) <;> try (exfalso; omega)) | (refine RW.on rfl rfl rfl ?_) | (refine RW.off1 rfl rfl rfl rfl rfl ?_) | (refine RW.off rfl rfl rfl rfl rfl ?_) | (refine RW.offu rfl rfl rfl rfl ?_) | (refine RW.partb rfl rfl rfl (fun _ => ?_) (fun _ => ?_))) | (refine Gt.load ?_; first | (refine RW.y (Y.loadB rfl (by assumption) rfl) rfl ?_) | (refine RW.y (Y.loadBlock rfl (by assumption) rfl) rfl ?_)) | (refine Gt.assign ?_; refine RW.y (Y.assign rfl) rfl ?_) | (refine Gt.extract ?_; refine RW.y (Y.extract rfl rfl) rfl ?_) | (refine Gt.rem ?_; first | (refine RW.y (Y.remP rfl rfl (by omega) (by omega)) rfl ?_) | (refine RW.y (Y.rem rfl rfl (by omega)) rfl ?_)) | (refine Gt.pick ?_; first | (refine RW.y (Y.pickT rfl rfl) rfl ?_) | (refine RW.y (Y.pickF rfl rfl) rfl ?_)) | (refine Gt.idx ?_; first | (refine RW.y (Y.idxP rfl rfl (by omega) (by omega)) rfl ?_) | (refine RW.elemS rfl rfl rfl rfl (by assumption) (by omega) (by omega) ?_)) | (refine Gt.not ?_; first | (refine RW.y (Y.not rfl) rfl ?_) | (refine RW.y (Y.notb rfl) rfl ?_)) | (refine Gt.fieldAddr ?_; refine RW.y (Y.fieldAddr rfl (by rfl)) rfl ?_) | (refine Gt.convert ?_; first | (refine RW.y (Y.convN rfl (by first | exact wrap64_id (by omega) (by omega) | exact wrapu64_id (by omega) (by omega) | exact wrapu8_id (by omega) (by omega) | exact wrapu16_id (by omega) (by omega) | exact wrapu32_id (by omega) (by omega))) rfl ?_) | (refine RW.y (Y.convW rfl) rfl ?_)) | (refine Gt.slice ?_; refine RW.y (Y.cuth rfl rfl (by omega) (by omega)) rfl ?_) | (refine Gt.eql ?_; first | (refine RW.y (Y.eqi rfl rfl) rfl ?_) | (refine RW.y (Y.eqb rfl rfl) rfl ?_)) | (refine Gt.add ?_; refine RW.y (Y.cat rfl rfl (by first | omega | (simp only [List.length_append, List.length_cons, List.length_nil]; omega))) rfl ?_) | (refine RW.y (Y.build (ps := [(0, _), (1, _), (3, _)]) rfl rfl) rfl ?_) | (refine RW.y (Y.build (ps := [(0, _), (1, _)]) rfl rfl) rfl ?_))
  rw [eB0]
  refine RW.varN rfl rfl rfl (verCells rfl) rfl (fun w6 hb6 hk6 hlt6 => ?_)
  have hY6 := hk6.at0 hY5
  have hs6 := hs5.keep0 hk6
  have hA6 := hk6.at0 hbA
  have hmB' : 1 ≤ (mT.getD ((b1.toNat : Int) % 4).toNat []).length := by rw [eB1, Int.toNat_natCast]; exact hmB
  have hmk : (mT.getD ((b1.toNat : Int) % 4).toNat []).take (Int.toNat 1) = mkS B1 := by rw [eB1, Int.toNat_natCast]; rfl
  have hz5 := hk5.size
  repeat' (first | (refine CL.seq ?_) | (refine Nm.block ?_) | (refine Nm.then ?_) | (refine Gt.nil ?_; refine RW.nilw [0, 1, 2, 3, 5, 6, 8, 9, 10, 11, 12, 13, 14, 15, 16, 17, 19, 21, 41] ?_; dsimp only [H.keep, H.look, H.Fr.put, Nat.beq]) | (refine Gt.move ?_; refine RW.y (Y.move rfl) rfl ?_) | (refine Gt.guard ?_; first | (refine RW.part rfl rfl rfl (fun _ => ?_) (fun _ => ?_) <;> try (exfalso; omega)) | (refine RW.on rfl rfl rfl ?_) | (refine RW.off1 rfl rfl rfl rfl rfl ?_) | (refine RW.off rfl rfl rfl rfl rfl ?_) | (refine RW.offu rfl rfl rfl rfl ?_) | (refine RW.partb rfl rfl rfl (fun _ => ?_) (fun _ => ?_))) | (refine Gt.load ?_; first | (refine RW.y (Y.loadB rfl (by assumption) rfl) rfl ?_) | (refine RW.y (Y.loadBlock rfl (by assumption) rfl) rfl ?_)) | (refine Gt.assign ?_; refine RW.y (Y.assign rfl) rfl ?_) | (refine Gt.extract ?_; refine RW.y (Y.extract rfl rfl) rfl ?_) | (refine Gt.rem ?_; first | (refine RW.y (Y.remP rfl rfl (by omega) (by omega)) rfl ?_) | (refine RW.y (Y.rem rfl rfl (by omega)) rfl ?_)) | (refine Gt.pick ?_; first | (refine RW.y (Y.pickT rfl rfl) rfl ?_) | (refine RW.y (Y.pickF rfl rfl) rfl ?_)) | (refine Gt.idx ?_; first | (refine RW.y (Y.idxP rfl rfl (by omega) (by omega)) rfl ?_) | (refine RW.elemS rfl rfl rfl rfl (by assumption) (by omega) (by omega) ?_)) | (refine Gt.not ?_; first | (refine RW.y (Y.not rfl) rfl ?_) | (refine RW.y (Y.notb rfl) rfl ?_)) | (refine Gt.fieldAddr ?_; refine RW.y (Y.fieldAddr rfl (by rfl)) rfl ?_) | (refine Gt.convert ?_; first | (refine RW.y (Y.convN rfl (by first | exact wrap64_id (by omega) (by omega) | exact wrapu64_id (by omega) (by omega) | exact wrapu8_id (by omega) (by omega) | exact wrapu16_id (by omega) (by omega) | exact wrapu32_id (by omega) (by omega))) rfl ?_) | (refine RW.y (Y.convW rfl) rfl ?_)) | (refine Gt.slice ?_; refine RW.y (Y.cuth rfl rfl (by omega) (by omega)) rfl ?_) | (refine Gt.eql ?_; first | (refine RW.y (Y.eqi rfl rfl) rfl ?_) | (refine RW.y (Y.eqb rfl rfl) rfl ?_)) | (refine Gt.add ?_; refine RW.y (Y.cat rfl rfl (by first | omega | (simp only [List.length_append, List.length_cons, List.length_nil]; omega))) rfl ?_) | (refine RW.y (Y.build (ps := [(0, _), (1, _), (3, _)]) rfl rfl) rfl ?_) | (refine RW.y (Y.build (ps := [(0, _), (1, _)]) rfl rfl) rfl ?_))
  refine CL.region ?_
  repeat' (first | (refine CL.seq ?_) | (refine Nm.block ?_) | (refine Nm.then ?_) | (refine Gt.nil ?_; refine RW.nilw [0, 1, 2, 3, 5, 6, 8, 9, 10, 11, 12, 13, 14, 15, 16, 17, 19, 21, 41] ?_; dsimp only [H.keep, H.look, H.Fr.put, Nat.beq]) | (refine Gt.move ?_; refine RW.y (Y.move rfl) rfl ?_) | (refine Gt.guard ?_; first | (refine RW.part rfl rfl rfl (fun _ => ?_) (fun _ => ?_) <;> try (exfalso; omega)) | (refine RW.on rfl rfl rfl ?_) | (refine RW.off1 rfl rfl rfl rfl rfl ?_) | (refine RW.off rfl rfl rfl rfl rfl ?_) | (refine RW.offu rfl rfl rfl rfl ?_) | (refine RW.partb rfl rfl rfl (fun _ => ?_) (fun _ => ?_))) | (refine Gt.load ?_; first | (refine RW.y (Y.loadB rfl (by assumption) rfl) rfl ?_) | (refine RW.y (Y.loadBlock rfl (by assumption) rfl) rfl ?_)) | (refine Gt.assign ?_; refine RW.y (Y.assign rfl) rfl ?_) | (refine Gt.extract ?_; refine RW.y (Y.extract rfl rfl) rfl ?_) | (refine Gt.rem ?_; first | (refine RW.y (Y.remP rfl rfl (by omega) (by omega)) rfl ?_) | (refine RW.y (Y.rem rfl rfl (by omega)) rfl ?_)) | (refine Gt.pick ?_; first | (refine RW.y (Y.pickT rfl rfl) rfl ?_) | (refine RW.y (Y.pickF rfl rfl) rfl ?_)) | (refine Gt.idx ?_; first | (refine RW.y (Y.idxP rfl rfl (by omega) (by omega)) rfl ?_) | (refine RW.elemS rfl rfl rfl rfl (by assumption) (by omega) (by omega) ?_)) | (refine Gt.not ?_; first | (refine RW.y (Y.not rfl) rfl ?_) | (refine RW.y (Y.notb rfl) rfl ?_)) | (refine Gt.fieldAddr ?_; refine RW.y (Y.fieldAddr rfl (by rfl)) rfl ?_) | (refine Gt.convert ?_; first | (refine RW.y (Y.convN rfl (by first | exact wrap64_id (by omega) (by omega) | exact wrapu64_id (by omega) (by omega) | exact wrapu8_id (by omega) (by omega) | exact wrapu16_id (by omega) (by omega) | exact wrapu32_id (by omega) (by omega))) rfl ?_) | (refine RW.y (Y.convW rfl) rfl ?_)) | (refine Gt.slice ?_; refine RW.y (Y.cuth rfl rfl (by omega) (by omega)) rfl ?_) | (refine Gt.eql ?_; first | (refine RW.y (Y.eqi rfl rfl) rfl ?_) | (refine RW.y (Y.eqb rfl rfl) rfl ?_)) | (refine Gt.add ?_; refine RW.y (Y.cat rfl rfl (by first | omega | (simp only [List.length_append, List.length_cons, List.length_nil]; omega))) rfl ?_) | (refine RW.y (Y.build (ps := [(0, _), (1, _), (3, _)]) rfl rfl) rfl ?_) | (refine RW.y (Y.build (ps := [(0, _), (1, _)]) rfl rfl) rfl ?_))
  refine CL.cutS [0, 3, 10, 11] (fun vals wx => ∃ qB, vals = [vb g0, .bool same, .pointer (some ⟨gA, 0, none⟩), .pointer (some ⟨w5.heap.size, 0, none⟩)] ∧ wx.heap[w5.heap.size]? = some (.cells #[.int .i64 1, .int .i64 (B0 : Int), .int .i64 0, qB] verT (0, 0)) ∧ qB.oneCell' = true ∧ Sl wx 1 qB (mP same B1).length (sv (mP same B1)) ∧ K0 w5 wx) (by simp) ?_ ?_
  · cases same
    · repeat' (first | (refine CL.seq ?_) | (refine CL.region ?_) | (refine CL.skip ?_) | (refine CL.condP rfl (fun _ => ?_) (fun _ => ?_) <;> try (exfalso; omega)) | (refine CL.condT rfl ?_) | (refine CL.condF rfl ?_) | (refine CL.cond rfl (fun _ => ?_) (fun _ => ?_)) | (refine CL.block ?_) | (refine CL.exit ?_) | (refine Ex.then ?_) | (refine Ex.hit ?_) | (refine Ex.miss rfl ?_) | (refine CL.ret ?_) | (refine Rt.then ?_) | (refine Rt.block ?_) | (refine Pn.then ?_) | (refine Pn.block ?_) | (refine CL.done ?_) | (refine Nm.block ?_) | (refine Nm.then ?_) | (refine Gt.nil ?_; refine RW.nilw [0, 1, 2, 3, 5, 6, 8, 9, 10, 11, 12, 13, 14, 15, 16, 17, 19, 21, 41] ?_; dsimp only [H.keep, H.look, H.Fr.put, Nat.beq]) | (refine Gt.move ?_; refine RW.y (Y.move rfl) rfl ?_) | (refine Gt.guard ?_; first | (refine RW.part rfl rfl rfl (fun _ => ?_) (fun _ => ?_) <;> try (exfalso; omega)) | (refine RW.on rfl rfl rfl ?_) | (refine RW.off1 rfl rfl rfl rfl rfl ?_) | (refine RW.off rfl rfl rfl rfl rfl ?_) | (refine RW.offu rfl rfl rfl rfl ?_) | (refine RW.partb rfl rfl rfl (fun _ => ?_) (fun _ => ?_))) | (refine Gt.load ?_; first | (refine RW.y (Y.loadB rfl (by assumption) rfl) rfl ?_) | (refine RW.y (Y.loadBlock rfl (by assumption) rfl) rfl ?_)) | (refine Gt.assign ?_; refine RW.y (Y.assign rfl) rfl ?_) | (refine Gt.extract ?_; refine RW.y (Y.extract rfl rfl) rfl ?_) | (refine Gt.rem ?_; first | (refine RW.y (Y.remP rfl rfl (by omega) (by omega)) rfl ?_) | (refine RW.y (Y.rem rfl rfl (by omega)) rfl ?_)) | (refine Gt.pick ?_; first | (refine RW.y (Y.pickT rfl rfl) rfl ?_) | (refine RW.y (Y.pickF rfl rfl) rfl ?_)) | (refine Gt.idx ?_; first | (refine RW.y (Y.idxP rfl rfl (by omega) (by omega)) rfl ?_) | (refine RW.elemS rfl rfl rfl rfl (by assumption) (by omega) (by omega) ?_)) | (refine Gt.not ?_; first | (refine RW.y (Y.not rfl) rfl ?_) | (refine RW.y (Y.notb rfl) rfl ?_)) | (refine Gt.fieldAddr ?_; refine RW.y (Y.fieldAddr rfl (by rfl)) rfl ?_) | (refine Gt.convert ?_; first | (refine RW.y (Y.convN rfl (by first | exact wrap64_id (by omega) (by omega) | exact wrapu64_id (by omega) (by omega) | exact wrapu8_id (by omega) (by omega) | exact wrapu16_id (by omega) (by omega) | exact wrapu32_id (by omega) (by omega))) rfl ?_) | (refine RW.y (Y.convW rfl) rfl ?_)) | (refine Gt.slice ?_; refine RW.y (Y.cuth rfl rfl (by omega) (by omega)) rfl ?_) | (refine Gt.eql ?_; first | (refine RW.y (Y.eqi rfl rfl) rfl ?_) | (refine RW.y (Y.eqb rfl rfl) rfl ?_)) | (refine Gt.add ?_; refine RW.y (Y.cat rfl rfl (by first | omega | (simp only [List.length_append, List.length_cons, List.length_nil]; omega))) rfl ?_) | (refine RW.y (Y.build (ps := [(0, _), (1, _), (3, _)]) rfl rfl) rfl ?_) | (refine RW.y (Y.build (ps := [(0, _), (1, _)]) rfl rfl) rfl ?_))
      exact ⟨_, rfl, rfl, rfl, _, rfl, hb6, rfl, Sl.nil _ _, hk6⟩
    · repeat' (first | (refine CL.seq ?_) | (refine CL.region ?_) | (refine CL.skip ?_) | (refine CL.condP rfl (fun _ => ?_) (fun _ => ?_) <;> try (exfalso; omega)) | (refine CL.condT rfl ?_) | (refine CL.condF rfl ?_) | (refine CL.cond rfl (fun _ => ?_) (fun _ => ?_)) | (refine CL.block ?_) | (refine CL.exit ?_) | (refine Ex.then ?_) | (refine Ex.hit ?_) | (refine Ex.miss rfl ?_) | (refine CL.ret ?_) | (refine Rt.then ?_) | (refine Rt.block ?_) | (refine Pn.then ?_) | (refine Pn.block ?_) | (refine CL.done ?_) | (refine Nm.block ?_) | (refine Nm.then ?_) | (refine Gt.nil ?_; refine RW.nilw [0, 1, 2, 3, 5, 6, 8, 9, 10, 11, 12, 13, 14, 15, 16, 17, 19, 21, 41] ?_; dsimp only [H.keep, H.look, H.Fr.put, Nat.beq]) | (refine Gt.move ?_; refine RW.y (Y.move rfl) rfl ?_) | (refine Gt.guard ?_; first | (refine RW.part rfl rfl rfl (fun _ => ?_) (fun _ => ?_) <;> try (exfalso; omega)) | (refine RW.on rfl rfl rfl ?_) | (refine RW.off1 rfl rfl rfl rfl rfl ?_) | (refine RW.off rfl rfl rfl rfl rfl ?_) | (refine RW.offu rfl rfl rfl rfl ?_) | (refine RW.partb rfl rfl rfl (fun _ => ?_) (fun _ => ?_))) | (refine Gt.load ?_; first | (refine RW.y (Y.loadB rfl (by assumption) rfl) rfl ?_) | (refine RW.y (Y.loadBlock rfl (by assumption) rfl) rfl ?_)) | (refine Gt.assign ?_; refine RW.y (Y.assign rfl) rfl ?_) | (refine Gt.extract ?_; refine RW.y (Y.extract rfl rfl) rfl ?_) | (refine Gt.rem ?_; first | (refine RW.y (Y.remP rfl rfl (by omega) (by omega)) rfl ?_) | (refine RW.y (Y.rem rfl rfl (by omega)) rfl ?_)) | (refine Gt.pick ?_; first | (refine RW.y (Y.pickT rfl rfl) rfl ?_) | (refine RW.y (Y.pickF rfl rfl) rfl ?_)) | (refine Gt.idx ?_; first | (refine RW.y (Y.idxP rfl rfl (by omega) (by omega)) rfl ?_) | (refine RW.elemS rfl rfl rfl rfl (by assumption) (by omega) (by omega) ?_)) | (refine Gt.not ?_; first | (refine RW.y (Y.not rfl) rfl ?_) | (refine RW.y (Y.notb rfl) rfl ?_)) | (refine Gt.fieldAddr ?_; refine RW.y (Y.fieldAddr rfl (by rfl)) rfl ?_) | (refine Gt.convert ?_; first | (refine RW.y (Y.convN rfl (by first | exact wrap64_id (by omega) (by omega) | exact wrapu64_id (by omega) (by omega) | exact wrapu8_id (by omega) (by omega) | exact wrapu16_id (by omega) (by omega) | exact wrapu32_id (by omega) (by omega))) rfl ?_) | (refine RW.y (Y.convW rfl) rfl ?_)) | (refine Gt.slice ?_; refine RW.y (Y.cuth rfl rfl (by omega) (by omega)) rfl ?_) | (refine Gt.eql ?_; first | (refine RW.y (Y.eqi rfl rfl) rfl ?_) | (refine RW.y (Y.eqb rfl rfl) rfl ?_)) | (refine Gt.add ?_; refine RW.y (Y.cat rfl rfl (by first | omega | (simp only [List.length_append, List.length_cons, List.length_nil]; omega))) rfl ?_) | (refine RW.y (Y.build (ps := [(0, _), (1, _), (3, _)]) rfl rfl) rfl ?_) | (refine RW.y (Y.build (ps := [(0, _), (1, _)]) rfl rfl) rfl ?_))
      refine RW.buildL (ps := [(0, _)]) (l := [_]) rfl rfl rfl (fun v hv => by rw [List.mem_singleton.1 hv]; rfl) rfl rfl (fun w7 hb7 hk7 hlt7 => ?_)
      rw [hmk] at hb7
      have hs7 : Sl w7 1 (.slice (some ⟨w6.heap.size, 0, none⟩) 1 1) 1 (sv [mkS B1]) := sl_new hb7 rfl (by decide)
      repeat' (first | (refine CL.seq ?_) | (refine CL.region ?_) | (refine CL.skip ?_) | (refine CL.condP rfl (fun _ => ?_) (fun _ => ?_) <;> try (exfalso; omega)) | (refine CL.condT rfl ?_) | (refine CL.condF rfl ?_) | (refine CL.cond rfl (fun _ => ?_) (fun _ => ?_)) | (refine CL.block ?_) | (refine CL.exit ?_) | (refine Ex.then ?_) | (refine Ex.hit ?_) | (refine Ex.miss rfl ?_) | (refine CL.ret ?_) | (refine Rt.then ?_) | (refine Rt.block ?_) | (refine Pn.then ?_) | (refine Pn.block ?_) | (refine CL.done ?_) | (refine Nm.block ?_) | (refine Nm.then ?_) | (refine Gt.nil ?_; refine RW.nilw [0, 1, 2, 3, 5, 6, 8, 9, 10, 11, 12, 13, 14, 15, 16, 17, 19, 21, 41] ?_; dsimp only [H.keep, H.look, H.Fr.put, Nat.beq]) | (refine Gt.move ?_; refine RW.y (Y.move rfl) rfl ?_) | (refine Gt.guard ?_; first | (refine RW.part rfl rfl rfl (fun _ => ?_) (fun _ => ?_) <;> try (exfalso; omega)) | (refine RW.on rfl rfl rfl ?_) | (refine RW.off1 rfl rfl rfl rfl rfl ?_) | (refine RW.off rfl rfl rfl rfl rfl ?_) | (refine RW.offu rfl rfl rfl rfl ?_) | (refine RW.partb rfl rfl rfl (fun _ => ?_) (fun _ => ?_))) | (refine Gt.load ?_; first | (refine RW.y (Y.loadB rfl (by assumption) rfl) rfl ?_) | (refine RW.y (Y.loadBlock rfl (by assumption) rfl) rfl ?_)) | (refine Gt.assign ?_; refine RW.y (Y.assign rfl) rfl ?_) | (refine Gt.extract ?_; refine RW.y (Y.extract rfl rfl) rfl ?_) | (refine Gt.rem ?_; first | (refine RW.y (Y.remP rfl rfl (by omega) (by omega)) rfl ?_) | (refine RW.y (Y.rem rfl rfl (by omega)) rfl ?_)) | (refine Gt.pick ?_; first | (refine RW.y (Y.pickT rfl rfl) rfl ?_) | (refine RW.y (Y.pickF rfl rfl) rfl ?_)) | (refine Gt.idx ?_; first | (refine RW.y (Y.idxP rfl rfl (by omega) (by omega)) rfl ?_) | (refine RW.elemS rfl rfl rfl rfl (by assumption) (by omega) (by omega) ?_)) | (refine Gt.not ?_; first | (refine RW.y (Y.not rfl) rfl ?_) | (refine RW.y (Y.notb rfl) rfl ?_)) | (refine Gt.fieldAddr ?_; refine RW.y (Y.fieldAddr rfl (by rfl)) rfl ?_) | (refine Gt.convert ?_; first | (refine RW.y (Y.convN rfl (by first | exact wrap64_id (by omega) (by omega) | exact wrapu64_id (by omega) (by omega) | exact wrapu8_id (by omega) (by omega) | exact wrapu16_id (by omega) (by omega) | exact wrapu32_id (by omega) (by omega))) rfl ?_) | (refine RW.y (Y.convW rfl) rfl ?_)) | (refine Gt.slice ?_; refine RW.y (Y.cuth rfl rfl (by omega) (by omega)) rfl ?_) | (refine Gt.eql ?_; first | (refine RW.y (Y.eqi rfl rfl) rfl ?_) | (refine RW.y (Y.eqb rfl rfl) rfl ?_)) | (refine Gt.add ?_; refine RW.y (Y.cat rfl rfl (by first | omega | (simp only [List.length_append, List.length_cons, List.length_nil]; omega))) rfl ?_) | (refine RW.y (Y.build (ps := [(0, _), (1, _), (3, _)]) rfl rfl) rfl ?_) | (refine RW.y (Y.build (ps := [(0, _), (1, _)]) rfl rfl) rfl ?_))
      refine RW.storeB rfl rfl rfl (hk7.at0 hb6) (show (_ : Nat) < 4 from by decide) (fun w8 hb8 hk8 => ?_)
      repeat' (first | (refine CL.seq ?_) | (refine CL.region ?_) | (refine CL.skip ?_) | (refine CL.condP rfl (fun _ => ?_) (fun _ => ?_) <;> try (exfalso; omega)) | (refine CL.condT rfl ?_) | (refine CL.condF rfl ?_) | (refine CL.cond rfl (fun _ => ?_) (fun _ => ?_)) | (refine CL.block ?_) | (refine CL.exit ?_) | (refine Ex.then ?_) | (refine Ex.hit ?_) | (refine Ex.miss rfl ?_) | (refine CL.ret ?_) | (refine Rt.then ?_) | (refine Rt.block ?_) | (refine Pn.then ?_) | (refine Pn.block ?_) | (refine CL.done ?_) | (refine Nm.block ?_) | (refine Nm.then ?_) | (refine Gt.nil ?_; refine RW.nilw [0, 1, 2, 3, 5, 6, 8, 9, 10, 11, 12, 13, 14, 15, 16, 17, 19, 21, 41] ?_; dsimp only [H.keep, H.look, H.Fr.put, Nat.beq]) | (refine Gt.move ?_; refine RW.y (Y.move rfl) rfl ?_) | (refine Gt.guard ?_; first | (refine RW.part rfl rfl rfl (fun _ => ?_) (fun _ => ?_) <;> try (exfalso; omega)) | (refine RW.on rfl rfl rfl ?_) | (refine RW.off1 rfl rfl rfl rfl rfl ?_) | (refine RW.off rfl rfl rfl rfl rfl ?_) | (refine RW.offu rfl rfl rfl rfl ?_) | (refine RW.partb rfl rfl rfl (fun _ => ?_) (fun _ => ?_))) | (refine Gt.load ?_; first | (refine RW.y (Y.loadB rfl (by assumption) rfl) rfl ?_) | (refine RW.y (Y.loadBlock rfl (by assumption) rfl) rfl ?_)) | (refine Gt.assign ?_; refine RW.y (Y.assign rfl) rfl ?_) | (refine Gt.extract ?_; refine RW.y (Y.extract rfl rfl) rfl ?_) | (refine Gt.rem ?_; first | (refine RW.y (Y.remP rfl rfl (by omega) (by omega)) rfl ?_) | (refine RW.y (Y.rem rfl rfl (by omega)) rfl ?_)) | (refine Gt.pick ?_; first | (refine RW.y (Y.pickT rfl rfl) rfl ?_) | (refine RW.y (Y.pickF rfl rfl) rfl ?_)) | (refine Gt.idx ?_; first | (refine RW.y (Y.idxP rfl rfl (by omega) (by omega)) rfl ?_) | (refine RW.elemS rfl rfl rfl rfl (by assumption) (by omega) (by omega) ?_)) | (refine Gt.not ?_; first | (refine RW.y (Y.not rfl) rfl ?_) | (refine RW.y (Y.notb rfl) rfl ?_)) | (refine Gt.fieldAddr ?_; refine RW.y (Y.fieldAddr rfl (by rfl)) rfl ?_) | (refine Gt.convert ?_; first | (refine RW.y (Y.convN rfl (by first | exact wrap64_id (by omega) (by omega) | exact wrapu64_id (by omega) (by omega) | exact wrapu8_id (by omega) (by omega) | exact wrapu16_id (by omega) (by omega) | exact wrapu32_id (by omega) (by omega))) rfl ?_) | (refine RW.y (Y.convW rfl) rfl ?_)) | (refine Gt.slice ?_; refine RW.y (Y.cuth rfl rfl (by omega) (by omega)) rfl ?_) | (refine Gt.eql ?_; first | (refine RW.y (Y.eqi rfl rfl) rfl ?_) | (refine RW.y (Y.eqb rfl rfl) rfl ?_)) | (refine Gt.add ?_; refine RW.y (Y.cat rfl rfl (by first | omega | (simp only [List.length_append, List.length_cons, List.length_nil]; omega))) rfl ?_) | (refine RW.y (Y.build (ps := [(0, _), (1, _), (3, _)]) rfl rfl) rfl ?_) | (refine RW.y (Y.build (ps := [(0, _), (1, _)]) rfl rfl) rfl ?_))
      exact ⟨_, rfl, rfl, rfl, _, rfl, hb8, rfl, hs7.keep hk8 fun g hg c => by
        have c' : g = w5.heap.size := c
        have := live_own hg
        simp [Value.ownBlock] at this
        omega, (hk6.trans0 hk7).trans hk8 fun k h => .inr (by have h' : k = w5.heap.size := h; omega)⟩
  rintro vals w7 ⟨qB, rfl, hbB, hB1c, hsB, hk7⟩
  dsimp only [List.zip, List.zipWith]
  have hA7 := hk7.at0 hbA
  have hK7 := hK5.trans0 hk7
  have hgi := signsB_in (show G < 8 by omega)
  have hgl := signsB_len hgi
  have hgood := mV_good same (show B0 < 2 by omega) (show B1 < 4 by omega)
  have hpf : (mP same B1).length ≤ 1 ∧ ∀ s ∈ mP same B1, s.length ≤ 1 := by
    have := mkS_len (show B1 < 4 by omega)
    cases same
    · exact ⟨by simp [mP], by simp [mP]⟩
    · exact ⟨by simp [mP], fun s hs => by simp [mP] at hs; rw [hs]; omega⟩
  have hwf := mV_fit (show B0 < 2 by omega) hpf.1 hpf.2
  have hvf := mV_fit (p := [mkS A1]) (show A0 < 2 by omega) (by simp) (fun s hs => by rw [List.mem_singleton.1 hs]; have := mkS_len (show A1 < 4 by omega); omega)
  have hwt := textV_len hwf
  have hline := span_line (l := [(signsB.getD G [], mV B0 (mP same B1))]) (fun x hx => by rw [List.mem_singleton.1 hx]; exact ⟨hgi, hgood⟩) 0 0 (by simp) (by simp)
  have hlt : List.replicate 0 32 ++ (lineT [(signsB.getD G [], mV B0 (mP same B1))] ++ List.replicate 0 32) = signsB.getD G [] ++ textV (mV B0 (mP same B1)) := by
    rw [lineT, List.map_singleton, Go.Lib.join_one, wdT]; simp
  rw [hlt] at hline
  have hexp : [(signsB.getD G [], mV B0 (mP same B1))].flatMap wdE = expand (signsB.getD G []) (mV B0 (mP same B1)) := by simp [wdE]
  rw [hexp] at hline
  have hmh : hasB ⟨false, [expand (signsB.getD G []) (mV B0 (mP same B1))]⟩ (mV A0 [mkS A1]) = true → same = true ∧ A0 = B0 := marks_has (by omega) (by omega) (by omega) (by omega) (by omega)
  have fS := fitK hline
  have hwV : ∀ {w'}, K0 w7 w' → VerAt w' (.agg #[.int .i64 1, .int .i64 (B0 : Int), .int .i64 0, qB]) (mV B0 (mP same B1)) := fun h => ⟨qB, rfl, hsB.keep0 h⟩
  have hvV : ∀ {w'}, K0 w7 w' → VerAt w' (.agg #[.int .i64 1, .int .i64 (A0 : Int), .int .i64 0, qA]) (mV A0 [mkS A1]) := fun h => ⟨qA, rfl, (hsA.keep0 hk7).keep0 h⟩
  refine CL.seq ?_
  refine CL.cutS [3, 10, 11, 12] (fun vals wx => vals = [.bool same, .pointer (some ⟨gA, 0, none⟩), .pointer (some ⟨w5.heap.size, 0, none⟩), vs (signsB.getD G [] ++ textV (mV B0 (mP same B1)))] ∧ K0 w7 wx) (by simp) ?_ ?_
  · refine CL.draw (fun w' => K0 w7 w') (by kernel_rfl) (fun w8 hheap hk8 => ?_)
    have hS : K0 w7 w8 := hk8
    skip
    refine AW.take 1 rfl (by kernel_rfl) (by kernel_rfl) (by kernel_rfl) rfl (by assumption) (fun w hS => Y.move rfl) ?_
    refine AW.take 2 rfl (by kernel_rfl) (by kernel_rfl) (by kernel_rfl) rfl (by assumption) (fun w hS => by first | exact Y.remP rfl rfl (by omega) (by omega) | exact Y.rem rfl rfl (by omega)) ?_
    refine AW.take 5 rfl (by kernel_rfl) (by kernel_rfl) (by kernel_rfl) rfl (by assumption) (fun w hS => Y.loadBlock rfl (hS.at0 hbB) rfl) ?_
    refine AW.two 0 6 rfl rfl (by kernel_rfl) ?_ ?_
    · skip
      refine RW.buildL (ps := [(0, _), (1, _), (2, _), (3, _), (4, _), (5, _), (6, _), (7, _)]) (l := sv signsB) rfl rfl rfl text_cells rfl rfl (fun w9 hb9 hk9 hlt9 => ?_)
      have hsb : Sl w9 1 (.slice (some ⟨w8.heap.size, 0, none⟩) 8 8) signsB.length (sv signsB) := sl_new hb9 rfl (by decide)
      have hcb : ∀ {w' : World}, K0 w9 w' → w'.cell? (Value.spot (.slice (some ⟨w8.heap.size, 0, none⟩) 8 8) (((g0.toNat : Int) % 8).toNat * 1)) = some (vs (signsB.getD G [])) := fun h => by rw [eG, Int.toNat_natCast, Nat.mul_one]; exact (hsb.keep0 h).cell (sv_at (by omega))
      refine RW.nil (Nm.then (rebase0 hS hk9 fun hS => ?_))
      refine AW.take 3 rfl (by kernel_rfl) (by kernel_rfl) (by kernel_rfl) rfl (by assumption) (fun w hS => Y.idx rfl rfl (hsb.keep0 hS) (by omega) (by omega)) ?_
      refine AW.take 4 rfl (by kernel_rfl) (by kernel_rfl) (by kernel_rfl) rfl (by assumption) (fun w hS => Y.load1 rfl (hcb hS)) ?_
      refine AW.next 6 rfl (by kernel_rfl) ?_
      refine RW.fn rfl rfl ((refVText _ (mV B0 (mP same B1)) w9 (hwV (hk8.trans0 hk9)) hwf.fit hwf.2.1.2 hwf.2.2.1.2 hwf.2.2.2.2).mono ?_)
      rintro e w10 ⟨hk10, rfl⟩
      refine RW.nil (Nm.then (rebase0 hS hk10 fun hS => ?_))
      refine AW.take 7 rfl (by kernel_rfl) (by kernel_rfl) (by kernel_rfl) rfl (by assumption) (fun w hS => Y.cat rfl rfl (by omega)) ?_
      refine AW.take 8 rfl (by kernel_rfl) (by kernel_rfl) (by kernel_rfl) rfl (by assumption) (fun w hS => Y.assign rfl) ?_
      refine AW.donew [3, 10, 11, 12] (by kernel_rfl) ?_
      dsimp only [H.keep, H.look, H.Fr.put, Nat.beq]
      repeat' (first | (refine CL.seq ?_) | (refine CL.region ?_) | (refine CL.skip ?_) | (refine CL.condP rfl (fun _ => ?_) (fun _ => ?_) <;> try (exfalso; omega)) | (refine CL.condT rfl ?_) | (refine CL.condF rfl ?_) | (refine CL.cond rfl (fun _ => ?_) (fun _ => ?_)) | (refine CL.block ?_) | (refine CL.exit ?_) | (refine Ex.then ?_) | (refine Ex.hit ?_) | (refine Ex.miss rfl ?_) | (refine CL.ret ?_) | (refine Rt.then ?_) | (refine Rt.block ?_) | (refine Pn.then ?_) | (refine Pn.block ?_) | (refine CL.done ?_) | (refine Nm.block ?_) | (refine Nm.then ?_) | (refine Gt.nil ?_; refine RW.nilw [0, 1, 2, 3, 5, 6, 8, 9, 10, 11, 12, 13, 14, 15, 16, 17, 19, 21, 41] ?_; dsimp only [H.keep, H.look, H.Fr.put, Nat.beq]) | (refine Gt.move ?_; refine RW.y (Y.move rfl) rfl ?_) | (refine Gt.guard ?_; first | (refine RW.part rfl rfl rfl (fun _ => ?_) (fun _ => ?_) <;> try (exfalso; omega)) | (refine RW.on rfl rfl rfl ?_) | (refine RW.off1 rfl rfl rfl rfl rfl ?_) | (refine RW.off rfl rfl rfl rfl rfl ?_) | (refine RW.offu rfl rfl rfl rfl ?_) | (refine RW.partb rfl rfl rfl (fun _ => ?_) (fun _ => ?_))) | (refine Gt.load ?_; first | (refine RW.y (Y.loadB rfl (by assumption) rfl) rfl ?_) | (refine RW.y (Y.loadBlock rfl (by assumption) rfl) rfl ?_)) | (refine Gt.assign ?_; refine RW.y (Y.assign rfl) rfl ?_) | (refine Gt.extract ?_; refine RW.y (Y.extract rfl rfl) rfl ?_) | (refine Gt.rem ?_; first | (refine RW.y (Y.remP rfl rfl (by omega) (by omega)) rfl ?_) | (refine RW.y (Y.rem rfl rfl (by omega)) rfl ?_)) | (refine Gt.pick ?_; first | (refine RW.y (Y.pickT rfl rfl) rfl ?_) | (refine RW.y (Y.pickF rfl rfl) rfl ?_)) | (refine Gt.idx ?_; first | (refine RW.y (Y.idxP rfl rfl (by omega) (by omega)) rfl ?_) | (refine RW.elemS rfl rfl rfl rfl (by assumption) (by omega) (by omega) ?_)) | (refine Gt.not ?_; first | (refine RW.y (Y.not rfl) rfl ?_) | (refine RW.y (Y.notb rfl) rfl ?_)) | (refine Gt.fieldAddr ?_; refine RW.y (Y.fieldAddr rfl (by rfl)) rfl ?_) | (refine Gt.convert ?_; first | (refine RW.y (Y.convN rfl (by first | exact wrap64_id (by omega) (by omega) | exact wrapu64_id (by omega) (by omega) | exact wrapu8_id (by omega) (by omega) | exact wrapu16_id (by omega) (by omega) | exact wrapu32_id (by omega) (by omega))) rfl ?_) | (refine RW.y (Y.convW rfl) rfl ?_)) | (refine Gt.slice ?_; refine RW.y (Y.cuth rfl rfl (by omega) (by omega)) rfl ?_) | (refine Gt.eql ?_; first | (refine RW.y (Y.eqi rfl rfl) rfl ?_) | (refine RW.y (Y.eqb rfl rfl) rfl ?_)) | (refine Gt.add ?_; refine RW.y (Y.cat rfl rfl (by first | omega | (simp only [List.length_append, List.length_cons, List.length_nil]; omega))) rfl ?_) | (refine RW.y (Y.build (ps := [(0, _), (1, _), (3, _)]) rfl rfl) rfl ?_) | (refine RW.y (Y.build (ps := [(0, _), (1, _)]) rfl rfl) rfl ?_))
      exact ⟨_, rfl, rfl, rfl, rfl, (hk8.trans0 hk9).trans0 hk10⟩
    · skip
      refine RW.fn rfl rfl ((refVText _ (mV B0 (mP same B1)) w8 (hwV hk8) hwf.fit hwf.2.1.2 hwf.2.2.1.2 hwf.2.2.2.2).mono ?_)
      rintro e w9 ⟨hk9, rfl⟩
      refine RW.nil (Nm.then (rebase0 hS hk9 fun hS => ?_))
      skip
      refine AW.next 0 rfl (by kernel_rfl) ?_
      refine RW.buildL (ps := [(0, _), (1, _), (2, _), (3, _), (4, _), (5, _), (6, _), (7, _)]) (l := sv signsB) rfl rfl rfl text_cells rfl rfl (fun w10 hb10 hk10 hlt10 => ?_)
      have hsb : Sl w10 1 (.slice (some ⟨w9.heap.size, 0, none⟩) 8 8) signsB.length (sv signsB) := sl_new hb10 rfl (by decide)
      have hcb : ∀ {w' : World}, K0 w10 w' → w'.cell? (Value.spot (.slice (some ⟨w9.heap.size, 0, none⟩) 8 8) (((g0.toNat : Int) % 8).toNat * 1)) = some (vs (signsB.getD G [])) := fun h => by rw [eG, Int.toNat_natCast, Nat.mul_one]; exact (hsb.keep0 h).cell (sv_at (by omega))
      refine RW.nil (Nm.then (rebase0 hS hk10 fun hS => ?_))
      refine AW.take 3 rfl (by kernel_rfl) (by kernel_rfl) (by kernel_rfl) rfl (by assumption) (fun w hS => Y.idx rfl rfl (hsb.keep0 hS) (by omega) (by omega)) ?_
      refine AW.take 4 rfl (by kernel_rfl) (by kernel_rfl) (by kernel_rfl) rfl (by assumption) (fun w hS => Y.load1 rfl (hcb hS)) ?_
      refine AW.take 7 rfl (by kernel_rfl) (by kernel_rfl) (by kernel_rfl) rfl (by assumption) (fun w hS => Y.cat rfl rfl (by omega)) ?_
      refine AW.take 8 rfl (by kernel_rfl) (by kernel_rfl) (by kernel_rfl) rfl (by assumption) (fun w hS => Y.assign rfl) ?_
      refine AW.donew [3, 10, 11, 12] (by kernel_rfl) ?_
      dsimp only [H.keep, H.look, H.Fr.put, Nat.beq]
      repeat' (first | (refine CL.seq ?_) | (refine CL.region ?_) | (refine CL.skip ?_) | (refine CL.condP rfl (fun _ => ?_) (fun _ => ?_) <;> try (exfalso; omega)) | (refine CL.condT rfl ?_) | (refine CL.condF rfl ?_) | (refine CL.cond rfl (fun _ => ?_) (fun _ => ?_)) | (refine CL.block ?_) | (refine CL.exit ?_) | (refine Ex.then ?_) | (refine Ex.hit ?_) | (refine Ex.miss rfl ?_) | (refine CL.ret ?_) | (refine Rt.then ?_) | (refine Rt.block ?_) | (refine Pn.then ?_) | (refine Pn.block ?_) | (refine CL.done ?_) | (refine Nm.block ?_) | (refine Nm.then ?_) | (refine Gt.nil ?_; refine RW.nilw [0, 1, 2, 3, 5, 6, 8, 9, 10, 11, 12, 13, 14, 15, 16, 17, 19, 21, 41] ?_; dsimp only [H.keep, H.look, H.Fr.put, Nat.beq]) | (refine Gt.move ?_; refine RW.y (Y.move rfl) rfl ?_) | (refine Gt.guard ?_; first | (refine RW.part rfl rfl rfl (fun _ => ?_) (fun _ => ?_) <;> try (exfalso; omega)) | (refine RW.on rfl rfl rfl ?_) | (refine RW.off1 rfl rfl rfl rfl rfl ?_) | (refine RW.off rfl rfl rfl rfl rfl ?_) | (refine RW.offu rfl rfl rfl rfl ?_) | (refine RW.partb rfl rfl rfl (fun _ => ?_) (fun _ => ?_))) | (refine Gt.load ?_; first | (refine RW.y (Y.loadB rfl (by assumption) rfl) rfl ?_) | (refine RW.y (Y.loadBlock rfl (by assumption) rfl) rfl ?_)) | (refine Gt.assign ?_; refine RW.y (Y.assign rfl) rfl ?_) | (refine Gt.extract ?_; refine RW.y (Y.extract rfl rfl) rfl ?_) | (refine Gt.rem ?_; first | (refine RW.y (Y.remP rfl rfl (by omega) (by omega)) rfl ?_) | (refine RW.y (Y.rem rfl rfl (by omega)) rfl ?_)) | (refine Gt.pick ?_; first | (refine RW.y (Y.pickT rfl rfl) rfl ?_) | (refine RW.y (Y.pickF rfl rfl) rfl ?_)) | (refine Gt.idx ?_; first | (refine RW.y (Y.idxP rfl rfl (by omega) (by omega)) rfl ?_) | (refine RW.elemS rfl rfl rfl rfl (by assumption) (by omega) (by omega) ?_)) | (refine Gt.not ?_; first | (refine RW.y (Y.not rfl) rfl ?_) | (refine RW.y (Y.notb rfl) rfl ?_)) | (refine Gt.fieldAddr ?_; refine RW.y (Y.fieldAddr rfl (by rfl)) rfl ?_) | (refine Gt.convert ?_; first | (refine RW.y (Y.convN rfl (by first | exact wrap64_id (by omega) (by omega) | exact wrapu64_id (by omega) (by omega) | exact wrapu8_id (by omega) (by omega) | exact wrapu16_id (by omega) (by omega) | exact wrapu32_id (by omega) (by omega))) rfl ?_) | (refine RW.y (Y.convW rfl) rfl ?_)) | (refine Gt.slice ?_; refine RW.y (Y.cuth rfl rfl (by omega) (by omega)) rfl ?_) | (refine Gt.eql ?_; first | (refine RW.y (Y.eqi rfl rfl) rfl ?_) | (refine RW.y (Y.eqb rfl rfl) rfl ?_)) | (refine Gt.add ?_; refine RW.y (Y.cat rfl rfl (by first | omega | (simp only [List.length_append, List.length_cons, List.length_nil]; omega))) rfl ?_) | (refine RW.y (Y.build (ps := [(0, _), (1, _), (3, _)]) rfl rfl) rfl ?_) | (refine RW.y (Y.build (ps := [(0, _), (1, _)]) rfl rfl) rfl ?_))
      exact ⟨_, rfl, rfl, rfl, rfl, (hk8.trans0 hk9).trans0 hk10⟩
  rintro vals w8 ⟨rfl, hk8⟩
  dsimp only [List.zip, List.zipWith]
  have hK8 := hK7.trans0 hk8
  repeat' (first | (refine CL.seq ?_) | (refine CL.region ?_) | (refine CL.skip ?_) | (refine CL.condP rfl (fun _ => ?_) (fun _ => ?_) <;> try (exfalso; omega)) | (refine CL.condT rfl ?_) | (refine CL.condF rfl ?_) | (refine CL.cond rfl (fun _ => ?_) (fun _ => ?_)) | (refine CL.block ?_) | (refine CL.exit ?_) | (refine Ex.then ?_) | (refine Ex.hit ?_) | (refine Ex.miss rfl ?_) | (refine CL.ret ?_) | (refine Rt.then ?_) | (refine Rt.block ?_) | (refine Pn.then ?_) | (refine Pn.block ?_) | (refine CL.done ?_) | (refine Nm.block ?_) | (refine Nm.then ?_) | (refine Gt.nil ?_; refine RW.nilw [0, 1, 2, 3, 5, 6, 8, 9, 10, 11, 12, 13, 14, 15, 16, 17, 19, 21, 41] ?_; dsimp only [H.keep, H.look, H.Fr.put, Nat.beq]) | (refine Gt.move ?_; refine RW.y (Y.move rfl) rfl ?_) | (refine Gt.guard ?_; first | (refine RW.part rfl rfl rfl (fun _ => ?_) (fun _ => ?_) <;> try (exfalso; omega)) | (refine RW.on rfl rfl rfl ?_) | (refine RW.off1 rfl rfl rfl rfl rfl ?_) | (refine RW.off rfl rfl rfl rfl rfl ?_) | (refine RW.offu rfl rfl rfl rfl ?_) | (refine RW.partb rfl rfl rfl (fun _ => ?_) (fun _ => ?_))) | (refine Gt.load ?_; first | (refine RW.y (Y.loadB rfl (by assumption) rfl) rfl ?_) | (refine RW.y (Y.loadBlock rfl (by assumption) rfl) rfl ?_)) | (refine Gt.assign ?_; refine RW.y (Y.assign rfl) rfl ?_) | (refine Gt.extract ?_; refine RW.y (Y.extract rfl rfl) rfl ?_) | (refine Gt.rem ?_; first | (refine RW.y (Y.remP rfl rfl (by omega) (by omega)) rfl ?_) | (refine RW.y (Y.rem rfl rfl (by omega)) rfl ?_)) | (refine Gt.pick ?_; first | (refine RW.y (Y.pickT rfl rfl) rfl ?_) | (refine RW.y (Y.pickF rfl rfl) rfl ?_)) | (refine Gt.idx ?_; first | (refine RW.y (Y.idxP rfl rfl (by omega) (by omega)) rfl ?_) | (refine RW.elemS rfl rfl rfl rfl (by assumption) (by omega) (by omega) ?_)) | (refine Gt.not ?_; first | (refine RW.y (Y.not rfl) rfl ?_) | (refine RW.y (Y.notb rfl) rfl ?_)) | (refine Gt.fieldAddr ?_; refine RW.y (Y.fieldAddr rfl (by rfl)) rfl ?_) | (refine Gt.convert ?_; first | (refine RW.y (Y.convN rfl (by first | exact wrap64_id (by omega) (by omega) | exact wrapu64_id (by omega) (by omega) | exact wrapu8_id (by omega) (by omega) | exact wrapu16_id (by omega) (by omega) | exact wrapu32_id (by omega) (by omega))) rfl ?_) | (refine RW.y (Y.convW rfl) rfl ?_)) | (refine Gt.slice ?_; refine RW.y (Y.cuth rfl rfl (by omega) (by omega)) rfl ?_) | (refine Gt.eql ?_; first | (refine RW.y (Y.eqi rfl rfl) rfl ?_) | (refine RW.y (Y.eqb rfl rfl) rfl ?_)) | (refine Gt.add ?_; refine RW.y (Y.cat rfl rfl (by first | omega | (simp only [List.length_append, List.length_cons, List.length_nil]; omega))) rfl ?_) | (refine RW.y (Y.build (ps := [(0, _), (1, _), (3, _)]) rfl rfl) rfl ?_) | (refine RW.y (Y.build (ps := [(0, _), (1, _)]) rfl rfl) rfl ?_))
  refine RW.fn rfl rfl ((parseK hline (by rw [List.length_append]; omega) w8 (hM.keep0 hK8)).mono ?_)
  rintro e w9 ⟨hk9, p9, rfl, ho9, hs9⟩
  repeat' (first | (refine CL.seq ?_) | (refine CL.region ?_) | (refine CL.skip ?_) | (refine CL.condP rfl (fun _ => ?_) (fun _ => ?_) <;> try (exfalso; omega)) | (refine CL.condT rfl ?_) | (refine CL.condF rfl ?_) | (refine CL.cond rfl (fun _ => ?_) (fun _ => ?_)) | (refine CL.block ?_) | (refine CL.exit ?_) | (refine Ex.then ?_) | (refine Ex.hit ?_) | (refine Ex.miss rfl ?_) | (refine CL.ret ?_) | (refine Rt.then ?_) | (refine Rt.block ?_) | (refine Pn.then ?_) | (refine Pn.block ?_) | (refine CL.done ?_) | (refine Nm.block ?_) | (refine Nm.then ?_) | (refine Gt.nil ?_; refine RW.nilw [0, 1, 2, 3, 5, 6, 8, 9, 10, 11, 12, 13, 14, 15, 16, 17, 19, 21, 41] ?_; dsimp only [H.keep, H.look, H.Fr.put, Nat.beq]) | (refine Gt.move ?_; refine RW.y (Y.move rfl) rfl ?_) | (refine Gt.guard ?_; first | (refine RW.part rfl rfl rfl (fun _ => ?_) (fun _ => ?_) <;> try (exfalso; omega)) | (refine RW.on rfl rfl rfl ?_) | (refine RW.off1 rfl rfl rfl rfl rfl ?_) | (refine RW.off rfl rfl rfl rfl rfl ?_) | (refine RW.offu rfl rfl rfl rfl ?_) | (refine RW.partb rfl rfl rfl (fun _ => ?_) (fun _ => ?_))) | (refine Gt.load ?_; first | (refine RW.y (Y.loadB rfl (by assumption) rfl) rfl ?_) | (refine RW.y (Y.loadBlock rfl (by assumption) rfl) rfl ?_)) | (refine Gt.assign ?_; refine RW.y (Y.assign rfl) rfl ?_) | (refine Gt.extract ?_; refine RW.y (Y.extract rfl rfl) rfl ?_) | (refine Gt.rem ?_; first | (refine RW.y (Y.remP rfl rfl (by omega) (by omega)) rfl ?_) | (refine RW.y (Y.rem rfl rfl (by omega)) rfl ?_)) | (refine Gt.pick ?_; first | (refine RW.y (Y.pickT rfl rfl) rfl ?_) | (refine RW.y (Y.pickF rfl rfl) rfl ?_)) | (refine Gt.idx ?_; first | (refine RW.y (Y.idxP rfl rfl (by omega) (by omega)) rfl ?_) | (refine RW.elemS rfl rfl rfl rfl (by assumption) (by omega) (by omega) ?_)) | (refine Gt.not ?_; first | (refine RW.y (Y.not rfl) rfl ?_) | (refine RW.y (Y.notb rfl) rfl ?_)) | (refine Gt.fieldAddr ?_; refine RW.y (Y.fieldAddr rfl (by rfl)) rfl ?_) | (refine Gt.convert ?_; first | (refine RW.y (Y.convN rfl (by first | exact wrap64_id (by omega) (by omega) | exact wrapu64_id (by omega) (by omega) | exact wrapu8_id (by omega) (by omega) | exact wrapu16_id (by omega) (by omega) | exact wrapu32_id (by omega) (by omega))) rfl ?_) | (refine RW.y (Y.convW rfl) rfl ?_)) | (refine Gt.slice ?_; refine RW.y (Y.cuth rfl rfl (by omega) (by omega)) rfl ?_) | (refine Gt.eql ?_; first | (refine RW.y (Y.eqi rfl rfl) rfl ?_) | (refine RW.y (Y.eqb rfl rfl) rfl ?_)) | (refine Gt.add ?_; refine RW.y (Y.cat rfl rfl (by first | omega | (simp only [List.length_append, List.length_cons, List.length_nil]; omega))) rfl ?_) | (refine RW.y (Y.build (ps := [(0, _), (1, _), (3, _)]) rfl rfl) rfl ?_) | (refine RW.y (Y.build (ps := [(0, _), (1, _)]) rfl rfl) rfl ?_))
  refine RW.varN rfl rfl rfl (spnCells ho9) rfl (fun w10 hb10 hk10 hlt10 => ?_)
  repeat' (first | (refine CL.seq ?_) | (refine CL.region ?_) | (refine CL.skip ?_) | (refine CL.condP rfl (fun _ => ?_) (fun _ => ?_) <;> try (exfalso; omega)) | (refine CL.condT rfl ?_) | (refine CL.condF rfl ?_) | (refine CL.cond rfl (fun _ => ?_) (fun _ => ?_)) | (refine CL.block ?_) | (refine CL.exit ?_) | (refine Ex.then ?_) | (refine Ex.hit ?_) | (refine Ex.miss rfl ?_) | (refine CL.ret ?_) | (refine Rt.then ?_) | (refine Rt.block ?_) | (refine Pn.then ?_) | (refine Pn.block ?_) | (refine CL.done ?_) | (refine Nm.block ?_) | (refine Nm.then ?_) | (refine Gt.nil ?_; refine RW.nilw [0, 1, 2, 3, 5, 6, 8, 9, 10, 11, 12, 13, 14, 15, 16, 17, 19, 21, 41] ?_; dsimp only [H.keep, H.look, H.Fr.put, Nat.beq]) | (refine Gt.move ?_; refine RW.y (Y.move rfl) rfl ?_) | (refine Gt.guard ?_; first | (refine RW.part rfl rfl rfl (fun _ => ?_) (fun _ => ?_) <;> try (exfalso; omega)) | (refine RW.on rfl rfl rfl ?_) | (refine RW.off1 rfl rfl rfl rfl rfl ?_) | (refine RW.off rfl rfl rfl rfl rfl ?_) | (refine RW.offu rfl rfl rfl rfl ?_) | (refine RW.partb rfl rfl rfl (fun _ => ?_) (fun _ => ?_))) | (refine Gt.load ?_; first | (refine RW.y (Y.loadB rfl (by assumption) rfl) rfl ?_) | (refine RW.y (Y.loadBlock rfl (by assumption) rfl) rfl ?_)) | (refine Gt.assign ?_; refine RW.y (Y.assign rfl) rfl ?_) | (refine Gt.extract ?_; refine RW.y (Y.extract rfl rfl) rfl ?_) | (refine Gt.rem ?_; first | (refine RW.y (Y.remP rfl rfl (by omega) (by omega)) rfl ?_) | (refine RW.y (Y.rem rfl rfl (by omega)) rfl ?_)) | (refine Gt.pick ?_; first | (refine RW.y (Y.pickT rfl rfl) rfl ?_) | (refine RW.y (Y.pickF rfl rfl) rfl ?_)) | (refine Gt.idx ?_; first | (refine RW.y (Y.idxP rfl rfl (by omega) (by omega)) rfl ?_) | (refine RW.elemS rfl rfl rfl rfl (by assumption) (by omega) (by omega) ?_)) | (refine Gt.not ?_; first | (refine RW.y (Y.not rfl) rfl ?_) | (refine RW.y (Y.notb rfl) rfl ?_)) | (refine Gt.fieldAddr ?_; refine RW.y (Y.fieldAddr rfl (by rfl)) rfl ?_) | (refine Gt.convert ?_; first | (refine RW.y (Y.convN rfl (by first | exact wrap64_id (by omega) (by omega) | exact wrapu64_id (by omega) (by omega) | exact wrapu8_id (by omega) (by omega) | exact wrapu16_id (by omega) (by omega) | exact wrapu32_id (by omega) (by omega))) rfl ?_) | (refine RW.y (Y.convW rfl) rfl ?_)) | (refine Gt.slice ?_; refine RW.y (Y.cuth rfl rfl (by omega) (by omega)) rfl ?_) | (refine Gt.eql ?_; first | (refine RW.y (Y.eqi rfl rfl) rfl ?_) | (refine RW.y (Y.eqb rfl rfl) rfl ?_)) | (refine Gt.add ?_; refine RW.y (Y.cat rfl rfl (by first | omega | (simp only [List.length_append, List.length_cons, List.length_nil]; omega))) rfl ?_) | (refine RW.y (Y.build (ps := [(0, _), (1, _), (3, _)]) rfl rfl) rfl ?_) | (refine RW.y (Y.build (ps := [(0, _), (1, _)]) rfl rfl) rfl ?_))
  refine RW.fn rfl rfl ((refSpanK hline (by rw [List.length_append]; omega) w10).mono ?_)
  rintro e w11 ⟨hk11, p11, rfl, ho11, hs11⟩
  repeat' (first | (refine CL.seq ?_) | (refine CL.region ?_) | (refine CL.skip ?_) | (refine CL.condP rfl (fun _ => ?_) (fun _ => ?_) <;> try (exfalso; omega)) | (refine CL.condT rfl ?_) | (refine CL.condF rfl ?_) | (refine CL.cond rfl (fun _ => ?_) (fun _ => ?_)) | (refine CL.block ?_) | (refine CL.exit ?_) | (refine Ex.then ?_) | (refine Ex.hit ?_) | (refine Ex.miss rfl ?_) | (refine CL.ret ?_) | (refine Rt.then ?_) | (refine Rt.block ?_) | (refine Pn.then ?_) | (refine Pn.block ?_) | (refine CL.done ?_) | (refine Nm.block ?_) | (refine Nm.then ?_) | (refine Gt.nil ?_; refine RW.nilw [0, 1, 2, 3, 5, 6, 8, 9, 10, 11, 12, 13, 14, 15, 16, 17, 19, 21, 41] ?_; dsimp only [H.keep, H.look, H.Fr.put, Nat.beq]) | (refine Gt.move ?_; refine RW.y (Y.move rfl) rfl ?_) | (refine Gt.guard ?_; first | (refine RW.part rfl rfl rfl (fun _ => ?_) (fun _ => ?_) <;> try (exfalso; omega)) | (refine RW.on rfl rfl rfl ?_) | (refine RW.off1 rfl rfl rfl rfl rfl ?_) | (refine RW.off rfl rfl rfl rfl rfl ?_) | (refine RW.offu rfl rfl rfl rfl ?_) | (refine RW.partb rfl rfl rfl (fun _ => ?_) (fun _ => ?_))) | (refine Gt.load ?_; first | (refine RW.y (Y.loadB rfl (by assumption) rfl) rfl ?_) | (refine RW.y (Y.loadBlock rfl (by assumption) rfl) rfl ?_)) | (refine Gt.assign ?_; refine RW.y (Y.assign rfl) rfl ?_) | (refine Gt.extract ?_; refine RW.y (Y.extract rfl rfl) rfl ?_) | (refine Gt.rem ?_; first | (refine RW.y (Y.remP rfl rfl (by omega) (by omega)) rfl ?_) | (refine RW.y (Y.rem rfl rfl (by omega)) rfl ?_)) | (refine Gt.pick ?_; first | (refine RW.y (Y.pickT rfl rfl) rfl ?_) | (refine RW.y (Y.pickF rfl rfl) rfl ?_)) | (refine Gt.idx ?_; first | (refine RW.y (Y.idxP rfl rfl (by omega) (by omega)) rfl ?_) | (refine RW.elemS rfl rfl rfl rfl (by assumption) (by omega) (by omega) ?_)) | (refine Gt.not ?_; first | (refine RW.y (Y.not rfl) rfl ?_) | (refine RW.y (Y.notb rfl) rfl ?_)) | (refine Gt.fieldAddr ?_; refine RW.y (Y.fieldAddr rfl (by rfl)) rfl ?_) | (refine Gt.convert ?_; first | (refine RW.y (Y.convN rfl (by first | exact wrap64_id (by omega) (by omega) | exact wrapu64_id (by omega) (by omega) | exact wrapu8_id (by omega) (by omega) | exact wrapu16_id (by omega) (by omega) | exact wrapu32_id (by omega) (by omega))) rfl ?_) | (refine RW.y (Y.convW rfl) rfl ?_)) | (refine Gt.slice ?_; refine RW.y (Y.cuth rfl rfl (by omega) (by omega)) rfl ?_) | (refine Gt.eql ?_; first | (refine RW.y (Y.eqi rfl rfl) rfl ?_) | (refine RW.y (Y.eqb rfl rfl) rfl ?_)) | (refine Gt.add ?_; refine RW.y (Y.cat rfl rfl (by first | omega | (simp only [List.length_append, List.length_cons, List.length_nil]; omega))) rfl ?_) | (refine RW.y (Y.build (ps := [(0, _), (1, _), (3, _)]) rfl rfl) rfl ?_) | (refine RW.y (Y.build (ps := [(0, _), (1, _)]) rfl rfl) rfl ?_))
  refine RW.varN rfl rfl rfl (spnCells ho11) rfl (fun w12 hb12 hk12 hlt12 => ?_)
  have hK12 := (((hK8.trans0 hk9).trans0 hk10).trans0 hk11).trans0 hk12
  repeat' (first | (refine CL.seq ?_) | (refine CL.region ?_) | (refine CL.skip ?_) | (refine CL.condP rfl (fun _ => ?_) (fun _ => ?_) <;> try (exfalso; omega)) | (refine CL.condT rfl ?_) | (refine CL.condF rfl ?_) | (refine CL.cond rfl (fun _ => ?_) (fun _ => ?_)) | (refine CL.block ?_) | (refine CL.exit ?_) | (refine Ex.then ?_) | (refine Ex.hit ?_) | (refine Ex.miss rfl ?_) | (refine CL.ret ?_) | (refine Rt.then ?_) | (refine Rt.block ?_) | (refine Pn.then ?_) | (refine Pn.block ?_) | (refine CL.done ?_) | (refine Nm.block ?_) | (refine Nm.then ?_) | (refine Gt.nil ?_; refine RW.nilw [0, 1, 2, 3, 5, 6, 8, 9, 10, 11, 12, 13, 14, 15, 16, 17, 19, 21, 41] ?_; dsimp only [H.keep, H.look, H.Fr.put, Nat.beq]) | (refine Gt.move ?_; refine RW.y (Y.move rfl) rfl ?_) | (refine Gt.guard ?_; first | (refine RW.part rfl rfl rfl (fun _ => ?_) (fun _ => ?_) <;> try (exfalso; omega)) | (refine RW.on rfl rfl rfl ?_) | (refine RW.off1 rfl rfl rfl rfl rfl ?_) | (refine RW.off rfl rfl rfl rfl rfl ?_) | (refine RW.offu rfl rfl rfl rfl ?_) | (refine RW.partb rfl rfl rfl (fun _ => ?_) (fun _ => ?_))) | (refine Gt.load ?_; first | (refine RW.y (Y.loadB rfl (by assumption) rfl) rfl ?_) | (refine RW.y (Y.loadBlock rfl (by assumption) rfl) rfl ?_)) | (refine Gt.assign ?_; refine RW.y (Y.assign rfl) rfl ?_) | (refine Gt.extract ?_; refine RW.y (Y.extract rfl rfl) rfl ?_) | (refine Gt.rem ?_; first | (refine RW.y (Y.remP rfl rfl (by omega) (by omega)) rfl ?_) | (refine RW.y (Y.rem rfl rfl (by omega)) rfl ?_)) | (refine Gt.pick ?_; first | (refine RW.y (Y.pickT rfl rfl) rfl ?_) | (refine RW.y (Y.pickF rfl rfl) rfl ?_)) | (refine Gt.idx ?_; first | (refine RW.y (Y.idxP rfl rfl (by omega) (by omega)) rfl ?_) | (refine RW.elemS rfl rfl rfl rfl (by assumption) (by omega) (by omega) ?_)) | (refine Gt.not ?_; first | (refine RW.y (Y.not rfl) rfl ?_) | (refine RW.y (Y.notb rfl) rfl ?_)) | (refine Gt.fieldAddr ?_; refine RW.y (Y.fieldAddr rfl (by rfl)) rfl ?_) | (refine Gt.convert ?_; first | (refine RW.y (Y.convN rfl (by first | exact wrap64_id (by omega) (by omega) | exact wrapu64_id (by omega) (by omega) | exact wrapu8_id (by omega) (by omega) | exact wrapu16_id (by omega) (by omega) | exact wrapu32_id (by omega) (by omega))) rfl ?_) | (refine RW.y (Y.convW rfl) rfl ?_)) | (refine Gt.slice ?_; refine RW.y (Y.cuth rfl rfl (by omega) (by omega)) rfl ?_) | (refine Gt.eql ?_; first | (refine RW.y (Y.eqi rfl rfl) rfl ?_) | (refine RW.y (Y.eqb rfl rfl) rfl ?_)) | (refine Gt.add ?_; refine RW.y (Y.cat rfl rfl (by first | omega | (simp only [List.length_append, List.length_cons, List.length_nil]; omega))) rfl ?_) | (refine RW.y (Y.build (ps := [(0, _), (1, _), (3, _)]) rfl rfl) rfl ?_) | (refine RW.y (Y.build (ps := [(0, _), (1, _)]) rfl rfl) rfl ?_))
  refine RW.fn rfl rfl ((parseK (t := [42]) (s := ⟨true, []⟩) rfl (by decide) w12 (hM.keep0 hK12)).mono ?_)
  rintro e w13 ⟨hk13, p13, rfl, ho13, hs13⟩
  have fA := fitK (t := [42]) (s := ⟨true, []⟩) rfl
  repeat' (first | (refine CL.seq ?_) | (refine CL.region ?_) | (refine CL.skip ?_) | (refine CL.condP rfl (fun _ => ?_) (fun _ => ?_) <;> try (exfalso; omega)) | (refine CL.condT rfl ?_) | (refine CL.condF rfl ?_) | (refine CL.cond rfl (fun _ => ?_) (fun _ => ?_)) | (refine CL.block ?_) | (refine CL.exit ?_) | (refine Ex.then ?_) | (refine Ex.hit ?_) | (refine Ex.miss rfl ?_) | (refine CL.ret ?_) | (refine Rt.then ?_) | (refine Rt.block ?_) | (refine Pn.then ?_) | (refine Pn.block ?_) | (refine CL.done ?_) | (refine Nm.block ?_) | (refine Nm.then ?_) | (refine Gt.nil ?_; refine RW.nilw [0, 1, 2, 3, 5, 6, 8, 9, 10, 11, 12, 13, 14, 15, 16, 17, 19, 21, 41] ?_; dsimp only [H.keep, H.look, H.Fr.put, Nat.beq]) | (refine Gt.move ?_; refine RW.y (Y.move rfl) rfl ?_) | (refine Gt.guard ?_; first | (refine RW.part rfl rfl rfl (fun _ => ?_) (fun _ => ?_) <;> try (exfalso; omega)) | (refine RW.on rfl rfl rfl ?_) | (refine RW.off1 rfl rfl rfl rfl rfl ?_) | (refine RW.off rfl rfl rfl rfl rfl ?_) | (refine RW.offu rfl rfl rfl rfl ?_) | (refine RW.partb rfl rfl rfl (fun _ => ?_) (fun _ => ?_))) | (refine Gt.load ?_; first | (refine RW.y (Y.loadB rfl (by assumption) rfl) rfl ?_) | (refine RW.y (Y.loadBlock rfl (by assumption) rfl) rfl ?_)) | (refine Gt.assign ?_; refine RW.y (Y.assign rfl) rfl ?_) | (refine Gt.extract ?_; refine RW.y (Y.extract rfl rfl) rfl ?_) | (refine Gt.rem ?_; first | (refine RW.y (Y.remP rfl rfl (by omega) (by omega)) rfl ?_) | (refine RW.y (Y.rem rfl rfl (by omega)) rfl ?_)) | (refine Gt.pick ?_; first | (refine RW.y (Y.pickT rfl rfl) rfl ?_) | (refine RW.y (Y.pickF rfl rfl) rfl ?_)) | (refine Gt.idx ?_; first | (refine RW.y (Y.idxP rfl rfl (by omega) (by omega)) rfl ?_) | (refine RW.elemS rfl rfl rfl rfl (by assumption) (by omega) (by omega) ?_)) | (refine Gt.not ?_; first | (refine RW.y (Y.not rfl) rfl ?_) | (refine RW.y (Y.notb rfl) rfl ?_)) | (refine Gt.fieldAddr ?_; refine RW.y (Y.fieldAddr rfl (by rfl)) rfl ?_) | (refine Gt.convert ?_; first | (refine RW.y (Y.convN rfl (by first | exact wrap64_id (by omega) (by omega) | exact wrapu64_id (by omega) (by omega) | exact wrapu8_id (by omega) (by omega) | exact wrapu16_id (by omega) (by omega) | exact wrapu32_id (by omega) (by omega))) rfl ?_) | (refine RW.y (Y.convW rfl) rfl ?_)) | (refine Gt.slice ?_; refine RW.y (Y.cuth rfl rfl (by omega) (by omega)) rfl ?_) | (refine Gt.eql ?_; first | (refine RW.y (Y.eqi rfl rfl) rfl ?_) | (refine RW.y (Y.eqb rfl rfl) rfl ?_)) | (refine Gt.add ?_; refine RW.y (Y.cat rfl rfl (by first | omega | (simp only [List.length_append, List.length_cons, List.length_nil]; omega))) rfl ?_) | (refine RW.y (Y.build (ps := [(0, _), (1, _), (3, _)]) rfl rfl) rfl ?_) | (refine RW.y (Y.build (ps := [(0, _), (1, _)]) rfl rfl) rfl ?_))
  refine RW.varN rfl rfl rfl (spnCells ho13) rfl (fun w14 hb14 hk14 hlt14 => ?_)
  have hk1214 := hk13.trans0 hk14
  have hk1014 := (hk11.trans0 hk12).trans0 hk1214
  have hk814 := (hk9.trans0 hk10).trans0 hk1014
  have hk714 := hk8.trans0 hk814
  have hK14 := hK12.trans0 hk1214
  have hS14 := hk1014.at0 hb10
  have hO14 := hk1214.at0 hb12
  have hV14 := hk714.at0 hA7
  have hW14 := hk714.at0 hbB
  have aS : ∀ {w'}, K0 w14 w' → SpanAt w' (.agg #[.bool false, p9]) ⟨false, [expand (signsB.getD G []) (mV B0 (mP same B1))]⟩ := fun h => ⟨p9, rfl, ((hs9.keep0 hk10).keep0 hk1014).keep0 h⟩
  have aO : ∀ {w'}, K0 w14 w' → SpanAt w' (.agg #[.bool false, p11]) ⟨false, [expand (signsB.getD G []) (mV B0 (mP same B1))]⟩ := fun h => ⟨p11, rfl, ((hs11.keep0 hk12).keep0 hk1214).keep0 h⟩
  have aA : ∀ {w'}, K0 w14 w' → SpanAt w' (.agg #[.bool true, p13]) ⟨true, []⟩ := fun h => ⟨p13, rfl, (hs13.keep0 hk14).keep0 h⟩
  have aV : ∀ {w'}, K0 w14 w' → VerAt w' (.agg #[.int .i64 1, .int .i64 (A0 : Int), .int .i64 0, qA]) (mV A0 [mkS A1]) := fun h => hvV (hk714.trans0 h)
  repeat' (first | (refine CL.seq ?_) | (refine CL.region ?_) | (refine CL.skip ?_) | (refine CL.condP rfl (fun _ => ?_) (fun _ => ?_) <;> try (exfalso; omega)) | (refine CL.condT rfl ?_) | (refine CL.condF rfl ?_) | (refine CL.cond rfl (fun _ => ?_) (fun _ => ?_)) | (refine CL.block ?_) | (refine CL.exit ?_) | (refine Ex.then ?_) | (refine Ex.hit ?_) | (refine Ex.miss rfl ?_) | (refine CL.ret ?_) | (refine Rt.then ?_) | (refine Rt.block ?_) | (refine Pn.then ?_) | (refine Pn.block ?_) | (refine CL.done ?_) | (refine Nm.block ?_) | (refine Nm.then ?_) | (refine Gt.nil ?_; refine RW.nilw [0, 1, 2, 3, 5, 6, 8, 9, 10, 11, 12, 13, 14, 15, 16, 17, 19, 21, 41] ?_; dsimp only [H.keep, H.look, H.Fr.put, Nat.beq]) | (refine Gt.move ?_; refine RW.y (Y.move rfl) rfl ?_) | (refine Gt.guard ?_; first | (refine RW.part rfl rfl rfl (fun _ => ?_) (fun _ => ?_) <;> try (exfalso; omega)) | (refine RW.on rfl rfl rfl ?_) | (refine RW.off1 rfl rfl rfl rfl rfl ?_) | (refine RW.off rfl rfl rfl rfl rfl ?_) | (refine RW.offu rfl rfl rfl rfl ?_) | (refine RW.partb rfl rfl rfl (fun _ => ?_) (fun _ => ?_))) | (refine Gt.load ?_; first | (refine RW.y (Y.loadB rfl (by assumption) rfl) rfl ?_) | (refine RW.y (Y.loadBlock rfl (by assumption) rfl) rfl ?_)) | (refine Gt.assign ?_; refine RW.y (Y.assign rfl) rfl ?_) | (refine Gt.extract ?_; refine RW.y (Y.extract rfl rfl) rfl ?_) | (refine Gt.rem ?_; first | (refine RW.y (Y.remP rfl rfl (by omega) (by omega)) rfl ?_) | (refine RW.y (Y.rem rfl rfl (by omega)) rfl ?_)) | (refine Gt.pick ?_; first | (refine RW.y (Y.pickT rfl rfl) rfl ?_) | (refine RW.y (Y.pickF rfl rfl) rfl ?_)) | (refine Gt.idx ?_; first | (refine RW.y (Y.idxP rfl rfl (by omega) (by omega)) rfl ?_) | (refine RW.elemS rfl rfl rfl rfl (by assumption) (by omega) (by omega) ?_)) | (refine Gt.not ?_; first | (refine RW.y (Y.not rfl) rfl ?_) | (refine RW.y (Y.notb rfl) rfl ?_)) | (refine Gt.fieldAddr ?_; refine RW.y (Y.fieldAddr rfl (by rfl)) rfl ?_) | (refine Gt.convert ?_; first | (refine RW.y (Y.convN rfl (by first | exact wrap64_id (by omega) (by omega) | exact wrapu64_id (by omega) (by omega) | exact wrapu8_id (by omega) (by omega) | exact wrapu16_id (by omega) (by omega) | exact wrapu32_id (by omega) (by omega))) rfl ?_) | (refine RW.y (Y.convW rfl) rfl ?_)) | (refine Gt.slice ?_; refine RW.y (Y.cuth rfl rfl (by omega) (by omega)) rfl ?_) | (refine Gt.eql ?_; first | (refine RW.y (Y.eqi rfl rfl) rfl ?_) | (refine RW.y (Y.eqb rfl rfl) rfl ?_)) | (refine Gt.add ?_; refine RW.y (Y.cat rfl rfl (by first | omega | (simp only [List.length_append, List.length_cons, List.length_nil]; omega))) rfl ?_) | (refine RW.y (Y.build (ps := [(0, _), (1, _), (3, _)]) rfl rfl) rfl ?_) | (refine RW.y (Y.build (ps := [(0, _), (1, _)]) rfl rfl) rfl ?_))
  refine RW.fn rfl rfl ((has _ _ _ _ w14 (aS (Kept.refl _ _)) (aV (Kept.refl _ _)) fS.fits hvf.fit).mono ?_)
  rintro e w15 ⟨hk15, rfl⟩
  have hO15 := hk15.at0 hO14
  have hV15 := hk15.at0 hV14
  have hW15 := hk15.at0 hW14
  have hA15 := hk15.at0 hb14
  generalize hgot : hasB ⟨false, [expand (signsB.getD G []) (mV B0 (mP same B1))]⟩ (mV A0 [mkS A1]) = got at *
  repeat' (first | (refine CL.seq ?_) | (refine CL.region ?_) | (refine CL.skip ?_) | (refine CL.condP rfl (fun _ => ?_) (fun _ => ?_) <;> try (exfalso; omega)) | (refine CL.condT rfl ?_) | (refine CL.condF rfl ?_) | (refine CL.cond rfl (fun _ => ?_) (fun _ => ?_)) | (refine CL.block ?_) | (refine CL.exit ?_) | (refine Ex.then ?_) | (refine Ex.hit ?_) | (refine Ex.miss rfl ?_) | (refine CL.ret ?_) | (refine Rt.then ?_) | (refine Rt.block ?_) | (refine Pn.then ?_) | (refine Pn.block ?_) | (refine CL.done ?_) | (refine Nm.block ?_) | (refine Nm.then ?_) | (refine Gt.nil ?_; refine RW.nilw [0, 1, 2, 3, 5, 6, 8, 9, 10, 11, 12, 13, 14, 15, 16, 17, 19, 21, 41] ?_; dsimp only [H.keep, H.look, H.Fr.put, Nat.beq]) | (refine RW.y (Y.eqiS rfl rfl) rfl ?_) | (refine Gt.move ?_; refine RW.y (Y.move rfl) rfl ?_) | (refine Gt.guard ?_; first | (refine RW.part rfl rfl rfl (fun _ => ?_) (fun _ => ?_) <;> try (exfalso; omega)) | (refine RW.on rfl rfl rfl ?_) | (refine RW.off1 rfl rfl rfl rfl rfl ?_) | (refine RW.off rfl rfl rfl rfl rfl ?_) | (refine RW.offu rfl rfl rfl rfl ?_) | (refine RW.partb rfl rfl rfl (fun _ => ?_) (fun _ => ?_))) | (refine Gt.load ?_; first | (refine RW.y (Y.loadB rfl (by assumption) rfl) rfl ?_) | (refine RW.y (Y.loadBlock rfl (by assumption) rfl) rfl ?_)) | (refine Gt.assign ?_; refine RW.y (Y.assign rfl) rfl ?_) | (refine Gt.extract ?_; refine RW.y (Y.extract rfl rfl) rfl ?_) | (refine Gt.rem ?_; first | (refine RW.y (Y.remP rfl rfl (by omega) (by omega)) rfl ?_) | (refine RW.y (Y.rem rfl rfl (by omega)) rfl ?_)) | (refine Gt.pick ?_; first | (refine RW.y (Y.pickT rfl rfl) rfl ?_) | (refine RW.y (Y.pickF rfl rfl) rfl ?_)) | (refine Gt.idx ?_; first | (refine RW.y (Y.idxP rfl rfl (by omega) (by omega)) rfl ?_) | (refine RW.elemS rfl rfl rfl rfl (by assumption) (by omega) (by omega) ?_)) | (refine Gt.not ?_; first | (refine RW.y (Y.not rfl) rfl ?_) | (refine RW.y (Y.notb rfl) rfl ?_)) | (refine Gt.fieldAddr ?_; refine RW.y (Y.fieldAddr rfl (by rfl)) rfl ?_) | (refine Gt.convert ?_; first | (refine RW.y (Y.convN rfl (by first | exact wrap64_id (by omega) (by omega) | exact wrapu64_id (by omega) (by omega) | exact wrapu8_id (by omega) (by omega) | exact wrapu16_id (by omega) (by omega) | exact wrapu32_id (by omega) (by omega))) rfl ?_) | (refine RW.y (Y.convW rfl) rfl ?_)) | (refine Gt.slice ?_; refine RW.y (Y.cuth rfl rfl (by omega) (by omega)) rfl ?_) | (refine Gt.eql ?_; first | (refine RW.y (Y.eqi rfl rfl) rfl ?_) | (refine RW.y (Y.eqb rfl rfl) rfl ?_)) | (refine Gt.add ?_; refine RW.y (Y.cat rfl rfl (by first | omega | (simp only [List.length_append, List.length_cons, List.length_nil]; omega))) rfl ?_) | (refine RW.y (Y.build (ps := [(0, _), (1, _), (3, _)]) rfl rfl) rfl ?_) | (refine RW.y (Y.build (ps := [(0, _), (1, _)]) rfl rfl) rfl ?_))
  refine RW.fn rfl rfl ((refHas _ _ ⟨false, [expand (signsB.getD G []) (mV B0 (mP same B1))]⟩ (mV A0 [mkS A1]) w15 (aO hk15) (aV hk15) fS.fits hvf.fit).mono ?_)
  rintro e w16 ⟨hk16, rfl⟩
  rw [hgot]
  have hV16 := hk16.at0 hV15
  have hW16 := hk16.at0 hW15
  have hA16 := hk16.at0 hA15
  have hk1416 := hk15.trans0 hk16
  have hany : hasB ⟨true, []⟩ (mV A0 [mkS A1]) = false := by simp [hasB, mV]
  cases got
  · repeat' (first | (refine CL.seq ?_) | (refine CL.region ?_) | (refine CL.skip ?_) | (refine CL.condP rfl (fun _ => ?_) (fun _ => ?_) <;> try (exfalso; omega)) | (refine CL.condT rfl ?_) | (refine CL.condF rfl ?_) | (refine CL.cond rfl (fun _ => ?_) (fun _ => ?_)) | (refine CL.block ?_) | (refine CL.exit ?_) | (refine Ex.then ?_) | (refine Ex.hit ?_) | (refine Ex.miss rfl ?_) | (refine CL.ret ?_) | (refine Rt.then ?_) | (refine Rt.block ?_) | (refine Pn.then ?_) | (refine Pn.block ?_) | (refine CL.done ?_) | (refine Nm.block ?_) | (refine Nm.then ?_) | (refine Gt.nil ?_; refine RW.nilw [0, 1, 2, 3, 5, 6, 8, 9, 10, 11, 12, 13, 14, 15, 16, 17, 19, 21, 41] ?_; dsimp only [H.keep, H.look, H.Fr.put, Nat.beq]) | (refine RW.y (Y.eqbS rfl rfl) rfl ?_) | (refine Gt.move ?_; refine RW.y (Y.move rfl) rfl ?_) | (refine Gt.guard ?_; first | (refine RW.part rfl rfl rfl (fun _ => ?_) (fun _ => ?_) <;> try (exfalso; omega)) | (refine RW.on rfl rfl rfl ?_) | (refine RW.off1 rfl rfl rfl rfl rfl ?_) | (refine RW.off rfl rfl rfl rfl rfl ?_) | (refine RW.offu rfl rfl rfl rfl ?_) | (refine RW.partb rfl rfl rfl (fun _ => ?_) (fun _ => ?_))) | (refine Gt.load ?_; first | (refine RW.y (Y.loadB rfl (by assumption) rfl) rfl ?_) | (refine RW.y (Y.loadBlock rfl (by assumption) rfl) rfl ?_)) | (refine Gt.assign ?_; refine RW.y (Y.assign rfl) rfl ?_) | (refine Gt.extract ?_; refine RW.y (Y.extract rfl rfl) rfl ?_) | (refine Gt.rem ?_; first | (refine RW.y (Y.remP rfl rfl (by omega) (by omega)) rfl ?_) | (refine RW.y (Y.rem rfl rfl (by omega)) rfl ?_)) | (refine Gt.pick ?_; first | (refine RW.y (Y.pickT rfl rfl) rfl ?_) | (refine RW.y (Y.pickF rfl rfl) rfl ?_)) | (refine Gt.idx ?_; first | (refine RW.y (Y.idxP rfl rfl (by omega) (by omega)) rfl ?_) | (refine RW.elemS rfl rfl rfl rfl (by assumption) (by omega) (by omega) ?_)) | (refine Gt.not ?_; first | (refine RW.y (Y.not rfl) rfl ?_) | (refine RW.y (Y.notb rfl) rfl ?_)) | (refine Gt.fieldAddr ?_; refine RW.y (Y.fieldAddr rfl (by rfl)) rfl ?_) | (refine Gt.convert ?_; first | (refine RW.y (Y.convN rfl (by first | exact wrap64_id (by omega) (by omega) | exact wrapu64_id (by omega) (by omega) | exact wrapu8_id (by omega) (by omega) | exact wrapu16_id (by omega) (by omega) | exact wrapu32_id (by omega) (by omega))) rfl ?_) | (refine RW.y (Y.convW rfl) rfl ?_)) | (refine Gt.slice ?_; refine RW.y (Y.cuth rfl rfl (by omega) (by omega)) rfl ?_) | (refine Gt.eql ?_; first | (refine RW.y (Y.eqi rfl rfl) rfl ?_) | (refine RW.y (Y.eqb rfl rfl) rfl ?_)) | (refine Gt.add ?_; refine RW.y (Y.cat rfl rfl (by first | omega | (simp only [List.length_append, List.length_cons, List.length_nil]; omega))) rfl ?_) | (refine RW.y (Y.build (ps := [(0, _), (1, _), (3, _)]) rfl rfl) rfl ?_) | (refine RW.y (Y.build (ps := [(0, _), (1, _)]) rfl rfl) rfl ?_))
    refine RW.fn rfl rfl ((has _ _ ⟨true, []⟩ (mV A0 [mkS A1]) w16 (aA hk1416) (aV hk1416) fA.fits hvf.fit).mono ?_)
    rintro e w17 ⟨hk17, rfl⟩
    rw [hany]
    repeat' (first | (refine CL.seq ?_) | (refine CL.region ?_) | (refine CL.skip ?_) | (refine CL.condP rfl (fun _ => ?_) (fun _ => ?_) <;> try (exfalso; omega)) | (refine CL.condT rfl ?_) | (refine CL.condF rfl ?_) | (refine CL.cond rfl (fun _ => ?_) (fun _ => ?_)) | (refine CL.block ?_) | (refine CL.exit ?_) | (refine Ex.then ?_) | (refine Ex.hit ?_) | (refine Ex.miss rfl ?_) | (refine CL.ret ?_) | (refine Rt.then ?_) | (refine Rt.block ?_) | (refine Pn.then ?_) | (refine Pn.block ?_) | (refine CL.done ?_) | (refine Nm.block ?_) | (refine Nm.then ?_) | (refine Gt.nil ?_; refine RW.nilw [0, 1, 2, 3, 5, 6, 8, 9, 10, 11, 12, 13, 14, 15, 16, 17, 19, 21, 41] ?_; dsimp only [H.keep, H.look, H.Fr.put, Nat.beq]) | (refine Gt.move ?_; refine RW.y (Y.move rfl) rfl ?_) | (refine Gt.guard ?_; first | (refine RW.part rfl rfl rfl (fun _ => ?_) (fun _ => ?_) <;> try (exfalso; omega)) | (refine RW.on rfl rfl rfl ?_) | (refine RW.off1 rfl rfl rfl rfl rfl ?_) | (refine RW.off rfl rfl rfl rfl rfl ?_) | (refine RW.offu rfl rfl rfl rfl ?_) | (refine RW.partb rfl rfl rfl (fun _ => ?_) (fun _ => ?_))) | (refine Gt.load ?_; first | (refine RW.y (Y.loadB rfl (by assumption) rfl) rfl ?_) | (refine RW.y (Y.loadBlock rfl (by assumption) rfl) rfl ?_)) | (refine Gt.assign ?_; refine RW.y (Y.assign rfl) rfl ?_) | (refine Gt.extract ?_; refine RW.y (Y.extract rfl rfl) rfl ?_) | (refine Gt.rem ?_; first | (refine RW.y (Y.remP rfl rfl (by omega) (by omega)) rfl ?_) | (refine RW.y (Y.rem rfl rfl (by omega)) rfl ?_)) | (refine Gt.pick ?_; first | (refine RW.y (Y.pickT rfl rfl) rfl ?_) | (refine RW.y (Y.pickF rfl rfl) rfl ?_)) | (refine Gt.idx ?_; first | (refine RW.y (Y.idxP rfl rfl (by omega) (by omega)) rfl ?_) | (refine RW.elemS rfl rfl rfl rfl (by assumption) (by omega) (by omega) ?_)) | (refine Gt.not ?_; first | (refine RW.y (Y.not rfl) rfl ?_) | (refine RW.y (Y.notb rfl) rfl ?_)) | (refine Gt.fieldAddr ?_; refine RW.y (Y.fieldAddr rfl (by rfl)) rfl ?_) | (refine Gt.convert ?_; first | (refine RW.y (Y.convN rfl (by first | exact wrap64_id (by omega) (by omega) | exact wrapu64_id (by omega) (by omega) | exact wrapu8_id (by omega) (by omega) | exact wrapu16_id (by omega) (by omega) | exact wrapu32_id (by omega) (by omega))) rfl ?_) | (refine RW.y (Y.convW rfl) rfl ?_)) | (refine Gt.slice ?_; refine RW.y (Y.cuth rfl rfl (by omega) (by omega)) rfl ?_) | (refine Gt.eql ?_; first | (refine RW.y (Y.eqi rfl rfl) rfl ?_) | (refine RW.y (Y.eqb rfl rfl) rfl ?_)) | (refine Gt.add ?_; refine RW.y (Y.cat rfl rfl (by first | omega | (simp only [List.length_append, List.length_cons, List.length_nil]; omega))) rfl ?_) | (refine RW.y (Y.build (ps := [(0, _), (1, _), (3, _)]) rfl rfl) rfl ?_) | (refine RW.y (Y.build (ps := [(0, _), (1, _)]) rfl rfl) rfl ?_))
    exact FQ.one rfl rfl rfl ⟨rfl, (hK14.trans0 hk1416).trans0 hk17⟩
  · obtain ⟨rfl, rfl⟩ := hmh rfl
    repeat' (first | (refine CL.seq ?_) | (refine CL.region ?_) | (refine CL.skip ?_) | (refine CL.condP rfl (fun _ => ?_) (fun _ => ?_) <;> try (exfalso; omega)) | (refine CL.condT rfl ?_) | (refine CL.condF rfl ?_) | (refine CL.cond rfl (fun _ => ?_) (fun _ => ?_)) | (refine CL.block ?_) | (refine CL.exit ?_) | (refine Ex.then ?_) | (refine Ex.hit ?_) | (refine Ex.miss rfl ?_) | (refine CL.ret ?_) | (refine Rt.then ?_) | (refine Rt.block ?_) | (refine Pn.then ?_) | (refine Pn.block ?_) | (refine CL.done ?_) | (refine Nm.block ?_) | (refine Nm.then ?_) | (refine Gt.nil ?_; refine RW.nilw [0, 1, 2, 3, 5, 6, 8, 9, 10, 11, 12, 13, 14, 15, 16, 17, 19, 21, 41] ?_; dsimp only [H.keep, H.look, H.Fr.put, Nat.beq]) | (refine RW.y (Y.eqbS rfl rfl) rfl ?_) | (refine RW.y (Y.eqiS rfl rfl) rfl ?_) | (refine Gt.move ?_; refine RW.y (Y.move rfl) rfl ?_) | (refine Gt.guard ?_; first | (refine RW.part rfl rfl rfl (fun _ => ?_) (fun _ => ?_) <;> try (exfalso; omega)) | (refine RW.on rfl rfl rfl ?_) | (refine RW.off1 rfl rfl rfl rfl rfl ?_) | (refine RW.off rfl rfl rfl rfl rfl ?_) | (refine RW.offu rfl rfl rfl rfl ?_) | (refine RW.partb rfl rfl rfl (fun _ => ?_) (fun _ => ?_))) | (refine Gt.load ?_; first | (refine RW.y (Y.loadB rfl (by assumption) rfl) rfl ?_) | (refine RW.y (Y.loadBlock rfl (by assumption) rfl) rfl ?_)) | (refine Gt.assign ?_; refine RW.y (Y.assign rfl) rfl ?_) | (refine Gt.extract ?_; refine RW.y (Y.extract rfl rfl) rfl ?_) | (refine Gt.rem ?_; first | (refine RW.y (Y.remP rfl rfl (by omega) (by omega)) rfl ?_) | (refine RW.y (Y.rem rfl rfl (by omega)) rfl ?_)) | (refine Gt.pick ?_; first | (refine RW.y (Y.pickT rfl rfl) rfl ?_) | (refine RW.y (Y.pickF rfl rfl) rfl ?_)) | (refine Gt.idx ?_; first | (refine RW.y (Y.idxP rfl rfl (by omega) (by omega)) rfl ?_) | (refine RW.elemS rfl rfl rfl rfl (by assumption) (by omega) (by omega) ?_)) | (refine Gt.not ?_; first | (refine RW.y (Y.not rfl) rfl ?_) | (refine RW.y (Y.notb rfl) rfl ?_)) | (refine Gt.fieldAddr ?_; refine RW.y (Y.fieldAddr rfl (by rfl)) rfl ?_) | (refine Gt.convert ?_; first | (refine RW.y (Y.convN rfl (by first | exact wrap64_id (by omega) (by omega) | exact wrapu64_id (by omega) (by omega) | exact wrapu8_id (by omega) (by omega) | exact wrapu16_id (by omega) (by omega) | exact wrapu32_id (by omega) (by omega))) rfl ?_) | (refine RW.y (Y.convW rfl) rfl ?_)) | (refine Gt.slice ?_; refine RW.y (Y.cuth rfl rfl (by omega) (by omega)) rfl ?_) | (refine Gt.eql ?_; first | (refine RW.y (Y.eqi rfl rfl) rfl ?_) | (refine RW.y (Y.eqb rfl rfl) rfl ?_)) | (refine Gt.add ?_; refine RW.y (Y.cat rfl rfl (by first | omega | (simp only [List.length_append, List.length_cons, List.length_nil]; omega))) rfl ?_) | (refine RW.y (Y.build (ps := [(0, _), (1, _), (3, _)]) rfl rfl) rfl ?_) | (refine RW.y (Y.build (ps := [(0, _), (1, _)]) rfl rfl) rfl ?_))
    refine RW.fn rfl rfl ((has _ _ ⟨true, []⟩ (mV A0 [mkS A1]) w16 (aA hk1416) (aV hk1416) fA.fits hvf.fit).mono ?_)
    rintro e w17 ⟨hk17, rfl⟩
    rw [hany]
    repeat' (first | (refine CL.seq ?_) | (refine CL.region ?_) | (refine CL.skip ?_) | (refine CL.condP rfl (fun _ => ?_) (fun _ => ?_) <;> try (exfalso; omega)) | (refine CL.condT rfl ?_) | (refine CL.condF rfl ?_) | (refine CL.cond rfl (fun _ => ?_) (fun _ => ?_)) | (refine CL.block ?_) | (refine CL.exit ?_) | (refine Ex.then ?_) | (refine Ex.hit ?_) | (refine Ex.miss rfl ?_) | (refine CL.ret ?_) | (refine Rt.then ?_) | (refine Rt.block ?_) | (refine Pn.then ?_) | (refine Pn.block ?_) | (refine CL.done ?_) | (refine Nm.block ?_) | (refine Nm.then ?_) | (refine Gt.nil ?_; refine RW.nilw [0, 1, 2, 3, 5, 6, 8, 9, 10, 11, 12, 13, 14, 15, 16, 17, 19, 21, 41] ?_; dsimp only [H.keep, H.look, H.Fr.put, Nat.beq]) | (refine Gt.move ?_; refine RW.y (Y.move rfl) rfl ?_) | (refine Gt.guard ?_; first | (refine RW.part rfl rfl rfl (fun _ => ?_) (fun _ => ?_) <;> try (exfalso; omega)) | (refine RW.on rfl rfl rfl ?_) | (refine RW.off1 rfl rfl rfl rfl rfl ?_) | (refine RW.off rfl rfl rfl rfl rfl ?_) | (refine RW.offu rfl rfl rfl rfl ?_) | (refine RW.partb rfl rfl rfl (fun _ => ?_) (fun _ => ?_))) | (refine Gt.load ?_; first | (refine RW.y (Y.loadB rfl (by assumption) rfl) rfl ?_) | (refine RW.y (Y.loadBlock rfl (by assumption) rfl) rfl ?_)) | (refine Gt.assign ?_; refine RW.y (Y.assign rfl) rfl ?_) | (refine Gt.extract ?_; refine RW.y (Y.extract rfl rfl) rfl ?_) | (refine Gt.rem ?_; first | (refine RW.y (Y.remP rfl rfl (by omega) (by omega)) rfl ?_) | (refine RW.y (Y.rem rfl rfl (by omega)) rfl ?_)) | (refine Gt.pick ?_; first | (refine RW.y (Y.pickT rfl rfl) rfl ?_) | (refine RW.y (Y.pickF rfl rfl) rfl ?_)) | (refine Gt.idx ?_; first | (refine RW.y (Y.idxP rfl rfl (by omega) (by omega)) rfl ?_) | (refine RW.elemS rfl rfl rfl rfl (by assumption) (by omega) (by omega) ?_)) | (refine Gt.not ?_; first | (refine RW.y (Y.not rfl) rfl ?_) | (refine RW.y (Y.notb rfl) rfl ?_)) | (refine Gt.fieldAddr ?_; refine RW.y (Y.fieldAddr rfl (by rfl)) rfl ?_) | (refine Gt.convert ?_; first | (refine RW.y (Y.convN rfl (by first | exact wrap64_id (by omega) (by omega) | exact wrapu64_id (by omega) (by omega) | exact wrapu8_id (by omega) (by omega) | exact wrapu16_id (by omega) (by omega) | exact wrapu32_id (by omega) (by omega))) rfl ?_) | (refine RW.y (Y.convW rfl) rfl ?_)) | (refine Gt.slice ?_; refine RW.y (Y.cuth rfl rfl (by omega) (by omega)) rfl ?_) | (refine Gt.eql ?_; first | (refine RW.y (Y.eqi rfl rfl) rfl ?_) | (refine RW.y (Y.eqb rfl rfl) rfl ?_)) | (refine Gt.add ?_; refine RW.y (Y.cat rfl rfl (by first | omega | (simp only [List.length_append, List.length_cons, List.length_nil]; omega))) rfl ?_) | (refine RW.y (Y.build (ps := [(0, _), (1, _), (3, _)]) rfl rfl) rfl ?_) | (refine RW.y (Y.build (ps := [(0, _), (1, _)]) rfl rfl) rfl ?_))
    exact FQ.one rfl rfl rfl ⟨rfl, (hK14.trans0 hk1416).trans0 hk17⟩
end Go.Proofs.YtjfdhafmbcppjaaGreatDoor.Sp

namespace Go.Proofs.YtjfdhafmbcppjaaGreatDoor.H
open Go.ChangeShapes Go.WideShapes Go.RowKit

/-- What a reading of a type's cells tells. -/
class Opn (P : Program) (t : TypeId) (α : outParam Type) (en : outParam (α → List Value)) (ok : outParam (World → α → Prop)) : Prop where
  out : ∀ (H : Type) (enc : TypeId × Value → H) (W : World) (fuel : Nat) (cs : List Value) (x : DataW H × List MemPlace), DataW.trod enc P W 0 (fun _ => true) true fuel t cs = some x → ∃ a, cs = en a ∧ ok W a
class Cel (P : Program) (t : TypeId) (n : outParam Nat) : Prop where out : P.cellsOf t = n
theorem Cel.of {P : Program} {t : TypeId} {z : Value} {s b : Nat} [h : Inf P t z s b] : Cel P t s := ⟨by
  have h := h.out
  cases hi : P.info? t with
  | none => simp [hi] at h
  | some i =>
    simp only [hi, Option.map_some, Option.some.injEq, Prod.mk.injEq] at h
    simp [Program.cellsOf, hi, h.2.1]⟩
instance {P : Program} {t : TypeId} {z : Value} {s b : Nat} [h : Inf P t z s b] : Cel P t s := Cel.of
class CelS (P : Program) (t : TypeId) (n : outParam Nat) : Prop where
  out : P.cellsOf t = n
  pos : 0 < n

theorem wf_of {k : IntKind} {n : Int} (h : (Lit.int k n).wf = true) : k.min ≤ n ∧ n ≤ k.max := by
  simpa [Lit.wf] using h

instance (priority := low) {P : Program} {t : TypeId} {k : IntKind} [h : Und P t (.int k)] : Opn P t Int (fun n => [.int k n]) (fun _ n => k.min ≤ n ∧ n ≤ k.max) := ⟨fun _ _ _ _ _ _ hx => by
  obtain ⟨n, rfl, rfl, hw⟩ := DataW.trod_int h.out hx
  exact ⟨n, rfl, wf_of hw⟩⟩
instance {P : Program} {t : TypeId} [h : Und P t (.int .i64)] : Opn P t Int (fun n => [.int .i64 n]) (fun _ n => -9223372036854775808 ≤ n ∧ n ≤ 9223372036854775807) := ⟨fun _ _ _ _ _ _ hx => by
  obtain ⟨n, rfl, rfl, hw⟩ := DataW.trod_int h.out hx
  exact ⟨n, rfl, bounds_i64 hw⟩⟩
instance {P : Program} {t : TypeId} [h : Und P t (.int .u64)] : Opn P t Nat (fun n => [.int .u64 (n : Int)]) (fun _ n => n < 18446744073709551616) := ⟨fun _ _ _ _ _ _ hx => by
  obtain ⟨n, rfl, rfl, hw⟩ := DataW.trod_int h.out hx
  have := bounds_u64 hw
  exact ⟨n.toNat, by rw [Int.toNat_of_nonneg this.1], by omega⟩⟩
instance {P : Program} {t : TypeId} [h : Und P t (.int .u8)] : Opn P t UInt8 (fun n => [vb n]) (fun _ _ => True) := ⟨fun _ _ _ _ _ _ hx => by
  obtain ⟨n, rfl, rfl, hw⟩ := DataW.trod_int h.out hx
  have := bounds_u8 hw
  refine ⟨UInt8.ofNat n.toNat, ?_, trivial⟩
  simp only [vb, UInt8.toNat_ofNat']
  congr 2
  omega⟩
instance {P : Program} {t : TypeId} [h : Und P t .bool] : Opn P t Bool (fun b => [.bool b]) (fun _ _ => True) := ⟨fun _ _ _ _ _ _ hx => by
  obtain ⟨n, rfl, rfl⟩ := DataW.trod_bool h.out hx
  exact ⟨n, rfl, trivial⟩⟩
instance {P : Program} {t : TypeId} [h : Und P t .string] : Opn P t (List UInt8) (fun s => [vs s]) (fun _ s => s.length ≤ 9223372036854775807) := ⟨fun _ _ _ _ _ _ hx => by
  obtain ⟨s, rfl, rfl, hw⟩ := DataW.trod_string h.out hx
  refine ⟨s.data.toList, rfl, ?_⟩
  simpa [maxLen] using hw⟩

theorem addr_none {w : World} {a : Addr} {v : Value} (h : w.cell? a = some v) : ∃ c e fz, w.heap[a.block]? = some (.cells c e fz) ∧ a.spot = none ∧ c[a.off]? = some v := by
  unfold World.cell? at h
  split at h
  · rename_i c e fz hc
    split at h
    · cases h
    · rename_i hs
      exact ⟨c, e, fz, hc, by simpa using hs, h⟩
  · cases h

theorem list_grow {L cs : List Value} {off k sz : Nat} (hl : cs.length = sz) (h : ∀ j, j < sz → L[off + k * sz + j]? = cs[j]?) : (L.drop off).take ((k + 1) * sz) = (L.drop off).take (k * sz) ++ cs := by
  rw [Nat.succ_mul, List.take_add]
  congr 1
  apply List.ext_getElem?
  intro j
  rw [List.getElem?_take]
  split
  · rename_i hj
    rw [List.drop_drop, List.getElem?_drop]
    exact h j hj
  · rename_i hj
    rw [List.getElem?_eq_none (by omega)]

/-- A slice's reading. -/
instance {P : Program} {t e : TypeId} {sz : Nat} [h : Und P t (.slice e)] [hc : CelS P e sz] {β : Type} {en : β → List Value} {ok : World → β → Prop} [ho : Opn P e β en ok] :
    Opn P t (Value × List β) (fun p => [p.1]) (fun W p => Sl W sz p.1 p.2.length (p.2.flatMap en) ∧ ∀ x ∈ p.2, ok W x) := ⟨fun H enc W fuel cs x hx => by
  have hpos := hc.pos
  rcases Go.Deep.open_slice h.out hx with ⟨rfl, _⟩ | ⟨a, len, cap, m, n, D, Pl, rfl, _, hl, hm, hmm, _, hel⟩
  · exact ⟨(_, []), rfl, by simpa using Sl.nil W sz, by simp⟩
  have hel : ∀ i, i < cap → ∃ cs', W.cells? 0 (a.add (i * sz)) sz = some cs' ∧ DataW.trod enc P W 0 (fun _ => true) true n e cs' = some (D i, Pl i) := fun i hi => by
    have := hel i (by rw [hmm]; simpa using hi)
    rw [hc.out] at this
    exact this
  by_cases h0 : cap = 0
  · subst h0
    have : len = 0 := by omega
    subst this
    exact ⟨(_, []), rfl, ⟨by simp, by simp, .inl ⟨_, rfl, rfl⟩⟩, by simp⟩
  obtain ⟨cs0, hcs0, _⟩ := hel 0 (by omega)
  obtain ⟨_, hlen0, hat0⟩ := World.cells?_some hcs0
  have h00 := hat0 0 (by omega)
  rw [List.getElem?_eq_getElem (by omega)] at h00
  have hz : (a.add (0 * sz)).add 0 = a := by unfold Addr.add; simp
  rw [hz] at h00
  obtain ⟨c, e', fz, hb, hsp, _⟩ := addr_none h00
  obtain ⟨g, off, sp⟩ := a
  simp only at hsp
  subst hsp
  have hcell : ∀ i, i < cap → ∃ cs', cs'.length = sz ∧ (∃ b, cs' = en b ∧ ok W b) ∧ ∀ j, j < sz → c.toList[off + i * sz + j]? = cs'[j]? := by
    intro i hi
    obtain ⟨cs', h1, h2⟩ := hel i hi
    obtain ⟨_, h4, h5⟩ := World.cells?_some h1
    refine ⟨cs', h4, ho.out H enc W n cs' _ h2, fun j hj => ?_⟩
    have := h5 j hj
    rw [addr_add, addr_add, cell_row (off := 0) hb] at this
    rw [← this, Array.getElem?_toList]
  have grow : ∀ k, k ≤ cap → ∃ xs : List β, xs.length = k ∧ (c.toList.drop off).take (k * sz) = xs.flatMap en ∧ (∀ x ∈ xs, ok W x) ∧ (xs.flatMap en).length = k * sz := by
    intro k
    induction k with
    | zero => intro _; exact ⟨[], rfl, by simp, by simp, by simp⟩
    | succ k ih =>
      intro hk
      obtain ⟨xs, h1, h2, h3, h6⟩ := ih (by omega)
      obtain ⟨cs', h4, ⟨b, rfl, hb'⟩, h5⟩ := hcell k (by omega)
      refine ⟨xs ++ [b], by simp [h1], ?_, ?_, ?_⟩
      · rw [list_grow h4 h5, h2]; simp
      · intro x hx
        rcases List.mem_append.1 hx with hx | hx
        · exact h3 x hx
        · simp only [List.mem_singleton] at hx; subst hx; exact hb'
      · rw [List.flatMap_append, List.length_append, h6]; simp [h4, Nat.succ_mul]
  have hsize : off + cap * sz ≤ c.size := by
    obtain ⟨cs', h4, _, h5⟩ := hcell (cap - 1) (by omega)
    have h6 := h5 (sz - 1) (by omega)
    rw [show cs'[sz - 1]? = some (cs'[sz - 1]'(by omega)) from List.getElem?_eq_getElem (by omega)] at h6
    have h7 := (List.getElem?_eq_some_iff.1 h6).1
    have : (cap - 1) * sz + sz = cap * sz := by
      have : cap = (cap - 1) + 1 := by omega
      conv => rhs; rw [this, Nat.succ_mul]
    simp only [Array.length_toList] at h7
    omega
  obtain ⟨xs, h1, h2, h3, h6⟩ := grow len hl
  subst h1
  exact ⟨(_, xs), rfl, ⟨h6, Nat.le_trans hl hm, .inr ⟨g, off, cap, c, e', fz, rfl, hb, hl, hm, hsize, h2⟩⟩, h3⟩⟩

/-- Fields, one behind the other. -/
class OpnF (P : Program) (ts : List TypeId) (α : outParam Type) (en : outParam (α → List Value)) (ok : outParam (World → α → Prop)) (len : outParam Nat) : Prop where
  out : ∀ (H : Type) (enc : TypeId × Value → H) (W : World) (n off : Nat) (cs : List Value), off + len ≤ cs.length →
    (∀ (pre : List TypeId) (t : TypeId) (post : List TypeId), ts = pre ++ t :: post → ∃ x, DataW.trod enc P W 0 (fun _ => true) true n t ((cs.drop (off + (pre.map P.cellsOf).sum)).take (P.cellsOf t)) = some x) →
    ∃ a, (cs.drop off).take len = en a ∧ ok W a
  sum : (ts.map P.cellsOf).sum = len
instance {P : Program} : OpnF P [] Unit (fun _ => []) (fun _ _ => True) 0 := ⟨fun _ _ _ _ _ _ _ _ => ⟨(), by simp, trivial⟩, rfl⟩
instance {P : Program} {t : TypeId} {ts : List TypeId} {α β : Type} {en : α → List Value} {ok : World → α → Prop} {en' : β → List Value} {ok' : World → β → Prop} {c l : Nat} [hc : Cel P t c] [h1 : Opn P t α en ok] [h2 : OpnF P ts β en' ok' l] :
    OpnF P (t :: ts) (α × β) (fun p => en p.1 ++ en' p.2) (fun W p => ok W p.1 ∧ ok' W p.2) (c + l) := ⟨fun H enc W n off cs hl hf => by
  obtain ⟨x, hx⟩ := hf [] t ts rfl
  simp only [List.map_nil, List.sum_nil, Nat.add_zero] at hx
  rw [hc.out] at hx
  obtain ⟨a, ha, hok⟩ := h1.out H enc W n _ x hx
  obtain ⟨b, hb, hok'⟩ := h2.out H enc W n (off + c) cs (by omega) (fun pre u post he => by
    obtain ⟨y, hy⟩ := hf (t :: pre) u post (by rw [he]; rfl)
    refine ⟨y, ?_⟩
    simp only [List.map_cons, List.sum_cons, hc.out] at hy
    rw [Nat.add_assoc]; exact hy)
  refine ⟨(a, b), ?_, hok, hok'⟩
  rw [List.take_add, ha, List.drop_drop, hb], by rw [List.map_cons, List.sum_cons, hc.out, h2.sum]⟩

def offsOk (P : Program) : Nat → List Field → Bool
  | _, [] => true
  | o, f :: r => f.offset == o && offsOk P (o + P.cellsOf f.type) r

theorem offs_at {P : Program} : ∀ (fs : List Field) (o : Nat), offsOk P o fs = true → ∀ (pre : List Field) (f : Field) (post : List Field), fs = pre ++ f :: post → f.offset = o + ((pre.map (·.type)).map P.cellsOf).sum := by
  intro fs
  induction fs with
  | nil => intro o _ pre f post h; cases pre <;> cases h
  | cons a r ih =>
    intro o h pre f post he
    simp only [offsOk, Bool.and_eq_true, beq_iff_eq] at h
    cases pre with
    | nil => simp only [List.nil_append, List.cons.injEq] at he; obtain ⟨rfl, _⟩ := he; simp [h.1]
    | cons b pre =>
      simp only [List.cons_append, List.cons.injEq] at he
      obtain ⟨rfl, he⟩ := he
      rw [ih _ h.2 pre f post he]
      simp [Nat.add_assoc]

/-- A struct's reading. -/
class StrT (P : Program) (t : TypeId) (ts : outParam (List TypeId)) : Prop where
  out : ∃ fs, P.underlying t = some (.struct fs) ∧ fs.toList.map (·.type) = ts ∧ offsOk P 0 fs.toList = true ∧ P.cellsOf t = (ts.map P.cellsOf).sum
instance {P : Program} {t : TypeId} {ts : List TypeId} [hS : StrT P t ts] {α : Type} {en : α → List Value} {ok : World → α → Prop} {len : Nat} [h : OpnF P ts α en ok len] : Opn P t α en ok := ⟨fun H enc W fuel cs x hx => by
  obtain ⟨fs, hu, hts, hof, hlen⟩ := hS.out
  obtain ⟨xs, n, rfl, rfl, hl, hxl, hf⟩ := DataW.trod_struct hu hx
  rw [hlen, h.sum] at hl
  subst hts
  obtain ⟨a, ha, hok⟩ := h.out H enc W n 0 cs (by omega) (fun pre u post he => by
    obtain ⟨i, hi⟩ : ∃ i, pre.length = i := ⟨_, rfl⟩
    have hlen2 : pre.length < fs.toList.length := by
      have := congrArg List.length he
      simp at this
      simp; omega
    have hpre : (fs.toList.take pre.length).map (·.type) = pre := by rw [List.map_take, he]; simp
    have hget : (fs.toList.map (·.type))[pre.length]? = some u := by rw [he]; simp
    rw [List.getElem?_map, List.getElem?_eq_getElem hlen2] at hget
    simp only [Option.map_some, Option.some.injEq] at hget
    have hfi : fs[pre.length]? = some (fs.toList[pre.length]) := by rw [← Array.getElem?_toList, List.getElem?_eq_getElem hlen2]
    have hoff := offs_at fs.toList 0 hof (fs.toList.take pre.length) (fs.toList[pre.length]) (fs.toList.drop (pre.length + 1)) (by rw [← List.drop_eq_getElem_cons hlen2, List.take_append_drop])
    have h2 := hf pre.length _ hfi
    rw [hget, hoff, hpre] at h2
    rw [h2]
    have : pre.length < xs.length := by rw [hxl]; simpa using hlen2
    exact ⟨_, List.getElem?_eq_getElem this⟩)
  rw [List.drop_zero, List.take_of_length_le (by omega)] at ha
  exact ⟨a, ha, hok⟩⟩

theorem flat_one {α : Type} (f : α → Value) (l : List α) : (l.flatMap fun a => [f a]) = l.map f := by induction l with
  | nil => rfl
  | cons a l ih => rw [List.flatMap_cons, ih]; rfl
theorem Sl.map {α : Type} {f : α → Value} {W : World} {v : Value} {n : Nat} {l : List α} (h : Sl W 1 v n (l.flatMap fun a => [f a])) : Sl W 1 v n (l.map f) := by rw [← flat_one]; exact h

/-- A parameter. -/
class Top (P : Program) (t : TypeId) (α : outParam Type) (tv : outParam (α → Value)) (ok : outParam (World → α → Prop)) : Prop where
  out : ∀ (H : Type) (enc : TypeId × Value → H) (W : World) (base : Nat) (v : Value) (d : DataW H) (p : List MemPlace), Value.okWide P W .any base t v → DataW.Trod enc P W 0 (fun _ => true) true t v d p → ∃ a, v = tv a ∧ ok W a
theorem Top.one {P : Program} {t : TypeId} {desc : TypeDesc} (hu : P.underlying t = some desc) (hd : TypeDesc.isOne desc = true) {α : Type} {c : α → Value} {ok : World → α → Prop} (h : Opn P t α (fun a => [c a]) ok) : Top P t α c ok := ⟨fun H enc W base v d p hv hd' => by
  obtain ⟨fuel, hf⟩ := hd'
  obtain ⟨a, ha, hok⟩ := h.out H enc W fuel _ _ hf
  refine ⟨a, ?_, hok⟩
  have hna : ∀ cs, v ≠ .agg cs := by
    intro cs hcs
    subst hcs
    unfold Value.okWide at hv
    rw [hu] at hv
    cases desc <;> simp_all [TypeDesc.isOne, Cell.okWide, Cell.ok]
  have : v.cells = #[v] := by
    cases v with
    | agg cs => exact absurd rfl (hna cs)
    | _ => rfl
  rw [this] at ha
  simpa using ha⟩
instance {P : Program} {t : TypeId} {k : IntKind} [h : Und P t (.int k)] {α : Type} {c : α → Value} {ok : World → α → Prop} [ho : Opn P t α (fun a => [c a]) ok] : Top P t α c ok := Top.one h.out rfl ho
instance {P : Program} {t : TypeId} [h : Und P t .bool] {α : Type} {c : α → Value} {ok : World → α → Prop} [ho : Opn P t α (fun a => [c a]) ok] : Top P t α c ok := Top.one h.out rfl ho
instance {P : Program} {t : TypeId} [h : Und P t .string] {α : Type} {c : α → Value} {ok : World → α → Prop} [ho : Opn P t α (fun a => [c a]) ok] : Top P t α c ok := Top.one h.out rfl ho
instance {P : Program} {t e : TypeId} [h : Und P t (.slice e)] {α : Type} {c : α → Value} {ok : World → α → Prop} [ho : Opn P t α (fun a => [c a]) ok] : Top P t α c ok := Top.one h.out rfl ho
instance {P : Program} {t : TypeId} {ts : List TypeId} [hS : StrT P t ts] {α : Type} {en : α → List Value} {ok : World → α → Prop} [h : Opn P t α en ok] : Top P t α (fun a => .agg (en a).toArray) ok := ⟨fun H enc W base v d p hv hd' => by
  obtain ⟨fuel, hf⟩ := hd'
  obtain ⟨fs, hu, _⟩ := hS.out
  obtain ⟨cs, rfl, _⟩ := okWide_struct hu hv
  obtain ⟨a, ha, hok⟩ := h.out H enc W fuel _ _ hf
  refine ⟨a, ?_, hok⟩
  have : cs = (en a).toArray := by
    apply Array.ext'
    simpa [Value.cells] using ha
  rw [this]⟩

/-- The parameters, one behind the other. -/
class Tops (P : Program) (ts : List TypeId) (α : outParam Type) (tv : outParam (α → List Value)) (ok : outParam (World → α → Prop)) : Prop where
  out : ∀ (H : Type) (enc : TypeId × Value → H) (W : World) (base : Nat) (l : List Value) (ds : List (DataW H)) (p : List MemPlace), (∀ (j : Nat) t v, ts[j]? = some t → l[j]? = some v → Value.okWide P W .any base t v) →
    DataW.TrodAll enc P W 0 (fun _ => true) true ts l ds p → ∃ a, l = tv a ∧ ok W a
instance {P : Program} : Tops P [] Unit (fun _ => []) (fun _ _ => True) := ⟨fun _ _ _ _ l ds p _ h => by
  obtain ⟨rfl, _⟩ := trodAll_nil h
  exact ⟨(), rfl, trivial⟩⟩
instance {P : Program} {t : TypeId} {ts : List TypeId} {α β : Type} {tv : α → Value} {ok : World → α → Prop} {tv' : β → List Value} {ok' : World → β → Prop} [h1 : Top P t α tv ok] [h2 : Tops P ts β tv' ok'] :
    Tops P (t :: ts) (α × β) (fun p => tv p.1 :: tv' p.2) (fun W p => ok W p.1 ∧ ok' W p.2) := ⟨fun H enc W base l ds p hv h => by
  obtain ⟨v, vs, d, ds', p', q, rfl, rfl, rfl, hd, hr⟩ := trodAll_cons h
  obtain ⟨a, rfl, ha⟩ := h1.out H enc W base v d p' (hv 0 t v rfl rfl) hd
  obtain ⟨b, rfl, hb⟩ := h2.out H enc W base vs ds' q (fun j t' v' h1 h2 => hv (j + 1) t' v' h1 h2) hr
  exact ⟨(a, b), rfl, ha, hb⟩⟩

theorem below_kept {w w' : World} (h : K0 w w') : Below w.heap.size w w' := h.below

theorem trodAll_stays {H : Type} {enc : TypeId × Value → H} {P : Program} (hl : laidOutB P = true) {W W' : World} (hb : Below W.heap.size W W') : ∀ (ts : List TypeId) (l : List Value) (ds : List (DataW H)) (p : List MemPlace), (∀ t ∈ ts, P.readableRec t = true ∧ t < P.types.size) → (∀ x ∈ p, x.block < W.heap.size) →
    DataW.TrodAll enc P W 0 (fun _ => true) true ts l ds p → DataW.TrodAll enc P W' 0 (fun b => decide (b < W.heap.size)) true ts l ds p := by
  intro ts
  induction ts with
  | nil =>
    intro l ds p _ _ h
    obtain ⟨rfl, rfl, rfl⟩ := trodAll_nil h
    exact trodAll_mk0
  | cons t ts ih =>
    intro l ds p hts hp h
    obtain ⟨v, vs, d, ds', p', q, rfl, rfl, rfl, hd, hr⟩ := trodAll_cons h
    have h1 := hts t (by simp)
    exact trodAll_cons_mk (Below.trod hl h1.1 h1.2 hd hb fun x hx => hp x (by simp [hx])) (ih vs ds' q (fun u hu => hts u (by simp [hu])) (fun x hx => hp x (by simp [hx])) hr)

theorem trodAll_length {H : Type} {enc : TypeId × Value → H} {P : Program} {W : World} {sp : Nat → Bool} {hd : Bool} : ∀ (ts : List TypeId) (l : List Value) (ds : List (DataW H)) (p : List MemPlace), DataW.TrodAll enc P W 0 sp hd ts l ds p → ds.length = ts.length := by
  intro ts
  induction ts with
  | nil => intro l ds p h; obtain ⟨_, rfl, _⟩ := trodAll_nil h; rfl
  | cons t ts ih =>
    intro l ds p h
    obtain ⟨v, vs, d, ds', p', q, rfl, rfl, rfl, _, hr⟩ := trodAll_cons h
    simp [ih _ _ _ hr]

/-- A law that returns true and leaves all that there was as it was. -/
theorem law_contract {P : Program} (hlo : laidOutB P = true) {k : FuncId} {f : Func} {s : ChangeSpec} {tb : TypeId} (hb : P.underlying tb = some .bool) (hr : f.resultTypes = #[tb]) (hv : s.vars = [])
    {ts : List TypeId} (hts : f.params.toList = ts) (hps : ∀ t ∈ ts, P.readableRec t = true ∧ t < P.types.size) {α : Type} {tv : α → List Value} {ok : World → α → Prop} [ho : Tops P ts α tv ok]
    (hs : ∀ (H : Type) (ds : List (DataW H)), ds.length = ts.length → s.fn H ds = { results := [.lit (.bool true)], args := ds })
    (walk : ∀ (a : α) (W : World), ok W a → Calls P k (tv a).toArray W fun e W' => e = .returned (.bool true) ∧ K0 W W')
    (H : Type) (enc : TypeId × Value → H) (W : World) (base : Nat) (args : Array Value) (ds gs : List (DataW H)) (before : List MemPlace)
    (hval : ∀ (j : Nat) t v, f.params[j]? = some t → args[j]? = some v → Value.okWide P W .any base t v)
    (hW : DataW.Whole enc P f.params.toList s.vars false W args.toList ds gs before) :
    Calls P k args W fun e W' => ∃ v, e = .returned v ∧ s.post enc P f false true false false W args v W' := by
  have hW' := hW
  rw [hv] at hW
  obtain ⟨p, q, hA, hV, rfl, hfz, hnd⟩ := hW
  obtain ⟨rfl, rfl⟩ := trodVars_none hV
  have hlt : ∀ x ∈ p, x.block < W.heap.size := fun x hx => by have := hW'.lt x (by simp [hx]); simpa using this
  rw [hts] at hA
  obtain ⟨a, ha, hok⟩ := ho.out H enc W base args.toList ds p (fun j t v h1 h2 => hval j t v (by rw [← Array.getElem?_toList, hts]; exact h1) (by rw [← Array.getElem?_toList]; exact h2)) hA
  have hargs : args = (tv a).toArray := by apply Array.ext'; simpa using ha
  subst hargs
  refine (walk a W hok).mono fun e W' ⟨he, hk⟩ => ?_
  have hbel := hk.below
  have hfn := hs H (ds ++ []) (by simpa using trodAll_length _ _ _ _ hA)
  refine ⟨_, he, ds, [], p ++ [], [], p, [], hW', ?_, ?_, ?_, hbel.frame _, fun h => by cases h⟩
  · rw [hfn, hr]; exact trodAll_cons_mk (shut_bool hb _) trodAll_mk0
  · rw [hfn, hts]; simpa using trodAll_stays hlo hbel ts _ ds p hps hlt hA
  · rw [hfn, hv]; exact rfl
end Go.Proofs.YtjfdhafmbcppjaaGreatDoor.H

namespace Go.Proofs.YtjfdhafmbcppjaaGreatDoor.H
open Go.ChangeShapes Go.WideShapes Go.RowKit
/-- An array's type: how many, of what, how many cells each. -/
class ArrT (P : Program) (t : TypeId) (n : outParam Nat) (e : outParam TypeId) (sz : outParam Nat) : Prop where
  out : P.underlying t = some (.array n e)
  el : P.cellsOf e = sz
  all : P.cellsOf t = n * sz
theorem rows_cat {β : Type} {en : β → List Value} {W : World} {ok : World → β → Prop} {sz : Nat} : ∀ (n : Nat) (cs : List Value), cs.length = n * sz → (∀ i, i < n → ∃ b, (cs.drop (i * sz)).take sz = en b ∧ ok W b) → ∃ l : List β, cs = l.flatMap en ∧ l.length = n ∧ ∀ x ∈ l, ok W x
  | 0, cs, h, _ => ⟨[], by rw [Nat.zero_mul] at h; rw [List.length_eq_zero_iff.1 h]; rfl, rfl, by simp⟩
  | n + 1, cs, h, hf => by
    obtain ⟨b, hb, hok⟩ := hf 0 (by omega)
    obtain ⟨l, h1, h2, h3⟩ := rows_cat (en := en) (ok := ok) (W := W) (sz := sz) n (cs.drop sz) (by rw [List.length_drop, h, Nat.succ_mul, Nat.add_sub_cancel]) (fun i hi => by
      obtain ⟨b', h1, h2⟩ := hf (i + 1) (by omega)
      refine ⟨b', ?_, h2⟩
      rw [List.drop_drop, ← h1, Nat.succ_mul, Nat.add_comm])
    refine ⟨b :: l, ?_, by simp [h2], fun x hx => ?_⟩
    · rw [List.flatMap_cons, ← h1, ← hb, Nat.zero_mul, List.drop_zero, List.take_append_drop]
    · rcases List.mem_cons.1 hx with rfl | hx
      · exact hok
      · exact h3 x hx
instance {P : Program} {t e : TypeId} {n sz : Nat} [h : ArrT P t n e sz] {β : Type} {en : β → List Value} {ok : World → β → Prop} [ho : Opn P e β en ok] :
    Opn P t (List β) (fun l => l.flatMap en) (fun W l => l.length = n ∧ ∀ x ∈ l, ok W x) := ⟨fun H enc W fuel cs x hx => by
  obtain ⟨xs, m, rfl, rfl, hl, hxl, hel⟩ := DataW.trod_array h.out hx
  rw [h.all] at hl
  obtain ⟨l, h1, h2, h3⟩ := rows_cat (en := en) (ok := ok) (W := W) n cs hl (fun i hi => by
    have := hel i hi
    rw [h.el, List.getElem?_eq_getElem (by omega)] at this
    obtain ⟨b, hb, hok⟩ := ho.out H enc W m _ _ this
    exact ⟨b, hb, hok⟩)
  exact ⟨l, h1, h2, h3⟩⟩
theorem okWide_arr {P : Program} {w : World} {base : Nat} {t : TypeId} {v : Value} {n : Nat} {e : TypeId} (ht : P.underlying t = some (.array n e)) (h : Value.okWide P w .any base t v) : ∃ cs, v = .agg cs ∧ cs.size = P.cellsOf t := by
  simp only [Value.okWide, ht] at h
  obtain ⟨cs, h1, h2, _⟩ := h
  exact ⟨cs, h1, h2⟩
instance {P : Program} {t e : TypeId} {n sz : Nat} [h : ArrT P t n e sz] {α : Type} {en : α → List Value} {ok : World → α → Prop} [ho : Opn P t α en ok] : Top P t α (fun a => .agg (en a).toArray) ok := ⟨fun H enc W base v d p hv hd' => by
  obtain ⟨fuel, hf⟩ := hd'
  obtain ⟨cs, rfl, _⟩ := okWide_arr h.out hv
  obtain ⟨a, ha, hok⟩ := ho.out H enc W fuel _ _ hf
  refine ⟨a, ?_, hok⟩
  have : cs = (en a).toArray := by
    apply Array.ext'
    simpa [Value.cells] using ha
  rw [this]⟩
/-- The same, of one world. -/
theorem law_contractW {P : Program} (hlo : laidOutB P = true) {k : FuncId} {f : Func} {s : ChangeSpec} {tb : TypeId} (hb : P.underlying tb = some .bool) (hr : f.resultTypes = #[tb]) (hv : s.vars = [])
    {ts : List TypeId} (hts : f.params.toList = ts) (hps : ∀ t ∈ ts, P.readableRec t = true ∧ t < P.types.size) {α : Type} {tv : α → List Value} {ok : World → α → Prop} [ho : Tops P ts α tv ok]
    (hs : ∀ (H : Type) (ds : List (DataW H)), ds.length = ts.length → s.fn H ds = { results := [.lit (.bool true)], args := ds })
    (W : World) (walk : ∀ (a : α), ok W a → Calls P k (tv a).toArray W fun e W' => e = .returned (.bool true) ∧ K0 W W')
    (H : Type) (enc : TypeId × Value → H) (base : Nat) (args : Array Value) (ds gs : List (DataW H)) (before : List MemPlace)
    (hval : ∀ (j : Nat) t v, f.params[j]? = some t → args[j]? = some v → Value.okWide P W .any base t v)
    (hW : DataW.Whole enc P f.params.toList s.vars false W args.toList ds gs before) :
    Calls P k args W fun e W' => ∃ v, e = .returned v ∧ s.post enc P f false true false false W args v W' := by
  have hW' := hW
  rw [hv] at hW
  obtain ⟨p, q, hA, hV, rfl, hfz, hnd⟩ := hW
  obtain ⟨rfl, rfl⟩ := trodVars_none hV
  have hlt : ∀ x ∈ p, x.block < W.heap.size := fun x hx => by have := hW'.lt x (by simp [hx]); simpa using this
  rw [hts] at hA
  obtain ⟨a, ha, hok⟩ := ho.out H enc W base args.toList ds p (fun j t v h1 h2 => hval j t v (by rw [← Array.getElem?_toList, hts]; exact h1) (by rw [← Array.getElem?_toList]; exact h2)) hA
  have hargs : args = (tv a).toArray := by apply Array.ext'; simpa using ha
  subst hargs
  refine (walk a hok).mono fun e W' ⟨he, hk⟩ => ?_
  have hbel := hk.below
  have hfn := hs H (ds ++ []) (by simpa using trodAll_length _ _ _ _ hA)
  refine ⟨_, he, ds, [], p ++ [], [], p, [], hW', ?_, ?_, ?_, hbel.frame _, fun h => by cases h⟩
  · rw [hfn, hr]; exact trodAll_cons_mk (shut_bool hb _) trodAll_mk0
  · rw [hfn, hts]; simpa using trodAll_stays hlo hbel ts _ ds p hps hlt hA
  · rw [hfn, hv]; exact rfl
/-- The same, of one row of arguments. -/
theorem law_contractA {P : Program} (hlo : laidOutB P = true) {k : FuncId} {f : Func} {s : ChangeSpec} {tb : TypeId} (hb : P.underlying tb = some .bool) (hr : f.resultTypes = #[tb]) (hv : s.vars = [])
    {ts : List TypeId} (hts : f.params.toList = ts) (hps : ∀ t ∈ ts, P.readableRec t = true ∧ t < P.types.size) {α : Type} {tv : α → List Value} {ok : World → α → Prop} [ho : Tops P ts α tv ok]
    (hs : ∀ (H : Type) (ds : List (DataW H)), ds.length = ts.length → s.fn H ds = { results := [.lit (.bool true)], args := ds })
    (W : World) (args : Array Value) (walk : ∀ (a : α), args = (tv a).toArray → ok W a → Calls P k (tv a).toArray W fun e W' => e = .returned (.bool true) ∧ K0 W W')
    (H : Type) (enc : TypeId × Value → H) (base : Nat) (ds gs : List (DataW H)) (before : List MemPlace)
    (hval : ∀ (j : Nat) t v, f.params[j]? = some t → args[j]? = some v → Value.okWide P W .any base t v)
    (hW : DataW.Whole enc P f.params.toList s.vars false W args.toList ds gs before) :
    Calls P k args W fun e W' => ∃ v, e = .returned v ∧ s.post enc P f false true false false W args v W' := by
  have hW' := hW
  rw [hv] at hW
  obtain ⟨p, q, hA, hV, rfl, hfz, hnd⟩ := hW
  obtain ⟨rfl, rfl⟩ := trodVars_none hV
  have hlt : ∀ x ∈ p, x.block < W.heap.size := fun x hx => by have := hW'.lt x (by simp [hx]); simpa using this
  rw [hts] at hA
  obtain ⟨a, ha, hok⟩ := ho.out H enc W base args.toList ds p (fun j t v h1 h2 => hval j t v (by rw [← Array.getElem?_toList, hts]; exact h1) (by rw [← Array.getElem?_toList]; exact h2)) hA
  have hargs : args = (tv a).toArray := by apply Array.ext'; simpa using ha
  subst hargs
  refine (walk a rfl hok).mono fun e W' ⟨he, hk⟩ => ?_
  have hbel := hk.below
  have hfn := hs H (ds ++ []) (by simpa using trodAll_length _ _ _ _ hA)
  refine ⟨_, he, ds, [], p ++ [], [], p, [], hW', ?_, ?_, ?_, hbel.frame _, fun h => by cases h⟩
  · rw [hfn, hr]; exact trodAll_cons_mk (shut_bool hb _) trodAll_mk0
  · rw [hfn, hts]; simpa using trodAll_stays hlo hbel ts _ ds p hps hlt hA
  · rw [hfn, hv]; exact rfl
end Go.Proofs.YtjfdhafmbcppjaaGreatDoor.H

set_option maxRecDepth 100000
namespace Go.Proofs.YtjfdhafmbcppjaaGreatDoor.H
instance : CelS Tryz.prog 1 1 := ⟨by kernel_rfl, by decide⟩
instance : CelS Tryz.prog 2 1 := ⟨by kernel_rfl, by decide⟩
instance : CelS Tryz.prog 3 1 := ⟨by kernel_rfl, by decide⟩
instance : CelS Tryz.prog 4 1 := ⟨by kernel_rfl, by decide⟩
instance : CelS Tryz.prog 5 1 := ⟨by kernel_rfl, by decide⟩
instance : CelS Tryz.prog 6 1 := ⟨by kernel_rfl, by decide⟩
instance : CelS Tryz.prog 7 4 := ⟨by kernel_rfl, by decide⟩
instance : StrT Tryz.prog 7 [2, 3, 4, 6] := ⟨_, Tryz.underlying7, rfl, by kernel_rfl, by kernel_rfl⟩
instance : CelS Tryz.prog 8 4 := ⟨by kernel_rfl, by decide⟩
instance : StrT Tryz.prog 8 [2, 3, 4, 6] := ⟨_, Tryz.underlying8, rfl, by kernel_rfl, by kernel_rfl⟩
instance : CelS Tryz.prog 9 1 := ⟨by kernel_rfl, by decide⟩
instance : CelS Tryz.prog 10 1 := ⟨by kernel_rfl, by decide⟩
instance : CelS Tryz.prog 11 1 := ⟨by kernel_rfl, by decide⟩
instance : CelS Tryz.prog 12 1 := ⟨by kernel_rfl, by decide⟩
instance : CelS Tryz.prog 13 2 := ⟨by kernel_rfl, by decide⟩
instance : StrT Tryz.prog 13 [9, 12] := ⟨_, Tryz.underlying13, rfl, by kernel_rfl, by kernel_rfl⟩
instance : CelS Tryz.prog 14 2 := ⟨by kernel_rfl, by decide⟩
instance : StrT Tryz.prog 14 [9, 12] := ⟨_, Tryz.underlying14, rfl, by kernel_rfl, by kernel_rfl⟩
instance : CelS Tryz.prog 15 1 := ⟨by kernel_rfl, by decide⟩
instance : CelS Tryz.prog 16 1 := ⟨by kernel_rfl, by decide⟩
instance : CelS Tryz.prog 17 1 := ⟨by kernel_rfl, by decide⟩
instance : CelS Tryz.prog 18 1 := ⟨by kernel_rfl, by decide⟩
instance : StrT Tryz.prog 18 [17] := ⟨_, Tryz.underlying18, rfl, by kernel_rfl, by kernel_rfl⟩
instance : CelS Tryz.prog 19 1 := ⟨by kernel_rfl, by decide⟩
instance : StrT Tryz.prog 19 [17] := ⟨_, Tryz.underlying19, rfl, by kernel_rfl, by kernel_rfl⟩
instance : CelS Tryz.prog 20 1 := ⟨by kernel_rfl, by decide⟩
instance : CelS Tryz.prog 21 1 := ⟨by kernel_rfl, by decide⟩
instance : CelS Tryz.prog 22 1 := ⟨by kernel_rfl, by decide⟩
instance : CelS Tryz.prog 23 1 := ⟨by kernel_rfl, by decide⟩
instance : CelS Tryz.prog 24 2 := ⟨by kernel_rfl, by decide⟩
instance : StrT Tryz.prog 24 [4, 23] := ⟨_, Tryz.underlying24, rfl, by kernel_rfl, by kernel_rfl⟩
instance : CelS Tryz.prog 25 2 := ⟨by kernel_rfl, by decide⟩
instance : StrT Tryz.prog 25 [4, 23] := ⟨_, Tryz.underlying25, rfl, by kernel_rfl, by kernel_rfl⟩
instance : CelS Tryz.prog 26 1 := ⟨by kernel_rfl, by decide⟩
instance : CelS Tryz.prog 28 1 := ⟨by kernel_rfl, by decide⟩
instance : CelS Tryz.prog 30 1 := ⟨by kernel_rfl, by decide⟩
instance : CelS Tryz.prog 31 1 := ⟨by kernel_rfl, by decide⟩
instance : CelS Tryz.prog 32 1 := ⟨by kernel_rfl, by decide⟩
instance : CelS Tryz.prog 33 1 := ⟨by kernel_rfl, by decide⟩
instance : CelS Tryz.prog 34 4 := ⟨by kernel_rfl, by decide⟩
instance : StrT Tryz.prog 34 [3, 3, 3, 33] := ⟨_, Tryz.underlying34, rfl, by kernel_rfl, by kernel_rfl⟩
instance : CelS Tryz.prog 35 4 := ⟨by kernel_rfl, by decide⟩
instance : StrT Tryz.prog 35 [3, 3, 3, 33] := ⟨_, Tryz.underlying35, rfl, by kernel_rfl, by kernel_rfl⟩
instance : CelS Tryz.prog 37 1 := ⟨by kernel_rfl, by decide⟩
instance : CelS Tryz.prog 38 1 := ⟨by kernel_rfl, by decide⟩
instance : CelS Tryz.prog 39 1 := ⟨by kernel_rfl, by decide⟩
instance : CelS Tryz.prog 40 1 := ⟨by kernel_rfl, by decide⟩
instance : CelS Tryz.prog 41 1 := ⟨by kernel_rfl, by decide⟩
instance : CelS Tryz.prog 42 1 := ⟨by kernel_rfl, by decide⟩
instance : CelS Tryz.prog 44 1 := ⟨by kernel_rfl, by decide⟩
instance : CelS Tryz.prog 45 1 := ⟨by kernel_rfl, by decide⟩
instance : CelS Tryz.prog 46 3 := ⟨by kernel_rfl, by decide⟩
instance : ArrT Tryz.prog 46 3 5 1 := ⟨Tryz.underlying46, by kernel_rfl, by kernel_rfl⟩
instance : CelS Tryz.prog 47 1 := ⟨by kernel_rfl, by decide⟩
instance : CelS Tryz.prog 48 1 := ⟨by kernel_rfl, by decide⟩
instance : CelS Tryz.prog 49 1 := ⟨by kernel_rfl, by decide⟩
instance : CelS Tryz.prog 50 1 := ⟨by kernel_rfl, by decide⟩
instance : CelS Tryz.prog 51 1 := ⟨by kernel_rfl, by decide⟩
instance : CelS Tryz.prog 52 1 := ⟨by kernel_rfl, by decide⟩
instance : CelS Tryz.prog 53 1 := ⟨by kernel_rfl, by decide⟩
instance : CelS Tryz.prog 54 2 := ⟨by kernel_rfl, by decide⟩
instance : ArrT Tryz.prog 54 2 5 1 := ⟨Tryz.underlying54, by kernel_rfl, by kernel_rfl⟩
instance : CelS Tryz.prog 55 1 := ⟨by kernel_rfl, by decide⟩
instance : CelS Tryz.prog 56 1 := ⟨by kernel_rfl, by decide⟩
instance : CelS Tryz.prog 57 1 := ⟨by kernel_rfl, by decide⟩
instance : CelS Tryz.prog 58 1 := ⟨by kernel_rfl, by decide⟩
instance : CelS Tryz.prog 59 1 := ⟨by kernel_rfl, by decide⟩
instance : CelS Tryz.prog 60 1 := ⟨by kernel_rfl, by decide⟩
instance : CelS Tryz.prog 61 1 := ⟨by kernel_rfl, by decide⟩
instance : CelS Tryz.prog 62 1 := ⟨by kernel_rfl, by decide⟩
instance : CelS Tryz.prog 63 1 := ⟨by kernel_rfl, by decide⟩
instance : CelS Tryz.prog 64 1 := ⟨by kernel_rfl, by decide⟩
instance : CelS Tryz.prog 65 1 := ⟨by kernel_rfl, by decide⟩
instance : CelS Tryz.prog 67 1 := ⟨by kernel_rfl, by decide⟩
instance : CelS Tryz.prog 68 1 := ⟨by kernel_rfl, by decide⟩
instance : CelS Tryz.prog 69 5 := ⟨by kernel_rfl, by decide⟩
instance : StrT Tryz.prog 69 [9, 35] := ⟨_, Tryz.underlying69, rfl, by kernel_rfl, by kernel_rfl⟩
instance : CelS Tryz.prog 70 5 := ⟨by kernel_rfl, by decide⟩
instance : StrT Tryz.prog 70 [9, 35] := ⟨_, Tryz.underlying70, rfl, by kernel_rfl, by kernel_rfl⟩
instance : CelS Tryz.prog 71 1 := ⟨by kernel_rfl, by decide⟩
instance : CelS Tryz.prog 72 1 := ⟨by kernel_rfl, by decide⟩
instance : CelS Tryz.prog 73 1 := ⟨by kernel_rfl, by decide⟩
instance : CelS Tryz.prog 74 1 := ⟨by kernel_rfl, by decide⟩
instance : CelS Tryz.prog 75 1 := ⟨by kernel_rfl, by decide⟩
instance : CelS Tryz.prog 76 1 := ⟨by kernel_rfl, by decide⟩
instance : CelS Tryz.prog 77 1 := ⟨by kernel_rfl, by decide⟩
instance : CelS Tryz.prog 78 1 := ⟨by kernel_rfl, by decide⟩
instance : CelS Tryz.prog 79 1 := ⟨by kernel_rfl, by decide⟩
instance : CelS Tryz.prog 80 1 := ⟨by kernel_rfl, by decide⟩
instance : CelS Tryz.prog 81 1 := ⟨by kernel_rfl, by decide⟩
instance : CelS Tryz.prog 82 1 := ⟨by kernel_rfl, by decide⟩
instance : CelS Tryz.prog 83 1 := ⟨by kernel_rfl, by decide⟩
instance : CelS Tryz.prog 84 1 := ⟨by kernel_rfl, by decide⟩
instance : CelS Tryz.prog 88 1 := ⟨by kernel_rfl, by decide⟩
instance : CelS Tryz.prog 89 1 := ⟨by kernel_rfl, by decide⟩
instance : CelS Tryz.prog 90 1 := ⟨by kernel_rfl, by decide⟩
instance : CelS Tryz.prog 91 1 := ⟨by kernel_rfl, by decide⟩
instance : CelS Tryz.prog 92 1 := ⟨by kernel_rfl, by decide⟩
instance : CelS Tryz.prog 93 2 := ⟨by kernel_rfl, by decide⟩
instance : StrT Tryz.prog 93 [3, 3] := ⟨_, Tryz.underlying93, rfl, by kernel_rfl, by kernel_rfl⟩
instance : CelS Tryz.prog 94 2 := ⟨by kernel_rfl, by decide⟩
instance : StrT Tryz.prog 94 [3, 3] := ⟨_, Tryz.underlying94, rfl, by kernel_rfl, by kernel_rfl⟩
instance : CelS Tryz.prog 96 1 := ⟨by kernel_rfl, by decide⟩
instance : CelS Tryz.prog 98 1 := ⟨by kernel_rfl, by decide⟩
instance : CelS Tryz.prog 99 1 := ⟨by kernel_rfl, by decide⟩
instance : CelS Tryz.prog 100 1 := ⟨by kernel_rfl, by decide⟩
instance : CelS Tryz.prog 101 1 := ⟨by kernel_rfl, by decide⟩
instance : CelS Tryz.prog 102 2 := ⟨by kernel_rfl, by decide⟩
instance : StrT Tryz.prog 102 [101, 50] := ⟨_, Tryz.underlying102, rfl, by kernel_rfl, by kernel_rfl⟩
instance : CelS Tryz.prog 103 2 := ⟨by kernel_rfl, by decide⟩
instance : StrT Tryz.prog 103 [101, 50] := ⟨_, Tryz.underlying103, rfl, by kernel_rfl, by kernel_rfl⟩
instance : CelS Tryz.prog 104 1 := ⟨by kernel_rfl, by decide⟩
instance : CelS Tryz.prog 105 1 := ⟨by kernel_rfl, by decide⟩
instance : CelS Tryz.prog 106 1 := ⟨by kernel_rfl, by decide⟩
instance : CelS Tryz.prog 108 1 := ⟨by kernel_rfl, by decide⟩
instance : CelS Tryz.prog 109 1 := ⟨by kernel_rfl, by decide⟩
instance : CelS Tryz.prog 110 1 := ⟨by kernel_rfl, by decide⟩
instance : CelS Tryz.prog 111 1 := ⟨by kernel_rfl, by decide⟩
instance : CelS Tryz.prog 112 1 := ⟨by kernel_rfl, by decide⟩
instance : CelS Tryz.prog 113 1 := ⟨by kernel_rfl, by decide⟩
instance : CelS Tryz.prog 114 1 := ⟨by kernel_rfl, by decide⟩
instance : CelS Tryz.prog 116 1 := ⟨by kernel_rfl, by decide⟩
instance : CelS Tryz.prog 117 1 := ⟨by kernel_rfl, by decide⟩
instance : CelS Tryz.prog 119 1 := ⟨by kernel_rfl, by decide⟩
instance : CelS Tryz.prog 120 1 := ⟨by kernel_rfl, by decide⟩
instance : CelS Tryz.prog 121 3 := ⟨by kernel_rfl, by decide⟩
instance : ArrT Tryz.prog 121 3 3 1 := ⟨Tryz.underlying121, by kernel_rfl, by kernel_rfl⟩
instance : CelS Tryz.prog 122 1 := ⟨by kernel_rfl, by decide⟩
instance : CelS Tryz.prog 123 1 := ⟨by kernel_rfl, by decide⟩
instance : CelS Tryz.prog 124 1 := ⟨by kernel_rfl, by decide⟩
instance : CelS Tryz.prog 125 1 := ⟨by kernel_rfl, by decide⟩
instance : CelS Tryz.prog 126 1 := ⟨by kernel_rfl, by decide⟩
instance : CelS Tryz.prog 127 1 := ⟨by kernel_rfl, by decide⟩
instance : CelS Tryz.prog 128 1 := ⟨by kernel_rfl, by decide⟩
instance : CelS Tryz.prog 129 1 := ⟨by kernel_rfl, by decide⟩
instance : CelS Tryz.prog 130 1 := ⟨by kernel_rfl, by decide⟩
instance : CelS Tryz.prog 131 1 := ⟨by kernel_rfl, by decide⟩
instance : CelS Tryz.prog 132 1 := ⟨by kernel_rfl, by decide⟩
instance : CelS Tryz.prog 133 1 := ⟨by kernel_rfl, by decide⟩
instance : CelS Tryz.prog 134 1 := ⟨by kernel_rfl, by decide⟩
instance : CelS Tryz.prog 135 1 := ⟨by kernel_rfl, by decide⟩
instance : CelS Tryz.prog 136 1 := ⟨by kernel_rfl, by decide⟩
instance : CelS Tryz.prog 138 1 := ⟨by kernel_rfl, by decide⟩
instance : CelS Tryz.prog 139 2 := ⟨by kernel_rfl, by decide⟩
instance : StrT Tryz.prog 139 [5, 5] := ⟨_, Tryz.underlying139, rfl, by kernel_rfl, by kernel_rfl⟩
instance : CelS Tryz.prog 140 2 := ⟨by kernel_rfl, by decide⟩
instance : StrT Tryz.prog 140 [5, 5] := ⟨_, Tryz.underlying140, rfl, by kernel_rfl, by kernel_rfl⟩
instance : CelS Tryz.prog 141 32 := ⟨by kernel_rfl, by decide⟩
instance : ArrT Tryz.prog 141 16 140 2 := ⟨Tryz.underlying141, by kernel_rfl, by kernel_rfl⟩
instance : CelS Tryz.prog 142 1 := ⟨by kernel_rfl, by decide⟩
instance : CelS Tryz.prog 143 1 := ⟨by kernel_rfl, by decide⟩
instance : CelS Tryz.prog 144 1 := ⟨by kernel_rfl, by decide⟩
instance : CelS Tryz.prog 145 24 := ⟨by kernel_rfl, by decide⟩
instance : ArrT Tryz.prog 145 24 5 1 := ⟨Tryz.underlying145, by kernel_rfl, by kernel_rfl⟩
instance : CelS Tryz.prog 146 1 := ⟨by kernel_rfl, by decide⟩
instance : CelS Tryz.prog 147 1 := ⟨by kernel_rfl, by decide⟩
instance : CelS Tryz.prog 148 1 := ⟨by kernel_rfl, by decide⟩
instance : CelS Tryz.prog 150 1 := ⟨by kernel_rfl, by decide⟩
instance : CelS Tryz.prog 151 1 := ⟨by kernel_rfl, by decide⟩
instance : CelS Tryz.prog 153 1 := ⟨by kernel_rfl, by decide⟩
instance : CelS Tryz.prog 154 1 := ⟨by kernel_rfl, by decide⟩
instance : CelS Tryz.prog 155 1 := ⟨by kernel_rfl, by decide⟩
instance : CelS Tryz.prog 157 1 := ⟨by kernel_rfl, by decide⟩
instance : CelS Tryz.prog 158 1 := ⟨by kernel_rfl, by decide⟩
instance : CelS Tryz.prog 159 1 := ⟨by kernel_rfl, by decide⟩
instance : CelS Tryz.prog 160 1 := ⟨by kernel_rfl, by decide⟩
instance : CelS Tryz.prog 161 20 := ⟨by kernel_rfl, by decide⟩
instance : ArrT Tryz.prog 161 20 146 1 := ⟨Tryz.underlying161, by kernel_rfl, by kernel_rfl⟩
instance : CelS Tryz.prog 163 1 := ⟨by kernel_rfl, by decide⟩
instance : CelS Tryz.prog 165 1 := ⟨by kernel_rfl, by decide⟩
instance : CelS Tryz.prog 166 1 := ⟨by kernel_rfl, by decide⟩
instance : CelS Tryz.prog 167 3 := ⟨by kernel_rfl, by decide⟩
instance : StrT Tryz.prog 167 [9, 9, 106] := ⟨_, Tryz.underlying167, rfl, by kernel_rfl, by kernel_rfl⟩
instance : CelS Tryz.prog 168 3 := ⟨by kernel_rfl, by decide⟩
instance : StrT Tryz.prog 168 [9, 9, 106] := ⟨_, Tryz.underlying168, rfl, by kernel_rfl, by kernel_rfl⟩
instance : CelS Tryz.prog 169 1 := ⟨by kernel_rfl, by decide⟩
instance : CelS Tryz.prog 170 1 := ⟨by kernel_rfl, by decide⟩
instance : CelS Tryz.prog 171 1 := ⟨by kernel_rfl, by decide⟩
instance : CelS Tryz.prog 172 1 := ⟨by kernel_rfl, by decide⟩
instance : CelS Tryz.prog 173 1 := ⟨by kernel_rfl, by decide⟩
instance : StrT Tryz.prog 173 [9] := ⟨_, Tryz.underlying173, rfl, by kernel_rfl, by kernel_rfl⟩
instance : CelS Tryz.prog 174 1 := ⟨by kernel_rfl, by decide⟩
instance : StrT Tryz.prog 174 [9] := ⟨_, Tryz.underlying174, rfl, by kernel_rfl, by kernel_rfl⟩
instance : CelS Tryz.prog 175 32 := ⟨by kernel_rfl, by decide⟩
instance : ArrT Tryz.prog 175 32 5 1 := ⟨Tryz.underlying175, by kernel_rfl, by kernel_rfl⟩
instance : CelS Tryz.prog 176 64 := ⟨by kernel_rfl, by decide⟩
instance : ArrT Tryz.prog 176 64 5 1 := ⟨Tryz.underlying176, by kernel_rfl, by kernel_rfl⟩
instance : CelS Tryz.prog 177 4 := ⟨by kernel_rfl, by decide⟩
instance : StrT Tryz.prog 177 [17, 17, 17, 9] := ⟨_, Tryz.underlying177, rfl, by kernel_rfl, by kernel_rfl⟩
instance : CelS Tryz.prog 178 4 := ⟨by kernel_rfl, by decide⟩
instance : StrT Tryz.prog 178 [17, 17, 17, 9] := ⟨_, Tryz.underlying178, rfl, by kernel_rfl, by kernel_rfl⟩
instance : ArrT Tryz.prog 179 0 16 1 := ⟨Tryz.underlying179, by kernel_rfl, by kernel_rfl⟩
instance : StrT Tryz.prog 180 [179] := ⟨_, Tryz.underlying180, rfl, by kernel_rfl, by kernel_rfl⟩
instance : StrT Tryz.prog 181 [179] := ⟨_, Tryz.underlying181, rfl, by kernel_rfl, by kernel_rfl⟩
instance : CelS Tryz.prog 182 1 := ⟨by kernel_rfl, by decide⟩
instance : CelS Tryz.prog 183 1 := ⟨by kernel_rfl, by decide⟩
instance : CelS Tryz.prog 184 1 := ⟨by kernel_rfl, by decide⟩
instance : CelS Tryz.prog 185 1 := ⟨by kernel_rfl, by decide⟩
instance : CelS Tryz.prog 186 1 := ⟨by kernel_rfl, by decide⟩
instance : CelS Tryz.prog 187 1 := ⟨by kernel_rfl, by decide⟩
instance : CelS Tryz.prog 188 11 := ⟨by kernel_rfl, by decide⟩
instance : StrT Tryz.prog 188 [12, 12, 151, 183, 5, 5, 184, 185, 127, 186, 187] := ⟨_, Tryz.underlying188, rfl, by kernel_rfl, by kernel_rfl⟩
instance : CelS Tryz.prog 189 11 := ⟨by kernel_rfl, by decide⟩
instance : StrT Tryz.prog 189 [12, 12, 151, 183, 5, 5, 184, 185, 127, 186, 187] := ⟨_, Tryz.underlying189, rfl, by kernel_rfl, by kernel_rfl⟩
end Go.Proofs.YtjfdhafmbcppjaaGreatDoor.H

namespace Go.Proofs.YtjfdhafmbcppjaaGreatDoor.Ve
open Go.RowKit H
theorem tab_at {P : Program} {W : World} {name : String} {k : IntKind} {zs : List Int} {rest : List (String × DataW Unit)} {t e : TypeId} {n : Nat}
    (hty : (P.globalNamed name).bind (fun g => (P.globals[g]?).map (·.type)) = some t) (ht : P.underlying t = some (.array n e)) (he : P.underlying e = some (.int k)) (hce : P.cellsOf e = 1) (hct : P.cellsOf t = n)
    (h : laidMet P ((name, Go.Lib.tabData k zs) :: rest) W) : Go.Lib.TabIs P W name k zs := by
  obtain ⟨g, hg⟩ : ∃ g, P.globalNamed name = some g := by
    cases hh : P.globalNamed name with
    | none => rw [hh] at hty; cases hty
    | some g => exact ⟨g, rfl⟩
  rw [hg] at hty
  exact Go.Lib.tabIs_of_head hg hty ht he hce hct h
theorem tb_of {W : World} {rest : List (String × DataW Unit)} (h : laidMet Tryz.prog (("internal/strconv.uint64pow10", Rows.laid_internal_strconv_uint64pow10) :: rest) W) : Tb W :=
  tab_at (t := 161) (by kernel_rfl) Tryz.underlying161 Tryz.underlying146 (by kernel_rfl) (by kernel_rfl) h
end Go.Proofs.YtjfdhafmbcppjaaGreatDoor.Ve

namespace Go.Proofs.YtjfdhafmbcppjaaGreatDoor.H
open Go Go.RowKit
variable {Hh : Type} {enc : TypeId × Value → Hh}
/-- A row out of its walk: the listed variables, and the shape of the first world. -/
theorem handed_and_shaped {a : Assume} {C : Checked} {os : Os} {f : FuncId} {fn : Func} {s : ChangeSpec} {conds : List PathCond} {apart fresh handsOn again : Bool} {X : World → Array Value → Prop}
    (hX : ∀ (w w' : World) (args : Array Value), w.heap = w'.heap → X w args → X w' args)
    (own : ownKnob C.prog.godebug = none) (started : os.Started) (noInit : C.prog.inits.idxOf? f = none) (hfn : C.prog.funcs[f]? = some fn)
    (witness : ∃ (w : World) (tape : Tape) (i : Input), w.os = os ∧ (w.forCall tape i).Shaped C.prog ∧ i.vars = [] ∧ Input.okWide C.prog (w.forCall tape i) .any w.heap.size f i ∧
      ((s.pre enc C.prog fn conds apart (w.forCall tape i).memory i.args ∧ X (w.forCall tape i).memory i.args) ∧ sizedMet enc C.prog fn (OpenSpec.ofChange s) apart (w.forCall tape i).memory i.args) ∧ a.holds C.prog (lone (Frame.enter C.prog f i.args .normal) [] (w.forCall tape i)))
    (contract : ∀ (W : World) (base : Nat) (args : Array Value) (ds gs : List (DataW Hh)) (before : List MemPlace),
      (∀ (j : Nat) t v, fn.params[j]? = some t → args[j]? = some v → Value.okWide C.prog W .any base t v) →
      DataW.Whole enc C.prog fn.params.toList s.vars apart W args.toList ds gs before → X W args → W.ShapedOpen C.prog →
      Calls C.prog f args W fun e W' => ∃ v, e = .returned v ∧ s.post enc C.prog fn apart fresh handsOn again W args v W') :
    ReturnsInHanded a C os f .any (fun w args => (s.pre enc C.prog fn conds apart w args ∧ X w args) ∧ sizedMet enc C.prog fn (OpenSpec.ofChange s) apart w args) (s.post enc C.prog fn apart fresh handsOn again) := by
  refine returnsInHanded_of_calls own started noInit witness ?_
  intro w tape i _ hsh _ hok hpre _
  obtain ⟨_, _, _, fn', hfn', _, _, _, _, hval⟩ := hok
  have e : fn' = fn := Option.some.inj (hfn'.symm.trans hfn)
  subst e
  obtain ⟨⟨⟨ds, gs, before, hw, _⟩, hx⟩, _⟩ := hpre
  have hw' := DataW.Whole.of_heap (w' := w.forCall tape i) (by rfl) hw
  refine (contract (w.forCall tape i) w.heap.size i.args ds gs before hval hw' (hX _ _ _ (by rfl) hx) hsh).mono fun e W' ⟨v, he, hp⟩ => ?_
  subst he
  exact ChangeSpec.post_blind hp
end Go.Proofs.YtjfdhafmbcppjaaGreatDoor.H
namespace Go.Proofs.YtjfdhafmbcppjaaGreatDoor.S
open Go Go.RowKit
theorem ml_of {W : World} (h : W.ShapedOpen Tryz.prog) : Ml W := cell_of_shapedOpen_int (zero := #[.int .i64 0]) (t := 3) h (of_decide_eq_true (by kernel_rfl)) (by kernel_rfl) rfl (by kernel_rfl) (by kernel_rfl) Tryz.underlying3
end Go.Proofs.YtjfdhafmbcppjaaGreatDoor.S

namespace Go.Proofs.YtjfdhafmbcppjaaGreatDoor.spanMarks
open Go.ChangeShapes Go.WideShapes Go.ChangeAt Go.RowKit
set_option linter.unusedVariables false

theorem own : ownKnob Tryz.prog.godebug = none := by kernel_rfl
theorem types : ∀ t ∈ ([5, 54, 54, 4] : List TypeId), Tryz.prog.readableRec t = true ∧ t < Tryz.prog.types.size := by
  intro t ht
  simp only [List.mem_cons, List.not_mem_nil, or_false] at ht
  rcases ht with rfl | rfl | rfl | rfl <;> exact ⟨by kernel_rfl, of_decide_eq_true (by kernel_rfl)⟩

set_option maxRecDepth 100000 in
theorem lifted (os : Os) (started : os.Started) (H : Type) (enc : TypeId × Value → H) :
    ReturnsInHanded {} Tryz.checked os 7 .any (fun w args => (Rows.spanMarksSpec.pre enc Tryz.prog Tryz.f7 Rows.spanMarksRow.domain false w args ∧ laidMetH Tryz.prog Rows.spanMarksRow.laid w) ∧ sizedMet enc Tryz.prog Tryz.f7 (OpenSpec.ofChange Rows.spanMarksSpec) false w args) (Rows.spanMarksSpec.post enc Tryz.prog Tryz.f7 false true false false) := by
  refine Go.Proofs.YtjfdhafmbcppjaaGreatDoor.H.handed_and_shaped (C := Tryz.checked) (X := fun w _ => laidMetH Tryz.prog Rows.spanMarksRow.laid w) (fun _ _ _ hh h => h.of_heap hh) own started (by kernel_rfl) Tryz.func7
    (ChangeSpec.witness_shaped (enc := enc) (C := Tryz.checked) (os := os) (X := fun w _ => laidMetH Tryz.prog Rows.spanMarksRow.laid w) false (World.laidAll Tryz.prog os Rows.spanMarksRow.laid) #[.int .u8 0, Value.agg #[.int .u8 0, .int .u8 0], Value.agg #[.int .u8 0, .int .u8 0], .bool false] 8 (World.laidAll_os _ _ _)
      (World.shaped_of_ZipB (by kernel_rfl) (by kernel_rfl)) (by kernel_rfl) (by kernel_rfl) (by kernel_rfl)
      (by rw [MakeChecks.laidMetH_plain _ _ _ (by kernel_rfl)]; exact laidMet_laidAll _ (by kernel_rfl) (by kernel_rfl))) ?_
  intro W base args ds gs before hval hW hL hsh
  have hL' : laidMet Tryz.prog Rows.spanMarksRow.laid W := by have h := hL; rw [MakeChecks.laidMetH_plain _ _ _ (by kernel_rfl)] at h; exact h
  have hT := Go.Proofs.YtjfdhafmbcppjaaGreatDoor.Ve.tb_of hL'.tail.tail
  have hM := Go.Proofs.YtjfdhafmbcppjaaGreatDoor.S.ml_of hsh
  exact Go.Proofs.YtjfdhafmbcppjaaGreatDoor.H.law_contractW (P := Tryz.prog) (k := 7) (f := Tryz.f7) (s := Rows.spanMarksSpec) (tb := 4) (by kernel_rfl) Tryz.underlying4 rfl rfl (ts := [5, 54, 54, 4]) rfl types (fun H ds h => match ds, h with | [d1, d2, d3, d4], _ => rfl)
    W ((fun a h => by
  obtain ⟨g, l, m, same, ⟨⟩⟩ := a
  obtain ⟨_, ⟨hl, _⟩, ⟨hm, _⟩, _⟩ := h
  match l, hl with
  | [a0, a1], _ =>
    match m, hm with
    | [b0, b1], _ => exact Sp.lawMarks g a0 a1 b0 b1 same W hT hM))
    H enc base args ds gs before hval hW

theorem over : Rows.SpanMarksSaid :=
  OpenClaim.holds_of_wide 7 Tryz.f7 rfl rfl rfl rfl rfl rfl rfl ⟨rfl, rfl, rfl, rfl, rfl⟩ rfl rfl rfl rfl rfl (by kernel_rfl) Tryz.func7 (by kernel_rfl)
    (of_decide_eq_true (by kernel_rfl)) (by unfold Func.isWrapper; first | (rw [if_pos (by decide +kernel)]; kernel_rfl) | (rw [if_neg (by decide +kernel)]; exact ⟨rfl, rfl⟩))
    (fun os started H enc _ => lifted os started H enc)

theorem plain (f : FuncId) (fn : Func) (hf : Tryz.pinned.checked.prog.funcNamed "haversack/haversacklaw10.SpanMarks" = some f) (hfn : Tryz.pinned.checked.prog.funcs[f]? = some fn) :
    true = Tryz.pinned.checked.prog.looks [] ∧ ∀ (j : Nat) t, fn.params[j]? = some t → Tryz.pinned.checked.prog.wantsStandIn t = false := by
  obtain rfl : f = 7 := Option.some.inj ((show Tryz.prog.funcNamed "haversack/haversacklaw10.SpanMarks" = some 7 by kernel_rfl).symm.trans hf) |>.symm
  obtain rfl : fn = Tryz.f7 := (Option.some.inj (Tryz.func7.symm.trans hfn)).symm
  refine ⟨by kernel_rfl, fun j t ht => ?_⟩
  have hm : t ∈ ([5, 54, 54, 4] : List TypeId) := by simpa using Array.mem_of_getElem? ht
  have hall : (([5, 54, 54, 4] : List TypeId).all fun u => !Tryz.prog.wantsStandIn u) = true := by kernel_rfl
  exact (show Tryz.prog.wantsStandIn t = false by simpa using List.all_eq_true.1 hall t hm)

theorem proved : Rows.SpanMarksCardSaid :=
  Claim7.holds_tied_plain_at .later [] _ _ _ _ over (fun _ h => by cases h) (by kernel_rfl) (fun _ h => by cases h) spanMarks_row_tie rfl ⟨rfl, rfl⟩ (by kernel_rfl) rfl plain (by kernel_rfl)
#print axioms proved
end Go.Proofs.YtjfdhafmbcppjaaGreatDoor.spanMarks

