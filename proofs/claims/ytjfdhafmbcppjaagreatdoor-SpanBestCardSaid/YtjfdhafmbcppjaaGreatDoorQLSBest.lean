/-
  It is proved that the statement SpanBest returns true for every input and does not panic. Conditions: the listed package-level variables start as the program's text lays them (the card ties them).
-/
import Derived.Test.YtjfdhafmbcppjaaGreatDoorQf
import Derived.Test.YtjfdhafmbcppjaaGreatDoorQb
import Derived.WalkKit
import Derived.ProofKit
import Derived.OpenShut
import Derived.Carry
import Derived.ChangeArms
import Derived.Deep.Slices
import Derived.Test.YtjfdhafmbcppjaaGreatDoorQc
import Derived.Test.YtjfdhafmbcppjaaGreatDoorRows
import Derived.Stop.LaidErr
import Derived.Lib.LaidTab
import Derived.LaidMore
import Derived.Handed
import Derived.HandedShaped
import Derived.Shelf.Vars
import Derived.Test.YtjfdhafmbcppjaaGreatDoorCards
import Derived.Test.YtjfdhafmbcppjaaGreatDoorTie
import Derived.Lay
import Derived.SevenTiedAt
import Derived.Stop.Joined
set_option linter.unusedVariables false
namespace Go.Proofs.YtjfdhafmbcppjaaGreatDoor.Sp
open Go.RowKit H S Ve
attribute [local irreducible] H.CL H.RW H.CW H.Yd H.thenK H.blockQ Go.Calls

abbrev Tr := UInt8 × UInt8 × UInt8
def tc (x : Tr) : List Value := [vb x.1, vb x.2.1, vb x.2.2]
theorem tc_len : ∀ x, (tc x).length = 3 := fun _ => rfl
def trV (x : Tr) : Ver := nv (x.1.toNat % 3) (x.2.1.toNat % 3) (x.2.2.toNat % 3)
def rkT (x : Tr) : Int := ((9 * (x.1.toNat % 3) + 3 * (x.2.1.toNat % 3) + x.2.2.toNat % 3 : Nat) : Int)
theorem rank_all : ((List.range 3).all fun a => (List.range 3).all fun b => (List.range 3).all fun c => (List.range 3).all fun x => (List.range 3).all fun y => (List.range 3).all fun z => decide (cmpV (nv a b c) (nv x y z) = cmpI ((9 * a + 3 * b + c : Nat) : Int) ((9 * x + 3 * y + z : Nat) : Int))) = true := by kernel_rfl
theorem rank_cmp (s t : Tr) : cmpV (trV s) (trV t) = cmpI (rkT s) (rkT t) := by
  have := all_range (all_range (all_range (all_range (all_range (all_range rank_all (Nat.mod_lt s.1.toNat (show 3 > 0 by decide))) (Nat.mod_lt s.2.1.toNat (show 3 > 0 by decide))) (Nat.mod_lt s.2.2.toNat (show 3 > 0 by decide))) (Nat.mod_lt t.1.toNat (show 3 > 0 by decide))) (Nat.mod_lt t.2.1.toNat (show 3 > 0 by decide))) (Nat.mod_lt t.2.2.toNat (show 3 > 0 by decide))
  exact of_decide_eq_true this
theorem cmpI_sign (a b : Int) : (0 < cmpI a b ↔ b < a) ∧ (cmpI a b = 0 ↔ a = b) := by
  unfold cmpI
  repeat' split
  all_goals omega
/-- What the best one is. -/
theorem best_facts (s : Spn) (l : List Tr) : ∀ n, n ≤ l.length → (bestF s (l.map trV) n < 0 → ∀ i, i < n → hasB s (trV (l.getD i default)) = false) ∧
    (0 ≤ bestF s (l.map trV) n → hasB s (trV (l.getD (bestF s (l.map trV) n).toNat default)) = true ∧ ∀ i : Nat, i < n → hasB s (trV (l.getD i default)) = true → rkT (l.getD i default) ≤ rkT (l.getD (bestF s (l.map trV) n).toNat default) ∧ (rkT (l.getD i default) = rkT (l.getD (bestF s (l.map trV) n).toNat default) → bestF s (l.map trV) n ≤ i)) := by
  intro n
  induction n with
  | zero => intro _; exact ⟨fun _ i hi => by omega, fun h => by simp [bestF] at h⟩
  | succ n ih =>
    intro hn
    obtain ⟨h1, h2⟩ := ih (by omega)
    have hbd := bestF_bd s (l.map trV) n
    have hg : (l.map trV).getD n default = trV (l.getD n default) := by
      have hlt : n < l.length := by omega
      simp [List.getD_eq_getElem?_getD, hlt]
    have hst : bestF s (l.map trV) (n + 1) = if (hasB s (trV (l.getD n default)) && (decide (bestF s (l.map trV) n < 0) || decide (0 < cmpV (trV (l.getD n default)) ((l.map trV).getD (bestF s (l.map trV) n).toNat default)))) = true then (n : Int) else bestF s (l.map trV) n := by rw [bestF, hg]
    have hgb : 0 ≤ bestF s (l.map trV) n → (l.map trV).getD (bestF s (l.map trV) n).toNat default = trV (l.getD (bestF s (l.map trV) n).toNat default) := fun h => by
      have hlt : (bestF s (l.map trV) n).toNat < l.length := by omega
      simp [List.getD_eq_getElem?_getD, hlt]
    generalize hB : bestF s (l.map trV) n = m at *
    cases hh : hasB s (trV (l.getD n default)) with
    | false =>
      rw [hh, Bool.false_and, if_neg (by decide)] at hst
      rw [hst]
      refine ⟨fun hm i hi => ?_, fun hm => ⟨(h2 hm).1, fun i hi hi2 => ?_⟩⟩
      · rcases Nat.lt_or_ge i n with h | h
        · exact h1 hm i h
        · have : i = n := by omega
          subst this; exact hh
      · rcases Nat.lt_or_ge i n with h | h
        · exact (h2 hm).2 i h hi2
        · have : i = n := by omega
          subst this; rw [hh] at hi2; cases hi2
    | true =>
      rw [hh, Bool.true_and] at hst
      by_cases hm : m < 0
      · rw [decide_eq_true hm, Bool.true_or, if_pos rfl] at hst
        rw [hst]
        refine ⟨fun h => by omega, fun _ => ⟨by rw [Int.toNat_natCast]; exact hh, fun i hi hi2 => ?_⟩⟩
        rcases Nat.lt_or_ge i n with h | h
        · rw [h1 hm i h] at hi2; cases hi2
        · have : i = n := by omega
          subst this; rw [Int.toNat_natCast]; exact ⟨Int.le_refl _, fun _ => Int.le_refl _⟩
      · have hm0 : 0 ≤ m := by omega
        rw [decide_eq_false hm, Bool.false_or, hgb hm0, rank_cmp] at hst
        have hs := cmpI_sign (rkT (l.getD n default)) (rkT (l.getD m.toNat default))
        obtain ⟨b1, b2⟩ := h2 hm0
        by_cases hc : 0 < cmpI (rkT (l.getD n default)) (rkT (l.getD m.toNat default))
        · rw [if_pos (decide_eq_true hc)] at hst
          have hlt := hs.1.1 hc
          rw [hst]
          refine ⟨fun h => by omega, fun _ => ⟨by rw [Int.toNat_natCast]; exact hh, fun i hi hi2 => ?_⟩⟩
          rw [Int.toNat_natCast]
          rcases Nat.lt_or_ge i n with h | h
          · have := (b2 i h hi2).1
            exact ⟨by omega, fun e => by omega⟩
          · have : i = n := by omega
            subst this; exact ⟨Int.le_refl _, fun _ => Int.le_refl _⟩
        · rw [if_neg (by rw [decide_eq_false hc]; decide)] at hst
          have hle : rkT (l.getD n default) ≤ rkT (l.getD m.toNat default) := by
            have := fun h => hc (hs.1.2 h)
            omega
          rw [hst]
          refine ⟨fun h => by omega, fun _ => ⟨b1, fun i hi hi2 => ?_⟩⟩
          rcases Nat.lt_or_ge i n with h | h
          · exact b2 i h hi2
          · have : i = n := by omega
            subst this; exact ⟨hle, fun _ => by omega⟩
def trC (x : Tr) : Ver × Value := (trV x, .slice none 0 0)
theorem trC_at {w : World} {v : Value} {l : List Tr} (h : Sl w 4 v l.length ((l.map trC).flatMap verCl)) : VersAt w v (l.map trV) :=
  ⟨l.map trC, by rw [List.map_map]; rfl, by rw [List.length_map]; exact h, fun x hx => by obtain ⟨y, _, rfl⟩ := List.mem_map.1 hx; exact Sl.nil _ _⟩
theorem trV_fit (x : Tr) : FitV (trV x) := nv_fit _ _ _ (by omega) (by omega) (by omega)

set_option maxHeartbeats 4000000 in
theorem lawBest (va vw : Value) (l : List Tr) (b : List UInt8) (w : World) (hs : Sl w 3 va l.length (l.flatMap tc)) (hw : Sl w 1 vw b.length (bv b)) (hT : Tb w) (hM : Ml w) : Calls Tryz.prog 8 #[va, vw] w fun e w' => e = .returned (.bool true) ∧ K0 w w' := by
  have hmx : l.length ≤ 9223372036854775807 := by have := hs.2.1; simpa [maxLen] using this
  refine H.enter Tryz.func8 Tryz.ntmps8 rfl rfl ?_; dsimp only [H.args]
  repeat' (first | (refine CL.seq ?_) | (refine CL.region ?_) | (refine CL.skip ?_) | (refine CL.condP rfl (fun _ => ?_) (fun _ => ?_) <;> try (exfalso; omega)) | (refine CL.condT rfl ?_) | (refine CL.condF rfl ?_) | (refine CL.cond rfl (fun _ => ?_) (fun _ => ?_)) | (refine CL.block ?_) | (refine CL.exit ?_) | (refine Ex.then ?_) | (refine Ex.hit ?_) | (refine Ex.miss rfl ?_) | (refine CL.ret ?_) | (refine Rt.then ?_) | (refine Rt.block ?_) | (refine Pn.then ?_) | (refine Pn.block ?_) | (refine CL.done ?_) | (refine Nm.block ?_) | (refine Nm.then ?_) | (refine Gt.nil ?_; refine RW.nilw [0, 1, 4, 5, 6, 7, 8, 9, 10, 11, 12, 13, 15, 28, 38, 75, 84, 96, 116] ?_; dsimp only [H.keep, H.look, H.Fr.put, Nat.beq]) | (refine Gt.move ?_; refine RW.y (Y.move rfl) rfl ?_) | (refine Gt.guard ?_; first | (refine RW.part rfl rfl rfl (fun _ => ?_) (fun _ => ?_) <;> try (exfalso; omega)) | (refine RW.on rfl rfl rfl ?_) | (refine RW.off1 rfl rfl rfl rfl rfl ?_) | (refine RW.off rfl rfl rfl rfl rfl ?_) | (refine RW.offu rfl rfl rfl rfl ?_) | (refine RW.partb rfl rfl rfl (fun _ => ?_) (fun _ => ?_))) | (refine Gt.assign ?_; refine RW.y (Y.assign rfl) rfl ?_) | (refine Gt.pick ?_; first | (refine RW.y (Y.pickT rfl rfl) rfl ?_) | (refine RW.y (Y.pickF rfl rfl) rfl ?_)) | (refine Gt.load ?_; first | (refine RW.y (Y.loadB rfl (by assumption) rfl) rfl ?_) | (refine RW.y (Y.loadBlock rfl (by assumption) rfl) rfl ?_)) | (refine Gt.len ?_; first | (refine RW.y (Y.lenv rfl) rfl ?_) | (refine RW.y (Y.lenx rfl (by assumption)) rfl ?_)) | (refine Gt.lss ?_; refine RW.y (Y.lss rfl rfl) rfl ?_) | (refine Gt.not ?_; first | (refine RW.y (Y.not rfl) rfl ?_) | (refine RW.y (Y.notb rfl) rfl ?_)) | (refine Gt.extract ?_; refine RW.y (Y.extract rfl rfl) rfl ?_) | (refine Gt.idx ?_; first | (refine RW.elemF rfl rfl rfl rfl rfl rfl (by assumption) (fun _ => by rfl) rfl (by omega) (by omega) (by rfl) (fun _ _ => ?_)) | (refine RW.elemA rfl rfl rfl rfl (by assumption) (fun _ => by rfl) rfl (by omega) (by omega) (fun _ => ?_)) | (refine RW.elemM rfl rfl rfl rfl (by assumption) (by omega) (by omega) ?_) | (refine RW.y (Y.idxP rfl rfl (by omega) (by omega)) rfl ?_)) | (refine Gt.gtr ?_; refine RW.y (Y.gtr rfl rfl) rfl ?_) | (refine Gt.rem ?_; first | (refine RW.y (Y.remP rfl rfl (by omega) (by omega)) rfl ?_) | (refine RW.y (Y.rem rfl rfl (by omega)) rfl ?_)) | (refine Gt.convert ?_; first | (refine RW.y (Y.convN rfl (by first | exact wrap64_id (by omega) (by omega) | exact wrapu64_id (by omega) (by omega) | exact wrapu8_id (by omega) (by omega) | exact wrapu16_id (by omega) (by omega) | exact wrapu32_id (by omega) (by omega))) rfl ?_) | (refine RW.y (Y.convW rfl) rfl ?_)) | (refine Gt.add ?_; refine RW.y (Y.add64 rfl rfl (by omega) (by omega)) rfl ?_) | (refine Gt.eql ?_; first | (refine RW.y (Y.eqi rfl rfl) rfl ?_) | (refine RW.y (Y.eqb rfl rfl) rfl ?_)) | (refine Gt.geq ?_; refine RW.y (Y.geq rfl rfl) rfl ?_) | (refine RW.y (Y.build (ps := [(0, _), (1, _), (2, _)]) rfl rfl) rfl ?_))
  refine RW.fn rfl rfl ((known w hT hM).mono ?_)
  rintro e w1 ⟨rfl, hk1⟩
  have hs1 := hs.keep0 hk1
  have hw1 := hw.keep0 hk1
  repeat' (first | (refine CL.seq ?_) | (refine CL.region ?_) | (refine CL.skip ?_) | (refine CL.condP rfl (fun _ => ?_) (fun _ => ?_) <;> try (exfalso; omega)) | (refine CL.condT rfl ?_) | (refine CL.condF rfl ?_) | (refine CL.cond rfl (fun _ => ?_) (fun _ => ?_)) | (refine CL.block ?_) | (refine CL.exit ?_) | (refine Ex.then ?_) | (refine Ex.hit ?_) | (refine Ex.miss rfl ?_) | (refine CL.ret ?_) | (refine Rt.then ?_) | (refine Rt.block ?_) | (refine Pn.then ?_) | (refine Pn.block ?_) | (refine CL.done ?_) | (refine Nm.block ?_) | (refine Nm.then ?_) | (refine Gt.nil ?_; refine RW.nilw [0, 1, 4, 5, 6, 7, 8, 9, 10, 11, 12, 13, 15, 28, 38, 75, 84, 96, 116] ?_; dsimp only [H.keep, H.look, H.Fr.put, Nat.beq]) | (refine Gt.move ?_; refine RW.y (Y.move rfl) rfl ?_) | (refine Gt.guard ?_; first | (refine RW.part rfl rfl rfl (fun _ => ?_) (fun _ => ?_) <;> try (exfalso; omega)) | (refine RW.on rfl rfl rfl ?_) | (refine RW.off1 rfl rfl rfl rfl rfl ?_) | (refine RW.off rfl rfl rfl rfl rfl ?_) | (refine RW.offu rfl rfl rfl rfl ?_) | (refine RW.partb rfl rfl rfl (fun _ => ?_) (fun _ => ?_))) | (refine Gt.assign ?_; refine RW.y (Y.assign rfl) rfl ?_) | (refine Gt.pick ?_; first | (refine RW.y (Y.pickT rfl rfl) rfl ?_) | (refine RW.y (Y.pickF rfl rfl) rfl ?_)) | (refine Gt.load ?_; first | (refine RW.y (Y.loadB rfl (by assumption) rfl) rfl ?_) | (refine RW.y (Y.loadBlock rfl (by assumption) rfl) rfl ?_)) | (refine Gt.len ?_; first | (refine RW.y (Y.lenv rfl) rfl ?_) | (refine RW.y (Y.lenx rfl (by assumption)) rfl ?_)) | (refine Gt.lss ?_; refine RW.y (Y.lss rfl rfl) rfl ?_) | (refine Gt.not ?_; first | (refine RW.y (Y.not rfl) rfl ?_) | (refine RW.y (Y.notb rfl) rfl ?_)) | (refine Gt.extract ?_; refine RW.y (Y.extract rfl rfl) rfl ?_) | (refine Gt.idx ?_; first | (refine RW.elemF rfl rfl rfl rfl rfl rfl (by assumption) (fun _ => by rfl) rfl (by omega) (by omega) (by rfl) (fun _ _ => ?_)) | (refine RW.elemA rfl rfl rfl rfl (by assumption) (fun _ => by rfl) rfl (by omega) (by omega) (fun _ => ?_)) | (refine RW.elemM rfl rfl rfl rfl (by assumption) (by omega) (by omega) ?_) | (refine RW.y (Y.idxP rfl rfl (by omega) (by omega)) rfl ?_)) | (refine Gt.gtr ?_; refine RW.y (Y.gtr rfl rfl) rfl ?_) | (refine Gt.rem ?_; first | (refine RW.y (Y.remP rfl rfl (by omega) (by omega)) rfl ?_) | (refine RW.y (Y.rem rfl rfl (by omega)) rfl ?_)) | (refine Gt.convert ?_; first | (refine RW.y (Y.convN rfl (by first | exact wrap64_id (by omega) (by omega) | exact wrapu64_id (by omega) (by omega) | exact wrapu8_id (by omega) (by omega) | exact wrapu16_id (by omega) (by omega) | exact wrapu32_id (by omega) (by omega))) rfl ?_) | (refine RW.y (Y.convW rfl) rfl ?_)) | (refine Gt.add ?_; refine RW.y (Y.add64 rfl rfl (by omega) (by omega)) rfl ?_) | (refine Gt.eql ?_; first | (refine RW.y (Y.eqi rfl rfl) rfl ?_) | (refine RW.y (Y.eqb rfl rfl) rfl ?_)) | (refine Gt.geq ?_; refine RW.y (Y.geq rfl rfl) rfl ?_) | (refine RW.y (Y.build (ps := [(0, _), (1, _), (2, _)]) rfl rfl) rfl ?_))
  all_goals try exact FQ.one rfl rfl rfl ⟨rfl, hk1⟩
  rename_i g1 g2 g3
  have hlb := lineK_len b
  have hlb2 : (lineK b).length ≤ 3 * 2003 := Nat.le_trans hlb (Nat.mul_le_mul (by omega) (Nat.le_refl _))
  have sP := span_lineK b (by omega) (by omega)
  have fP := fitK sP
  refine RW.fn rfl rfl ((lawList vw b w1 hw1 (by omega)).mono ?_)
  rintro e w2 ⟨hk2, rfl⟩
  refine RW.fn rfl rfl ((parseK sP (by omega) w2 (hM.keep0 (hk1.trans0 hk2))).mono ?_)
  rintro e w3 ⟨hk3, p3, rfl, ho3, hs3⟩
  repeat' (first | (refine CL.seq ?_) | (refine CL.region ?_) | (refine CL.skip ?_) | (refine CL.condP rfl (fun _ => ?_) (fun _ => ?_) <;> try (exfalso; omega)) | (refine CL.condT rfl ?_) | (refine CL.condF rfl ?_) | (refine CL.cond rfl (fun _ => ?_) (fun _ => ?_)) | (refine CL.block ?_) | (refine CL.exit ?_) | (refine Ex.then ?_) | (refine Ex.hit ?_) | (refine Ex.miss rfl ?_) | (refine CL.ret ?_) | (refine Rt.then ?_) | (refine Rt.block ?_) | (refine Pn.then ?_) | (refine Pn.block ?_) | (refine CL.done ?_) | (refine Nm.block ?_) | (refine Nm.then ?_) | (refine Gt.nil ?_; refine RW.nilw [0, 1, 4, 5, 6, 7, 8, 9, 10, 11, 12, 13, 15, 28, 38, 75, 84, 96, 116] ?_; dsimp only [H.keep, H.look, H.Fr.put, Nat.beq]) | (refine Gt.move ?_; refine RW.y (Y.move rfl) rfl ?_) | (refine Gt.guard ?_; first | (refine RW.part rfl rfl rfl (fun _ => ?_) (fun _ => ?_) <;> try (exfalso; omega)) | (refine RW.on rfl rfl rfl ?_) | (refine RW.off1 rfl rfl rfl rfl rfl ?_) | (refine RW.off rfl rfl rfl rfl rfl ?_) | (refine RW.offu rfl rfl rfl rfl ?_) | (refine RW.partb rfl rfl rfl (fun _ => ?_) (fun _ => ?_))) | (refine Gt.assign ?_; refine RW.y (Y.assign rfl) rfl ?_) | (refine Gt.pick ?_; first | (refine RW.y (Y.pickT rfl rfl) rfl ?_) | (refine RW.y (Y.pickF rfl rfl) rfl ?_)) | (refine Gt.load ?_; first | (refine RW.y (Y.loadB rfl (by assumption) rfl) rfl ?_) | (refine RW.y (Y.loadBlock rfl (by assumption) rfl) rfl ?_)) | (refine Gt.len ?_; first | (refine RW.y (Y.lenv rfl) rfl ?_) | (refine RW.y (Y.lenx rfl (by assumption)) rfl ?_)) | (refine Gt.lss ?_; refine RW.y (Y.lss rfl rfl) rfl ?_) | (refine Gt.not ?_; first | (refine RW.y (Y.not rfl) rfl ?_) | (refine RW.y (Y.notb rfl) rfl ?_)) | (refine Gt.extract ?_; refine RW.y (Y.extract rfl rfl) rfl ?_) | (refine Gt.idx ?_; first | (refine RW.elemF rfl rfl rfl rfl rfl rfl (by assumption) (fun _ => by rfl) rfl (by omega) (by omega) (by rfl) (fun _ _ => ?_)) | (refine RW.elemA rfl rfl rfl rfl (by assumption) (fun _ => by rfl) rfl (by omega) (by omega) (fun _ => ?_)) | (refine RW.elemM rfl rfl rfl rfl (by assumption) (by omega) (by omega) ?_) | (refine RW.y (Y.idxP rfl rfl (by omega) (by omega)) rfl ?_)) | (refine Gt.gtr ?_; refine RW.y (Y.gtr rfl rfl) rfl ?_) | (refine Gt.rem ?_; first | (refine RW.y (Y.remP rfl rfl (by omega) (by omega)) rfl ?_) | (refine RW.y (Y.rem rfl rfl (by omega)) rfl ?_)) | (refine Gt.convert ?_; first | (refine RW.y (Y.convN rfl (by first | exact wrap64_id (by omega) (by omega) | exact wrapu64_id (by omega) (by omega) | exact wrapu8_id (by omega) (by omega) | exact wrapu16_id (by omega) (by omega) | exact wrapu32_id (by omega) (by omega))) rfl ?_) | (refine RW.y (Y.convW rfl) rfl ?_)) | (refine Gt.add ?_; refine RW.y (Y.add64 rfl rfl (by omega) (by omega)) rfl ?_) | (refine Gt.eql ?_; first | (refine RW.y (Y.eqi rfl rfl) rfl ?_) | (refine RW.y (Y.eqb rfl rfl) rfl ?_)) | (refine Gt.geq ?_; refine RW.y (Y.geq rfl rfl) rfl ?_) | (refine RW.y (Y.build (ps := [(0, _), (1, _), (2, _)]) rfl rfl) rfl ?_))
  refine RW.varN rfl rfl rfl (spnCells ho3) rfl (fun w4 hb4 hk4 hlt4 => ?_)
  have hK4 := ((hk1.trans0 hk2).trans0 hk3).trans0 hk4
  have hs4 := hs.keep0 hK4
  have hz4 := hK4.size
  have bP : ∀ {w'}, K0 w4 w' → SpanAt w' (.agg #[.bool false, p3]) ⟨false, [boundsK b]⟩ := fun h => ⟨p3, rfl, (hs3.keep0 hk4).keep0 h⟩
  repeat' (first | (refine CL.seq ?_) | (refine CL.region ?_) | (refine CL.skip ?_) | (refine CL.condP rfl (fun _ => ?_) (fun _ => ?_) <;> try (exfalso; omega)) | (refine CL.condT rfl ?_) | (refine CL.condF rfl ?_) | (refine CL.cond rfl (fun _ => ?_) (fun _ => ?_)) | (refine CL.block ?_) | (refine CL.exit ?_) | (refine Ex.then ?_) | (refine Ex.hit ?_) | (refine Ex.miss rfl ?_) | (refine CL.ret ?_) | (refine Rt.then ?_) | (refine Rt.block ?_) | (refine Pn.then ?_) | (refine Pn.block ?_) | (refine CL.done ?_) | (refine Nm.block ?_) | (refine Nm.then ?_) | (refine Gt.nil ?_; refine RW.nilw [0, 1, 4, 5, 6, 7, 8, 9, 10, 11, 12, 13, 15, 28, 38, 75, 84, 96, 116] ?_; dsimp only [H.keep, H.look, H.Fr.put, Nat.beq]) | (refine Gt.move ?_; refine RW.y (Y.move rfl) rfl ?_) | (refine Gt.guard ?_; first | (refine RW.part rfl rfl rfl (fun _ => ?_) (fun _ => ?_) <;> try (exfalso; omega)) | (refine RW.on rfl rfl rfl ?_) | (refine RW.off1 rfl rfl rfl rfl rfl ?_) | (refine RW.off rfl rfl rfl rfl rfl ?_) | (refine RW.offu rfl rfl rfl rfl ?_) | (refine RW.partb rfl rfl rfl (fun _ => ?_) (fun _ => ?_))) | (refine Gt.assign ?_; refine RW.y (Y.assign rfl) rfl ?_) | (refine Gt.pick ?_; first | (refine RW.y (Y.pickT rfl rfl) rfl ?_) | (refine RW.y (Y.pickF rfl rfl) rfl ?_)) | (refine Gt.load ?_; first | (refine RW.y (Y.loadB rfl (by assumption) rfl) rfl ?_) | (refine RW.y (Y.loadBlock rfl (by assumption) rfl) rfl ?_)) | (refine Gt.len ?_; first | (refine RW.y (Y.lenv rfl) rfl ?_) | (refine RW.y (Y.lenx rfl (by assumption)) rfl ?_)) | (refine Gt.lss ?_; refine RW.y (Y.lss rfl rfl) rfl ?_) | (refine Gt.not ?_; first | (refine RW.y (Y.not rfl) rfl ?_) | (refine RW.y (Y.notb rfl) rfl ?_)) | (refine Gt.extract ?_; refine RW.y (Y.extract rfl rfl) rfl ?_) | (refine Gt.idx ?_; first | (refine RW.elemF rfl rfl rfl rfl rfl rfl (by assumption) (fun _ => by rfl) rfl (by omega) (by omega) (by rfl) (fun _ _ => ?_)) | (refine RW.elemA rfl rfl rfl rfl (by assumption) (fun _ => by rfl) rfl (by omega) (by omega) (fun _ => ?_)) | (refine RW.elemM rfl rfl rfl rfl (by assumption) (by omega) (by omega) ?_) | (refine RW.y (Y.idxP rfl rfl (by omega) (by omega)) rfl ?_)) | (refine Gt.gtr ?_; refine RW.y (Y.gtr rfl rfl) rfl ?_) | (refine Gt.rem ?_; first | (refine RW.y (Y.remP rfl rfl (by omega) (by omega)) rfl ?_) | (refine RW.y (Y.rem rfl rfl (by omega)) rfl ?_)) | (refine Gt.convert ?_; first | (refine RW.y (Y.convN rfl (by first | exact wrap64_id (by omega) (by omega) | exact wrapu64_id (by omega) (by omega) | exact wrapu8_id (by omega) (by omega) | exact wrapu16_id (by omega) (by omega) | exact wrapu32_id (by omega) (by omega))) rfl ?_) | (refine RW.y (Y.convW rfl) rfl ?_)) | (refine Gt.add ?_; refine RW.y (Y.add64 rfl rfl (by omega) (by omega)) rfl ?_) | (refine Gt.eql ?_; first | (refine RW.y (Y.eqi rfl rfl) rfl ?_) | (refine RW.y (Y.eqb rfl rfl) rfl ?_)) | (refine Gt.geq ?_; refine RW.y (Y.geq rfl rfl) rfl ?_) | (refine RW.y (Y.build (ps := [(0, _), (1, _), (2, _)]) rfl rfl) rfl ?_))
  refine CL.loopS [0, 5, 6, 7, 8] (fun m vals wr => ∃ (i : Nat) (u : Value), vals = [va, .pointer (some ⟨w3.heap.size, 0, none⟩), .int .i64 0, u, .int .i64 (i : Int)] ∧ m = l.length - i ∧ i ≤ l.length ∧ wr.ownsRow w4.heap.size verT 4 u i (((l.take i).map trC).flatMap verCl) ∧ K0 w4 wr) l.length ⟨_, rfl, 0, _, rfl, rfl, Nat.zero_le _, World.ownsRow_nil _ _ _ _, Kept.refl _ _⟩ ?_
  rintro m vals wr ⟨i, u, rfl, rfl, hi, how, hkr⟩
  dsimp only [List.zip, List.zipWith]
  have hsr := hs4.keep0 hkr
  have hbr := hkr.at0 hb4
  have hzr := hkr.size
  rcases Nat.lt_or_ge i l.length with hlt | hge
  · have hout : ∀ g, live va = some g → ¬ u.ownBlock = some g := fun g hg c => by have := hs.lt hg; have := (how.lt g c).1; omega
    obtain ⟨g, o, hsp⟩ := elPtr hsr (by omega) ((i : Int).toNat * 3)
    have hcl : ∀ {w' : World}, Kept (fun k => u.ownBlock = some k) wr w' → ∀ (j : Nat) (v : Value), (tc (l.getD i default))[j]? = some v → w'.cell? ⟨g, o + j, none⟩ = some v := fun h j v hv => by
      have := elCells (hsr.keep h hout) tc_len hlt j v hv
      rw [hsp, addr_add] at this; exact this
    obtain ⟨X, hX⟩ : ∃ x : Nat, (l.getD i default).1.toNat % 3 = x := ⟨_, rfl⟩
    obtain ⟨Y0, hY⟩ : ∃ x : Nat, (l.getD i default).2.1.toNat % 3 = x := ⟨_, rfl⟩
    obtain ⟨Z, hZ⟩ : ∃ x : Nat, (l.getD i default).2.2.toNat % 3 = x := ⟨_, rfl⟩
    have eX : ((l.getD i default).1.toNat : Int) % 3 = (X : Int) := by omega
    have eY : ((l.getD i default).2.1.toNat : Int) % 3 = (Y0 : Int) := by omega
    have eZ : ((l.getD i default).2.2.toNat : Int) % 3 = (Z : Int) := by omega
    have htv : trV (l.getD i default) = nv X Y0 Z := by rw [trV, hX, hY, hZ]
    repeat' (first | (refine CL.seq ?_) | (refine CL.region ?_) | (refine CL.skip ?_) | (refine CL.condP rfl (fun _ => ?_) (fun _ => ?_) <;> try (exfalso; omega)) | (refine CL.condT rfl ?_) | (refine CL.condF rfl ?_) | (refine CL.cond rfl (fun _ => ?_) (fun _ => ?_)) | (refine CL.block ?_) | (refine CL.exit ?_) | (refine Ex.then ?_) | (refine Ex.hit ?_) | (refine Ex.miss rfl ?_) | (refine CL.ret ?_) | (refine Rt.then ?_) | (refine Rt.block ?_) | (refine Pn.then ?_) | (refine Pn.block ?_) | (refine CL.done ?_) | (refine Nm.block ?_) | (refine Nm.then ?_) | (refine Gt.nil ?_; refine RW.nilw [0, 1, 4, 5, 6, 7, 8, 9, 10, 11, 12, 13, 15, 28, 38, 75, 84, 96, 116] ?_; dsimp only [H.keep, H.look, H.Fr.put, Nat.beq]) | (refine Gt.move ?_; refine RW.y (Y.move rfl) rfl ?_) | (refine Gt.guard ?_; first | (refine RW.part rfl rfl rfl (fun _ => ?_) (fun _ => ?_) <;> try (exfalso; omega)) | (refine RW.on rfl rfl rfl ?_) | (refine RW.off1 rfl rfl rfl rfl rfl ?_) | (refine RW.off rfl rfl rfl rfl rfl ?_) | (refine RW.offu rfl rfl rfl rfl ?_) | (refine RW.partb rfl rfl rfl (fun _ => ?_) (fun _ => ?_))) | (refine Gt.assign ?_; refine RW.y (Y.assign rfl) rfl ?_) | (refine Gt.pick ?_; first | (refine RW.y (Y.pickT rfl rfl) rfl ?_) | (refine RW.y (Y.pickF rfl rfl) rfl ?_)) | (refine Gt.load ?_; first | (refine RW.y (Y.loadB rfl (by assumption) rfl) rfl ?_) | (refine RW.y (Y.loadBlock rfl (by assumption) rfl) rfl ?_)) | (refine Gt.len ?_; first | (refine RW.y (Y.lenv rfl) rfl ?_) | (refine RW.y (Y.lenx rfl (by assumption)) rfl ?_)) | (refine Gt.lss ?_; refine RW.y (Y.lss rfl rfl) rfl ?_) | (refine Gt.not ?_; first | (refine RW.y (Y.not rfl) rfl ?_) | (refine RW.y (Y.notb rfl) rfl ?_)) | (refine Gt.extract ?_; refine RW.y (Y.extract rfl rfl) rfl ?_) | (refine Gt.idx ?_; first | (refine RW.elemF rfl rfl rfl rfl rfl rfl (by assumption) (fun _ => by rfl) rfl (by omega) (by omega) (by rfl) (fun _ _ => ?_)) | (refine RW.elemA rfl rfl rfl rfl (by assumption) (fun _ => by rfl) rfl (by omega) (by omega) (fun _ => ?_)) | (refine RW.elemM rfl rfl rfl rfl (by assumption) (by omega) (by omega) ?_) | (refine RW.y (Y.idxP rfl rfl (by omega) (by omega)) rfl ?_)) | (refine Gt.gtr ?_; refine RW.y (Y.gtr rfl rfl) rfl ?_) | (refine Gt.rem ?_; first | (refine RW.y (Y.remP rfl rfl (by omega) (by omega)) rfl ?_) | (refine RW.y (Y.rem rfl rfl (by omega)) rfl ?_)) | (refine Gt.convert ?_; first | (refine RW.y (Y.convN rfl (by first | exact wrap64_id (by omega) (by omega) | exact wrapu64_id (by omega) (by omega) | exact wrapu8_id (by omega) (by omega) | exact wrapu16_id (by omega) (by omega) | exact wrapu32_id (by omega) (by omega))) rfl ?_) | (refine RW.y (Y.convW rfl) rfl ?_)) | (refine Gt.add ?_; refine RW.y (Y.add64 rfl rfl (by omega) (by omega)) rfl ?_) | (refine Gt.eql ?_; first | (refine RW.y (Y.eqi rfl rfl) rfl ?_) | (refine RW.y (Y.eqb rfl rfl) rfl ?_)) | (refine Gt.geq ?_; refine RW.y (Y.geq rfl rfl) rfl ?_) | (refine RW.y (Y.build (ps := [(0, _), (1, _), (2, _)]) rfl rfl) rfl ?_))
    refine CL.draw (fun w' => Kept (fun k => u.ownBlock = some k) wr w') (by kernel_rfl) (fun w5 hheap hk5 => ?_)
    have hS : Kept (fun k => u.ownBlock = some k) wr w5 := hk5.of0
    skip
    refine AW.take 0 rfl (by kernel_rfl) (by kernel_rfl) (by kernel_rfl) rfl (by assumption) (fun w hS => Y.move rfl) ?_
    refine AW.take 1 rfl (by kernel_rfl) (by kernel_rfl) (by kernel_rfl) rfl (by assumption) (fun w hS => Y.move rfl) ?_
    refine AW.take 2 rfl (by kernel_rfl) (by kernel_rfl) (by kernel_rfl) rfl (by assumption) (fun w hS => Y.move rfl) ?_
    refine AW.take 3 rfl (by kernel_rfl) (by kernel_rfl) (by kernel_rfl) rfl (by assumption) (fun w hS => Y.idx rfl rfl (hsr.keep hS hout) (by omega) (by omega)) ?_
    refine AW.take 4 rfl (by kernel_rfl) (by kernel_rfl) (by kernel_rfl) rfl (by assumption) (fun w hS => Y.idxP (congrArg (fun a => some (Value.pointer (some a))) hsp) rfl (by omega) (by omega)) ?_
    refine AW.take 5 rfl (by kernel_rfl) (by kernel_rfl) (by kernel_rfl) rfl (by assumption) (fun w hS => Y.load1A rfl (hcl hS 0 _ rfl)) ?_
    refine AW.take 6 rfl (by kernel_rfl) (by kernel_rfl) (by kernel_rfl) rfl (by assumption) (fun w hS => by first | exact Y.remP rfl rfl (by omega) (by omega) | exact Y.rem rfl rfl (by omega)) ?_
    refine AW.take 7 rfl (by kernel_rfl) (by kernel_rfl) (by kernel_rfl) rfl (by assumption) (fun w hS => Y.convN rfl (by first | exact wrap64_id (by omega) (by omega))) ?_
    refine AW.take 8 rfl (by kernel_rfl) (by kernel_rfl) (by kernel_rfl) rfl (by assumption) (fun w hS => Y.move rfl) ?_
    refine AW.take 9 rfl (by kernel_rfl) (by kernel_rfl) (by kernel_rfl) rfl (by assumption) (fun w hS => Y.move rfl) ?_
    refine AW.take 10 rfl (by kernel_rfl) (by kernel_rfl) (by kernel_rfl) rfl (by assumption) (fun w hS => Y.idx rfl rfl (hsr.keep hS hout) (by omega) (by omega)) ?_
    refine AW.take 11 rfl (by kernel_rfl) (by kernel_rfl) (by kernel_rfl) rfl (by assumption) (fun w hS => Y.idxP (congrArg (fun a => some (Value.pointer (some a))) hsp) rfl (by omega) (by omega)) ?_
    refine AW.take 12 rfl (by kernel_rfl) (by kernel_rfl) (by kernel_rfl) rfl (by assumption) (fun w hS => Y.load1A rfl (hcl hS 1 _ rfl)) ?_
    refine AW.take 13 rfl (by kernel_rfl) (by kernel_rfl) (by kernel_rfl) rfl (by assumption) (fun w hS => by first | exact Y.remP rfl rfl (by omega) (by omega) | exact Y.rem rfl rfl (by omega)) ?_
    refine AW.take 14 rfl (by kernel_rfl) (by kernel_rfl) (by kernel_rfl) rfl (by assumption) (fun w hS => Y.convN rfl (by first | exact wrap64_id (by omega) (by omega))) ?_
    refine AW.take 15 rfl (by kernel_rfl) (by kernel_rfl) (by kernel_rfl) rfl (by assumption) (fun w hS => Y.move rfl) ?_
    refine AW.take 16 rfl (by kernel_rfl) (by kernel_rfl) (by kernel_rfl) rfl (by assumption) (fun w hS => Y.move rfl) ?_
    refine AW.take 17 rfl (by kernel_rfl) (by kernel_rfl) (by kernel_rfl) rfl (by assumption) (fun w hS => Y.idx rfl rfl (hsr.keep hS hout) (by omega) (by omega)) ?_
    refine AW.take 18 rfl (by kernel_rfl) (by kernel_rfl) (by kernel_rfl) rfl (by assumption) (fun w hS => Y.idxP (congrArg (fun a => some (Value.pointer (some a))) hsp) rfl (by omega) (by omega)) ?_
    refine AW.take 19 rfl (by kernel_rfl) (by kernel_rfl) (by kernel_rfl) rfl (by assumption) (fun w hS => Y.load1A rfl (hcl hS 2 _ rfl)) ?_
    refine AW.take 20 rfl (by kernel_rfl) (by kernel_rfl) (by kernel_rfl) rfl (by assumption) (fun w hS => by first | exact Y.remP rfl rfl (by omega) (by omega) | exact Y.rem rfl rfl (by omega)) ?_
    refine AW.take 21 rfl (by kernel_rfl) (by kernel_rfl) (by kernel_rfl) rfl (by assumption) (fun w hS => Y.convN rfl (by first | exact wrap64_id (by omega) (by omega))) ?_
    refine AW.take 22 rfl (by kernel_rfl) (by kernel_rfl) (by kernel_rfl) rfl (by assumption) (fun w hS => Y.build (ps := [(0, _), (1, _), (2, _)]) (l := [_, _, _]) (c := #[_, _, _, .slice none 0 0]) rfl rfl) ?_
    refine AW.next 23 rfl (by kernel_rfl) ?_
    refine RW.buildL (ps := [(0, _)]) (l := [_]) rfl rfl rfl (fun v hv => by rw [List.mem_singleton.1 hv]; rfl) rfl rfl (fun w6 hb6 hk6 hlt6 => ?_)
    rw [eX, eY, eZ] at hb6
    have hS6 : Kept (fun k => u.ownBlock = some k) wr w6 := hS.trans0 hk6
    have hsn : Sl w6 4 (.slice (some ⟨w5.heap.size, 0, none⟩) 1 1) 1 (verCl (trC (l.getD i default))) := by
      have : verCl (trC (l.getD i default)) = [.int .i64 (X : Int), .int .i64 (Y0 : Int), .int .i64 (Z : Int), .slice none 0 0] := by rw [trC, htv]; rfl
      rw [this]; exact sl_new hb6 rfl (by decide)
    refine RW.nil (Nm.then ⟨hS6, ?_⟩)
    refine AW.next 24 rfl (by kernel_rfl) ?_
    have how6 := own_kept0 (own_kept0 how hk5) hk6
    have hz6 := hk6.size
    have hz5 := hk5.size
    refine RW.app (sz := 4) rfl rfl rfl rfl rfl how6 hsn (fun y hy => by simp [verCl, trC] at hy; rcases hy with rfl | rfl | rfl | rfl <;> rfl) (by omega) (by omega) (by omega) (fun v' w7 how7 hk7 hl7 => ?_)
    refine RW.nil (Nm.then ⟨hS6.trans hk7 fun k h => .inl h, ?_⟩)
    have hS7 := hS6.trans hk7 fun k h => Or.inl h
    refine AW.take 25 rfl (by kernel_rfl) (by kernel_rfl) (by kernel_rfl) rfl (by assumption) (fun w hS => Y.assign rfl) ?_
    refine AW.donew [0, 5, 6, 7, 8] (by kernel_rfl) ?_
    dsimp only [H.keep, H.look, H.Fr.put, Nat.beq]
    repeat' (first | (refine CL.seq ?_) | (refine CL.region ?_) | (refine CL.skip ?_) | (refine CL.condP rfl (fun _ => ?_) (fun _ => ?_) <;> try (exfalso; omega)) | (refine CL.condT rfl ?_) | (refine CL.condF rfl ?_) | (refine CL.cond rfl (fun _ => ?_) (fun _ => ?_)) | (refine CL.block ?_) | (refine CL.exit ?_) | (refine Ex.then ?_) | (refine Ex.hit ?_) | (refine Ex.miss rfl ?_) | (refine CL.ret ?_) | (refine Rt.then ?_) | (refine Rt.block ?_) | (refine Pn.then ?_) | (refine Pn.block ?_) | (refine CL.done ?_) | (refine Nm.block ?_) | (refine Nm.then ?_) | (refine Gt.nil ?_; refine RW.nilw [0, 1, 4, 5, 6, 7, 8, 9, 10, 11, 12, 13, 15, 28, 38, 75, 84, 96, 116] ?_; dsimp only [H.keep, H.look, H.Fr.put, Nat.beq]) | (refine Gt.move ?_; refine RW.y (Y.move rfl) rfl ?_) | (refine Gt.guard ?_; first | (refine RW.part rfl rfl rfl (fun _ => ?_) (fun _ => ?_) <;> try (exfalso; omega)) | (refine RW.on rfl rfl rfl ?_) | (refine RW.off1 rfl rfl rfl rfl rfl ?_) | (refine RW.off rfl rfl rfl rfl rfl ?_) | (refine RW.offu rfl rfl rfl rfl ?_) | (refine RW.partb rfl rfl rfl (fun _ => ?_) (fun _ => ?_))) | (refine Gt.assign ?_; refine RW.y (Y.assign rfl) rfl ?_) | (refine Gt.pick ?_; first | (refine RW.y (Y.pickT rfl rfl) rfl ?_) | (refine RW.y (Y.pickF rfl rfl) rfl ?_)) | (refine Gt.load ?_; first | (refine RW.y (Y.loadB rfl (by assumption) rfl) rfl ?_) | (refine RW.y (Y.loadBlock rfl (by assumption) rfl) rfl ?_)) | (refine Gt.len ?_; first | (refine RW.y (Y.lenv rfl) rfl ?_) | (refine RW.y (Y.lenx rfl (by assumption)) rfl ?_)) | (refine Gt.lss ?_; refine RW.y (Y.lss rfl rfl) rfl ?_) | (refine Gt.not ?_; first | (refine RW.y (Y.not rfl) rfl ?_) | (refine RW.y (Y.notb rfl) rfl ?_)) | (refine Gt.extract ?_; refine RW.y (Y.extract rfl rfl) rfl ?_) | (refine Gt.idx ?_; first | (refine RW.elemF rfl rfl rfl rfl rfl rfl (by assumption) (fun _ => by rfl) rfl (by omega) (by omega) (by rfl) (fun _ _ => ?_)) | (refine RW.elemA rfl rfl rfl rfl (by assumption) (fun _ => by rfl) rfl (by omega) (by omega) (fun _ => ?_)) | (refine RW.elemM rfl rfl rfl rfl (by assumption) (by omega) (by omega) ?_) | (refine RW.y (Y.idxP rfl rfl (by omega) (by omega)) rfl ?_)) | (refine Gt.gtr ?_; refine RW.y (Y.gtr rfl rfl) rfl ?_) | (refine Gt.rem ?_; first | (refine RW.y (Y.remP rfl rfl (by omega) (by omega)) rfl ?_) | (refine RW.y (Y.rem rfl rfl (by omega)) rfl ?_)) | (refine Gt.convert ?_; first | (refine RW.y (Y.convN rfl (by first | exact wrap64_id (by omega) (by omega) | exact wrapu64_id (by omega) (by omega) | exact wrapu8_id (by omega) (by omega) | exact wrapu16_id (by omega) (by omega) | exact wrapu32_id (by omega) (by omega))) rfl ?_) | (refine RW.y (Y.convW rfl) rfl ?_)) | (refine Gt.add ?_; refine RW.y (Y.add64 rfl rfl (by omega) (by omega)) rfl ?_) | (refine Gt.eql ?_; first | (refine RW.y (Y.eqi rfl rfl) rfl ?_) | (refine RW.y (Y.eqb rfl rfl) rfl ?_)) | (refine Gt.geq ?_; refine RW.y (Y.geq rfl rfl) rfl ?_) | (refine RW.y (Y.build (ps := [(0, _), (1, _), (2, _)]) rfl rfl) rfl ?_))
    exact ⟨l.length - (i + 1), _, rfl, rfl, rfl, by omega, i + 1, v', rfl, rfl, by omega, by rw [take_snoc default l i hlt, List.map_append, List.flatMap_append]; simpa using how7, (hkr.trans0 (hk5.trans0 hk6)).trans hk7 fun k h => .inr (how.lt k h).1⟩
  · have hi : i = l.length := by omega
    subst hi
    rw [List.take_length] at how
    have hvs := trC_at (Sl.of_own how)
    have hKr := hK4.trans0 hkr
    have fl : (l.map trV).length ≤ 1000000 ∧ ∀ x ∈ l.map trV, Fit x := ⟨by rw [List.length_map]; omega, fun x hx => by obtain ⟨y, _, rfl⟩ := List.mem_map.1 hx; exact (trV_fit y).fit⟩
    obtain ⟨f1, f2⟩ := best_facts ⟨false, [boundsK b]⟩ l l.length (Nat.le_refl _)
    have f3 := bestF_bd ⟨false, [boundsK b]⟩ (l.map trV) l.length
    repeat' (first | (refine CL.seq ?_) | (refine CL.region ?_) | (refine CL.skip ?_) | (refine CL.condP rfl (fun _ => ?_) (fun _ => ?_) <;> try (exfalso; omega)) | (refine CL.condT rfl ?_) | (refine CL.condF rfl ?_) | (refine CL.cond rfl (fun _ => ?_) (fun _ => ?_)) | (refine CL.block ?_) | (refine CL.exit ?_) | (refine Ex.then ?_) | (refine Ex.hit ?_) | (refine Ex.miss rfl ?_) | (refine CL.ret ?_) | (refine Rt.then ?_) | (refine Rt.block ?_) | (refine Pn.then ?_) | (refine Pn.block ?_) | (refine CL.done ?_) | (refine Nm.block ?_) | (refine Nm.then ?_) | (refine Gt.nil ?_; refine RW.nilw [0, 1, 4, 5, 6, 7, 8, 9, 10, 11, 12, 13, 15, 28, 38, 75, 84, 96, 116] ?_; dsimp only [H.keep, H.look, H.Fr.put, Nat.beq]) | (refine Gt.move ?_; refine RW.y (Y.move rfl) rfl ?_) | (refine Gt.guard ?_; first | (refine RW.part rfl rfl rfl (fun _ => ?_) (fun _ => ?_) <;> try (exfalso; omega)) | (refine RW.on rfl rfl rfl ?_) | (refine RW.off1 rfl rfl rfl rfl rfl ?_) | (refine RW.off rfl rfl rfl rfl rfl ?_) | (refine RW.offu rfl rfl rfl rfl ?_) | (refine RW.partb rfl rfl rfl (fun _ => ?_) (fun _ => ?_))) | (refine Gt.assign ?_; refine RW.y (Y.assign rfl) rfl ?_) | (refine Gt.pick ?_; first | (refine RW.y (Y.pickT rfl rfl) rfl ?_) | (refine RW.y (Y.pickF rfl rfl) rfl ?_)) | (refine Gt.load ?_; first | (refine RW.y (Y.loadB rfl (by assumption) rfl) rfl ?_) | (refine RW.y (Y.loadBlock rfl (by assumption) rfl) rfl ?_)) | (refine Gt.len ?_; first | (refine RW.y (Y.lenv rfl) rfl ?_) | (refine RW.y (Y.lenx rfl (by assumption)) rfl ?_)) | (refine Gt.lss ?_; refine RW.y (Y.lss rfl rfl) rfl ?_) | (refine Gt.not ?_; first | (refine RW.y (Y.not rfl) rfl ?_) | (refine RW.y (Y.notb rfl) rfl ?_)) | (refine Gt.extract ?_; refine RW.y (Y.extract rfl rfl) rfl ?_) | (refine Gt.idx ?_; first | (refine RW.elemF rfl rfl rfl rfl rfl rfl (by assumption) (fun _ => by rfl) rfl (by omega) (by omega) (by rfl) (fun _ _ => ?_)) | (refine RW.elemA rfl rfl rfl rfl (by assumption) (fun _ => by rfl) rfl (by omega) (by omega) (fun _ => ?_)) | (refine RW.elemM rfl rfl rfl rfl (by assumption) (by omega) (by omega) ?_) | (refine RW.y (Y.idxP rfl rfl (by omega) (by omega)) rfl ?_)) | (refine Gt.gtr ?_; refine RW.y (Y.gtr rfl rfl) rfl ?_) | (refine Gt.rem ?_; first | (refine RW.y (Y.remP rfl rfl (by omega) (by omega)) rfl ?_) | (refine RW.y (Y.rem rfl rfl (by omega)) rfl ?_)) | (refine Gt.convert ?_; first | (refine RW.y (Y.convN rfl (by first | exact wrap64_id (by omega) (by omega) | exact wrapu64_id (by omega) (by omega) | exact wrapu8_id (by omega) (by omega) | exact wrapu16_id (by omega) (by omega) | exact wrapu32_id (by omega) (by omega))) rfl ?_) | (refine RW.y (Y.convW rfl) rfl ?_)) | (refine Gt.add ?_; refine RW.y (Y.add64 rfl rfl (by omega) (by omega)) rfl ?_) | (refine Gt.eql ?_; first | (refine RW.y (Y.eqi rfl rfl) rfl ?_) | (refine RW.y (Y.eqb rfl rfl) rfl ?_)) | (refine Gt.geq ?_; refine RW.y (Y.geq rfl rfl) rfl ?_) | (refine RW.y (Y.build (ps := [(0, _), (1, _), (2, _)]) rfl rfl) rfl ?_))
    refine RW.fn rfl rfl ((best _ _ ⟨false, [boundsK b]⟩ (l.map trV) wr (bP hkr) hvs fP.fits fl).mono ?_)
    rintro e w5 ⟨hk5, rfl⟩
    rw [List.length_map]
    generalize hB : bestF ⟨false, [boundsK b]⟩ (l.map trV) l.length = m at *
    have hb5 := hk5.at0 hbr
    have hrow := Sl.of_own how
    rw [show l.length = (l.map trC).length from (List.length_map _).symm] at hrow
    have hr5 := hrow.keep0 hk5
    have hlm : (l.map trC).length = l.length := List.length_map _
    have hgd : ∀ j, j < l.length → (l.map trC).getD j default = trC (l.getD j default) := fun j hj => by simp [List.getD_eq_getElem?_getD, hj]
    have hKr5 := hKr.trans0 hk5
    have b5 : ∀ {w'}, K0 w5 w' → SpanAt w' (.agg #[.bool false, p3]) ⟨false, [boundsK b]⟩ := fun h => bP (hkr.trans0 (hk5.trans0 h))
    have hVj : ∀ (j : Nat) (w' : World), j < l.length → VerAt w' (.agg (verCl ((l.map trC).getD j default)).toArray) (trV (l.getD j default)) := fun j w' hj => by rw [hgd j hj]; exact VerAt.mk (Sl.nil _ _)
    have hFj : ∀ j : Nat, Fit (trV (l.getD j default)) := fun j => (trV_fit _).fit
    repeat' (first | (refine CL.seq ?_) | (refine CL.region ?_) | (refine CL.skip ?_) | (refine CL.condP rfl (fun _ => ?_) (fun _ => ?_) <;> try (exfalso; omega)) | (refine CL.condT rfl ?_) | (refine CL.condF rfl ?_) | (refine CL.cond rfl (fun _ => ?_) (fun _ => ?_)) | (refine CL.block ?_) | (refine CL.exit ?_) | (refine Ex.then ?_) | (refine Ex.hit ?_) | (refine Ex.miss rfl ?_) | (refine CL.ret ?_) | (refine Rt.then ?_) | (refine Rt.block ?_) | (refine Pn.then ?_) | (refine Pn.block ?_) | (refine CL.done ?_) | (refine Nm.block ?_) | (refine Nm.then ?_) | (refine Gt.nil ?_; refine RW.nilw [0, 1, 4, 5, 6, 7, 8, 9, 10, 11, 12, 13, 15, 28, 38, 75, 84, 96, 116] ?_; dsimp only [H.keep, H.look, H.Fr.put, Nat.beq]) | (refine Gt.move ?_; refine RW.y (Y.move rfl) rfl ?_) | (refine Gt.guard ?_; first | (refine RW.part rfl rfl rfl (fun _ => ?_) (fun _ => ?_) <;> try (exfalso; omega)) | (refine RW.on rfl rfl rfl ?_) | (refine RW.off1 rfl rfl rfl rfl rfl ?_) | (refine RW.off rfl rfl rfl rfl rfl ?_) | (refine RW.offu rfl rfl rfl rfl ?_) | (refine RW.partb rfl rfl rfl (fun _ => ?_) (fun _ => ?_))) | (refine Gt.assign ?_; refine RW.y (Y.assign rfl) rfl ?_) | (refine Gt.pick ?_; first | (refine RW.y (Y.pickT rfl rfl) rfl ?_) | (refine RW.y (Y.pickF rfl rfl) rfl ?_)) | (refine Gt.load ?_; first | (refine RW.y (Y.loadB rfl (by assumption) rfl) rfl ?_) | (refine RW.y (Y.loadBlock rfl (by assumption) rfl) rfl ?_)) | (refine Gt.len ?_; first | (refine RW.y (Y.lenv rfl) rfl ?_) | (refine RW.y (Y.lenx rfl (by assumption)) rfl ?_)) | (refine Gt.lss ?_; refine RW.y (Y.lss rfl rfl) rfl ?_) | (refine Gt.not ?_; first | (refine RW.y (Y.not rfl) rfl ?_) | (refine RW.y (Y.notb rfl) rfl ?_)) | (refine Gt.extract ?_; refine RW.y (Y.extract rfl rfl) rfl ?_) | (refine Gt.idx ?_; first | (refine RW.elemF rfl rfl rfl rfl rfl rfl (by assumption) (fun _ => by rfl) rfl (by omega) (by omega) (by rfl) (fun _ _ => ?_)) | (refine RW.elemA rfl rfl rfl rfl (by assumption) (fun _ => by rfl) rfl (by omega) (by omega) (fun _ => ?_)) | (refine RW.elemM rfl rfl rfl rfl (by assumption) (by omega) (by omega) ?_) | (refine RW.y (Y.idxP rfl rfl (by omega) (by omega)) rfl ?_)) | (refine Gt.gtr ?_; refine RW.y (Y.gtr rfl rfl) rfl ?_) | (refine Gt.rem ?_; first | (refine RW.y (Y.remP rfl rfl (by omega) (by omega)) rfl ?_) | (refine RW.y (Y.rem rfl rfl (by omega)) rfl ?_)) | (refine Gt.convert ?_; first | (refine RW.y (Y.convN rfl (by first | exact wrap64_id (by omega) (by omega) | exact wrapu64_id (by omega) (by omega) | exact wrapu8_id (by omega) (by omega) | exact wrapu16_id (by omega) (by omega) | exact wrapu32_id (by omega) (by omega))) rfl ?_) | (refine RW.y (Y.convW rfl) rfl ?_)) | (refine Gt.add ?_; refine RW.y (Y.add64 rfl rfl (by omega) (by omega)) rfl ?_) | (refine Gt.eql ?_; first | (refine RW.y (Y.eqi rfl rfl) rfl ?_) | (refine RW.y (Y.eqb rfl rfl) rfl ?_)) | (refine Gt.geq ?_; refine RW.y (Y.geq rfl rfl) rfl ?_) | (refine RW.y (Y.build (ps := [(0, _), (1, _), (2, _)]) rfl rfl) rfl ?_))
    refine CL.loopS [5, 6, 7, 9, 10, 11, 12] (fun n vals wv => ∃ (j : Nat), vals = [.pointer (some ⟨w3.heap.size, 0, none⟩), .int .i64 0, u, .int .i64 (max m 0), .bool (decide (m ≥ 0)), .bool ((l.take j).any (fun x => hasB ⟨false, [boundsK b]⟩ (trV x))), .int .i64 (j : Int)] ∧ n = l.length - j ∧ j ≤ l.length ∧ K0 w5 wv) l.length ⟨_, rfl, 0, rfl, rfl, Nat.zero_le _, Kept.refl _ _⟩ ?_
    rintro n vals wv ⟨j, rfl, rfl, hj, hkv⟩
    dsimp only [List.zip, List.zipWith]
    have hrv := hr5.keep0 hkv
    have hbv := hkv.at0 hb5
    have hKv := hKr5.trans0 hkv
    rcases Nat.lt_or_ge j l.length with hjl | hjg
    · have hst : (l.take (j + 1)).any (fun x => hasB ⟨false, [boundsK b]⟩ (trV x)) = ((l.take j).any (fun x => hasB ⟨false, [boundsK b]⟩ (trV x)) || hasB ⟨false, [boundsK b]⟩ (trV (l.getD j default))) := by
        rw [take_snoc default l j hjl, List.any_append]; simp
      have hcell : ∀ {w' : World}, K0 wv w' → ∀ (k : Nat) (v : Value), (verCl ((l.map trC).getD j default))[k]? = some v → w'.cell? ((Value.spot u ((j : Int).toNat * 4)).add k) = some v := fun h => elCells (hrv.keep0 h) verCl_len (by omega)
      repeat' (first | (refine CL.seq ?_) | (refine CL.region ?_) | (refine CL.skip ?_) | (refine CL.condP rfl (fun _ => ?_) (fun _ => ?_) <;> try (exfalso; omega)) | (refine CL.condT rfl ?_) | (refine CL.condF rfl ?_) | (refine CL.cond rfl (fun _ => ?_) (fun _ => ?_)) | (refine CL.block ?_) | (refine CL.exit ?_) | (refine Ex.then ?_) | (refine Ex.hit ?_) | (refine Ex.miss rfl ?_) | (refine CL.ret ?_) | (refine Rt.then ?_) | (refine Rt.block ?_) | (refine Pn.then ?_) | (refine Pn.block ?_) | (refine CL.done ?_) | (refine Nm.block ?_) | (refine Nm.then ?_) | (refine Gt.nil ?_; refine RW.nilw [0, 1, 4, 5, 6, 7, 8, 9, 10, 11, 12, 13, 15, 28, 38, 75, 84, 96, 116] ?_; dsimp only [H.keep, H.look, H.Fr.put, Nat.beq]) | (refine Gt.move ?_; refine RW.y (Y.move rfl) rfl ?_) | (refine Gt.guard ?_; first | (refine RW.part rfl rfl rfl (fun _ => ?_) (fun _ => ?_) <;> try (exfalso; omega)) | (refine RW.on rfl rfl rfl ?_) | (refine RW.off1 rfl rfl rfl rfl rfl ?_) | (refine RW.off rfl rfl rfl rfl rfl ?_) | (refine RW.offu rfl rfl rfl rfl ?_) | (refine RW.partb rfl rfl rfl (fun _ => ?_) (fun _ => ?_))) | (refine Gt.assign ?_; refine RW.y (Y.assign rfl) rfl ?_) | (refine Gt.pick ?_; first | (refine RW.y (Y.pickT rfl rfl) rfl ?_) | (refine RW.y (Y.pickF rfl rfl) rfl ?_)) | (refine Gt.load ?_; first | (refine RW.y (Y.loadB rfl (by assumption) rfl) rfl ?_) | (refine RW.y (Y.loadBlock rfl (by assumption) rfl) rfl ?_)) | (refine Gt.len ?_; first | (refine RW.y (Y.lenv rfl) rfl ?_) | (refine RW.y (Y.lenx rfl (by assumption)) rfl ?_)) | (refine Gt.lss ?_; refine RW.y (Y.lss rfl rfl) rfl ?_) | (refine Gt.not ?_; first | (refine RW.y (Y.not rfl) rfl ?_) | (refine RW.y (Y.notb rfl) rfl ?_)) | (refine Gt.extract ?_; refine RW.y (Y.extract rfl rfl) rfl ?_) | (refine Gt.idx ?_; first | (refine RW.elemF rfl rfl rfl rfl rfl rfl (by assumption) (fun _ => by rfl) rfl (by omega) (by omega) (by rfl) (fun _ _ => ?_)) | (refine RW.elemA rfl rfl rfl rfl (by assumption) (fun _ => by rfl) rfl (by omega) (by omega) (fun _ => ?_)) | (refine RW.elemM rfl rfl rfl rfl (by assumption) (by omega) (by omega) ?_) | (refine RW.y (Y.idxP rfl rfl (by omega) (by omega)) rfl ?_)) | (refine Gt.gtr ?_; refine RW.y (Y.gtr rfl rfl) rfl ?_) | (refine Gt.rem ?_; first | (refine RW.y (Y.remP rfl rfl (by omega) (by omega)) rfl ?_) | (refine RW.y (Y.rem rfl rfl (by omega)) rfl ?_)) | (refine Gt.convert ?_; first | (refine RW.y (Y.convN rfl (by first | exact wrap64_id (by omega) (by omega) | exact wrapu64_id (by omega) (by omega) | exact wrapu8_id (by omega) (by omega) | exact wrapu16_id (by omega) (by omega) | exact wrapu32_id (by omega) (by omega))) rfl ?_) | (refine RW.y (Y.convW rfl) rfl ?_)) | (refine Gt.add ?_; refine RW.y (Y.add64 rfl rfl (by omega) (by omega)) rfl ?_) | (refine Gt.eql ?_; first | (refine RW.y (Y.eqi rfl rfl) rfl ?_) | (refine RW.y (Y.eqb rfl rfl) rfl ?_)) | (refine Gt.geq ?_; refine RW.y (Y.geq rfl rfl) rfl ?_) | (refine RW.y (Y.build (ps := [(0, _), (1, _), (2, _)]) rfl rfl) rfl ?_))
      refine CL.draw (fun w' => K0 wv w') (by kernel_rfl) (fun w6 hheap hk6 => ?_)
      have hS : K0 wv w6 := hk6
      skip
      refine AW.take 0 rfl (by kernel_rfl) (by kernel_rfl) (by kernel_rfl) rfl (by assumption) (fun w hS => Y.loadBlock rfl (hS.at0 hbv) rfl) ?_
      refine AW.take 1 rfl (by kernel_rfl) (by kernel_rfl) (by kernel_rfl) rfl (by assumption) (fun w hS => Y.move rfl) ?_
      refine AW.take 2 rfl (by kernel_rfl) (by kernel_rfl) (by kernel_rfl) rfl (by assumption) (fun w hS => Y.move rfl) ?_
      refine AW.take 3 rfl (by kernel_rfl) (by kernel_rfl) (by kernel_rfl) rfl (by assumption) (fun w hS => Y.idx rfl rfl (hrv.keep0 hS) (by omega) (by omega)) ?_
      refine AW.take 4 rfl (by kernel_rfl) (by kernel_rfl) (by kernel_rfl) rfl (by assumption) (fun w hS => Y.loadN (cs := verCl ((l.map trC).getD j default)) rfl rfl (hcell hS)) ?_
      refine AW.next 5 rfl (by kernel_rfl) ?_
      refine RW.fn rfl rfl ((has _ _ ⟨false, [boundsK b]⟩ (trV (l.getD j default)) w6 (b5 (hkv.trans0 hk6)) (hVj j w6 hjl) fP.fits (hFj j)).mono ?_)
      rintro e w7 ⟨hk7, rfl⟩
      refine RW.nil (Nm.then (rebase0 hS hk7 fun hS => ?_))
      have hk67 := hk6.trans0 hk7
      cases hh : hasB ⟨false, [boundsK b]⟩ (trV (l.getD j default))
      · skip
        refine AW.take 6 rfl (by kernel_rfl) (by kernel_rfl) (by kernel_rfl) rfl (by assumption) (fun w hS => by first | exact Y.not rfl | exact Y.notb rfl | exact Y.neg64 rfl (by omega) (by omega)) ?_
        refine AW.donew [5, 6, 7, 9, 10, 11, 12, 84] (by kernel_rfl) ?_
        dsimp only [H.keep, H.look, H.Fr.put, Nat.beq]
        rw [hh, Bool.or_false] at hst
        repeat' (first | (refine CL.seq ?_) | (refine CL.region ?_) | (refine CL.skip ?_) | (refine CL.condP rfl (fun _ => ?_) (fun _ => ?_) <;> try (exfalso; omega)) | (refine CL.condT rfl ?_) | (refine CL.condF rfl ?_) | (refine CL.cond rfl (fun _ => ?_) (fun _ => ?_)) | (refine CL.block ?_) | (refine CL.exit ?_) | (refine Ex.then ?_) | (refine Ex.hit ?_) | (refine Ex.miss rfl ?_) | (refine CL.ret ?_) | (refine Rt.then ?_) | (refine Rt.block ?_) | (refine Pn.then ?_) | (refine Pn.block ?_) | (refine CL.done ?_) | (refine Nm.block ?_) | (refine Nm.then ?_) | (refine Gt.nil ?_; refine RW.nilw [0, 1, 4, 5, 6, 7, 8, 9, 10, 11, 12, 13, 15, 28, 38, 75, 84, 96, 116] ?_; dsimp only [H.keep, H.look, H.Fr.put, Nat.beq]) | (refine Gt.move ?_; refine RW.y (Y.move rfl) rfl ?_) | (refine Gt.guard ?_; first | (refine RW.part rfl rfl rfl (fun _ => ?_) (fun _ => ?_) <;> try (exfalso; omega)) | (refine RW.on rfl rfl rfl ?_) | (refine RW.off1 rfl rfl rfl rfl rfl ?_) | (refine RW.off rfl rfl rfl rfl rfl ?_) | (refine RW.offu rfl rfl rfl rfl ?_) | (refine RW.partb rfl rfl rfl (fun _ => ?_) (fun _ => ?_))) | (refine Gt.assign ?_; refine RW.y (Y.assign rfl) rfl ?_) | (refine Gt.pick ?_; first | (refine RW.y (Y.pickT rfl rfl) rfl ?_) | (refine RW.y (Y.pickF rfl rfl) rfl ?_)) | (refine Gt.load ?_; first | (refine RW.y (Y.loadB rfl (by assumption) rfl) rfl ?_) | (refine RW.y (Y.loadBlock rfl (by assumption) rfl) rfl ?_)) | (refine Gt.len ?_; first | (refine RW.y (Y.lenv rfl) rfl ?_) | (refine RW.y (Y.lenx rfl (by assumption)) rfl ?_)) | (refine Gt.lss ?_; refine RW.y (Y.lss rfl rfl) rfl ?_) | (refine Gt.not ?_; first | (refine RW.y (Y.not rfl) rfl ?_) | (refine RW.y (Y.notb rfl) rfl ?_)) | (refine Gt.extract ?_; refine RW.y (Y.extract rfl rfl) rfl ?_) | (refine Gt.idx ?_; first | (refine RW.elemF rfl rfl rfl rfl rfl rfl (by assumption) (fun _ => by rfl) rfl (by omega) (by omega) (by rfl) (fun _ _ => ?_)) | (refine RW.elemA rfl rfl rfl rfl (by assumption) (fun _ => by rfl) rfl (by omega) (by omega) (fun _ => ?_)) | (refine RW.elemM rfl rfl rfl rfl (by assumption) (by omega) (by omega) ?_) | (refine RW.y (Y.idxP rfl rfl (by omega) (by omega)) rfl ?_)) | (refine Gt.gtr ?_; refine RW.y (Y.gtr rfl rfl) rfl ?_) | (refine Gt.rem ?_; first | (refine RW.y (Y.remP rfl rfl (by omega) (by omega)) rfl ?_) | (refine RW.y (Y.rem rfl rfl (by omega)) rfl ?_)) | (refine Gt.convert ?_; first | (refine RW.y (Y.convN rfl (by first | exact wrap64_id (by omega) (by omega) | exact wrapu64_id (by omega) (by omega) | exact wrapu8_id (by omega) (by omega) | exact wrapu16_id (by omega) (by omega) | exact wrapu32_id (by omega) (by omega))) rfl ?_) | (refine RW.y (Y.convW rfl) rfl ?_)) | (refine Gt.add ?_; refine RW.y (Y.add64 rfl rfl (by omega) (by omega)) rfl ?_) | (refine Gt.eql ?_; first | (refine RW.y (Y.eqi rfl rfl) rfl ?_) | (refine RW.y (Y.eqb rfl rfl) rfl ?_)) | (refine Gt.geq ?_; refine RW.y (Y.geq rfl rfl) rfl ?_) | (refine RW.y (Y.build (ps := [(0, _), (1, _), (2, _)]) rfl rfl) rfl ?_))
        exact ⟨l.length - (j + 1), _, rfl, rfl, rfl, by omega, j + 1, by rw [hst]; rfl, rfl, by omega, hkv.trans0 hk67⟩
      · have hm0 : ¬ m < 0 := fun h => by rw [f1 h j hjl] at hh; cases hh
        obtain ⟨c, hc⟩ : ∃ c : Nat, m = (c : Int) := ⟨m.toNat, by omega⟩
        subst hc
        have hcl : c < l.length := by omega
        obtain ⟨q1, q2⟩ := f2 (by omega)
        rw [Int.toNat_natCast] at q1 q2
        obtain ⟨q3, q4⟩ := q2 j hjl hh
        have hcs := cmpI_sign (rkT (l.getD j default)) (rkT (l.getD c default))
        have hc1 : ¬ 0 < cmpI (rkT (l.getD j default)) (rkT (l.getD c default)) := fun h => by have := hcs.1.1 h; omega
        have hc2 : cmpI (rkT (l.getD j default)) (rkT (l.getD c default)) = 0 → c ≤ j := fun h => by have := q4 (hcs.2.1 h); omega
        rw [hh, Bool.or_true] at hst
        rw [show max (c : Int) 0 = (c : Int) from by omega, show decide ((c : Int) ≥ 0) = true from decide_eq_true (by omega)]
        skip
        refine AW.take 6 rfl (by kernel_rfl) (by kernel_rfl) (by kernel_rfl) rfl (by assumption) (fun w hS => by first | exact Y.not rfl | exact Y.notb rfl | exact Y.neg64 rfl (by omega) (by omega)) ?_
        refine AW.donew [5, 6, 7, 9, 10, 11, 12, 84] (by kernel_rfl) ?_
        dsimp only [H.keep, H.look, H.Fr.put, Nat.beq]
        have hb7 := hk67.at0 hbv
        have hr7 := hrv.keep0 hk67
        have hcellc : ∀ {w' : World}, K0 w7 w' → ∀ (k : Nat) (v : Value), (verCl ((l.map trC).getD c default))[k]? = some v → w'.cell? ((Value.spot u ((c : Int).toNat * 4)).add k) = some v := fun h => elCells (hr7.keep0 h) verCl_len (by omega)
        repeat' (first | (refine CL.seq ?_) | (refine CL.region ?_) | (refine CL.skip ?_) | (refine CL.condP rfl (fun _ => ?_) (fun _ => ?_) <;> try (exfalso; omega)) | (refine CL.condT rfl ?_) | (refine CL.condF rfl ?_) | (refine CL.cond rfl (fun _ => ?_) (fun _ => ?_)) | (refine CL.block ?_) | (refine CL.exit ?_) | (refine Ex.then ?_) | (refine Ex.hit ?_) | (refine Ex.miss rfl ?_) | (refine CL.ret ?_) | (refine Rt.then ?_) | (refine Rt.block ?_) | (refine Pn.then ?_) | (refine Pn.block ?_) | (refine CL.done ?_) | (refine Nm.block ?_) | (refine Nm.then ?_) | (refine Gt.nil ?_; refine RW.nilw [0, 1, 4, 5, 6, 7, 8, 9, 10, 11, 12, 13, 15, 28, 38, 75, 84, 96, 116] ?_; dsimp only [H.keep, H.look, H.Fr.put, Nat.beq]) | (refine Gt.move ?_; refine RW.y (Y.move rfl) rfl ?_) | (refine Gt.guard ?_; first | (refine RW.part rfl rfl rfl (fun _ => ?_) (fun _ => ?_) <;> try (exfalso; omega)) | (refine RW.on rfl rfl rfl ?_) | (refine RW.off1 rfl rfl rfl rfl rfl ?_) | (refine RW.off rfl rfl rfl rfl rfl ?_) | (refine RW.offu rfl rfl rfl rfl ?_) | (refine RW.partb rfl rfl rfl (fun _ => ?_) (fun _ => ?_))) | (refine Gt.assign ?_; refine RW.y (Y.assign rfl) rfl ?_) | (refine Gt.pick ?_; first | (refine RW.y (Y.pickT rfl rfl) rfl ?_) | (refine RW.y (Y.pickF rfl rfl) rfl ?_)) | (refine Gt.load ?_; first | (refine RW.y (Y.loadB rfl (by assumption) rfl) rfl ?_) | (refine RW.y (Y.loadBlock rfl (by assumption) rfl) rfl ?_)) | (refine Gt.len ?_; first | (refine RW.y (Y.lenv rfl) rfl ?_) | (refine RW.y (Y.lenx rfl (by assumption)) rfl ?_)) | (refine Gt.lss ?_; refine RW.y (Y.lss rfl rfl) rfl ?_) | (refine Gt.not ?_; first | (refine RW.y (Y.not rfl) rfl ?_) | (refine RW.y (Y.notb rfl) rfl ?_)) | (refine Gt.extract ?_; refine RW.y (Y.extract rfl rfl) rfl ?_) | (refine Gt.idx ?_; first | (refine RW.elemF rfl rfl rfl rfl rfl rfl (by assumption) (fun _ => by rfl) rfl (by omega) (by omega) (by rfl) (fun _ _ => ?_)) | (refine RW.elemA rfl rfl rfl rfl (by assumption) (fun _ => by rfl) rfl (by omega) (by omega) (fun _ => ?_)) | (refine RW.elemM rfl rfl rfl rfl (by assumption) (by omega) (by omega) ?_) | (refine RW.y (Y.idxP rfl rfl (by omega) (by omega)) rfl ?_)) | (refine Gt.gtr ?_; refine RW.y (Y.gtr rfl rfl) rfl ?_) | (refine Gt.rem ?_; first | (refine RW.y (Y.remP rfl rfl (by omega) (by omega)) rfl ?_) | (refine RW.y (Y.rem rfl rfl (by omega)) rfl ?_)) | (refine Gt.convert ?_; first | (refine RW.y (Y.convN rfl (by first | exact wrap64_id (by omega) (by omega) | exact wrapu64_id (by omega) (by omega) | exact wrapu8_id (by omega) (by omega) | exact wrapu16_id (by omega) (by omega) | exact wrapu32_id (by omega) (by omega))) rfl ?_) | (refine RW.y (Y.convW rfl) rfl ?_)) | (refine Gt.add ?_; refine RW.y (Y.add64 rfl rfl (by omega) (by omega)) rfl ?_) | (refine Gt.eql ?_; first | (refine RW.y (Y.eqi rfl rfl) rfl ?_) | (refine RW.y (Y.eqb rfl rfl) rfl ?_)) | (refine Gt.geq ?_; refine RW.y (Y.geq rfl rfl) rfl ?_) | (refine RW.y (Y.build (ps := [(0, _), (1, _), (2, _)]) rfl rfl) rfl ?_))
        refine CL.draw (fun w' => K0 w7 w') (by kernel_rfl) (fun w8 hheap8 hk8 => ?_)
        have hS : K0 w7 w8 := hk8
        skip
        refine AW.take 0 rfl (by kernel_rfl) (by kernel_rfl) (by kernel_rfl) rfl (by assumption) (fun w hS => Y.move rfl) ?_
        refine AW.take 1 rfl (by kernel_rfl) (by kernel_rfl) (by kernel_rfl) rfl (by assumption) (fun w hS => Y.move rfl) ?_
        refine AW.take 2 rfl (by kernel_rfl) (by kernel_rfl) (by kernel_rfl) rfl (by assumption) (fun w hS => Y.idx rfl rfl (hr7.keep0 hS) (by omega) (by omega)) ?_
        refine AW.take 3 rfl (by kernel_rfl) (by kernel_rfl) (by kernel_rfl) rfl (by assumption) (fun w hS => Y.loadN (cs := verCl ((l.map trC).getD j default)) rfl rfl (hcell (hk67.trans0 hS))) ?_
        refine AW.take 4 rfl (by kernel_rfl) (by kernel_rfl) (by kernel_rfl) rfl (by assumption) (fun w hS => Y.move rfl) ?_
        refine AW.take 5 rfl (by kernel_rfl) (by kernel_rfl) (by kernel_rfl) rfl (by assumption) (fun w hS => Y.move rfl) ?_
        refine AW.take 6 rfl (by kernel_rfl) (by kernel_rfl) (by kernel_rfl) rfl (by assumption) (fun w hS => Y.idx rfl rfl (hr7.keep0 hS) (by omega) (by omega)) ?_
        refine AW.take 7 rfl (by kernel_rfl) (by kernel_rfl) (by kernel_rfl) rfl (by assumption) (fun w hS => Y.loadN (cs := verCl ((l.map trC).getD c default)) rfl rfl (hcellc hS)) ?_
        refine AW.next 8 rfl (by kernel_rfl) ?_
        refine RW.fn rfl rfl ((refCmp _ _ (trV (l.getD j default)) (trV (l.getD c default)) w8 (hVj j w8 hjl) (hVj c w8 hcl) (hFj j) (hFj c)).mono ?_)
        rintro e w9 ⟨hk9, rfl⟩
        rw [rank_cmp]
        refine RW.nil (Nm.then (rebase0 hS hk9 fun hS => ?_))
        refine AW.take 9 rfl (by kernel_rfl) (by kernel_rfl) (by kernel_rfl) rfl (by assumption) (fun w hS => Y.assign rfl) ?_
        refine AW.donew [5, 6, 7, 9, 10, 11, 12, 13] (by kernel_rfl) ?_
        dsimp only [H.keep, H.look, H.Fr.put, Nat.beq]
        repeat' (first | (refine CL.seq ?_) | (refine CL.region ?_) | (refine CL.skip ?_) | (refine CL.condP rfl (fun _ => ?_) (fun _ => ?_) <;> try (exfalso; omega)) | (refine CL.condT rfl ?_) | (refine CL.condF rfl ?_) | (refine CL.cond rfl (fun _ => ?_) (fun _ => ?_)) | (refine CL.block ?_) | (refine CL.exit ?_) | (refine Ex.then ?_) | (refine Ex.hit ?_) | (refine Ex.miss rfl ?_) | (refine CL.ret ?_) | (refine Rt.then ?_) | (refine Rt.block ?_) | (refine Pn.then ?_) | (refine Pn.block ?_) | (refine CL.done ?_) | (refine Nm.block ?_) | (refine Nm.then ?_) | (refine Gt.nil ?_; refine RW.nilw [0, 1, 4, 5, 6, 7, 8, 9, 10, 11, 12, 13, 15, 28, 38, 75, 84, 96, 116] ?_; dsimp only [H.keep, H.look, H.Fr.put, Nat.beq]) | (refine Gt.move ?_; refine RW.y (Y.move rfl) rfl ?_) | (refine Gt.guard ?_; first | (refine RW.part rfl rfl rfl (fun _ => ?_) (fun _ => ?_) <;> try (exfalso; omega)) | (refine RW.on rfl rfl rfl ?_) | (refine RW.off1 rfl rfl rfl rfl rfl ?_) | (refine RW.off rfl rfl rfl rfl rfl ?_) | (refine RW.offu rfl rfl rfl rfl ?_) | (refine RW.partb rfl rfl rfl (fun _ => ?_) (fun _ => ?_))) | (refine Gt.assign ?_; refine RW.y (Y.assign rfl) rfl ?_) | (refine Gt.pick ?_; first | (refine RW.y (Y.pickT rfl rfl) rfl ?_) | (refine RW.y (Y.pickF rfl rfl) rfl ?_)) | (refine Gt.load ?_; first | (refine RW.y (Y.loadB rfl (by assumption) rfl) rfl ?_) | (refine RW.y (Y.loadBlock rfl (by assumption) rfl) rfl ?_)) | (refine Gt.len ?_; first | (refine RW.y (Y.lenv rfl) rfl ?_) | (refine RW.y (Y.lenx rfl (by assumption)) rfl ?_)) | (refine Gt.lss ?_; refine RW.y (Y.lss rfl rfl) rfl ?_) | (refine Gt.not ?_; first | (refine RW.y (Y.not rfl) rfl ?_) | (refine RW.y (Y.notb rfl) rfl ?_)) | (refine Gt.extract ?_; refine RW.y (Y.extract rfl rfl) rfl ?_) | (refine Gt.idx ?_; first | (refine RW.elemF rfl rfl rfl rfl rfl rfl (by assumption) (fun _ => by rfl) rfl (by omega) (by omega) (by rfl) (fun _ _ => ?_)) | (refine RW.elemA rfl rfl rfl rfl (by assumption) (fun _ => by rfl) rfl (by omega) (by omega) (fun _ => ?_)) | (refine RW.elemM rfl rfl rfl rfl (by assumption) (by omega) (by omega) ?_) | (refine RW.y (Y.idxP rfl rfl (by omega) (by omega)) rfl ?_)) | (refine Gt.gtr ?_; refine RW.y (Y.gtr rfl rfl) rfl ?_) | (refine Gt.rem ?_; first | (refine RW.y (Y.remP rfl rfl (by omega) (by omega)) rfl ?_) | (refine RW.y (Y.rem rfl rfl (by omega)) rfl ?_)) | (refine Gt.convert ?_; first | (refine RW.y (Y.convN rfl (by first | exact wrap64_id (by omega) (by omega) | exact wrapu64_id (by omega) (by omega) | exact wrapu8_id (by omega) (by omega) | exact wrapu16_id (by omega) (by omega) | exact wrapu32_id (by omega) (by omega))) rfl ?_) | (refine RW.y (Y.convW rfl) rfl ?_)) | (refine Gt.add ?_; refine RW.y (Y.add64 rfl rfl (by omega) (by omega)) rfl ?_) | (refine Gt.eql ?_; first | (refine RW.y (Y.eqi rfl rfl) rfl ?_) | (refine RW.y (Y.eqb rfl rfl) rfl ?_)) | (refine Gt.geq ?_; refine RW.y (Y.geq rfl rfl) rfl ?_) | (refine RW.y (Y.build (ps := [(0, _), (1, _), (2, _)]) rfl rfl) rfl ?_))
        all_goals exact ⟨l.length - (j + 1), _, rfl, rfl, rfl, by omega, j + 1, by rw [hst]; rfl, rfl, by omega, ((hkv.trans0 hk67).trans0 hk8).trans0 hk9⟩
    · have hj' : j = l.length := by omega
      subst hj'
      rw [List.take_length]
      have hok : decide (m ≥ 0) = l.any (fun x => hasB ⟨false, [boundsK b]⟩ (trV x)) := by
        by_cases hm0 : m < 0
        · rw [decide_eq_false (by omega)]
          symm
          rw [List.any_eq_false]
          intro x hx
          obtain ⟨i, hi, rfl⟩ := List.getElem_of_mem hx
          have := f1 hm0 i hi
          rw [List.getD_eq_getElem?_getD, List.getElem?_eq_getElem hi] at this
          simpa using this
        · rw [decide_eq_true (by omega)]
          symm
          exact List.any_eq_true.2 ⟨_, getD_mem default (show m.toNat < l.length by omega), (f2 (by omega)).1⟩
      have hmod : (max m 0) % ((l.length : Int) + 1) = max m 0 := Int.emod_eq_of_lt (by omega) (by omega)
      repeat' (first | (refine CL.seq ?_) | (refine CL.region ?_) | (refine CL.skip ?_) | (refine CL.condP rfl (fun _ => ?_) (fun _ => ?_) <;> try (exfalso; omega)) | (refine CL.condT rfl ?_) | (refine CL.condF rfl ?_) | (refine CL.cond rfl (fun _ => ?_) (fun _ => ?_)) | (refine CL.block ?_) | (refine CL.exit ?_) | (refine Ex.then ?_) | (refine Ex.hit ?_) | (refine Ex.miss rfl ?_) | (refine CL.ret ?_) | (refine Rt.then ?_) | (refine Rt.block ?_) | (refine Pn.then ?_) | (refine Pn.block ?_) | (refine CL.done ?_) | (refine Nm.block ?_) | (refine Nm.then ?_) | (refine Gt.nil ?_; refine RW.nilw [0, 1, 4, 5, 6, 7, 8, 9, 10, 11, 12, 13, 15, 28, 38, 75, 84, 96, 116] ?_; dsimp only [H.keep, H.look, H.Fr.put, Nat.beq]) | (refine Gt.move ?_; refine RW.y (Y.move rfl) rfl ?_) | (refine Gt.guard ?_; first | (refine RW.part rfl rfl rfl (fun _ => ?_) (fun _ => ?_) <;> try (exfalso; omega)) | (refine RW.on rfl rfl rfl ?_) | (refine RW.off1 rfl rfl rfl rfl rfl ?_) | (refine RW.off rfl rfl rfl rfl rfl ?_) | (refine RW.offu rfl rfl rfl rfl ?_) | (refine RW.partb rfl rfl rfl (fun _ => ?_) (fun _ => ?_))) | (refine Gt.assign ?_; refine RW.y (Y.assign rfl) rfl ?_) | (refine Gt.pick ?_; first | (refine RW.y (Y.pickT rfl rfl) rfl ?_) | (refine RW.y (Y.pickF rfl rfl) rfl ?_)) | (refine Gt.load ?_; first | (refine RW.y (Y.loadB rfl (by assumption) rfl) rfl ?_) | (refine RW.y (Y.loadBlock rfl (by assumption) rfl) rfl ?_)) | (refine Gt.len ?_; first | (refine RW.y (Y.lenv rfl) rfl ?_) | (refine RW.y (Y.lenx rfl (by assumption)) rfl ?_)) | (refine Gt.lss ?_; refine RW.y (Y.lss rfl rfl) rfl ?_) | (refine Gt.not ?_; first | (refine RW.y (Y.not rfl) rfl ?_) | (refine RW.y (Y.notb rfl) rfl ?_)) | (refine Gt.extract ?_; refine RW.y (Y.extract rfl rfl) rfl ?_) | (refine Gt.idx ?_; first | (refine RW.elemF rfl rfl rfl rfl rfl rfl (by assumption) (fun _ => by rfl) rfl (by omega) (by omega) (by rfl) (fun _ _ => ?_)) | (refine RW.elemA rfl rfl rfl rfl (by assumption) (fun _ => by rfl) rfl (by omega) (by omega) (fun _ => ?_)) | (refine RW.elemM rfl rfl rfl rfl (by assumption) (by omega) (by omega) ?_) | (refine RW.y (Y.idxP rfl rfl (by omega) (by omega)) rfl ?_)) | (refine Gt.gtr ?_; refine RW.y (Y.gtr rfl rfl) rfl ?_) | (refine Gt.rem ?_; first | (refine RW.y (Y.remP rfl rfl (by omega) (by omega)) rfl ?_) | (refine RW.y (Y.rem rfl rfl (by omega)) rfl ?_)) | (refine Gt.convert ?_; first | (refine RW.y (Y.convN rfl (by first | exact wrap64_id (by omega) (by omega) | exact wrapu64_id (by omega) (by omega) | exact wrapu8_id (by omega) (by omega) | exact wrapu16_id (by omega) (by omega) | exact wrapu32_id (by omega) (by omega))) rfl ?_) | (refine RW.y (Y.convW rfl) rfl ?_)) | (refine Gt.add ?_; refine RW.y (Y.add64 rfl rfl (by omega) (by omega)) rfl ?_) | (refine Gt.eql ?_; first | (refine RW.y (Y.eqi rfl rfl) rfl ?_) | (refine RW.y (Y.eqb rfl rfl) rfl ?_)) | (refine Gt.geq ?_; refine RW.y (Y.geq rfl rfl) rfl ?_) | (refine RW.y (Y.build (ps := [(0, _), (1, _), (2, _)]) rfl rfl) rfl ?_))
      refine CL.draw (fun w' => K0 wv w') (by kernel_rfl) (fun w6 hheap hk6 => ?_)
      have hS : K0 wv w6 := hk6
      have hlmi : ((l.map trC).length : Int) = (l.length : Int) := by rw [hlm]
      by_cases hm0 : m < 0
      · rw [decide_eq_false (show ¬ m ≥ 0 by omega)] at hok ⊢
        skip
        refine AW.take 0 rfl (by kernel_rfl) (by kernel_rfl) (by kernel_rfl) rfl (by assumption) (fun w hS => Y.move rfl) ?_
        refine AW.take 1 rfl (by kernel_rfl) (by kernel_rfl) (by kernel_rfl) rfl (by assumption) (fun w hS => Y.eqiS rfl rfl) ?_
        refine AW.take 2 rfl (by kernel_rfl) (by kernel_rfl) (by kernel_rfl) rfl (by assumption) (fun w hS => Y.move rfl) ?_
        refine AW.takeOn 3 rfl (by kernel_rfl) (by kernel_rfl) (by kernel_rfl) rfl rfl rfl rfl (by assumption) (fun w hS => Y.move rfl) ?_
        refine AW.takeOn 4 rfl (by kernel_rfl) (by kernel_rfl) (by kernel_rfl) rfl rfl rfl rfl (by assumption) (fun w hS => Y.move rfl) ?_
        refine AW.takeOn 5 rfl (by kernel_rfl) (by kernel_rfl) (by kernel_rfl) rfl rfl rfl rfl (by assumption) (fun w hS => Y.eqbE rfl rfl hok) ?_
        refine AW.take 6 rfl (by kernel_rfl) (by kernel_rfl) (by kernel_rfl) rfl (by assumption) (fun w hS => by first | exact Y.pickT rfl rfl | exact Y.pickF rfl rfl) ?_
        refine AW.take 7 rfl (by kernel_rfl) (by kernel_rfl) (by kernel_rfl) rfl (by assumption) (fun w hS => Y.move rfl) ?_
        refine AW.takeOn 8 rfl (by kernel_rfl) (by kernel_rfl) (by kernel_rfl) rfl rfl rfl rfl (by assumption) (fun w hS => Y.move rfl) ?_
        refine AW.takeOn 9 rfl (by kernel_rfl) (by kernel_rfl) (by kernel_rfl) rfl rfl rfl rfl (by assumption) (fun w hS => by first | exact Y.not rfl | exact Y.notb rfl | exact Y.neg64 rfl (by omega) (by omega)) ?_
        refine AW.takeOn 10 rfl (by kernel_rfl) (by kernel_rfl) (by kernel_rfl) rfl rfl rfl rfl (by assumption) (fun w hS => Y.move rfl) ?_
        refine AW.takeOff 11 rfl (by kernel_rfl) (by kernel_rfl) (by kernel_rfl) rfl rfl rfl rfl rfl (by assumption) ?_
        refine AW.takeOff 12 rfl (by kernel_rfl) (by kernel_rfl) (by kernel_rfl) rfl rfl rfl rfl rfl (by assumption) ?_
        refine AW.takeOff 13 rfl (by kernel_rfl) (by kernel_rfl) (by kernel_rfl) rfl rfl rfl rfl rfl (by assumption) ?_
        refine AW.takeOff 14 rfl (by kernel_rfl) (by kernel_rfl) (by kernel_rfl) rfl rfl rfl rfl rfl (by assumption) ?_
        refine AW.takeOff 15 rfl (by kernel_rfl) (by kernel_rfl) (by kernel_rfl) rfl rfl rfl rfl rfl (by assumption) ?_
        refine AW.takeOff 16 rfl (by kernel_rfl) (by kernel_rfl) (by kernel_rfl) rfl rfl rfl rfl rfl (by assumption) ?_
        refine AW.takeOn 17 rfl (by kernel_rfl) (by kernel_rfl) (by kernel_rfl) rfl rfl rfl rfl (by assumption) (fun w hS => by first | exact Y.pickT rfl rfl | exact Y.pickF rfl rfl) ?_
        refine AW.take 18 rfl (by kernel_rfl) (by kernel_rfl) (by kernel_rfl) rfl (by assumption) (fun w hS => by first | exact Y.pickT rfl rfl | exact Y.pickF rfl rfl) ?_
        refine AW.take 19 rfl (by kernel_rfl) (by kernel_rfl) (by kernel_rfl) rfl (by assumption) (fun w hS => Y.move rfl) ?_
        refine AW.takeOn 20 rfl (by kernel_rfl) (by kernel_rfl) (by kernel_rfl) rfl rfl rfl rfl (by assumption) (fun w hS => Y.move rfl) ?_
        refine AW.takeOn 21 rfl (by kernel_rfl) (by kernel_rfl) (by kernel_rfl) rfl rfl rfl rfl (by assumption) (fun w hS => Y.move rfl) ?_
        refine AW.takeOn 22 rfl (by kernel_rfl) (by kernel_rfl) (by kernel_rfl) rfl rfl rfl rfl (by assumption) (fun w hS => Y.lenx rfl (hrv.keep0 hS)) ?_
        refine AW.takeOn 23 rfl (by kernel_rfl) (by kernel_rfl) (by kernel_rfl) rfl rfl rfl rfl (by assumption) (fun w hS => by first | exact Y.add64 rfl rfl (by omega) (by omega) | exact Y.addu rfl rfl (by omega) (by omega) | exact Y.addN rfl rfl (by first | exact wrap64_id (by omega) (by omega) | exact wrapu64_id (by omega) (by omega) | exact wrapu8_id (by omega) (by omega) | exact wrapu16_id (by omega) (by omega) | exact wrapu32_id (by omega) (by omega)) | exact Y.cat rfl rfl (by first | omega | (simp only [List.length_append, List.length_cons, List.length_nil]; omega))) ?_
        refine AW.takeOn 25 rfl (by kernel_rfl) (by kernel_rfl) (by kernel_rfl) rfl rfl rfl rfl (by assumption) (fun w hS => Y.move rfl) ?_
        refine AW.next 24 rfl (by kernel_rfl) ?_
        refine RW.on rfl rfl rfl ?_
        rw [hlmi]
        refine RW.fn rfl rfl ((place (max m 0) ((l.length : Int) + 1) (by omega) (by omega) w6).mono ?_)
        rintro e w7 ⟨rfl, rfl⟩
        rw [hmod]
        refine RW.nil (Nm.then (rebase0 hS (Kept.refl _ _) fun hS => ?_))
        refine AW.takeOn 26 rfl (by kernel_rfl) (by kernel_rfl) (by kernel_rfl) rfl rfl rfl rfl (by assumption) (fun w hS => Y.eqiS rfl rfl) ?_
        refine AW.take 27 rfl (by kernel_rfl) (by kernel_rfl) (by kernel_rfl) rfl (by assumption) (fun w hS => by first | exact Y.pickT rfl rfl | exact Y.pickF rfl rfl) ?_
        refine AW.take 28 rfl (by kernel_rfl) (by kernel_rfl) (by kernel_rfl) rfl (by assumption) (fun w hS => Y.assign rfl) ?_
        refine AW.donew [4] (by kernel_rfl) ?_
        dsimp only [H.keep, H.look, H.Fr.put, Nat.beq]
        repeat' (first | (refine CL.seq ?_) | (refine CL.region ?_) | (refine CL.skip ?_) | (refine CL.condP rfl (fun _ => ?_) (fun _ => ?_) <;> try (exfalso; omega)) | (refine CL.condT rfl ?_) | (refine CL.condF rfl ?_) | (refine CL.cond rfl (fun _ => ?_) (fun _ => ?_)) | (refine CL.block ?_) | (refine CL.exit ?_) | (refine Ex.then ?_) | (refine Ex.hit ?_) | (refine Ex.miss rfl ?_) | (refine CL.ret ?_) | (refine Rt.then ?_) | (refine Rt.block ?_) | (refine Pn.then ?_) | (refine Pn.block ?_) | (refine CL.done ?_) | (refine Nm.block ?_) | (refine Nm.then ?_) | (refine Gt.nil ?_; refine RW.nilw [0, 1, 4, 5, 6, 7, 8, 9, 10, 11, 12, 13, 15, 28, 38, 75, 84, 96, 116] ?_; dsimp only [H.keep, H.look, H.Fr.put, Nat.beq]) | (refine Gt.move ?_; refine RW.y (Y.move rfl) rfl ?_) | (refine Gt.guard ?_; first | (refine RW.part rfl rfl rfl (fun _ => ?_) (fun _ => ?_) <;> try (exfalso; omega)) | (refine RW.on rfl rfl rfl ?_) | (refine RW.off1 rfl rfl rfl rfl rfl ?_) | (refine RW.off rfl rfl rfl rfl rfl ?_) | (refine RW.offu rfl rfl rfl rfl ?_) | (refine RW.partb rfl rfl rfl (fun _ => ?_) (fun _ => ?_))) | (refine Gt.assign ?_; refine RW.y (Y.assign rfl) rfl ?_) | (refine Gt.pick ?_; first | (refine RW.y (Y.pickT rfl rfl) rfl ?_) | (refine RW.y (Y.pickF rfl rfl) rfl ?_)) | (refine Gt.load ?_; first | (refine RW.y (Y.loadB rfl (by assumption) rfl) rfl ?_) | (refine RW.y (Y.loadBlock rfl (by assumption) rfl) rfl ?_)) | (refine Gt.len ?_; first | (refine RW.y (Y.lenv rfl) rfl ?_) | (refine RW.y (Y.lenx rfl (by assumption)) rfl ?_)) | (refine Gt.lss ?_; refine RW.y (Y.lss rfl rfl) rfl ?_) | (refine Gt.not ?_; first | (refine RW.y (Y.not rfl) rfl ?_) | (refine RW.y (Y.notb rfl) rfl ?_)) | (refine Gt.extract ?_; refine RW.y (Y.extract rfl rfl) rfl ?_) | (refine Gt.idx ?_; first | (refine RW.elemF rfl rfl rfl rfl rfl rfl (by assumption) (fun _ => by rfl) rfl (by omega) (by omega) (by rfl) (fun _ _ => ?_)) | (refine RW.elemA rfl rfl rfl rfl (by assumption) (fun _ => by rfl) rfl (by omega) (by omega) (fun _ => ?_)) | (refine RW.elemM rfl rfl rfl rfl (by assumption) (by omega) (by omega) ?_) | (refine RW.y (Y.idxP rfl rfl (by omega) (by omega)) rfl ?_)) | (refine Gt.gtr ?_; refine RW.y (Y.gtr rfl rfl) rfl ?_) | (refine Gt.rem ?_; first | (refine RW.y (Y.remP rfl rfl (by omega) (by omega)) rfl ?_) | (refine RW.y (Y.rem rfl rfl (by omega)) rfl ?_)) | (refine Gt.convert ?_; first | (refine RW.y (Y.convN rfl (by first | exact wrap64_id (by omega) (by omega) | exact wrapu64_id (by omega) (by omega) | exact wrapu8_id (by omega) (by omega) | exact wrapu16_id (by omega) (by omega) | exact wrapu32_id (by omega) (by omega))) rfl ?_) | (refine RW.y (Y.convW rfl) rfl ?_)) | (refine Gt.add ?_; refine RW.y (Y.add64 rfl rfl (by omega) (by omega)) rfl ?_) | (refine Gt.eql ?_; first | (refine RW.y (Y.eqi rfl rfl) rfl ?_) | (refine RW.y (Y.eqb rfl rfl) rfl ?_)) | (refine Gt.geq ?_; refine RW.y (Y.geq rfl rfl) rfl ?_) | (refine RW.y (Y.build (ps := [(0, _), (1, _), (2, _)]) rfl rfl) rfl ?_))
        exact FQ.one rfl rfl rfl ⟨rfl, hKv.trans0 hk6⟩
      · obtain ⟨c, hc⟩ : ∃ c : Nat, m = (c : Int) := ⟨m.toNat, by omega⟩
        subst hc
        have hcl : c < l.length := by omega
        obtain ⟨q1, q2⟩ := f2 (by omega)
        rw [Int.toNat_natCast] at q1
        have hcellc : ∀ {w' : World}, K0 wv w' → ∀ (k : Nat) (v : Value), (verCl ((l.map trC).getD c default))[k]? = some v → w'.cell? ((Value.spot u ((c : Int).toNat * 4)).add k) = some v := fun h => elCells (hrv.keep0 h) verCl_len (by omega)
        rw [show max (c : Int) 0 = (c : Int) from by omega] at hmod ⊢
        rw [decide_eq_true (show (c : Int) ≥ 0 by omega)] at hok ⊢
        skip
        refine AW.take 0 rfl (by kernel_rfl) (by kernel_rfl) (by kernel_rfl) rfl (by assumption) (fun w hS => Y.move rfl) ?_
        refine AW.take 1 rfl (by kernel_rfl) (by kernel_rfl) (by kernel_rfl) rfl (by assumption) (fun w hS => Y.eqiS rfl rfl) ?_
        refine AW.take 2 rfl (by kernel_rfl) (by kernel_rfl) (by kernel_rfl) rfl (by assumption) (fun w hS => Y.move rfl) ?_
        refine AW.takeOn 3 rfl (by kernel_rfl) (by kernel_rfl) (by kernel_rfl) rfl rfl rfl rfl (by assumption) (fun w hS => Y.move rfl) ?_
        refine AW.takeOn 4 rfl (by kernel_rfl) (by kernel_rfl) (by kernel_rfl) rfl rfl rfl rfl (by assumption) (fun w hS => Y.move rfl) ?_
        refine AW.takeOn 5 rfl (by kernel_rfl) (by kernel_rfl) (by kernel_rfl) rfl rfl rfl rfl (by assumption) (fun w hS => Y.eqbE rfl rfl hok) ?_
        refine AW.take 6 rfl (by kernel_rfl) (by kernel_rfl) (by kernel_rfl) rfl (by assumption) (fun w hS => by first | exact Y.pickT rfl rfl | exact Y.pickF rfl rfl) ?_
        refine AW.take 7 rfl (by kernel_rfl) (by kernel_rfl) (by kernel_rfl) rfl (by assumption) (fun w hS => Y.move rfl) ?_
        refine AW.takeOn 8 rfl (by kernel_rfl) (by kernel_rfl) (by kernel_rfl) rfl rfl rfl rfl (by assumption) (fun w hS => Y.move rfl) ?_
        refine AW.takeOn 9 rfl (by kernel_rfl) (by kernel_rfl) (by kernel_rfl) rfl rfl rfl rfl (by assumption) (fun w hS => by first | exact Y.not rfl | exact Y.notb rfl | exact Y.neg64 rfl (by omega) (by omega)) ?_
        refine AW.takeOn 10 rfl (by kernel_rfl) (by kernel_rfl) (by kernel_rfl) rfl rfl rfl rfl (by assumption) (fun w hS => Y.move rfl) ?_
        refine AW.takeOn 11 rfl (by kernel_rfl) (by kernel_rfl) (by kernel_rfl) rfl rfl rfl rfl (by assumption) (fun w hS => Y.loadBlock rfl (hS.at0 hbv) rfl) ?_
        refine AW.takeOn 12 rfl (by kernel_rfl) (by kernel_rfl) (by kernel_rfl) rfl rfl rfl rfl (by assumption) (fun w hS => Y.move rfl) ?_
        refine AW.takeOn 13 rfl (by kernel_rfl) (by kernel_rfl) (by kernel_rfl) rfl rfl rfl rfl (by assumption) (fun w hS => Y.move rfl) ?_
        refine AW.takeOn 14 rfl (by kernel_rfl) (by kernel_rfl) (by kernel_rfl) rfl rfl rfl rfl (by assumption) (fun w hS => Y.idx rfl rfl (hrv.keep0 hS) (by omega) (by omega)) ?_
        refine AW.takeOn 15 rfl (by kernel_rfl) (by kernel_rfl) (by kernel_rfl) rfl rfl rfl rfl (by assumption) (fun w hS => Y.loadN (cs := verCl ((l.map trC).getD c default)) rfl rfl (hcellc hS)) ?_
        refine AW.next 16 rfl (by kernel_rfl) ?_
        refine RW.on rfl rfl rfl ?_
        refine RW.fn rfl rfl ((has _ _ ⟨false, [boundsK b]⟩ (trV (l.getD c default)) w6 (b5 (hkv.trans0 hk6)) (hVj c w6 hcl) fP.fits (hFj c)).mono ?_)
        rintro e w7 ⟨hk7, rfl⟩
        rw [q1]
        refine RW.nil (Nm.then (rebase0 hS hk7 fun hS => ?_))
        have hr7 := hrv.keep0 (hk6.trans0 hk7)
        refine AW.takeOn 17 rfl (by kernel_rfl) (by kernel_rfl) (by kernel_rfl) rfl rfl rfl rfl (by assumption) (fun w hS => by first | exact Y.pickT rfl rfl | exact Y.pickF rfl rfl) ?_
        refine AW.take 18 rfl (by kernel_rfl) (by kernel_rfl) (by kernel_rfl) rfl (by assumption) (fun w hS => by first | exact Y.pickT rfl rfl | exact Y.pickF rfl rfl) ?_
        refine AW.take 19 rfl (by kernel_rfl) (by kernel_rfl) (by kernel_rfl) rfl (by assumption) (fun w hS => Y.move rfl) ?_
        refine AW.takeOn 20 rfl (by kernel_rfl) (by kernel_rfl) (by kernel_rfl) rfl rfl rfl rfl (by assumption) (fun w hS => Y.move rfl) ?_
        refine AW.takeOn 21 rfl (by kernel_rfl) (by kernel_rfl) (by kernel_rfl) rfl rfl rfl rfl (by assumption) (fun w hS => Y.move rfl) ?_
        refine AW.takeOn 22 rfl (by kernel_rfl) (by kernel_rfl) (by kernel_rfl) rfl rfl rfl rfl (by assumption) (fun w hS => Y.lenx rfl (hr7.keep0 hS)) ?_
        refine AW.takeOn 23 rfl (by kernel_rfl) (by kernel_rfl) (by kernel_rfl) rfl rfl rfl rfl (by assumption) (fun w hS => by first | exact Y.add64 rfl rfl (by omega) (by omega) | exact Y.addu rfl rfl (by omega) (by omega) | exact Y.addN rfl rfl (by first | exact wrap64_id (by omega) (by omega) | exact wrapu64_id (by omega) (by omega) | exact wrapu8_id (by omega) (by omega) | exact wrapu16_id (by omega) (by omega) | exact wrapu32_id (by omega) (by omega)) | exact Y.cat rfl rfl (by first | omega | (simp only [List.length_append, List.length_cons, List.length_nil]; omega))) ?_
        refine AW.takeOn 25 rfl (by kernel_rfl) (by kernel_rfl) (by kernel_rfl) rfl rfl rfl rfl (by assumption) (fun w hS => Y.move rfl) ?_
        refine AW.next 24 rfl (by kernel_rfl) ?_
        refine RW.on rfl rfl rfl ?_
        rw [hlmi]
        refine RW.fn rfl rfl ((place (c : Int) ((l.length : Int) + 1) (by omega) (by omega) w7).mono ?_)
        rintro e w8 ⟨rfl, rfl⟩
        rw [hmod]
        refine RW.nil (Nm.then (rebase0 hS (Kept.refl _ _) fun hS => ?_))
        refine AW.takeOn 26 rfl (by kernel_rfl) (by kernel_rfl) (by kernel_rfl) rfl rfl rfl rfl (by assumption) (fun w hS => Y.eqiS rfl rfl) ?_
        refine AW.take 27 rfl (by kernel_rfl) (by kernel_rfl) (by kernel_rfl) rfl (by assumption) (fun w hS => by first | exact Y.pickT rfl rfl | exact Y.pickF rfl rfl) ?_
        refine AW.take 28 rfl (by kernel_rfl) (by kernel_rfl) (by kernel_rfl) rfl (by assumption) (fun w hS => Y.assign rfl) ?_
        refine AW.donew [4] (by kernel_rfl) ?_
        dsimp only [H.keep, H.look, H.Fr.put, Nat.beq]
        repeat' (first | (refine CL.seq ?_) | (refine CL.region ?_) | (refine CL.skip ?_) | (refine CL.condP rfl (fun _ => ?_) (fun _ => ?_) <;> try (exfalso; omega)) | (refine CL.condT rfl ?_) | (refine CL.condF rfl ?_) | (refine CL.cond rfl (fun _ => ?_) (fun _ => ?_)) | (refine CL.block ?_) | (refine CL.exit ?_) | (refine Ex.then ?_) | (refine Ex.hit ?_) | (refine Ex.miss rfl ?_) | (refine CL.ret ?_) | (refine Rt.then ?_) | (refine Rt.block ?_) | (refine Pn.then ?_) | (refine Pn.block ?_) | (refine CL.done ?_) | (refine Nm.block ?_) | (refine Nm.then ?_) | (refine Gt.nil ?_; refine RW.nilw [0, 1, 4, 5, 6, 7, 8, 9, 10, 11, 12, 13, 15, 28, 38, 75, 84, 96, 116] ?_; dsimp only [H.keep, H.look, H.Fr.put, Nat.beq]) | (refine Gt.move ?_; refine RW.y (Y.move rfl) rfl ?_) | (refine Gt.guard ?_; first | (refine RW.part rfl rfl rfl (fun _ => ?_) (fun _ => ?_) <;> try (exfalso; omega)) | (refine RW.on rfl rfl rfl ?_) | (refine RW.off1 rfl rfl rfl rfl rfl ?_) | (refine RW.off rfl rfl rfl rfl rfl ?_) | (refine RW.offu rfl rfl rfl rfl ?_) | (refine RW.partb rfl rfl rfl (fun _ => ?_) (fun _ => ?_))) | (refine Gt.assign ?_; refine RW.y (Y.assign rfl) rfl ?_) | (refine Gt.pick ?_; first | (refine RW.y (Y.pickT rfl rfl) rfl ?_) | (refine RW.y (Y.pickF rfl rfl) rfl ?_)) | (refine Gt.load ?_; first | (refine RW.y (Y.loadB rfl (by assumption) rfl) rfl ?_) | (refine RW.y (Y.loadBlock rfl (by assumption) rfl) rfl ?_)) | (refine Gt.len ?_; first | (refine RW.y (Y.lenv rfl) rfl ?_) | (refine RW.y (Y.lenx rfl (by assumption)) rfl ?_)) | (refine Gt.lss ?_; refine RW.y (Y.lss rfl rfl) rfl ?_) | (refine Gt.not ?_; first | (refine RW.y (Y.not rfl) rfl ?_) | (refine RW.y (Y.notb rfl) rfl ?_)) | (refine Gt.extract ?_; refine RW.y (Y.extract rfl rfl) rfl ?_) | (refine Gt.idx ?_; first | (refine RW.elemF rfl rfl rfl rfl rfl rfl (by assumption) (fun _ => by rfl) rfl (by omega) (by omega) (by rfl) (fun _ _ => ?_)) | (refine RW.elemA rfl rfl rfl rfl (by assumption) (fun _ => by rfl) rfl (by omega) (by omega) (fun _ => ?_)) | (refine RW.elemM rfl rfl rfl rfl (by assumption) (by omega) (by omega) ?_) | (refine RW.y (Y.idxP rfl rfl (by omega) (by omega)) rfl ?_)) | (refine Gt.gtr ?_; refine RW.y (Y.gtr rfl rfl) rfl ?_) | (refine Gt.rem ?_; first | (refine RW.y (Y.remP rfl rfl (by omega) (by omega)) rfl ?_) | (refine RW.y (Y.rem rfl rfl (by omega)) rfl ?_)) | (refine Gt.convert ?_; first | (refine RW.y (Y.convN rfl (by first | exact wrap64_id (by omega) (by omega) | exact wrapu64_id (by omega) (by omega) | exact wrapu8_id (by omega) (by omega) | exact wrapu16_id (by omega) (by omega) | exact wrapu32_id (by omega) (by omega))) rfl ?_) | (refine RW.y (Y.convW rfl) rfl ?_)) | (refine Gt.add ?_; refine RW.y (Y.add64 rfl rfl (by omega) (by omega)) rfl ?_) | (refine Gt.eql ?_; first | (refine RW.y (Y.eqi rfl rfl) rfl ?_) | (refine RW.y (Y.eqb rfl rfl) rfl ?_)) | (refine Gt.geq ?_; refine RW.y (Y.geq rfl rfl) rfl ?_) | (refine RW.y (Y.build (ps := [(0, _), (1, _), (2, _)]) rfl rfl) rfl ?_))
        exact FQ.one rfl rfl rfl ⟨rfl, (hKv.trans0 hk6).trans0 hk7⟩
end Go.Proofs.YtjfdhafmbcppjaaGreatDoor.Sp

namespace Go.Proofs.YtjfdhafmbcppjaaGreatDoor.H
open Go.ChangeShapes Go.WideShapes Go.RowKit

/-- What a reading of a type's cells tells. -/
class Opn (P : Program) (t : TypeId) (α : outParam Type) (en : outParam (α → List Value)) (ok : outParam (World → α → Prop)) : Prop where
  out : ∀ (H : Type) (enc : TypeId × Value → H) (W : World) (fuel : Nat) (cs : List Value) (x : DataW H × List MemPlace), DataW.trod enc P W 0 (fun _ => true) true fuel t cs = some x → ∃ a, cs = en a ∧ ok W a
class Cel (P : Program) (t : TypeId) (n : outParam Nat) : Prop where out : P.cellsOf t = n
theorem Cel.of {P : Program} {t : TypeId} {z : Value} {s b : Nat} [h : Inf P t z s b] : Cel P t s := ⟨by
  have h := h.out
  cases hi : P.info? t with
  | none => simp [hi] at h
  | some i =>
    simp only [hi, Option.map_some, Option.some.injEq, Prod.mk.injEq] at h
    simp [Program.cellsOf, hi, h.2.1]⟩
instance {P : Program} {t : TypeId} {z : Value} {s b : Nat} [h : Inf P t z s b] : Cel P t s := Cel.of
class CelS (P : Program) (t : TypeId) (n : outParam Nat) : Prop where
  out : P.cellsOf t = n
  pos : 0 < n

theorem wf_of {k : IntKind} {n : Int} (h : (Lit.int k n).wf = true) : k.min ≤ n ∧ n ≤ k.max := by
  simpa [Lit.wf] using h

instance (priority := low) {P : Program} {t : TypeId} {k : IntKind} [h : Und P t (.int k)] : Opn P t Int (fun n => [.int k n]) (fun _ n => k.min ≤ n ∧ n ≤ k.max) := ⟨fun _ _ _ _ _ _ hx => by
  obtain ⟨n, rfl, rfl, hw⟩ := DataW.trod_int h.out hx
  exact ⟨n, rfl, wf_of hw⟩⟩
instance {P : Program} {t : TypeId} [h : Und P t (.int .i64)] : Opn P t Int (fun n => [.int .i64 n]) (fun _ n => -9223372036854775808 ≤ n ∧ n ≤ 9223372036854775807) := ⟨fun _ _ _ _ _ _ hx => by
  obtain ⟨n, rfl, rfl, hw⟩ := DataW.trod_int h.out hx
  exact ⟨n, rfl, bounds_i64 hw⟩⟩
instance {P : Program} {t : TypeId} [h : Und P t (.int .u64)] : Opn P t Nat (fun n => [.int .u64 (n : Int)]) (fun _ n => n < 18446744073709551616) := ⟨fun _ _ _ _ _ _ hx => by
  obtain ⟨n, rfl, rfl, hw⟩ := DataW.trod_int h.out hx
  have := bounds_u64 hw
  exact ⟨n.toNat, by rw [Int.toNat_of_nonneg this.1], by omega⟩⟩
instance {P : Program} {t : TypeId} [h : Und P t (.int .u8)] : Opn P t UInt8 (fun n => [vb n]) (fun _ _ => True) := ⟨fun _ _ _ _ _ _ hx => by
  obtain ⟨n, rfl, rfl, hw⟩ := DataW.trod_int h.out hx
  have := bounds_u8 hw
  refine ⟨UInt8.ofNat n.toNat, ?_, trivial⟩
  simp only [vb, UInt8.toNat_ofNat']
  congr 2
  omega⟩
instance {P : Program} {t : TypeId} [h : Und P t .bool] : Opn P t Bool (fun b => [.bool b]) (fun _ _ => True) := ⟨fun _ _ _ _ _ _ hx => by
  obtain ⟨n, rfl, rfl⟩ := DataW.trod_bool h.out hx
  exact ⟨n, rfl, trivial⟩⟩
instance {P : Program} {t : TypeId} [h : Und P t .string] : Opn P t (List UInt8) (fun s => [vs s]) (fun _ s => s.length ≤ 9223372036854775807) := ⟨fun _ _ _ _ _ _ hx => by
  obtain ⟨s, rfl, rfl, hw⟩ := DataW.trod_string h.out hx
  refine ⟨s.data.toList, rfl, ?_⟩
  simpa [maxLen] using hw⟩

theorem addr_none {w : World} {a : Addr} {v : Value} (h : w.cell? a = some v) : ∃ c e fz, w.heap[a.block]? = some (.cells c e fz) ∧ a.spot = none ∧ c[a.off]? = some v := by
  unfold World.cell? at h
  split at h
  · rename_i c e fz hc
    split at h
    · cases h
    · rename_i hs
      exact ⟨c, e, fz, hc, by simpa using hs, h⟩
  · cases h

theorem list_grow {L cs : List Value} {off k sz : Nat} (hl : cs.length = sz) (h : ∀ j, j < sz → L[off + k * sz + j]? = cs[j]?) : (L.drop off).take ((k + 1) * sz) = (L.drop off).take (k * sz) ++ cs := by
  rw [Nat.succ_mul, List.take_add]
  congr 1
  apply List.ext_getElem?
  intro j
  rw [List.getElem?_take]
  split
  · rename_i hj
    rw [List.drop_drop, List.getElem?_drop]
    exact h j hj
  · rename_i hj
    rw [List.getElem?_eq_none (by omega)]

/-- A slice's reading. -/
instance {P : Program} {t e : TypeId} {sz : Nat} [h : Und P t (.slice e)] [hc : CelS P e sz] {β : Type} {en : β → List Value} {ok : World → β → Prop} [ho : Opn P e β en ok] :
    Opn P t (Value × List β) (fun p => [p.1]) (fun W p => Sl W sz p.1 p.2.length (p.2.flatMap en) ∧ ∀ x ∈ p.2, ok W x) := ⟨fun H enc W fuel cs x hx => by
  have hpos := hc.pos
  rcases Go.Deep.open_slice h.out hx with ⟨rfl, _⟩ | ⟨a, len, cap, m, n, D, Pl, rfl, _, hl, hm, hmm, _, hel⟩
  · exact ⟨(_, []), rfl, by simpa using Sl.nil W sz, by simp⟩
  have hel : ∀ i, i < cap → ∃ cs', W.cells? 0 (a.add (i * sz)) sz = some cs' ∧ DataW.trod enc P W 0 (fun _ => true) true n e cs' = some (D i, Pl i) := fun i hi => by
    have := hel i (by rw [hmm]; simpa using hi)
    rw [hc.out] at this
    exact this
  by_cases h0 : cap = 0
  · subst h0
    have : len = 0 := by omega
    subst this
    exact ⟨(_, []), rfl, ⟨by simp, by simp, .inl ⟨_, rfl, rfl⟩⟩, by simp⟩
  obtain ⟨cs0, hcs0, _⟩ := hel 0 (by omega)
  obtain ⟨_, hlen0, hat0⟩ := World.cells?_some hcs0
  have h00 := hat0 0 (by omega)
  rw [List.getElem?_eq_getElem (by omega)] at h00
  have hz : (a.add (0 * sz)).add 0 = a := by unfold Addr.add; simp
  rw [hz] at h00
  obtain ⟨c, e', fz, hb, hsp, _⟩ := addr_none h00
  obtain ⟨g, off, sp⟩ := a
  simp only at hsp
  subst hsp
  have hcell : ∀ i, i < cap → ∃ cs', cs'.length = sz ∧ (∃ b, cs' = en b ∧ ok W b) ∧ ∀ j, j < sz → c.toList[off + i * sz + j]? = cs'[j]? := by
    intro i hi
    obtain ⟨cs', h1, h2⟩ := hel i hi
    obtain ⟨_, h4, h5⟩ := World.cells?_some h1
    refine ⟨cs', h4, ho.out H enc W n cs' _ h2, fun j hj => ?_⟩
    have := h5 j hj
    rw [addr_add, addr_add, cell_row (off := 0) hb] at this
    rw [← this, Array.getElem?_toList]
  have grow : ∀ k, k ≤ cap → ∃ xs : List β, xs.length = k ∧ (c.toList.drop off).take (k * sz) = xs.flatMap en ∧ (∀ x ∈ xs, ok W x) ∧ (xs.flatMap en).length = k * sz := by
    intro k
    induction k with
    | zero => intro _; exact ⟨[], rfl, by simp, by simp, by simp⟩
    | succ k ih =>
      intro hk
      obtain ⟨xs, h1, h2, h3, h6⟩ := ih (by omega)
      obtain ⟨cs', h4, ⟨b, rfl, hb'⟩, h5⟩ := hcell k (by omega)
      refine ⟨xs ++ [b], by simp [h1], ?_, ?_, ?_⟩
      · rw [list_grow h4 h5, h2]; simp
      · intro x hx
        rcases List.mem_append.1 hx with hx | hx
        · exact h3 x hx
        · simp only [List.mem_singleton] at hx; subst hx; exact hb'
      · rw [List.flatMap_append, List.length_append, h6]; simp [h4, Nat.succ_mul]
  have hsize : off + cap * sz ≤ c.size := by
    obtain ⟨cs', h4, _, h5⟩ := hcell (cap - 1) (by omega)
    have h6 := h5 (sz - 1) (by omega)
    rw [show cs'[sz - 1]? = some (cs'[sz - 1]'(by omega)) from List.getElem?_eq_getElem (by omega)] at h6
    have h7 := (List.getElem?_eq_some_iff.1 h6).1
    have : (cap - 1) * sz + sz = cap * sz := by
      have : cap = (cap - 1) + 1 := by omega
      conv => rhs; rw [this, Nat.succ_mul]
    simp only [Array.length_toList] at h7
    omega
  obtain ⟨xs, h1, h2, h3, h6⟩ := grow len hl
  subst h1
  exact ⟨(_, xs), rfl, ⟨h6, Nat.le_trans hl hm, .inr ⟨g, off, cap, c, e', fz, rfl, hb, hl, hm, hsize, h2⟩⟩, h3⟩⟩

/-- Fields, one behind the other. -/
class OpnF (P : Program) (ts : List TypeId) (α : outParam Type) (en : outParam (α → List Value)) (ok : outParam (World → α → Prop)) (len : outParam Nat) : Prop where
  out : ∀ (H : Type) (enc : TypeId × Value → H) (W : World) (n off : Nat) (cs : List Value), off + len ≤ cs.length →
    (∀ (pre : List TypeId) (t : TypeId) (post : List TypeId), ts = pre ++ t :: post → ∃ x, DataW.trod enc P W 0 (fun _ => true) true n t ((cs.drop (off + (pre.map P.cellsOf).sum)).take (P.cellsOf t)) = some x) →
    ∃ a, (cs.drop off).take len = en a ∧ ok W a
  sum : (ts.map P.cellsOf).sum = len
instance {P : Program} : OpnF P [] Unit (fun _ => []) (fun _ _ => True) 0 := ⟨fun _ _ _ _ _ _ _ _ => ⟨(), by simp, trivial⟩, rfl⟩
instance {P : Program} {t : TypeId} {ts : List TypeId} {α β : Type} {en : α → List Value} {ok : World → α → Prop} {en' : β → List Value} {ok' : World → β → Prop} {c l : Nat} [hc : Cel P t c] [h1 : Opn P t α en ok] [h2 : OpnF P ts β en' ok' l] :
    OpnF P (t :: ts) (α × β) (fun p => en p.1 ++ en' p.2) (fun W p => ok W p.1 ∧ ok' W p.2) (c + l) := ⟨fun H enc W n off cs hl hf => by
  obtain ⟨x, hx⟩ := hf [] t ts rfl
  simp only [List.map_nil, List.sum_nil, Nat.add_zero] at hx
  rw [hc.out] at hx
  obtain ⟨a, ha, hok⟩ := h1.out H enc W n _ x hx
  obtain ⟨b, hb, hok'⟩ := h2.out H enc W n (off + c) cs (by omega) (fun pre u post he => by
    obtain ⟨y, hy⟩ := hf (t :: pre) u post (by rw [he]; rfl)
    refine ⟨y, ?_⟩
    simp only [List.map_cons, List.sum_cons, hc.out] at hy
    rw [Nat.add_assoc]; exact hy)
  refine ⟨(a, b), ?_, hok, hok'⟩
  rw [List.take_add, ha, List.drop_drop, hb], by rw [List.map_cons, List.sum_cons, hc.out, h2.sum]⟩

def offsOk (P : Program) : Nat → List Field → Bool
  | _, [] => true
  | o, f :: r => f.offset == o && offsOk P (o + P.cellsOf f.type) r

theorem offs_at {P : Program} : ∀ (fs : List Field) (o : Nat), offsOk P o fs = true → ∀ (pre : List Field) (f : Field) (post : List Field), fs = pre ++ f :: post → f.offset = o + ((pre.map (·.type)).map P.cellsOf).sum := by
  intro fs
  induction fs with
  | nil => intro o _ pre f post h; cases pre <;> cases h
  | cons a r ih =>
    intro o h pre f post he
    simp only [offsOk, Bool.and_eq_true, beq_iff_eq] at h
    cases pre with
    | nil => simp only [List.nil_append, List.cons.injEq] at he; obtain ⟨rfl, _⟩ := he; simp [h.1]
    | cons b pre =>
      simp only [List.cons_append, List.cons.injEq] at he
      obtain ⟨rfl, he⟩ := he
      rw [ih _ h.2 pre f post he]
      simp [Nat.add_assoc]

/-- A struct's reading. -/
class StrT (P : Program) (t : TypeId) (ts : outParam (List TypeId)) : Prop where
  out : ∃ fs, P.underlying t = some (.struct fs) ∧ fs.toList.map (·.type) = ts ∧ offsOk P 0 fs.toList = true ∧ P.cellsOf t = (ts.map P.cellsOf).sum
instance {P : Program} {t : TypeId} {ts : List TypeId} [hS : StrT P t ts] {α : Type} {en : α → List Value} {ok : World → α → Prop} {len : Nat} [h : OpnF P ts α en ok len] : Opn P t α en ok := ⟨fun H enc W fuel cs x hx => by
  obtain ⟨fs, hu, hts, hof, hlen⟩ := hS.out
  obtain ⟨xs, n, rfl, rfl, hl, hxl, hf⟩ := DataW.trod_struct hu hx
  rw [hlen, h.sum] at hl
  subst hts
  obtain ⟨a, ha, hok⟩ := h.out H enc W n 0 cs (by omega) (fun pre u post he => by
    obtain ⟨i, hi⟩ : ∃ i, pre.length = i := ⟨_, rfl⟩
    have hlen2 : pre.length < fs.toList.length := by
      have := congrArg List.length he
      simp at this
      simp; omega
    have hpre : (fs.toList.take pre.length).map (·.type) = pre := by rw [List.map_take, he]; simp
    have hget : (fs.toList.map (·.type))[pre.length]? = some u := by rw [he]; simp
    rw [List.getElem?_map, List.getElem?_eq_getElem hlen2] at hget
    simp only [Option.map_some, Option.some.injEq] at hget
    have hfi : fs[pre.length]? = some (fs.toList[pre.length]) := by rw [← Array.getElem?_toList, List.getElem?_eq_getElem hlen2]
    have hoff := offs_at fs.toList 0 hof (fs.toList.take pre.length) (fs.toList[pre.length]) (fs.toList.drop (pre.length + 1)) (by rw [← List.drop_eq_getElem_cons hlen2, List.take_append_drop])
    have h2 := hf pre.length _ hfi
    rw [hget, hoff, hpre] at h2
    rw [h2]
    have : pre.length < xs.length := by rw [hxl]; simpa using hlen2
    exact ⟨_, List.getElem?_eq_getElem this⟩)
  rw [List.drop_zero, List.take_of_length_le (by omega)] at ha
  exact ⟨a, ha, hok⟩⟩

theorem flat_one {α : Type} (f : α → Value) (l : List α) : (l.flatMap fun a => [f a]) = l.map f := by induction l with
  | nil => rfl
  | cons a l ih => rw [List.flatMap_cons, ih]; rfl
theorem Sl.map {α : Type} {f : α → Value} {W : World} {v : Value} {n : Nat} {l : List α} (h : Sl W 1 v n (l.flatMap fun a => [f a])) : Sl W 1 v n (l.map f) := by rw [← flat_one]; exact h

/-- A parameter. -/
class Top (P : Program) (t : TypeId) (α : outParam Type) (tv : outParam (α → Value)) (ok : outParam (World → α → Prop)) : Prop where
  out : ∀ (H : Type) (enc : TypeId × Value → H) (W : World) (base : Nat) (v : Value) (d : DataW H) (p : List MemPlace), Value.okWide P W .any base t v → DataW.Trod enc P W 0 (fun _ => true) true t v d p → ∃ a, v = tv a ∧ ok W a
theorem Top.one {P : Program} {t : TypeId} {desc : TypeDesc} (hu : P.underlying t = some desc) (hd : TypeDesc.isOne desc = true) {α : Type} {c : α → Value} {ok : World → α → Prop} (h : Opn P t α (fun a => [c a]) ok) : Top P t α c ok := ⟨fun H enc W base v d p hv hd' => by
  obtain ⟨fuel, hf⟩ := hd'
  obtain ⟨a, ha, hok⟩ := h.out H enc W fuel _ _ hf
  refine ⟨a, ?_, hok⟩
  have hna : ∀ cs, v ≠ .agg cs := by
    intro cs hcs
    subst hcs
    unfold Value.okWide at hv
    rw [hu] at hv
    cases desc <;> simp_all [TypeDesc.isOne, Cell.okWide, Cell.ok]
  have : v.cells = #[v] := by
    cases v with
    | agg cs => exact absurd rfl (hna cs)
    | _ => rfl
  rw [this] at ha
  simpa using ha⟩
instance {P : Program} {t : TypeId} {k : IntKind} [h : Und P t (.int k)] {α : Type} {c : α → Value} {ok : World → α → Prop} [ho : Opn P t α (fun a => [c a]) ok] : Top P t α c ok := Top.one h.out rfl ho
instance {P : Program} {t : TypeId} [h : Und P t .bool] {α : Type} {c : α → Value} {ok : World → α → Prop} [ho : Opn P t α (fun a => [c a]) ok] : Top P t α c ok := Top.one h.out rfl ho
instance {P : Program} {t : TypeId} [h : Und P t .string] {α : Type} {c : α → Value} {ok : World → α → Prop} [ho : Opn P t α (fun a => [c a]) ok] : Top P t α c ok := Top.one h.out rfl ho
instance {P : Program} {t e : TypeId} [h : Und P t (.slice e)] {α : Type} {c : α → Value} {ok : World → α → Prop} [ho : Opn P t α (fun a => [c a]) ok] : Top P t α c ok := Top.one h.out rfl ho
instance {P : Program} {t : TypeId} {ts : List TypeId} [hS : StrT P t ts] {α : Type} {en : α → List Value} {ok : World → α → Prop} [h : Opn P t α en ok] : Top P t α (fun a => .agg (en a).toArray) ok := ⟨fun H enc W base v d p hv hd' => by
  obtain ⟨fuel, hf⟩ := hd'
  obtain ⟨fs, hu, _⟩ := hS.out
  obtain ⟨cs, rfl, _⟩ := okWide_struct hu hv
  obtain ⟨a, ha, hok⟩ := h.out H enc W fuel _ _ hf
  refine ⟨a, ?_, hok⟩
  have : cs = (en a).toArray := by
    apply Array.ext'
    simpa [Value.cells] using ha
  rw [this]⟩

/-- The parameters, one behind the other. -/
class Tops (P : Program) (ts : List TypeId) (α : outParam Type) (tv : outParam (α → List Value)) (ok : outParam (World → α → Prop)) : Prop where
  out : ∀ (H : Type) (enc : TypeId × Value → H) (W : World) (base : Nat) (l : List Value) (ds : List (DataW H)) (p : List MemPlace), (∀ (j : Nat) t v, ts[j]? = some t → l[j]? = some v → Value.okWide P W .any base t v) →
    DataW.TrodAll enc P W 0 (fun _ => true) true ts l ds p → ∃ a, l = tv a ∧ ok W a
instance {P : Program} : Tops P [] Unit (fun _ => []) (fun _ _ => True) := ⟨fun _ _ _ _ l ds p _ h => by
  obtain ⟨rfl, _⟩ := trodAll_nil h
  exact ⟨(), rfl, trivial⟩⟩
instance {P : Program} {t : TypeId} {ts : List TypeId} {α β : Type} {tv : α → Value} {ok : World → α → Prop} {tv' : β → List Value} {ok' : World → β → Prop} [h1 : Top P t α tv ok] [h2 : Tops P ts β tv' ok'] :
    Tops P (t :: ts) (α × β) (fun p => tv p.1 :: tv' p.2) (fun W p => ok W p.1 ∧ ok' W p.2) := ⟨fun H enc W base l ds p hv h => by
  obtain ⟨v, vs, d, ds', p', q, rfl, rfl, rfl, hd, hr⟩ := trodAll_cons h
  obtain ⟨a, rfl, ha⟩ := h1.out H enc W base v d p' (hv 0 t v rfl rfl) hd
  obtain ⟨b, rfl, hb⟩ := h2.out H enc W base vs ds' q (fun j t' v' h1 h2 => hv (j + 1) t' v' h1 h2) hr
  exact ⟨(a, b), rfl, ha, hb⟩⟩

theorem below_kept {w w' : World} (h : K0 w w') : Below w.heap.size w w' := h.below

theorem trodAll_stays {H : Type} {enc : TypeId × Value → H} {P : Program} (hl : laidOutB P = true) {W W' : World} (hb : Below W.heap.size W W') : ∀ (ts : List TypeId) (l : List Value) (ds : List (DataW H)) (p : List MemPlace), (∀ t ∈ ts, P.readableRec t = true ∧ t < P.types.size) → (∀ x ∈ p, x.block < W.heap.size) →
    DataW.TrodAll enc P W 0 (fun _ => true) true ts l ds p → DataW.TrodAll enc P W' 0 (fun b => decide (b < W.heap.size)) true ts l ds p := by
  intro ts
  induction ts with
  | nil =>
    intro l ds p _ _ h
    obtain ⟨rfl, rfl, rfl⟩ := trodAll_nil h
    exact trodAll_mk0
  | cons t ts ih =>
    intro l ds p hts hp h
    obtain ⟨v, vs, d, ds', p', q, rfl, rfl, rfl, hd, hr⟩ := trodAll_cons h
    have h1 := hts t (by simp)
    exact trodAll_cons_mk (Below.trod hl h1.1 h1.2 hd hb fun x hx => hp x (by simp [hx])) (ih vs ds' q (fun u hu => hts u (by simp [hu])) (fun x hx => hp x (by simp [hx])) hr)

theorem trodAll_length {H : Type} {enc : TypeId × Value → H} {P : Program} {W : World} {sp : Nat → Bool} {hd : Bool} : ∀ (ts : List TypeId) (l : List Value) (ds : List (DataW H)) (p : List MemPlace), DataW.TrodAll enc P W 0 sp hd ts l ds p → ds.length = ts.length := by
  intro ts
  induction ts with
  | nil => intro l ds p h; obtain ⟨_, rfl, _⟩ := trodAll_nil h; rfl
  | cons t ts ih =>
    intro l ds p h
    obtain ⟨v, vs, d, ds', p', q, rfl, rfl, rfl, _, hr⟩ := trodAll_cons h
    simp [ih _ _ _ hr]

/-- A law that returns true and leaves all that there was as it was. -/
theorem law_contract {P : Program} (hlo : laidOutB P = true) {k : FuncId} {f : Func} {s : ChangeSpec} {tb : TypeId} (hb : P.underlying tb = some .bool) (hr : f.resultTypes = #[tb]) (hv : s.vars = [])
    {ts : List TypeId} (hts : f.params.toList = ts) (hps : ∀ t ∈ ts, P.readableRec t = true ∧ t < P.types.size) {α : Type} {tv : α → List Value} {ok : World → α → Prop} [ho : Tops P ts α tv ok]
    (hs : ∀ (H : Type) (ds : List (DataW H)), ds.length = ts.length → s.fn H ds = { results := [.lit (.bool true)], args := ds })
    (walk : ∀ (a : α) (W : World), ok W a → Calls P k (tv a).toArray W fun e W' => e = .returned (.bool true) ∧ K0 W W')
    (H : Type) (enc : TypeId × Value → H) (W : World) (base : Nat) (args : Array Value) (ds gs : List (DataW H)) (before : List MemPlace)
    (hval : ∀ (j : Nat) t v, f.params[j]? = some t → args[j]? = some v → Value.okWide P W .any base t v)
    (hW : DataW.Whole enc P f.params.toList s.vars false W args.toList ds gs before) :
    Calls P k args W fun e W' => ∃ v, e = .returned v ∧ s.post enc P f false true false false W args v W' := by
  have hW' := hW
  rw [hv] at hW
  obtain ⟨p, q, hA, hV, rfl, hfz, hnd⟩ := hW
  obtain ⟨rfl, rfl⟩ := trodVars_none hV
  have hlt : ∀ x ∈ p, x.block < W.heap.size := fun x hx => by have := hW'.lt x (by simp [hx]); simpa using this
  rw [hts] at hA
  obtain ⟨a, ha, hok⟩ := ho.out H enc W base args.toList ds p (fun j t v h1 h2 => hval j t v (by rw [← Array.getElem?_toList, hts]; exact h1) (by rw [← Array.getElem?_toList]; exact h2)) hA
  have hargs : args = (tv a).toArray := by apply Array.ext'; simpa using ha
  subst hargs
  refine (walk a W hok).mono fun e W' ⟨he, hk⟩ => ?_
  have hbel := hk.below
  have hfn := hs H (ds ++ []) (by simpa using trodAll_length _ _ _ _ hA)
  refine ⟨_, he, ds, [], p ++ [], [], p, [], hW', ?_, ?_, ?_, hbel.frame _, fun h => by cases h⟩
  · rw [hfn, hr]; exact trodAll_cons_mk (shut_bool hb _) trodAll_mk0
  · rw [hfn, hts]; simpa using trodAll_stays hlo hbel ts _ ds p hps hlt hA
  · rw [hfn, hv]; exact rfl
end Go.Proofs.YtjfdhafmbcppjaaGreatDoor.H

namespace Go.Proofs.YtjfdhafmbcppjaaGreatDoor.H
open Go.ChangeShapes Go.WideShapes Go.RowKit
/-- An array's type: how many, of what, how many cells each. -/
class ArrT (P : Program) (t : TypeId) (n : outParam Nat) (e : outParam TypeId) (sz : outParam Nat) : Prop where
  out : P.underlying t = some (.array n e)
  el : P.cellsOf e = sz
  all : P.cellsOf t = n * sz
theorem rows_cat {β : Type} {en : β → List Value} {W : World} {ok : World → β → Prop} {sz : Nat} : ∀ (n : Nat) (cs : List Value), cs.length = n * sz → (∀ i, i < n → ∃ b, (cs.drop (i * sz)).take sz = en b ∧ ok W b) → ∃ l : List β, cs = l.flatMap en ∧ l.length = n ∧ ∀ x ∈ l, ok W x
  | 0, cs, h, _ => ⟨[], by rw [Nat.zero_mul] at h; rw [List.length_eq_zero_iff.1 h]; rfl, rfl, by simp⟩
  | n + 1, cs, h, hf => by
    obtain ⟨b, hb, hok⟩ := hf 0 (by omega)
    obtain ⟨l, h1, h2, h3⟩ := rows_cat (en := en) (ok := ok) (W := W) (sz := sz) n (cs.drop sz) (by rw [List.length_drop, h, Nat.succ_mul, Nat.add_sub_cancel]) (fun i hi => by
      obtain ⟨b', h1, h2⟩ := hf (i + 1) (by omega)
      refine ⟨b', ?_, h2⟩
      rw [List.drop_drop, ← h1, Nat.succ_mul, Nat.add_comm])
    refine ⟨b :: l, ?_, by simp [h2], fun x hx => ?_⟩
    · rw [List.flatMap_cons, ← h1, ← hb, Nat.zero_mul, List.drop_zero, List.take_append_drop]
    · rcases List.mem_cons.1 hx with rfl | hx
      · exact hok
      · exact h3 x hx
instance {P : Program} {t e : TypeId} {n sz : Nat} [h : ArrT P t n e sz] {β : Type} {en : β → List Value} {ok : World → β → Prop} [ho : Opn P e β en ok] :
    Opn P t (List β) (fun l => l.flatMap en) (fun W l => l.length = n ∧ ∀ x ∈ l, ok W x) := ⟨fun H enc W fuel cs x hx => by
  obtain ⟨xs, m, rfl, rfl, hl, hxl, hel⟩ := DataW.trod_array h.out hx
  rw [h.all] at hl
  obtain ⟨l, h1, h2, h3⟩ := rows_cat (en := en) (ok := ok) (W := W) n cs hl (fun i hi => by
    have := hel i hi
    rw [h.el, List.getElem?_eq_getElem (by omega)] at this
    obtain ⟨b, hb, hok⟩ := ho.out H enc W m _ _ this
    exact ⟨b, hb, hok⟩)
  exact ⟨l, h1, h2, h3⟩⟩
theorem okWide_arr {P : Program} {w : World} {base : Nat} {t : TypeId} {v : Value} {n : Nat} {e : TypeId} (ht : P.underlying t = some (.array n e)) (h : Value.okWide P w .any base t v) : ∃ cs, v = .agg cs ∧ cs.size = P.cellsOf t := by
  simp only [Value.okWide, ht] at h
  obtain ⟨cs, h1, h2, _⟩ := h
  exact ⟨cs, h1, h2⟩
instance {P : Program} {t e : TypeId} {n sz : Nat} [h : ArrT P t n e sz] {α : Type} {en : α → List Value} {ok : World → α → Prop} [ho : Opn P t α en ok] : Top P t α (fun a => .agg (en a).toArray) ok := ⟨fun H enc W base v d p hv hd' => by
  obtain ⟨fuel, hf⟩ := hd'
  obtain ⟨cs, rfl, _⟩ := okWide_arr h.out hv
  obtain ⟨a, ha, hok⟩ := ho.out H enc W fuel _ _ hf
  refine ⟨a, ?_, hok⟩
  have : cs = (en a).toArray := by
    apply Array.ext'
    simpa [Value.cells] using ha
  rw [this]⟩
/-- The same, of one world. -/
theorem law_contractW {P : Program} (hlo : laidOutB P = true) {k : FuncId} {f : Func} {s : ChangeSpec} {tb : TypeId} (hb : P.underlying tb = some .bool) (hr : f.resultTypes = #[tb]) (hv : s.vars = [])
    {ts : List TypeId} (hts : f.params.toList = ts) (hps : ∀ t ∈ ts, P.readableRec t = true ∧ t < P.types.size) {α : Type} {tv : α → List Value} {ok : World → α → Prop} [ho : Tops P ts α tv ok]
    (hs : ∀ (H : Type) (ds : List (DataW H)), ds.length = ts.length → s.fn H ds = { results := [.lit (.bool true)], args := ds })
    (W : World) (walk : ∀ (a : α), ok W a → Calls P k (tv a).toArray W fun e W' => e = .returned (.bool true) ∧ K0 W W')
    (H : Type) (enc : TypeId × Value → H) (base : Nat) (args : Array Value) (ds gs : List (DataW H)) (before : List MemPlace)
    (hval : ∀ (j : Nat) t v, f.params[j]? = some t → args[j]? = some v → Value.okWide P W .any base t v)
    (hW : DataW.Whole enc P f.params.toList s.vars false W args.toList ds gs before) :
    Calls P k args W fun e W' => ∃ v, e = .returned v ∧ s.post enc P f false true false false W args v W' := by
  have hW' := hW
  rw [hv] at hW
  obtain ⟨p, q, hA, hV, rfl, hfz, hnd⟩ := hW
  obtain ⟨rfl, rfl⟩ := trodVars_none hV
  have hlt : ∀ x ∈ p, x.block < W.heap.size := fun x hx => by have := hW'.lt x (by simp [hx]); simpa using this
  rw [hts] at hA
  obtain ⟨a, ha, hok⟩ := ho.out H enc W base args.toList ds p (fun j t v h1 h2 => hval j t v (by rw [← Array.getElem?_toList, hts]; exact h1) (by rw [← Array.getElem?_toList]; exact h2)) hA
  have hargs : args = (tv a).toArray := by apply Array.ext'; simpa using ha
  subst hargs
  refine (walk a hok).mono fun e W' ⟨he, hk⟩ => ?_
  have hbel := hk.below
  have hfn := hs H (ds ++ []) (by simpa using trodAll_length _ _ _ _ hA)
  refine ⟨_, he, ds, [], p ++ [], [], p, [], hW', ?_, ?_, ?_, hbel.frame _, fun h => by cases h⟩
  · rw [hfn, hr]; exact trodAll_cons_mk (shut_bool hb _) trodAll_mk0
  · rw [hfn, hts]; simpa using trodAll_stays hlo hbel ts _ ds p hps hlt hA
  · rw [hfn, hv]; exact rfl
/-- The same, of one row of arguments. -/
theorem law_contractA {P : Program} (hlo : laidOutB P = true) {k : FuncId} {f : Func} {s : ChangeSpec} {tb : TypeId} (hb : P.underlying tb = some .bool) (hr : f.resultTypes = #[tb]) (hv : s.vars = [])
    {ts : List TypeId} (hts : f.params.toList = ts) (hps : ∀ t ∈ ts, P.readableRec t = true ∧ t < P.types.size) {α : Type} {tv : α → List Value} {ok : World → α → Prop} [ho : Tops P ts α tv ok]
    (hs : ∀ (H : Type) (ds : List (DataW H)), ds.length = ts.length → s.fn H ds = { results := [.lit (.bool true)], args := ds })
    (W : World) (args : Array Value) (walk : ∀ (a : α), args = (tv a).toArray → ok W a → Calls P k (tv a).toArray W fun e W' => e = .returned (.bool true) ∧ K0 W W')
    (H : Type) (enc : TypeId × Value → H) (base : Nat) (ds gs : List (DataW H)) (before : List MemPlace)
    (hval : ∀ (j : Nat) t v, f.params[j]? = some t → args[j]? = some v → Value.okWide P W .any base t v)
    (hW : DataW.Whole enc P f.params.toList s.vars false W args.toList ds gs before) :
    Calls P k args W fun e W' => ∃ v, e = .returned v ∧ s.post enc P f false true false false W args v W' := by
  have hW' := hW
  rw [hv] at hW
  obtain ⟨p, q, hA, hV, rfl, hfz, hnd⟩ := hW
  obtain ⟨rfl, rfl⟩ := trodVars_none hV
  have hlt : ∀ x ∈ p, x.block < W.heap.size := fun x hx => by have := hW'.lt x (by simp [hx]); simpa using this
  rw [hts] at hA
  obtain ⟨a, ha, hok⟩ := ho.out H enc W base args.toList ds p (fun j t v h1 h2 => hval j t v (by rw [← Array.getElem?_toList, hts]; exact h1) (by rw [← Array.getElem?_toList]; exact h2)) hA
  have hargs : args = (tv a).toArray := by apply Array.ext'; simpa using ha
  subst hargs
  refine (walk a rfl hok).mono fun e W' ⟨he, hk⟩ => ?_
  have hbel := hk.below
  have hfn := hs H (ds ++ []) (by simpa using trodAll_length _ _ _ _ hA)
  refine ⟨_, he, ds, [], p ++ [], [], p, [], hW', ?_, ?_, ?_, hbel.frame _, fun h => by cases h⟩
  · rw [hfn, hr]; exact trodAll_cons_mk (shut_bool hb _) trodAll_mk0
  · rw [hfn, hts]; simpa using trodAll_stays hlo hbel ts _ ds p hps hlt hA
  · rw [hfn, hv]; exact rfl
end Go.Proofs.YtjfdhafmbcppjaaGreatDoor.H

set_option maxRecDepth 100000
namespace Go.Proofs.YtjfdhafmbcppjaaGreatDoor.H
instance : CelS Tryz.prog 1 1 := ⟨by kernel_rfl, by decide⟩
instance : CelS Tryz.prog 2 1 := ⟨by kernel_rfl, by decide⟩
instance : CelS Tryz.prog 3 1 := ⟨by kernel_rfl, by decide⟩
instance : CelS Tryz.prog 4 1 := ⟨by kernel_rfl, by decide⟩
instance : CelS Tryz.prog 5 1 := ⟨by kernel_rfl, by decide⟩
instance : CelS Tryz.prog 6 1 := ⟨by kernel_rfl, by decide⟩
instance : CelS Tryz.prog 7 4 := ⟨by kernel_rfl, by decide⟩
instance : StrT Tryz.prog 7 [2, 3, 4, 6] := ⟨_, Tryz.underlying7, rfl, by kernel_rfl, by kernel_rfl⟩
instance : CelS Tryz.prog 8 4 := ⟨by kernel_rfl, by decide⟩
instance : StrT Tryz.prog 8 [2, 3, 4, 6] := ⟨_, Tryz.underlying8, rfl, by kernel_rfl, by kernel_rfl⟩
instance : CelS Tryz.prog 9 1 := ⟨by kernel_rfl, by decide⟩
instance : CelS Tryz.prog 10 1 := ⟨by kernel_rfl, by decide⟩
instance : CelS Tryz.prog 11 1 := ⟨by kernel_rfl, by decide⟩
instance : CelS Tryz.prog 12 1 := ⟨by kernel_rfl, by decide⟩
instance : CelS Tryz.prog 13 2 := ⟨by kernel_rfl, by decide⟩
instance : StrT Tryz.prog 13 [9, 12] := ⟨_, Tryz.underlying13, rfl, by kernel_rfl, by kernel_rfl⟩
instance : CelS Tryz.prog 14 2 := ⟨by kernel_rfl, by decide⟩
instance : StrT Tryz.prog 14 [9, 12] := ⟨_, Tryz.underlying14, rfl, by kernel_rfl, by kernel_rfl⟩
instance : CelS Tryz.prog 15 1 := ⟨by kernel_rfl, by decide⟩
instance : CelS Tryz.prog 16 1 := ⟨by kernel_rfl, by decide⟩
instance : CelS Tryz.prog 17 1 := ⟨by kernel_rfl, by decide⟩
instance : CelS Tryz.prog 18 1 := ⟨by kernel_rfl, by decide⟩
instance : StrT Tryz.prog 18 [17] := ⟨_, Tryz.underlying18, rfl, by kernel_rfl, by kernel_rfl⟩
instance : CelS Tryz.prog 19 1 := ⟨by kernel_rfl, by decide⟩
instance : StrT Tryz.prog 19 [17] := ⟨_, Tryz.underlying19, rfl, by kernel_rfl, by kernel_rfl⟩
instance : CelS Tryz.prog 20 1 := ⟨by kernel_rfl, by decide⟩
instance : CelS Tryz.prog 21 1 := ⟨by kernel_rfl, by decide⟩
instance : CelS Tryz.prog 22 1 := ⟨by kernel_rfl, by decide⟩
instance : CelS Tryz.prog 23 1 := ⟨by kernel_rfl, by decide⟩
instance : CelS Tryz.prog 24 2 := ⟨by kernel_rfl, by decide⟩
instance : StrT Tryz.prog 24 [4, 23] := ⟨_, Tryz.underlying24, rfl, by kernel_rfl, by kernel_rfl⟩
instance : CelS Tryz.prog 25 2 := ⟨by kernel_rfl, by decide⟩
instance : StrT Tryz.prog 25 [4, 23] := ⟨_, Tryz.underlying25, rfl, by kernel_rfl, by kernel_rfl⟩
instance : CelS Tryz.prog 26 1 := ⟨by kernel_rfl, by decide⟩
instance : CelS Tryz.prog 28 1 := ⟨by kernel_rfl, by decide⟩
instance : CelS Tryz.prog 30 1 := ⟨by kernel_rfl, by decide⟩
instance : CelS Tryz.prog 31 1 := ⟨by kernel_rfl, by decide⟩
instance : CelS Tryz.prog 32 1 := ⟨by kernel_rfl, by decide⟩
instance : CelS Tryz.prog 33 1 := ⟨by kernel_rfl, by decide⟩
instance : CelS Tryz.prog 34 4 := ⟨by kernel_rfl, by decide⟩
instance : StrT Tryz.prog 34 [3, 3, 3, 33] := ⟨_, Tryz.underlying34, rfl, by kernel_rfl, by kernel_rfl⟩
instance : CelS Tryz.prog 35 4 := ⟨by kernel_rfl, by decide⟩
instance : StrT Tryz.prog 35 [3, 3, 3, 33] := ⟨_, Tryz.underlying35, rfl, by kernel_rfl, by kernel_rfl⟩
instance : CelS Tryz.prog 37 1 := ⟨by kernel_rfl, by decide⟩
instance : CelS Tryz.prog 38 1 := ⟨by kernel_rfl, by decide⟩
instance : CelS Tryz.prog 39 1 := ⟨by kernel_rfl, by decide⟩
instance : CelS Tryz.prog 40 1 := ⟨by kernel_rfl, by decide⟩
instance : CelS Tryz.prog 41 1 := ⟨by kernel_rfl, by decide⟩
instance : CelS Tryz.prog 42 1 := ⟨by kernel_rfl, by decide⟩
instance : CelS Tryz.prog 44 1 := ⟨by kernel_rfl, by decide⟩
instance : CelS Tryz.prog 45 1 := ⟨by kernel_rfl, by decide⟩
instance : CelS Tryz.prog 46 3 := ⟨by kernel_rfl, by decide⟩
instance : ArrT Tryz.prog 46 3 5 1 := ⟨Tryz.underlying46, by kernel_rfl, by kernel_rfl⟩
instance : CelS Tryz.prog 47 1 := ⟨by kernel_rfl, by decide⟩
instance : CelS Tryz.prog 48 1 := ⟨by kernel_rfl, by decide⟩
instance : CelS Tryz.prog 49 1 := ⟨by kernel_rfl, by decide⟩
instance : CelS Tryz.prog 50 1 := ⟨by kernel_rfl, by decide⟩
instance : CelS Tryz.prog 51 1 := ⟨by kernel_rfl, by decide⟩
instance : CelS Tryz.prog 52 1 := ⟨by kernel_rfl, by decide⟩
instance : CelS Tryz.prog 53 1 := ⟨by kernel_rfl, by decide⟩
instance : CelS Tryz.prog 54 2 := ⟨by kernel_rfl, by decide⟩
instance : ArrT Tryz.prog 54 2 5 1 := ⟨Tryz.underlying54, by kernel_rfl, by kernel_rfl⟩
instance : CelS Tryz.prog 55 1 := ⟨by kernel_rfl, by decide⟩
instance : CelS Tryz.prog 56 1 := ⟨by kernel_rfl, by decide⟩
instance : CelS Tryz.prog 57 1 := ⟨by kernel_rfl, by decide⟩
instance : CelS Tryz.prog 58 1 := ⟨by kernel_rfl, by decide⟩
instance : CelS Tryz.prog 59 1 := ⟨by kernel_rfl, by decide⟩
instance : CelS Tryz.prog 60 1 := ⟨by kernel_rfl, by decide⟩
instance : CelS Tryz.prog 61 1 := ⟨by kernel_rfl, by decide⟩
instance : CelS Tryz.prog 62 1 := ⟨by kernel_rfl, by decide⟩
instance : CelS Tryz.prog 63 1 := ⟨by kernel_rfl, by decide⟩
instance : CelS Tryz.prog 64 1 := ⟨by kernel_rfl, by decide⟩
instance : CelS Tryz.prog 65 1 := ⟨by kernel_rfl, by decide⟩
instance : CelS Tryz.prog 67 1 := ⟨by kernel_rfl, by decide⟩
instance : CelS Tryz.prog 68 1 := ⟨by kernel_rfl, by decide⟩
instance : CelS Tryz.prog 69 5 := ⟨by kernel_rfl, by decide⟩
instance : StrT Tryz.prog 69 [9, 35] := ⟨_, Tryz.underlying69, rfl, by kernel_rfl, by kernel_rfl⟩
instance : CelS Tryz.prog 70 5 := ⟨by kernel_rfl, by decide⟩
instance : StrT Tryz.prog 70 [9, 35] := ⟨_, Tryz.underlying70, rfl, by kernel_rfl, by kernel_rfl⟩
instance : CelS Tryz.prog 71 1 := ⟨by kernel_rfl, by decide⟩
instance : CelS Tryz.prog 72 1 := ⟨by kernel_rfl, by decide⟩
instance : CelS Tryz.prog 73 1 := ⟨by kernel_rfl, by decide⟩
instance : CelS Tryz.prog 74 1 := ⟨by kernel_rfl, by decide⟩
instance : CelS Tryz.prog 75 1 := ⟨by kernel_rfl, by decide⟩
instance : CelS Tryz.prog 76 1 := ⟨by kernel_rfl, by decide⟩
instance : CelS Tryz.prog 77 1 := ⟨by kernel_rfl, by decide⟩
instance : CelS Tryz.prog 78 1 := ⟨by kernel_rfl, by decide⟩
instance : CelS Tryz.prog 79 1 := ⟨by kernel_rfl, by decide⟩
instance : CelS Tryz.prog 80 1 := ⟨by kernel_rfl, by decide⟩
instance : CelS Tryz.prog 81 1 := ⟨by kernel_rfl, by decide⟩
instance : CelS Tryz.prog 82 1 := ⟨by kernel_rfl, by decide⟩
instance : CelS Tryz.prog 83 1 := ⟨by kernel_rfl, by decide⟩
instance : CelS Tryz.prog 84 1 := ⟨by kernel_rfl, by decide⟩
instance : CelS Tryz.prog 88 1 := ⟨by kernel_rfl, by decide⟩
instance : CelS Tryz.prog 89 1 := ⟨by kernel_rfl, by decide⟩
instance : CelS Tryz.prog 90 1 := ⟨by kernel_rfl, by decide⟩
instance : CelS Tryz.prog 91 1 := ⟨by kernel_rfl, by decide⟩
instance : CelS Tryz.prog 92 1 := ⟨by kernel_rfl, by decide⟩
instance : CelS Tryz.prog 93 2 := ⟨by kernel_rfl, by decide⟩
instance : StrT Tryz.prog 93 [3, 3] := ⟨_, Tryz.underlying93, rfl, by kernel_rfl, by kernel_rfl⟩
instance : CelS Tryz.prog 94 2 := ⟨by kernel_rfl, by decide⟩
instance : StrT Tryz.prog 94 [3, 3] := ⟨_, Tryz.underlying94, rfl, by kernel_rfl, by kernel_rfl⟩
instance : CelS Tryz.prog 96 1 := ⟨by kernel_rfl, by decide⟩
instance : CelS Tryz.prog 98 1 := ⟨by kernel_rfl, by decide⟩
instance : CelS Tryz.prog 99 1 := ⟨by kernel_rfl, by decide⟩
instance : CelS Tryz.prog 100 1 := ⟨by kernel_rfl, by decide⟩
instance : CelS Tryz.prog 101 1 := ⟨by kernel_rfl, by decide⟩
instance : CelS Tryz.prog 102 2 := ⟨by kernel_rfl, by decide⟩
instance : StrT Tryz.prog 102 [101, 50] := ⟨_, Tryz.underlying102, rfl, by kernel_rfl, by kernel_rfl⟩
instance : CelS Tryz.prog 103 2 := ⟨by kernel_rfl, by decide⟩
instance : StrT Tryz.prog 103 [101, 50] := ⟨_, Tryz.underlying103, rfl, by kernel_rfl, by kernel_rfl⟩
instance : CelS Tryz.prog 104 1 := ⟨by kernel_rfl, by decide⟩
instance : CelS Tryz.prog 105 1 := ⟨by kernel_rfl, by decide⟩
instance : CelS Tryz.prog 106 1 := ⟨by kernel_rfl, by decide⟩
instance : CelS Tryz.prog 108 1 := ⟨by kernel_rfl, by decide⟩
instance : CelS Tryz.prog 109 1 := ⟨by kernel_rfl, by decide⟩
instance : CelS Tryz.prog 110 1 := ⟨by kernel_rfl, by decide⟩
instance : CelS Tryz.prog 111 1 := ⟨by kernel_rfl, by decide⟩
instance : CelS Tryz.prog 112 1 := ⟨by kernel_rfl, by decide⟩
instance : CelS Tryz.prog 113 1 := ⟨by kernel_rfl, by decide⟩
instance : CelS Tryz.prog 114 1 := ⟨by kernel_rfl, by decide⟩
instance : CelS Tryz.prog 116 1 := ⟨by kernel_rfl, by decide⟩
instance : CelS Tryz.prog 117 1 := ⟨by kernel_rfl, by decide⟩
instance : CelS Tryz.prog 119 1 := ⟨by kernel_rfl, by decide⟩
instance : CelS Tryz.prog 120 1 := ⟨by kernel_rfl, by decide⟩
instance : CelS Tryz.prog 121 3 := ⟨by kernel_rfl, by decide⟩
instance : ArrT Tryz.prog 121 3 3 1 := ⟨Tryz.underlying121, by kernel_rfl, by kernel_rfl⟩
instance : CelS Tryz.prog 122 1 := ⟨by kernel_rfl, by decide⟩
instance : CelS Tryz.prog 123 1 := ⟨by kernel_rfl, by decide⟩
instance : CelS Tryz.prog 124 1 := ⟨by kernel_rfl, by decide⟩
instance : CelS Tryz.prog 125 1 := ⟨by kernel_rfl, by decide⟩
instance : CelS Tryz.prog 126 1 := ⟨by kernel_rfl, by decide⟩
instance : CelS Tryz.prog 127 1 := ⟨by kernel_rfl, by decide⟩
instance : CelS Tryz.prog 128 1 := ⟨by kernel_rfl, by decide⟩
instance : CelS Tryz.prog 129 1 := ⟨by kernel_rfl, by decide⟩
instance : CelS Tryz.prog 130 1 := ⟨by kernel_rfl, by decide⟩
instance : CelS Tryz.prog 131 1 := ⟨by kernel_rfl, by decide⟩
instance : CelS Tryz.prog 132 1 := ⟨by kernel_rfl, by decide⟩
instance : CelS Tryz.prog 133 1 := ⟨by kernel_rfl, by decide⟩
instance : CelS Tryz.prog 134 1 := ⟨by kernel_rfl, by decide⟩
instance : CelS Tryz.prog 135 1 := ⟨by kernel_rfl, by decide⟩
instance : CelS Tryz.prog 136 1 := ⟨by kernel_rfl, by decide⟩
instance : CelS Tryz.prog 138 1 := ⟨by kernel_rfl, by decide⟩
instance : CelS Tryz.prog 139 2 := ⟨by kernel_rfl, by decide⟩
instance : StrT Tryz.prog 139 [5, 5] := ⟨_, Tryz.underlying139, rfl, by kernel_rfl, by kernel_rfl⟩
instance : CelS Tryz.prog 140 2 := ⟨by kernel_rfl, by decide⟩
instance : StrT Tryz.prog 140 [5, 5] := ⟨_, Tryz.underlying140, rfl, by kernel_rfl, by kernel_rfl⟩
instance : CelS Tryz.prog 141 32 := ⟨by kernel_rfl, by decide⟩
instance : ArrT Tryz.prog 141 16 140 2 := ⟨Tryz.underlying141, by kernel_rfl, by kernel_rfl⟩
instance : CelS Tryz.prog 142 1 := ⟨by kernel_rfl, by decide⟩
instance : CelS Tryz.prog 143 1 := ⟨by kernel_rfl, by decide⟩
instance : CelS Tryz.prog 144 1 := ⟨by kernel_rfl, by decide⟩
instance : CelS Tryz.prog 145 24 := ⟨by kernel_rfl, by decide⟩
instance : ArrT Tryz.prog 145 24 5 1 := ⟨Tryz.underlying145, by kernel_rfl, by kernel_rfl⟩
instance : CelS Tryz.prog 146 1 := ⟨by kernel_rfl, by decide⟩
instance : CelS Tryz.prog 147 1 := ⟨by kernel_rfl, by decide⟩
instance : CelS Tryz.prog 148 1 := ⟨by kernel_rfl, by decide⟩
instance : CelS Tryz.prog 150 1 := ⟨by kernel_rfl, by decide⟩
instance : CelS Tryz.prog 151 1 := ⟨by kernel_rfl, by decide⟩
instance : CelS Tryz.prog 153 1 := ⟨by kernel_rfl, by decide⟩
instance : CelS Tryz.prog 154 1 := ⟨by kernel_rfl, by decide⟩
instance : CelS Tryz.prog 155 1 := ⟨by kernel_rfl, by decide⟩
instance : CelS Tryz.prog 157 1 := ⟨by kernel_rfl, by decide⟩
instance : CelS Tryz.prog 158 1 := ⟨by kernel_rfl, by decide⟩
instance : CelS Tryz.prog 159 1 := ⟨by kernel_rfl, by decide⟩
instance : CelS Tryz.prog 160 1 := ⟨by kernel_rfl, by decide⟩
instance : CelS Tryz.prog 161 20 := ⟨by kernel_rfl, by decide⟩
instance : ArrT Tryz.prog 161 20 146 1 := ⟨Tryz.underlying161, by kernel_rfl, by kernel_rfl⟩
instance : CelS Tryz.prog 163 1 := ⟨by kernel_rfl, by decide⟩
instance : CelS Tryz.prog 165 1 := ⟨by kernel_rfl, by decide⟩
instance : CelS Tryz.prog 166 1 := ⟨by kernel_rfl, by decide⟩
instance : CelS Tryz.prog 167 3 := ⟨by kernel_rfl, by decide⟩
instance : StrT Tryz.prog 167 [9, 9, 106] := ⟨_, Tryz.underlying167, rfl, by kernel_rfl, by kernel_rfl⟩
instance : CelS Tryz.prog 168 3 := ⟨by kernel_rfl, by decide⟩
instance : StrT Tryz.prog 168 [9, 9, 106] := ⟨_, Tryz.underlying168, rfl, by kernel_rfl, by kernel_rfl⟩
instance : CelS Tryz.prog 169 1 := ⟨by kernel_rfl, by decide⟩
instance : CelS Tryz.prog 170 1 := ⟨by kernel_rfl, by decide⟩
instance : CelS Tryz.prog 171 1 := ⟨by kernel_rfl, by decide⟩
instance : CelS Tryz.prog 172 1 := ⟨by kernel_rfl, by decide⟩
instance : CelS Tryz.prog 173 1 := ⟨by kernel_rfl, by decide⟩
instance : StrT Tryz.prog 173 [9] := ⟨_, Tryz.underlying173, rfl, by kernel_rfl, by kernel_rfl⟩
instance : CelS Tryz.prog 174 1 := ⟨by kernel_rfl, by decide⟩
instance : StrT Tryz.prog 174 [9] := ⟨_, Tryz.underlying174, rfl, by kernel_rfl, by kernel_rfl⟩
instance : CelS Tryz.prog 175 32 := ⟨by kernel_rfl, by decide⟩
instance : ArrT Tryz.prog 175 32 5 1 := ⟨Tryz.underlying175, by kernel_rfl, by kernel_rfl⟩
instance : CelS Tryz.prog 176 64 := ⟨by kernel_rfl, by decide⟩
instance : ArrT Tryz.prog 176 64 5 1 := ⟨Tryz.underlying176, by kernel_rfl, by kernel_rfl⟩
instance : CelS Tryz.prog 177 4 := ⟨by kernel_rfl, by decide⟩
instance : StrT Tryz.prog 177 [17, 17, 17, 9] := ⟨_, Tryz.underlying177, rfl, by kernel_rfl, by kernel_rfl⟩
instance : CelS Tryz.prog 178 4 := ⟨by kernel_rfl, by decide⟩
instance : StrT Tryz.prog 178 [17, 17, 17, 9] := ⟨_, Tryz.underlying178, rfl, by kernel_rfl, by kernel_rfl⟩
instance : ArrT Tryz.prog 179 0 16 1 := ⟨Tryz.underlying179, by kernel_rfl, by kernel_rfl⟩
instance : StrT Tryz.prog 180 [179] := ⟨_, Tryz.underlying180, rfl, by kernel_rfl, by kernel_rfl⟩
instance : StrT Tryz.prog 181 [179] := ⟨_, Tryz.underlying181, rfl, by kernel_rfl, by kernel_rfl⟩
instance : CelS Tryz.prog 182 1 := ⟨by kernel_rfl, by decide⟩
instance : CelS Tryz.prog 183 1 := ⟨by kernel_rfl, by decide⟩
instance : CelS Tryz.prog 184 1 := ⟨by kernel_rfl, by decide⟩
instance : CelS Tryz.prog 185 1 := ⟨by kernel_rfl, by decide⟩
instance : CelS Tryz.prog 186 1 := ⟨by kernel_rfl, by decide⟩
instance : CelS Tryz.prog 187 1 := ⟨by kernel_rfl, by decide⟩
instance : CelS Tryz.prog 188 11 := ⟨by kernel_rfl, by decide⟩
instance : StrT Tryz.prog 188 [12, 12, 151, 183, 5, 5, 184, 185, 127, 186, 187] := ⟨_, Tryz.underlying188, rfl, by kernel_rfl, by kernel_rfl⟩
instance : CelS Tryz.prog 189 11 := ⟨by kernel_rfl, by decide⟩
instance : StrT Tryz.prog 189 [12, 12, 151, 183, 5, 5, 184, 185, 127, 186, 187] := ⟨_, Tryz.underlying189, rfl, by kernel_rfl, by kernel_rfl⟩
end Go.Proofs.YtjfdhafmbcppjaaGreatDoor.H

namespace Go.Proofs.YtjfdhafmbcppjaaGreatDoor.Sp
open Go.RowKit H S Ve

def trOf (x : List UInt8) : Tr := (x.getD 0 0, x.getD 1 0, x.getD 2 0)
theorem tr_flat : ∀ (l : List (List UInt8)), (∀ x ∈ l, x.length = 3) → (l.map trOf).flatMap tc = l.flatMap (fun x => x.flatMap (fun c => [vb c]))
  | [], _ => rfl
  | x :: r, h => by
    have hx := h x (by simp)
    rw [List.map_cons, List.flatMap_cons, List.flatMap_cons, tr_flat r fun y hy => h y (List.mem_cons_of_mem _ hy)]
    congr 1
    match x, hx with
    | [a, b, c], _ => rfl
theorem bestRaw {va vw : Value} {l : List (List UInt8)} {b : List UInt8} {w : World} (hs : Sl w 3 va l.length (l.flatMap (fun x => x.flatMap (fun c => [vb c])))) (hl : ∀ x ∈ l, x.length = 3) (hw : Sl w 1 vw b.length (bv b)) (hT : Tb w) (hM : Ml w) :
    Calls Tryz.prog 8 #[va, vw] w fun e w' => e = .returned (.bool true) ∧ K0 w w' :=
  lawBest va vw (l.map trOf) b w (by rw [List.length_map, tr_flat l hl]; exact hs) hw hT hM
end Go.Proofs.YtjfdhafmbcppjaaGreatDoor.Sp

namespace Go.Proofs.YtjfdhafmbcppjaaGreatDoor.Ve
open Go.RowKit H
theorem tab_at {P : Program} {W : World} {name : String} {k : IntKind} {zs : List Int} {rest : List (String × DataW Unit)} {t e : TypeId} {n : Nat}
    (hty : (P.globalNamed name).bind (fun g => (P.globals[g]?).map (·.type)) = some t) (ht : P.underlying t = some (.array n e)) (he : P.underlying e = some (.int k)) (hce : P.cellsOf e = 1) (hct : P.cellsOf t = n)
    (h : laidMet P ((name, Go.Lib.tabData k zs) :: rest) W) : Go.Lib.TabIs P W name k zs := by
  obtain ⟨g, hg⟩ : ∃ g, P.globalNamed name = some g := by
    cases hh : P.globalNamed name with
    | none => rw [hh] at hty; cases hty
    | some g => exact ⟨g, rfl⟩
  rw [hg] at hty
  exact Go.Lib.tabIs_of_head hg hty ht he hce hct h
theorem tb_of {W : World} {rest : List (String × DataW Unit)} (h : laidMet Tryz.prog (("internal/strconv.uint64pow10", Rows.laid_internal_strconv_uint64pow10) :: rest) W) : Tb W :=
  tab_at (t := 161) (by kernel_rfl) Tryz.underlying161 Tryz.underlying146 (by kernel_rfl) (by kernel_rfl) h
end Go.Proofs.YtjfdhafmbcppjaaGreatDoor.Ve

namespace Go.Proofs.YtjfdhafmbcppjaaGreatDoor.H
open Go Go.RowKit
variable {Hh : Type} {enc : TypeId × Value → Hh}
/-- A row out of its walk: the listed variables, and the shape of the first world. -/
theorem handed_and_shaped {a : Assume} {C : Checked} {os : Os} {f : FuncId} {fn : Func} {s : ChangeSpec} {conds : List PathCond} {apart fresh handsOn again : Bool} {X : World → Array Value → Prop}
    (hX : ∀ (w w' : World) (args : Array Value), w.heap = w'.heap → X w args → X w' args)
    (own : ownKnob C.prog.godebug = none) (started : os.Started) (noInit : C.prog.inits.idxOf? f = none) (hfn : C.prog.funcs[f]? = some fn)
    (witness : ∃ (w : World) (tape : Tape) (i : Input), w.os = os ∧ (w.forCall tape i).Shaped C.prog ∧ i.vars = [] ∧ Input.okWide C.prog (w.forCall tape i) .any w.heap.size f i ∧
      ((s.pre enc C.prog fn conds apart (w.forCall tape i).memory i.args ∧ X (w.forCall tape i).memory i.args) ∧ sizedMet enc C.prog fn (OpenSpec.ofChange s) apart (w.forCall tape i).memory i.args) ∧ a.holds C.prog (lone (Frame.enter C.prog f i.args .normal) [] (w.forCall tape i)))
    (contract : ∀ (W : World) (base : Nat) (args : Array Value) (ds gs : List (DataW Hh)) (before : List MemPlace),
      (∀ (j : Nat) t v, fn.params[j]? = some t → args[j]? = some v → Value.okWide C.prog W .any base t v) →
      DataW.Whole enc C.prog fn.params.toList s.vars apart W args.toList ds gs before → X W args → W.ShapedOpen C.prog →
      Calls C.prog f args W fun e W' => ∃ v, e = .returned v ∧ s.post enc C.prog fn apart fresh handsOn again W args v W') :
    ReturnsInHanded a C os f .any (fun w args => (s.pre enc C.prog fn conds apart w args ∧ X w args) ∧ sizedMet enc C.prog fn (OpenSpec.ofChange s) apart w args) (s.post enc C.prog fn apart fresh handsOn again) := by
  refine returnsInHanded_of_calls own started noInit witness ?_
  intro w tape i _ hsh _ hok hpre _
  obtain ⟨_, _, _, fn', hfn', _, _, _, _, hval⟩ := hok
  have e : fn' = fn := Option.some.inj (hfn'.symm.trans hfn)
  subst e
  obtain ⟨⟨⟨ds, gs, before, hw, _⟩, hx⟩, _⟩ := hpre
  have hw' := DataW.Whole.of_heap (w' := w.forCall tape i) (by rfl) hw
  refine (contract (w.forCall tape i) w.heap.size i.args ds gs before hval hw' (hX _ _ _ (by rfl) hx) hsh).mono fun e W' ⟨v, he, hp⟩ => ?_
  subst he
  exact ChangeSpec.post_blind hp
end Go.Proofs.YtjfdhafmbcppjaaGreatDoor.H
namespace Go.Proofs.YtjfdhafmbcppjaaGreatDoor.S
open Go Go.RowKit
theorem ml_of {W : World} (h : W.ShapedOpen Tryz.prog) : Ml W := cell_of_shapedOpen_int (zero := #[.int .i64 0]) (t := 3) h (of_decide_eq_true (by kernel_rfl)) (by kernel_rfl) rfl (by kernel_rfl) (by kernel_rfl) Tryz.underlying3
end Go.Proofs.YtjfdhafmbcppjaaGreatDoor.S

namespace Go.Proofs.YtjfdhafmbcppjaaGreatDoor.spanBest
open Go.ChangeShapes Go.WideShapes Go.ChangeAt Go.RowKit
set_option linter.unusedVariables false

theorem own : ownKnob Tryz.prog.godebug = none := by kernel_rfl
theorem types : ∀ t ∈ ([56, 50] : List TypeId), Tryz.prog.readableRec t = true ∧ t < Tryz.prog.types.size := by
  intro t ht
  simp only [List.mem_cons, List.not_mem_nil, or_false] at ht
  rcases ht with rfl | rfl <;> exact ⟨by kernel_rfl, of_decide_eq_true (by kernel_rfl)⟩

set_option maxRecDepth 100000 in
theorem lifted (os : Os) (started : os.Started) (H : Type) (enc : TypeId × Value → H) :
    ReturnsInHanded {} Tryz.checked os 8 .any (fun w args => (Rows.spanBestSpec.pre enc Tryz.prog Tryz.f8 Rows.spanBestRow.domain false w args ∧ laidMetH Tryz.prog Rows.spanBestRow.laid w) ∧ sizedMet enc Tryz.prog Tryz.f8 (OpenSpec.ofChange Rows.spanBestSpec) false w args) (Rows.spanBestSpec.post enc Tryz.prog Tryz.f8 false true false false) := by
  refine Go.Proofs.YtjfdhafmbcppjaaGreatDoor.H.handed_and_shaped (C := Tryz.checked) (X := fun w _ => laidMetH Tryz.prog Rows.spanBestRow.laid w) (fun _ _ _ hh h => h.of_heap hh) own started (by kernel_rfl) Tryz.func8
    (ChangeSpec.witness_shaped (enc := enc) (C := Tryz.checked) (os := os) (X := fun w _ => laidMetH Tryz.prog Rows.spanBestRow.laid w) false (World.laidAll Tryz.prog os Rows.spanBestRow.laid) #[.slice none 0 0, .slice none 0 0] 8 (World.laidAll_os _ _ _)
      (World.shaped_of_ZipB (by kernel_rfl) (by kernel_rfl)) (by kernel_rfl) (by kernel_rfl) (by kernel_rfl)
      (by rw [MakeChecks.laidMetH_plain _ _ _ (by kernel_rfl)]; exact laidMet_laidAll _ (by kernel_rfl) (by kernel_rfl))) ?_
  intro W base args ds gs before hval hW hL hsh
  have hL' : laidMet Tryz.prog Rows.spanBestRow.laid W := by have h := hL; rw [MakeChecks.laidMetH_plain _ _ _ (by kernel_rfl)] at h; exact h
  have hT := Go.Proofs.YtjfdhafmbcppjaaGreatDoor.Ve.tb_of hL'.tail.tail
  have hM := Go.Proofs.YtjfdhafmbcppjaaGreatDoor.S.ml_of hsh
  exact Go.Proofs.YtjfdhafmbcppjaaGreatDoor.H.law_contractW (P := Tryz.prog) (k := 8) (f := Tryz.f8) (s := Rows.spanBestSpec) (tb := 4) (by kernel_rfl) Tryz.underlying4 rfl rfl (ts := [56, 50]) rfl types (fun H ds h => match ds, h with | [d1, d2], _ => rfl)
    W ((fun a h => by
  obtain ⟨⟨v0, l0⟩, ⟨v1, l1⟩, ⟨⟩⟩ := a
  obtain ⟨⟨h0, g0⟩, ⟨h1, _⟩, _⟩ := h
  exact Sp.bestRaw h0 (fun x hx => (g0 x hx).1) (Go.Proofs.YtjfdhafmbcppjaaGreatDoor.H.Sl.map h1) hT hM))
    H enc base args ds gs before hval hW

theorem over : Rows.SpanBestSaid :=
  OpenClaim.holds_of_wide 8 Tryz.f8 rfl rfl rfl rfl rfl rfl rfl ⟨rfl, rfl, rfl, rfl, rfl⟩ rfl rfl rfl rfl rfl (by kernel_rfl) Tryz.func8 (by kernel_rfl)
    (of_decide_eq_true (by kernel_rfl)) (by unfold Func.isWrapper; first | (rw [if_pos (by decide +kernel)]; kernel_rfl) | (rw [if_neg (by decide +kernel)]; exact ⟨rfl, rfl⟩))
    (fun os started H enc _ => lifted os started H enc)

theorem plain (f : FuncId) (fn : Func) (hf : Tryz.pinned.checked.prog.funcNamed "haversack/haversacklaw10.SpanBest" = some f) (hfn : Tryz.pinned.checked.prog.funcs[f]? = some fn) :
    true = Tryz.pinned.checked.prog.looks [] ∧ ∀ (j : Nat) t, fn.params[j]? = some t → Tryz.pinned.checked.prog.wantsStandIn t = false := by
  obtain rfl : f = 8 := Option.some.inj ((show Tryz.prog.funcNamed "haversack/haversacklaw10.SpanBest" = some 8 by kernel_rfl).symm.trans hf) |>.symm
  obtain rfl : fn = Tryz.f8 := (Option.some.inj (Tryz.func8.symm.trans hfn)).symm
  refine ⟨by kernel_rfl, fun j t ht => ?_⟩
  have hm : t ∈ ([56, 50] : List TypeId) := by simpa using Array.mem_of_getElem? ht
  have hall : (([56, 50] : List TypeId).all fun u => !Tryz.prog.wantsStandIn u) = true := by kernel_rfl
  exact (show Tryz.prog.wantsStandIn t = false by simpa using List.all_eq_true.1 hall t hm)

theorem proved : Rows.SpanBestCardSaid :=
  Claim7.holds_tied_plain_at .later [] _ _ _ _ over (fun _ h => by cases h) (by kernel_rfl) (fun _ h => by cases h) spanBest_row_tie rfl ⟨rfl, rfl⟩ (by kernel_rfl) rfl plain (by kernel_rfl)
#print axioms proved
end Go.Proofs.YtjfdhafmbcppjaaGreatDoor.spanBest

