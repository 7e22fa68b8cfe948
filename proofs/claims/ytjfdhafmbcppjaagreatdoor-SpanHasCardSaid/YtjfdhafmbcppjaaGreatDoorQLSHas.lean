/-
  It is proved that the statement SpanHas returns true for every input and does not panic. Conditions: the listed package-level variables start as the program's text lays them (the card ties them).
-/
import Derived.Test.YtjfdhafmbcppjaaGreatDoorQd
import Derived.Test.YtjfdhafmbcppjaaGreatDoorQc
import Derived.Test.YtjfdhafmbcppjaaGreatDoorQb
import Derived.WalkKit
import Derived.ProofKit
import Derived.OpenShut
import Derived.Carry
import Derived.ChangeArms
import Derived.Deep.Slices
import Derived.Test.YtjfdhafmbcppjaaGreatDoorRows
import Derived.Stop.LaidErr
import Derived.Lib.LaidTab
import Derived.LaidMore
import Derived.Handed
import Derived.HandedShaped
import Derived.Shelf.Vars
import Derived.Test.YtjfdhafmbcppjaaGreatDoorCards
import Derived.Test.YtjfdhafmbcppjaaGreatDoorTie
import Derived.Lay
import Derived.SevenTiedAt
import Derived.Stop.Joined
namespace Go.Proofs.YtjfdhafmbcppjaaGreatDoor.Sp
open Go.RowKit H S Ve
attribute [local irreducible] H.CL H.RW H.CW H.Yd H.thenK H.blockQ Go.Calls

set_option maxHeartbeats 1000000 in
theorem refBest (X v : Value) (s : Spn) (l : List Ver) (w : World) (hX : SpanAt w X s) (hv : VersAt w v l) (fs : FitS s) (fl : l.length ≤ 1000000 ∧ ∀ x ∈ l, Fit x) : Calls Tryz.prog 21 #[X, v] w fun e w' => K0 w w' ∧ e = .returned (.tuple #[.int .i64 (max (bestF s l l.length) 0), .bool (decide (bestF s l l.length ≥ 0))]) := by
  obtain ⟨p, rfl, hp⟩ := hX
  obtain ⟨L, rfl, hs, hm⟩ := hv
  rw [List.length_map] at fl
  refine H.enter Tryz.func21 Tryz.ntmps21 rfl rfl ?_; dsimp only [H.args]
  repeat' (first | (refine CL.seq ?_) | (refine CL.region ?_))
  refine RW.box rfl rfl (fun w1 hb1 hk1 hlt1 => ?_)
  have hb1' : w1.heap[w.heap.size]? = some (.cells #[.bool s.any, p] spnT (0, 0)) := hb1
  have hs1 := hs.keep0 hk1
  repeat' (first | (refine CL.seq ?_) | (refine CL.region ?_) | (refine CL.block ?_) | (refine Gt.nil ?_; refine RW.nilw [0, 1, 2, 4, 5, 6, 7, 11, 35] ?_; dsimp only [H.keep, H.look, H.Fr.put, Nat.beq]) | (refine Gt.assign ?_; refine RW.y (Y.assign rfl) rfl ?_))
  refine CL.loopS [1, 2, 6, 7] (fun m vals wr => ∃ i : Nat, vals = [v, .pointer (some ⟨w.heap.size, 0, none⟩), .int .i64 (bestF s (L.map (·.1)) i), .int .i64 (i : Int)] ∧ m = L.length - i ∧ i ≤ L.length ∧ K0 w1 wr) L.length ⟨_, rfl, 0, rfl, rfl, Nat.zero_le _, Kept.refl _ _⟩ ?_
  rintro m vals wr ⟨i, rfl, rfl, hi, hkr⟩
  dsimp only [List.zip, List.zipWith]
  have hsr := hs1.keep0 hkr
  have hbr := hkr.at0 hb1'
  have hbd := bestF_bd s (L.map (·.1)) i
  rcases Nat.lt_or_ge i L.length with hlt | hge
  · have hmem : L.getD i default ∈ L := getD_mem default hlt
    have hx := (hm _ hmem).keep0 (hk1.trans0 hkr)
    have fx : Fit (L.getD i default).1 := fl.2 _ (List.mem_map_of_mem hmem)
    have hk13 : K0 w1 wr := hkr
    have hX3 : ∀ {w'}, K0 wr w' → SpanAt w' (.agg #[.bool s.any, p]) s := fun h => ⟨p, rfl, hp.keep0 ((hk1.trans0 hk13).trans0 h)⟩
    have hV3 : ∀ {w'}, K0 wr w' → VerAt w' (.agg (verCl (L.getD i default)).toArray) (L.getD i default).1 := fun h => VerAt.mk (hx.keep0 h)
    have hci : ∀ {w' : World}, K0 wr w' → ∀ (j : Nat) (u : Value), (verCl (L.getD i default))[j]? = some u → w'.cell? ((Value.spot v ((i : Int).toNat * 4)).add j) = some u := fun h => elCells (hsr.keep0 h) verCl_len hlt
    have hstep : bestF s (L.map (·.1)) (i + 1) = if (hasB s (L.getD i default).1 && (decide (bestF s (L.map (·.1)) i < 0) || decide (0 < cmpV (L.getD i default).1 ((L.map (·.1)).getD (bestF s (L.map (·.1)) i).toNat default)))) = true then (i : Int) else bestF s (L.map (·.1)) i := by rw [bestF, getD_map L i hlt]
    repeat' (first | (refine CL.seq ?_) | (refine CL.region ?_) | (refine CL.skip ?_) | (refine CL.condP rfl (fun _ => ?_) (fun _ => ?_) <;> try (exfalso; omega)) | (refine CL.block ?_) | (refine Gt.nil ?_; refine RW.nilw [0, 1, 2, 4, 5, 6, 7, 11, 35] ?_; dsimp only [H.keep, H.look, H.Fr.put, Nat.beq]) | (refine Gt.move ?_; refine RW.y (Y.move rfl) rfl ?_) | (refine Gt.lss ?_; refine RW.y (Y.lss rfl rfl) rfl ?_) | (refine Gt.len ?_; (refine RW.y (Y.lenx rfl (by assumption)) rfl ?_)))
    refine CL.draw (fun w' => K0 wr w') (by kernel_rfl) (fun w4 hheap hk4 => ?_)
    have hS : K0 wr w4 := hk4
    skip
    refine AW.take 0 rfl (by kernel_rfl) (by kernel_rfl) (by kernel_rfl) rfl (by assumption) (fun w hS => Y.loadBlock rfl (hS.at0 hbr) rfl) ?_
    refine AW.take 1 rfl (by kernel_rfl) (by kernel_rfl) (by kernel_rfl) rfl (by assumption) (fun w hS => Y.move rfl) ?_
    refine AW.take 2 rfl (by kernel_rfl) (by kernel_rfl) (by kernel_rfl) rfl (by assumption) (fun w hS => Y.move rfl) ?_
    refine AW.take 3 rfl (by kernel_rfl) (by kernel_rfl) (by kernel_rfl) rfl (by assumption) (fun w hS => Y.idx rfl rfl (hsr.keep0 hS) (by omega) (by omega)) ?_
    refine AW.take 4 rfl (by kernel_rfl) (by kernel_rfl) (by kernel_rfl) rfl (by assumption) (fun w hS => Y.loadN (cs := verCl (L.getD i default)) rfl rfl (hci hS)) ?_
    refine AW.next 5 rfl (by kernel_rfl) ?_
    refine RW.fn rfl rfl ((refHas _ _ s _ w4 (hX3 hk4) (hV3 hk4) fs fx).mono ?_)
    rintro e w5 ⟨hk5, rfl⟩
    refine RW.nil (Nm.then (rebase0 hS hk5 fun hS => ?_))
    have hk15 := (hk13.trans0 hk4).trans0 hk5
    have hfin : ∀ (b : Bool) (w6 : World), K0 w5 w6 → b = (hasB s (L.getD i default).1 && (decide (bestF s (L.map (·.1)) i < 0) || decide (0 < cmpV (L.getD i default).1 ((L.map (·.1)).getD (bestF s (L.map (·.1)) i).toNat default)))) → bestF s (L.map (·.1)) (i + 1) = if b = true then (i : Int) else bestF s (L.map (·.1)) i := by
      intro b w6 _ hb; rw [hstep, ← hb]
    cases hh : hasB s (L.getD i default).1
    · rw [hh, Bool.false_and] at hfin
      skip
      refine AW.take 6 rfl (by kernel_rfl) (by kernel_rfl) (by kernel_rfl) rfl (by assumption) (fun w hS => Y.move rfl) ?_
      refine AW.takeOff 7 rfl (by kernel_rfl) (by kernel_rfl) (by kernel_rfl) rfl rfl rfl rfl rfl (by assumption) ?_
      refine AW.takeOff 8 rfl (by kernel_rfl) (by kernel_rfl) (by kernel_rfl) rfl rfl rfl rfl rfl (by assumption) ?_
      refine AW.takeOff 9 rfl (by kernel_rfl) (by kernel_rfl) (by kernel_rfl) rfl rfl rfl rfl rfl (by assumption) ?_
      refine AW.takeOffU 10 rfl (by kernel_rfl) (by kernel_rfl) (by kernel_rfl) rfl rfl rfl rfl (by assumption) ?_
      refine AW.takeOffU 11 rfl (by kernel_rfl) (by kernel_rfl) (by kernel_rfl) rfl rfl rfl rfl (by assumption) ?_
      refine AW.takeOffU 12 rfl (by kernel_rfl) (by kernel_rfl) (by kernel_rfl) rfl rfl rfl rfl (by assumption) ?_
      refine AW.takeOffU 13 rfl (by kernel_rfl) (by kernel_rfl) (by kernel_rfl) rfl rfl rfl rfl (by assumption) ?_
      refine AW.takeOffU 14 rfl (by kernel_rfl) (by kernel_rfl) (by kernel_rfl) rfl rfl rfl rfl (by assumption) ?_
      refine AW.takeOffU 15 rfl (by kernel_rfl) (by kernel_rfl) (by kernel_rfl) rfl rfl rfl rfl (by assumption) ?_
      refine AW.takeOffU 16 rfl (by kernel_rfl) (by kernel_rfl) (by kernel_rfl) rfl rfl rfl rfl (by assumption) ?_
      refine AW.takeOffU 17 rfl (by kernel_rfl) (by kernel_rfl) (by kernel_rfl) rfl rfl rfl rfl (by assumption) ?_
      refine AW.takeOffU 18 rfl (by kernel_rfl) (by kernel_rfl) (by kernel_rfl) rfl rfl rfl rfl (by assumption) ?_
      refine AW.takeOffU 19 rfl (by kernel_rfl) (by kernel_rfl) (by kernel_rfl) rfl rfl rfl rfl (by assumption) ?_
      refine AW.takeOff 20 rfl (by kernel_rfl) (by kernel_rfl) (by kernel_rfl) rfl rfl rfl rfl rfl (by assumption) ?_
      refine AW.take 21 rfl (by kernel_rfl) (by kernel_rfl) (by kernel_rfl) rfl (by assumption) (fun w hS => by exact Y.pickF rfl rfl) ?_
      refine AW.donew [1, 2, 6, 7, 35] (by kernel_rfl) ?_
      dsimp only [H.keep, H.look, H.Fr.put, Nat.beq]
      repeat' (first | (refine CL.region ?_) | (refine CL.skip ?_) | (refine CL.condF rfl ?_) | (refine CL.done ?_) | (refine Nm.block ?_) | (refine Nm.then ?_) | (refine Gt.nil ?_; refine RW.nilw [0, 1, 2, 4, 5, 6, 7, 11, 35] ?_; dsimp only [H.keep, H.look, H.Fr.put, Nat.beq]) | (refine Gt.move ?_; refine RW.y (Y.move rfl) rfl ?_) | (refine Gt.assign ?_; refine RW.y (Y.assign rfl) rfl ?_) | (refine Gt.add ?_; refine RW.y (Y.add64 rfl rfl (by omega) (by omega)) rfl ?_))
      exact ⟨L.length - (i + 1), _, rfl, rfl, rfl, by omega, i + 1, by rw [hfin _ _ (Kept.refl _ _) rfl]; rfl, rfl, by omega, hk15⟩
    · rw [hh, Bool.true_and] at hfin
      skip
      refine AW.take 6 rfl (by kernel_rfl) (by kernel_rfl) (by kernel_rfl) rfl (by assumption) (fun w hS => Y.move rfl) ?_
      refine AW.takeOn 7 rfl (by kernel_rfl) (by kernel_rfl) (by kernel_rfl) rfl rfl rfl rfl (by assumption) (fun w hS => Y.move rfl) ?_
      refine AW.takeOn 8 rfl (by kernel_rfl) (by kernel_rfl) (by kernel_rfl) rfl rfl rfl rfl (by assumption) (fun w hS => Y.lss rfl rfl) ?_
      refine AW.takeOn 9 rfl (by kernel_rfl) (by kernel_rfl) (by kernel_rfl) rfl rfl rfl rfl (by assumption) (fun w hS => Y.move rfl) ?_
      refine AW.split (t := 23) rfl (fun hn => ?_) (fun hn => ?_)
      · rw [hn, Bool.true_or] at hfin
        skip
        refine AW.takeOff 10 rfl (by kernel_rfl) (by kernel_rfl) (by kernel_rfl) rfl rfl rfl rfl rfl (by assumption) ?_
        refine AW.takeOff 11 rfl (by kernel_rfl) (by kernel_rfl) (by kernel_rfl) rfl rfl rfl rfl rfl (by assumption) ?_
        refine AW.takeOff 12 rfl (by kernel_rfl) (by kernel_rfl) (by kernel_rfl) rfl rfl rfl rfl rfl (by assumption) ?_
        refine AW.takeOff 13 rfl (by kernel_rfl) (by kernel_rfl) (by kernel_rfl) rfl rfl rfl rfl rfl (by assumption) ?_
        refine AW.takeOff 14 rfl (by kernel_rfl) (by kernel_rfl) (by kernel_rfl) rfl rfl rfl rfl rfl (by assumption) ?_
        refine AW.takeOff 15 rfl (by kernel_rfl) (by kernel_rfl) (by kernel_rfl) rfl rfl rfl rfl rfl (by assumption) ?_
        refine AW.takeOff 16 rfl (by kernel_rfl) (by kernel_rfl) (by kernel_rfl) rfl rfl rfl rfl rfl (by assumption) ?_
        refine AW.takeOff 17 rfl (by kernel_rfl) (by kernel_rfl) (by kernel_rfl) rfl rfl rfl rfl rfl (by assumption) ?_
        refine AW.takeOff 18 rfl (by kernel_rfl) (by kernel_rfl) (by kernel_rfl) rfl rfl rfl rfl rfl (by assumption) ?_
        refine AW.takeOff 19 rfl (by kernel_rfl) (by kernel_rfl) (by kernel_rfl) rfl rfl rfl rfl rfl (by assumption) ?_
        refine AW.takeOn 20 rfl (by kernel_rfl) (by kernel_rfl) (by kernel_rfl) rfl rfl rfl rfl (by assumption) (fun w hS => by exact Y.pickT rfl rfl) ?_
        refine AW.take 21 rfl (by kernel_rfl) (by kernel_rfl) (by kernel_rfl) rfl (by assumption) (fun w hS => by exact Y.pickT rfl rfl) ?_
        refine AW.donew [1, 2, 6, 7, 35] (by kernel_rfl) ?_
        dsimp only [H.keep, H.look, H.Fr.put, Nat.beq]
        repeat' (first | (refine CL.region ?_) | (refine CL.condT rfl ?_) | (refine CL.done ?_) | (refine Nm.block ?_) | (refine Nm.then ?_) | (refine Gt.nil ?_; refine RW.nilw [0, 1, 2, 4, 5, 6, 7, 11, 35] ?_; dsimp only [H.keep, H.look, H.Fr.put, Nat.beq]) | (refine Gt.move ?_; refine RW.y (Y.move rfl) rfl ?_) | (refine Gt.assign ?_; refine RW.y (Y.assign rfl) rfl ?_) | (refine Gt.add ?_; refine RW.y (Y.add64 rfl rfl (by omega) (by omega)) rfl ?_))
        exact ⟨L.length - (i + 1), _, rfl, rfl, rfl, by omega, i + 1, by rw [hfin _ _ (Kept.refl _ _) rfl]; rfl, rfl, by omega, hk15⟩
      · rw [hn, Bool.false_or] at hfin
        have hn' := of_decide_eq_false hn
        obtain ⟨c, hc⟩ : ∃ c : Nat, bestF s (L.map (·.1)) i = (c : Int) := ⟨(bestF s (L.map (·.1)) i).toNat, by omega⟩
        rw [hc] at hfin hbd ⊢
        have hcl : c < L.length := by omega
        rw [Int.toNat_natCast, getD_map L c hcl] at hfin
        have hs5 := hsr.keep0 (hk4.trans0 hk5)
        have hk45 := hk4.trans0 hk5
        have hmc : L.getD c default ∈ L := getD_mem default hcl
        have hcell : ∀ {w' : World}, K0 w5 w' → ∀ (j : Nat) (u : Value), (verCl (L.getD c default))[j]? = some u → w'.cell? ((Value.spot v ((c : Int).toNat * 4)).add j) = some u := fun h => elCells (hs5.keep0 h) verCl_len hcl
        skip
        refine AW.takeOn 10 rfl (by kernel_rfl) (by kernel_rfl) (by kernel_rfl) rfl rfl rfl rfl (by assumption) (fun w hS => Y.move rfl) ?_
        refine AW.takeOn 11 rfl (by kernel_rfl) (by kernel_rfl) (by kernel_rfl) rfl rfl rfl rfl (by assumption) (fun w hS => Y.move rfl) ?_
        refine AW.takeOn 12 rfl (by kernel_rfl) (by kernel_rfl) (by kernel_rfl) rfl rfl rfl rfl (by assumption) (fun w hS => Y.idx rfl rfl (hs5.keep0 hS) (by omega) (by omega)) ?_
        refine AW.takeOn 13 rfl (by kernel_rfl) (by kernel_rfl) (by kernel_rfl) rfl rfl rfl rfl (by assumption) (fun w hS => Y.loadN (cs := verCl (L.getD i default)) rfl rfl (hci (hk45.trans0 hS))) ?_
        refine AW.takeOn 14 rfl (by kernel_rfl) (by kernel_rfl) (by kernel_rfl) rfl rfl rfl rfl (by assumption) (fun w hS => Y.move rfl) ?_
        refine AW.takeOn 15 rfl (by kernel_rfl) (by kernel_rfl) (by kernel_rfl) rfl rfl rfl rfl (by assumption) (fun w hS => Y.move rfl) ?_
        refine AW.takeOn 16 rfl (by kernel_rfl) (by kernel_rfl) (by kernel_rfl) rfl rfl rfl rfl (by assumption) (fun w hS => Y.idx rfl rfl (hs5.keep0 hS) (by omega) (by omega)) ?_
        refine AW.takeOn 17 rfl (by kernel_rfl) (by kernel_rfl) (by kernel_rfl) rfl rfl rfl rfl (by assumption) (fun w hS => Y.loadN (cs := verCl (L.getD c default)) rfl rfl (hcell hS)) ?_
        refine AW.next 18 rfl (by kernel_rfl) ?_
        refine RW.on rfl rfl rfl ?_
        refine RW.fn rfl rfl ((refCmp _ _ _ _ w5 (hV3 (hk4.trans0 hk5)) (VerAt.mk ((hm _ hmc).keep0 (hk1.trans0 hk15))) fx (fl.2 _ (List.mem_map_of_mem hmc))).mono ?_)
        rintro e w6 ⟨hk6, rfl⟩
        refine RW.nil (Nm.then (rebase0 hS hk6 fun hS => ?_))
        refine AW.takeOn 19 rfl (by kernel_rfl) (by kernel_rfl) (by kernel_rfl) rfl rfl rfl rfl (by assumption) (fun w hS => Y.gtr rfl rfl) ?_
        refine AW.takeOn 20 rfl (by kernel_rfl) (by kernel_rfl) (by kernel_rfl) rfl rfl rfl rfl (by assumption) (fun w hS => by exact Y.pickF rfl rfl) ?_
        refine AW.take 21 rfl (by kernel_rfl) (by kernel_rfl) (by kernel_rfl) rfl (by assumption) (fun w hS => by exact Y.pickT rfl rfl) ?_
        refine AW.donew [1, 2, 6, 7, 35] (by kernel_rfl) ?_
        dsimp only [H.keep, H.look, H.Fr.put, Nat.beq]
        repeat' (first | (refine CL.region ?_) | (refine CL.skip ?_) | (refine CL.condP rfl (fun _ => ?_) (fun _ => ?_) <;> try (exfalso; omega)) | (refine CL.done ?_) | (refine Nm.block ?_) | (refine Nm.then ?_) | (refine Gt.nil ?_; refine RW.nilw [0, 1, 2, 4, 5, 6, 7, 11, 35] ?_; dsimp only [H.keep, H.look, H.Fr.put, Nat.beq]) | (refine Gt.move ?_; refine RW.y (Y.move rfl) rfl ?_) | (refine Gt.assign ?_; refine RW.y (Y.assign rfl) rfl ?_) | (refine Gt.add ?_; refine RW.y (Y.add64 rfl rfl (by omega) (by omega)) rfl ?_))
        · rename_i g1
          exact ⟨L.length - (i + 1), _, rfl, rfl, rfl, by omega, i + 1, by rw [hfin true _ hk6 (decide_eq_true g1).symm]; rfl, rfl, by omega, hk15.trans0 hk6⟩
        · rename_i g1
          exact ⟨L.length - (i + 1), _, rfl, rfl, rfl, by omega, i + 1, by rw [hfin false _ hk6 (decide_eq_false g1).symm]; rfl, rfl, by omega, hk15.trans0 hk6⟩
  · have hi : i = L.length := by omega
    subst hi
    rw [List.length_map]
    repeat' (first | (refine CL.seq ?_) | (refine CL.region ?_) | (refine CL.condP rfl (fun _ => ?_) (fun _ => ?_) <;> try (exfalso; omega)) | (refine CL.exit ?_) | (refine Ex.then ?_) | (refine Ex.hit ?_) | (refine CL.ret ?_) | (refine Gt.nil ?_; refine RW.nilw [0, 1, 2, 4, 5, 6, 7, 11, 35] ?_; dsimp only [H.keep, H.look, H.Fr.put, Nat.beq]) | (refine Gt.move ?_; refine RW.y (Y.move rfl) rfl ?_) | (refine Gt.assign ?_; refine RW.y (Y.assign rfl) rfl ?_) | (refine Gt.lss ?_; refine RW.y (Y.lss rfl rfl) rfl ?_) | (refine Gt.len ?_; (refine RW.y (Y.lenx rfl (by assumption)) rfl ?_)) | (refine Gt.call ?_; refine RW.y (Y.max2 rfl rfl) rfl ?_) | (refine Gt.geq ?_; refine RW.y (Y.geq rfl rfl) rfl ?_))
    exact FQ.two rfl rfl rfl rfl ⟨hk1.trans0 hkr, rfl⟩
end Go.Proofs.YtjfdhafmbcppjaaGreatDoor.Sp

namespace Go.Proofs.YtjfdhafmbcppjaaGreatDoor.Sp
open Go.RowKit H S Ve
attribute [local irreducible] H.CL H.RW H.CW H.Yd H.thenK H.blockQ Go.Calls

theorem join_snoc (sep : T) : ∀ (l : List T) (x : T), Go.Lib.join (l ++ [x]) sep = if l = [] then x else Go.Lib.join l sep ++ sep ++ x := by
  intro l x
  cases l with
  | nil => simp [Go.Lib.join_one]
  | cons a r =>
    rw [List.cons_append, Go.Lib.join_cons, Go.Lib.join_cons, if_neg (by simp)]
    simp [Go.Lib.joinTail]
theorem joinTail_len (sep : T) (m : Nat) : ∀ (l : List T), (∀ s ∈ l, s.length ≤ m) → (Go.Lib.joinTail sep l).length ≤ l.length * (m + sep.length)
  | [], _ => by simp [Go.Lib.joinTail]
  | x :: r, h => by
    have h1 := joinTail_len sep m r fun s hs => h s (by simp [hs])
    have h2 := h x (by simp)
    have h3 : Go.Lib.joinTail sep (x :: r) = (sep ++ x) ++ Go.Lib.joinTail sep r := by simp [Go.Lib.joinTail]
    rw [h3, List.length_append, List.length_append, List.length_cons, Nat.succ_mul]
    omega
theorem join_len (sep : T) (m : Nat) (l : List T) (h : ∀ s ∈ l, s.length ≤ m) : (Go.Lib.join l sep).length ≤ l.length * (m + sep.length) := by
  cases l with
  | nil => simp [Go.Lib.join_nil]
  | cons x r =>
    have h1 := joinTail_len sep m r fun s hs => h s (by simp [hs])
    have h2 := h x (by simp)
    rw [Go.Lib.join_cons, List.length_append, List.length_cons, Nat.succ_mul]
    omega
/-- A version, a bound, a span whose texts fit. -/
def FitV (v : Ver) : Prop := (v.pre.length ≤ 10 ∧ ∀ s ∈ v.pre, s.length ≤ 100) ∧ I64 v
theorem FitV.fit {v : Ver} (h : FitV v) : Fit v := ⟨by have := h.1.1; omega, fun s hs => by have := h.1.2 s hs; omega⟩
def FitT (s : Spn) : Prop := s.or.length ≤ 20 ∧ ∀ l ∈ s.or, l.length ≤ 20 ∧ ∀ b ∈ l, b.sign.length ≤ 10 ∧ FitV b.v
theorem FitT.fits {s : Spn} (h : FitT s) : FitS s := ⟨by have := h.1; omega, fun l hl => ⟨by have := (h.2 l hl).1; omega, fun z hz => ((h.2 l hl).2 z hz).2.fit⟩⟩
theorem textV_len {v : Ver} (h : FitV v) : (textV v).length ≤ 2000 := by
  obtain ⟨⟨h1, h2⟩, h3⟩ := h
  have l1 := decI_len v.a h3.1.2
  have l2 := decI_len v.b h3.2.1.2
  have l3 := decI_len v.c h3.2.2.2
  have lg := glueC_len 46 100 v.pre h2
  have : v.pre.length * (100 + 1) ≤ 10 * 101 := Nat.mul_le_mul h1 (Nat.le_refl _)
  rw [textV]
  split <;> simp <;> omega
theorem bdT_len {b : Bd} (h : b.sign.length ≤ 10 ∧ FitV b.v) : (bdT b).length ≤ 2010 := by
  have := textV_len h.2
  rw [bdT]
  split <;> simp <;> omega
theorem listT_len {l : List Bd} (h : l.length ≤ 20 ∧ ∀ b ∈ l, b.sign.length ≤ 10 ∧ FitV b.v) : (listT l).length ≤ 50000 := by
  have h1 := join_len [32] 2010 (l.map bdT) (fun s hs => by obtain ⟨b, hb, rfl⟩ := List.mem_map.1 hs; exact bdT_len (h.2 b hb))
  rw [List.length_map] at h1
  have : l.length * (2010 + ([32] : T).length) ≤ 20 * 2011 := Nat.mul_le_mul h.1 (Nat.le_refl _)
  rw [listT]; omega
theorem orT_len {o : List (List Bd)} (h : o.length ≤ 20 ∧ ∀ l ∈ o, l.length ≤ 20 ∧ ∀ b ∈ l, b.sign.length ≤ 10 ∧ FitV b.v) : (Go.Lib.join (o.map listT) [32, 124, 124, 32]).length ≤ 1100000 := by
  have h1 := join_len [32, 124, 124, 32] 50000 (o.map listT) (fun s hs => by obtain ⟨b, hb, rfl⟩ := List.mem_map.1 hs; exact listT_len (h.2 b hb))
  rw [List.length_map] at h1
  have : o.length * (50000 + ([32, 124, 124, 32] : T).length) ≤ 20 * 50004 := Nat.mul_le_mul h.1 (Nat.le_refl _)
  omega
theorem spanT_len {s : Spn} (h : FitT s) : (spanT s).length ≤ 1100000 := by
  rw [spanT]
  split
  · simp
  · exact orT_len h
theorem one_row {w : World} {B : Nat} {e : TypeId} {v : Value} {n : Nat} {xs : List Value} (h : w.ownsRow B e 1 v n xs) : v.oneCell' = true := (Sl.of_own h).one

set_option maxHeartbeats 1000000 in
theorem spanText (X : Value) (s : Spn) (w : World) (hX : SpanAt w X s) (fs : FitT s) (hT : Tb w) : Calls Tryz.prog 13 #[X] w fun e w' => K0 w w' ∧ e = .returned (vs (spanT s)) := by
  obtain ⟨p, rfl, R, hR, hs, hm⟩ := hX
  refine H.enter Tryz.func13 Tryz.ntmps13 rfl rfl ?_; dsimp only [H.args]
  repeat' (first | (refine CL.seq ?_) | (refine CL.region ?_))
  refine RW.box rfl rfl (fun w1 hb1 hk1 hlt1 => ?_)
  have hb1' : w1.heap[w.heap.size]? = some (.cells #[.bool s.any, p] spnT (0, 0)) := hb1
  have hs1 := hs.keep0 hk1
  have hret : ∀ r : T, r = spanT s → Ending.returned (vs r) = .returned (vs (spanT s)) := fun r h => by rw [h]
  cases ha : s.any
  · rw [ha] at hb1'
    have hso : s.or = R.map (·.1) := hR.symm
    have hrl : R.length ≤ 20 := by have := fs.1; rw [hso, List.length_map] at this; exact this
    repeat' (first | (refine CL.seq ?_) | (refine CL.region ?_) | (refine CL.skip ?_) | (refine CL.condF rfl ?_) | (refine CL.block ?_) | (refine Gt.nil ?_; refine RW.nilw [0, 1, 2, 3, 5, 6, 8, 9, 11, 13, 14, 15, 16, 19, 20, 21, 22, 28] ?_; dsimp only [H.keep, H.look, H.Fr.put, Nat.beq]) | (refine Gt.move ?_; refine RW.y (Y.move rfl) rfl ?_) | (refine Gt.assign ?_; refine RW.y (Y.assign rfl) rfl ?_) | (refine Gt.load ?_; (refine RW.y (Y.loadB rfl (by assumption) rfl) rfl ?_)) | (refine Gt.fieldAddr ?_; refine RW.y (Y.fieldAddr rfl (by rfl)) rfl ?_) | (refine Gt.len ?_; (refine RW.y (Y.lenx rfl (by assumption)) rfl ?_)))
    refine CL.loopS [3, 13, 14, 15] (fun m vals wr => ∃ (i : Nat) (u : Value), vals = [u, p, .int .i64 (R.length : Int), .int .i64 (i : Int)] ∧ m = R.length - i ∧ i ≤ R.length ∧ wr.ownsRow w1.heap.size strT 1 u i (sv ((R.take i).map (fun y => listT y.1))) ∧ K0 w1 wr) R.length ⟨_, rfl, 0, _, rfl, rfl, Nat.zero_le _, World.ownsRow_nil _ _ _ _, Kept.refl _ _⟩ ?_
    rintro m vals wr ⟨i, u, rfl, rfl, hi, how, hkr⟩
    dsimp only [List.zip, List.zipWith]
    have hsr := hs1.keep0 hkr
    rcases Nat.lt_or_ge i R.length with hlt | hge
    · have hmem : R.getD i default ∈ R := getD_mem default hlt
      have fL := fs.2 (R.getD i default).1 (by rw [hso]; exact List.mem_map_of_mem hmem)
      obtain ⟨L, hL, hsL, hmL⟩ := (hm _ hmem).keep0 (hk1.trans0 hkr)
      have hLlen : L.length ≤ 20 := by have := fL.1; rw [← hL, List.length_map] at this; exact this
      have hti : ((i : Int)).toNat = i := Int.toNat_natCast i
      rw [← hti] at hsL
      repeat' (first | (refine CL.seq ?_) | (refine CL.region ?_) | (refine CL.skip ?_) | (refine CL.condP rfl (fun _ => ?_) (fun _ => ?_) <;> try (exfalso; omega)) | (refine CL.block ?_) | (refine Gt.nil ?_; refine RW.nilw [0, 1, 2, 3, 5, 6, 8, 9, 11, 13, 14, 15, 16, 19, 20, 21, 22, 28] ?_; dsimp only [H.keep, H.look, H.Fr.put, Nat.beq]) | (refine Gt.move ?_; refine RW.y (Y.move rfl) rfl ?_) | (refine Gt.assign ?_; refine RW.y (Y.assign rfl) rfl ?_) | (refine Gt.len ?_; (refine RW.y (Y.lenx rfl (by assumption)) rfl ?_)) | (refine Gt.lss ?_; refine RW.y (Y.lss rfl rfl) rfl ?_) | (refine Gt.idx ?_; (refine RW.elemM rfl rfl rfl rfl (by assumption) (by omega) (by omega) ?_)))
      refine CL.loopS [3, 6, 13, 14, 15, 19, 20, 21] (fun m vals wv => ∃ (k : Nat) (q : Value), vals = [u, q, p, .int .i64 (R.length : Int), .int .i64 (i : Int), (R.getD ((i : Int)).toNat default).2, .int .i64 (L.length : Int), .int .i64 (k : Int)] ∧ m = L.length - k ∧ k ≤ L.length ∧ wv.ownsRow wr.heap.size strT 1 q k (sv ((L.take k).map (fun y => bdT y.1))) ∧ K0 wr wv) L.length ⟨_, rfl, 0, _, rfl, rfl, Nat.zero_le _, World.ownsRow_nil _ _ _ _, Kept.refl _ _⟩ ?_
      rintro m vals wv ⟨k, q, rfl, rfl, hk, hoq, hkv⟩
      dsimp only [List.zip, List.zipWith]
      have hsv := hsL.keep0 hkv
      rcases Nat.lt_or_ge k L.length with hkl | hkg
      · have hkm : L.getD k default ∈ L := getD_mem default hkl
        have hy := (hmL _ hkm).keep0 hkv
        have fy := fL.2 (L.getD k default).1 (by rw [← hL]; exact List.mem_map_of_mem hkm)
        have htl := textV_len fy.2
        repeat' (first | (refine CL.seq ?_) | (refine CL.region ?_) | (refine CL.skip ?_) | (refine CL.condP rfl (fun _ => ?_) (fun _ => ?_) <;> try (exfalso; omega)) | (refine CL.block ?_) | (refine Gt.nil ?_; refine RW.nilw [0, 1, 2, 3, 5, 6, 8, 9, 11, 13, 14, 15, 16, 19, 20, 21, 22, 28] ?_; dsimp only [H.keep, H.look, H.Fr.put, Nat.beq]) | (refine Gt.lss ?_; refine RW.y (Y.lss rfl rfl) rfl ?_) | (refine Gt.idx ?_; (refine RW.elemA rfl rfl rfl rfl (by assumption) (fun _ => by rfl) rfl (by omega) (by omega) (fun _ => ?_))))
        refine RW.varN (u := #[vs (L.getD k default).1.sign, .int .i64 (L.getD k default).1.v.a, .int .i64 (L.getD k default).1.v.b, .int .i64 (L.getD k default).1.v.c, (L.getD k default).2]) rfl rfl rfl (bdCells hy.one) rfl (fun w4 hb4 hk4 hlt4 => ?_)
        have hy4 := hy.keep0 hk4
        have hst : (L.take (k + 1)).map (fun y => bdT y.1) = (L.take k).map (fun y => bdT y.1) ++ [bdT (L.getD k default).1] := by rw [take_snoc default L k hkl, List.map_append]; rfl
        generalize L.getD k default = y at *
        repeat' (first | (refine CL.seq ?_) | (refine CL.region ?_) | (refine CL.skip ?_) | (refine CL.condP rfl (fun _ => ?_) (fun _ => ?_) <;> try (exfalso; omega)) | (refine Gt.nil ?_; refine RW.nilw [0, 1, 2, 3, 5, 6, 8, 9, 11, 13, 14, 15, 16, 19, 20, 21, 22, 28] ?_; dsimp only [H.keep, H.look, H.Fr.put, Nat.beq]) | (refine RW.y (Y.loadN (cs := [_, _, _, _]) rfl rfl (load4 hb4)) rfl ?_) | (refine Gt.move ?_; refine RW.y (Y.move rfl) rfl ?_) | (refine Gt.assign ?_; refine RW.y (Y.assign rfl) rfl ?_) | (refine Gt.load ?_; (refine RW.y (Y.loadB rfl (by assumption) rfl) rfl ?_)) | (refine Gt.fieldAddr ?_; refine RW.y (Y.fieldAddr rfl (by rfl)) rfl ?_) | (refine Gt.eql ?_; refine RW.y (Y.eqs rfl rfl) rfl ?_))
        · rename_i hsg
          refine RW.fn rfl rfl ((text _ y.1.v w4 ⟨y.2, rfl, hy4⟩ fy.2.fit (hT.keep0 (((hk1.trans0 hkr).trans0 hkv).trans0 hk4)) fy.2.2.1.2 fy.2.2.2.1.2 fy.2.2.2.2.2).mono ?_)
          rintro e w5 ⟨hk5, rfl⟩
          refine RW.y (Y.cat (a := []) rfl rfl (by simp; omega)) rfl ?_
          have hz4 := hk4.size
          have hz5 := hk5.size
          have hzv := hkv.size
          refine RW.app1 rfl rfl rfl rfl (own_kept0 hoq (hk4.trans0 hk5)) rfl rfl rfl rfl (one_vs _) (by omega) (by omega) (by omega) (fun q' w6 how' hk6 hl6 => ?_)
          repeat' (first | (refine CL.region ?_) | (refine CL.done ?_) | (refine Nm.block ?_) | (refine Nm.then ?_) | (refine Gt.nil ?_; refine RW.nilw [0, 1, 2, 3, 5, 6, 8, 9, 11, 13, 14, 15, 16, 19, 20, 21, 22, 28] ?_; dsimp only [H.keep, H.look, H.Fr.put, Nat.beq]) | (refine Gt.move ?_; refine RW.y (Y.move rfl) rfl ?_) | (refine Gt.assign ?_; refine RW.y (Y.assign rfl) rfl ?_) | (refine Gt.add ?_; (refine RW.y (Y.add64 rfl rfl (by omega) (by omega)) rfl ?_)))
          exact ⟨L.length - (k + 1), _, rfl, rfl, rfl, by omega, k + 1, q', rfl, rfl, by omega, by rw [hst, bdT, if_pos hsg]; simpa [Value.cells] using how', ((hkv.trans0 hk4).trans0 hk5).trans hk6 fun g hg => .inr (hoq.lt g hg).1⟩
        · rename_i hsg
          refine RW.fn rfl rfl ((text _ y.1.v w4 ⟨y.2, rfl, hy4⟩ fy.2.fit (hT.keep0 (((hk1.trans0 hkr).trans0 hkv).trans0 hk4)) fy.2.2.1.2 fy.2.2.2.1.2 fy.2.2.2.2.2).mono ?_)
          rintro e w5 ⟨hk5, rfl⟩
          refine RW.y (Y.cat rfl rfl (by omega)) rfl ?_
          have hz4 := hk4.size
          have hz5 := hk5.size
          have hzv := hkv.size
          refine RW.app1 rfl rfl rfl rfl (own_kept0 hoq (hk4.trans0 hk5)) rfl rfl rfl rfl (one_vs _) (by omega) (by omega) (by omega) (fun q' w6 how' hk6 hl6 => ?_)
          repeat' (first | (refine CL.region ?_) | (refine CL.done ?_) | (refine Nm.block ?_) | (refine Nm.then ?_) | (refine Gt.nil ?_; refine RW.nilw [0, 1, 2, 3, 5, 6, 8, 9, 11, 13, 14, 15, 16, 19, 20, 21, 22, 28] ?_; dsimp only [H.keep, H.look, H.Fr.put, Nat.beq]) | (refine Gt.move ?_; refine RW.y (Y.move rfl) rfl ?_) | (refine Gt.assign ?_; refine RW.y (Y.assign rfl) rfl ?_) | (refine Gt.add ?_; (refine RW.y (Y.add64 rfl rfl (by omega) (by omega)) rfl ?_)))
          exact ⟨L.length - (k + 1), _, rfl, rfl, rfl, by omega, k + 1, q', rfl, rfl, by omega, by rw [hst, bdT, if_neg hsg]; simpa [Value.cells] using how', ((hkv.trans0 hk4).trans0 hk5).trans hk6 fun g hg => .inr (hoq.lt g hg).1⟩
      · have hk : k = L.length := by omega
        subst hk
        rw [List.take_length] at hoq
        have hmap : L.map (fun y => bdT y.1) = (R.getD i default).1.map bdT := by rw [← hL, List.map_map]; rfl
        rw [hmap] at hoq
        have hjl := listT_len fL
        have hlen : L.length = ((R.getD i default).1.map bdT).length := by rw [List.length_map, ← hL, List.length_map]
        rw [hlen] at hoq
        repeat' (first | (refine CL.seq ?_) | (refine CL.region ?_) | (refine CL.condP rfl (fun _ => ?_) (fun _ => ?_) <;> try (exfalso; omega)) | (refine CL.exit ?_) | (refine Ex.then ?_) | (refine Ex.hit ?_) | (refine Gt.nil ?_; refine RW.nilw [0, 1, 2, 3, 5, 6, 8, 9, 11, 13, 14, 15, 16, 19, 20, 21, 22, 28] ?_; dsimp only [H.keep, H.look, H.Fr.put, Nat.beq]) | (refine Gt.move ?_; refine RW.y (Y.move rfl) rfl ?_) | (refine Gt.lss ?_; refine RW.y (Y.lss rfl rfl) rfl ?_))
        refine RW.fn rfl rfl ((join _ _ [32] wv (Sl.of_own hoq) (by rw [← listT]; omega) (by omega)).mono ?_)
        rintro e w4 ⟨rfl, hk4⟩
        have hz4 := hk4.size
        have hzv := hkv.size
        have hzr := hkr.size
        refine RW.app1 rfl rfl rfl rfl (own_kept0 (own_kept0 how hkv) hk4) rfl rfl rfl rfl (one_vs _) (by omega) (by omega) (by omega) (fun u' w6 how' hk6 hl6 => ?_)
        repeat' (first | (refine CL.region ?_) | (refine CL.done ?_) | (refine Nm.block ?_) | (refine Nm.then ?_) | (refine Gt.nil ?_; refine RW.nilw [0, 1, 2, 3, 5, 6, 8, 9, 11, 13, 14, 15, 16, 19, 20, 21, 22, 28] ?_; dsimp only [H.keep, H.look, H.Fr.put, Nat.beq]) | (refine Gt.move ?_; refine RW.y (Y.move rfl) rfl ?_) | (refine Gt.assign ?_; refine RW.y (Y.assign rfl) rfl ?_) | (refine Gt.add ?_; (refine RW.y (Y.add64 rfl rfl (by omega) (by omega)) rfl ?_)))
        have hst : (R.take (i + 1)).map (fun y => listT y.1) = (R.take i).map (fun y => listT y.1) ++ [listT (R.getD i default).1] := by rw [take_snoc default R i hlt, List.map_append]; rfl
        exact ⟨R.length - (i + 1), _, rfl, rfl, rfl, by omega, i + 1, u', rfl, rfl, by omega, by rw [hst]; simpa [Value.cells, listT] using how', ((hkr.trans0 hkv).trans0 hk4).trans hk6 fun g hg => .inr (how.lt g hg).1⟩
    · have hi : i = R.length := by omega
      subst hi
      rw [List.take_length] at how
      have hmap : R.map (fun y => listT y.1) = s.or.map listT := by rw [hso, List.map_map]; rfl
      have hlen : R.length = (s.or.map listT).length := by rw [List.length_map, hso, List.length_map]
      rw [hmap, hlen] at how
      have hjl := orT_len fs
      repeat' (first | (refine CL.seq ?_) | (refine CL.region ?_) | (refine CL.condP rfl (fun _ => ?_) (fun _ => ?_) <;> try (exfalso; omega)) | (refine CL.exit ?_) | (refine Ex.then ?_) | (refine Ex.hit ?_) | (refine Gt.nil ?_; refine RW.nilw [0, 1, 2, 3, 5, 6, 8, 9, 11, 13, 14, 15, 16, 19, 20, 21, 22, 28] ?_; dsimp only [H.keep, H.look, H.Fr.put, Nat.beq]) | (refine Gt.move ?_; refine RW.y (Y.move rfl) rfl ?_) | (refine Gt.lss ?_; refine RW.y (Y.lss rfl rfl) rfl ?_))
      refine RW.fn rfl rfl ((join _ _ [32, 124, 124, 32] wr (Sl.of_own how) (by omega) (by omega)).mono ?_)
      rintro e w4 ⟨rfl, hk4⟩
      repeat' (first | (refine CL.ret ?_) | (refine Gt.nil ?_; refine RW.nilw [0, 1, 2, 3, 5, 6, 8, 9, 11, 13, 14, 15, 16, 19, 20, 21, 22, 28] ?_; dsimp only [H.keep, H.look, H.Fr.put, Nat.beq]) | (refine Gt.assign ?_; refine RW.y (Y.assign rfl) rfl ?_))
      refine FQ.one rfl rfl rfl ⟨(hk1.trans0 hkr).trans0 hk4, hret _ ?_⟩
      rw [spanT, if_neg (by rw [ha]; decide)]
  · rw [ha] at hb1'
    repeat' (first | (refine CL.seq ?_) | (refine CL.region ?_) | (refine CL.condT rfl ?_) | (refine CL.ret ?_) | (refine Gt.nil ?_; refine RW.nilw [0, 1, 2, 3, 5, 6, 8, 9, 11, 13, 14, 15, 16, 19, 20, 21, 22, 28] ?_; dsimp only [H.keep, H.look, H.Fr.put, Nat.beq]) | (refine Gt.assign ?_; refine RW.y (Y.assign rfl) rfl ?_) | (refine Gt.load ?_; (refine RW.y (Y.loadB rfl (by assumption) rfl) rfl ?_)) | (refine Gt.fieldAddr ?_; refine RW.y (Y.fieldAddr rfl (by rfl)) rfl ?_))
    refine FQ.one rfl rfl rfl ⟨hk1, hret _ ?_⟩
    rw [spanT, if_pos ha]
end Go.Proofs.YtjfdhafmbcppjaaGreatDoor.Sp

namespace Go.Proofs.YtjfdhafmbcppjaaGreatDoor.Sp
open Go.RowKit H S Ve
attribute [local irreducible] H.CL H.RW H.CW H.Yd H.thenK H.blockQ Go.Calls

theorem join_snoc' (sep : T) (l : List T) (x : T) : Go.Lib.join (l ++ [x]) sep = (if l.length = 0 then Go.Lib.join l sep else Go.Lib.join l sep ++ sep) ++ x := by
  rw [join_snoc]
  cases l with
  | nil => simp [Go.Lib.join_nil]
  | cons a r => simp

set_option maxHeartbeats 1000000 in
theorem refSpanText (X : Value) (s : Spn) (w : World) (hX : SpanAt w X s) (fs : FitT s) : Calls Tryz.prog 14 #[X] w fun e w' => K0 w w' ∧ e = .returned (vs (spanT s)) := by
  obtain ⟨p, rfl, R, hR, hs, hm⟩ := hX
  have k4 : ([32, 124, 124, 32] : T).length = 4 := rfl
  have k1 : ([32] : T).length = 1 := rfl
  refine H.enter Tryz.func14 Tryz.ntmps14 rfl rfl ?_; dsimp only [H.args]
  repeat' (first | (refine CL.seq ?_) | (refine CL.region ?_))
  refine RW.box rfl rfl (fun w1 hb1 hk1 hlt1 => ?_)
  have hb1' : w1.heap[w.heap.size]? = some (.cells #[.bool s.any, p] spnT (0, 0)) := hb1
  have hs1 := hs.keep0 hk1
  have hret : ∀ r : T, r = spanT s → Ending.returned (vs r) = .returned (vs (spanT s)) := fun r h => by rw [h]
  cases ha : s.any
  · rw [ha] at hb1'
    have hso : s.or = R.map (·.1) := hR.symm
    have hrl : R.length ≤ 20 := by have := fs.1; rw [hso, List.length_map] at this; exact this
    have hpre : ∀ i, (Go.Lib.join ((R.take i).map (fun y => listT y.1)) [32, 124, 124, 32]).length ≤ 1100000 := by
      intro i
      have := orT_len (o := (R.take i).map (·.1)) ⟨by rw [List.length_map, List.length_take]; omega, fun l hl => by
        obtain ⟨y, hy, rfl⟩ := List.mem_map.1 hl
        exact fs.2 _ (by rw [hso]; exact List.mem_map_of_mem (List.mem_of_mem_take hy))⟩
      rw [List.map_map] at this
      exact this
    repeat' (first | (refine CL.seq ?_) | (refine CL.region ?_) | (refine CL.skip ?_) | (refine CL.condF rfl ?_) | (refine CL.block ?_) | (refine Gt.nil ?_; refine RW.nilw [0, 1, 2, 3, 4, 5, 6, 8, 13, 17, 27, 31, 44] ?_; dsimp only [H.keep, H.look, H.Fr.put, Nat.beq]) | (refine Gt.assign ?_; refine RW.y (Y.assign rfl) rfl ?_) | (refine Gt.load ?_; (refine RW.y (Y.loadB rfl (by assumption) rfl) rfl ?_)) | (refine Gt.fieldAddr ?_; refine RW.y (Y.fieldAddr rfl (by rfl)) rfl ?_))
    refine CL.loopS [1, 3, 4] (fun m vals wr => ∃ (i : Nat), vals = [.pointer (some ⟨w.heap.size, 0, none⟩), vs (Go.Lib.join ((R.take i).map (fun y => listT y.1)) [32, 124, 124, 32]), .int .i64 (i : Int)] ∧ m = R.length - i ∧ i ≤ R.length ∧ K0 w1 wr) R.length ⟨_, rfl, 0, rfl, rfl, Nat.zero_le _, Kept.refl _ _⟩ ?_
    rintro m vals wr ⟨i, rfl, rfl, hi, hkr⟩
    dsimp only [List.zip, List.zipWith]
    have hsr := hs1.keep0 hkr
    have hbr := hkr.at0 hb1'
    have hpi := hpre i
    rcases Nat.lt_or_ge i R.length with hlt | hge
    · have hmem : R.getD i default ∈ R := getD_mem default hlt
      have fL := fs.2 (R.getD i default).1 (by rw [hso]; exact List.mem_map_of_mem hmem)
      obtain ⟨L, hL, hsL, hmL⟩ := (hm _ hmem).keep0 (hk1.trans0 hkr)
      have hLlen : L.length ≤ 20 := by have := fL.1; rw [← hL, List.length_map] at this; exact this
      have hti : ((i : Int)).toNat = i := Int.toNat_natCast i
      have hst : (R.take (i + 1)).map (fun y => listT y.1) = (R.take i).map (fun y => listT y.1) ++ [listT (R.getD i default).1] := by rw [take_snoc default R i hlt, List.map_append]; rfl
      have hsn : Go.Lib.join ((R.take (i + 1)).map (fun y => listT y.1)) [32, 124, 124, 32] = (if i = 0 then Go.Lib.join ((R.take i).map (fun y => listT y.1)) [32, 124, 124, 32] else Go.Lib.join ((R.take i).map (fun y => listT y.1)) [32, 124, 124, 32] ++ [32, 124, 124, 32]) ++ listT (R.getD i default).1 := by
        rw [hst, join_snoc', List.length_map, List.length_take, Nat.min_eq_left hi]
      have hlk : ∀ k, (Go.Lib.join ((L.take k).map (fun y => bdT y.1)) [32]).length ≤ 50000 := by
        intro k
        have := listT_len (l := (L.take k).map (·.1)) ⟨by rw [List.length_map, List.length_take]; omega, fun b hb => by
          obtain ⟨y, hy, rfl⟩ := List.mem_map.1 hb
          exact fL.2 _ (by rw [← hL]; exact List.mem_map_of_mem (List.mem_of_mem_take hy))⟩
        rw [listT, List.map_map] at this
        exact this
      generalize hacc : Go.Lib.join ((R.take i).map (fun y => listT y.1)) [32, 124, 124, 32] = acc at *
      repeat' (refine CL.seq ?_)
      refine CL.region ?_
      repeat' (first | (refine Gt.nil ?_; refine RW.nilw [0, 1, 2, 3, 4, 5, 6, 8, 13, 17, 27, 31, 44] ?_; dsimp only [H.keep, H.look, H.Fr.put, Nat.beq]) | (refine Gt.move ?_; refine RW.y (Y.move rfl) rfl ?_) | (refine Gt.load ?_; (refine RW.y (Y.loadB rfl (by assumption) rfl) rfl ?_)) | (refine Gt.fieldAddr ?_; refine RW.y (Y.fieldAddr rfl (by rfl)) rfl ?_) | (refine Gt.len ?_; (refine RW.y (Y.lenx rfl (by assumption)) rfl ?_)) | (refine Gt.lss ?_; refine RW.y (Y.lss rfl rfl) rfl ?_))
      refine CL.condP rfl (fun _ => ?_) (fun _ => ?_) <;> try (exfalso; omega)
      refine CL.skip ?_
      refine CL.seq ?_
      refine CL.block ?_
      refine CL.seq ?_
      refine CL.cutS [1, 3, 4] (fun vals wx => vals = [.pointer (some ⟨w.heap.size, 0, none⟩), vs (if i = 0 then acc else acc ++ [32, 124, 124, 32]), .int .i64 (i : Int)] ∧ wx = wr) (by simp) ?_ ?_
      · repeat' (first | (refine CL.seq ?_) | (refine CL.region ?_) | (refine CL.skip ?_) | (refine CL.condP rfl (fun _ => ?_) (fun _ => ?_) <;> try (exfalso; omega)) | (refine CL.done ?_) | (refine Nm.then ?_) | (refine Gt.nil ?_; refine RW.nilw [0, 1, 2, 3, 4, 5, 6, 8, 13, 17, 27, 31, 44] ?_; dsimp only [H.keep, H.look, H.Fr.put, Nat.beq]) | (refine Gt.move ?_; refine RW.y (Y.move rfl) rfl ?_) | (refine Gt.assign ?_; refine RW.y (Y.assign rfl) rfl ?_) | (refine Gt.add ?_; (refine RW.y (Y.cat rfl rfl (by omega)) rfl ?_)) | (refine Gt.gtr ?_; refine RW.y (Y.gtr rfl rfl) rfl ?_))
        · rename_i g1
          exact ⟨_, rfl, rfl, rfl, by rw [if_neg (by omega)], rfl⟩
        · rename_i g1
          exact ⟨_, rfl, rfl, rfl, by rw [if_pos (by omega)], rfl⟩
      rintro vals wx ⟨rfl, rfl⟩
      dsimp only [List.zip, List.zipWith]
      have hpl : (if i = 0 then acc else acc ++ [32, 124, 124, 32]).length ≤ 1100004 := by split <;> (try rw [List.length_append]) <;> omega
      generalize hpre' : (if i = 0 then acc else acc ++ [32, 124, 124, 32]) = pre at *
      rw [← hti] at hsL
      repeat' (first | (refine CL.seq ?_) | (refine CL.region ?_) | (refine CL.block ?_) | (refine Gt.nil ?_; refine RW.nilw [0, 1, 2, 3, 4, 5, 6, 8, 13, 17, 27, 31, 44] ?_; dsimp only [H.keep, H.look, H.Fr.put, Nat.beq]) | (refine Gt.assign ?_; refine RW.y (Y.assign rfl) rfl ?_))
      refine CL.loopS [1, 3, 4, 5] (fun m vals wv => ∃ (k : Nat), vals = [.pointer (some ⟨w.heap.size, 0, none⟩), vs (pre ++ Go.Lib.join ((L.take k).map (fun y => bdT y.1)) [32]), .int .i64 (i : Int), .int .i64 (k : Int)] ∧ m = L.length - k ∧ k ≤ L.length ∧ K0 wx wv) L.length ⟨_, rfl, 0, by rw [List.take_zero, List.map_nil, Go.Lib.join_nil, List.append_nil]; rfl, rfl, Nat.zero_le _, Kept.refl _ _⟩ ?_
      rintro m vals wv ⟨k, rfl, rfl, hk, hkv⟩
      dsimp only [List.zip, List.zipWith]
      have hsv := hsL.keep0 hkv
      have hsrv := hsr.keep0 hkv
      have hbv := hkv.at0 hbr
      have hlk' := hlk k
      rcases Nat.lt_or_ge k L.length with hkl | hkg
      · have hkm : L.getD k default ∈ L := getD_mem default hkl
        have hy := (hmL _ hkm).keep0 hkv
        have fy := fL.2 (L.getD k default).1 (by rw [← hL]; exact List.mem_map_of_mem hkm)
        have htl := textV_len fy.2
        have hsk : Go.Lib.join ((L.take (k + 1)).map (fun y => bdT y.1)) [32] = (if k = 0 then Go.Lib.join ((L.take k).map (fun y => bdT y.1)) [32] else Go.Lib.join ((L.take k).map (fun y => bdT y.1)) [32] ++ [32]) ++ bdT (L.getD k default).1 := by
          rw [take_snoc default L k hkl, List.map_append, List.map_singleton, join_snoc', List.length_map, List.length_take, Nat.min_eq_left hk]
        generalize hac2 : Go.Lib.join ((L.take k).map (fun y => bdT y.1)) [32] = ac2 at *
        repeat' (refine CL.seq ?_)
        refine CL.region ?_
        repeat' (first | (refine Gt.nil ?_; refine RW.nilw [0, 1, 2, 3, 4, 5, 6, 8, 13, 17, 27, 31, 44] ?_; dsimp only [H.keep, H.look, H.Fr.put, Nat.beq]) | (refine Gt.move ?_; refine RW.y (Y.move rfl) rfl ?_) | (refine Gt.load ?_; (refine RW.y (Y.loadB rfl (by assumption) rfl) rfl ?_)) | (refine Gt.fieldAddr ?_; refine RW.y (Y.fieldAddr rfl (by rfl)) rfl ?_) | (refine Gt.len ?_; (refine RW.y (Y.lenx rfl (by assumption)) rfl ?_)) | (refine Gt.lss ?_; refine RW.y (Y.lss rfl rfl) rfl ?_) | (refine Gt.idx ?_; (refine RW.elemM rfl rfl rfl rfl (by assumption) (by omega) (by omega) ?_)))
        refine CL.condP rfl (fun _ => ?_) (fun _ => ?_) <;> try (exfalso; omega)
        refine CL.skip ?_
        refine CL.seq ?_
        refine CL.block ?_
        refine CL.seq ?_
        refine CL.cutS [1, 3, 4, 5] (fun vals wx => vals = [.pointer (some ⟨w.heap.size, 0, none⟩), vs (pre ++ (if k = 0 then ac2 else ac2 ++ [32])), .int .i64 (i : Int), .int .i64 (k : Int)] ∧ wx = wv) (by simp) ?_ ?_
        · repeat' (first | (refine CL.seq ?_) | (refine CL.region ?_) | (refine CL.skip ?_) | (refine CL.condP rfl (fun _ => ?_) (fun _ => ?_) <;> try (exfalso; omega)) | (refine CL.done ?_) | (refine Nm.then ?_) | (refine Gt.nil ?_; refine RW.nilw [0, 1, 2, 3, 4, 5, 6, 8, 13, 17, 27, 31, 44] ?_; dsimp only [H.keep, H.look, H.Fr.put, Nat.beq]) | (refine Gt.move ?_; refine RW.y (Y.move rfl) rfl ?_) | (refine Gt.assign ?_; refine RW.y (Y.assign rfl) rfl ?_) | (refine Gt.add ?_; (refine RW.y (Y.cat rfl rfl (by (simp only [List.length_append, List.length_cons, List.length_nil]; omega))) rfl ?_)) | (refine Gt.gtr ?_; refine RW.y (Y.gtr rfl rfl) rfl ?_))
          · exact ⟨_, rfl, rfl, rfl, by rw [if_neg (by omega), List.append_assoc], rfl⟩
          · exact ⟨_, rfl, rfl, rfl, by rw [if_pos (by omega)], rfl⟩
        rintro vals wx' ⟨rfl, rfl⟩
        dsimp only [List.zip, List.zipWith]
        have hpl2 : (if k = 0 then ac2 else ac2 ++ [32]).length ≤ 50001 := by split <;> (try rw [List.length_append]) <;> omega
        generalize hpre2 : (if k = 0 then ac2 else ac2 ++ [32]) = pre2 at *
        repeat' (first | (refine CL.seq ?_) | (refine CL.region ?_) | (refine Gt.move ?_; refine RW.y (Y.move rfl) rfl ?_) | (refine Gt.load ?_; (refine RW.y (Y.loadB rfl (by assumption) rfl) rfl ?_)) | (refine Gt.fieldAddr ?_; refine RW.y (Y.fieldAddr rfl (by rfl)) rfl ?_) | (refine Gt.idx ?_; first | (refine RW.elemM rfl rfl rfl rfl (by assumption) (by omega) (by omega) ?_) | (refine RW.elemA rfl rfl rfl rfl (by assumption) (fun _ => by rfl) rfl (by omega) (by omega) (fun _ => ?_))))
        refine RW.varN (u := #[vs (L.getD k default).1.sign, .int .i64 (L.getD k default).1.v.a, .int .i64 (L.getD k default).1.v.b, .int .i64 (L.getD k default).1.v.c, (L.getD k default).2]) rfl rfl rfl (bdCells hy.one) rfl (fun w4 hb4 hk4 hlt4 => ?_)
        have hy4 := hy.keep0 hk4
        generalize L.getD k default = y at *
        repeat' (first | (refine CL.seq ?_) | (refine CL.region ?_) | (refine CL.condP rfl (fun _ => ?_) (fun _ => ?_) <;> try (exfalso; omega)) | (refine Gt.nil ?_; refine RW.nilw [0, 1, 2, 3, 4, 5, 6, 8, 13, 17, 27, 31, 44] ?_; dsimp only [H.keep, H.look, H.Fr.put, Nat.beq]) | (refine RW.y (Y.loadN (cs := [_, _, _, _]) rfl rfl (load4 hb4)) rfl ?_) | (refine Gt.move ?_; refine RW.y (Y.move rfl) rfl ?_) | (refine Gt.load ?_; (refine RW.y (Y.loadB rfl (by assumption) rfl) rfl ?_)) | (refine Gt.fieldAddr ?_; refine RW.y (Y.fieldAddr rfl (by rfl)) rfl ?_) | (refine Gt.eql ?_; refine RW.y (Y.eqs rfl rfl) rfl ?_))
        · rename_i hsg
          refine RW.fn rfl rfl ((refVText _ y.1.v w4 ⟨y.2, rfl, hy4⟩ fy.2.fit fy.2.2.1.2 fy.2.2.2.1.2 fy.2.2.2.2.2).mono ?_)
          rintro e w5 ⟨hk5, rfl⟩
          refine RW.y (Y.cat rfl rfl (by rw [List.length_append]; omega)) rfl ?_
          repeat' (first | (refine CL.region ?_) | (refine CL.done ?_) | (refine Nm.block ?_) | (refine Nm.then ?_) | (refine Gt.nil ?_; refine RW.nilw [0, 1, 2, 3, 4, 5, 6, 8, 13, 17, 27, 31, 44] ?_; dsimp only [H.keep, H.look, H.Fr.put, Nat.beq]) | (refine Gt.move ?_; refine RW.y (Y.move rfl) rfl ?_) | (refine Gt.assign ?_; refine RW.y (Y.assign rfl) rfl ?_) | (refine Gt.add ?_; (refine RW.y (Y.add64 rfl rfl (by omega) (by omega)) rfl ?_)))
          exact ⟨L.length - (k + 1), _, rfl, rfl, rfl, by omega, k + 1, by rw [hsk, bdT, if_pos hsg, List.nil_append, List.append_assoc]; rfl, rfl, by omega, (hkv.trans0 hk4).trans0 hk5⟩
        · rename_i hsg
          refine CL.draw (fun w' => K0 w4 w') (by kernel_rfl) (fun w5 hheap hk5 => ?_)
          have hS : K0 w4 w5 := hk5
          skip
          refine AW.take 0 rfl (by kernel_rfl) (by kernel_rfl) (by kernel_rfl) rfl (by assumption) (fun w hS => Y.move rfl) ?_
          refine AW.take 1 rfl (by kernel_rfl) (by kernel_rfl) (by kernel_rfl) rfl (by assumption) (fun w hS => Y.fieldAddr rfl (by rfl)) ?_
          refine AW.take 2 rfl (by kernel_rfl) (by kernel_rfl) (by kernel_rfl) rfl (by assumption) (fun w hS => Y.loadB rfl (hS.at0 hb4) rfl) ?_
          refine AW.take 3 rfl (by kernel_rfl) (by kernel_rfl) (by kernel_rfl) rfl (by assumption) (fun w hS => Y.cat rfl rfl (by rw [List.length_append]; omega)) ?_
          refine AW.take 4 rfl (by kernel_rfl) (by kernel_rfl) (by kernel_rfl) rfl (by assumption) (fun w hS => Y.fieldAddr rfl (by rfl)) ?_
          refine AW.take 5 rfl (by kernel_rfl) (by kernel_rfl) (by kernel_rfl) rfl (by assumption) (fun w hS => Y.loadN (cs := [_, _, _, _]) rfl rfl (load4 (hS.at0 hb4))) ?_
          refine AW.next 6 rfl (by kernel_rfl) ?_
          refine RW.fn rfl rfl ((refVText _ y.1.v w5 ⟨y.2, rfl, hy4.keep0 hk5⟩ fy.2.fit fy.2.2.1.2 fy.2.2.2.1.2 fy.2.2.2.2.2).mono ?_)
          rintro e w6 ⟨hk6, rfl⟩
          refine RW.nil (Nm.then (rebase0 hS hk6 fun hS => ?_))
          refine AW.take 7 rfl (by kernel_rfl) (by kernel_rfl) (by kernel_rfl) rfl (by assumption) (fun w hS => Y.cat rfl rfl (by rw [List.length_append, List.length_append]; omega)) ?_
          refine AW.take 8 rfl (by kernel_rfl) (by kernel_rfl) (by kernel_rfl) rfl (by assumption) (fun w hS => Y.assign rfl) ?_
          refine AW.donew [1, 3, 4, 5] (by kernel_rfl) ?_
          dsimp only [H.keep, H.look, H.Fr.put, Nat.beq]
          repeat' (first | (refine CL.region ?_) | (refine CL.done ?_) | (refine Nm.block ?_) | (refine Nm.then ?_) | (refine Gt.nil ?_; refine RW.nilw [0, 1, 2, 3, 4, 5, 6, 8, 13, 17, 27, 31, 44] ?_; dsimp only [H.keep, H.look, H.Fr.put, Nat.beq]) | (refine Gt.move ?_; refine RW.y (Y.move rfl) rfl ?_) | (refine Gt.assign ?_; refine RW.y (Y.assign rfl) rfl ?_) | (refine Gt.add ?_; (refine RW.y (Y.add64 rfl rfl (by omega) (by omega)) rfl ?_)))
          exact ⟨L.length - (k + 1), _, rfl, rfl, rfl, by omega, k + 1, by rw [hsk, bdT, if_neg hsg]; simp only [List.append_assoc]; rfl, rfl, by omega, ((hkv.trans0 hk4).trans0 hk5).trans0 hk6⟩
      · have hk : k = L.length := by omega
        subst hk
        rw [List.take_length] at *
        have hmap : L.map (fun y => bdT y.1) = (R.getD i default).1.map bdT := by rw [← hL, List.map_map]; rfl
        rw [hmap]
        repeat' (first | (refine CL.seq ?_) | (refine CL.region ?_) | (refine CL.condP rfl (fun _ => ?_) (fun _ => ?_) <;> try (exfalso; omega)) | (refine CL.exit ?_) | (refine Ex.then ?_) | (refine Ex.hit ?_) | (refine CL.done ?_) | (refine Nm.block ?_) | (refine Nm.then ?_) | (refine Gt.nil ?_; refine RW.nilw [0, 1, 2, 3, 4, 5, 6, 8, 13, 17, 27, 31, 44] ?_; dsimp only [H.keep, H.look, H.Fr.put, Nat.beq]) | (refine Gt.move ?_; refine RW.y (Y.move rfl) rfl ?_) | (refine Gt.assign ?_; refine RW.y (Y.assign rfl) rfl ?_) | (refine Gt.load ?_; (refine RW.y (Y.loadB rfl (by assumption) rfl) rfl ?_)) | (refine Gt.fieldAddr ?_; refine RW.y (Y.fieldAddr rfl (by rfl)) rfl ?_) | (refine Gt.add ?_; (refine RW.y (Y.add64 rfl rfl (by omega) (by omega)) rfl ?_)) | (refine Gt.len ?_; (refine RW.y (Y.lenx rfl (by assumption)) rfl ?_)) | (refine Gt.lss ?_; refine RW.y (Y.lss rfl rfl) rfl ?_) | (refine Gt.idx ?_; (refine RW.elemM rfl rfl rfl rfl (by assumption) (by omega) (by omega) ?_)))
        exact ⟨R.length - (i + 1), _, rfl, rfl, rfl, by omega, i + 1, by rw [hsn, listT]; rfl, rfl, by omega, hkr.trans0 hkv⟩
    · have hi : i = R.length := by omega
      subst hi
      repeat' (first | (refine CL.seq ?_) | (refine CL.region ?_) | (refine CL.condP rfl (fun _ => ?_) (fun _ => ?_) <;> try (exfalso; omega)) | (refine CL.exit ?_) | (refine Ex.then ?_) | (refine Ex.hit ?_) | (refine CL.ret ?_) | (refine Gt.nil ?_; refine RW.nilw [0, 1, 2, 3, 4, 5, 6, 8, 13, 17, 27, 31, 44] ?_; dsimp only [H.keep, H.look, H.Fr.put, Nat.beq]) | (refine Gt.move ?_; refine RW.y (Y.move rfl) rfl ?_) | (refine Gt.assign ?_; refine RW.y (Y.assign rfl) rfl ?_) | (refine Gt.load ?_; (refine RW.y (Y.loadB rfl (by assumption) rfl) rfl ?_)) | (refine Gt.fieldAddr ?_; refine RW.y (Y.fieldAddr rfl (by rfl)) rfl ?_) | (refine Gt.len ?_; (refine RW.y (Y.lenx rfl (by assumption)) rfl ?_)) | (refine Gt.lss ?_; refine RW.y (Y.lss rfl rfl) rfl ?_))
      refine FQ.one rfl rfl rfl ⟨hk1.trans0 hkr, hret _ ?_⟩
      rw [List.take_length, spanT, if_neg (by rw [ha]; decide), hso, List.map_map]
      rfl
  · rw [ha] at hb1'
    repeat' (first | (refine CL.seq ?_) | (refine CL.region ?_) | (refine CL.condT rfl ?_) | (refine CL.ret ?_) | (refine Gt.nil ?_; refine RW.nilw [0, 1, 2, 3, 4, 5, 6, 8, 13, 17, 27, 31, 44] ?_; dsimp only [H.keep, H.look, H.Fr.put, Nat.beq]) | (refine Gt.assign ?_; refine RW.y (Y.assign rfl) rfl ?_) | (refine Gt.load ?_; (refine RW.y (Y.loadB rfl (by assumption) rfl) rfl ?_)) | (refine Gt.fieldAddr ?_; refine RW.y (Y.fieldAddr rfl (by rfl)) rfl ?_))
    refine FQ.one rfl rfl rfl ⟨hk1, hret _ ?_⟩
    rw [spanT, if_pos ha]
end Go.Proofs.YtjfdhafmbcppjaaGreatDoor.Sp

namespace Go.Proofs.YtjfdhafmbcppjaaGreatDoor.H
open Go.RowKit

/-- What an iterator that yields the list xs does; T: what it reads besides, and what must hold behind each round. -/
def SeqT {α : Type} (P : Program) (gf : Nat) (cap : List Value) (enc : α → List Value) (S : Nat → Prop) (T : World → Prop) (Pre : World → Prop) (xs : List α) : Prop :=
  ∀ (l : Nat) (J Jx : List α → World → Prop) (W : World), Pre W → Abid S J → Abid S Jx → (∀ pre W, J pre W → T W) →
    (∀ pre x W1, J pre W1 → (pre ++ [x]) <+: xs → YieldAt Fence.wide 0 P l (enc x).toArray W1 fun e W' =>
      (e = .returned (.bool true) ∧ J (pre ++ [x]) W' ∧ Same S W1 W') ∨ (e = .returned (.bool false) ∧ Jx (pre ++ [x]) W')) →
    J [] W → Calls P gf (.func (.yield l) #[] #[] :: cap).toArray W fun e W' => (∃ v, e = .returned v) ∧ (J xs W' ∨ ∃ pre, Jx pre W')
section
variable {P : Program} {Q : Post} {cs : List Code} {f : Fr} {w : World}
theorem CL.rangeFuncT {α : Type} {g : Operand} {ps : List Nat} {assign body : Code} {gf : Nat} {cap : List Value} {enc : α → List Value} {S : Nat → Prop} {T : World → Prop} {Pre : World → Prop} {xs : List α} [he : Ent P gf]
    (hg : f.ev g = some (.func (.func gf) #[] cap.toArray)) (hseq : SeqT P gf cap enc S T Pre xs) (hpre : ∀ W, K0 w W → Pre W) (hps : ∀ x, (enc x).length = ps.length) (hpn : ∀ p ∈ ps, Nat.blt p f.n = true)
    (hS : ∀ k, S k → k < w.heap.size) (I : List α → World → Prop) (Ix : Option Nat → List α → World → Prop)
    (hI : Abid (fun k => S k ∨ k = w.heap.size ∨ k = w.heap.size + 1) I) (hIx : ∀ c, Abid (fun k => S k ∨ k = w.heap.size ∨ k = w.heap.size + 1) (Ix c)) (h0 : I [] w) (hT : ∀ pre W, I pre W → T W)
    (hround : ∀ l pre x W, I pre W → (pre ++ [x]) <+: xs → w.heap.size + 2 ≤ W.heap.size →
      CL (some (some l)) P (thenK (fun f1 W1 => W1 = W ∧ ∀ W2, I pre W2 → w.heap.size + 2 ≤ W2.heap.size → CL (some (some l)) P (RQ (fun k => S k ∨ k = w.heap.size ∨ k = w.heap.size + 1) I Ix (pre ++ [x]) W2) [body] f1 W2) (fun _ _ _ => False)) [assign] (Fr.puts ⟨f.n, [], f.e⟩ ps (enc x)) W)
    (hdone : ∀ W, I xs W → W.heap[w.heap.size]? = some (.deferred (some [])) → CL none P Q cs ⟨f.n, markOf w.heap.size :: f.ds, f.e⟩ W)
    (hstop : ∀ c pre W, Ix c pre W → W.heap[w.heap.size]? = some (.deferred (some [])) → match c with
      | none => Q .ret ⟨f.n, markOf w.heap.size :: f.ds, f.e⟩ W
      | some k => Q (.exit k) ⟨f.n, markOf w.heap.size :: f.ds, f.e⟩ W) :
    CL none P Q (.rangeFunc g ps.toArray assign body :: cs) f w := by
  intro a ha
  show Code.wp P _ _ a w
  refine (wpIn_wide (n := 0)).1 (wpIn_rangeFunc fun fn _ => ?_)
  have ha0 : Ag ⟨f.n, [], f.e⟩ { tmps := a.tmps, defers := [] } := ⟨ha.size, rfl, ha.slot⟩
  have ham : Ag ⟨f.n, markOf w.heap.size :: f.ds, f.e⟩ { a with defers := [markOf w.heap.size] ++ a.defers } := ⟨ha.size, by simp [ha.defers], ha.slot⟩
  have hga := ha.eval hg
  obtain ⟨rec, hrec⟩ : ∃ rec : LoopState → Option Code → Loop, rec = fun st pe => { state := st, pending := pe, fn, tmps := a.tmps, params := ps.toArray, assign, body, defers := w.heap.size } := ⟨_, rfl⟩
  obtain ⟨W1, hW1⟩ : ∃ W1, (w.alloc (.deferred (some []))).alloc (.loop (rec .ready none)) = W1 := ⟨_, rfl⟩
  have hL1 : W1.heap[w.heap.size + 1]? = some (.loop (rec .ready none)) := by
    rw [← hW1]; have := World.alloc_heap_new (w.alloc (.deferred (some []))) (.loop (rec .ready none)); rwa [World.size_alloc] at this
  have hK1 : W1.heap[w.heap.size]? = some (.deferred (some [])) := by
    rw [← hW1]; exact (Below.heap_alloc _ _ _ (by simp)).trans (World.alloc_heap_new w _)
  have hk1 : K0 w W1 := by rw [← hW1]; exact (Kept.alloc w _).trans0 (Kept.alloc _ _)
  have hI1 : I [] W1 := hI _ _ _ h0 hk1.of0
  refine ⟨w.heap.size + 1, [markOf w.heap.size], W1, { target := .fn (.func gf) cap.toArray, args := #[.func (.yield (w.heap.size + 1)) #[] #[]] }, W1, gf,
    #[.func (.yield (w.heap.size + 1)) #[] #[]] ++ cap.toArray, W1, ?_, ?_, ?_, ?_, ?_, ?_⟩
  · rw [← hW1, hrec]; exact run_enterLoop_outer _ _ _ _ _
  · simp only [resolve, hga]
    simp [go_sem]
  · intro _ _; trivial
  · simp [invoke, go_sem, he.out]
  · intro c; simp [Fence.wide] at c
  refine callsIn_wide.2 ?_
  have hargs : #[.func (.yield (w.heap.size + 1)) #[] #[]] ++ cap.toArray = (Value.func (.yield (w.heap.size + 1)) #[] #[] :: cap).toArray := by simp
  rw [hargs]
  have hput : ∀ {k : Nat}, k = w.heap.size + 1 → S k ∨ k = w.heap.size ∨ k = w.heap.size + 1 := fun h => .inr (.inr h)
  refine Calls.mono (hseq (w.heap.size + 1)
    (fun pre W => I pre W ∧ W.heap[w.heap.size + 1]? = some (.loop (rec .ready none)) ∧ W.heap[w.heap.size]? = some (.deferred (some [])))
    (fun pre W => ∃ c, Ix c pre W ∧ W.heap[w.heap.size + 1]? = some (.loop (rec .done (some (jumpOf c)))) ∧ W.heap[w.heap.size]? = some (.deferred (some [])))
    W1 (hpre _ hk1) ?_ ?_ (fun pre W h => hT pre W h.1) ?_ ⟨hI1, hL1, hK1⟩) ?_
  · rintro s A B ⟨h1, h2, h3⟩ hk
    exact ⟨hI _ _ _ h1 (hk.mono fun k h => .inl h), hk.at h2 (fun c => by have := hS _ c; omega), hk.at h3 (fun c => by have := hS _ c; omega)⟩
  · rintro s A B ⟨c, h1, h2, h3⟩ hk
    exact ⟨c, hIx _ _ _ _ h1 (hk.mono fun k h => .inl h), hk.at h2 (fun c => by have := hS _ c; omega), hk.at h3 (fun c => by have := hS _ c; omega)⟩
  · -- one round
    rintro pre x W ⟨hi, hl, hk⟩ hpf
    have hlt : w.heap.size + 1 < W.heap.size := (Array.getElem?_eq_some_iff.1 hl).1
    have hy := run_yield (P := P) (args := (enc x).toArray) hl (by rw [hrec]; simp [hps x])
    rw [hrec] at hy
    refine ⟨fn, _, assign, body, hy, roundIn_of_wpIn trivial ?_⟩
    have hag := Ag.puts ps (enc x) ha0 hpn
    have hw := CL.one (hround (w.heap.size + 1) pre x W hi hpf hlt) _ hag
    have hin : Rd1 (some (w.heap.size + 1)) = Fence.wide.inRound (w.heap.size + 1) := rfl
    have htm : (ps.toArray.zip (enc x).toArray).foldl (fun tmps (x : Tmp × Value) => match x with | (t, a) => tmps.setIfInBounds t a) a.tmps = (ps.zip (enc x)).foldl (fun t (x : Nat × Value) => t.setIfInBounds x.1 x.2) a.tmps := by
      rw [List.zip_toArray, List.foldl_toArray]
    rw [htm]
    refine wpIn_mono (show Code.wpIn (Fence.wide.inRound (w.heap.size + 1)) 0 P assign _ _ W from hw) ?_
    rintro e a1 W' ⟨f1, hf1, q⟩
    cases e with
    | normal =>
      obtain ⟨rfl, q⟩ := q
      refine ⟨_, run_beginRound hl (by rw [hrec]), ?_⟩
      obtain ⟨W2, hW2⟩ : ∃ W2, W'.putObj (w.heap.size + 1) (.loop { rec .ready none with state := .busy }) = W2 := ⟨_, rfl⟩
      have hl2 : W2.heap[w.heap.size + 1]? = some (.loop { rec .ready none with state := .busy }) := by rw [← hW2]; exact World.putObj_heap_same hlt
      have hk2 : W2.heap[w.heap.size]? = some (.deferred (some [])) := by rw [← hW2]; exact (World.putObj_heap_other (by omega)).trans hk
      have hkp2 : Kept (fun k => k = w.heap.size + 1) W' W2 := by rw [← hW2]; exact kept_putObj _ _ _
      have hi2 := hI _ _ _ hi (hkp2.mono fun k h => hput h)
      rw [hW2]
      have hb := CL.one (q W2 hi2 (by have := hkp2.size; omega)) a1 hf1
      refine wpIn_mono (show Code.wpIn (Fence.wide.inRound (w.heap.size + 1)) 0 P body _ _ W2 from hb) ?_
      have fin : ∀ (jump : Option Code) (W3 : World), Same (fun k => S k ∨ k = w.heap.size ∨ k = w.heap.size + 1) W2 W3 →
          ∃ W4, (Instr.endRound (w.heap.size + 1) jump).run P W3 = .ok (.bool jump.isNone) W4 ∧ Kept (fun k => k = w.heap.size + 1) W3 W4 ∧
          W4.heap[w.heap.size + 1]? = some (.loop (rec (if jump.isNone then .ready else .done) jump)) ∧ W4.heap[w.heap.size]? = some (.deferred (some [])) ∧ Same S W' W4 := fun jump W3 hs3 => by
        have hl3 := (hs3.2 _ (.inr (.inr rfl))).trans hl2
        have hk3 := (hs3.2 _ (.inr (.inl rfl))).trans hk2
        have := run_endRound (P := P) jump hl3
        rw [hrec] at this ⊢
        refine ⟨_, this, kept_putObj _ _ _, World.putObj_heap_same (Array.getElem?_eq_some_iff.1 hl3).1, (World.putObj_heap_other (by omega)).trans hk3, ?_⟩
        have hne : ∀ k, S k → k ≠ w.heap.size + 1 := fun k hk => by have := hS k hk; omega
        refine ⟨by have h1 := hkp2.size; have h2 := hs3.1; simp; omega, fun k hk => ?_⟩
        rw [World.putObj_heap_other (hne k hk), hs3.2 k (.inl hk), ← hW2, World.putObj_heap_other (hne k hk)]
      rintro e a3 W3 ⟨f3, hf3, hp⟩
      cases e with
      | normal =>
        obtain ⟨hs3, hi3⟩ := hp
        obtain ⟨W4, hr, hk4, hl4, hd4, hs4⟩ := fin none W3 hs3
        exact ⟨_, _, hr, .inl ⟨rfl, ⟨hI _ _ _ hi3 (hk4.mono fun k h => hput h), hl4, hd4⟩, hs4⟩⟩
      | ret =>
        obtain ⟨hs3, hi3⟩ := hp
        obtain ⟨W4, hr, hk4, hl4, hd4, hs4⟩ := fin (some .ret) W3 hs3
        exact ⟨_, _, hr, .inr ⟨rfl, none, hIx _ _ _ _ hi3 (hk4.mono fun k h => hput h), hl4, hd4⟩⟩
      | exit k =>
        obtain ⟨hs3, hi3⟩ := hp
        obtain ⟨W4, hr, hk4, hl4, hd4, hs4⟩ := fin (some (.exit k)) W3 hs3
        exact ⟨_, _, hr, .inr ⟨rfl, some k, hIx _ _ _ _ hi3 (hk4.mono fun k h => hput h), hl4, hd4⟩⟩
      | goto t => exact hp.elim
      | panic ch => exact hp.elim
      | outgrown => exact hp.elim
    | _ => exact q.elim
  · -- behind the iterator
    rintro e W2 ⟨⟨v, rfl⟩, (⟨hi, hl, hk⟩ | ⟨pre, c, hi, hl, hk⟩)⟩
    · have hend := run_endLoop (P := P) hl (by rw [hrec]; simp)
      rw [hrec] at hend
      exact ⟨none, _, hend, ⟨_, ham, hdone _ (hI _ _ _ hi ((kept_putObj _ _ _).mono fun k h => hput h)) ((World.putObj_heap_other (by omega)).trans hk)⟩⟩
    · have hend : (Instr.endLoop (w.heap.size + 1)).run P W2 = .ok (some (jumpOf c)) (W2.putObj (w.heap.size + 1) (.loop { rec .done (some (jumpOf c)) with state := .exhausted })) := by
        have := run_endLoop (P := P) hl (by rw [hrec]; simp)
        rw [this, hrec]
      have hIx4 := hIx c _ _ _ hi ((kept_putObj W2 (w.heap.size + 1) (.loop { rec .done (some (jumpOf c)) with state := .exhausted })).mono fun k h => hput h)
      have hd4 : (W2.putObj (w.heap.size + 1) (.loop { rec .done (some (jumpOf c)) with state := .exhausted })).heap[w.heap.size]? = some (.deferred (some [])) := (World.putObj_heap_other (by omega)).trans hk
      have hs := hstop c pre _ hIx4 hd4
      refine ⟨some (jumpOf c), _, hend, ?_⟩
      cases c with
      | none => exact wpIn_ret ⟨_, ham, hs⟩
      | some k => exact wpIn_exit ⟨_, ham, hs⟩

end
end Go.Proofs.YtjfdhafmbcppjaaGreatDoor.H

namespace Go.Proofs.YtjfdhafmbcppjaaGreatDoor.S
open Go.RowKit H
attribute [local irreducible] H.CL H.RW H.CW H.Yd H.thenK H.blockQ Go.Calls

set_option maxHeartbeats 1000000 in
theorem splitIt2T (l : List UInt8) (hl : l.length ≤ 1000000) (bs bt bv : Nat) (h1 : bt ≠ bs) (h2 : bt ≠ bv) :
    SeqT Tryz.prog 81 [.pointer (some ⟨bs, 0, none⟩), .pointer (some ⟨bt, 0, none⟩), .pointer (some ⟨bv, 0, none⟩)] (fun x : List UInt8 => [vs x]) (fun k => k = bs ∨ k = bt ∨ k = bv) Ml (Sp2 l bs bt bv) (Sp.orB l) := by
  intro r J Jx W hpre hJ hJx hJT hy h0
  obtain ⟨hbs, hbt, hbv, hM⟩ := hpre
  have hc2 : ([124, 124] : List UInt8).length = 2 := rfl
  have hcs : ∀ {k}, k = bt → k = bs ∨ k = bt ∨ k = bv := fun h => .inr (.inl h)
  refine H.enterI Tryz.func81 Tryz.ntmps81 rfl rfl ?_; dsimp only [H.args]
  repeat' (first | (refine CL.seq ?_) | (refine CL.region ?_) | (refine CL.skip ?_) | (refine CL.condP rfl (fun _ => ?_) (fun _ => ?_) <;> try (exfalso; omega)) | (refine CL.block ?_) | (refine Gt.nil ?_; refine RW.nilw [0, 1, 2, 3, 6, 7, 8, 11, 14, 25, 33, 42] ?_; dsimp only [H.keep, H.look, H.Fr.put, Nat.beq]) | (refine Gt.load ?_; refine RW.y (Y.loadB rfl (by assumption) rfl) rfl ?_) | (refine Gt.len ?_; refine RW.y (Y.lens rfl) rfl ?_) | (refine Gt.eql ?_; refine RW.y (Y.eqi rfl rfl) rfl ?_))
  refine CL.loopS [0, 1, 2, 3] (fun m vals wr => ∃ (done : List (List UInt8)) (rest : List UInt8), vals = [.func (.yield r) #[] #[], .pointer (some ⟨bs, 0, none⟩), .pointer (some ⟨bt, 0, none⟩), .pointer (some ⟨bv, 0, none⟩)] ∧ m = rest.length ∧ Sp.orB l = done ++ Sp.orB rest ∧ rest.length ≤ l.length ∧ J done wr ∧ Sp2 rest bs bt bv wr) l.length ⟨_, rfl, [], l, rfl, rfl, rfl, Nat.le_refl _, h0, hbs, hbt, hbv, hM⟩ ?_
  rintro m vals wr ⟨done, rest, rfl, rfl, hsp, hrl, hJ1, hbs1, hbt1, hbv1, hM1⟩
  dsimp only [List.zip, List.zipWith]
  repeat' (first | (refine CL.seq ?_) | (refine CL.region ?_) | (refine CL.block ?_) | (refine Gt.load ?_; refine RW.y (Y.loadB rfl (by assumption) rfl) rfl ?_))
  refine RW.fn rfl rfl ((index2 rest (by omega) wr hM1).mono ?_)
  rintro e w1 ⟨rfl, rfl⟩
  rcases Sp.orB_index rest with ⟨hi, hs⟩ | ⟨m, hi, hm, hs⟩
  · rw [hi]
    repeat' (first | (refine CL.seq ?_) | (refine CL.region ?_) | (refine CL.condP rfl (fun _ => ?_) (fun _ => ?_) <;> try (exfalso; omega)) | (refine CL.exit ?_) | (refine Ex.then ?_) | (refine Ex.hit ?_) | (refine Ex.miss rfl ?_) | (refine Gt.nil ?_; refine RW.nilw [0, 1, 2, 3, 6, 7, 8, 11, 14, 25, 33, 42] ?_; dsimp only [H.keep, H.look, H.Fr.put, Nat.beq]) | (refine Gt.load ?_; refine RW.y (Y.loadB rfl (by assumption) rfl) rfl ?_) | (refine Gt.move ?_; refine RW.y (Y.move rfl) rfl ?_) | (refine Gt.assign ?_; refine RW.y (Y.assign rfl) rfl ?_) | (refine Gt.lss ?_; refine RW.y (Y.lss rfl rfl) rfl ?_))
    refine RW.yield rfl rfl rfl (hy done rest wr hJ1 ?_) ?_
    · rw [hsp, hs]; exact List.prefix_rfl
    rw [hs] at hsp
    rintro e w2 (⟨rfl, hJ2, hs2⟩ | ⟨rfl, hJx2⟩)
    · repeat' (first | (refine CL.done ?_) | (refine Gt.nil ?_; refine RW.nilw [0, 1, 2, 3, 6, 7, 8, 11, 14, 25, 33, 42] ?_; dsimp only [H.keep, H.look, H.Fr.put, Nat.beq]))
      exact FQ.norm (FQ.none rfl rfl ⟨⟨_, rfl⟩, .inl (by rw [hsp]; exact hJ2)⟩)
    · repeat' (first | (refine CL.done ?_) | (refine Gt.nil ?_; refine RW.nilw [0, 1, 2, 3, 6, 7, 8, 11, 14, 25, 33, 42] ?_; dsimp only [H.keep, H.look, H.Fr.put, Nat.beq]))
      exact FQ.norm (FQ.none rfl rfl ⟨⟨_, rfl⟩, .inr ⟨_, hJx2⟩⟩)
  · rw [hi]
    repeat' (first | (refine CL.seq ?_) | (refine CL.region ?_) | (refine CL.skip ?_) | (refine CL.condP rfl (fun _ => ?_) (fun _ => ?_) <;> try (exfalso; omega)) | (refine Gt.nil ?_; refine RW.nilw [0, 1, 2, 3, 6, 7, 8, 11, 14, 25, 33, 42] ?_; dsimp only [H.keep, H.look, H.Fr.put, Nat.beq]) | (refine Gt.load ?_; refine RW.y (Y.loadB rfl (by assumption) rfl) rfl ?_) | (refine Gt.move ?_; refine RW.y (Y.move rfl) rfl ?_) | (refine Gt.assign ?_; refine RW.y (Y.assign rfl) rfl ?_) | (refine Gt.slice ?_; (refine RW.y (Y.cuth rfl rfl (by omega) (by omega)) rfl ?_)) | (refine Gt.add ?_; refine RW.y (Y.add64 rfl rfl (by omega) (by omega)) rfl ?_) | (refine Gt.lss ?_; refine RW.y (Y.lss rfl rfl) rfl ?_))
    have hn1 : ((m : Int) + 0).toNat = m := by omega
    rw [hn1]
    refine RW.yield rfl rfl rfl (hy done (rest.take m) wr hJ1 ?_) ?_
    · rw [hsp, hs]; exact ⟨Sp.orB (rest.drop (m + 2)), by simp⟩
    rintro e w2 (⟨rfl, hJ2, hs2⟩ | ⟨rfl, hJx2⟩)
    · have hbs2 := (hs2.2 bs (.inl rfl)).trans hbs1
      have hbt2 := (hs2.2 bt (.inr (.inl rfl))).trans hbt1
      have hbv2 := (hs2.2 bv (.inr (.inr rfl))).trans hbv1
      have hM2 : Ml w2 := hJT _ _ hJ2
      repeat' (first | (refine CL.region ?_) | (refine CL.skip ?_) | (refine CL.condF rfl ?_) | (refine Gt.nil ?_; refine RW.nilw [0, 1, 2, 3, 6, 7, 8, 11, 14, 25, 33, 42] ?_; dsimp only [H.keep, H.look, H.Fr.put, Nat.beq]) | (refine Gt.load ?_; refine RW.y (Y.loadB rfl (by assumption) rfl) rfl ?_) | (refine Gt.move ?_; refine RW.y (Y.move rfl) rfl ?_) | (refine Gt.len ?_; refine RW.y (Y.lens rfl) rfl ?_) | (refine Gt.slice ?_; (refine RW.y (Y.cutl rfl rfl (by omega) (by omega)) rfl ?_)) | (refine Gt.not ?_; (refine RW.y (Y.notb rfl) rfl ?_)) | (refine Gt.add ?_; refine RW.y (Y.add64 rfl rfl (by omega) (by omega)) rfl ?_))
      refine RW.storeB rfl rfl rfl hbt2 (by simp) (fun w3 hbt3 hk3 => ?_)
      repeat' (first | (refine CL.done ?_) | (refine Nm.block ?_) | (refine Nm.then ?_) | (refine Gt.nil ?_; refine RW.nilw [0, 1, 2, 3, 6, 7, 8, 11, 14, 25, 33, 42] ?_; dsimp only [H.keep, H.look, H.Fr.put, Nat.beq]))
      have hn2 : ((m : Int) + (([124, 124] : List UInt8).length : Int)).toNat = m + 2 := by rw [hc2]; omega
      rw [hn2] at hbt3
      have hJ3 := hJ _ _ _ hJ2 (hk3.mono fun k h => hcs h)
      have hM3 : Ml w3 := hJT _ _ hJ3
      refine ⟨(rest.drop (m + 2)).length, _, rfl, rfl, rfl, by rw [List.length_drop]; omega, done ++ [rest.take m], rest.drop (m + 2), rfl, rfl, by rw [hsp, hs]; simp, by rw [List.length_drop]; omega, hJ _ _ _ hJ2 (hk3.mono fun k h => hcs h), hk3.at hbs2 (fun h => h1 h.symm), hbt3, hk3.at hbv2 (fun h => h2 h.symm), hM3⟩
    · repeat' (first | (refine CL.condT rfl ?_) | (refine CL.ret ?_) | (refine Rt.then ?_) | (refine Rt.block ?_) | (refine Gt.nil ?_; refine RW.nilw [0, 1, 2, 3, 6, 7, 8, 11, 14, 25, 33, 42] ?_; dsimp only [H.keep, H.look, H.Fr.put, Nat.beq]) | (refine Gt.not ?_; (refine RW.y (Y.notb rfl) rfl ?_)))
      exact FQ.none rfl rfl ⟨⟨_, rfl⟩, .inr ⟨_, hJx2⟩⟩

end Go.Proofs.YtjfdhafmbcppjaaGreatDoor.S

namespace Go.Proofs.YtjfdhafmbcppjaaGreatDoor.H
open Go.RowKit
section
variable {P : Program} {f : Fr} {w : World}
theorem MQ.res {fn : Func} {R : Ending → World → Prop} {rs : List ResultVar} {vs : List Value} (hr : fn.results = rs.toArray) (hd : f.ds = []) (h : RS P f w rs vs) (hn : Nat.beq vs.length 1 = false) (hR : R (.returned (.tuple vs.toArray)) w) : MQ P fn R .ret f w :=
  .inl ⟨hd, _, fun a ha => by rw [results_list hr h ha, dif_neg (by intro c; rw [List.size_toArray] at c; rw [c] at hn; cases hn)], hR⟩
theorem MQ.resD {fn : Func} {R : Ending → World → Prop} {rs : List ResultVar} {D : Nat} (hr : fn.results = rs.toArray) (hd : f.ds = [markOf D]) (hD : w.heap[D]? = some (.deferred (some [])))
    (h : ∀ w', Kept (fun k => k = D) w w' → ∃ vs, RS P f w' rs vs ∧ Nat.beq vs.length 1 = false ∧ R (.returned (.tuple vs.toArray)) w') : MQ P fn R .ret f w :=
  .inr ⟨D, hd, hD, fun w' hk' => by
    obtain ⟨vs, h1, h2, h3⟩ := h w' hk'
    exact ⟨_, fun a ha => by rw [results_list hr h1 ha, dif_neg (by intro c; rw [List.size_toArray] at c; rw [c] at h2; cases h2)], h3⟩⟩
end
end Go.Proofs.YtjfdhafmbcppjaaGreatDoor.H

namespace Go.Proofs.YtjfdhafmbcppjaaGreatDoor.Sp
open Go.RowKit H S Ve
attribute [local irreducible] H.CL H.RW H.CW H.Yd H.thenK H.blockQ Go.Calls

abbrev ernT : TypeId := 26
structure PaI (w : World) (b2 b3 b4 B : Nat) (pre : List T) (acc : List (List Bd)) (q : Value) (W : World) : Prop where
  go : ∀ r, rdP (pre ++ r) [] = rdP r acc
  bd : acc.length ≤ 8
  c2 : W.heap[b2]? = some (.cells #[.bool false, .slice none 0 0] spnT (0, 0))
  c3 : W.heap[b3]? = some (.cells #[.int .i64 0] ernT (0, 0))
  c4 : W.heap[b4]? = some (.cells #[.bool false, q] spnT (0, 0))
  row : OI W B q acc
  ml : Ml W
  kept : K0 w W
structure PaX (w : World) (b2 b3 : Nat) (xs : List T) (W : World) : Prop where
  go : rdP xs [] = none
  c2 : W.heap[b2]? = some (.cells #[.bool false, .slice none 0 0] spnT (0, 0))
  c3 : W.heap[b3]? = some (.cells #[.int .i64 61] ernT (0, 0))
  kept : K0 w W
theorem PaI.keep {w : World} {b2 b3 b4 B : Nat} {pre : List T} {acc : List (List Bd)} {q : Value} {W W' : World} (h : PaI w b2 b3 b4 B pre acc q W) {S : Nat → Prop} (k : Kept S W W') (hm : Ml w) (hS : ∀ k, S k → w.heap.size ≤ k ∧ k ≠ b2 ∧ k ≠ b3 ∧ k ≠ b4 ∧ k < B) : PaI w b2 b3 b4 B pre acc q W' where
  go := h.go
  bd := h.bd
  c2 := k.at h.c2 fun c => (hS _ c).2.1 rfl
  c3 := k.at h.c3 fun c => (hS _ c).2.2.1 rfl
  c4 := k.at h.c4 fun c => (hS _ c).2.2.2.1 rfl
  row := h.row.keep k fun g hg _ c => by have := (hS g c).2.2.2.2; omega
  ml := h.ml.keep k fun c => by have := (hS _ c).1; have := hm.lt; omega
  kept := h.kept.trans k fun k c => .inr (hS k c).1
theorem PaX.keep {w : World} {b2 b3 : Nat} {xs : List T} {W W' : World} (h : PaX w b2 b3 xs W) {S : Nat → Prop} (k : Kept S W W') (hS : ∀ k, S k → w.heap.size ≤ k ∧ k ≠ b2 ∧ k ≠ b3) : PaX w b2 b3 xs W' where
  go := h.go
  c2 := k.at h.c2 fun c => (hS _ c).2.1 rfl
  c3 := k.at h.c3 fun c => (hS _ c).2.2 rfl
  kept := h.kept.trans k fun k c => .inr (hS k c).1
theorem rdP_none : ∀ (xs r : List T) (acc : List (List Bd)), rdP xs acc = none → rdP (xs ++ r) acc = none := by
  intro xs
  induction xs with
  | nil => intro r acc h; simp [rdP] at h
  | cons x xs ih =>
    intro r acc h
    rw [List.cons_append, rdP]
    rw [rdP] at h
    split
    · rfl
    · rename_i h8
      rw [if_neg h8] at h
      cases hb : listB x with
      | none => rfl
      | some b => rw [hb] at h; exact ih r _ h

set_option maxHeartbeats 2000000 in
theorem parseS (s : T) (hl : s.length ≤ 1000000) (w : World) (hM : Ml w) : Calls Tryz.prog 10 #[vs s] w fun e w' => K0 w w' ∧ ∃ V, e = .returned (.tuple #[V, .int .i64 (spanR (spanB s)).2]) ∧ SpanNew w.heap.size w' V (spanR (spanB s)).1 := by
  refine H.enterM Tryz.func10 Tryz.ntmps10 rfl rfl ?_; dsimp only [H.args]
  refine CL.seq ?_
  refine CL.region ?_
  refine RW.alloc rfl (fun w1 hb1 hk1 hlt1 => ?_)
  refine RW.alloc rfl (fun w2 hb2 hk2 hlt2 => ?_)
  have c2 := hk2.at0 hb1
  have hz1 := hk1.size
  have hz2 := hk2.size
  repeat' (first | (refine CL.seq ?_) | (refine CL.region ?_) | (refine Gt.nil ?_; refine RW.nilw [0, 2, 3, 4, 5, 6, 7, 9, 10, 11, 14, 17, 18, 34, 36, 37, 38, 39, 48] ?_; dsimp only [H.keep, H.look, H.Fr.put, Nat.beq]) | (refine Gt.move ?_; refine RW.y (Y.move rfl) rfl ?_))
  refine RW.fn rfl rfl ((trim s 32 (by decide) (by omega) w2).mono ?_)
  rintro e w3 ⟨hk3, rfl⟩
  have hz3 := hk3.size
  have d2 := hk3.at0 c2
  have d3 := hk3.at0 hb2
  have hK3 := (hk1.trans0 hk2).trans0 hk3
  have htr := trim_star s
  repeat' (first | (refine CL.seq ?_) | (refine CL.region ?_) | (refine CL.skip ?_) | (refine CL.condP rfl (fun _ => ?_) (fun _ => ?_) <;> try (exfalso; omega)) | (refine Gt.nil ?_; refine RW.nilw [0, 2, 3, 4, 5, 6, 7, 9, 10, 11, 14, 17, 18, 34, 36, 37, 38, 39, 48] ?_; dsimp only [H.keep, H.look, H.Fr.put, Nat.beq]) | (refine RW.y (Y.build (ps := [(0, _)]) (l := [_]) (c := #[.bool true, .slice none 0 0]) rfl rfl) rfl ?_) | (refine Gt.eql ?_; (refine RW.y (Y.eqs rfl rfl) rfl ?_)))
  · rename_i hst
    have hsp : spanB s = some ⟨true, []⟩ := by rw [spanB, if_pos (htr.1 hst)]
    rw [hsp]
    simp only [spanR]
    refine RW.storeBlock rfl rfl rfl (spnCells rfl) d2 rfl (fun w4 hb4 hk4 => ?_)
    have d34 := hk4.at d3 (fun c => by have c' : w1.heap.size = w.heap.size := c; omega)
    refine RW.storeB rfl rfl rfl d34 (by decide) (fun w5 hb5 hk5 => ?_)
    have hb45 := hk5.at hb4 (fun c => by have c' : w.heap.size = w1.heap.size := c; omega)
    repeat' (first | (refine CL.ret ?_) | (refine Gt.nil ?_; refine RW.nilw [0, 2, 3, 4, 5, 6, 7, 9, 10, 11, 14, 17, 18, 34, 36, 37, 38, 39, 48] ?_; dsimp only [H.keep, H.look, H.Fr.put, Nat.beq]))
    refine MQ.res (rs := [.cell 2 spnT, .cell 3 ernT]) (vs := [_, _]) rfl rfl ⟨⟨_, rfl, load_block hb45 rfl⟩, ⟨_, rfl, load_block1 hb5⟩, trivial⟩ rfl ⟨(hK3.trans hk4 fun k h => .inr (by have h' : k = w.heap.size := h; omega)).trans hk5 fun k h => .inr (by have h' : k = w1.heap.size := h; omega), _, rfl, _, rfl, OrNew.nil _ _⟩
  rename_i hst
  have hns : ¬ wordsB s = [[42]] := fun h => hst (htr.2 h)
  have hsp : spanB s = (rdP (orB s) []).map (⟨false, ·⟩) := by rw [spanB_P, if_neg hns]
  refine RW.alloc rfl (fun w4 hb4 hk4 hlt4 => ?_)
  have hz4 := hk4.size
  repeat' (first | (refine CL.seq ?_) | (refine CL.region ?_) | (refine Gt.nil ?_; refine RW.nilw [0, 2, 3, 4, 5, 6, 7, 9, 10, 11, 14, 17, 18, 34, 36, 37, 38, 39, 48] ?_; dsimp only [H.keep, H.look, H.Fr.put, Nat.beq]) | (refine Gt.move ?_; refine RW.y (Y.move rfl) rfl ?_))
  refine RW.fn rfl rfl ((splitSeq2 s w4 (hM.keep0 (hK3.trans0 hk4))).mono ?_)
  rintro e w5 ⟨hk5, bs, bt, bv, rfl, n1, n2, g1, g2, g3, l1, l2, l3, hsp2⟩
  have hz5 := hk5.size
  have hK5 : K0 w w5 := (hK3.trans0 hk4).trans0 hk5
  have hk45 := hk4.trans0 hk5
  repeat' (first | (refine CL.block ?_) | (refine Gt.nil ?_; refine RW.nilw [0, 2, 3, 4, 5, 6, 7, 9, 10, 11, 14, 17, 18, 34, 36, 37, 38, 39, 48] ?_; dsimp only [H.keep, H.look, H.Fr.put, Nat.beq]))
  have hSk : ∀ k, ((k = bs ∨ k = bt ∨ k = bv) ∨ k = w5.heap.size ∨ k = w5.heap.size + 1) → w.heap.size ≤ k ∧ k ≠ w.heap.size ∧ k ≠ w1.heap.size ∧ k ≠ w3.heap.size ∧ k < w5.heap.size + 2 := fun k h => by omega
  refine CL.rangeFuncT (ps := [18]) (cap := [_, _, _]) rfl (splitIt2T s hl bs bt bv n1 n2) (fun W k => ⟨k.at0 hsp2.1, k.at0 hsp2.2.1, k.at0 hsp2.2.2.1, hsp2.2.2.2.keep0 k⟩) (fun _ => rfl) (fun p hp => by rw [List.mem_singleton.1 hp]; rfl) (by rintro k (h | h | h) <;> omega)
    (fun pre W => ∃ acc q, PaI w w.heap.size w1.heap.size w3.heap.size (w5.heap.size + 2) pre acc q W)
    (fun c pre W => c = none ∧ PaX w w.heap.size w1.heap.size (orB s) W)
    (fun _ _ _ ⟨acc, q, h⟩ k => ⟨acc, q, h.keep k hM hSk⟩) (fun c _ _ _ ⟨hc, h⟩ k => ⟨hc, h.keep k fun k hk => ⟨(hSk k hk).1, (hSk k hk).2.1, (hSk k hk).2.2.1⟩⟩)
    ⟨[], _, fun _ => rfl, by simp, hk45.at0 d2, hk45.at0 d3, hk5.at0 hb4, OI.nil _ _, hM.keep0 hK5, hK5⟩ (fun pre W ⟨acc, q, h⟩ => h.ml) ?_ ?_ ?_
  · rintro l pre x W hI hpx hsz
    dsimp only [Fr.puts, Fr.put]
    repeat' (first | (refine CL.region ?_) | (refine CL.done ?_) | (refine Nm.then ?_) | (refine Gt.nil ?_; refine RW.nilw [0, 2, 3, 4, 5, 6, 7, 9, 10, 11, 14, 17, 18, 34, 36, 37, 38, 39, 48] ?_; dsimp only [H.keep, H.look, H.Fr.put, Nat.beq]) | (refine Gt.assign ?_; refine RW.y (Y.assign rfl) rfl ?_))
    refine ⟨rfl, ?_⟩
    clear hI hsz W
    rintro W ⟨acc, q, hI⟩ hsz
    obtain ⟨hgo, hbd, i2, i3, i4, irow, iml, ikept⟩ := id hI
    obtain ⟨tl, htl⟩ := hpx
    have hgo1 : ∀ r, rdP (pre ++ [x] ++ r) [] = rdP (x :: r) acc := fun r => by rw [List.append_assoc]; exact hgo _
    have hxs : x.length ≤ 1000000 := Nat.le_trans (orB_mem s x (by rw [← htl]; simp)) hl
    have hfail : rdP [x] acc = none → rdP (orB s) [] = none := fun h => by rw [← htl, hgo1]; exact rdP_none [x] tl acc h
    obtain ⟨xs, isl⟩ := irow.sl
    repeat' (first | (refine CL.seq ?_) | (refine CL.region ?_) | (refine CL.block ?_) | (refine Gt.move ?_; refine RW.y (Y.move rfl) rfl ?_))
    refine RW.fn rfl rfl ((fields x hxs W).mono ?_)
    rintro e w6 ⟨hk6, v6, rfl, how6⟩
    have hz6 := hk6.size
    have hs6 := Sl.of_own how6
    have j4 := hk6.at0 i4
    have isl6 := isl.keep0 hk6
    have hwn := wordsB_num x
    have hwl := wordsB_len x
    generalize hws : wordsB x = wl at *
    repeat' (first | (refine CL.seq ?_) | (refine CL.region ?_) | (refine CL.skip ?_) | (refine CL.condP rfl (fun _ => ?_) (fun _ => ?_) <;> try (exfalso; omega)) | (refine CL.condT rfl ?_) | (refine CL.block ?_) | (refine Gt.nil ?_; refine RW.nilw [0, 2, 3, 4, 5, 6, 7, 9, 10, 11, 14, 17, 18, 34, 36, 37, 38, 39, 48] ?_; dsimp only [H.keep, H.look, H.Fr.put, Nat.beq]) | (refine RW.y (Y.build (ps := []) (l := []) (c := #[.bool false, .slice none 0 0]) rfl rfl) rfl ?_) | (refine Gt.move ?_; refine RW.y (Y.move rfl) rfl ?_) | (refine Gt.guard ?_; first | (refine RW.part rfl rfl rfl (fun _ => ?_) (fun _ => ?_) <;> try (exfalso; omega)) | (refine RW.on rfl rfl rfl ?_) | (refine RW.off1 rfl rfl rfl rfl rfl ?_)) | (refine Gt.assign ?_; refine RW.y (Y.assign rfl) rfl ?_) | (refine Gt.len ?_; (refine RW.y (Y.lenx rfl (by assumption)) rfl ?_)) | (refine Gt.load ?_; (refine RW.y (Y.loadB rfl (by assumption) rfl) rfl ?_)) | (refine Gt.fieldAddr ?_; refine RW.y (Y.fieldAddr rfl (by rfl)) rfl ?_) | (refine Gt.eql ?_; (refine RW.y (Y.eqi rfl rfl) rfl ?_)) | (refine Gt.pick ?_; first | (refine RW.y (Y.pickT rfl rfl) rfl ?_) | (refine RW.y (Y.pickF rfl rfl) rfl ?_)) | (refine Gt.gtr ?_; refine RW.y (Y.gtr rfl rfl) rfl ?_))
    · rename_i h1
      have hln : rdP [x] acc = none := by
        rw [rdP]
        split
        · rfl
        · rw [listB, hws, if_neg (by omega)]
      have hkF := hk6
      refine RW.storeBlock rfl rfl rfl (spnCells rfl) (hkF.at0 i2) rfl (fun wq hbq hkq => ?_)
      refine RW.storeB rfl rfl rfl (hkq.at (hkF.at0 i3) (fun c => by have c' : w1.heap.size = w.heap.size := c; omega)) (by decide) (fun wr hbr hkr => ?_)
      have hbq' := hkr.at hbq (fun c => by have c' : w.heap.size = w1.heap.size := c; omega)
      repeat' (first | (refine CL.ret ?_) | (refine Rt.block ?_) | (refine Gt.nil ?_; refine RW.nilw [0, 2, 3, 4, 5, 6, 7, 9, 10, 11, 14, 17, 18, 34, 36, 37, 38, 39, 48] ?_; dsimp only [H.keep, H.look, H.Fr.put, Nat.beq]))
      have hk : Kept (fun k => k = w.heap.size ∨ k = w1.heap.size) W wr := (hkF.of0.trans hkq (fun k h => .inl (.inl h))).trans hkr (fun k h => .inl (.inr h))
      exact ⟨Same.of hk fun k h => ⟨by omega, fun c => by omega⟩, rfl, ⟨hfail hln, hbq', hbr, ikept.trans hk fun k h => .inr (by omega)⟩⟩
    · rename_i h1 h2
      have hln : rdP [x] acc = none := by
        rw [rdP]
        split
        · rfl
        · rw [listB, hws, if_neg (by omega)]
      have hkF := hk6
      refine RW.storeBlock rfl rfl rfl (spnCells rfl) (hkF.at0 i2) rfl (fun wq hbq hkq => ?_)
      refine RW.storeB rfl rfl rfl (hkq.at (hkF.at0 i3) (fun c => by have c' : w1.heap.size = w.heap.size := c; omega)) (by decide) (fun wr hbr hkr => ?_)
      have hbq' := hkr.at hbq (fun c => by have c' : w.heap.size = w1.heap.size := c; omega)
      repeat' (first | (refine CL.ret ?_) | (refine Rt.block ?_) | (refine Gt.nil ?_; refine RW.nilw [0, 2, 3, 4, 5, 6, 7, 9, 10, 11, 14, 17, 18, 34, 36, 37, 38, 39, 48] ?_; dsimp only [H.keep, H.look, H.Fr.put, Nat.beq]))
      have hk : Kept (fun k => k = w.heap.size ∨ k = w1.heap.size) W wr := (hkF.of0.trans hkq (fun k h => .inl (.inl h))).trans hkr (fun k h => .inl (.inr h))
      exact ⟨Same.of hk fun k h => ⟨by omega, fun c => by omega⟩, rfl, ⟨hfail hln, hbq', hbr, ikept.trans hk fun k h => .inr (by omega)⟩⟩
    · rename_i h1 h2 h3
      have hln : rdP [x] acc = none := by
        rw [rdP, if_pos (by omega)]
      have hkF := hk6
      refine RW.storeBlock rfl rfl rfl (spnCells rfl) (hkF.at0 i2) rfl (fun wq hbq hkq => ?_)
      refine RW.storeB rfl rfl rfl (hkq.at (hkF.at0 i3) (fun c => by have c' : w1.heap.size = w.heap.size := c; omega)) (by decide) (fun wr hbr hkr => ?_)
      have hbq' := hkr.at hbq (fun c => by have c' : w.heap.size = w1.heap.size := c; omega)
      repeat' (first | (refine CL.ret ?_) | (refine Rt.block ?_) | (refine Gt.nil ?_; refine RW.nilw [0, 2, 3, 4, 5, 6, 7, 9, 10, 11, 14, 17, 18, 34, 36, 37, 38, 39, 48] ?_; dsimp only [H.keep, H.look, H.Fr.put, Nat.beq]))
      have hk : Kept (fun k => k = w.heap.size ∨ k = w1.heap.size) W wr := (hkF.of0.trans hkq (fun k h => .inl (.inl h))).trans hkr (fun k h => .inl (.inr h))
      exact ⟨Same.of hk fun k h => ⟨by omega, fun c => by omega⟩, rfl, ⟨hfail hln, hbq', hbr, ikept.trans hk fun k h => .inr (by omega)⟩⟩
    rename_i h1 h2 h3
    have hlB : listB x = rdW wl [] := by rw [listB, hws, if_pos (by omega)]
    have hrx : rdP [x] acc = match rdW wl [] with
        | none => none
        | some b => some (acc ++ [b]) := by
      rw [rdP, if_neg (by omega), hlB]
      cases rdW wl [] <;> rfl
    refine CL.loopS [2, 3, 4, 7, 36, 37, 38] (fun m vals wv => ∃ (n : Nat) (u : Value) (bacc : List Bd), vals = [.pointer (some ⟨w.heap.size, 0, none⟩), .pointer (some ⟨w1.heap.size, 0, none⟩), .pointer (some ⟨w3.heap.size, 0, none⟩), u, v6, .int .i64 (wl.length : Int), .int .i64 (n : Int)] ∧ m = wl.length - n ∧ n ≤ wl.length ∧ bacc.length ≤ 2 * n ∧ rdW (wl.drop n) bacc = rdW wl [] ∧ BI wv w6.heap.size u bacc ∧ K0 w6 wv) wl.length ⟨_, rfl, 0, _, [], rfl, rfl, Nat.zero_le _, Nat.le_refl _, rfl, BI.nil _ _, Kept.refl _ _⟩ ?_
    rintro m vals wv ⟨n, u, bacc, rfl, rfl, hn, hbl, hrw, hbi, hkv⟩
    dsimp only [List.zip, List.zipWith]
    have hsv := hs6.keep0 hkv
    have hzv := hkv.size
    have hkWv := hk6.trans0 hkv
    rcases Nat.lt_or_ge n wl.length with hnl | hng
    · have hwm : wl.getD n [] ∈ wl := getD_mem [] hnl
      have hw1 := hwl _ hwm
      repeat' (first | (refine CL.seq ?_) | (refine CL.region ?_) | (refine CL.skip ?_) | (refine CL.condP rfl (fun _ => ?_) (fun _ => ?_) <;> try (exfalso; omega)) | (refine CL.block ?_) | (refine Gt.nil ?_; refine RW.nilw [0, 2, 3, 4, 5, 6, 7, 9, 10, 11, 14, 17, 18, 34, 36, 37, 38, 39, 48] ?_; dsimp only [H.keep, H.look, H.Fr.put, Nat.beq]) | (refine Gt.move ?_; refine RW.y (Y.move rfl) rfl ?_) | (refine Gt.assign ?_; refine RW.y (Y.assign rfl) rfl ?_) | (refine Gt.lss ?_; refine RW.y (Y.lss rfl rfl) rfl ?_) | (refine Gt.idx ?_; refine RW.elemS rfl rfl rfl rfl (by assumption) (by omega) (by omega) ?_))
      rw [Int.toNat_natCast]
      refine RW.fn rfl rfl ((word (wl.getD n []) (by omega) wv).mono ?_)
      rintro e w7 ⟨hk7, p7, rfl, hp7⟩
      rw [drop_at wl n hnl, rdW] at hrw
      have hz7 := hk7.size
      cases hbd7 : boundsB (wl.getD n []) with
      | none =>
        rw [hbd7] at hrw
        repeat' (first | (refine CL.seq ?_) | (refine CL.region ?_) | (refine CL.condT rfl ?_) | (refine Gt.nil ?_; refine RW.nilw [0, 2, 3, 4, 5, 6, 7, 9, 10, 11, 14, 17, 18, 34, 36, 37, 38, 39, 48] ?_; dsimp only [H.keep, H.look, H.Fr.put, Nat.beq]) | (refine RW.y (Y.build (ps := []) (l := []) (c := #[.bool false, .slice none 0 0]) rfl rfl) rfl ?_) | (refine Gt.move ?_; refine RW.y (Y.move rfl) rfl ?_) | (refine Gt.assign ?_; refine RW.y (Y.assign rfl) rfl ?_) | (refine Gt.extract ?_; refine RW.y (Y.extract rfl rfl) rfl ?_) | (refine Gt.not ?_; (refine RW.y (Y.notb rfl) rfl ?_)))
        have hln : rdP [x] acc = none := by rw [hrx, ← hrw]
        have hkF := hkWv.trans0 hk7
        refine RW.storeBlock rfl rfl rfl (spnCells rfl) (hkF.at0 i2) rfl (fun wq hbq hkq => ?_)
        refine RW.storeB rfl rfl rfl (hkq.at (hkF.at0 i3) (fun c => by have c' : w1.heap.size = w.heap.size := c; omega)) (by decide) (fun wr hbr hkr => ?_)
        have hbq' := hkr.at hbq (fun c => by have c' : w.heap.size = w1.heap.size := c; omega)
        repeat' (first | (refine CL.ret ?_) | (refine Rt.then ?_) | (refine Rt.block ?_) | (refine Gt.nil ?_; refine RW.nilw [0, 2, 3, 4, 5, 6, 7, 9, 10, 11, 14, 17, 18, 34, 36, 37, 38, 39, 48] ?_; dsimp only [H.keep, H.look, H.Fr.put, Nat.beq]))
        have hk : Kept (fun k => k = w.heap.size ∨ k = w1.heap.size) W wr := (hkF.of0.trans hkq (fun k h => .inl (.inl h))).trans hkr (fun k h => .inl (.inr h))
        exact ⟨Same.of hk fun k h => ⟨by omega, fun c => by omega⟩, rfl, ⟨hfail hln, hbq', hbr, ikept.trans hk fun k h => .inr (by omega)⟩⟩
      | some b =>
        rw [hbd7] at hrw
        have hb2l := bounds_len hbd7
        repeat' (first | (refine CL.seq ?_) | (refine CL.region ?_) | (refine CL.skip ?_) | (refine CL.condF rfl ?_) | (refine Gt.nil ?_; refine RW.nilw [0, 2, 3, 4, 5, 6, 7, 9, 10, 11, 14, 17, 18, 34, 36, 37, 38, 39, 48] ?_; dsimp only [H.keep, H.look, H.Fr.put, Nat.beq]) | (refine Gt.move ?_; refine RW.y (Y.move rfl) rfl ?_) | (refine Gt.assign ?_; refine RW.y (Y.assign rfl) rfl ?_) | (refine Gt.extract ?_; refine RW.y (Y.extract rfl rfl) rfl ?_) | (refine Gt.not ?_; (refine RW.y (Y.notb rfl) rfl ?_)))
        refine RW.appB rfl rfl rfl rfl (hbi.keep hk7 fun _ _ _ c => c) (hp7 b hbd7) (fun g hg => (hbi.own g hg).2) hzv (by omega) (by omega) (by decide) (by omega) (fun v' w8 hbi' hk8 hl8 => ?_)
        repeat' (first | (refine CL.region ?_) | (refine CL.done ?_) | (refine Nm.block ?_) | (refine Nm.then ?_) | (refine Gt.nil ?_; refine RW.nilw [0, 2, 3, 4, 5, 6, 7, 9, 10, 11, 14, 17, 18, 34, 36, 37, 38, 39, 48] ?_; dsimp only [H.keep, H.look, H.Fr.put, Nat.beq]) | (refine Gt.move ?_; refine RW.y (Y.move rfl) rfl ?_) | (refine Gt.assign ?_; refine RW.y (Y.assign rfl) rfl ?_) | (refine Gt.add ?_; refine RW.y (Y.add64 rfl rfl (by omega) (by omega)) rfl ?_))
        exact ⟨wl.length - (n + 1), _, rfl, rfl, rfl, by omega, n + 1, v', bacc ++ b, rfl, rfl, by omega, by rw [List.length_append]; omega, hrw, hbi', (hkv.trans0 hk7).trans hk8 fun g hg => .inr (hbi.own g hg).1⟩
    · have hn : n = wl.length := by omega
      subst hn
      rw [List.drop_length, rdW] at hrw
      rw [← hrw] at hrx
      have j4v := hkWv.at0 i4
      have iq1 := isl.one
      have irowv := irow.keep hkWv fun _ _ _ c => c
      have hio := irow.own
      repeat' (first | (refine CL.seq ?_) | (refine CL.region ?_) | (refine CL.condP rfl (fun _ => ?_) (fun _ => ?_) <;> try (exfalso; omega)) | (refine CL.exit ?_) | (refine Ex.then ?_) | (refine Ex.hit ?_) | (refine Gt.nil ?_; refine RW.nilw [0, 2, 3, 4, 5, 6, 7, 9, 10, 11, 14, 17, 18, 34, 36, 37, 38, 39, 48] ?_; dsimp only [H.keep, H.look, H.Fr.put, Nat.beq]) | (refine Gt.move ?_; refine RW.y (Y.move rfl) rfl ?_) | (refine Gt.load ?_; (refine RW.y (Y.loadB rfl (by assumption) rfl) rfl ?_)) | (refine Gt.fieldAddr ?_; refine RW.y (Y.fieldAddr rfl (by rfl)) rfl ?_) | (refine Gt.lss ?_; refine RW.y (Y.lss rfl rfl) rfl ?_))
      refine RW.appO rfl rfl rfl rfl rfl irowv hbi.new (fun g hg => by have := (hio g hg).2; omega) (by omega) (by omega) (by decide) (by omega) (fun q' w8 irow' hk8 hl8 => ?_)
      have hq4 : ¬ q.ownBlock = some w3.heap.size := fun c => by have := (hio _ c).1; omega
      have j48 := hk8.at j4v hq4
      obtain ⟨xs', isl'⟩ := irow'.sl
      repeat' ((refine Gt.fieldAddr ?_; refine RW.y (Y.fieldAddr rfl (by rfl)) rfl ?_))
      refine RW.storeB rfl rfl isl'.one j48 (show (_ : Nat) < 2 from by decide) (fun w9 hb9 hk9 => ?_)
      repeat' (first | (refine CL.done ?_) | (refine Nm.block ?_) | (refine Gt.nil ?_; refine RW.nilw [0, 2, 3, 4, 5, 6, 7, 9, 10, 11, 14, 17, 18, 34, 36, 37, 38, 39, 48] ?_; dsimp only [H.keep, H.look, H.Fr.put, Nat.beq]))
      have hk : Kept (fun k => q.ownBlock = some k ∨ k = w3.heap.size) W w9 := ((hkWv.of0).trans hk8 fun k h => .inl (.inl h)).trans hk9 fun k h => .inl (.inr h)
      have hTk : ∀ k, (q.ownBlock = some k ∨ k = w3.heap.size) → w5.heap.size + 2 ≤ k ∨ k = w3.heap.size := fun k h => h.imp (fun h => (hio k h).1) id
      refine ⟨Same.of hk fun k h => ⟨by omega, fun c => by have := hTk k c; omega⟩, acc ++ [bacc], q', ⟨fun r => ?_, by rw [List.length_append, List.length_singleton]; omega, ?_, ?_, hb9, ?_, ?_, ikept.trans hk fun k h => .inr (by have := hTk k h; omega)⟩⟩
      · rw [hgo1, rdP, if_neg (by omega), hlB, ← hrw]
      · exact hk.at i2 fun c => by have := hTk _ c; omega
      · exact hk.at i3 fun c => by have := hTk _ c; omega
      · exact irow'.keep hk9 fun g h1 _ c => by have c' : g = w3.heap.size := c; omega
      · exact iml.keep hk fun c => by have := hTk _ c; have := hM.lt; omega
  · rintro W ⟨acc, q, hI⟩ hD
    obtain ⟨hgo, hbd, i2, i3, i4, irow, iml, ikept⟩ := hI
    have hsp3 : spanB s = some ⟨false, acc⟩ := by
      have := hgo []
      rw [List.append_nil] at this
      rw [hsp, this]; rfl
    obtain ⟨xs, isl⟩ := irow.sl
    have iq1 := isl.one
    repeat' (first | (refine CL.seq ?_) | (refine CL.region ?_) | (refine CL.done ?_) | (refine Nm.block ?_) | (refine RW.y (Y.loadBlock rfl i4 rfl) rfl ?_))
    refine RW.storeBlock rfl rfl rfl (spnCells iq1) i2 rfl (fun w6 hb6 hk6 => ?_)
    refine RW.storeB rfl rfl rfl (hk6.at i3 (fun c => by have c' : w1.heap.size = w.heap.size := c; omega)) (by decide) (fun w7 hb7 hk7 => ?_)
    have hb67 := hk7.at hb6 (fun c => by have c' : w.heap.size = w1.heap.size := c; omega)
    repeat' (first | (refine CL.ret ?_) | (refine Gt.nil ?_; refine RW.nilw [0, 2, 3, 4, 5, 6, 7, 9, 10, 11, 14, 17, 18, 34, 36, 37, 38, 39, 48] ?_; dsimp only [H.keep, H.look, H.Fr.put, Nat.beq]))
    have hk : Kept (fun k => k = w.heap.size ∨ k = w1.heap.size) W w7 := (hk6.mono fun k h => .inl h).trans hk7 fun k h => .inl (.inr h)
    refine MQ.resD (rs := [.cell 2 spnT, .cell 3 ernT]) (D := w5.heap.size) rfl rfl (hk.at hD (by omega)) (fun w' hk' => ⟨[_, _], ⟨⟨_, rfl, load_block (hk'.at hb67 fun c => by have c' : w.heap.size = w5.heap.size := c; omega) rfl⟩, ⟨_, rfl, load_block1 (hk'.at hb7 fun c => by have c' : w1.heap.size = w5.heap.size := c; omega)⟩, trivial⟩, rfl, ?_⟩)
    refine ⟨(ikept.trans hk fun k h => .inr (by omega)).trans hk' fun k h => .inr (by have h' : k = w5.heap.size := h; omega), _, by rw [hsp3]; rfl, ?_⟩
    rw [hsp3]
    exact ⟨_, rfl, (OI.new ((irow.keep hk fun g h1 _ c => by omega).keep hk' fun g h1 _ c => by have c' : g = w5.heap.size := c; omega)).mono (by omega)⟩
  · rintro c pre W ⟨rfl, hX⟩ hD
    refine Rt.block ?_
    skip
    refine MQ.resD (rs := [.cell 2 spnT, .cell 3 ernT]) (D := w5.heap.size) rfl rfl hD (fun w' hk' => ⟨[_, _], ⟨⟨_, rfl, load_block (hk'.at hX.c2 fun c => by have c' : w.heap.size = w5.heap.size := c; omega) rfl⟩, ⟨_, rfl, load_block1 (hk'.at hX.c3 fun c => by have c' : w1.heap.size = w5.heap.size := c; omega)⟩, trivial⟩, rfl, ?_⟩)
    have hsp3 : spanB s = none := by rw [hsp, hX.go]; rfl
    rw [hsp3]
    exact ⟨hX.kept.trans hk' fun k h => .inr (by have h' : k = w5.heap.size := h; omega), _, rfl, _, rfl, OrNew.nil _ _⟩
end Go.Proofs.YtjfdhafmbcppjaaGreatDoor.Sp

namespace Go.Proofs.YtjfdhafmbcppjaaGreatDoor.H
open Go.RowKit
section
variable {P : Program} {f : Fr} {w : World} {d : Nat} {ty t yt : TypeId} {pos : String} {af : Array Edge} {x y : Operand} {a b : Bool}
theorem Y.neb [ht : Und P t .bool] (hx : f.ev x = some (.bool a)) (hy : f.ev y = some (.bool b)) : Yd P f (op1 d (.binOp .neq t x y yt) ty pos af) (.bool (decide (a ≠ b))) w :=
  Y.bin hx hy (by simp) (by simp) (by rw [run_neq_bool w t a b ht.out]; cases a <;> cases b <;> rfl)
theorem Y.nebE [ht : Und P t .bool] (hx : f.ev x = some (.bool a)) (hy : f.ev y = some (.bool b)) (h : a = b) : Yd P f (op1 d (.binOp .neq t x y yt) ty pos af) (.bool false) w := by
  have := Y.neb (P := P) (w := w) (d := d) (t := t) (yt := yt) (ty := ty) (pos := pos) (af := af) hx hy
  rw [h] at this
  simpa using this
theorem Y.nebS [ht : Und P t .bool] (hx : f.ev x = some (.bool a)) (hy : f.ev y = some (.bool a)) : Yd P f (op1 d (.binOp .neq t x y yt) ty pos af) (.bool false) w := Y.nebE hx hy rfl
theorem Y.eqbE [ht : Und P t .bool] (hx : f.ev x = some (.bool a)) (hy : f.ev y = some (.bool b)) (h : a = b) : Yd P f (op1 d (.binOp .eql t x y yt) ty pos af) (.bool true) w := by
  have := Y.eqb (P := P) (w := w) (d := d) (t := t) (yt := yt) (ty := ty) (pos := pos) (af := af) hx hy
  rw [h] at this
  simpa using this
end
end Go.Proofs.YtjfdhafmbcppjaaGreatDoor.H

namespace Go.Proofs.YtjfdhafmbcppjaaGreatDoor.Ve
open Go.RowKit H S
attribute [local irreducible] H.CL H.RW H.CW H.Yd H.thenK H.blockQ Go.Calls

set_option maxHeartbeats 400000 in
theorem helpStrings (v u : Value) (a b : List (List UInt8)) (w : World) (ha : Sl w 1 v a.length (sv a)) (hb : Sl w 1 u b.length (sv b)) : Calls Tryz.prog 66 #[v, u] w fun e w' => K0 w w' ∧ e = .returned (.bool (decide (a = b))) := by
  have hml : a.length ≤ 9223372036854775807 := by have := ha.2.1; simpa [maxLen] using this
  refine H.enter Tryz.func66 Tryz.ntmps66 rfl rfl ?_; dsimp only [H.args]
  repeat' (first | (refine CL.seq ?_) | (refine CL.region ?_) | (refine CL.skip ?_) | (refine CL.condP rfl (fun _ => ?_) (fun _ => ?_) <;> try (exfalso; omega)) | (refine CL.block ?_) | (refine CL.ret ?_) | (refine Gt.nil ?_; refine RW.nilw [0, 1, 4, 5, 10, 14, 25] ?_; dsimp only [H.keep, H.look, H.Fr.put, Nat.beq]) | (refine Gt.move ?_; refine RW.y (Y.move rfl) rfl ?_) | (refine Gt.assign ?_; refine RW.y (Y.assign rfl) rfl ?_) | (refine Gt.len ?_; (refine RW.y (Y.lenx rfl (by assumption)) rfl ?_)) | (refine Gt.neq ?_; (refine RW.y (Y.nei rfl rfl) rfl ?_)))
  · rename_i h
    refine FQ.one rfl rfl rfl ⟨Kept.refl _ _, ?_⟩
    rw [decide_eq_false]
    intro c; subst c; exact h rfl
  rename_i hlen
  have hlen' : a.length = b.length := by omega
  refine CL.loopS [0, 1, 5] (fun m vals wr => ∃ (i : Nat), vals = [v, u, .int .i64 (i : Int)] ∧ m = a.length - i ∧ i ≤ a.length ∧ a.take i = b.take i ∧ K0 w wr) a.length ⟨_, rfl, 0, rfl, rfl, Nat.zero_le _, rfl, Kept.refl _ _⟩ ?_
  rintro m vals wr ⟨i, rfl, rfl, hil, heq, hk⟩
  dsimp only [List.zip, List.zipWith]
  have ha' := ha.keep0 hk
  have hb' := hb.keep0 hk
  rcases Nat.lt_or_ge i a.length with hlt | hge
  · repeat' (first | (refine CL.seq ?_) | (refine CL.region ?_) | (refine CL.skip ?_) | (refine CL.condP rfl (fun _ => ?_) (fun _ => ?_) <;> try (exfalso; omega)) | (refine CL.block ?_) | (refine Gt.nil ?_; refine RW.nilw [0, 1, 4, 5, 10, 14, 25] ?_; dsimp only [H.keep, H.look, H.Fr.put, Nat.beq]) | (refine Gt.move ?_; refine RW.y (Y.move rfl) rfl ?_) | (refine Gt.len ?_; (refine RW.y (Y.lenx rfl (by assumption)) rfl ?_)) | (refine Gt.lss ?_; refine RW.y (Y.lss rfl rfl) rfl ?_))
    refine CL.draw (fun w' => Kept (fun _ => False) wr w') (by kernel_rfl) (fun w4 hheap hk4 => ?_)
    have hS : Kept (fun _ => False) wr w4 := hk4
    have hc1 : ∀ {w' : World}, K0 wr w' → w'.cell? (Value.spot v (((i : Int)).toNat * 1)) = some (vs (a.getD i [])) := fun h => by rw [Int.toNat_natCast, Nat.mul_one]; exact (ha'.keep0 h).cell (sv_at hlt)
    have hc2 : ∀ {w' : World}, K0 wr w' → w'.cell? (Value.spot u (((i : Int)).toNat * 1)) = some (vs (b.getD i [])) := fun h => by rw [Int.toNat_natCast, Nat.mul_one]; exact (hb'.keep0 h).cell (sv_at (by omega))
    skip
    refine AW.take 0 rfl (by kernel_rfl) (by kernel_rfl) (by kernel_rfl) rfl (by assumption) (fun w hS => Y.move rfl) ?_
    refine AW.take 1 rfl (by kernel_rfl) (by kernel_rfl) (by kernel_rfl) rfl (by assumption) (fun w hS => Y.move rfl) ?_
    refine AW.take 2 rfl (by kernel_rfl) (by kernel_rfl) (by kernel_rfl) rfl (by assumption) (fun w hS => Y.idx rfl rfl (ha'.keep0 hS) (by omega) (by omega)) ?_
    refine AW.take 3 rfl (by kernel_rfl) (by kernel_rfl) (by kernel_rfl) rfl (by assumption) (fun w hS => Y.load1 rfl (hc1 hS)) ?_
    refine AW.take 4 rfl (by kernel_rfl) (by kernel_rfl) (by kernel_rfl) rfl (by assumption) (fun w hS => Y.move rfl) ?_
    refine AW.take 5 rfl (by kernel_rfl) (by kernel_rfl) (by kernel_rfl) rfl (by assumption) (fun w hS => Y.move rfl) ?_
    refine AW.take 6 rfl (by kernel_rfl) (by kernel_rfl) (by kernel_rfl) rfl (by assumption) (fun w hS => Y.idx rfl rfl (hb'.keep0 hS) (by omega) (by omega)) ?_
    refine AW.take 7 rfl (by kernel_rfl) (by kernel_rfl) (by kernel_rfl) rfl (by assumption) (fun w hS => Y.load1 rfl (hc2 hS)) ?_
    refine AW.take 8 rfl (by kernel_rfl) (by kernel_rfl) (by kernel_rfl) rfl (by assumption) (fun w hS => by exact Y.nes rfl rfl) ?_
    refine AW.donew [0, 1, 5, 25] (by kernel_rfl) ?_
    dsimp only [H.keep, H.look, H.Fr.put, Nat.beq]
    repeat' (first | (refine CL.seq ?_) | (refine CL.region ?_) | (refine CL.skip ?_) | (refine CL.condP rfl (fun _ => ?_) (fun _ => ?_) <;> try (exfalso; omega)) | (refine CL.ret ?_) | (refine Rt.then ?_) | (refine Rt.block ?_) | (refine CL.done ?_) | (refine Nm.block ?_) | (refine Nm.then ?_) | (refine Gt.nil ?_; refine RW.nilw [0, 1, 4, 5, 10, 14, 25] ?_; dsimp only [H.keep, H.look, H.Fr.put, Nat.beq]) | (refine Gt.move ?_; refine RW.y (Y.move rfl) rfl ?_) | (refine Gt.assign ?_; refine RW.y (Y.assign rfl) rfl ?_) | (refine Gt.add ?_; refine RW.y (Y.add64 rfl rfl (by omega) (by omega)) rfl ?_))
    · rename_i h
      refine FQ.one rfl rfl rfl ⟨hk.trans0 hk4, ?_⟩
      rw [decide_eq_false]
      intro c; subst c; exact h rfl
    · rename_i h
      have hx : a.getD i [] = b.getD i [] := Decidable.not_not.1 h
      refine ⟨a.length - (i + 1), _, rfl, rfl, rfl, by omega, i + 1, by simp, rfl, by omega, ?_, hk.trans0 hk4⟩
      have h1 := take_snoc [] a i hlt
      have h2 := take_snoc [] b i (by omega)
      rw [h1, h2, heq]
      rw [hx]
  · have hi : i = a.length := by omega
    subst hi
    rw [List.take_length, hlen', List.take_length] at heq
    repeat' (first | (refine CL.seq ?_) | (refine CL.region ?_) | (refine CL.condP rfl (fun _ => ?_) (fun _ => ?_) <;> try (exfalso; omega)) | (refine CL.exit ?_) | (refine Ex.then ?_) | (refine Ex.hit ?_) | (refine CL.ret ?_) | (refine Gt.nil ?_; refine RW.nilw [0, 1, 4, 5, 10, 14, 25] ?_; dsimp only [H.keep, H.look, H.Fr.put, Nat.beq]) | (refine Gt.move ?_; refine RW.y (Y.move rfl) rfl ?_) | (refine Gt.assign ?_; refine RW.y (Y.assign rfl) rfl ?_) | (refine Gt.len ?_; (refine RW.y (Y.lenx rfl (by assumption)) rfl ?_)) | (refine Gt.lss ?_; refine RW.y (Y.lss rfl rfl) rfl ?_))
    refine FQ.one rfl rfl rfl ⟨hk, ?_⟩
    rw [decide_eq_true heq]

def eqV (x y : Ver) : Bool := decide (x.a = y.a) && decide (x.b = y.b) && decide (x.c = y.c) && decide (x.pre = y.pre)
theorem eqV_self (x : Ver) : eqV x x = true := by simp [eqV]

set_option maxHeartbeats 400000 in
theorem helpVersion (X Y : Value) (x y : Ver) (w : World) (hX : VerAt w X x) (hY : VerAt w Y y) : Calls Tryz.prog 34 #[X, Y] w fun e w' => K0 w w' ∧ e = .returned (.bool (eqV x y)) := by
  obtain ⟨p, rfl, hp⟩ := hX
  obtain ⟨q, rfl, hq⟩ := hY
  refine H.enter Tryz.func34 Tryz.ntmps34 rfl rfl ?_; dsimp only [H.args]
  repeat' (first | (refine CL.seq ?_) | (refine CL.region ?_))
  refine RW.box rfl rfl (fun w1 hb1 hk1 hlt1 => ?_)
  skip
  refine RW.box rfl rfl (fun w2 hb2 hk2 hlt2 => ?_)
  have hX2 : w2.heap[w.heap.size]? = some (.cells #[.int .i64 x.a, .int .i64 x.b, .int .i64 x.c, p] verT (0, 0)) := hk2.at0 hb1
  have hY2 : w2.heap[w1.heap.size]? = some (.cells #[.int .i64 y.a, .int .i64 y.b, .int .i64 y.c, q] verT (0, 0)) := hb2
  have hK2 : K0 w w2 := hk1.trans0 hk2
  repeat' (first | (refine CL.seq ?_) | (refine CL.region ?_) | (refine CL.ret ?_) | (refine Gt.nil ?_; refine RW.nilw [0, 1, 2, 3, 4] ?_; dsimp only [H.keep, H.look, H.Fr.put, Nat.beq]) | (refine Gt.fieldAddr ?_; refine RW.y (Y.fieldAddr rfl (by rfl)) rfl ?_) | (refine Gt.guard ?_; first | (refine RW.part rfl rfl rfl (fun _ => ?_) (fun _ => ?_) <;> try (exfalso; omega)) | (refine RW.on rfl rfl rfl ?_) | (refine RW.off1 rfl rfl rfl rfl rfl ?_)) | (refine Gt.load ?_; refine RW.y (Y.loadB rfl (by assumption) rfl) rfl ?_) | (refine Gt.eql ?_; refine RW.y (Y.eqi rfl rfl) rfl ?_) | (refine Gt.move ?_; refine RW.y (Y.move rfl) rfl ?_) | (refine Gt.pick ?_; first | (refine RW.y (Y.pickT rfl rfl) rfl ?_) | (refine RW.y (Y.pickF rfl rfl) rfl ?_)) | (refine Gt.assign ?_; refine RW.y (Y.assign rfl) rfl ?_))
  · rename_i h1 h2 h3
    refine RW.fn rfl rfl ((helpStrings p q x.pre y.pre w2 (hp.keep0 hK2) (hq.keep0 hK2)).mono ?_)
    rintro e w3 ⟨hk3, rfl⟩
    repeat' (first | (refine CL.ret ?_) | (refine Gt.nil ?_; refine RW.nilw [0, 1, 2, 3, 4] ?_; dsimp only [H.keep, H.look, H.Fr.put, Nat.beq]) | (refine Gt.pick ?_; (refine RW.y (Y.pickT rfl rfl) rfl ?_)) | (refine Gt.assign ?_; refine RW.y (Y.assign rfl) rfl ?_))
    exact FQ.one rfl rfl rfl ⟨hK2.trans0 hk3, by simp [eqV, h1, h2, h3]⟩
  · rename_i h1 h2 h3
    exact FQ.one rfl rfl rfl ⟨hK2, by simp [eqV, h3]⟩
  · rename_i h1 h2
    exact FQ.one rfl rfl rfl ⟨hK2, by simp [eqV, h2]⟩
  · rename_i h1
    exact FQ.one rfl rfl rfl ⟨hK2, by simp [eqV, h1]⟩

def lightB (v : Ver) : Bool := decide (v.pre.length ≤ 6) && v.pre.all (fun s => decide (s.length ≤ 30))
theorem light_fit {v : Ver} (h : lightB v = true) : Fit v := by
  simp only [lightB, Bool.and_eq_true, decide_eq_true_eq, List.all_eq_true] at h
  exact ⟨by omega, fun s hs => by have := h.2 s hs; omega⟩

theorem lightV (X : Value) (x : Ver) (w : World) (hX : VerAt w X x) : Calls Tryz.prog 19 #[X] w fun e w' => K0 w w' ∧ e = .returned (.bool (lightB x)) := by
  obtain ⟨p, rfl, hp⟩ := hX
  refine H.enter Tryz.func19 Tryz.ntmps19 rfl rfl ?_; dsimp only [H.args]
  repeat' (first | (refine CL.seq ?_) | (refine CL.region ?_))
  refine RW.box rfl rfl (fun w1 hb1 hk1 hlt1 => ?_)
  have hX1 : w1.heap[w.heap.size]? = some (.cells #[.int .i64 x.a, .int .i64 x.b, .int .i64 x.c, p] verT (0, 0)) := hb1
  have hp1 := hp.keep0 hk1
  repeat' (first | (refine CL.seq ?_) | (refine CL.region ?_) | (refine CL.skip ?_) | (refine CL.condP rfl (fun _ => ?_) (fun _ => ?_) <;> try (exfalso; omega)) | (refine CL.block ?_) | (refine CL.ret ?_) | (refine Gt.nil ?_; refine RW.nilw [0, 1, 2, 3, 7, 12, 21] ?_; dsimp only [H.keep, H.look, H.Fr.put, Nat.beq]) | (refine Gt.assign ?_; refine RW.y (Y.assign rfl) rfl ?_) | (refine Gt.load ?_; refine RW.y (Y.loadB rfl (by assumption) rfl) rfl ?_) | (refine Gt.fieldAddr ?_; refine RW.y (Y.fieldAddr rfl (by rfl)) rfl ?_) | (refine Gt.len ?_; (refine RW.y (Y.lenx rfl (by assumption)) rfl ?_)) | (refine Gt.gtr ?_; refine RW.y (Y.gtr rfl rfl) rfl ?_))
  · rename_i h
    exact FQ.one rfl rfl rfl ⟨hk1, by rw [lightB, decide_eq_false (by omega)]; rfl⟩
  rename_i h6
  refine CL.loopS [1, 2, 3] (fun k vals wr => ∃ (i : Nat) (b : Bool), vals = [.pointer (some ⟨w.heap.size, 0, none⟩), .bool b, .int .i64 (i : Int)] ∧ k = x.pre.length - i ∧ i ≤ x.pre.length ∧ (x.pre.take i).all (fun s => decide (s.length ≤ 30)) = true ∧ wr = w1) x.pre.length ⟨_, rfl, 0, false, rfl, rfl, Nat.zero_le _, rfl, rfl⟩ ?_
  rintro k vals wr ⟨i, b, rfl, rfl, hi, hall, rfl⟩
  dsimp only [List.zip, List.zipWith]
  have hi2 : ((i : Int)).toNat = i := Int.toNat_natCast i
  rcases Nat.lt_or_ge i x.pre.length with hlt | hge
  · repeat' (first | (refine CL.seq ?_) | (refine CL.region ?_) | (refine CL.skip ?_) | (refine CL.condP rfl (fun _ => ?_) (fun _ => ?_) <;> try (exfalso; omega)) | (refine CL.block ?_) | (refine CL.ret ?_) | (refine Rt.then ?_) | (refine Rt.block ?_) | (refine CL.done ?_) | (refine Nm.block ?_) | (refine Nm.then ?_) | (refine Gt.nil ?_; refine RW.nilw [0, 1, 2, 3, 7, 12, 21] ?_; dsimp only [H.keep, H.look, H.Fr.put, Nat.beq]) | (refine Gt.assign ?_; refine RW.y (Y.assign rfl) rfl ?_) | (refine Gt.load ?_; refine RW.y (Y.loadB rfl (by assumption) rfl) rfl ?_) | (refine Gt.fieldAddr ?_; refine RW.y (Y.fieldAddr rfl (by rfl)) rfl ?_) | (refine Gt.move ?_; refine RW.y (Y.move rfl) rfl ?_) | (refine Gt.len ?_; first | (refine RW.y (Y.lenx rfl (by assumption)) rfl ?_) | (refine RW.y (Y.lens rfl) rfl ?_)) | (refine Gt.gtr ?_; refine RW.y (Y.gtr rfl rfl) rfl ?_) | (refine Gt.lss ?_; refine RW.y (Y.lss rfl rfl) rfl ?_) | (refine Gt.idx ?_; refine RW.elemS rfl rfl rfl rfl (by assumption) (by omega) (by omega) ?_) | (refine Gt.add ?_; refine RW.y (Y.add64 rfl rfl (by omega) (by omega)) rfl ?_))
    · rename_i h
      rw [hi2] at h
      exact FQ.one rfl rfl rfl ⟨hk1, by rw [lightB, all_false [] hlt (decide_eq_false (by omega)), Bool.and_false]⟩
    · rename_i h
      rw [hi2] at h
      exact ⟨x.pre.length - (i + 1), _, rfl, rfl, rfl, by omega, i + 1, b, rfl, rfl, by omega, all_step [] hlt hall (decide_eq_true (by omega)), rfl⟩
  · have hi : i = x.pre.length := by omega
    subst hi
    rw [List.take_length] at hall
    repeat' (first | (refine CL.seq ?_) | (refine CL.region ?_) | (refine CL.condP rfl (fun _ => ?_) (fun _ => ?_) <;> try (exfalso; omega)) | (refine CL.exit ?_) | (refine Ex.then ?_) | (refine Ex.hit ?_) | (refine CL.ret ?_) | (refine Gt.nil ?_; refine RW.nilw [0, 1, 2, 3, 7, 12, 21] ?_; dsimp only [H.keep, H.look, H.Fr.put, Nat.beq]) | (refine Gt.assign ?_; refine RW.y (Y.assign rfl) rfl ?_) | (refine Gt.load ?_; refine RW.y (Y.loadB rfl (by assumption) rfl) rfl ?_) | (refine Gt.fieldAddr ?_; refine RW.y (Y.fieldAddr rfl (by rfl)) rfl ?_) | (refine Gt.move ?_; refine RW.y (Y.move rfl) rfl ?_) | (refine Gt.len ?_; (refine RW.y (Y.lenx rfl (by assumption)) rfl ?_)) | (refine Gt.lss ?_; refine RW.y (Y.lss rfl rfl) rfl ?_))
    exact FQ.one rfl rfl rfl ⟨hk1, by rw [lightB, hall, decide_eq_true (by omega)]; rfl⟩

end Go.Proofs.YtjfdhafmbcppjaaGreatDoor.Ve

namespace Go.Proofs.YtjfdhafmbcppjaaGreatDoor.Sp
open Go.RowKit H S Ve
attribute [local irreducible] H.CL H.RW H.CW H.Yd H.thenK H.blockQ Go.Calls

theorem bdC_len : ∀ x, (bdC x).length = 5 := fun _ => rfl
theorem bdSpot {w : World} {v : Value} {L : List (Bd × Value)} (hs : Sl w 5 v L.length (L.flatMap bdC)) {k : Nat} (hk : k < L.length) : ∃ g o, Value.spot v ((k : Int).toNat * 5) = ⟨g, o, none⟩ ∧ ∀ w', K0 w w' → w'.cell? ⟨g, o, none⟩ = some (vs (L.getD k default).1.sign) ∧ ∀ j u, ([.int .i64 (L.getD k default).1.v.a, .int .i64 (L.getD k default).1.v.b, .int .i64 (L.getD k default).1.v.c, (L.getD k default).2] : List Value)[j]? = some u → w'.cell? ((⟨g, o + 1, none⟩ : Addr).add j) = some u := by
  obtain ⟨g, o, h1⟩ := elPtr hs (by omega) ((k : Int).toNat * 5)
  refine ⟨g, o, h1, fun w' hk' => ?_⟩
  have h2 := elCells (hs.keep0 hk') bdC_len hk
  rw [h1] at h2
  refine ⟨h2 0 _ rfl, fun j u hu => ?_⟩
  have := h2 (1 + j) u (by rw [Nat.add_comm]; exact hu)
  rw [addr_add] at this ⊢
  rw [Nat.add_assoc]; exact this
theorem getD_or {R : List (List Bd × Value)} {o : List (List Bd)} (h : R.map (·.1) = o) {i : Nat} (hi : i < R.length) : (R.getD i default).1 = o.getD i [] := by
  subst h; simp [List.getD_eq_getElem?_getD, hi]
theorem getD_bd {L : List (Bd × Value)} {l : List Bd} (h : L.map (·.1) = l) {i : Nat} (hi : i < L.length) : (L.getD i default).1 = l.getD i default := by
  subst h; simp [List.getD_eq_getElem?_getD, hi]

set_option maxHeartbeats 2000000 in
theorem helpSpanS (X Y : Value) (s : Spn) (w : World) (hX : SpanAt w X s) (hY : SpanAt w Y s) : Calls Tryz.prog 12 #[X, Y] w fun e w' => K0 w w' ∧ e = .returned (.bool true) := by
  obtain ⟨p, rfl, R, hR, hs, hm⟩ := hX
  obtain ⟨p', rfl, R', hR', hs', hm'⟩ := hY
  have hRl : R'.length = R.length := by have h1 := congrArg List.length hR; have h2 := congrArg List.length hR'; rw [List.length_map] at h1 h2; omega
  have hmx : R.length ≤ 9223372036854775807 := by have := hs.2.1; simpa [maxLen] using this
  rw [hRl] at hs'
  refine H.enter Tryz.func12 Tryz.ntmps12 rfl rfl ?_; dsimp only [H.args]
  repeat' (first | (refine CL.seq ?_) | (refine CL.region ?_))
  refine RW.box rfl rfl (fun w1 hb1 hk1 hlt1 => ?_)
  have hb1' : w1.heap[w.heap.size]? = some (.cells #[.bool s.any, p] spnT (0, 0)) := hb1
  refine RW.box rfl rfl (fun w2 hb2 hk2 hlt2 => ?_)
  have hb2' : w2.heap[w1.heap.size]? = some (.cells #[.bool s.any, p'] spnT (0, 0)) := hb2
  have hb12 := hk2.at0 hb1'
  have hK2 := hk1.trans0 hk2
  have hs2 := hs.keep0 hK2
  have hs2' := hs'.keep0 hK2
  repeat' (first | (refine CL.seq ?_) | (refine CL.region ?_) | (refine CL.skip ?_) | (refine CL.condP rfl (fun _ => ?_) (fun _ => ?_) <;> try (exfalso; omega)) | (refine CL.block ?_) | (refine Gt.nil ?_; refine RW.nilw [0, 1, 2, 3, 4, 5, 6, 20, 25, 40, 48, 91] ?_; dsimp only [H.keep, H.look, H.Fr.put, Nat.beq]) | (refine RW.y (Y.nebS rfl rfl) rfl ?_) | (refine Gt.load ?_; (refine RW.y (Y.loadB rfl (by assumption) rfl) rfl ?_)) | (refine Gt.guard ?_; (refine RW.on rfl rfl rfl ?_)) | (refine Gt.move ?_; refine RW.y (Y.move rfl) rfl ?_) | (refine Gt.fieldAddr ?_; refine RW.y (Y.fieldAddr rfl (by rfl)) rfl ?_) | (refine Gt.assign ?_; refine RW.y (Y.assign rfl) rfl ?_) | (refine Gt.len ?_; (refine RW.y (Y.lenx rfl (by assumption)) rfl ?_)) | (refine Gt.neq ?_; (refine RW.y (Y.nei rfl rfl) rfl ?_)) | (refine Gt.pick ?_; (refine RW.y (Y.pickF rfl rfl) rfl ?_)))
  all_goals try contradiction
  refine CL.loopS [2, 3, 5] (fun m vals wr => ∃ i : Nat, vals = [.pointer (some ⟨w.heap.size, 0, none⟩), .pointer (some ⟨w1.heap.size, 0, none⟩), .int .i64 (i : Int)] ∧ m = R.length - i ∧ i ≤ R.length ∧ K0 w2 wr) R.length ⟨_, rfl, 0, rfl, rfl, Nat.zero_le _, Kept.refl _ _⟩ ?_
  rintro m vals wr ⟨i, rfl, rfl, hi, hkr⟩
  dsimp only [List.zip, List.zipWith]
  have hsr := hs2.keep0 hkr
  have hsr' := hs2'.keep0 hkr
  have hbr1 := hkr.at0 hb12
  have hbr2 := hkr.at0 hb2'
  rcases Nat.lt_or_ge i R.length with hlt | hge
  · have hti : ((i : Int)).toNat = i := Int.toNat_natCast i
    have hKr := hK2.trans0 hkr
    obtain ⟨L, hL, hsL, hmL⟩ := (hm _ (getD_mem default hlt)).keep0 hKr
    obtain ⟨L', hL', hsL', hmL'⟩ := (hm' (R'.getD i default) (getD_mem default (by omega))).keep0 hKr
    rw [getD_or hR hlt] at hL
    rw [getD_or hR' (by omega)] at hL'
    have hLl : L'.length = L.length := by have h1 := congrArg List.length hL; have h2 := congrArg List.length hL'; rw [List.length_map] at h1 h2; omega
    have hmL9 : L.length ≤ 9223372036854775807 := by have := hsL.2.1; simpa [maxLen] using this
    rw [hLl] at hsL'
    have hc1 : ∀ {w' : World}, K0 wr w' → w'.cell? (Value.spot p (((i : Int)).toNat * 1)) = some (R.getD i default).2 := fun h => by rw [hti, Nat.mul_one]; exact (hsr.keep0 h).cell (by simp [List.getD_eq_getElem?_getD, hlt])
    have hc2 : ∀ {w' : World}, K0 wr w' → w'.cell? (Value.spot p' (((i : Int)).toNat * 1)) = some (R'.getD i default).2 := fun h => by rw [hti, Nat.mul_one]; exact (hsr'.keep0 h).cell (by simp [List.getD_eq_getElem?_getD, hlt, hRl])
    repeat' (first | (refine CL.seq ?_) | (refine CL.region ?_) | (refine CL.skip ?_) | (refine CL.condP rfl (fun _ => ?_) (fun _ => ?_) <;> try (exfalso; omega)) | (refine CL.block ?_) | (refine Gt.nil ?_; refine RW.nilw [0, 1, 2, 3, 4, 5, 6, 20, 25, 40, 48, 91] ?_; dsimp only [H.keep, H.look, H.Fr.put, Nat.beq]) | (refine Gt.load ?_; (refine RW.y (Y.loadB rfl (by assumption) rfl) rfl ?_)) | (refine Gt.move ?_; refine RW.y (Y.move rfl) rfl ?_) | (refine Gt.fieldAddr ?_; refine RW.y (Y.fieldAddr rfl (by rfl)) rfl ?_) | (refine Gt.len ?_; (refine RW.y (Y.lenx rfl (by assumption)) rfl ?_)) | (refine Gt.lss ?_; refine RW.y (Y.lss rfl rfl) rfl ?_))
    refine CL.draw (fun w' => K0 wr w') (by kernel_rfl) (fun w3 hheap hk3 => ?_)
    have hS : K0 wr w3 := hk3
    skip
    refine AW.take 0 rfl (by kernel_rfl) (by kernel_rfl) (by kernel_rfl) rfl (by assumption) (fun w hS => Y.fieldAddr rfl (by rfl)) ?_
    refine AW.take 1 rfl (by kernel_rfl) (by kernel_rfl) (by kernel_rfl) rfl (by assumption) (fun w hS => Y.loadB rfl (hS.at0 hbr1) rfl) ?_
    refine AW.take 2 rfl (by kernel_rfl) (by kernel_rfl) (by kernel_rfl) rfl (by assumption) (fun w hS => Y.move rfl) ?_
    refine AW.take 3 rfl (by kernel_rfl) (by kernel_rfl) (by kernel_rfl) rfl (by assumption) (fun w hS => Y.idx rfl rfl (hsr.keep0 hS) (by omega) (by omega)) ?_
    refine AW.take 4 rfl (by kernel_rfl) (by kernel_rfl) (by kernel_rfl) rfl (by assumption) (fun w hS => Y.load1 rfl (hc1 hS)) ?_
    refine AW.take 5 rfl (by kernel_rfl) (by kernel_rfl) (by kernel_rfl) rfl (by assumption) (fun w hS => Y.lenx rfl (hsL.keep0 hS)) ?_
    refine AW.take 6 rfl (by kernel_rfl) (by kernel_rfl) (by kernel_rfl) rfl (by assumption) (fun w hS => Y.fieldAddr rfl (by rfl)) ?_
    refine AW.take 7 rfl (by kernel_rfl) (by kernel_rfl) (by kernel_rfl) rfl (by assumption) (fun w hS => Y.loadB rfl (hS.at0 hbr2) rfl) ?_
    refine AW.take 8 rfl (by kernel_rfl) (by kernel_rfl) (by kernel_rfl) rfl (by assumption) (fun w hS => Y.move rfl) ?_
    refine AW.take 9 rfl (by kernel_rfl) (by kernel_rfl) (by kernel_rfl) rfl (by assumption) (fun w hS => Y.idx rfl rfl (hsr'.keep0 hS) (by omega) (by omega)) ?_
    refine AW.take 10 rfl (by kernel_rfl) (by kernel_rfl) (by kernel_rfl) rfl (by assumption) (fun w hS => Y.load1 rfl (hc2 hS)) ?_
    refine AW.take 11 rfl (by kernel_rfl) (by kernel_rfl) (by kernel_rfl) rfl (by assumption) (fun w hS => Y.lenx rfl (hsL'.keep0 hS)) ?_
    refine AW.take 12 rfl (by kernel_rfl) (by kernel_rfl) (by kernel_rfl) rfl (by assumption) (fun w hS => Y.neiS rfl rfl) ?_
    refine AW.donew [2, 3, 5, 40] (by kernel_rfl) ?_
    dsimp only [H.keep, H.look, H.Fr.put, Nat.beq]
    have hsr3 := hsr.keep0 hk3
    have hsr3' := hsr'.keep0 hk3
    have hb31 := hk3.at0 hbr1
    have hb32 := hk3.at0 hbr2
    have hsL3 := hsL.keep0 hk3
    have hsL3' := hsL'.keep0 hk3
    rw [← hti] at hsL3
    repeat' (first | (refine CL.seq ?_) | (refine CL.region ?_) | (refine CL.skip ?_) | (refine CL.condF rfl ?_) | (refine CL.block ?_) | (refine Gt.nil ?_; refine RW.nilw [0, 1, 2, 3, 4, 5, 6, 20, 25, 40, 48, 91] ?_; dsimp only [H.keep, H.look, H.Fr.put, Nat.beq]) | (refine Gt.assign ?_; refine RW.y (Y.assign rfl) rfl ?_))
    refine CL.loopS [2, 3, 5, 6] (fun m vals wv => ∃ k : Nat, vals = [.pointer (some ⟨w.heap.size, 0, none⟩), .pointer (some ⟨w1.heap.size, 0, none⟩), .int .i64 (i : Int), .int .i64 (k : Int)] ∧ m = L.length - k ∧ k ≤ L.length ∧ K0 w3 wv) L.length ⟨_, rfl, 0, rfl, rfl, Nat.zero_le _, Kept.refl _ _⟩ ?_
    rintro m vals wv ⟨k, rfl, rfl, hk, hkv⟩
    dsimp only [List.zip, List.zipWith]
    have hsv := hsr3.keep0 hkv
    have hsv' := hsr3'.keep0 hkv
    have hv1 := hkv.at0 hb31
    have hv2 := hkv.at0 hb32
    have hLv := hsL3.keep0 hkv
    have hkrv := hk3.trans0 hkv
    rcases Nat.lt_or_ge k L.length with hkl | hkg
    · have hyl := hmL _ (getD_mem default hkl)
      have hyl' := hmL' (L'.getD k default) (getD_mem default (by omega))
      have hq := bdSpot (hsL.keep0 hkrv) hkl
      have hq' := bdSpot (L := L') (by rw [hLl]; exact hsL'.keep0 hkrv) (k := k) (by omega)
      have he : (L'.getD k default).1 = (L.getD k default).1 := by rw [getD_bd hL hkl, getD_bd hL' (by omega)]
      rw [he] at hyl' hq'
      obtain ⟨g, o, hsp, hcs⟩ := hq
      obtain ⟨g', o', hsp', hcs'⟩ := hq'
      repeat' (first | (refine CL.seq ?_) | (refine CL.region ?_) | (refine CL.skip ?_) | (refine CL.condP rfl (fun _ => ?_) (fun _ => ?_) <;> try (exfalso; omega)) | (refine CL.block ?_) | (refine Gt.nil ?_; refine RW.nilw [0, 1, 2, 3, 4, 5, 6, 20, 25, 40, 48, 91] ?_; dsimp only [H.keep, H.look, H.Fr.put, Nat.beq]) | (refine Gt.load ?_; (refine RW.y (Y.loadB rfl (by assumption) rfl) rfl ?_)) | (refine Gt.move ?_; refine RW.y (Y.move rfl) rfl ?_) | (refine Gt.fieldAddr ?_; refine RW.y (Y.fieldAddr rfl (by rfl)) rfl ?_) | (refine Gt.idx ?_; (refine RW.elemM rfl rfl rfl rfl (by assumption) (by omega) (by omega) ?_)) | (refine Gt.len ?_; (refine RW.y (Y.lenx rfl (by assumption)) rfl ?_)) | (refine Gt.lss ?_; refine RW.y (Y.lss rfl rfl) rfl ?_))
      refine CL.draw (fun w' => K0 wv w') (by kernel_rfl) (fun w4 hheap4 hk4 => ?_)
      have hS : K0 wv w4 := hk4
      skip
      refine AW.take 0 rfl (by kernel_rfl) (by kernel_rfl) (by kernel_rfl) rfl (by assumption) (fun w hS => Y.fieldAddr rfl (by rfl)) ?_
      refine AW.take 1 rfl (by kernel_rfl) (by kernel_rfl) (by kernel_rfl) rfl (by assumption) (fun w hS => Y.loadB rfl (hS.at0 hv1) rfl) ?_
      refine AW.take 2 rfl (by kernel_rfl) (by kernel_rfl) (by kernel_rfl) rfl (by assumption) (fun w hS => Y.move rfl) ?_
      refine AW.take 3 rfl (by kernel_rfl) (by kernel_rfl) (by kernel_rfl) rfl (by assumption) (fun w hS => Y.idx rfl rfl (hsv.keep0 hS) (by omega) (by omega)) ?_
      refine AW.take 4 rfl (by kernel_rfl) (by kernel_rfl) (by kernel_rfl) rfl (by assumption) (fun w hS => Y.load1 rfl (hc1 (hkrv.trans0 hS))) ?_
      refine AW.take 5 rfl (by kernel_rfl) (by kernel_rfl) (by kernel_rfl) rfl (by assumption) (fun w hS => Y.move rfl) ?_
      refine AW.take 6 rfl (by kernel_rfl) (by kernel_rfl) (by kernel_rfl) rfl (by assumption) (fun w hS => Y.idx rfl rfl (hsL.keep0 (hkrv.trans0 hS)) (by omega) (by omega)) ?_
      refine AW.take 7 rfl (by kernel_rfl) (by kernel_rfl) (by kernel_rfl) rfl (by assumption) (fun w hS => Y.fieldAddr (congrArg (fun a => some (Value.pointer (some a))) hsp) (by rfl)) ?_
      refine AW.take 8 rfl (by kernel_rfl) (by kernel_rfl) (by kernel_rfl) rfl (by assumption) (fun w hS => Y.load1A rfl (hcs _ hS).1) ?_
      refine AW.take 9 rfl (by kernel_rfl) (by kernel_rfl) (by kernel_rfl) rfl (by assumption) (fun w hS => Y.fieldAddr rfl (by rfl)) ?_
      refine AW.take 10 rfl (by kernel_rfl) (by kernel_rfl) (by kernel_rfl) rfl (by assumption) (fun w hS => Y.loadB rfl (hS.at0 hv2) rfl) ?_
      refine AW.take 11 rfl (by kernel_rfl) (by kernel_rfl) (by kernel_rfl) rfl (by assumption) (fun w hS => Y.move rfl) ?_
      refine AW.take 12 rfl (by kernel_rfl) (by kernel_rfl) (by kernel_rfl) rfl (by assumption) (fun w hS => Y.idx rfl rfl (hsv'.keep0 hS) (by omega) (by omega)) ?_
      refine AW.take 13 rfl (by kernel_rfl) (by kernel_rfl) (by kernel_rfl) rfl (by assumption) (fun w hS => Y.load1 rfl (hc2 (hkrv.trans0 hS))) ?_
      refine AW.take 14 rfl (by kernel_rfl) (by kernel_rfl) (by kernel_rfl) rfl (by assumption) (fun w hS => Y.move rfl) ?_
      refine AW.take 15 rfl (by kernel_rfl) (by kernel_rfl) (by kernel_rfl) rfl (by assumption) (fun w hS => Y.idx rfl rfl (hsL'.keep0 (hkrv.trans0 hS)) (by omega) (by omega)) ?_
      refine AW.take 16 rfl (by kernel_rfl) (by kernel_rfl) (by kernel_rfl) rfl (by assumption) (fun w hS => Y.fieldAddr (congrArg (fun a => some (Value.pointer (some a))) hsp') (by rfl)) ?_
      refine AW.take 17 rfl (by kernel_rfl) (by kernel_rfl) (by kernel_rfl) rfl (by assumption) (fun w hS => Y.load1A rfl (hcs' _ hS).1) ?_
      refine AW.take 18 rfl (by kernel_rfl) (by kernel_rfl) (by kernel_rfl) rfl (by assumption) (fun w hS => Y.nesS rfl rfl) ?_
      refine AW.take 19 rfl (by kernel_rfl) (by kernel_rfl) (by kernel_rfl) rfl (by assumption) (fun w hS => Y.move rfl) ?_
      refine AW.takeOn 20 rfl (by kernel_rfl) (by kernel_rfl) (by kernel_rfl) rfl rfl rfl rfl (by assumption) (fun w hS => Y.fieldAddr rfl (by rfl)) ?_
      refine AW.takeOn 21 rfl (by kernel_rfl) (by kernel_rfl) (by kernel_rfl) rfl rfl rfl rfl (by assumption) (fun w hS => Y.loadB rfl (hS.at0 hv1) rfl) ?_
      refine AW.takeOn 22 rfl (by kernel_rfl) (by kernel_rfl) (by kernel_rfl) rfl rfl rfl rfl (by assumption) (fun w hS => Y.move rfl) ?_
      refine AW.takeOn 23 rfl (by kernel_rfl) (by kernel_rfl) (by kernel_rfl) rfl rfl rfl rfl (by assumption) (fun w hS => Y.idx rfl rfl (hsv.keep0 hS) (by omega) (by omega)) ?_
      refine AW.takeOn 24 rfl (by kernel_rfl) (by kernel_rfl) (by kernel_rfl) rfl rfl rfl rfl (by assumption) (fun w hS => Y.load1 rfl (hc1 (hkrv.trans0 hS))) ?_
      refine AW.takeOn 25 rfl (by kernel_rfl) (by kernel_rfl) (by kernel_rfl) rfl rfl rfl rfl (by assumption) (fun w hS => Y.move rfl) ?_
      refine AW.takeOn 26 rfl (by kernel_rfl) (by kernel_rfl) (by kernel_rfl) rfl rfl rfl rfl (by assumption) (fun w hS => Y.idx rfl rfl (hsL.keep0 (hkrv.trans0 hS)) (by omega) (by omega)) ?_
      refine AW.takeOn 27 rfl (by kernel_rfl) (by kernel_rfl) (by kernel_rfl) rfl rfl rfl rfl (by assumption) (fun w hS => Y.fieldAddr (congrArg (fun a => some (Value.pointer (some a))) hsp) (by rfl)) ?_
      refine AW.takeOn 28 rfl (by kernel_rfl) (by kernel_rfl) (by kernel_rfl) rfl rfl rfl rfl (by assumption) (fun w hS => Y.loadN (cs := [_, _, _, _]) rfl rfl (hcs _ hS).2) ?_
      refine AW.takeOn 29 rfl (by kernel_rfl) (by kernel_rfl) (by kernel_rfl) rfl rfl rfl rfl (by assumption) (fun w hS => Y.fieldAddr rfl (by rfl)) ?_
      refine AW.takeOn 30 rfl (by kernel_rfl) (by kernel_rfl) (by kernel_rfl) rfl rfl rfl rfl (by assumption) (fun w hS => Y.loadB rfl (hS.at0 hv2) rfl) ?_
      refine AW.takeOn 31 rfl (by kernel_rfl) (by kernel_rfl) (by kernel_rfl) rfl rfl rfl rfl (by assumption) (fun w hS => Y.move rfl) ?_
      refine AW.takeOn 32 rfl (by kernel_rfl) (by kernel_rfl) (by kernel_rfl) rfl rfl rfl rfl (by assumption) (fun w hS => Y.idx rfl rfl (hsv'.keep0 hS) (by omega) (by omega)) ?_
      refine AW.takeOn 33 rfl (by kernel_rfl) (by kernel_rfl) (by kernel_rfl) rfl rfl rfl rfl (by assumption) (fun w hS => Y.load1 rfl (hc2 (hkrv.trans0 hS))) ?_
      refine AW.takeOn 34 rfl (by kernel_rfl) (by kernel_rfl) (by kernel_rfl) rfl rfl rfl rfl (by assumption) (fun w hS => Y.move rfl) ?_
      refine AW.takeOn 35 rfl (by kernel_rfl) (by kernel_rfl) (by kernel_rfl) rfl rfl rfl rfl (by assumption) (fun w hS => Y.idx rfl rfl (hsL'.keep0 (hkrv.trans0 hS)) (by omega) (by omega)) ?_
      refine AW.takeOn 36 rfl (by kernel_rfl) (by kernel_rfl) (by kernel_rfl) rfl rfl rfl rfl (by assumption) (fun w hS => Y.fieldAddr (congrArg (fun a => some (Value.pointer (some a))) hsp') (by rfl)) ?_
      refine AW.takeOn 37 rfl (by kernel_rfl) (by kernel_rfl) (by kernel_rfl) rfl rfl rfl rfl (by assumption) (fun w hS => Y.loadN (cs := [_, _, _, _]) rfl rfl (hcs' _ hS).2) ?_
      refine AW.next 38 rfl (by kernel_rfl) ?_
      refine RW.on rfl rfl rfl ?_
      refine RW.fn rfl rfl ((helpVersion _ _ (L.getD k default).1.v (L.getD k default).1.v w4 ⟨_, rfl, hyl.keep0 (hkrv.trans0 hk4)⟩ ⟨_, rfl, hyl'.keep0 (hkrv.trans0 hk4)⟩).mono ?_)
      rintro e w5 ⟨hk5, rfl⟩
      rw [eqV_self]
      refine RW.nil (Nm.then (rebase0 hS hk5 fun hS => ?_))
      refine AW.takeOn 39 rfl (by kernel_rfl) (by kernel_rfl) (by kernel_rfl) rfl rfl rfl rfl (by assumption) (fun w hS => by exact Y.notb rfl) ?_
      refine AW.take 40 rfl (by kernel_rfl) (by kernel_rfl) (by kernel_rfl) rfl (by assumption) (fun w hS => by exact Y.pickF rfl rfl) ?_
      refine AW.donew [2, 3, 5, 6, 91] (by kernel_rfl) ?_
      dsimp only [H.keep, H.look, H.Fr.put, Nat.beq]
      repeat' (first | (refine CL.region ?_) | (refine CL.skip ?_) | (refine CL.condF rfl ?_) | (refine CL.done ?_) | (refine Nm.block ?_) | (refine Nm.then ?_) | (refine Gt.nil ?_; refine RW.nilw [0, 1, 2, 3, 4, 5, 6, 20, 25, 40, 48, 91] ?_; dsimp only [H.keep, H.look, H.Fr.put, Nat.beq]) | (refine Gt.move ?_; refine RW.y (Y.move rfl) rfl ?_) | (refine Gt.assign ?_; refine RW.y (Y.assign rfl) rfl ?_) | (refine Gt.add ?_; refine RW.y (Y.add64 rfl rfl (by omega) (by omega)) rfl ?_))
      exact ⟨L.length - (k + 1), _, rfl, rfl, rfl, by omega, k + 1, rfl, rfl, by omega, (hkv.trans0 hk4).trans0 hk5⟩
    · have hk : k = L.length := by omega
      subst hk
      repeat' (first | (refine CL.seq ?_) | (refine CL.region ?_) | (refine CL.condP rfl (fun _ => ?_) (fun _ => ?_) <;> try (exfalso; omega)) | (refine CL.exit ?_) | (refine Ex.then ?_) | (refine Ex.hit ?_) | (refine CL.done ?_) | (refine Nm.block ?_) | (refine Nm.then ?_) | (refine Gt.nil ?_; refine RW.nilw [0, 1, 2, 3, 4, 5, 6, 20, 25, 40, 48, 91] ?_; dsimp only [H.keep, H.look, H.Fr.put, Nat.beq]) | (refine Gt.load ?_; (refine RW.y (Y.loadB rfl (by assumption) rfl) rfl ?_)) | (refine Gt.move ?_; refine RW.y (Y.move rfl) rfl ?_) | (refine Gt.fieldAddr ?_; refine RW.y (Y.fieldAddr rfl (by rfl)) rfl ?_) | (refine Gt.assign ?_; refine RW.y (Y.assign rfl) rfl ?_) | (refine Gt.idx ?_; (refine RW.elemM rfl rfl rfl rfl (by assumption) (by omega) (by omega) ?_)) | (refine Gt.len ?_; (refine RW.y (Y.lenx rfl (by assumption)) rfl ?_)) | (refine Gt.lss ?_; refine RW.y (Y.lss rfl rfl) rfl ?_) | (refine Gt.add ?_; refine RW.y (Y.add64 rfl rfl (by omega) (by omega)) rfl ?_))
      exact ⟨R.length - (i + 1), _, rfl, rfl, rfl, by omega, i + 1, rfl, rfl, by omega, (hkr.trans0 hk3).trans0 hkv⟩
  · have hi : i = R.length := by omega
    subst hi
    repeat' (first | (refine CL.seq ?_) | (refine CL.region ?_) | (refine CL.condP rfl (fun _ => ?_) (fun _ => ?_) <;> try (exfalso; omega)) | (refine CL.exit ?_) | (refine Ex.then ?_) | (refine Ex.hit ?_) | (refine CL.ret ?_) | (refine Gt.nil ?_; refine RW.nilw [0, 1, 2, 3, 4, 5, 6, 20, 25, 40, 48, 91] ?_; dsimp only [H.keep, H.look, H.Fr.put, Nat.beq]) | (refine Gt.load ?_; (refine RW.y (Y.loadB rfl (by assumption) rfl) rfl ?_)) | (refine Gt.move ?_; refine RW.y (Y.move rfl) rfl ?_) | (refine Gt.fieldAddr ?_; refine RW.y (Y.fieldAddr rfl (by rfl)) rfl ?_) | (refine Gt.assign ?_; refine RW.y (Y.assign rfl) rfl ?_) | (refine Gt.len ?_; (refine RW.y (Y.lenx rfl (by assumption)) rfl ?_)) | (refine Gt.lss ?_; refine RW.y (Y.lss rfl rfl) rfl ?_))
    exact FQ.one rfl rfl rfl ⟨hK2.trans0 hkr, rfl⟩

def lightS (s : Spn) : Bool := decide (s.or.length ≤ 5) && s.or.all (fun l => decide (l.length ≤ 5) && l.all (fun b => decide (b.sign.length ≤ 5) && lightB b.v))
set_option maxHeartbeats 1000000 in
theorem lightSpan (X : Value) (s : Spn) (w : World) (hX : SpanAt w X s) : Calls Tryz.prog 18 #[X] w fun e w' => K0 w w' ∧ e = .returned (.bool (lightS s)) := by
  obtain ⟨p, rfl, R, hR, hs, hm⟩ := hX
  have hmx : R.length ≤ 9223372036854775807 := by have := hs.2.1; simpa [maxLen] using this
  have hso : s.or = R.map (·.1) := hR.symm
  have hret : ∀ r : Bool, r = lightS s → Ending.returned (.bool r) = .returned (.bool (lightS s)) := fun r h => by rw [h]
  refine H.enter Tryz.func18 Tryz.ntmps18 rfl rfl ?_; dsimp only [H.args]
  repeat' (first | (refine CL.seq ?_) | (refine CL.region ?_))
  refine RW.box rfl rfl (fun w1 hb1 hk1 hlt1 => ?_)
  have hb1' : w1.heap[w.heap.size]? = some (.cells #[.bool s.any, p] spnT (0, 0)) := hb1
  have hs1 := hs.keep0 hk1
  repeat' (first | (refine CL.seq ?_) | (refine CL.region ?_) | (refine CL.skip ?_) | (refine CL.condP rfl (fun _ => ?_) (fun _ => ?_) <;> try (exfalso; omega)) | (refine CL.block ?_) | (refine CL.ret ?_) | (refine Gt.nil ?_; refine RW.nilw [0, 1, 2, 3, 4, 8, 13, 22, 30, 56] ?_; dsimp only [H.keep, H.look, H.Fr.put, Nat.beq]) | (refine Gt.load ?_; (refine RW.y (Y.loadB rfl (by assumption) rfl) rfl ?_)) | (refine Gt.assign ?_; refine RW.y (Y.assign rfl) rfl ?_) | (refine Gt.fieldAddr ?_; refine RW.y (Y.fieldAddr rfl (by rfl)) rfl ?_) | (refine Gt.len ?_; (refine RW.y (Y.lenx rfl (by assumption)) rfl ?_)) | (refine Gt.gtr ?_; refine RW.y (Y.gtr rfl rfl) rfl ?_))
  · refine FQ.one rfl rfl rfl ⟨hk1, hret _ ?_⟩
    rw [lightS, hso, List.length_map, decide_eq_false (by omega)]; rfl
  rename_i hlen
  refine CL.loopS [1, 3] (fun m vals wr => ∃ i : Nat, vals = [.pointer (some ⟨w.heap.size, 0, none⟩), .int .i64 (i : Int)] ∧ m = R.length - i ∧ i ≤ R.length ∧ (R.take i).all (fun y => decide (y.1.length ≤ 5) && y.1.all (fun b => decide (b.sign.length ≤ 5) && lightB b.v)) = true ∧ K0 w1 wr) R.length ⟨_, rfl, 0, rfl, rfl, Nat.zero_le _, rfl, Kept.refl _ _⟩ ?_
  rintro m vals wr ⟨i, rfl, rfl, hi, hall, hkr⟩
  dsimp only [List.zip, List.zipWith]
  have hsr := hs1.keep0 hkr
  have hbr1 := hkr.at0 hb1'
  have hfail : ∀ i, i < R.length → (decide ((R.getD i default).1.length ≤ 5) && (R.getD i default).1.all (fun b => decide (b.sign.length ≤ 5) && lightB b.v)) = false → false = lightS s := by
    intro i h1 h2
    rw [lightS, hso, List.all_map, all_false default h1 h2, Bool.and_false]
  rcases Nat.lt_or_ge i R.length with hlt | hge
  · have hti : ((i : Int)).toNat = i := Int.toNat_natCast i
    have hKr := hk1.trans0 hkr
    obtain ⟨L, hL, hsL, hmL⟩ := (hm _ (getD_mem default hlt)).keep0 hKr
    have hmL9 : L.length ≤ 9223372036854775807 := by have := hsL.2.1; simpa [maxLen] using this
    have hLl : (R.getD i default).1.length = L.length := by rw [← hL, List.length_map]
    rw [← hti] at hsL
    repeat' (first | (refine CL.seq ?_) | (refine CL.region ?_) | (refine CL.skip ?_) | (refine CL.condP rfl (fun _ => ?_) (fun _ => ?_) <;> try (exfalso; omega)) | (refine CL.block ?_) | (refine CL.ret ?_) | (refine Rt.then ?_) | (refine Rt.block ?_) | (refine Gt.nil ?_; refine RW.nilw [0, 1, 2, 3, 4, 8, 13, 22, 30, 56] ?_; dsimp only [H.keep, H.look, H.Fr.put, Nat.beq]) | (refine Gt.load ?_; (refine RW.y (Y.loadB rfl (by assumption) rfl) rfl ?_)) | (refine Gt.move ?_; refine RW.y (Y.move rfl) rfl ?_) | (refine Gt.assign ?_; refine RW.y (Y.assign rfl) rfl ?_) | (refine Gt.fieldAddr ?_; refine RW.y (Y.fieldAddr rfl (by rfl)) rfl ?_) | (refine Gt.len ?_; (refine RW.y (Y.lenx rfl (by assumption)) rfl ?_)) | (refine Gt.idx ?_; (refine RW.elemM rfl rfl rfl rfl (by assumption) (by omega) (by omega) ?_)) | (refine Gt.gtr ?_; refine RW.y (Y.gtr rfl rfl) rfl ?_) | (refine Gt.lss ?_; refine RW.y (Y.lss rfl rfl) rfl ?_))
    · rename_i h5
      refine FQ.one rfl rfl rfl ⟨hKr, hret _ (hfail i hlt ?_)⟩
      rw [hLl, decide_eq_false (by omega)]; rfl
    rename_i h5
    refine CL.loopS [1, 3, 4] (fun m vals wv => ∃ k : Nat, vals = [.pointer (some ⟨w.heap.size, 0, none⟩), .int .i64 (i : Int), .int .i64 (k : Int)] ∧ m = L.length - k ∧ k ≤ L.length ∧ (L.take k).all (fun b => decide (b.1.sign.length ≤ 5) && lightB b.1.v) = true ∧ K0 wr wv) L.length ⟨_, rfl, 0, rfl, rfl, Nat.zero_le _, rfl, Kept.refl _ _⟩ ?_
    rintro m vals wv ⟨k, rfl, rfl, hk, hal2, hkv⟩
    dsimp only [List.zip, List.zipWith]
    have hsv := hsr.keep0 hkv
    have hv1 := hkv.at0 hbr1
    have hLv := hsL.keep0 hkv
    have hf2 : ∀ k, k < L.length → (decide ((L.getD k default).1.sign.length ≤ 5) && lightB (L.getD k default).1.v) = false → false = lightS s := by
      intro k h1 h2
      refine hfail i hlt ?_
      rw [← hL, List.all_map, all_false default h1 h2, Bool.and_false]
    rcases Nat.lt_or_ge k L.length with hkl | hkg
    · have hyl := (hmL _ (getD_mem default hkl)).keep0 hkv
      have hq := bdSpot (hsL.keep0 hkv) hkl
      rw [hti] at hq
      obtain ⟨g, o, hsp, hcs⟩ := hq
      have hsp2 : Value.spot (R.getD ((i : Int)).toNat default).2 (((k : Int)).toNat * 5) = ⟨g, o, none⟩ := by rw [hti, Int.toNat_natCast]; rw [Int.toNat_natCast] at hsp; exact hsp
      repeat' (first | (refine CL.seq ?_) | (refine CL.region ?_) | (refine CL.skip ?_) | (refine CL.condP rfl (fun _ => ?_) (fun _ => ?_) <;> try (exfalso; omega)) | (refine CL.condT rfl ?_) | (refine CL.block ?_) | (refine CL.ret ?_) | (refine Rt.then ?_) | (refine Rt.block ?_) | (refine Gt.nil ?_; refine RW.nilw [0, 1, 2, 3, 4, 8, 13, 22, 30, 56] ?_; dsimp only [H.keep, H.look, H.Fr.put, Nat.beq]) | (refine Gt.load ?_; (refine RW.y (Y.loadB rfl (by assumption) rfl) rfl ?_)) | (refine Gt.guard ?_; first | (refine RW.part rfl rfl rfl (fun _ => ?_) (fun _ => ?_) <;> try (exfalso; omega)) | (refine RW.on rfl rfl rfl ?_) | (refine RW.off1 rfl rfl rfl rfl rfl ?_)) | (refine Gt.move ?_; refine RW.y (Y.move rfl) rfl ?_) | (refine Gt.assign ?_; refine RW.y (Y.assign rfl) rfl ?_) | (refine Gt.fieldAddr ?_; refine RW.y (Y.fieldAddr rfl (by rfl)) rfl ?_) | (refine Gt.len ?_; first | (refine RW.y (Y.lenx rfl (by assumption)) rfl ?_) | (refine RW.y (Y.lens rfl) rfl ?_)) | (refine Gt.idx ?_; first | (refine RW.elemM rfl rfl rfl rfl (by assumption) (by omega) (by omega) ?_) | (refine RW.elemF rfl rfl rfl rfl rfl rfl (by assumption) (fun _ => by rfl) rfl (by omega) (by omega) (by rfl) (fun _ _ => ?_)) | (refine RW.elemMOn rfl rfl rfl rfl (by assumption) (by omega) (by omega) rfl rfl rfl ?_)) | (refine Gt.gtr ?_; refine RW.y (Y.gtr rfl rfl) rfl ?_) | (refine Gt.lss ?_; refine RW.y (Y.lss rfl rfl) rfl ?_) | (refine Gt.pick ?_; (refine RW.y (Y.pickT rfl rfl) rfl ?_)))
      · rename_i h6
        rw [Int.toNat_natCast] at h6
        refine FQ.one rfl rfl rfl ⟨hKr.trans0 hkv, hret _ (hf2 k hkl ?_)⟩
        rw [decide_eq_false (by omega)]; rfl
      · rename_i h6
        rw [Int.toNat_natCast] at h6
        refine RW.y (Y.idx rfl rfl hLv (by omega) (by omega)) rfl ?_
        refine RW.on rfl rfl rfl ?_
        refine RW.y (Y.fieldAddr (congrArg (fun a => some (Value.pointer (some a))) hsp2) (by rfl)) rfl ?_
        refine RW.on rfl rfl rfl ?_
        refine RW.y (Y.loadN (cs := [_, _, _, _]) rfl rfl (hcs _ (Kept.refl _ _)).2) rfl ?_
        refine RW.on rfl rfl rfl ?_
        refine RW.fn rfl rfl ((lightV _ (L.getD k default).1.v wv ⟨_, rfl, hyl⟩).mono ?_)
        rintro e w4 ⟨hk4, rfl⟩
        cases hlb : lightB (L.getD k default).1.v
        · repeat' (first | (refine CL.seq ?_) | (refine CL.region ?_) | (refine CL.condT rfl ?_) | (refine CL.ret ?_) | (refine Rt.then ?_) | (refine Rt.block ?_) | (refine Gt.nil ?_; refine RW.nilw [0, 1, 2, 3, 4, 8, 13, 22, 30, 56] ?_; dsimp only [H.keep, H.look, H.Fr.put, Nat.beq]) | (refine Gt.guard ?_; (refine RW.on rfl rfl rfl ?_)) | (refine Gt.assign ?_; refine RW.y (Y.assign rfl) rfl ?_) | (refine Gt.not ?_; (refine RW.y (Y.notb rfl) rfl ?_)) | (refine Gt.pick ?_; (refine RW.y (Y.pickF rfl rfl) rfl ?_)))
          refine FQ.one rfl rfl rfl ⟨(hKr.trans0 hkv).trans0 hk4, hret _ (hf2 k hkl ?_)⟩
          rw [hlb, Bool.and_false]
        · repeat' (first | (refine CL.region ?_) | (refine CL.skip ?_) | (refine CL.condF rfl ?_) | (refine CL.done ?_) | (refine Nm.block ?_) | (refine Nm.then ?_) | (refine Gt.nil ?_; refine RW.nilw [0, 1, 2, 3, 4, 8, 13, 22, 30, 56] ?_; dsimp only [H.keep, H.look, H.Fr.put, Nat.beq]) | (refine Gt.guard ?_; (refine RW.on rfl rfl rfl ?_)) | (refine Gt.move ?_; refine RW.y (Y.move rfl) rfl ?_) | (refine Gt.assign ?_; refine RW.y (Y.assign rfl) rfl ?_) | (refine Gt.add ?_; refine RW.y (Y.add64 rfl rfl (by omega) (by omega)) rfl ?_) | (refine Gt.not ?_; (refine RW.y (Y.notb rfl) rfl ?_)) | (refine Gt.pick ?_; (refine RW.y (Y.pickF rfl rfl) rfl ?_)))
          refine ⟨L.length - (k + 1), _, rfl, rfl, rfl, by omega, k + 1, rfl, rfl, by omega, all_step default hkl hal2 ?_, hkv.trans0 hk4⟩
          rw [hlb, decide_eq_true (by omega)]; rfl
    · have hk : k = L.length := by omega
      subst hk
      rw [List.take_length] at hal2
      repeat' (first | (refine CL.seq ?_) | (refine CL.region ?_) | (refine CL.condP rfl (fun _ => ?_) (fun _ => ?_) <;> try (exfalso; omega)) | (refine CL.exit ?_) | (refine Ex.then ?_) | (refine Ex.hit ?_) | (refine CL.done ?_) | (refine Nm.block ?_) | (refine Nm.then ?_) | (refine Gt.nil ?_; refine RW.nilw [0, 1, 2, 3, 4, 8, 13, 22, 30, 56] ?_; dsimp only [H.keep, H.look, H.Fr.put, Nat.beq]) | (refine Gt.load ?_; (refine RW.y (Y.loadB rfl (by assumption) rfl) rfl ?_)) | (refine Gt.move ?_; refine RW.y (Y.move rfl) rfl ?_) | (refine Gt.assign ?_; refine RW.y (Y.assign rfl) rfl ?_) | (refine Gt.fieldAddr ?_; refine RW.y (Y.fieldAddr rfl (by rfl)) rfl ?_) | (refine Gt.len ?_; (refine RW.y (Y.lenx rfl (by assumption)) rfl ?_)) | (refine Gt.idx ?_; (refine RW.elemM rfl rfl rfl rfl (by assumption) (by omega) (by omega) ?_)) | (refine Gt.lss ?_; refine RW.y (Y.lss rfl rfl) rfl ?_) | (refine Gt.add ?_; refine RW.y (Y.add64 rfl rfl (by omega) (by omega)) rfl ?_))
      refine ⟨R.length - (i + 1), _, rfl, rfl, rfl, by omega, i + 1, rfl, rfl, by omega, all_step default hlt hall ?_, hkr.trans0 hkv⟩
      rw [hLl, decide_eq_true (by omega), Bool.true_and, ← hL, List.all_map]
      exact hal2
  · have hi : i = R.length := by omega
    subst hi
    rw [List.take_length] at hall
    repeat' (first | (refine CL.seq ?_) | (refine CL.region ?_) | (refine CL.condP rfl (fun _ => ?_) (fun _ => ?_) <;> try (exfalso; omega)) | (refine CL.exit ?_) | (refine Ex.then ?_) | (refine Ex.hit ?_) | (refine CL.ret ?_) | (refine Gt.nil ?_; refine RW.nilw [0, 1, 2, 3, 4, 8, 13, 22, 30, 56] ?_; dsimp only [H.keep, H.look, H.Fr.put, Nat.beq]) | (refine Gt.load ?_; (refine RW.y (Y.loadB rfl (by assumption) rfl) rfl ?_)) | (refine Gt.move ?_; refine RW.y (Y.move rfl) rfl ?_) | (refine Gt.assign ?_; refine RW.y (Y.assign rfl) rfl ?_) | (refine Gt.fieldAddr ?_; refine RW.y (Y.fieldAddr rfl (by rfl)) rfl ?_) | (refine Gt.len ?_; (refine RW.y (Y.lenx rfl (by assumption)) rfl ?_)) | (refine Gt.lss ?_; refine RW.y (Y.lss rfl rfl) rfl ?_))
    refine FQ.one rfl rfl rfl ⟨hk1.trans0 hkr, hret _ ?_⟩
    rw [lightS, hso, List.length_map, decide_eq_true (by omega), Bool.true_and, List.all_map]
    exact hall.symm
end Go.Proofs.YtjfdhafmbcppjaaGreatDoor.Sp

namespace Go.Proofs.YtjfdhafmbcppjaaGreatDoor.Sp
open Go.RowKit H S Ve
attribute [local irreducible] H.CL H.RW H.CW H.Yd H.thenK H.blockQ Go.Calls

theorem spnC {w : World} {V : Value} {s : Spn} (h : SpanAt w V s) : ∃ p, V = .agg #[.bool s.any, p] ∧ p.oneCell' = true ∧ OrAt w p s.or := by
  obtain ⟨p, rfl, hp⟩ := h
  exact ⟨p, rfl, hp.one, hp⟩
theorem VersAt.mk {w : World} {g : Nat} {L : List (Ver × Value)} {e : TypeId} (hb : w.heap[g]? = some (.cells (L.flatMap verCl).toArray e (0, 0))) (hm : ∀ x ∈ L, Sl w 1 x.2 x.1.pre.length (sv x.1.pre)) (hl : L.length ≤ 1000000) : VersAt w (.slice (some ⟨g, 0, none⟩) L.length L.length) (L.map (·.1)) :=
  ⟨L, rfl, sl_new hb (by rw [List.size_toArray, cells_len verCl_len]) hl, hm⟩

abbrev v199 : Ver := ⟨1, 9, 9, []⟩
abbrev v200 : Ver := ⟨2, 0, 0, []⟩
abbrev s120 : Spn := ⟨false, [[⟨[62, 61], ⟨1, 2, 0, []⟩⟩, ⟨[60], ⟨2, 0, 0, []⟩⟩]]⟩
theorem fitV_of (a b c : Int) (h : (-9223372036854775808 ≤ a ∧ a ≤ 9223372036854775807) ∧ (-9223372036854775808 ≤ b ∧ b ≤ 9223372036854775807) ∧ (-9223372036854775808 ≤ c ∧ c ≤ 9223372036854775807)) : FitV ⟨a, b, c, []⟩ := ⟨⟨by simp, by simp⟩, h⟩
theorem f120 : FitT s120 := by
  refine ⟨by decide, fun l hl => ?_⟩
  simp only [s120, List.mem_singleton] at hl
  subst hl
  refine ⟨by decide, fun b hb => ?_⟩
  simp only [List.mem_cons, List.not_mem_nil, or_false] at hb
  rcases hb with rfl | rfl
  · exact ⟨by decide, fitV_of _ _ _ (by decide)⟩
  · exact ⟨by decide, fitV_of _ _ _ (by decide)⟩

set_option maxHeartbeats 2000000 in
theorem known (w : World) (hT : Tb w) (hM : Ml w) : Calls Tryz.prog 9 #[] w fun e w' => e = .returned (.bool true) ∧ K0 w w' := by
  have F1 : Fit v199 := ⟨by decide, by simp⟩
  have F2 : Fit v200 := ⟨by decide, by simp⟩
  refine H.enter Tryz.func9 Tryz.ntmps9 rfl rfl ?_; dsimp only [H.args]
  repeat' (first | (refine CL.seq ?_) | (refine CL.region ?_) | (refine Gt.nil ?_; refine RW.nilw [0, 1, 2, 3, 5, 8, 9, 10] ?_; dsimp only [H.keep, H.look, H.Fr.put, Nat.beq]) | (refine Gt.assign ?_; refine RW.y (Y.assign rfl) rfl ?_))
  refine RW.fn rfl rfl ((parseS [94, 49, 46, 50, 46, 48] (by decide) w hM).mono ?_)
  rintro e w1 ⟨hk1, V1, rfl, hV1⟩
  rw [show spanR (spanB [94, 49, 46, 50, 46, 48]) = (s120, 0) from by kernel_rfl] at hV1 ⊢
  obtain ⟨p1, rfl, ho1, hs1⟩ := spnC hV1.at
  repeat' (first | (refine Gt.move ?_; refine RW.y (Y.move rfl) rfl ?_) | (refine Gt.extract ?_; refine RW.y (Y.extract rfl rfl) rfl ?_))
  refine RW.varN rfl rfl rfl (spnCells ho1) rfl (fun w2 hb2 hk2 hlt2 => ?_)
  repeat' (first | (refine CL.seq ?_) | (refine CL.region ?_) | (refine Gt.nil ?_; refine RW.nilw [0, 1, 2, 3, 5, 8, 9, 10] ?_; dsimp only [H.keep, H.look, H.Fr.put, Nat.beq]) | (refine Gt.assign ?_; refine RW.y (Y.assign rfl) rfl ?_))
  refine RW.fn rfl rfl ((versionOf [49, 46, 57, 46, 57] (by decide) w2).mono ?_)
  rintro e w3 ⟨hk3, V3, rfl, hV3⟩
  rw [show verR (parseV (cutB 45 [49, 46, 57, 46, 57])) = (v199, 0) from by kernel_rfl] at hV3 ⊢
  obtain ⟨p3, rfl, ho3, hs3⟩ := verC hV3
  repeat' (first | (refine Gt.move ?_; refine RW.y (Y.move rfl) rfl ?_) | (refine Gt.extract ?_; refine RW.y (Y.extract rfl rfl) rfl ?_))
  refine RW.varN rfl rfl rfl (verCells ho3) rfl (fun w4 hb4 hk4 hlt4 => ?_)
  repeat' (first | (refine CL.seq ?_) | (refine CL.region ?_) | (refine Gt.nil ?_; refine RW.nilw [0, 1, 2, 3, 5, 8, 9, 10] ?_; dsimp only [H.keep, H.look, H.Fr.put, Nat.beq]) | (refine Gt.assign ?_; refine RW.y (Y.assign rfl) rfl ?_))
  refine RW.fn rfl rfl ((versionOf [50, 46, 48, 46, 48] (by decide) w4).mono ?_)
  rintro e w5 ⟨hk5, V5, rfl, hV5⟩
  rw [show verR (parseV (cutB 45 [50, 46, 48, 46, 48])) = (v200, 0) from by kernel_rfl] at hV5 ⊢
  obtain ⟨p5, rfl, ho5, hs5⟩ := verC hV5
  repeat' (first | (refine Gt.move ?_; refine RW.y (Y.move rfl) rfl ?_) | (refine Gt.extract ?_; refine RW.y (Y.extract rfl rfl) rfl ?_))
  refine RW.varN rfl rfl rfl (verCells ho5) rfl (fun w6 hb6 hk6 hlt6 => ?_)
  have hK6 : K0 w w6 := ((((hk1.trans0 hk2).trans0 hk3).trans0 hk4).trans0 hk5).trans0 hk6
  repeat' (first | (refine CL.seq ?_) | (refine CL.region ?_) | (refine Gt.nil ?_; refine RW.nilw [0, 1, 2, 3, 5, 8, 9, 10] ?_; dsimp only [H.keep, H.look, H.Fr.put, Nat.beq]) | (refine Gt.assign ?_; refine RW.y (Y.assign rfl) rfl ?_))
  refine RW.fn rfl rfl ((parseS [94, 49] (by decide) w6 (hM.keep0 hK6)).mono ?_)
  rintro e w7 ⟨hk7, V7, rfl, hV7⟩
  rw [show spanR (spanB [94, 49]) = (⟨false, []⟩, 61) from by kernel_rfl] at hV7 ⊢
  obtain ⟨p7, rfl, ho7, hs7⟩ := spnC hV7.at
  repeat' (first | (refine Gt.move ?_; refine RW.y (Y.move rfl) rfl ?_) | (refine Gt.extract ?_; refine RW.y (Y.extract rfl rfl) rfl ?_))
  refine RW.varN rfl rfl rfl (spnCells ho7) rfl (fun w8 hb8 hk8 hlt8 => ?_)
  have hk78 := hk7.trans0 hk8
  have hk48 := (hk5.trans0 hk6).trans0 hk78
  have hk28 := (hk3.trans0 hk4).trans0 hk48
  have hS8 := hk28.at0 hb2
  have hA8 := hk48.at0 hb4
  have hB8 := hk78.at0 hb6
  have aS : ∀ {w'}, K0 w8 w' → SpanAt w' (.agg #[.bool s120.any, p1]) s120 := fun h => ⟨p1, rfl, ((hs1.keep0 hk2).keep0 hk28).keep0 h⟩
  have aA : ∀ {w'}, K0 w8 w' → VerAt w' (.agg #[.int .i64 1, .int .i64 9, .int .i64 9, p3]) v199 := fun h => ⟨p3, rfl, ((hs3.keep0 hk4).keep0 hk48).keep0 h⟩
  have aB : ∀ {w'}, K0 w8 w' → VerAt w' (.agg #[.int .i64 2, .int .i64 0, .int .i64 0, p5]) v200 := fun h => ⟨p5, rfl, ((hs5.keep0 hk6).keep0 hk78).keep0 h⟩
  have hK8 : K0 w w8 := hK6.trans0 hk78
  repeat' (first | (refine CL.seq ?_) | (refine CL.region ?_) | (refine Gt.nil ?_; refine RW.nilw [0, 1, 2, 3, 5, 8, 9, 10] ?_; dsimp only [H.keep, H.look, H.Fr.put, Nat.beq]) | (refine Gt.assign ?_; refine RW.y (Y.assign rfl) rfl ?_) | (refine Gt.load ?_; (refine RW.y (Y.loadBlock rfl (by assumption) rfl) rfl ?_)))
  refine RW.buildL (ps := [(0, _), (1, _)]) (l := [_, _]) rfl rfl rfl (by intro v hv; simp at hv; rcases hv with rfl | rfl <;> rfl) rfl rfl (fun w9 hb9 hk9 hlt9 => ?_)
  have hvs : VersAt w9 (.slice (some ⟨w8.heap.size, 0, none⟩) 2 2) [v200, v199] := VersAt.mk (L := [(v200, p5), (v199, p3)]) hb9 (fun x hx => by
    simp at hx
    rcases hx with rfl | rfl
    · exact ((hs5.keep0 hk6).keep0 hk78).keep0 hk9
    · exact ((hs3.keep0 hk4).keep0 hk48).keep0 hk9) (by simp)
  refine RW.fn rfl rfl ((best _ _ s120 [v200, v199] w9 (aS hk9) hvs f120.fits ⟨by decide, fun x hx => by simp at hx; rcases hx with rfl | rfl <;> assumption⟩).mono ?_)
  rintro e w10 ⟨hk10, rfl⟩
  rw [show bestF s120 [v200, v199] [v200, v199].length = 1 from by decide +kernel]
  have hk810 := hk9.trans0 hk10
  have hS10 := hk810.at0 hS8
  have hA10 := hk810.at0 hA8
  have hB10 := hk810.at0 hB8
  repeat' (first | (refine CL.seq ?_) | (refine CL.region ?_) | (refine Gt.nil ?_; refine RW.nilw [0, 1, 2, 3, 5, 8, 9, 10] ?_; dsimp only [H.keep, H.look, H.Fr.put, Nat.beq]) | (refine Gt.move ?_; refine RW.y (Y.move rfl) rfl ?_) | (refine Gt.guard ?_; first | (refine RW.part rfl rfl rfl (fun _ => ?_) (fun _ => ?_) <;> try (exfalso; omega)) | (refine RW.on rfl rfl rfl ?_)) | (refine Gt.extract ?_; refine RW.y (Y.extract rfl rfl) rfl ?_) | (refine Gt.assign ?_; refine RW.y (Y.assign rfl) rfl ?_) | (refine Gt.load ?_; (refine RW.y (Y.loadBlock rfl (by assumption) rfl) rfl ?_)) | (refine Gt.pick ?_; (refine RW.y (Y.pickT rfl rfl) rfl ?_)) | (refine Gt.eql ?_; (refine RW.y (Y.eqi rfl rfl) rfl ?_)))
  refine RW.fn rfl rfl ((has _ _ s120 v199 w10 (aS hk810) (aA hk810) f120.fits F1).mono ?_)
  rintro e w11 ⟨hk11, rfl⟩
  rw [show hasB s120 v199 = true from by decide +kernel]
  have hk811 := hk810.trans0 hk11
  have hS11 := hk11.at0 hS10
  have hB11 := hk11.at0 hB10
  repeat' (first | (refine Gt.move ?_; refine RW.y (Y.move rfl) rfl ?_) | (refine Gt.guard ?_; (refine RW.on rfl rfl rfl ?_)) | (refine Gt.load ?_; (refine RW.y (Y.loadBlock rfl (by assumption) rfl) rfl ?_)) | (refine Gt.pick ?_; (refine RW.y (Y.pickT rfl rfl) rfl ?_)))
  refine RW.fn rfl rfl ((has _ _ s120 v200 w11 (aS hk811) (aB hk811) f120.fits F2).mono ?_)
  rintro e w12 ⟨hk12, rfl⟩
  rw [show hasB s120 v200 = false from by decide +kernel]
  have hS12 := hk12.at0 hS11
  have hk812 := hk811.trans0 hk12
  repeat' (first | (refine Gt.move ?_; refine RW.y (Y.move rfl) rfl ?_) | (refine Gt.guard ?_; (refine RW.on rfl rfl rfl ?_)) | (refine Gt.load ?_; (refine RW.y (Y.loadBlock rfl (by assumption) rfl) rfl ?_)) | (refine Gt.pick ?_; (refine RW.y (Y.pickT rfl rfl) rfl ?_)) | (refine Gt.not ?_; (refine RW.y (Y.notb rfl) rfl ?_)))
  refine RW.fn rfl rfl ((spanText _ s120 w12 (aS hk812) f120 (hT.keep0 (hK8.trans0 hk812))).mono ?_)
  rintro e w13 ⟨hk13, rfl⟩
  rw [show spanT s120 = [62, 61, 49, 46, 50, 46, 48, 32, 60, 50, 46, 48, 46, 48] from by decide +kernel]
  repeat' (first | (refine CL.ret ?_) | (refine Gt.nil ?_; refine RW.nilw [0, 1, 2, 3, 5, 8, 9, 10] ?_; dsimp only [H.keep, H.look, H.Fr.put, Nat.beq]) | (refine RW.y (Y.eqsS rfl rfl) rfl ?_) | (refine Gt.move ?_; refine RW.y (Y.move rfl) rfl ?_) | (refine Gt.guard ?_; first | (refine RW.part rfl rfl rfl (fun _ => ?_) (fun _ => ?_) <;> try (exfalso; omega)) | (refine RW.on rfl rfl rfl ?_)) | (refine Gt.assign ?_; refine RW.y (Y.assign rfl) rfl ?_) | (refine Gt.pick ?_; (refine RW.y (Y.pickT rfl rfl) rfl ?_)) | (refine Gt.eql ?_; (refine RW.y (Y.eqi rfl rfl) rfl ?_)))
  exact FQ.one rfl rfl rfl ⟨rfl, (hK8.trans0 hk812).trans0 hk13⟩

theorem place (k n : Int) (h0 : 0 < n) (h1 : n ≤ 1000000000) (w : World) : Calls Tryz.prog 26 #[.int .i64 k, .int .i64 n] w fun e w' => w = w' ∧ e = .returned (.int .i64 (k % n)) := by
  have hm := Int.emod_nonneg k (show n ≠ 0 from by omega)
  have hm2 := Int.emod_lt_of_pos k h0
  have hr : k.tmod n = k % n ∨ k.tmod n = k % n - n ∧ k % n ≠ 0 := by
    rw [Int.tmod_eq_emod]
    split
    · exact .inl (by omega)
    · rename_i h
      refine .inr ⟨by omega, fun c => h (.inr (Int.dvd_of_emod_eq_zero c))⟩
  have hret : ∀ a b : Int, a = b → Ending.returned (.int .i64 a) = .returned (.int .i64 b) := fun a b h => by rw [h]
  generalize k % n = r at *
  refine H.enter Tryz.func26 Tryz.ntmps26 rfl rfl ?_; dsimp only [H.args]
  repeat' (first | (refine CL.seq ?_) | (refine CL.region ?_) | (refine CL.skip ?_) | (refine CL.condP rfl (fun _ => ?_) (fun _ => ?_) <;> try (exfalso; omega)) | (refine CL.ret ?_) | (refine Gt.nil ?_; refine RW.nilw [0, 1, 4, 9] ?_; dsimp only [H.keep, H.look, H.Fr.put, Nat.beq]) | (refine RW.y (Y.rem rfl rfl (by omega)) rfl ?_) | (refine Gt.move ?_; refine RW.y (Y.move rfl) rfl ?_) | (refine Gt.assign ?_; refine RW.y (Y.assign rfl) rfl ?_) | (refine Gt.lss ?_; refine RW.y (Y.lss rfl rfl) rfl ?_) | (refine Gt.add ?_; refine RW.y (Y.add64 rfl rfl (by omega) (by omega)) rfl ?_))
  · exact FQ.one rfl rfl rfl ⟨rfl, hret _ _ (by omega)⟩
  · exact FQ.one rfl rfl rfl ⟨rfl, hret _ _ (by omega)⟩
end Go.Proofs.YtjfdhafmbcppjaaGreatDoor.Sp

namespace Go.Proofs.YtjfdhafmbcppjaaGreatDoor.Sp
open Go.RowKit H S Ve
attribute [local irreducible] H.CL H.RW H.CW H.Yd H.thenK H.blockQ Go.Calls

theorem light_fitT {s : Spn} (h : lightS s = true) (hi : ∀ m ∈ s.or, ∀ b ∈ m, I64 b.v) : FitT s := by
  simp only [lightS, Bool.and_eq_true, decide_eq_true_eq, List.all_eq_true] at h
  refine ⟨by omega, fun l hl => ⟨by have := (h.2 l hl).1; omega, fun b hb => ?_⟩⟩
  have h2 := (h.2 l hl).2 b hb
  have h3 := h2.2
  simp only [lightB, Bool.and_eq_true, decide_eq_true_eq, List.all_eq_true] at h3
  exact ⟨by omega, ⟨by omega, fun t ht => by have := h3.2 t ht; omega⟩, hi l hl b hb⟩

set_option maxHeartbeats 2000000 in
theorem lawHas (X v : Value) (s : Spn) (l : List Ver) (w : World) (hX : SpanAt w X s) (hi : ∀ m ∈ s.or, ∀ b ∈ m, I64 b.v) (hv : VersAt w v l) (hT : Tb w) (hM : Ml w) : Calls Tryz.prog 4 #[X, v] w fun e w' => e = .returned (.bool true) ∧ K0 w w' := by
  obtain ⟨p, rfl, hp1, hp⟩ := spnC hX
  refine H.enter Tryz.func4 Tryz.ntmps4 rfl rfl ?_; dsimp only [H.args]
  repeat' (first | (refine CL.seq ?_) | (refine CL.region ?_))
  refine RW.box rfl rfl (fun w1 hb1 hk1 hlt1 => ?_)
  have hb1' : w1.heap[w.heap.size]? = some (.cells #[.bool s.any, p] spnT (0, 0)) := hb1
  repeat' (first | (refine CL.seq ?_) | (refine CL.region ?_) | (refine Gt.nil ?_; refine RW.nilw [0, 1, 2, 4, 5, 6, 7, 8, 9, 11, 19, 23, 31, 44] ?_; dsimp only [H.keep, H.look, H.Fr.put, Nat.beq]) | (refine Gt.assign ?_; refine RW.y (Y.assign rfl) rfl ?_))
  refine RW.fn rfl rfl ((known w1 (hT.keep0 hk1) (hM.keep0 hk1)).mono ?_)
  rintro e w2 ⟨rfl, hk2⟩
  have hb2 := hk2.at0 hb1'
  have hK2 := hk1.trans0 hk2
  have aS : ∀ {w'}, K0 w w' → SpanAt w' (.agg #[.bool s.any, p]) s := fun h => ⟨p, rfl, hp.keep0 h⟩
  repeat' (first | (refine CL.seq ?_) | (refine CL.region ?_) | (refine CL.skip ?_) | (refine CL.condF rfl ?_) | (refine Gt.nil ?_; refine RW.nilw [0, 1, 2, 4, 5, 6, 7, 8, 9, 11, 19, 23, 31, 44] ?_; dsimp only [H.keep, H.look, H.Fr.put, Nat.beq]) | (refine Gt.load ?_; (refine RW.y (Y.loadBlock rfl (by assumption) rfl) rfl ?_)) | (refine Gt.not ?_; (refine RW.y (Y.notb rfl) rfl ?_)))
  refine RW.fn rfl rfl ((lightSpan _ s w2 (aS hK2)).mono ?_)
  rintro e w3 ⟨hk3, rfl⟩
  have hb3 := hk3.at0 hb2
  have hK3 := hK2.trans0 hk3
  obtain ⟨L, rfl, hs, hm⟩ := id hv
  cases hls : lightS s
  · repeat' (first | (refine CL.seq ?_) | (refine CL.region ?_) | (refine CL.condT rfl ?_) | (refine CL.ret ?_) | (refine Gt.nil ?_; refine RW.nilw [0, 1, 2, 4, 5, 6, 7, 8, 9, 11, 19, 23, 31, 44] ?_; dsimp only [H.keep, H.look, H.Fr.put, Nat.beq]) | (refine Gt.move ?_; refine RW.y (Y.move rfl) rfl ?_) | (refine Gt.guard ?_; (refine RW.off1 rfl rfl rfl rfl rfl ?_)) | (refine Gt.assign ?_; refine RW.y (Y.assign rfl) rfl ?_) | (refine Gt.not ?_; (refine RW.y (Y.notb rfl) rfl ?_)) | (refine Gt.pick ?_; (refine RW.y (Y.pickT rfl rfl) rfl ?_)))
    exact FQ.one rfl rfl rfl ⟨rfl, hK3⟩
  have fs := light_fitT hls hi
  have hs3 := hs.keep0 hK3
  repeat' (first | (refine CL.seq ?_) | (refine CL.region ?_) | (refine CL.skip ?_) | (refine CL.condP rfl (fun _ => ?_) (fun _ => ?_) <;> try (exfalso; omega)) | (refine CL.block ?_) | (refine CL.ret ?_) | (refine Gt.nil ?_; refine RW.nilw [0, 1, 2, 4, 5, 6, 7, 8, 9, 11, 19, 23, 31, 44] ?_; dsimp only [H.keep, H.look, H.Fr.put, Nat.beq]) | (refine Gt.move ?_; refine RW.y (Y.move rfl) rfl ?_) | (refine Gt.guard ?_; (refine RW.on rfl rfl rfl ?_)) | (refine Gt.assign ?_; refine RW.y (Y.assign rfl) rfl ?_) | (refine Gt.not ?_; (refine RW.y (Y.notb rfl) rfl ?_)) | (refine Gt.pick ?_; (refine RW.y (Y.pickF rfl rfl) rfl ?_)) | (refine Gt.len ?_; (refine RW.y (Y.lenx rfl (by assumption)) rfl ?_)) | (refine Gt.gtr ?_; refine RW.y (Y.gtr rfl rfl) rfl ?_))
  · exact FQ.one rfl rfl rfl ⟨rfl, hK3⟩
  rename_i hlen
  refine CL.loopS [1, 2, 5] (fun m vals wr => ∃ i : Nat, vals = [v, .pointer (some ⟨w.heap.size, 0, none⟩), .int .i64 (i : Int)] ∧ m = L.length - i ∧ i ≤ L.length ∧ (L.take i).all (fun x => lightB x.1) = true ∧ K0 w3 wr) L.length ⟨_, rfl, 0, rfl, rfl, Nat.zero_le _, rfl, Kept.refl _ _⟩ ?_
  rintro m vals wr ⟨i, rfl, rfl, hi', hall, hkr⟩
  dsimp only [List.zip, List.zipWith]
  have hsr := hs3.keep0 hkr
  have hbr := hkr.at0 hb3
  have hKr := hK3.trans0 hkr
  rcases Nat.lt_or_ge i L.length with hlt | hge
  · have hmem : L.getD i default ∈ L := getD_mem default hlt
    have hx := (hm _ hmem).keep0 hKr
    have hV : ∀ {w'}, K0 wr w' → VerAt w' (.agg (verCl (L.getD i default)).toArray) (L.getD i default).1 := fun h => VerAt.mk (hx.keep0 h)
    repeat' (first | (refine CL.seq ?_) | (refine CL.region ?_) | (refine CL.skip ?_) | (refine CL.condP rfl (fun _ => ?_) (fun _ => ?_) <;> try (exfalso; omega)) | (refine CL.block ?_) | (refine Gt.nil ?_; refine RW.nilw [0, 1, 2, 4, 5, 6, 7, 8, 9, 11, 19, 23, 31, 44] ?_; dsimp only [H.keep, H.look, H.Fr.put, Nat.beq]) | (refine Gt.move ?_; refine RW.y (Y.move rfl) rfl ?_) | (refine Gt.idx ?_; (refine RW.elemA rfl rfl rfl rfl (by assumption) (fun _ => by rfl) rfl (by omega) (by omega) (fun _ => ?_))) | (refine Gt.len ?_; (refine RW.y (Y.lenx rfl (by assumption)) rfl ?_)) | (refine Gt.lss ?_; refine RW.y (Y.lss rfl rfl) rfl ?_))
    rw [Int.toNat_natCast]
    refine RW.fn rfl rfl ((lightV _ _ wr (hV (Kept.refl _ _))).mono ?_)
    rintro e w4 ⟨hk4, rfl⟩
    have hs4 := hsr.keep0 hk4
    have hb4 := hk4.at0 hbr
    cases hlb : lightB (L.getD i default).1
    · repeat' (first | (refine CL.seq ?_) | (refine CL.region ?_) | (refine CL.condT rfl ?_) | (refine CL.ret ?_) | (refine Rt.then ?_) | (refine Rt.block ?_) | (refine Gt.nil ?_; refine RW.nilw [0, 1, 2, 4, 5, 6, 7, 8, 9, 11, 19, 23, 31, 44] ?_; dsimp only [H.keep, H.look, H.Fr.put, Nat.beq]) | (refine Gt.assign ?_; refine RW.y (Y.assign rfl) rfl ?_) | (refine Gt.not ?_; (refine RW.y (Y.notb rfl) rfl ?_)))
      exact FQ.one rfl rfl rfl ⟨rfl, hKr.trans0 hk4⟩
    have fx := light_fit hlb
    have hcell : ∀ {w' : World}, K0 w4 w' → ∀ (j : Nat) (u : Value), (verCl (L.getD i default))[j]? = some u → w'.cell? ((Value.spot v ((i : Int).toNat * 4)).add j) = some u := fun h => elCells (hs4.keep0 h) verCl_len hlt
    repeat' (first | (refine CL.seq ?_) | (refine CL.skip ?_) | (refine CL.condF rfl ?_) | (refine Gt.nil ?_; refine RW.nilw [0, 1, 2, 4, 5, 6, 7, 8, 9, 11, 19, 23, 31, 44] ?_; dsimp only [H.keep, H.look, H.Fr.put, Nat.beq]) | (refine Gt.not ?_; (refine RW.y (Y.notb rfl) rfl ?_)))
    refine CL.draw (fun w' => K0 w4 w') (by kernel_rfl) (fun w5 hheap hk5 => ?_)
    have hS : K0 w4 w5 := hk5
    have hk45 := hk4.trans0 hk5
    skip
    refine AW.take 0 rfl (by kernel_rfl) (by kernel_rfl) (by kernel_rfl) rfl (by assumption) (fun w hS => Y.loadBlock rfl (hS.at0 hb4) rfl) ?_
    refine AW.take 1 rfl (by kernel_rfl) (by kernel_rfl) (by kernel_rfl) rfl (by assumption) (fun w hS => Y.move rfl) ?_
    refine AW.take 2 rfl (by kernel_rfl) (by kernel_rfl) (by kernel_rfl) rfl (by assumption) (fun w hS => Y.move rfl) ?_
    refine AW.take 3 rfl (by kernel_rfl) (by kernel_rfl) (by kernel_rfl) rfl (by assumption) (fun w hS => Y.idx rfl rfl (hs4.keep0 hS) (by omega) (by omega)) ?_
    refine AW.take 4 rfl (by kernel_rfl) (by kernel_rfl) (by kernel_rfl) rfl (by assumption) (fun w hS => Y.loadN (cs := verCl (L.getD i default)) rfl rfl (hcell hS)) ?_
    refine AW.take 6 rfl (by kernel_rfl) (by kernel_rfl) (by kernel_rfl) rfl (by assumption) (fun w hS => Y.loadBlock rfl (hS.at0 hb4) rfl) ?_
    refine AW.take 7 rfl (by kernel_rfl) (by kernel_rfl) (by kernel_rfl) rfl (by assumption) (fun w hS => Y.move rfl) ?_
    refine AW.take 8 rfl (by kernel_rfl) (by kernel_rfl) (by kernel_rfl) rfl (by assumption) (fun w hS => Y.move rfl) ?_
    refine AW.take 9 rfl (by kernel_rfl) (by kernel_rfl) (by kernel_rfl) rfl (by assumption) (fun w hS => Y.idx rfl rfl (hs4.keep0 hS) (by omega) (by omega)) ?_
    refine AW.take 10 rfl (by kernel_rfl) (by kernel_rfl) (by kernel_rfl) rfl (by assumption) (fun w hS => Y.loadN (cs := verCl (L.getD i default)) rfl rfl (hcell hS)) ?_
    refine AW.next 5 rfl (by kernel_rfl) ?_
    refine RW.fn rfl rfl ((has _ _ s _ w5 (aS (hKr.trans0 hk45)) (hV hk45) fs.fits fx).mono ?_)
    rintro e w6 ⟨hk6, rfl⟩
    refine RW.nil (Nm.then (rebase0 hS hk6 fun hS => ?_))
    have hk46 := hk45.trans0 hk6
    skip
    refine AW.next 11 rfl (by kernel_rfl) ?_
    refine RW.fn rfl rfl ((refHas _ _ s _ w6 (aS (hKr.trans0 hk46)) (hV hk46) fs.fits fx).mono ?_)
    rintro e w7 ⟨hk7, rfl⟩
    refine RW.nil (Nm.then (rebase0 hS hk7 fun hS => ?_))
    refine AW.take 12 rfl (by kernel_rfl) (by kernel_rfl) (by kernel_rfl) rfl (by assumption) (fun w hS => Y.nebS rfl rfl) ?_
    refine AW.donew [1, 2, 5, 44] (by kernel_rfl) ?_
    dsimp only [H.keep, H.look, H.Fr.put, Nat.beq]
    repeat' (first | (refine CL.region ?_) | (refine CL.skip ?_) | (refine CL.condF rfl ?_) | (refine CL.done ?_) | (refine Nm.block ?_) | (refine Nm.then ?_) | (refine Gt.nil ?_; refine RW.nilw [0, 1, 2, 4, 5, 6, 7, 8, 9, 11, 19, 23, 31, 44] ?_; dsimp only [H.keep, H.look, H.Fr.put, Nat.beq]) | (refine Gt.move ?_; refine RW.y (Y.move rfl) rfl ?_) | (refine Gt.assign ?_; refine RW.y (Y.assign rfl) rfl ?_) | (refine Gt.add ?_; refine RW.y (Y.add64 rfl rfl (by omega) (by omega)) rfl ?_))
    exact ⟨L.length - (i + 1), _, rfl, rfl, rfl, by omega, i + 1, rfl, rfl, by omega, all_step default hlt hall hlb, (hkr.trans0 hk46).trans0 hk7⟩
  · have hi' : i = L.length := by omega
    subst hi'
    rw [List.take_length] at hall
    have fl : (L.map (·.1)).length ≤ 1000000 ∧ ∀ x ∈ L.map (·.1), Fit x := ⟨by rw [List.length_map]; omega, fun x hx => by
      obtain ⟨y, hy, rfl⟩ := List.mem_map.1 hx
      exact light_fit (List.all_eq_true.1 hall y hy)⟩
    repeat' (first | (refine CL.seq ?_) | (refine CL.region ?_) | (refine CL.condP rfl (fun _ => ?_) (fun _ => ?_) <;> try (exfalso; omega)) | (refine CL.exit ?_) | (refine Ex.then ?_) | (refine Ex.hit ?_) | (refine Gt.nil ?_; refine RW.nilw [0, 1, 2, 4, 5, 6, 7, 8, 9, 11, 19, 23, 31, 44] ?_; dsimp only [H.keep, H.look, H.Fr.put, Nat.beq]) | (refine Gt.move ?_; refine RW.y (Y.move rfl) rfl ?_) | (refine Gt.load ?_; (refine RW.y (Y.loadBlock rfl (by assumption) rfl) rfl ?_)) | (refine Gt.len ?_; (refine RW.y (Y.lenx rfl (by assumption)) rfl ?_)) | (refine Gt.lss ?_; refine RW.y (Y.lss rfl rfl) rfl ?_))
    refine RW.fn rfl rfl ((best _ _ s _ wr (aS hKr) (hv.keep0 hKr) fs.fits fl).mono ?_)
    rintro e w4 ⟨hk4, rfl⟩
    have hb4 := hk4.at0 hbr
    repeat' (first | (refine CL.seq ?_) | (refine CL.region ?_) | (refine Gt.nil ?_; refine RW.nilw [0, 1, 2, 4, 5, 6, 7, 8, 9, 11, 19, 23, 31, 44] ?_; dsimp only [H.keep, H.look, H.Fr.put, Nat.beq]) | (refine Gt.move ?_; refine RW.y (Y.move rfl) rfl ?_) | (refine Gt.assign ?_; refine RW.y (Y.assign rfl) rfl ?_) | (refine Gt.load ?_; (refine RW.y (Y.loadBlock rfl (by assumption) rfl) rfl ?_)) | (refine Gt.extract ?_; refine RW.y (Y.extract rfl rfl) rfl ?_))
    refine RW.fn rfl rfl ((refBest _ _ s _ w4 (aS (hKr.trans0 hk4)) (hv.keep0 (hKr.trans0 hk4)) fs.fits fl).mono ?_)
    rintro e w5 ⟨hk5, rfl⟩
    have hb5 := hk5.at0 hb4
    have hK5 := (hKr.trans0 hk4).trans0 hk5
    repeat' (first | (refine CL.seq ?_) | (refine Gt.nil ?_; refine RW.nilw [0, 1, 2, 4, 5, 6, 7, 8, 9, 11, 19, 23, 31, 44] ?_; dsimp only [H.keep, H.look, H.Fr.put, Nat.beq]) | (refine Gt.move ?_; refine RW.y (Y.move rfl) rfl ?_) | (refine Gt.assign ?_; refine RW.y (Y.assign rfl) rfl ?_) | (refine Gt.extract ?_; refine RW.y (Y.extract rfl rfl) rfl ?_))
    refine CL.draw (fun w' => K0 w5 w') (by kernel_rfl) (fun w6 hheap hk6 => ?_)
    have hS : K0 w5 w6 := hk6
    skip
    refine AW.take 0 rfl (by kernel_rfl) (by kernel_rfl) (by kernel_rfl) rfl (by assumption) (fun w hS => Y.move rfl) ?_
    refine AW.take 1 rfl (by kernel_rfl) (by kernel_rfl) (by kernel_rfl) rfl (by assumption) (fun w hS => Y.move rfl) ?_
    refine AW.take 2 rfl (by kernel_rfl) (by kernel_rfl) (by kernel_rfl) rfl (by assumption) (fun w hS => Y.eqiS rfl rfl) ?_
    refine AW.take 3 rfl (by kernel_rfl) (by kernel_rfl) (by kernel_rfl) rfl (by assumption) (fun w hS => Y.move rfl) ?_
    refine AW.takeOn 4 rfl (by kernel_rfl) (by kernel_rfl) (by kernel_rfl) rfl rfl rfl rfl (by assumption) (fun w hS => Y.move rfl) ?_
    refine AW.takeOn 5 rfl (by kernel_rfl) (by kernel_rfl) (by kernel_rfl) rfl rfl rfl rfl (by assumption) (fun w hS => Y.move rfl) ?_
    refine AW.takeOn 6 rfl (by kernel_rfl) (by kernel_rfl) (by kernel_rfl) rfl rfl rfl rfl (by assumption) (fun w hS => Y.eqbS rfl rfl) ?_
    refine AW.take 7 rfl (by kernel_rfl) (by kernel_rfl) (by kernel_rfl) rfl (by assumption) (fun w hS => by exact Y.pickT rfl rfl) ?_
    refine AW.take 8 rfl (by kernel_rfl) (by kernel_rfl) (by kernel_rfl) rfl (by assumption) (fun w hS => Y.move rfl) ?_
    refine AW.takeOn 9 rfl (by kernel_rfl) (by kernel_rfl) (by kernel_rfl) rfl rfl rfl rfl (by assumption) (fun w hS => Y.loadBlock rfl (hS.at0 hb5) rfl) ?_
    refine AW.takeOn 11 rfl (by kernel_rfl) (by kernel_rfl) (by kernel_rfl) rfl rfl rfl rfl (by assumption) (fun w hS => Y.loadBlock rfl (hS.at0 hb5) rfl) ?_
    refine AW.next 10 rfl (by kernel_rfl) ?_
    refine RW.on rfl rfl rfl ?_
    refine RW.fn rfl rfl ((spanText _ s w6 (aS (hK5.trans0 hk6)) fs (hT.keep0 (hK5.trans0 hk6))).mono ?_)
    rintro e w7 ⟨hk7, rfl⟩
    refine RW.nil (Nm.then (rebase0 hS hk7 fun hS => ?_))
    have hK7 := (hK5.trans0 hk6).trans0 hk7
    refine AW.next 12 rfl (by kernel_rfl) ?_
    refine RW.on rfl rfl rfl ?_
    refine RW.fn rfl rfl ((refSpanText _ s w7 (aS hK7) fs).mono ?_)
    rintro e w8 ⟨hk8, rfl⟩
    refine RW.nil (Nm.then (rebase0 hS hk8 fun hS => ?_))
    refine AW.takeOn 13 rfl (by kernel_rfl) (by kernel_rfl) (by kernel_rfl) rfl rfl rfl rfl (by assumption) (fun w hS => Y.eqsS rfl rfl) ?_
    refine AW.take 14 rfl (by kernel_rfl) (by kernel_rfl) (by kernel_rfl) rfl (by assumption) (fun w hS => by exact Y.pickT rfl rfl) ?_
    refine AW.take 15 rfl (by kernel_rfl) (by kernel_rfl) (by kernel_rfl) rfl (by assumption) (fun w hS => Y.assign rfl) ?_
    refine AW.donew [4] (by kernel_rfl) ?_
    dsimp only [H.keep, H.look, H.Fr.put, Nat.beq]
    repeat' ((refine CL.ret ?_))
    exact FQ.one rfl rfl rfl ⟨rfl, hK7.trans0 hk8⟩
end Go.Proofs.YtjfdhafmbcppjaaGreatDoor.Sp

namespace Go.Proofs.YtjfdhafmbcppjaaGreatDoor.H
open Go.ChangeShapes Go.WideShapes Go.RowKit

/-- What a reading of a type's cells tells. -/
class Opn (P : Program) (t : TypeId) (α : outParam Type) (en : outParam (α → List Value)) (ok : outParam (World → α → Prop)) : Prop where
  out : ∀ (H : Type) (enc : TypeId × Value → H) (W : World) (fuel : Nat) (cs : List Value) (x : DataW H × List MemPlace), DataW.trod enc P W 0 (fun _ => true) true fuel t cs = some x → ∃ a, cs = en a ∧ ok W a
class Cel (P : Program) (t : TypeId) (n : outParam Nat) : Prop where out : P.cellsOf t = n
theorem Cel.of {P : Program} {t : TypeId} {z : Value} {s b : Nat} [h : Inf P t z s b] : Cel P t s := ⟨by
  have h := h.out
  cases hi : P.info? t with
  | none => simp [hi] at h
  | some i =>
    simp only [hi, Option.map_some, Option.some.injEq, Prod.mk.injEq] at h
    simp [Program.cellsOf, hi, h.2.1]⟩
instance {P : Program} {t : TypeId} {z : Value} {s b : Nat} [h : Inf P t z s b] : Cel P t s := Cel.of
class CelS (P : Program) (t : TypeId) (n : outParam Nat) : Prop where
  out : P.cellsOf t = n
  pos : 0 < n

theorem wf_of {k : IntKind} {n : Int} (h : (Lit.int k n).wf = true) : k.min ≤ n ∧ n ≤ k.max := by
  simpa [Lit.wf] using h

instance (priority := low) {P : Program} {t : TypeId} {k : IntKind} [h : Und P t (.int k)] : Opn P t Int (fun n => [.int k n]) (fun _ n => k.min ≤ n ∧ n ≤ k.max) := ⟨fun _ _ _ _ _ _ hx => by
  obtain ⟨n, rfl, rfl, hw⟩ := DataW.trod_int h.out hx
  exact ⟨n, rfl, wf_of hw⟩⟩
instance {P : Program} {t : TypeId} [h : Und P t (.int .i64)] : Opn P t Int (fun n => [.int .i64 n]) (fun _ n => -9223372036854775808 ≤ n ∧ n ≤ 9223372036854775807) := ⟨fun _ _ _ _ _ _ hx => by
  obtain ⟨n, rfl, rfl, hw⟩ := DataW.trod_int h.out hx
  exact ⟨n, rfl, bounds_i64 hw⟩⟩
instance {P : Program} {t : TypeId} [h : Und P t (.int .u64)] : Opn P t Nat (fun n => [.int .u64 (n : Int)]) (fun _ n => n < 18446744073709551616) := ⟨fun _ _ _ _ _ _ hx => by
  obtain ⟨n, rfl, rfl, hw⟩ := DataW.trod_int h.out hx
  have := bounds_u64 hw
  exact ⟨n.toNat, by rw [Int.toNat_of_nonneg this.1], by omega⟩⟩
instance {P : Program} {t : TypeId} [h : Und P t (.int .u8)] : Opn P t UInt8 (fun n => [vb n]) (fun _ _ => True) := ⟨fun _ _ _ _ _ _ hx => by
  obtain ⟨n, rfl, rfl, hw⟩ := DataW.trod_int h.out hx
  have := bounds_u8 hw
  refine ⟨UInt8.ofNat n.toNat, ?_, trivial⟩
  simp only [vb, UInt8.toNat_ofNat']
  congr 2
  omega⟩
instance {P : Program} {t : TypeId} [h : Und P t .bool] : Opn P t Bool (fun b => [.bool b]) (fun _ _ => True) := ⟨fun _ _ _ _ _ _ hx => by
  obtain ⟨n, rfl, rfl⟩ := DataW.trod_bool h.out hx
  exact ⟨n, rfl, trivial⟩⟩
instance {P : Program} {t : TypeId} [h : Und P t .string] : Opn P t (List UInt8) (fun s => [vs s]) (fun _ s => s.length ≤ 9223372036854775807) := ⟨fun _ _ _ _ _ _ hx => by
  obtain ⟨s, rfl, rfl, hw⟩ := DataW.trod_string h.out hx
  refine ⟨s.data.toList, rfl, ?_⟩
  simpa [maxLen] using hw⟩

theorem addr_none {w : World} {a : Addr} {v : Value} (h : w.cell? a = some v) : ∃ c e fz, w.heap[a.block]? = some (.cells c e fz) ∧ a.spot = none ∧ c[a.off]? = some v := by
  unfold World.cell? at h
  split at h
  · rename_i c e fz hc
    split at h
    · cases h
    · rename_i hs
      exact ⟨c, e, fz, hc, by simpa using hs, h⟩
  · cases h

theorem list_grow {L cs : List Value} {off k sz : Nat} (hl : cs.length = sz) (h : ∀ j, j < sz → L[off + k * sz + j]? = cs[j]?) : (L.drop off).take ((k + 1) * sz) = (L.drop off).take (k * sz) ++ cs := by
  rw [Nat.succ_mul, List.take_add]
  congr 1
  apply List.ext_getElem?
  intro j
  rw [List.getElem?_take]
  split
  · rename_i hj
    rw [List.drop_drop, List.getElem?_drop]
    exact h j hj
  · rename_i hj
    rw [List.getElem?_eq_none (by omega)]

/-- A slice's reading. -/
instance {P : Program} {t e : TypeId} {sz : Nat} [h : Und P t (.slice e)] [hc : CelS P e sz] {β : Type} {en : β → List Value} {ok : World → β → Prop} [ho : Opn P e β en ok] :
    Opn P t (Value × List β) (fun p => [p.1]) (fun W p => Sl W sz p.1 p.2.length (p.2.flatMap en) ∧ ∀ x ∈ p.2, ok W x) := ⟨fun H enc W fuel cs x hx => by
  have hpos := hc.pos
  rcases Go.Deep.open_slice h.out hx with ⟨rfl, _⟩ | ⟨a, len, cap, m, n, D, Pl, rfl, _, hl, hm, hmm, _, hel⟩
  · exact ⟨(_, []), rfl, by simpa using Sl.nil W sz, by simp⟩
  have hel : ∀ i, i < cap → ∃ cs', W.cells? 0 (a.add (i * sz)) sz = some cs' ∧ DataW.trod enc P W 0 (fun _ => true) true n e cs' = some (D i, Pl i) := fun i hi => by
    have := hel i (by rw [hmm]; simpa using hi)
    rw [hc.out] at this
    exact this
  by_cases h0 : cap = 0
  · subst h0
    have : len = 0 := by omega
    subst this
    exact ⟨(_, []), rfl, ⟨by simp, by simp, .inl ⟨_, rfl, rfl⟩⟩, by simp⟩
  obtain ⟨cs0, hcs0, _⟩ := hel 0 (by omega)
  obtain ⟨_, hlen0, hat0⟩ := World.cells?_some hcs0
  have h00 := hat0 0 (by omega)
  rw [List.getElem?_eq_getElem (by omega)] at h00
  have hz : (a.add (0 * sz)).add 0 = a := by unfold Addr.add; simp
  rw [hz] at h00
  obtain ⟨c, e', fz, hb, hsp, _⟩ := addr_none h00
  obtain ⟨g, off, sp⟩ := a
  simp only at hsp
  subst hsp
  have hcell : ∀ i, i < cap → ∃ cs', cs'.length = sz ∧ (∃ b, cs' = en b ∧ ok W b) ∧ ∀ j, j < sz → c.toList[off + i * sz + j]? = cs'[j]? := by
    intro i hi
    obtain ⟨cs', h1, h2⟩ := hel i hi
    obtain ⟨_, h4, h5⟩ := World.cells?_some h1
    refine ⟨cs', h4, ho.out H enc W n cs' _ h2, fun j hj => ?_⟩
    have := h5 j hj
    rw [addr_add, addr_add, cell_row (off := 0) hb] at this
    rw [← this, Array.getElem?_toList]
  have grow : ∀ k, k ≤ cap → ∃ xs : List β, xs.length = k ∧ (c.toList.drop off).take (k * sz) = xs.flatMap en ∧ (∀ x ∈ xs, ok W x) ∧ (xs.flatMap en).length = k * sz := by
    intro k
    induction k with
    | zero => intro _; exact ⟨[], rfl, by simp, by simp, by simp⟩
    | succ k ih =>
      intro hk
      obtain ⟨xs, h1, h2, h3, h6⟩ := ih (by omega)
      obtain ⟨cs', h4, ⟨b, rfl, hb'⟩, h5⟩ := hcell k (by omega)
      refine ⟨xs ++ [b], by simp [h1], ?_, ?_, ?_⟩
      · rw [list_grow h4 h5, h2]; simp
      · intro x hx
        rcases List.mem_append.1 hx with hx | hx
        · exact h3 x hx
        · simp only [List.mem_singleton] at hx; subst hx; exact hb'
      · rw [List.flatMap_append, List.length_append, h6]; simp [h4, Nat.succ_mul]
  have hsize : off + cap * sz ≤ c.size := by
    obtain ⟨cs', h4, _, h5⟩ := hcell (cap - 1) (by omega)
    have h6 := h5 (sz - 1) (by omega)
    rw [show cs'[sz - 1]? = some (cs'[sz - 1]'(by omega)) from List.getElem?_eq_getElem (by omega)] at h6
    have h7 := (List.getElem?_eq_some_iff.1 h6).1
    have : (cap - 1) * sz + sz = cap * sz := by
      have : cap = (cap - 1) + 1 := by omega
      conv => rhs; rw [this, Nat.succ_mul]
    simp only [Array.length_toList] at h7
    omega
  obtain ⟨xs, h1, h2, h3, h6⟩ := grow len hl
  subst h1
  exact ⟨(_, xs), rfl, ⟨h6, Nat.le_trans hl hm, .inr ⟨g, off, cap, c, e', fz, rfl, hb, hl, hm, hsize, h2⟩⟩, h3⟩⟩

/-- Fields, one behind the other. -/
class OpnF (P : Program) (ts : List TypeId) (α : outParam Type) (en : outParam (α → List Value)) (ok : outParam (World → α → Prop)) (len : outParam Nat) : Prop where
  out : ∀ (H : Type) (enc : TypeId × Value → H) (W : World) (n off : Nat) (cs : List Value), off + len ≤ cs.length →
    (∀ (pre : List TypeId) (t : TypeId) (post : List TypeId), ts = pre ++ t :: post → ∃ x, DataW.trod enc P W 0 (fun _ => true) true n t ((cs.drop (off + (pre.map P.cellsOf).sum)).take (P.cellsOf t)) = some x) →
    ∃ a, (cs.drop off).take len = en a ∧ ok W a
  sum : (ts.map P.cellsOf).sum = len
instance {P : Program} : OpnF P [] Unit (fun _ => []) (fun _ _ => True) 0 := ⟨fun _ _ _ _ _ _ _ _ => ⟨(), by simp, trivial⟩, rfl⟩
instance {P : Program} {t : TypeId} {ts : List TypeId} {α β : Type} {en : α → List Value} {ok : World → α → Prop} {en' : β → List Value} {ok' : World → β → Prop} {c l : Nat} [hc : Cel P t c] [h1 : Opn P t α en ok] [h2 : OpnF P ts β en' ok' l] :
    OpnF P (t :: ts) (α × β) (fun p => en p.1 ++ en' p.2) (fun W p => ok W p.1 ∧ ok' W p.2) (c + l) := ⟨fun H enc W n off cs hl hf => by
  obtain ⟨x, hx⟩ := hf [] t ts rfl
  simp only [List.map_nil, List.sum_nil, Nat.add_zero] at hx
  rw [hc.out] at hx
  obtain ⟨a, ha, hok⟩ := h1.out H enc W n _ x hx
  obtain ⟨b, hb, hok'⟩ := h2.out H enc W n (off + c) cs (by omega) (fun pre u post he => by
    obtain ⟨y, hy⟩ := hf (t :: pre) u post (by rw [he]; rfl)
    refine ⟨y, ?_⟩
    simp only [List.map_cons, List.sum_cons, hc.out] at hy
    rw [Nat.add_assoc]; exact hy)
  refine ⟨(a, b), ?_, hok, hok'⟩
  rw [List.take_add, ha, List.drop_drop, hb], by rw [List.map_cons, List.sum_cons, hc.out, h2.sum]⟩

def offsOk (P : Program) : Nat → List Field → Bool
  | _, [] => true
  | o, f :: r => f.offset == o && offsOk P (o + P.cellsOf f.type) r

theorem offs_at {P : Program} : ∀ (fs : List Field) (o : Nat), offsOk P o fs = true → ∀ (pre : List Field) (f : Field) (post : List Field), fs = pre ++ f :: post → f.offset = o + ((pre.map (·.type)).map P.cellsOf).sum := by
  intro fs
  induction fs with
  | nil => intro o _ pre f post h; cases pre <;> cases h
  | cons a r ih =>
    intro o h pre f post he
    simp only [offsOk, Bool.and_eq_true, beq_iff_eq] at h
    cases pre with
    | nil => simp only [List.nil_append, List.cons.injEq] at he; obtain ⟨rfl, _⟩ := he; simp [h.1]
    | cons b pre =>
      simp only [List.cons_append, List.cons.injEq] at he
      obtain ⟨rfl, he⟩ := he
      rw [ih _ h.2 pre f post he]
      simp [Nat.add_assoc]

/-- A struct's reading. -/
class StrT (P : Program) (t : TypeId) (ts : outParam (List TypeId)) : Prop where
  out : ∃ fs, P.underlying t = some (.struct fs) ∧ fs.toList.map (·.type) = ts ∧ offsOk P 0 fs.toList = true ∧ P.cellsOf t = (ts.map P.cellsOf).sum
instance {P : Program} {t : TypeId} {ts : List TypeId} [hS : StrT P t ts] {α : Type} {en : α → List Value} {ok : World → α → Prop} {len : Nat} [h : OpnF P ts α en ok len] : Opn P t α en ok := ⟨fun H enc W fuel cs x hx => by
  obtain ⟨fs, hu, hts, hof, hlen⟩ := hS.out
  obtain ⟨xs, n, rfl, rfl, hl, hxl, hf⟩ := DataW.trod_struct hu hx
  rw [hlen, h.sum] at hl
  subst hts
  obtain ⟨a, ha, hok⟩ := h.out H enc W n 0 cs (by omega) (fun pre u post he => by
    obtain ⟨i, hi⟩ : ∃ i, pre.length = i := ⟨_, rfl⟩
    have hlen2 : pre.length < fs.toList.length := by
      have := congrArg List.length he
      simp at this
      simp; omega
    have hpre : (fs.toList.take pre.length).map (·.type) = pre := by rw [List.map_take, he]; simp
    have hget : (fs.toList.map (·.type))[pre.length]? = some u := by rw [he]; simp
    rw [List.getElem?_map, List.getElem?_eq_getElem hlen2] at hget
    simp only [Option.map_some, Option.some.injEq] at hget
    have hfi : fs[pre.length]? = some (fs.toList[pre.length]) := by rw [← Array.getElem?_toList, List.getElem?_eq_getElem hlen2]
    have hoff := offs_at fs.toList 0 hof (fs.toList.take pre.length) (fs.toList[pre.length]) (fs.toList.drop (pre.length + 1)) (by rw [← List.drop_eq_getElem_cons hlen2, List.take_append_drop])
    have h2 := hf pre.length _ hfi
    rw [hget, hoff, hpre] at h2
    rw [h2]
    have : pre.length < xs.length := by rw [hxl]; simpa using hlen2
    exact ⟨_, List.getElem?_eq_getElem this⟩)
  rw [List.drop_zero, List.take_of_length_le (by omega)] at ha
  exact ⟨a, ha, hok⟩⟩

theorem flat_one {α : Type} (f : α → Value) (l : List α) : (l.flatMap fun a => [f a]) = l.map f := by induction l with
  | nil => rfl
  | cons a l ih => rw [List.flatMap_cons, ih]; rfl
theorem Sl.map {α : Type} {f : α → Value} {W : World} {v : Value} {n : Nat} {l : List α} (h : Sl W 1 v n (l.flatMap fun a => [f a])) : Sl W 1 v n (l.map f) := by rw [← flat_one]; exact h

/-- A parameter. -/
class Top (P : Program) (t : TypeId) (α : outParam Type) (tv : outParam (α → Value)) (ok : outParam (World → α → Prop)) : Prop where
  out : ∀ (H : Type) (enc : TypeId × Value → H) (W : World) (base : Nat) (v : Value) (d : DataW H) (p : List MemPlace), Value.okWide P W .any base t v → DataW.Trod enc P W 0 (fun _ => true) true t v d p → ∃ a, v = tv a ∧ ok W a
theorem Top.one {P : Program} {t : TypeId} {desc : TypeDesc} (hu : P.underlying t = some desc) (hd : TypeDesc.isOne desc = true) {α : Type} {c : α → Value} {ok : World → α → Prop} (h : Opn P t α (fun a => [c a]) ok) : Top P t α c ok := ⟨fun H enc W base v d p hv hd' => by
  obtain ⟨fuel, hf⟩ := hd'
  obtain ⟨a, ha, hok⟩ := h.out H enc W fuel _ _ hf
  refine ⟨a, ?_, hok⟩
  have hna : ∀ cs, v ≠ .agg cs := by
    intro cs hcs
    subst hcs
    unfold Value.okWide at hv
    rw [hu] at hv
    cases desc <;> simp_all [TypeDesc.isOne, Cell.okWide, Cell.ok]
  have : v.cells = #[v] := by
    cases v with
    | agg cs => exact absurd rfl (hna cs)
    | _ => rfl
  rw [this] at ha
  simpa using ha⟩
instance {P : Program} {t : TypeId} {k : IntKind} [h : Und P t (.int k)] {α : Type} {c : α → Value} {ok : World → α → Prop} [ho : Opn P t α (fun a => [c a]) ok] : Top P t α c ok := Top.one h.out rfl ho
instance {P : Program} {t : TypeId} [h : Und P t .bool] {α : Type} {c : α → Value} {ok : World → α → Prop} [ho : Opn P t α (fun a => [c a]) ok] : Top P t α c ok := Top.one h.out rfl ho
instance {P : Program} {t : TypeId} [h : Und P t .string] {α : Type} {c : α → Value} {ok : World → α → Prop} [ho : Opn P t α (fun a => [c a]) ok] : Top P t α c ok := Top.one h.out rfl ho
instance {P : Program} {t e : TypeId} [h : Und P t (.slice e)] {α : Type} {c : α → Value} {ok : World → α → Prop} [ho : Opn P t α (fun a => [c a]) ok] : Top P t α c ok := Top.one h.out rfl ho
instance {P : Program} {t : TypeId} {ts : List TypeId} [hS : StrT P t ts] {α : Type} {en : α → List Value} {ok : World → α → Prop} [h : Opn P t α en ok] : Top P t α (fun a => .agg (en a).toArray) ok := ⟨fun H enc W base v d p hv hd' => by
  obtain ⟨fuel, hf⟩ := hd'
  obtain ⟨fs, hu, _⟩ := hS.out
  obtain ⟨cs, rfl, _⟩ := okWide_struct hu hv
  obtain ⟨a, ha, hok⟩ := h.out H enc W fuel _ _ hf
  refine ⟨a, ?_, hok⟩
  have : cs = (en a).toArray := by
    apply Array.ext'
    simpa [Value.cells] using ha
  rw [this]⟩

/-- The parameters, one behind the other. -/
class Tops (P : Program) (ts : List TypeId) (α : outParam Type) (tv : outParam (α → List Value)) (ok : outParam (World → α → Prop)) : Prop where
  out : ∀ (H : Type) (enc : TypeId × Value → H) (W : World) (base : Nat) (l : List Value) (ds : List (DataW H)) (p : List MemPlace), (∀ (j : Nat) t v, ts[j]? = some t → l[j]? = some v → Value.okWide P W .any base t v) →
    DataW.TrodAll enc P W 0 (fun _ => true) true ts l ds p → ∃ a, l = tv a ∧ ok W a
instance {P : Program} : Tops P [] Unit (fun _ => []) (fun _ _ => True) := ⟨fun _ _ _ _ l ds p _ h => by
  obtain ⟨rfl, _⟩ := trodAll_nil h
  exact ⟨(), rfl, trivial⟩⟩
instance {P : Program} {t : TypeId} {ts : List TypeId} {α β : Type} {tv : α → Value} {ok : World → α → Prop} {tv' : β → List Value} {ok' : World → β → Prop} [h1 : Top P t α tv ok] [h2 : Tops P ts β tv' ok'] :
    Tops P (t :: ts) (α × β) (fun p => tv p.1 :: tv' p.2) (fun W p => ok W p.1 ∧ ok' W p.2) := ⟨fun H enc W base l ds p hv h => by
  obtain ⟨v, vs, d, ds', p', q, rfl, rfl, rfl, hd, hr⟩ := trodAll_cons h
  obtain ⟨a, rfl, ha⟩ := h1.out H enc W base v d p' (hv 0 t v rfl rfl) hd
  obtain ⟨b, rfl, hb⟩ := h2.out H enc W base vs ds' q (fun j t' v' h1 h2 => hv (j + 1) t' v' h1 h2) hr
  exact ⟨(a, b), rfl, ha, hb⟩⟩

theorem below_kept {w w' : World} (h : K0 w w') : Below w.heap.size w w' := h.below

theorem trodAll_stays {H : Type} {enc : TypeId × Value → H} {P : Program} (hl : laidOutB P = true) {W W' : World} (hb : Below W.heap.size W W') : ∀ (ts : List TypeId) (l : List Value) (ds : List (DataW H)) (p : List MemPlace), (∀ t ∈ ts, P.readableRec t = true ∧ t < P.types.size) → (∀ x ∈ p, x.block < W.heap.size) →
    DataW.TrodAll enc P W 0 (fun _ => true) true ts l ds p → DataW.TrodAll enc P W' 0 (fun b => decide (b < W.heap.size)) true ts l ds p := by
  intro ts
  induction ts with
  | nil =>
    intro l ds p _ _ h
    obtain ⟨rfl, rfl, rfl⟩ := trodAll_nil h
    exact trodAll_mk0
  | cons t ts ih =>
    intro l ds p hts hp h
    obtain ⟨v, vs, d, ds', p', q, rfl, rfl, rfl, hd, hr⟩ := trodAll_cons h
    have h1 := hts t (by simp)
    exact trodAll_cons_mk (Below.trod hl h1.1 h1.2 hd hb fun x hx => hp x (by simp [hx])) (ih vs ds' q (fun u hu => hts u (by simp [hu])) (fun x hx => hp x (by simp [hx])) hr)

theorem trodAll_length {H : Type} {enc : TypeId × Value → H} {P : Program} {W : World} {sp : Nat → Bool} {hd : Bool} : ∀ (ts : List TypeId) (l : List Value) (ds : List (DataW H)) (p : List MemPlace), DataW.TrodAll enc P W 0 sp hd ts l ds p → ds.length = ts.length := by
  intro ts
  induction ts with
  | nil => intro l ds p h; obtain ⟨_, rfl, _⟩ := trodAll_nil h; rfl
  | cons t ts ih =>
    intro l ds p h
    obtain ⟨v, vs, d, ds', p', q, rfl, rfl, rfl, _, hr⟩ := trodAll_cons h
    simp [ih _ _ _ hr]

/-- A law that returns true and leaves all that there was as it was. -/
theorem law_contract {P : Program} (hlo : laidOutB P = true) {k : FuncId} {f : Func} {s : ChangeSpec} {tb : TypeId} (hb : P.underlying tb = some .bool) (hr : f.resultTypes = #[tb]) (hv : s.vars = [])
    {ts : List TypeId} (hts : f.params.toList = ts) (hps : ∀ t ∈ ts, P.readableRec t = true ∧ t < P.types.size) {α : Type} {tv : α → List Value} {ok : World → α → Prop} [ho : Tops P ts α tv ok]
    (hs : ∀ (H : Type) (ds : List (DataW H)), ds.length = ts.length → s.fn H ds = { results := [.lit (.bool true)], args := ds })
    (walk : ∀ (a : α) (W : World), ok W a → Calls P k (tv a).toArray W fun e W' => e = .returned (.bool true) ∧ K0 W W')
    (H : Type) (enc : TypeId × Value → H) (W : World) (base : Nat) (args : Array Value) (ds gs : List (DataW H)) (before : List MemPlace)
    (hval : ∀ (j : Nat) t v, f.params[j]? = some t → args[j]? = some v → Value.okWide P W .any base t v)
    (hW : DataW.Whole enc P f.params.toList s.vars false W args.toList ds gs before) :
    Calls P k args W fun e W' => ∃ v, e = .returned v ∧ s.post enc P f false true false false W args v W' := by
  have hW' := hW
  rw [hv] at hW
  obtain ⟨p, q, hA, hV, rfl, hfz, hnd⟩ := hW
  obtain ⟨rfl, rfl⟩ := trodVars_none hV
  have hlt : ∀ x ∈ p, x.block < W.heap.size := fun x hx => by have := hW'.lt x (by simp [hx]); simpa using this
  rw [hts] at hA
  obtain ⟨a, ha, hok⟩ := ho.out H enc W base args.toList ds p (fun j t v h1 h2 => hval j t v (by rw [← Array.getElem?_toList, hts]; exact h1) (by rw [← Array.getElem?_toList]; exact h2)) hA
  have hargs : args = (tv a).toArray := by apply Array.ext'; simpa using ha
  subst hargs
  refine (walk a W hok).mono fun e W' ⟨he, hk⟩ => ?_
  have hbel := hk.below
  have hfn := hs H (ds ++ []) (by simpa using trodAll_length _ _ _ _ hA)
  refine ⟨_, he, ds, [], p ++ [], [], p, [], hW', ?_, ?_, ?_, hbel.frame _, fun h => by cases h⟩
  · rw [hfn, hr]; exact trodAll_cons_mk (shut_bool hb _) trodAll_mk0
  · rw [hfn, hts]; simpa using trodAll_stays hlo hbel ts _ ds p hps hlt hA
  · rw [hfn, hv]; exact rfl
end Go.Proofs.YtjfdhafmbcppjaaGreatDoor.H

namespace Go.Proofs.YtjfdhafmbcppjaaGreatDoor.H
open Go.ChangeShapes Go.WideShapes Go.RowKit
/-- An array's type: how many, of what, how many cells each. -/
class ArrT (P : Program) (t : TypeId) (n : outParam Nat) (e : outParam TypeId) (sz : outParam Nat) : Prop where
  out : P.underlying t = some (.array n e)
  el : P.cellsOf e = sz
  all : P.cellsOf t = n * sz
theorem rows_cat {β : Type} {en : β → List Value} {W : World} {ok : World → β → Prop} {sz : Nat} : ∀ (n : Nat) (cs : List Value), cs.length = n * sz → (∀ i, i < n → ∃ b, (cs.drop (i * sz)).take sz = en b ∧ ok W b) → ∃ l : List β, cs = l.flatMap en ∧ l.length = n ∧ ∀ x ∈ l, ok W x
  | 0, cs, h, _ => ⟨[], by rw [Nat.zero_mul] at h; rw [List.length_eq_zero_iff.1 h]; rfl, rfl, by simp⟩
  | n + 1, cs, h, hf => by
    obtain ⟨b, hb, hok⟩ := hf 0 (by omega)
    obtain ⟨l, h1, h2, h3⟩ := rows_cat (en := en) (ok := ok) (W := W) (sz := sz) n (cs.drop sz) (by rw [List.length_drop, h, Nat.succ_mul, Nat.add_sub_cancel]) (fun i hi => by
      obtain ⟨b', h1, h2⟩ := hf (i + 1) (by omega)
      refine ⟨b', ?_, h2⟩
      rw [List.drop_drop, ← h1, Nat.succ_mul, Nat.add_comm])
    refine ⟨b :: l, ?_, by simp [h2], fun x hx => ?_⟩
    · rw [List.flatMap_cons, ← h1, ← hb, Nat.zero_mul, List.drop_zero, List.take_append_drop]
    · rcases List.mem_cons.1 hx with rfl | hx
      · exact hok
      · exact h3 x hx
instance {P : Program} {t e : TypeId} {n sz : Nat} [h : ArrT P t n e sz] {β : Type} {en : β → List Value} {ok : World → β → Prop} [ho : Opn P e β en ok] :
    Opn P t (List β) (fun l => l.flatMap en) (fun W l => l.length = n ∧ ∀ x ∈ l, ok W x) := ⟨fun H enc W fuel cs x hx => by
  obtain ⟨xs, m, rfl, rfl, hl, hxl, hel⟩ := DataW.trod_array h.out hx
  rw [h.all] at hl
  obtain ⟨l, h1, h2, h3⟩ := rows_cat (en := en) (ok := ok) (W := W) n cs hl (fun i hi => by
    have := hel i hi
    rw [h.el, List.getElem?_eq_getElem (by omega)] at this
    obtain ⟨b, hb, hok⟩ := ho.out H enc W m _ _ this
    exact ⟨b, hb, hok⟩)
  exact ⟨l, h1, h2, h3⟩⟩
theorem okWide_arr {P : Program} {w : World} {base : Nat} {t : TypeId} {v : Value} {n : Nat} {e : TypeId} (ht : P.underlying t = some (.array n e)) (h : Value.okWide P w .any base t v) : ∃ cs, v = .agg cs ∧ cs.size = P.cellsOf t := by
  simp only [Value.okWide, ht] at h
  obtain ⟨cs, h1, h2, _⟩ := h
  exact ⟨cs, h1, h2⟩
instance {P : Program} {t e : TypeId} {n sz : Nat} [h : ArrT P t n e sz] {α : Type} {en : α → List Value} {ok : World → α → Prop} [ho : Opn P t α en ok] : Top P t α (fun a => .agg (en a).toArray) ok := ⟨fun H enc W base v d p hv hd' => by
  obtain ⟨fuel, hf⟩ := hd'
  obtain ⟨cs, rfl, _⟩ := okWide_arr h.out hv
  obtain ⟨a, ha, hok⟩ := ho.out H enc W fuel _ _ hf
  refine ⟨a, ?_, hok⟩
  have : cs = (en a).toArray := by
    apply Array.ext'
    simpa [Value.cells] using ha
  rw [this]⟩
/-- The same, of one world. -/
theorem law_contractW {P : Program} (hlo : laidOutB P = true) {k : FuncId} {f : Func} {s : ChangeSpec} {tb : TypeId} (hb : P.underlying tb = some .bool) (hr : f.resultTypes = #[tb]) (hv : s.vars = [])
    {ts : List TypeId} (hts : f.params.toList = ts) (hps : ∀ t ∈ ts, P.readableRec t = true ∧ t < P.types.size) {α : Type} {tv : α → List Value} {ok : World → α → Prop} [ho : Tops P ts α tv ok]
    (hs : ∀ (H : Type) (ds : List (DataW H)), ds.length = ts.length → s.fn H ds = { results := [.lit (.bool true)], args := ds })
    (W : World) (walk : ∀ (a : α), ok W a → Calls P k (tv a).toArray W fun e W' => e = .returned (.bool true) ∧ K0 W W')
    (H : Type) (enc : TypeId × Value → H) (base : Nat) (args : Array Value) (ds gs : List (DataW H)) (before : List MemPlace)
    (hval : ∀ (j : Nat) t v, f.params[j]? = some t → args[j]? = some v → Value.okWide P W .any base t v)
    (hW : DataW.Whole enc P f.params.toList s.vars false W args.toList ds gs before) :
    Calls P k args W fun e W' => ∃ v, e = .returned v ∧ s.post enc P f false true false false W args v W' := by
  have hW' := hW
  rw [hv] at hW
  obtain ⟨p, q, hA, hV, rfl, hfz, hnd⟩ := hW
  obtain ⟨rfl, rfl⟩ := trodVars_none hV
  have hlt : ∀ x ∈ p, x.block < W.heap.size := fun x hx => by have := hW'.lt x (by simp [hx]); simpa using this
  rw [hts] at hA
  obtain ⟨a, ha, hok⟩ := ho.out H enc W base args.toList ds p (fun j t v h1 h2 => hval j t v (by rw [← Array.getElem?_toList, hts]; exact h1) (by rw [← Array.getElem?_toList]; exact h2)) hA
  have hargs : args = (tv a).toArray := by apply Array.ext'; simpa using ha
  subst hargs
  refine (walk a hok).mono fun e W' ⟨he, hk⟩ => ?_
  have hbel := hk.below
  have hfn := hs H (ds ++ []) (by simpa using trodAll_length _ _ _ _ hA)
  refine ⟨_, he, ds, [], p ++ [], [], p, [], hW', ?_, ?_, ?_, hbel.frame _, fun h => by cases h⟩
  · rw [hfn, hr]; exact trodAll_cons_mk (shut_bool hb _) trodAll_mk0
  · rw [hfn, hts]; simpa using trodAll_stays hlo hbel ts _ ds p hps hlt hA
  · rw [hfn, hv]; exact rfl
/-- The same, of one row of arguments. -/
theorem law_contractA {P : Program} (hlo : laidOutB P = true) {k : FuncId} {f : Func} {s : ChangeSpec} {tb : TypeId} (hb : P.underlying tb = some .bool) (hr : f.resultTypes = #[tb]) (hv : s.vars = [])
    {ts : List TypeId} (hts : f.params.toList = ts) (hps : ∀ t ∈ ts, P.readableRec t = true ∧ t < P.types.size) {α : Type} {tv : α → List Value} {ok : World → α → Prop} [ho : Tops P ts α tv ok]
    (hs : ∀ (H : Type) (ds : List (DataW H)), ds.length = ts.length → s.fn H ds = { results := [.lit (.bool true)], args := ds })
    (W : World) (args : Array Value) (walk : ∀ (a : α), args = (tv a).toArray → ok W a → Calls P k (tv a).toArray W fun e W' => e = .returned (.bool true) ∧ K0 W W')
    (H : Type) (enc : TypeId × Value → H) (base : Nat) (ds gs : List (DataW H)) (before : List MemPlace)
    (hval : ∀ (j : Nat) t v, f.params[j]? = some t → args[j]? = some v → Value.okWide P W .any base t v)
    (hW : DataW.Whole enc P f.params.toList s.vars false W args.toList ds gs before) :
    Calls P k args W fun e W' => ∃ v, e = .returned v ∧ s.post enc P f false true false false W args v W' := by
  have hW' := hW
  rw [hv] at hW
  obtain ⟨p, q, hA, hV, rfl, hfz, hnd⟩ := hW
  obtain ⟨rfl, rfl⟩ := trodVars_none hV
  have hlt : ∀ x ∈ p, x.block < W.heap.size := fun x hx => by have := hW'.lt x (by simp [hx]); simpa using this
  rw [hts] at hA
  obtain ⟨a, ha, hok⟩ := ho.out H enc W base args.toList ds p (fun j t v h1 h2 => hval j t v (by rw [← Array.getElem?_toList, hts]; exact h1) (by rw [← Array.getElem?_toList]; exact h2)) hA
  have hargs : args = (tv a).toArray := by apply Array.ext'; simpa using ha
  subst hargs
  refine (walk a rfl hok).mono fun e W' ⟨he, hk⟩ => ?_
  have hbel := hk.below
  have hfn := hs H (ds ++ []) (by simpa using trodAll_length _ _ _ _ hA)
  refine ⟨_, he, ds, [], p ++ [], [], p, [], hW', ?_, ?_, ?_, hbel.frame _, fun h => by cases h⟩
  · rw [hfn, hr]; exact trodAll_cons_mk (shut_bool hb _) trodAll_mk0
  · rw [hfn, hts]; simpa using trodAll_stays hlo hbel ts _ ds p hps hlt hA
  · rw [hfn, hv]; exact rfl
end Go.Proofs.YtjfdhafmbcppjaaGreatDoor.H

set_option maxRecDepth 100000
namespace Go.Proofs.YtjfdhafmbcppjaaGreatDoor.H
instance : CelS Tryz.prog 1 1 := ⟨by kernel_rfl, by decide⟩
instance : CelS Tryz.prog 2 1 := ⟨by kernel_rfl, by decide⟩
instance : CelS Tryz.prog 3 1 := ⟨by kernel_rfl, by decide⟩
instance : CelS Tryz.prog 4 1 := ⟨by kernel_rfl, by decide⟩
instance : CelS Tryz.prog 5 1 := ⟨by kernel_rfl, by decide⟩
instance : CelS Tryz.prog 6 1 := ⟨by kernel_rfl, by decide⟩
instance : CelS Tryz.prog 7 4 := ⟨by kernel_rfl, by decide⟩
instance : StrT Tryz.prog 7 [2, 3, 4, 6] := ⟨_, Tryz.underlying7, rfl, by kernel_rfl, by kernel_rfl⟩
instance : CelS Tryz.prog 8 4 := ⟨by kernel_rfl, by decide⟩
instance : StrT Tryz.prog 8 [2, 3, 4, 6] := ⟨_, Tryz.underlying8, rfl, by kernel_rfl, by kernel_rfl⟩
instance : CelS Tryz.prog 9 1 := ⟨by kernel_rfl, by decide⟩
instance : CelS Tryz.prog 10 1 := ⟨by kernel_rfl, by decide⟩
instance : CelS Tryz.prog 11 1 := ⟨by kernel_rfl, by decide⟩
instance : CelS Tryz.prog 12 1 := ⟨by kernel_rfl, by decide⟩
instance : CelS Tryz.prog 13 2 := ⟨by kernel_rfl, by decide⟩
instance : StrT Tryz.prog 13 [9, 12] := ⟨_, Tryz.underlying13, rfl, by kernel_rfl, by kernel_rfl⟩
instance : CelS Tryz.prog 14 2 := ⟨by kernel_rfl, by decide⟩
instance : StrT Tryz.prog 14 [9, 12] := ⟨_, Tryz.underlying14, rfl, by kernel_rfl, by kernel_rfl⟩
instance : CelS Tryz.prog 15 1 := ⟨by kernel_rfl, by decide⟩
instance : CelS Tryz.prog 16 1 := ⟨by kernel_rfl, by decide⟩
instance : CelS Tryz.prog 17 1 := ⟨by kernel_rfl, by decide⟩
instance : CelS Tryz.prog 18 1 := ⟨by kernel_rfl, by decide⟩
instance : StrT Tryz.prog 18 [17] := ⟨_, Tryz.underlying18, rfl, by kernel_rfl, by kernel_rfl⟩
instance : CelS Tryz.prog 19 1 := ⟨by kernel_rfl, by decide⟩
instance : StrT Tryz.prog 19 [17] := ⟨_, Tryz.underlying19, rfl, by kernel_rfl, by kernel_rfl⟩
instance : CelS Tryz.prog 20 1 := ⟨by kernel_rfl, by decide⟩
instance : CelS Tryz.prog 21 1 := ⟨by kernel_rfl, by decide⟩
instance : CelS Tryz.prog 22 1 := ⟨by kernel_rfl, by decide⟩
instance : CelS Tryz.prog 23 1 := ⟨by kernel_rfl, by decide⟩
instance : CelS Tryz.prog 24 2 := ⟨by kernel_rfl, by decide⟩
instance : StrT Tryz.prog 24 [4, 23] := ⟨_, Tryz.underlying24, rfl, by kernel_rfl, by kernel_rfl⟩
instance : CelS Tryz.prog 25 2 := ⟨by kernel_rfl, by decide⟩
instance : StrT Tryz.prog 25 [4, 23] := ⟨_, Tryz.underlying25, rfl, by kernel_rfl, by kernel_rfl⟩
instance : CelS Tryz.prog 26 1 := ⟨by kernel_rfl, by decide⟩
instance : CelS Tryz.prog 28 1 := ⟨by kernel_rfl, by decide⟩
instance : CelS Tryz.prog 30 1 := ⟨by kernel_rfl, by decide⟩
instance : CelS Tryz.prog 31 1 := ⟨by kernel_rfl, by decide⟩
instance : CelS Tryz.prog 32 1 := ⟨by kernel_rfl, by decide⟩
instance : CelS Tryz.prog 33 1 := ⟨by kernel_rfl, by decide⟩
instance : CelS Tryz.prog 34 4 := ⟨by kernel_rfl, by decide⟩
instance : StrT Tryz.prog 34 [3, 3, 3, 33] := ⟨_, Tryz.underlying34, rfl, by kernel_rfl, by kernel_rfl⟩
instance : CelS Tryz.prog 35 4 := ⟨by kernel_rfl, by decide⟩
instance : StrT Tryz.prog 35 [3, 3, 3, 33] := ⟨_, Tryz.underlying35, rfl, by kernel_rfl, by kernel_rfl⟩
instance : CelS Tryz.prog 37 1 := ⟨by kernel_rfl, by decide⟩
instance : CelS Tryz.prog 38 1 := ⟨by kernel_rfl, by decide⟩
instance : CelS Tryz.prog 39 1 := ⟨by kernel_rfl, by decide⟩
instance : CelS Tryz.prog 40 1 := ⟨by kernel_rfl, by decide⟩
instance : CelS Tryz.prog 41 1 := ⟨by kernel_rfl, by decide⟩
instance : CelS Tryz.prog 42 1 := ⟨by kernel_rfl, by decide⟩
instance : CelS Tryz.prog 44 1 := ⟨by kernel_rfl, by decide⟩
instance : CelS Tryz.prog 45 1 := ⟨by kernel_rfl, by decide⟩
instance : CelS Tryz.prog 46 3 := ⟨by kernel_rfl, by decide⟩
instance : ArrT Tryz.prog 46 3 5 1 := ⟨Tryz.underlying46, by kernel_rfl, by kernel_rfl⟩
instance : CelS Tryz.prog 47 1 := ⟨by kernel_rfl, by decide⟩
instance : CelS Tryz.prog 48 1 := ⟨by kernel_rfl, by decide⟩
instance : CelS Tryz.prog 49 1 := ⟨by kernel_rfl, by decide⟩
instance : CelS Tryz.prog 50 1 := ⟨by kernel_rfl, by decide⟩
instance : CelS Tryz.prog 51 1 := ⟨by kernel_rfl, by decide⟩
instance : CelS Tryz.prog 52 1 := ⟨by kernel_rfl, by decide⟩
instance : CelS Tryz.prog 53 1 := ⟨by kernel_rfl, by decide⟩
instance : CelS Tryz.prog 54 2 := ⟨by kernel_rfl, by decide⟩
instance : ArrT Tryz.prog 54 2 5 1 := ⟨Tryz.underlying54, by kernel_rfl, by kernel_rfl⟩
instance : CelS Tryz.prog 55 1 := ⟨by kernel_rfl, by decide⟩
instance : CelS Tryz.prog 56 1 := ⟨by kernel_rfl, by decide⟩
instance : CelS Tryz.prog 57 1 := ⟨by kernel_rfl, by decide⟩
instance : CelS Tryz.prog 58 1 := ⟨by kernel_rfl, by decide⟩
instance : CelS Tryz.prog 59 1 := ⟨by kernel_rfl, by decide⟩
instance : CelS Tryz.prog 60 1 := ⟨by kernel_rfl, by decide⟩
instance : CelS Tryz.prog 61 1 := ⟨by kernel_rfl, by decide⟩
instance : CelS Tryz.prog 62 1 := ⟨by kernel_rfl, by decide⟩
instance : CelS Tryz.prog 63 1 := ⟨by kernel_rfl, by decide⟩
instance : CelS Tryz.prog 64 1 := ⟨by kernel_rfl, by decide⟩
instance : CelS Tryz.prog 65 1 := ⟨by kernel_rfl, by decide⟩
instance : CelS Tryz.prog 67 1 := ⟨by kernel_rfl, by decide⟩
instance : CelS Tryz.prog 68 1 := ⟨by kernel_rfl, by decide⟩
instance : CelS Tryz.prog 69 5 := ⟨by kernel_rfl, by decide⟩
instance : StrT Tryz.prog 69 [9, 35] := ⟨_, Tryz.underlying69, rfl, by kernel_rfl, by kernel_rfl⟩
instance : CelS Tryz.prog 70 5 := ⟨by kernel_rfl, by decide⟩
instance : StrT Tryz.prog 70 [9, 35] := ⟨_, Tryz.underlying70, rfl, by kernel_rfl, by kernel_rfl⟩
instance : CelS Tryz.prog 71 1 := ⟨by kernel_rfl, by decide⟩
instance : CelS Tryz.prog 72 1 := ⟨by kernel_rfl, by decide⟩
instance : CelS Tryz.prog 73 1 := ⟨by kernel_rfl, by decide⟩
instance : CelS Tryz.prog 74 1 := ⟨by kernel_rfl, by decide⟩
instance : CelS Tryz.prog 75 1 := ⟨by kernel_rfl, by decide⟩
instance : CelS Tryz.prog 76 1 := ⟨by kernel_rfl, by decide⟩
instance : CelS Tryz.prog 77 1 := ⟨by kernel_rfl, by decide⟩
instance : CelS Tryz.prog 78 1 := ⟨by kernel_rfl, by decide⟩
instance : CelS Tryz.prog 79 1 := ⟨by kernel_rfl, by decide⟩
instance : CelS Tryz.prog 80 1 := ⟨by kernel_rfl, by decide⟩
instance : CelS Tryz.prog 81 1 := ⟨by kernel_rfl, by decide⟩
instance : CelS Tryz.prog 82 1 := ⟨by kernel_rfl, by decide⟩
instance : CelS Tryz.prog 83 1 := ⟨by kernel_rfl, by decide⟩
instance : CelS Tryz.prog 84 1 := ⟨by kernel_rfl, by decide⟩
instance : CelS Tryz.prog 88 1 := ⟨by kernel_rfl, by decide⟩
instance : CelS Tryz.prog 89 1 := ⟨by kernel_rfl, by decide⟩
instance : CelS Tryz.prog 90 1 := ⟨by kernel_rfl, by decide⟩
instance : CelS Tryz.prog 91 1 := ⟨by kernel_rfl, by decide⟩
instance : CelS Tryz.prog 92 1 := ⟨by kernel_rfl, by decide⟩
instance : CelS Tryz.prog 93 2 := ⟨by kernel_rfl, by decide⟩
instance : StrT Tryz.prog 93 [3, 3] := ⟨_, Tryz.underlying93, rfl, by kernel_rfl, by kernel_rfl⟩
instance : CelS Tryz.prog 94 2 := ⟨by kernel_rfl, by decide⟩
instance : StrT Tryz.prog 94 [3, 3] := ⟨_, Tryz.underlying94, rfl, by kernel_rfl, by kernel_rfl⟩
instance : CelS Tryz.prog 96 1 := ⟨by kernel_rfl, by decide⟩
instance : CelS Tryz.prog 98 1 := ⟨by kernel_rfl, by decide⟩
instance : CelS Tryz.prog 99 1 := ⟨by kernel_rfl, by decide⟩
instance : CelS Tryz.prog 100 1 := ⟨by kernel_rfl, by decide⟩
instance : CelS Tryz.prog 101 1 := ⟨by kernel_rfl, by decide⟩
instance : CelS Tryz.prog 102 2 := ⟨by kernel_rfl, by decide⟩
instance : StrT Tryz.prog 102 [101, 50] := ⟨_, Tryz.underlying102, rfl, by kernel_rfl, by kernel_rfl⟩
instance : CelS Tryz.prog 103 2 := ⟨by kernel_rfl, by decide⟩
instance : StrT Tryz.prog 103 [101, 50] := ⟨_, Tryz.underlying103, rfl, by kernel_rfl, by kernel_rfl⟩
instance : CelS Tryz.prog 104 1 := ⟨by kernel_rfl, by decide⟩
instance : CelS Tryz.prog 105 1 := ⟨by kernel_rfl, by decide⟩
instance : CelS Tryz.prog 106 1 := ⟨by kernel_rfl, by decide⟩
instance : CelS Tryz.prog 108 1 := ⟨by kernel_rfl, by decide⟩
instance : CelS Tryz.prog 109 1 := ⟨by kernel_rfl, by decide⟩
instance : CelS Tryz.prog 110 1 := ⟨by kernel_rfl, by decide⟩
instance : CelS Tryz.prog 111 1 := ⟨by kernel_rfl, by decide⟩
instance : CelS Tryz.prog 112 1 := ⟨by kernel_rfl, by decide⟩
instance : CelS Tryz.prog 113 1 := ⟨by kernel_rfl, by decide⟩
instance : CelS Tryz.prog 114 1 := ⟨by kernel_rfl, by decide⟩
instance : CelS Tryz.prog 116 1 := ⟨by kernel_rfl, by decide⟩
instance : CelS Tryz.prog 117 1 := ⟨by kernel_rfl, by decide⟩
instance : CelS Tryz.prog 119 1 := ⟨by kernel_rfl, by decide⟩
instance : CelS Tryz.prog 120 1 := ⟨by kernel_rfl, by decide⟩
instance : CelS Tryz.prog 121 3 := ⟨by kernel_rfl, by decide⟩
instance : ArrT Tryz.prog 121 3 3 1 := ⟨Tryz.underlying121, by kernel_rfl, by kernel_rfl⟩
instance : CelS Tryz.prog 122 1 := ⟨by kernel_rfl, by decide⟩
instance : CelS Tryz.prog 123 1 := ⟨by kernel_rfl, by decide⟩
instance : CelS Tryz.prog 124 1 := ⟨by kernel_rfl, by decide⟩
instance : CelS Tryz.prog 125 1 := ⟨by kernel_rfl, by decide⟩
instance : CelS Tryz.prog 126 1 := ⟨by kernel_rfl, by decide⟩
instance : CelS Tryz.prog 127 1 := ⟨by kernel_rfl, by decide⟩
instance : CelS Tryz.prog 128 1 := ⟨by kernel_rfl, by decide⟩
instance : CelS Tryz.prog 129 1 := ⟨by kernel_rfl, by decide⟩
instance : CelS Tryz.prog 130 1 := ⟨by kernel_rfl, by decide⟩
instance : CelS Tryz.prog 131 1 := ⟨by kernel_rfl, by decide⟩
instance : CelS Tryz.prog 132 1 := ⟨by kernel_rfl, by decide⟩
instance : CelS Tryz.prog 133 1 := ⟨by kernel_rfl, by decide⟩
instance : CelS Tryz.prog 134 1 := ⟨by kernel_rfl, by decide⟩
instance : CelS Tryz.prog 135 1 := ⟨by kernel_rfl, by decide⟩
instance : CelS Tryz.prog 136 1 := ⟨by kernel_rfl, by decide⟩
instance : CelS Tryz.prog 138 1 := ⟨by kernel_rfl, by decide⟩
instance : CelS Tryz.prog 139 2 := ⟨by kernel_rfl, by decide⟩
instance : StrT Tryz.prog 139 [5, 5] := ⟨_, Tryz.underlying139, rfl, by kernel_rfl, by kernel_rfl⟩
instance : CelS Tryz.prog 140 2 := ⟨by kernel_rfl, by decide⟩
instance : StrT Tryz.prog 140 [5, 5] := ⟨_, Tryz.underlying140, rfl, by kernel_rfl, by kernel_rfl⟩
instance : CelS Tryz.prog 141 32 := ⟨by kernel_rfl, by decide⟩
instance : ArrT Tryz.prog 141 16 140 2 := ⟨Tryz.underlying141, by kernel_rfl, by kernel_rfl⟩
instance : CelS Tryz.prog 142 1 := ⟨by kernel_rfl, by decide⟩
instance : CelS Tryz.prog 143 1 := ⟨by kernel_rfl, by decide⟩
instance : CelS Tryz.prog 144 1 := ⟨by kernel_rfl, by decide⟩
instance : CelS Tryz.prog 145 24 := ⟨by kernel_rfl, by decide⟩
instance : ArrT Tryz.prog 145 24 5 1 := ⟨Tryz.underlying145, by kernel_rfl, by kernel_rfl⟩
instance : CelS Tryz.prog 146 1 := ⟨by kernel_rfl, by decide⟩
instance : CelS Tryz.prog 147 1 := ⟨by kernel_rfl, by decide⟩
instance : CelS Tryz.prog 148 1 := ⟨by kernel_rfl, by decide⟩
instance : CelS Tryz.prog 150 1 := ⟨by kernel_rfl, by decide⟩
instance : CelS Tryz.prog 151 1 := ⟨by kernel_rfl, by decide⟩
instance : CelS Tryz.prog 153 1 := ⟨by kernel_rfl, by decide⟩
instance : CelS Tryz.prog 154 1 := ⟨by kernel_rfl, by decide⟩
instance : CelS Tryz.prog 155 1 := ⟨by kernel_rfl, by decide⟩
instance : CelS Tryz.prog 157 1 := ⟨by kernel_rfl, by decide⟩
instance : CelS Tryz.prog 158 1 := ⟨by kernel_rfl, by decide⟩
instance : CelS Tryz.prog 159 1 := ⟨by kernel_rfl, by decide⟩
instance : CelS Tryz.prog 160 1 := ⟨by kernel_rfl, by decide⟩
instance : CelS Tryz.prog 161 20 := ⟨by kernel_rfl, by decide⟩
instance : ArrT Tryz.prog 161 20 146 1 := ⟨Tryz.underlying161, by kernel_rfl, by kernel_rfl⟩
instance : CelS Tryz.prog 163 1 := ⟨by kernel_rfl, by decide⟩
instance : CelS Tryz.prog 165 1 := ⟨by kernel_rfl, by decide⟩
instance : CelS Tryz.prog 166 1 := ⟨by kernel_rfl, by decide⟩
instance : CelS Tryz.prog 167 3 := ⟨by kernel_rfl, by decide⟩
instance : StrT Tryz.prog 167 [9, 9, 106] := ⟨_, Tryz.underlying167, rfl, by kernel_rfl, by kernel_rfl⟩
instance : CelS Tryz.prog 168 3 := ⟨by kernel_rfl, by decide⟩
instance : StrT Tryz.prog 168 [9, 9, 106] := ⟨_, Tryz.underlying168, rfl, by kernel_rfl, by kernel_rfl⟩
instance : CelS Tryz.prog 169 1 := ⟨by kernel_rfl, by decide⟩
instance : CelS Tryz.prog 170 1 := ⟨by kernel_rfl, by decide⟩
instance : CelS Tryz.prog 171 1 := ⟨by kernel_rfl, by decide⟩
instance : CelS Tryz.prog 172 1 := ⟨by kernel_rfl, by decide⟩
instance : CelS Tryz.prog 173 1 := ⟨by kernel_rfl, by decide⟩
instance : StrT Tryz.prog 173 [9] := ⟨_, Tryz.underlying173, rfl, by kernel_rfl, by kernel_rfl⟩
instance : CelS Tryz.prog 174 1 := ⟨by kernel_rfl, by decide⟩
instance : StrT Tryz.prog 174 [9] := ⟨_, Tryz.underlying174, rfl, by kernel_rfl, by kernel_rfl⟩
instance : CelS Tryz.prog 175 32 := ⟨by kernel_rfl, by decide⟩
instance : ArrT Tryz.prog 175 32 5 1 := ⟨Tryz.underlying175, by kernel_rfl, by kernel_rfl⟩
instance : CelS Tryz.prog 176 64 := ⟨by kernel_rfl, by decide⟩
instance : ArrT Tryz.prog 176 64 5 1 := ⟨Tryz.underlying176, by kernel_rfl, by kernel_rfl⟩
instance : CelS Tryz.prog 177 4 := ⟨by kernel_rfl, by decide⟩
instance : StrT Tryz.prog 177 [17, 17, 17, 9] := ⟨_, Tryz.underlying177, rfl, by kernel_rfl, by kernel_rfl⟩
instance : CelS Tryz.prog 178 4 := ⟨by kernel_rfl, by decide⟩
instance : StrT Tryz.prog 178 [17, 17, 17, 9] := ⟨_, Tryz.underlying178, rfl, by kernel_rfl, by kernel_rfl⟩
instance : ArrT Tryz.prog 179 0 16 1 := ⟨Tryz.underlying179, by kernel_rfl, by kernel_rfl⟩
instance : StrT Tryz.prog 180 [179] := ⟨_, Tryz.underlying180, rfl, by kernel_rfl, by kernel_rfl⟩
instance : StrT Tryz.prog 181 [179] := ⟨_, Tryz.underlying181, rfl, by kernel_rfl, by kernel_rfl⟩
instance : CelS Tryz.prog 182 1 := ⟨by kernel_rfl, by decide⟩
instance : CelS Tryz.prog 183 1 := ⟨by kernel_rfl, by decide⟩
instance : CelS Tryz.prog 184 1 := ⟨by kernel_rfl, by decide⟩
instance : CelS Tryz.prog 185 1 := ⟨by kernel_rfl, by decide⟩
instance : CelS Tryz.prog 186 1 := ⟨by kernel_rfl, by decide⟩
instance : CelS Tryz.prog 187 1 := ⟨by kernel_rfl, by decide⟩
instance : CelS Tryz.prog 188 11 := ⟨by kernel_rfl, by decide⟩
instance : StrT Tryz.prog 188 [12, 12, 151, 183, 5, 5, 184, 185, 127, 186, 187] := ⟨_, Tryz.underlying188, rfl, by kernel_rfl, by kernel_rfl⟩
instance : CelS Tryz.prog 189 11 := ⟨by kernel_rfl, by decide⟩
instance : StrT Tryz.prog 189 [12, 12, 151, 183, 5, 5, 184, 185, 127, 186, 187] := ⟨_, Tryz.underlying189, rfl, by kernel_rfl, by kernel_rfl⟩
end Go.Proofs.YtjfdhafmbcppjaaGreatDoor.H

namespace Go.Proofs.YtjfdhafmbcppjaaGreatDoor.Sp
open Go.RowKit H S Ve

abbrev VerRaw := Int × Int × Int × (Value × List (List UInt8)) × Unit
abbrev BdRaw := List UInt8 × VerRaw × Unit
def cvV (x : VerRaw) : Ver × Value := (⟨x.1, x.2.1, x.2.2.1, x.2.2.2.1.2⟩, x.2.2.2.1.1)
def cvB (x : BdRaw) : Bd × Value := (⟨x.1, (cvV x.2.1).1⟩, (cvV x.2.1).2)
abbrev OrRaw := List (Value × List BdRaw)
def orRaw (lo : OrRaw) : List (List Bd) := lo.map fun x => x.2.map fun y => (cvB y).1
theorem versRaw {W : World} {v : Value} {l : List VerRaw}
    (h : Sl W 4 v l.length (l.flatMap (fun p => [Value.int .i64 p.1] ++ ([Value.int .i64 p.2.1] ++ ([Value.int .i64 p.2.2.1] ++ ([p.2.2.2.1.1] ++ [])))))) (hl : ∀ x ∈ l, Sl W 1 x.2.2.2.1.1 x.2.2.2.1.2.length (x.2.2.2.1.2.flatMap (fun s => [vs s]))) : VersAt W v (l.map fun x => (cvV x).1) := by
  refine ⟨l.map cvV, by rw [List.map_map]; rfl, ?_, fun x hx => ?_⟩
  · rw [List.length_map, List.flatMap_map]; exact h
  · obtain ⟨y, hy, rfl⟩ := List.mem_map.1 hx
    exact Sl.map (hl y hy)
theorem orRawAt {W : World} {p : Value} {lo : OrRaw} (h : Sl W 1 p lo.length (lo.flatMap (fun x => [x.1])))
    (hl : ∀ x ∈ lo, Sl W 5 x.1 x.2.length (x.2.flatMap (fun p => [vs p.1] ++ ([Value.int .i64 p.2.1.1] ++ ([Value.int .i64 p.2.1.2.1] ++ ([Value.int .i64 p.2.1.2.2.1] ++ ([p.2.1.2.2.2.1.1] ++ []))) ++ [])))
      ∧ ∀ y ∈ x.2, Sl W 1 y.2.1.2.2.2.1.1 y.2.1.2.2.2.1.2.length (y.2.1.2.2.2.1.2.flatMap (fun s => [vs s]))) : OrAt W p (orRaw lo) := by
  refine ⟨lo.map (fun x => (x.2.map (fun y => (cvB y).1), x.1)), by rw [List.map_map]; rfl, ?_, fun x hx => ?_⟩
  · rw [List.length_map, List.map_map]
    have : lo.map ((fun x => x.2) ∘ fun x => (x.2.map (fun y => (cvB y).1), x.1)) = lo.flatMap (fun x => [x.1]) := by
      induction lo with
      | nil => rfl
      | cons a r ih => rw [List.map_cons, List.flatMap_cons, List.singleton_append]; congr 1; clear ih h hl; induction r with
        | nil => rfl
        | cons b r ih => rw [List.map_cons, List.flatMap_cons, List.singleton_append, ih]; rfl
    rw [this]; exact h
  · obtain ⟨y, hy, rfl⟩ := List.mem_map.1 hx
    obtain ⟨h1, h2⟩ := hl y hy
    refine ⟨y.2.map cvB, by rw [List.map_map]; rfl, ?_, fun z hz => ?_⟩
    · rw [List.length_map, List.flatMap_map]; exact h1
    · obtain ⟨u, hu, rfl⟩ := List.mem_map.1 hz
      exact Sl.map (h2 u hu)
end Go.Proofs.YtjfdhafmbcppjaaGreatDoor.Sp

namespace Go.Proofs.YtjfdhafmbcppjaaGreatDoor.Ve
open Go.RowKit H
theorem tab_at {P : Program} {W : World} {name : String} {k : IntKind} {zs : List Int} {rest : List (String × DataW Unit)} {t e : TypeId} {n : Nat}
    (hty : (P.globalNamed name).bind (fun g => (P.globals[g]?).map (·.type)) = some t) (ht : P.underlying t = some (.array n e)) (he : P.underlying e = some (.int k)) (hce : P.cellsOf e = 1) (hct : P.cellsOf t = n)
    (h : laidMet P ((name, Go.Lib.tabData k zs) :: rest) W) : Go.Lib.TabIs P W name k zs := by
  obtain ⟨g, hg⟩ : ∃ g, P.globalNamed name = some g := by
    cases hh : P.globalNamed name with
    | none => rw [hh] at hty; cases hty
    | some g => exact ⟨g, rfl⟩
  rw [hg] at hty
  exact Go.Lib.tabIs_of_head hg hty ht he hce hct h
theorem tb_of {W : World} {rest : List (String × DataW Unit)} (h : laidMet Tryz.prog (("internal/strconv.uint64pow10", Rows.laid_internal_strconv_uint64pow10) :: rest) W) : Tb W :=
  tab_at (t := 161) (by kernel_rfl) Tryz.underlying161 Tryz.underlying146 (by kernel_rfl) (by kernel_rfl) h
end Go.Proofs.YtjfdhafmbcppjaaGreatDoor.Ve

namespace Go.Proofs.YtjfdhafmbcppjaaGreatDoor.H
open Go Go.RowKit
variable {Hh : Type} {enc : TypeId × Value → Hh}
/-- A row out of its walk: the listed variables, and the shape of the first world. -/
theorem handed_and_shaped {a : Assume} {C : Checked} {os : Os} {f : FuncId} {fn : Func} {s : ChangeSpec} {conds : List PathCond} {apart fresh handsOn again : Bool} {X : World → Array Value → Prop}
    (hX : ∀ (w w' : World) (args : Array Value), w.heap = w'.heap → X w args → X w' args)
    (own : ownKnob C.prog.godebug = none) (started : os.Started) (noInit : C.prog.inits.idxOf? f = none) (hfn : C.prog.funcs[f]? = some fn)
    (witness : ∃ (w : World) (tape : Tape) (i : Input), w.os = os ∧ (w.forCall tape i).Shaped C.prog ∧ i.vars = [] ∧ Input.okWide C.prog (w.forCall tape i) .any w.heap.size f i ∧
      ((s.pre enc C.prog fn conds apart (w.forCall tape i).memory i.args ∧ X (w.forCall tape i).memory i.args) ∧ sizedMet enc C.prog fn (OpenSpec.ofChange s) apart (w.forCall tape i).memory i.args) ∧ a.holds C.prog (lone (Frame.enter C.prog f i.args .normal) [] (w.forCall tape i)))
    (contract : ∀ (W : World) (base : Nat) (args : Array Value) (ds gs : List (DataW Hh)) (before : List MemPlace),
      (∀ (j : Nat) t v, fn.params[j]? = some t → args[j]? = some v → Value.okWide C.prog W .any base t v) →
      DataW.Whole enc C.prog fn.params.toList s.vars apart W args.toList ds gs before → X W args → W.ShapedOpen C.prog →
      Calls C.prog f args W fun e W' => ∃ v, e = .returned v ∧ s.post enc C.prog fn apart fresh handsOn again W args v W') :
    ReturnsInHanded a C os f .any (fun w args => (s.pre enc C.prog fn conds apart w args ∧ X w args) ∧ sizedMet enc C.prog fn (OpenSpec.ofChange s) apart w args) (s.post enc C.prog fn apart fresh handsOn again) := by
  refine returnsInHanded_of_calls own started noInit witness ?_
  intro w tape i _ hsh _ hok hpre _
  obtain ⟨_, _, _, fn', hfn', _, _, _, _, hval⟩ := hok
  have e : fn' = fn := Option.some.inj (hfn'.symm.trans hfn)
  subst e
  obtain ⟨⟨⟨ds, gs, before, hw, _⟩, hx⟩, _⟩ := hpre
  have hw' := DataW.Whole.of_heap (w' := w.forCall tape i) (by rfl) hw
  refine (contract (w.forCall tape i) w.heap.size i.args ds gs before hval hw' (hX _ _ _ (by rfl) hx) hsh).mono fun e W' ⟨v, he, hp⟩ => ?_
  subst he
  exact ChangeSpec.post_blind hp
end Go.Proofs.YtjfdhafmbcppjaaGreatDoor.H
namespace Go.Proofs.YtjfdhafmbcppjaaGreatDoor.S
open Go Go.RowKit
theorem ml_of {W : World} (h : W.ShapedOpen Tryz.prog) : Ml W := cell_of_shapedOpen_int (zero := #[.int .i64 0]) (t := 3) h (of_decide_eq_true (by kernel_rfl)) (by kernel_rfl) rfl (by kernel_rfl) (by kernel_rfl) Tryz.underlying3
end Go.Proofs.YtjfdhafmbcppjaaGreatDoor.S

namespace Go.Proofs.YtjfdhafmbcppjaaGreatDoor.spanHas
open Go.ChangeShapes Go.WideShapes Go.ChangeAt Go.RowKit
set_option linter.unusedVariables false

theorem own : ownKnob Tryz.prog.godebug = none := by kernel_rfl
theorem types : ∀ t ∈ ([25, 40] : List TypeId), Tryz.prog.readableRec t = true ∧ t < Tryz.prog.types.size := by
  intro t ht
  simp only [List.mem_cons, List.not_mem_nil, or_false] at ht
  rcases ht with rfl | rfl <;> exact ⟨by kernel_rfl, of_decide_eq_true (by kernel_rfl)⟩

set_option maxRecDepth 100000 in
theorem lifted (os : Os) (started : os.Started) (H : Type) (enc : TypeId × Value → H) :
    ReturnsInHanded {} Tryz.checked os 4 .any (fun w args => (Rows.spanHasSpec.pre enc Tryz.prog Tryz.f4 Rows.spanHasRow.domain false w args ∧ laidMetH Tryz.prog Rows.spanHasRow.laid w) ∧ sizedMet enc Tryz.prog Tryz.f4 (OpenSpec.ofChange Rows.spanHasSpec) false w args) (Rows.spanHasSpec.post enc Tryz.prog Tryz.f4 false true false false) := by
  refine Go.Proofs.YtjfdhafmbcppjaaGreatDoor.H.handed_and_shaped (C := Tryz.checked) (X := fun w _ => laidMetH Tryz.prog Rows.spanHasRow.laid w) (fun _ _ _ hh h => h.of_heap hh) own started (by kernel_rfl) Tryz.func4
    (ChangeSpec.witness_shaped (enc := enc) (C := Tryz.checked) (os := os) (X := fun w _ => laidMetH Tryz.prog Rows.spanHasRow.laid w) false (World.laidAll Tryz.prog os Rows.spanHasRow.laid) #[Value.agg #[.bool false, .slice none 0 0], .slice none 0 0] 8 (World.laidAll_os _ _ _)
      (World.shaped_of_ZipB (by kernel_rfl) (by kernel_rfl)) (by kernel_rfl) (by kernel_rfl) (by kernel_rfl)
      (by rw [MakeChecks.laidMetH_plain _ _ _ (by kernel_rfl)]; exact laidMet_laidAll _ (by kernel_rfl) (by kernel_rfl))) ?_
  intro W base args ds gs before hval hW hL hsh
  have hL' : laidMet Tryz.prog Rows.spanHasRow.laid W := by have h := hL; rw [MakeChecks.laidMetH_plain _ _ _ (by kernel_rfl)] at h; exact h
  have hT := Go.Proofs.YtjfdhafmbcppjaaGreatDoor.Ve.tb_of hL'.tail.tail
  have hM := Go.Proofs.YtjfdhafmbcppjaaGreatDoor.S.ml_of hsh
  exact Go.Proofs.YtjfdhafmbcppjaaGreatDoor.H.law_contractW (P := Tryz.prog) (k := 4) (f := Tryz.f4) (s := Rows.spanHasSpec) (tb := 4) (by kernel_rfl) Tryz.underlying4 rfl rfl (ts := [25, 40]) rfl types (fun H ds h => match ds, h with | [d1, d2], _ => rfl)
    W ((fun a h => by
  obtain ⟨⟨any, ⟨p, lo⟩, ⟨⟩⟩, ⟨v, l⟩, ⟨⟩⟩ := a
  obtain ⟨⟨_, ⟨h1, h2⟩, _⟩, ⟨h3, h4⟩, _⟩ := h
  exact Sp.lawHas _ v ⟨any, Sp.orRaw lo⟩ _ W ⟨p, rfl, Sp.orRawAt h1 fun x hx => ⟨(h2 x hx).1, fun y hy => ((h2 x hx).2 y hy).2.1.2.2.2.1.1⟩⟩ (fun m hm b hb => by
    obtain ⟨x, hx, rfl⟩ := List.mem_map.1 hm
    obtain ⟨y, hy, rfl⟩ := List.mem_map.1 hb
    have := ((h2 x hx).2 y hy).2.1
    exact ⟨this.1, this.2.1, this.2.2.1⟩) (Sp.versRaw h3 fun x hx => (h4 x hx).2.2.2.1.1) hT hM))
    H enc base args ds gs before hval hW

theorem over : Rows.SpanHasSaid :=
  OpenClaim.holds_of_wide 4 Tryz.f4 rfl rfl rfl rfl rfl rfl rfl ⟨rfl, rfl, rfl, rfl, rfl⟩ rfl rfl rfl rfl rfl (by kernel_rfl) Tryz.func4 (by kernel_rfl)
    (of_decide_eq_true (by kernel_rfl)) (by unfold Func.isWrapper; first | (rw [if_pos (by decide +kernel)]; kernel_rfl) | (rw [if_neg (by decide +kernel)]; exact ⟨rfl, rfl⟩))
    (fun os started H enc _ => lifted os started H enc)

theorem plain (f : FuncId) (fn : Func) (hf : Tryz.pinned.checked.prog.funcNamed "haversack/haversacklaw10.SpanHas" = some f) (hfn : Tryz.pinned.checked.prog.funcs[f]? = some fn) :
    true = Tryz.pinned.checked.prog.looks [] ∧ ∀ (j : Nat) t, fn.params[j]? = some t → Tryz.pinned.checked.prog.wantsStandIn t = false := by
  obtain rfl : f = 4 := Option.some.inj ((show Tryz.prog.funcNamed "haversack/haversacklaw10.SpanHas" = some 4 by kernel_rfl).symm.trans hf) |>.symm
  obtain rfl : fn = Tryz.f4 := (Option.some.inj (Tryz.func4.symm.trans hfn)).symm
  refine ⟨by kernel_rfl, fun j t ht => ?_⟩
  have hm : t ∈ ([25, 40] : List TypeId) := by simpa using Array.mem_of_getElem? ht
  have hall : (([25, 40] : List TypeId).all fun u => !Tryz.prog.wantsStandIn u) = true := by kernel_rfl
  exact (show Tryz.prog.wantsStandIn t = false by simpa using List.all_eq_true.1 hall t hm)

theorem proved : Rows.SpanHasCardSaid :=
  Claim7.holds_tied_plain_at .later [] _ _ _ _ over (fun _ h => by cases h) (by kernel_rfl) (fun _ h => by cases h) spanHas_row_tie rfl ⟨rfl, rfl⟩ (by kernel_rfl) rfl plain (by kernel_rfl)
#print axioms proved
end Go.Proofs.YtjfdhafmbcppjaaGreatDoor.spanHas

