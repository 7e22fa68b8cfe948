/-
  Spans, walked: the best of versions, the reference's. Spans, walked: the text, the program's. Spans, walked: the text, the reference's. A range over a function whose iterator reads what the loop's body leaves as it is (T). strings.SplitSeq at two bars, once more: the loop's body leaves the library's variable as it is. The end of a body that holds a range over a function, whatever the results' form. Spans, walked: Parse. Truths held against one another. Versions, walked: lists and versions held against one another; small functions of the laws. Spans, walked: the help's comparison, of equal spans; is a span light. The laws of spans: what is known; places, words, lists. The laws of spans: SpanHas. Versions, plain: three numbers told and read. Spans, plain: texts of words and lists, read. Spans, plain: what is read fits; what is told of it is read as it, or not at all.
-/
import Derived.Test.YtjfdhafmbcppjaaGreatDoorQd
import Derived.Test.YtjfdhafmbcppjaaGreatDoorQc
import Derived.Test.YtjfdhafmbcppjaaGreatDoorQb
set_option linter.unusedVariables false
namespace Go.Proofs.YtjfdhafmbcppjaaGreatDoor.Sp
open Go.RowKit H S Ve
attribute [local irreducible] H.CL H.RW H.CW H.Yd H.thenK H.blockQ Go.Calls

set_option maxHeartbeats 1000000 in
theorem refBest (X v : Value) (s : Spn) (l : List Ver) (w : World) (hX : SpanAt w X s) (hv : VersAt w v l) (fs : FitS s) (fl : l.length ≤ 1000000 ∧ ∀ x ∈ l, Fit x) : Calls Tryz.prog 21 #[X, v] w fun e w' => K0 w w' ∧ e = .returned (.tuple #[.int .i64 (max (bestF s l l.length) 0), .bool (decide (bestF s l l.length ≥ 0))]) := by
  obtain ⟨p, rfl, hp⟩ := hX
  obtain ⟨L, rfl, hs, hm⟩ := hv
  rw [List.length_map] at fl
  refine H.enter Tryz.func21 Tryz.ntmps21 rfl rfl ?_; dsimp only [H.args]
  repeat' (first | (refine CL.seq ?_) | (refine CL.region ?_))
  refine RW.box rfl rfl (fun w1 hb1 hk1 hlt1 => ?_)
  have hb1' : w1.heap[w.heap.size]? = some (.cells #[.bool s.any, p] spnT (0, 0)) := hb1
  have hs1 := hs.keep0 hk1
  repeat' (first | (refine CL.seq ?_) | (refine CL.region ?_) | (refine CL.block ?_) | (refine Gt.nil ?_; refine RW.nilw [0, 1, 2, 4, 5, 6, 7, 11, 35] ?_; dsimp only [H.keep, H.look, H.Fr.put, Nat.beq]) | (refine Gt.assign ?_; refine RW.y (Y.assign rfl) rfl ?_))
  refine CL.loopS [1, 2, 6, 7] (fun m vals wr => ∃ i : Nat, vals = [v, .pointer (some ⟨w.heap.size, 0, none⟩), .int .i64 (bestF s (L.map (·.1)) i), .int .i64 (i : Int)] ∧ m = L.length - i ∧ i ≤ L.length ∧ K0 w1 wr) L.length ⟨_, rfl, 0, rfl, rfl, Nat.zero_le _, Kept.refl _ _⟩ ?_
  rintro m vals wr ⟨i, rfl, rfl, hi, hkr⟩
  dsimp only [List.zip, List.zipWith]
  have hsr := hs1.keep0 hkr
  have hbr := hkr.at0 hb1'
  have hbd := bestF_bd s (L.map (·.1)) i
  rcases Nat.lt_or_ge i L.length with hlt | hge
  · have hmem : L.getD i default ∈ L := getD_mem default hlt
    have hx := (hm _ hmem).keep0 (hk1.trans0 hkr)
    have fx : Fit (L.getD i default).1 := fl.2 _ (List.mem_map_of_mem hmem)
    have hk13 : K0 w1 wr := hkr
    have hX3 : ∀ {w'}, K0 wr w' → SpanAt w' (.agg #[.bool s.any, p]) s := fun h => ⟨p, rfl, hp.keep0 ((hk1.trans0 hk13).trans0 h)⟩
    have hV3 : ∀ {w'}, K0 wr w' → VerAt w' (.agg (verCl (L.getD i default)).toArray) (L.getD i default).1 := fun h => VerAt.mk (hx.keep0 h)
    have hci : ∀ {w' : World}, K0 wr w' → ∀ (j : Nat) (u : Value), (verCl (L.getD i default))[j]? = some u → w'.cell? ((Value.spot v ((i : Int).toNat * 4)).add j) = some u := fun h => elCells (hsr.keep0 h) verCl_len hlt
    have hstep : bestF s (L.map (·.1)) (i + 1) = if (hasB s (L.getD i default).1 && (decide (bestF s (L.map (·.1)) i < 0) || decide (0 < cmpV (L.getD i default).1 ((L.map (·.1)).getD (bestF s (L.map (·.1)) i).toNat default)))) = true then (i : Int) else bestF s (L.map (·.1)) i := by rw [bestF, getD_map L i hlt]
    repeat' (first | (refine CL.seq ?_) | (refine CL.region ?_) | (refine CL.skip ?_) | (refine CL.condP rfl (fun _ => ?_) (fun _ => ?_) <;> try (exfalso; omega)) | (refine CL.block ?_) | (refine Gt.nil ?_; refine RW.nilw [0, 1, 2, 4, 5, 6, 7, 11, 35] ?_; dsimp only [H.keep, H.look, H.Fr.put, Nat.beq]) | (refine Gt.move ?_; refine RW.y (Y.move rfl) rfl ?_) | (refine Gt.lss ?_; refine RW.y (Y.lss rfl rfl) rfl ?_) | (refine Gt.len ?_; (refine RW.y (Y.lenx rfl (by assumption)) rfl ?_)))
    refine CL.draw (fun w' => K0 wr w') (by kernel_rfl) (fun w4 hheap hk4 => ?_)
    have hS : K0 wr w4 := hk4
    skip
    refine AW.take 0 rfl (by kernel_rfl) (by kernel_rfl) (by kernel_rfl) rfl (by assumption) (fun w hS => Y.loadBlock rfl (hS.at0 hbr) rfl) ?_
    refine AW.take 1 rfl (by kernel_rfl) (by kernel_rfl) (by kernel_rfl) rfl (by assumption) (fun w hS => Y.move rfl) ?_
    refine AW.take 2 rfl (by kernel_rfl) (by kernel_rfl) (by kernel_rfl) rfl (by assumption) (fun w hS => Y.move rfl) ?_
    refine AW.take 3 rfl (by kernel_rfl) (by kernel_rfl) (by kernel_rfl) rfl (by assumption) (fun w hS => Y.idx rfl rfl (hsr.keep0 hS) (by omega) (by omega)) ?_
    refine AW.take 4 rfl (by kernel_rfl) (by kernel_rfl) (by kernel_rfl) rfl (by assumption) (fun w hS => Y.loadN (cs := verCl (L.getD i default)) rfl rfl (hci hS)) ?_
    refine AW.next 5 rfl (by kernel_rfl) ?_
    refine RW.fn rfl rfl ((refHas _ _ s _ w4 (hX3 hk4) (hV3 hk4) fs fx).mono ?_)
    rintro e w5 ⟨hk5, rfl⟩
    refine RW.nil (Nm.then (rebase0 hS hk5 fun hS => ?_))
    have hk15 := (hk13.trans0 hk4).trans0 hk5
    have hfin : ∀ (b : Bool) (w6 : World), K0 w5 w6 → b = (hasB s (L.getD i default).1 && (decide (bestF s (L.map (·.1)) i < 0) || decide (0 < cmpV (L.getD i default).1 ((L.map (·.1)).getD (bestF s (L.map (·.1)) i).toNat default)))) → bestF s (L.map (·.1)) (i + 1) = if b = true then (i : Int) else bestF s (L.map (·.1)) i := by
      intro b w6 _ hb; rw [hstep, ← hb]
    cases hh : hasB s (L.getD i default).1
    · rw [hh, Bool.false_and] at hfin
      skip
      refine AW.take 6 rfl (by kernel_rfl) (by kernel_rfl) (by kernel_rfl) rfl (by assumption) (fun w hS => Y.move rfl) ?_
      refine AW.takeOff 7 rfl (by kernel_rfl) (by kernel_rfl) (by kernel_rfl) rfl rfl rfl rfl rfl (by assumption) ?_
      refine AW.takeOff 8 rfl (by kernel_rfl) (by kernel_rfl) (by kernel_rfl) rfl rfl rfl rfl rfl (by assumption) ?_
      refine AW.takeOff 9 rfl (by kernel_rfl) (by kernel_rfl) (by kernel_rfl) rfl rfl rfl rfl rfl (by assumption) ?_
      refine AW.takeOffU 10 rfl (by kernel_rfl) (by kernel_rfl) (by kernel_rfl) rfl rfl rfl rfl (by assumption) ?_
      refine AW.takeOffU 11 rfl (by kernel_rfl) (by kernel_rfl) (by kernel_rfl) rfl rfl rfl rfl (by assumption) ?_
      refine AW.takeOffU 12 rfl (by kernel_rfl) (by kernel_rfl) (by kernel_rfl) rfl rfl rfl rfl (by assumption) ?_
      refine AW.takeOffU 13 rfl (by kernel_rfl) (by kernel_rfl) (by kernel_rfl) rfl rfl rfl rfl (by assumption) ?_
      refine AW.takeOffU 14 rfl (by kernel_rfl) (by kernel_rfl) (by kernel_rfl) rfl rfl rfl rfl (by assumption) ?_
      refine AW.takeOffU 15 rfl (by kernel_rfl) (by kernel_rfl) (by kernel_rfl) rfl rfl rfl rfl (by assumption) ?_
      refine AW.takeOffU 16 rfl (by kernel_rfl) (by kernel_rfl) (by kernel_rfl) rfl rfl rfl rfl (by assumption) ?_
      refine AW.takeOffU 17 rfl (by kernel_rfl) (by kernel_rfl) (by kernel_rfl) rfl rfl rfl rfl (by assumption) ?_
      refine AW.takeOffU 18 rfl (by kernel_rfl) (by kernel_rfl) (by kernel_rfl) rfl rfl rfl rfl (by assumption) ?_
      refine AW.takeOffU 19 rfl (by kernel_rfl) (by kernel_rfl) (by kernel_rfl) rfl rfl rfl rfl (by assumption) ?_
      refine AW.takeOff 20 rfl (by kernel_rfl) (by kernel_rfl) (by kernel_rfl) rfl rfl rfl rfl rfl (by assumption) ?_
      refine AW.take 21 rfl (by kernel_rfl) (by kernel_rfl) (by kernel_rfl) rfl (by assumption) (fun w hS => by exact Y.pickF rfl rfl) ?_
      refine AW.donew [1, 2, 6, 7, 35] (by kernel_rfl) ?_
      dsimp only [H.keep, H.look, H.Fr.put, Nat.beq]
      repeat' (first | (refine CL.region ?_) | (refine CL.skip ?_) | (refine CL.condF rfl ?_) | (refine CL.done ?_) | (refine Nm.block ?_) | (refine Nm.then ?_) | (refine Gt.nil ?_; refine RW.nilw [0, 1, 2, 4, 5, 6, 7, 11, 35] ?_; dsimp only [H.keep, H.look, H.Fr.put, Nat.beq]) | (refine Gt.move ?_; refine RW.y (Y.move rfl) rfl ?_) | (refine Gt.assign ?_; refine RW.y (Y.assign rfl) rfl ?_) | (refine Gt.add ?_; refine RW.y (Y.add64 rfl rfl (by omega) (by omega)) rfl ?_))
      exact ⟨L.length - (i + 1), _, rfl, rfl, rfl, by omega, i + 1, by rw [hfin _ _ (Kept.refl _ _) rfl]; rfl, rfl, by omega, hk15⟩
    · rw [hh, Bool.true_and] at hfin
      skip
      refine AW.take 6 rfl (by kernel_rfl) (by kernel_rfl) (by kernel_rfl) rfl (by assumption) (fun w hS => Y.move rfl) ?_
      refine AW.takeOn 7 rfl (by kernel_rfl) (by kernel_rfl) (by kernel_rfl) rfl rfl rfl rfl (by assumption) (fun w hS => Y.move rfl) ?_
      refine AW.takeOn 8 rfl (by kernel_rfl) (by kernel_rfl) (by kernel_rfl) rfl rfl rfl rfl (by assumption) (fun w hS => Y.lss rfl rfl) ?_
      refine AW.takeOn 9 rfl (by kernel_rfl) (by kernel_rfl) (by kernel_rfl) rfl rfl rfl rfl (by assumption) (fun w hS => Y.move rfl) ?_
      refine AW.split (t := 23) rfl (fun hn => ?_) (fun hn => ?_)
      · rw [hn, Bool.true_or] at hfin
        skip
        refine AW.takeOff 10 rfl (by kernel_rfl) (by kernel_rfl) (by kernel_rfl) rfl rfl rfl rfl rfl (by assumption) ?_
        refine AW.takeOff 11 rfl (by kernel_rfl) (by kernel_rfl) (by kernel_rfl) rfl rfl rfl rfl rfl (by assumption) ?_
        refine AW.takeOff 12 rfl (by kernel_rfl) (by kernel_rfl) (by kernel_rfl) rfl rfl rfl rfl rfl (by assumption) ?_
        refine AW.takeOff 13 rfl (by kernel_rfl) (by kernel_rfl) (by kernel_rfl) rfl rfl rfl rfl rfl (by assumption) ?_
        refine AW.takeOff 14 rfl (by kernel_rfl) (by kernel_rfl) (by kernel_rfl) rfl rfl rfl rfl rfl (by assumption) ?_
        refine AW.takeOff 15 rfl (by kernel_rfl) (by kernel_rfl) (by kernel_rfl) rfl rfl rfl rfl rfl (by assumption) ?_
        refine AW.takeOff 16 rfl (by kernel_rfl) (by kernel_rfl) (by kernel_rfl) rfl rfl rfl rfl rfl (by assumption) ?_
        refine AW.takeOff 17 rfl (by kernel_rfl) (by kernel_rfl) (by kernel_rfl) rfl rfl rfl rfl rfl (by assumption) ?_
        refine AW.takeOff 18 rfl (by kernel_rfl) (by kernel_rfl) (by kernel_rfl) rfl rfl rfl rfl rfl (by assumption) ?_
        refine AW.takeOff 19 rfl (by kernel_rfl) (by kernel_rfl) (by kernel_rfl) rfl rfl rfl rfl rfl (by assumption) ?_
        refine AW.takeOn 20 rfl (by kernel_rfl) (by kernel_rfl) (by kernel_rfl) rfl rfl rfl rfl (by assumption) (fun w hS => by exact Y.pickT rfl rfl) ?_
        refine AW.take 21 rfl (by kernel_rfl) (by kernel_rfl) (by kernel_rfl) rfl (by assumption) (fun w hS => by exact Y.pickT rfl rfl) ?_
        refine AW.donew [1, 2, 6, 7, 35] (by kernel_rfl) ?_
        dsimp only [H.keep, H.look, H.Fr.put, Nat.beq]
        repeat' (first | (refine CL.region ?_) | (refine CL.condT rfl ?_) | (refine CL.done ?_) | (refine Nm.block ?_) | (refine Nm.then ?_) | (refine Gt.nil ?_; refine RW.nilw [0, 1, 2, 4, 5, 6, 7, 11, 35] ?_; dsimp only [H.keep, H.look, H.Fr.put, Nat.beq]) | (refine Gt.move ?_; refine RW.y (Y.move rfl) rfl ?_) | (refine Gt.assign ?_; refine RW.y (Y.assign rfl) rfl ?_) | (refine Gt.add ?_; refine RW.y (Y.add64 rfl rfl (by omega) (by omega)) rfl ?_))
        exact ⟨L.length - (i + 1), _, rfl, rfl, rfl, by omega, i + 1, by rw [hfin _ _ (Kept.refl _ _) rfl]; rfl, rfl, by omega, hk15⟩
      · rw [hn, Bool.false_or] at hfin
        have hn' := of_decide_eq_false hn
        obtain ⟨c, hc⟩ : ∃ c : Nat, bestF s (L.map (·.1)) i = (c : Int) := ⟨(bestF s (L.map (·.1)) i).toNat, by omega⟩
        rw [hc] at hfin hbd ⊢
        have hcl : c < L.length := by omega
        rw [Int.toNat_natCast, getD_map L c hcl] at hfin
        have hs5 := hsr.keep0 (hk4.trans0 hk5)
        have hk45 := hk4.trans0 hk5
        have hmc : L.getD c default ∈ L := getD_mem default hcl
        have hcell : ∀ {w' : World}, K0 w5 w' → ∀ (j : Nat) (u : Value), (verCl (L.getD c default))[j]? = some u → w'.cell? ((Value.spot v ((c : Int).toNat * 4)).add j) = some u := fun h => elCells (hs5.keep0 h) verCl_len hcl
        skip
        refine AW.takeOn 10 rfl (by kernel_rfl) (by kernel_rfl) (by kernel_rfl) rfl rfl rfl rfl (by assumption) (fun w hS => Y.move rfl) ?_
        refine AW.takeOn 11 rfl (by kernel_rfl) (by kernel_rfl) (by kernel_rfl) rfl rfl rfl rfl (by assumption) (fun w hS => Y.move rfl) ?_
        refine AW.takeOn 12 rfl (by kernel_rfl) (by kernel_rfl) (by kernel_rfl) rfl rfl rfl rfl (by assumption) (fun w hS => Y.idx rfl rfl (hs5.keep0 hS) (by omega) (by omega)) ?_
        refine AW.takeOn 13 rfl (by kernel_rfl) (by kernel_rfl) (by kernel_rfl) rfl rfl rfl rfl (by assumption) (fun w hS => Y.loadN (cs := verCl (L.getD i default)) rfl rfl (hci (hk45.trans0 hS))) ?_
        refine AW.takeOn 14 rfl (by kernel_rfl) (by kernel_rfl) (by kernel_rfl) rfl rfl rfl rfl (by assumption) (fun w hS => Y.move rfl) ?_
        refine AW.takeOn 15 rfl (by kernel_rfl) (by kernel_rfl) (by kernel_rfl) rfl rfl rfl rfl (by assumption) (fun w hS => Y.move rfl) ?_
        refine AW.takeOn 16 rfl (by kernel_rfl) (by kernel_rfl) (by kernel_rfl) rfl rfl rfl rfl (by assumption) (fun w hS => Y.idx rfl rfl (hs5.keep0 hS) (by omega) (by omega)) ?_
        refine AW.takeOn 17 rfl (by kernel_rfl) (by kernel_rfl) (by kernel_rfl) rfl rfl rfl rfl (by assumption) (fun w hS => Y.loadN (cs := verCl (L.getD c default)) rfl rfl (hcell hS)) ?_
        refine AW.next 18 rfl (by kernel_rfl) ?_
        refine RW.on rfl rfl rfl ?_
        refine RW.fn rfl rfl ((refCmp _ _ _ _ w5 (hV3 (hk4.trans0 hk5)) (VerAt.mk ((hm _ hmc).keep0 (hk1.trans0 hk15))) fx (fl.2 _ (List.mem_map_of_mem hmc))).mono ?_)
        rintro e w6 ⟨hk6, rfl⟩
        refine RW.nil (Nm.then (rebase0 hS hk6 fun hS => ?_))
        refine AW.takeOn 19 rfl (by kernel_rfl) (by kernel_rfl) (by kernel_rfl) rfl rfl rfl rfl (by assumption) (fun w hS => Y.gtr rfl rfl) ?_
        refine AW.takeOn 20 rfl (by kernel_rfl) (by kernel_rfl) (by kernel_rfl) rfl rfl rfl rfl (by assumption) (fun w hS => by exact Y.pickF rfl rfl) ?_
        refine AW.take 21 rfl (by kernel_rfl) (by kernel_rfl) (by kernel_rfl) rfl (by assumption) (fun w hS => by exact Y.pickT rfl rfl) ?_
        refine AW.donew [1, 2, 6, 7, 35] (by kernel_rfl) ?_
        dsimp only [H.keep, H.look, H.Fr.put, Nat.beq]
        repeat' (first | (refine CL.region ?_) | (refine CL.skip ?_) | (refine CL.condP rfl (fun _ => ?_) (fun _ => ?_) <;> try (exfalso; omega)) | (refine CL.done ?_) | (refine Nm.block ?_) | (refine Nm.then ?_) | (refine Gt.nil ?_; refine RW.nilw [0, 1, 2, 4, 5, 6, 7, 11, 35] ?_; dsimp only [H.keep, H.look, H.Fr.put, Nat.beq]) | (refine Gt.move ?_; refine RW.y (Y.move rfl) rfl ?_) | (refine Gt.assign ?_; refine RW.y (Y.assign rfl) rfl ?_) | (refine Gt.add ?_; refine RW.y (Y.add64 rfl rfl (by omega) (by omega)) rfl ?_))
        · rename_i g1
          exact ⟨L.length - (i + 1), _, rfl, rfl, rfl, by omega, i + 1, by rw [hfin true _ hk6 (decide_eq_true g1).symm]; rfl, rfl, by omega, hk15.trans0 hk6⟩
        · rename_i g1
          exact ⟨L.length - (i + 1), _, rfl, rfl, rfl, by omega, i + 1, by rw [hfin false _ hk6 (decide_eq_false g1).symm]; rfl, rfl, by omega, hk15.trans0 hk6⟩
  · have hi : i = L.length := by omega
    subst hi
    rw [List.length_map]
    repeat' (first | (refine CL.seq ?_) | (refine CL.region ?_) | (refine CL.condP rfl (fun _ => ?_) (fun _ => ?_) <;> try (exfalso; omega)) | (refine CL.exit ?_) | (refine Ex.then ?_) | (refine Ex.hit ?_) | (refine CL.ret ?_) | (refine Gt.nil ?_; refine RW.nilw [0, 1, 2, 4, 5, 6, 7, 11, 35] ?_; dsimp only [H.keep, H.look, H.Fr.put, Nat.beq]) | (refine Gt.move ?_; refine RW.y (Y.move rfl) rfl ?_) | (refine Gt.assign ?_; refine RW.y (Y.assign rfl) rfl ?_) | (refine Gt.lss ?_; refine RW.y (Y.lss rfl rfl) rfl ?_) | (refine Gt.len ?_; (refine RW.y (Y.lenx rfl (by assumption)) rfl ?_)) | (refine Gt.call ?_; refine RW.y (Y.max2 rfl rfl) rfl ?_) | (refine Gt.geq ?_; refine RW.y (Y.geq rfl rfl) rfl ?_))
    exact FQ.two rfl rfl rfl rfl ⟨hk1.trans0 hkr, rfl⟩
end Go.Proofs.YtjfdhafmbcppjaaGreatDoor.Sp

namespace Go.Proofs.YtjfdhafmbcppjaaGreatDoor.Sp
open Go.RowKit H S Ve
attribute [local irreducible] H.CL H.RW H.CW H.Yd H.thenK H.blockQ Go.Calls

theorem join_snoc (sep : T) : ∀ (l : List T) (x : T), Go.Lib.join (l ++ [x]) sep = if l = [] then x else Go.Lib.join l sep ++ sep ++ x := by
  intro l x
  cases l with
  | nil => simp [Go.Lib.join_one]
  | cons a r =>
    rw [List.cons_append, Go.Lib.join_cons, Go.Lib.join_cons, if_neg (by simp)]
    simp [Go.Lib.joinTail]
theorem joinTail_len (sep : T) (m : Nat) : ∀ (l : List T), (∀ s ∈ l, s.length ≤ m) → (Go.Lib.joinTail sep l).length ≤ l.length * (m + sep.length)
  | [], _ => by simp [Go.Lib.joinTail]
  | x :: r, h => by
    have h1 := joinTail_len sep m r fun s hs => h s (by simp [hs])
    have h2 := h x (by simp)
    have h3 : Go.Lib.joinTail sep (x :: r) = (sep ++ x) ++ Go.Lib.joinTail sep r := by simp [Go.Lib.joinTail]
    rw [h3, List.length_append, List.length_append, List.length_cons, Nat.succ_mul]
    omega
theorem join_len (sep : T) (m : Nat) (l : List T) (h : ∀ s ∈ l, s.length ≤ m) : (Go.Lib.join l sep).length ≤ l.length * (m + sep.length) := by
  cases l with
  | nil => simp [Go.Lib.join_nil]
  | cons x r =>
    have h1 := joinTail_len sep m r fun s hs => h s (by simp [hs])
    have h2 := h x (by simp)
    rw [Go.Lib.join_cons, List.length_append, List.length_cons, Nat.succ_mul]
    omega
/-- A version, a bound, a span whose texts fit. -/
def FitV (v : Ver) : Prop := (v.pre.length ≤ 10 ∧ ∀ s ∈ v.pre, s.length ≤ 100) ∧ I64 v
theorem FitV.fit {v : Ver} (h : FitV v) : Fit v := ⟨by have := h.1.1; omega, fun s hs => by have := h.1.2 s hs; omega⟩
def FitT (s : Spn) : Prop := s.or.length ≤ 20 ∧ ∀ l ∈ s.or, l.length ≤ 20 ∧ ∀ b ∈ l, b.sign.length ≤ 10 ∧ FitV b.v
theorem FitT.fits {s : Spn} (h : FitT s) : FitS s := ⟨by have := h.1; omega, fun l hl => ⟨by have := (h.2 l hl).1; omega, fun z hz => ((h.2 l hl).2 z hz).2.fit⟩⟩
theorem textV_len {v : Ver} (h : FitV v) : (textV v).length ≤ 2000 := by
  obtain ⟨⟨h1, h2⟩, h3⟩ := h
  have l1 := decI_len v.a h3.1.2
  have l2 := decI_len v.b h3.2.1.2
  have l3 := decI_len v.c h3.2.2.2
  have lg := glueC_len 46 100 v.pre h2
  have : v.pre.length * (100 + 1) ≤ 10 * 101 := Nat.mul_le_mul h1 (Nat.le_refl _)
  rw [textV]
  split <;> simp <;> omega
theorem bdT_len {b : Bd} (h : b.sign.length ≤ 10 ∧ FitV b.v) : (bdT b).length ≤ 2010 := by
  have := textV_len h.2
  rw [bdT]
  split <;> simp <;> omega
theorem listT_len {l : List Bd} (h : l.length ≤ 20 ∧ ∀ b ∈ l, b.sign.length ≤ 10 ∧ FitV b.v) : (listT l).length ≤ 50000 := by
  have h1 := join_len [32] 2010 (l.map bdT) (fun s hs => by obtain ⟨b, hb, rfl⟩ := List.mem_map.1 hs; exact bdT_len (h.2 b hb))
  rw [List.length_map] at h1
  have : l.length * (2010 + ([32] : T).length) ≤ 20 * 2011 := Nat.mul_le_mul h.1 (Nat.le_refl _)
  rw [listT]; omega
theorem orT_len {o : List (List Bd)} (h : o.length ≤ 20 ∧ ∀ l ∈ o, l.length ≤ 20 ∧ ∀ b ∈ l, b.sign.length ≤ 10 ∧ FitV b.v) : (Go.Lib.join (o.map listT) [32, 124, 124, 32]).length ≤ 1100000 := by
  have h1 := join_len [32, 124, 124, 32] 50000 (o.map listT) (fun s hs => by obtain ⟨b, hb, rfl⟩ := List.mem_map.1 hs; exact listT_len (h.2 b hb))
  rw [List.length_map] at h1
  have : o.length * (50000 + ([32, 124, 124, 32] : T).length) ≤ 20 * 50004 := Nat.mul_le_mul h.1 (Nat.le_refl _)
  omega
theorem spanT_len {s : Spn} (h : FitT s) : (spanT s).length ≤ 1100000 := by
  rw [spanT]
  split
  · simp
  · exact orT_len h
theorem one_row {w : World} {B : Nat} {e : TypeId} {v : Value} {n : Nat} {xs : List Value} (h : w.ownsRow B e 1 v n xs) : v.oneCell' = true := (Sl.of_own h).one

set_option maxHeartbeats 1000000 in
theorem spanText (X : Value) (s : Spn) (w : World) (hX : SpanAt w X s) (fs : FitT s) (hT : Tb w) : Calls Tryz.prog 13 #[X] w fun e w' => K0 w w' ∧ e = .returned (vs (spanT s)) := by
  obtain ⟨p, rfl, R, hR, hs, hm⟩ := hX
  refine H.enter Tryz.func13 Tryz.ntmps13 rfl rfl ?_; dsimp only [H.args]
  repeat' (first | (refine CL.seq ?_) | (refine CL.region ?_))
  refine RW.box rfl rfl (fun w1 hb1 hk1 hlt1 => ?_)
  have hb1' : w1.heap[w.heap.size]? = some (.cells #[.bool s.any, p] spnT (0, 0)) := hb1
  have hs1 := hs.keep0 hk1
  have hret : ∀ r : T, r = spanT s → Ending.returned (vs r) = .returned (vs (spanT s)) := fun r h => by rw [h]
  cases ha : s.any
  · rw [ha] at hb1'
    have hso : s.or = R.map (·.1) := hR.symm
    have hrl : R.length ≤ 20 := by have := fs.1; rw [hso, List.length_map] at this; exact this
    repeat' (first | (refine CL.seq ?_) | (refine CL.region ?_) | (refine CL.skip ?_) | (refine CL.condF rfl ?_) | (refine CL.block ?_) | (refine Gt.nil ?_; refine RW.nilw [0, 1, 2, 3, 5, 6, 8, 9, 11, 13, 14, 15, 16, 19, 20, 21, 22, 28] ?_; dsimp only [H.keep, H.look, H.Fr.put, Nat.beq]) | (refine Gt.move ?_; refine RW.y (Y.move rfl) rfl ?_) | (refine Gt.assign ?_; refine RW.y (Y.assign rfl) rfl ?_) | (refine Gt.load ?_; (refine RW.y (Y.loadB rfl (by assumption) rfl) rfl ?_)) | (refine Gt.fieldAddr ?_; refine RW.y (Y.fieldAddr rfl (by rfl)) rfl ?_) | (refine Gt.len ?_; (refine RW.y (Y.lenx rfl (by assumption)) rfl ?_)))
    refine CL.loopS [3, 13, 14, 15] (fun m vals wr => ∃ (i : Nat) (u : Value), vals = [u, p, .int .i64 (R.length : Int), .int .i64 (i : Int)] ∧ m = R.length - i ∧ i ≤ R.length ∧ wr.ownsRow w1.heap.size strT 1 u i (sv ((R.take i).map (fun y => listT y.1))) ∧ K0 w1 wr) R.length ⟨_, rfl, 0, _, rfl, rfl, Nat.zero_le _, World.ownsRow_nil _ _ _ _, Kept.refl _ _⟩ ?_
    rintro m vals wr ⟨i, u, rfl, rfl, hi, how, hkr⟩
    dsimp only [List.zip, List.zipWith]
    have hsr := hs1.keep0 hkr
    rcases Nat.lt_or_ge i R.length with hlt | hge
    · have hmem : R.getD i default ∈ R := getD_mem default hlt
      have fL := fs.2 (R.getD i default).1 (by rw [hso]; exact List.mem_map_of_mem hmem)
      obtain ⟨L, hL, hsL, hmL⟩ := (hm _ hmem).keep0 (hk1.trans0 hkr)
      have hLlen : L.length ≤ 20 := by have := fL.1; rw [← hL, List.length_map] at this; exact this
      have hti : ((i : Int)).toNat = i := Int.toNat_natCast i
      rw [← hti] at hsL
      repeat' (first | (refine CL.seq ?_) | (refine CL.region ?_) | (refine CL.skip ?_) | (refine CL.condP rfl (fun _ => ?_) (fun _ => ?_) <;> try (exfalso; omega)) | (refine CL.block ?_) | (refine Gt.nil ?_; refine RW.nilw [0, 1, 2, 3, 5, 6, 8, 9, 11, 13, 14, 15, 16, 19, 20, 21, 22, 28] ?_; dsimp only [H.keep, H.look, H.Fr.put, Nat.beq]) | (refine Gt.move ?_; refine RW.y (Y.move rfl) rfl ?_) | (refine Gt.assign ?_; refine RW.y (Y.assign rfl) rfl ?_) | (refine Gt.len ?_; (refine RW.y (Y.lenx rfl (by assumption)) rfl ?_)) | (refine Gt.lss ?_; refine RW.y (Y.lss rfl rfl) rfl ?_) | (refine Gt.idx ?_; (refine RW.elemM rfl rfl rfl rfl (by assumption) (by omega) (by omega) ?_)))
      refine CL.loopS [3, 6, 13, 14, 15, 19, 20, 21] (fun m vals wv => ∃ (k : Nat) (q : Value), vals = [u, q, p, .int .i64 (R.length : Int), .int .i64 (i : Int), (R.getD ((i : Int)).toNat default).2, .int .i64 (L.length : Int), .int .i64 (k : Int)] ∧ m = L.length - k ∧ k ≤ L.length ∧ wv.ownsRow wr.heap.size strT 1 q k (sv ((L.take k).map (fun y => bdT y.1))) ∧ K0 wr wv) L.length ⟨_, rfl, 0, _, rfl, rfl, Nat.zero_le _, World.ownsRow_nil _ _ _ _, Kept.refl _ _⟩ ?_
      rintro m vals wv ⟨k, q, rfl, rfl, hk, hoq, hkv⟩
      dsimp only [List.zip, List.zipWith]
      have hsv := hsL.keep0 hkv
      rcases Nat.lt_or_ge k L.length with hkl | hkg
      · have hkm : L.getD k default ∈ L := getD_mem default hkl
        have hy := (hmL _ hkm).keep0 hkv
        have fy := fL.2 (L.getD k default).1 (by rw [← hL]; exact List.mem_map_of_mem hkm)
        have htl := textV_len fy.2
        repeat' (first | (refine CL.seq ?_) | (refine CL.region ?_) | (refine CL.skip ?_) | (refine CL.condP rfl (fun _ => ?_) (fun _ => ?_) <;> try (exfalso; omega)) | (refine CL.block ?_) | (refine Gt.nil ?_; refine RW.nilw [0, 1, 2, 3, 5, 6, 8, 9, 11, 13, 14, 15, 16, 19, 20, 21, 22, 28] ?_; dsimp only [H.keep, H.look, H.Fr.put, Nat.beq]) | (refine Gt.lss ?_; refine RW.y (Y.lss rfl rfl) rfl ?_) | (refine Gt.idx ?_; (refine RW.elemA rfl rfl rfl rfl (by assumption) (fun _ => by rfl) rfl (by omega) (by omega) (fun _ => ?_))))
        refine RW.varN (u := #[vs (L.getD k default).1.sign, .int .i64 (L.getD k default).1.v.a, .int .i64 (L.getD k default).1.v.b, .int .i64 (L.getD k default).1.v.c, (L.getD k default).2]) rfl rfl rfl (bdCells hy.one) rfl (fun w4 hb4 hk4 hlt4 => ?_)
        have hy4 := hy.keep0 hk4
        have hst : (L.take (k + 1)).map (fun y => bdT y.1) = (L.take k).map (fun y => bdT y.1) ++ [bdT (L.getD k default).1] := by rw [take_snoc default L k hkl, List.map_append]; rfl
        generalize L.getD k default = y at *
        repeat' (first | (refine CL.seq ?_) | (refine CL.region ?_) | (refine CL.skip ?_) | (refine CL.condP rfl (fun _ => ?_) (fun _ => ?_) <;> try (exfalso; omega)) | (refine Gt.nil ?_; refine RW.nilw [0, 1, 2, 3, 5, 6, 8, 9, 11, 13, 14, 15, 16, 19, 20, 21, 22, 28] ?_; dsimp only [H.keep, H.look, H.Fr.put, Nat.beq]) | (refine RW.y (Y.loadN (cs := [_, _, _, _]) rfl rfl (load4 hb4)) rfl ?_) | (refine Gt.move ?_; refine RW.y (Y.move rfl) rfl ?_) | (refine Gt.assign ?_; refine RW.y (Y.assign rfl) rfl ?_) | (refine Gt.load ?_; (refine RW.y (Y.loadB rfl (by assumption) rfl) rfl ?_)) | (refine Gt.fieldAddr ?_; refine RW.y (Y.fieldAddr rfl (by rfl)) rfl ?_) | (refine Gt.eql ?_; refine RW.y (Y.eqs rfl rfl) rfl ?_))
        · rename_i hsg
          refine RW.fn rfl rfl ((text _ y.1.v w4 ⟨y.2, rfl, hy4⟩ fy.2.fit (hT.keep0 (((hk1.trans0 hkr).trans0 hkv).trans0 hk4)) fy.2.2.1.2 fy.2.2.2.1.2 fy.2.2.2.2.2).mono ?_)
          rintro e w5 ⟨hk5, rfl⟩
          refine RW.y (Y.cat (a := []) rfl rfl (by simp; omega)) rfl ?_
          have hz4 := hk4.size
          have hz5 := hk5.size
          have hzv := hkv.size
          refine RW.app1 rfl rfl rfl rfl (own_kept0 hoq (hk4.trans0 hk5)) rfl rfl rfl rfl (one_vs _) (by omega) (by omega) (by omega) (fun q' w6 how' hk6 hl6 => ?_)
          repeat' (first | (refine CL.region ?_) | (refine CL.done ?_) | (refine Nm.block ?_) | (refine Nm.then ?_) | (refine Gt.nil ?_; refine RW.nilw [0, 1, 2, 3, 5, 6, 8, 9, 11, 13, 14, 15, 16, 19, 20, 21, 22, 28] ?_; dsimp only [H.keep, H.look, H.Fr.put, Nat.beq]) | (refine Gt.move ?_; refine RW.y (Y.move rfl) rfl ?_) | (refine Gt.assign ?_; refine RW.y (Y.assign rfl) rfl ?_) | (refine Gt.add ?_; (refine RW.y (Y.add64 rfl rfl (by omega) (by omega)) rfl ?_)))
          exact ⟨L.length - (k + 1), _, rfl, rfl, rfl, by omega, k + 1, q', rfl, rfl, by omega, by rw [hst, bdT, if_pos hsg]; simpa [Value.cells] using how', ((hkv.trans0 hk4).trans0 hk5).trans hk6 fun g hg => .inr (hoq.lt g hg).1⟩
        · rename_i hsg
          refine RW.fn rfl rfl ((text _ y.1.v w4 ⟨y.2, rfl, hy4⟩ fy.2.fit (hT.keep0 (((hk1.trans0 hkr).trans0 hkv).trans0 hk4)) fy.2.2.1.2 fy.2.2.2.1.2 fy.2.2.2.2.2).mono ?_)
          rintro e w5 ⟨hk5, rfl⟩
          refine RW.y (Y.cat rfl rfl (by omega)) rfl ?_
          have hz4 := hk4.size
          have hz5 := hk5.size
          have hzv := hkv.size
          refine RW.app1 rfl rfl rfl rfl (own_kept0 hoq (hk4.trans0 hk5)) rfl rfl rfl rfl (one_vs _) (by omega) (by omega) (by omega) (fun q' w6 how' hk6 hl6 => ?_)
          repeat' (first | (refine CL.region ?_) | (refine CL.done ?_) | (refine Nm.block ?_) | (refine Nm.then ?_) | (refine Gt.nil ?_; refine RW.nilw [0, 1, 2, 3, 5, 6, 8, 9, 11, 13, 14, 15, 16, 19, 20, 21, 22, 28] ?_; dsimp only [H.keep, H.look, H.Fr.put, Nat.beq]) | (refine Gt.move ?_; refine RW.y (Y.move rfl) rfl ?_) | (refine Gt.assign ?_; refine RW.y (Y.assign rfl) rfl ?_) | (refine Gt.add ?_; (refine RW.y (Y.add64 rfl rfl (by omega) (by omega)) rfl ?_)))
          exact ⟨L.length - (k + 1), _, rfl, rfl, rfl, by omega, k + 1, q', rfl, rfl, by omega, by rw [hst, bdT, if_neg hsg]; simpa [Value.cells] using how', ((hkv.trans0 hk4).trans0 hk5).trans hk6 fun g hg => .inr (hoq.lt g hg).1⟩
      · have hk : k = L.length := by omega
        subst hk
        rw [List.take_length] at hoq
        have hmap : L.map (fun y => bdT y.1) = (R.getD i default).1.map bdT := by rw [← hL, List.map_map]; rfl
        rw [hmap] at hoq
        have hjl := listT_len fL
        have hlen : L.length = ((R.getD i default).1.map bdT).length := by rw [List.length_map, ← hL, List.length_map]
        rw [hlen] at hoq
        repeat' (first | (refine CL.seq ?_) | (refine CL.region ?_) | (refine CL.condP rfl (fun _ => ?_) (fun _ => ?_) <;> try (exfalso; omega)) | (refine CL.exit ?_) | (refine Ex.then ?_) | (refine Ex.hit ?_) | (refine Gt.nil ?_; refine RW.nilw [0, 1, 2, 3, 5, 6, 8, 9, 11, 13, 14, 15, 16, 19, 20, 21, 22, 28] ?_; dsimp only [H.keep, H.look, H.Fr.put, Nat.beq]) | (refine Gt.move ?_; refine RW.y (Y.move rfl) rfl ?_) | (refine Gt.lss ?_; refine RW.y (Y.lss rfl rfl) rfl ?_))
        refine RW.fn rfl rfl ((join _ _ [32] wv (Sl.of_own hoq) (by rw [← listT]; omega) (by omega)).mono ?_)
        rintro e w4 ⟨rfl, hk4⟩
        have hz4 := hk4.size
        have hzv := hkv.size
        have hzr := hkr.size
        refine RW.app1 rfl rfl rfl rfl (own_kept0 (own_kept0 how hkv) hk4) rfl rfl rfl rfl (one_vs _) (by omega) (by omega) (by omega) (fun u' w6 how' hk6 hl6 => ?_)
        repeat' (first | (refine CL.region ?_) | (refine CL.done ?_) | (refine Nm.block ?_) | (refine Nm.then ?_) | (refine Gt.nil ?_; refine RW.nilw [0, 1, 2, 3, 5, 6, 8, 9, 11, 13, 14, 15, 16, 19, 20, 21, 22, 28] ?_; dsimp only [H.keep, H.look, H.Fr.put, Nat.beq]) | (refine Gt.move ?_; refine RW.y (Y.move rfl) rfl ?_) | (refine Gt.assign ?_; refine RW.y (Y.assign rfl) rfl ?_) | (refine Gt.add ?_; (refine RW.y (Y.add64 rfl rfl (by omega) (by omega)) rfl ?_)))
        have hst : (R.take (i + 1)).map (fun y => listT y.1) = (R.take i).map (fun y => listT y.1) ++ [listT (R.getD i default).1] := by rw [take_snoc default R i hlt, List.map_append]; rfl
        exact ⟨R.length - (i + 1), _, rfl, rfl, rfl, by omega, i + 1, u', rfl, rfl, by omega, by rw [hst]; simpa [Value.cells, listT] using how', ((hkr.trans0 hkv).trans0 hk4).trans hk6 fun g hg => .inr (how.lt g hg).1⟩
    · have hi : i = R.length := by omega
      subst hi
      rw [List.take_length] at how
      have hmap : R.map (fun y => listT y.1) = s.or.map listT := by rw [hso, List.map_map]; rfl
      have hlen : R.length = (s.or.map listT).length := by rw [List.length_map, hso, List.length_map]
      rw [hmap, hlen] at how
      have hjl := orT_len fs
      repeat' (first | (refine CL.seq ?_) | (refine CL.region ?_) | (refine CL.condP rfl (fun _ => ?_) (fun _ => ?_) <;> try (exfalso; omega)) | (refine CL.exit ?_) | (refine Ex.then ?_) | (refine Ex.hit ?_) | (refine Gt.nil ?_; refine RW.nilw [0, 1, 2, 3, 5, 6, 8, 9, 11, 13, 14, 15, 16, 19, 20, 21, 22, 28] ?_; dsimp only [H.keep, H.look, H.Fr.put, Nat.beq]) | (refine Gt.move ?_; refine RW.y (Y.move rfl) rfl ?_) | (refine Gt.lss ?_; refine RW.y (Y.lss rfl rfl) rfl ?_))
      refine RW.fn rfl rfl ((join _ _ [32, 124, 124, 32] wr (Sl.of_own how) (by omega) (by omega)).mono ?_)
      rintro e w4 ⟨rfl, hk4⟩
      repeat' (first | (refine CL.ret ?_) | (refine Gt.nil ?_; refine RW.nilw [0, 1, 2, 3, 5, 6, 8, 9, 11, 13, 14, 15, 16, 19, 20, 21, 22, 28] ?_; dsimp only [H.keep, H.look, H.Fr.put, Nat.beq]) | (refine Gt.assign ?_; refine RW.y (Y.assign rfl) rfl ?_))
      refine FQ.one rfl rfl rfl ⟨(hk1.trans0 hkr).trans0 hk4, hret _ ?_⟩
      rw [spanT, if_neg (by rw [ha]; decide)]
  · rw [ha] at hb1'
    repeat' (first | (refine CL.seq ?_) | (refine CL.region ?_) | (refine CL.condT rfl ?_) | (refine CL.ret ?_) | (refine Gt.nil ?_; refine RW.nilw [0, 1, 2, 3, 5, 6, 8, 9, 11, 13, 14, 15, 16, 19, 20, 21, 22, 28] ?_; dsimp only [H.keep, H.look, H.Fr.put, Nat.beq]) | (refine Gt.assign ?_; refine RW.y (Y.assign rfl) rfl ?_) | (refine Gt.load ?_; (refine RW.y (Y.loadB rfl (by assumption) rfl) rfl ?_)) | (refine Gt.fieldAddr ?_; refine RW.y (Y.fieldAddr rfl (by rfl)) rfl ?_))
    refine FQ.one rfl rfl rfl ⟨hk1, hret _ ?_⟩
    rw [spanT, if_pos ha]
end Go.Proofs.YtjfdhafmbcppjaaGreatDoor.Sp

namespace Go.Proofs.YtjfdhafmbcppjaaGreatDoor.Sp
open Go.RowKit H S Ve
attribute [local irreducible] H.CL H.RW H.CW H.Yd H.thenK H.blockQ Go.Calls

theorem join_snoc' (sep : T) (l : List T) (x : T) : Go.Lib.join (l ++ [x]) sep = (if l.length = 0 then Go.Lib.join l sep else Go.Lib.join l sep ++ sep) ++ x := by
  rw [join_snoc]
  cases l with
  | nil => simp [Go.Lib.join_nil]
  | cons a r => simp

set_option maxHeartbeats 1000000 in
theorem refSpanText (X : Value) (s : Spn) (w : World) (hX : SpanAt w X s) (fs : FitT s) : Calls Tryz.prog 14 #[X] w fun e w' => K0 w w' ∧ e = .returned (vs (spanT s)) := by
  obtain ⟨p, rfl, R, hR, hs, hm⟩ := hX
  have k4 : ([32, 124, 124, 32] : T).length = 4 := rfl
  have k1 : ([32] : T).length = 1 := rfl
  refine H.enter Tryz.func14 Tryz.ntmps14 rfl rfl ?_; dsimp only [H.args]
  repeat' (first | (refine CL.seq ?_) | (refine CL.region ?_))
  refine RW.box rfl rfl (fun w1 hb1 hk1 hlt1 => ?_)
  have hb1' : w1.heap[w.heap.size]? = some (.cells #[.bool s.any, p] spnT (0, 0)) := hb1
  have hs1 := hs.keep0 hk1
  have hret : ∀ r : T, r = spanT s → Ending.returned (vs r) = .returned (vs (spanT s)) := fun r h => by rw [h]
  cases ha : s.any
  · rw [ha] at hb1'
    have hso : s.or = R.map (·.1) := hR.symm
    have hrl : R.length ≤ 20 := by have := fs.1; rw [hso, List.length_map] at this; exact this
    have hpre : ∀ i, (Go.Lib.join ((R.take i).map (fun y => listT y.1)) [32, 124, 124, 32]).length ≤ 1100000 := by
      intro i
      have := orT_len (o := (R.take i).map (·.1)) ⟨by rw [List.length_map, List.length_take]; omega, fun l hl => by
        obtain ⟨y, hy, rfl⟩ := List.mem_map.1 hl
        exact fs.2 _ (by rw [hso]; exact List.mem_map_of_mem (List.mem_of_mem_take hy))⟩
      rw [List.map_map] at this
      exact this
    repeat' (first | (refine CL.seq ?_) | (refine CL.region ?_) | (refine CL.skip ?_) | (refine CL.condF rfl ?_) | (refine CL.block ?_) | (refine Gt.nil ?_; refine RW.nilw [0, 1, 2, 3, 4, 5, 6, 8, 13, 17, 27, 31, 44] ?_; dsimp only [H.keep, H.look, H.Fr.put, Nat.beq]) | (refine Gt.assign ?_; refine RW.y (Y.assign rfl) rfl ?_) | (refine Gt.load ?_; (refine RW.y (Y.loadB rfl (by assumption) rfl) rfl ?_)) | (refine Gt.fieldAddr ?_; refine RW.y (Y.fieldAddr rfl (by rfl)) rfl ?_))
    refine CL.loopS [1, 3, 4] (fun m vals wr => ∃ (i : Nat), vals = [.pointer (some ⟨w.heap.size, 0, none⟩), vs (Go.Lib.join ((R.take i).map (fun y => listT y.1)) [32, 124, 124, 32]), .int .i64 (i : Int)] ∧ m = R.length - i ∧ i ≤ R.length ∧ K0 w1 wr) R.length ⟨_, rfl, 0, rfl, rfl, Nat.zero_le _, Kept.refl _ _⟩ ?_
    rintro m vals wr ⟨i, rfl, rfl, hi, hkr⟩
    dsimp only [List.zip, List.zipWith]
    have hsr := hs1.keep0 hkr
    have hbr := hkr.at0 hb1'
    have hpi := hpre i
    rcases Nat.lt_or_ge i R.length with hlt | hge
    · have hmem : R.getD i default ∈ R := getD_mem default hlt
      have fL := fs.2 (R.getD i default).1 (by rw [hso]; exact List.mem_map_of_mem hmem)
      obtain ⟨L, hL, hsL, hmL⟩ := (hm _ hmem).keep0 (hk1.trans0 hkr)
      have hLlen : L.length ≤ 20 := by have := fL.1; rw [← hL, List.length_map] at this; exact this
      have hti : ((i : Int)).toNat = i := Int.toNat_natCast i
      have hst : (R.take (i + 1)).map (fun y => listT y.1) = (R.take i).map (fun y => listT y.1) ++ [listT (R.getD i default).1] := by rw [take_snoc default R i hlt, List.map_append]; rfl
      have hsn : Go.Lib.join ((R.take (i + 1)).map (fun y => listT y.1)) [32, 124, 124, 32] = (if i = 0 then Go.Lib.join ((R.take i).map (fun y => listT y.1)) [32, 124, 124, 32] else Go.Lib.join ((R.take i).map (fun y => listT y.1)) [32, 124, 124, 32] ++ [32, 124, 124, 32]) ++ listT (R.getD i default).1 := by
        rw [hst, join_snoc', List.length_map, List.length_take, Nat.min_eq_left hi]
      have hlk : ∀ k, (Go.Lib.join ((L.take k).map (fun y => bdT y.1)) [32]).length ≤ 50000 := by
        intro k
        have := listT_len (l := (L.take k).map (·.1)) ⟨by rw [List.length_map, List.length_take]; omega, fun b hb => by
          obtain ⟨y, hy, rfl⟩ := List.mem_map.1 hb
          exact fL.2 _ (by rw [← hL]; exact List.mem_map_of_mem (List.mem_of_mem_take hy))⟩
        rw [listT, List.map_map] at this
        exact this
      generalize hacc : Go.Lib.join ((R.take i).map (fun y => listT y.1)) [32, 124, 124, 32] = acc at *
      repeat' (refine CL.seq ?_)
      refine CL.region ?_
      repeat' (first | (refine Gt.nil ?_; refine RW.nilw [0, 1, 2, 3, 4, 5, 6, 8, 13, 17, 27, 31, 44] ?_; dsimp only [H.keep, H.look, H.Fr.put, Nat.beq]) | (refine Gt.move ?_; refine RW.y (Y.move rfl) rfl ?_) | (refine Gt.load ?_; (refine RW.y (Y.loadB rfl (by assumption) rfl) rfl ?_)) | (refine Gt.fieldAddr ?_; refine RW.y (Y.fieldAddr rfl (by rfl)) rfl ?_) | (refine Gt.len ?_; (refine RW.y (Y.lenx rfl (by assumption)) rfl ?_)) | (refine Gt.lss ?_; refine RW.y (Y.lss rfl rfl) rfl ?_))
      refine CL.condP rfl (fun _ => ?_) (fun _ => ?_) <;> try (exfalso; omega)
      refine CL.skip ?_
      refine CL.seq ?_
      refine CL.block ?_
      refine CL.seq ?_
      refine CL.cutS [1, 3, 4] (fun vals wx => vals = [.pointer (some ⟨w.heap.size, 0, none⟩), vs (if i = 0 then acc else acc ++ [32, 124, 124, 32]), .int .i64 (i : Int)] ∧ wx = wr) (by simp) ?_ ?_
      · repeat' (first | (refine CL.seq ?_) | (refine CL.region ?_) | (refine CL.skip ?_) | (refine CL.condP rfl (fun _ => ?_) (fun _ => ?_) <;> try (exfalso; omega)) | (refine CL.done ?_) | (refine Nm.then ?_) | (refine Gt.nil ?_; refine RW.nilw [0, 1, 2, 3, 4, 5, 6, 8, 13, 17, 27, 31, 44] ?_; dsimp only [H.keep, H.look, H.Fr.put, Nat.beq]) | (refine Gt.move ?_; refine RW.y (Y.move rfl) rfl ?_) | (refine Gt.assign ?_; refine RW.y (Y.assign rfl) rfl ?_) | (refine Gt.add ?_; (refine RW.y (Y.cat rfl rfl (by omega)) rfl ?_)) | (refine Gt.gtr ?_; refine RW.y (Y.gtr rfl rfl) rfl ?_))
        · rename_i g1
          exact ⟨_, rfl, rfl, rfl, by rw [if_neg (by omega)], rfl⟩
        · rename_i g1
          exact ⟨_, rfl, rfl, rfl, by rw [if_pos (by omega)], rfl⟩
      rintro vals wx ⟨rfl, rfl⟩
      dsimp only [List.zip, List.zipWith]
      have hpl : (if i = 0 then acc else acc ++ [32, 124, 124, 32]).length ≤ 1100004 := by split <;> (try rw [List.length_append]) <;> omega
      generalize hpre' : (if i = 0 then acc else acc ++ [32, 124, 124, 32]) = pre at *
      rw [← hti] at hsL
      repeat' (first | (refine CL.seq ?_) | (refine CL.region ?_) | (refine CL.block ?_) | (refine Gt.nil ?_; refine RW.nilw [0, 1, 2, 3, 4, 5, 6, 8, 13, 17, 27, 31, 44] ?_; dsimp only [H.keep, H.look, H.Fr.put, Nat.beq]) | (refine Gt.assign ?_; refine RW.y (Y.assign rfl) rfl ?_))
      refine CL.loopS [1, 3, 4, 5] (fun m vals wv => ∃ (k : Nat), vals = [.pointer (some ⟨w.heap.size, 0, none⟩), vs (pre ++ Go.Lib.join ((L.take k).map (fun y => bdT y.1)) [32]), .int .i64 (i : Int), .int .i64 (k : Int)] ∧ m = L.length - k ∧ k ≤ L.length ∧ K0 wx wv) L.length ⟨_, rfl, 0, by rw [List.take_zero, List.map_nil, Go.Lib.join_nil, List.append_nil]; rfl, rfl, Nat.zero_le _, Kept.refl _ _⟩ ?_
      rintro m vals wv ⟨k, rfl, rfl, hk, hkv⟩
      dsimp only [List.zip, List.zipWith]
      have hsv := hsL.keep0 hkv
      have hsrv := hsr.keep0 hkv
      have hbv := hkv.at0 hbr
      have hlk' := hlk k
      rcases Nat.lt_or_ge k L.length with hkl | hkg
      · have hkm : L.getD k default ∈ L := getD_mem default hkl
        have hy := (hmL _ hkm).keep0 hkv
        have fy := fL.2 (L.getD k default).1 (by rw [← hL]; exact List.mem_map_of_mem hkm)
        have htl := textV_len fy.2
        have hsk : Go.Lib.join ((L.take (k + 1)).map (fun y => bdT y.1)) [32] = (if k = 0 then Go.Lib.join ((L.take k).map (fun y => bdT y.1)) [32] else Go.Lib.join ((L.take k).map (fun y => bdT y.1)) [32] ++ [32]) ++ bdT (L.getD k default).1 := by
          rw [take_snoc default L k hkl, List.map_append, List.map_singleton, join_snoc', List.length_map, List.length_take, Nat.min_eq_left hk]
        generalize hac2 : Go.Lib.join ((L.take k).map (fun y => bdT y.1)) [32] = ac2 at *
        repeat' (refine CL.seq ?_)
        refine CL.region ?_
        repeat' (first | (refine Gt.nil ?_; refine RW.nilw [0, 1, 2, 3, 4, 5, 6, 8, 13, 17, 27, 31, 44] ?_; dsimp only [H.keep, H.look, H.Fr.put, Nat.beq]) | (refine Gt.move ?_; refine RW.y (Y.move rfl) rfl ?_) | (refine Gt.load ?_; (refine RW.y (Y.loadB rfl (by assumption) rfl) rfl ?_)) | (refine Gt.fieldAddr ?_; refine RW.y (Y.fieldAddr rfl (by rfl)) rfl ?_) | (refine Gt.len ?_; (refine RW.y (Y.lenx rfl (by assumption)) rfl ?_)) | (refine Gt.lss ?_; refine RW.y (Y.lss rfl rfl) rfl ?_) | (refine Gt.idx ?_; (refine RW.elemM rfl rfl rfl rfl (by assumption) (by omega) (by omega) ?_)))
        refine CL.condP rfl (fun _ => ?_) (fun _ => ?_) <;> try (exfalso; omega)
        refine CL.skip ?_
        refine CL.seq ?_
        refine CL.block ?_
        refine CL.seq ?_
        refine CL.cutS [1, 3, 4, 5] (fun vals wx => vals = [.pointer (some ⟨w.heap.size, 0, none⟩), vs (pre ++ (if k = 0 then ac2 else ac2 ++ [32])), .int .i64 (i : Int), .int .i64 (k : Int)] ∧ wx = wv) (by simp) ?_ ?_
        · repeat' (first | (refine CL.seq ?_) | (refine CL.region ?_) | (refine CL.skip ?_) | (refine CL.condP rfl (fun _ => ?_) (fun _ => ?_) <;> try (exfalso; omega)) | (refine CL.done ?_) | (refine Nm.then ?_) | (refine Gt.nil ?_; refine RW.nilw [0, 1, 2, 3, 4, 5, 6, 8, 13, 17, 27, 31, 44] ?_; dsimp only [H.keep, H.look, H.Fr.put, Nat.beq]) | (refine Gt.move ?_; refine RW.y (Y.move rfl) rfl ?_) | (refine Gt.assign ?_; refine RW.y (Y.assign rfl) rfl ?_) | (refine Gt.add ?_; (refine RW.y (Y.cat rfl rfl (by (simp only [List.length_append, List.length_cons, List.length_nil]; omega))) rfl ?_)) | (refine Gt.gtr ?_; refine RW.y (Y.gtr rfl rfl) rfl ?_))
          · exact ⟨_, rfl, rfl, rfl, by rw [if_neg (by omega), List.append_assoc], rfl⟩
          · exact ⟨_, rfl, rfl, rfl, by rw [if_pos (by omega)], rfl⟩
        rintro vals wx' ⟨rfl, rfl⟩
        dsimp only [List.zip, List.zipWith]
        have hpl2 : (if k = 0 then ac2 else ac2 ++ [32]).length ≤ 50001 := by split <;> (try rw [List.length_append]) <;> omega
        generalize hpre2 : (if k = 0 then ac2 else ac2 ++ [32]) = pre2 at *
        repeat' (first | (refine CL.seq ?_) | (refine CL.region ?_) | (refine Gt.move ?_; refine RW.y (Y.move rfl) rfl ?_) | (refine Gt.load ?_; (refine RW.y (Y.loadB rfl (by assumption) rfl) rfl ?_)) | (refine Gt.fieldAddr ?_; refine RW.y (Y.fieldAddr rfl (by rfl)) rfl ?_) | (refine Gt.idx ?_; first | (refine RW.elemM rfl rfl rfl rfl (by assumption) (by omega) (by omega) ?_) | (refine RW.elemA rfl rfl rfl rfl (by assumption) (fun _ => by rfl) rfl (by omega) (by omega) (fun _ => ?_))))
        refine RW.varN (u := #[vs (L.getD k default).1.sign, .int .i64 (L.getD k default).1.v.a, .int .i64 (L.getD k default).1.v.b, .int .i64 (L.getD k default).1.v.c, (L.getD k default).2]) rfl rfl rfl (bdCells hy.one) rfl (fun w4 hb4 hk4 hlt4 => ?_)
        have hy4 := hy.keep0 hk4
        generalize L.getD k default = y at *
        repeat' (first | (refine CL.seq ?_) | (refine CL.region ?_) | (refine CL.condP rfl (fun _ => ?_) (fun _ => ?_) <;> try (exfalso; omega)) | (refine Gt.nil ?_; refine RW.nilw [0, 1, 2, 3, 4, 5, 6, 8, 13, 17, 27, 31, 44] ?_; dsimp only [H.keep, H.look, H.Fr.put, Nat.beq]) | (refine RW.y (Y.loadN (cs := [_, _, _, _]) rfl rfl (load4 hb4)) rfl ?_) | (refine Gt.move ?_; refine RW.y (Y.move rfl) rfl ?_) | (refine Gt.load ?_; (refine RW.y (Y.loadB rfl (by assumption) rfl) rfl ?_)) | (refine Gt.fieldAddr ?_; refine RW.y (Y.fieldAddr rfl (by rfl)) rfl ?_) | (refine Gt.eql ?_; refine RW.y (Y.eqs rfl rfl) rfl ?_))
        · rename_i hsg
          refine RW.fn rfl rfl ((refVText _ y.1.v w4 ⟨y.2, rfl, hy4⟩ fy.2.fit fy.2.2.1.2 fy.2.2.2.1.2 fy.2.2.2.2.2).mono ?_)
          rintro e w5 ⟨hk5, rfl⟩
          refine RW.y (Y.cat rfl rfl (by rw [List.length_append]; omega)) rfl ?_
          repeat' (first | (refine CL.region ?_) | (refine CL.done ?_) | (refine Nm.block ?_) | (refine Nm.then ?_) | (refine Gt.nil ?_; refine RW.nilw [0, 1, 2, 3, 4, 5, 6, 8, 13, 17, 27, 31, 44] ?_; dsimp only [H.keep, H.look, H.Fr.put, Nat.beq]) | (refine Gt.move ?_; refine RW.y (Y.move rfl) rfl ?_) | (refine Gt.assign ?_; refine RW.y (Y.assign rfl) rfl ?_) | (refine Gt.add ?_; (refine RW.y (Y.add64 rfl rfl (by omega) (by omega)) rfl ?_)))
          exact ⟨L.length - (k + 1), _, rfl, rfl, rfl, by omega, k + 1, by rw [hsk, bdT, if_pos hsg, List.nil_append, List.append_assoc]; rfl, rfl, by omega, (hkv.trans0 hk4).trans0 hk5⟩
        · rename_i hsg
          refine CL.draw (fun w' => K0 w4 w') (by kernel_rfl) (fun w5 hheap hk5 => ?_)
          have hS : K0 w4 w5 := hk5
          skip
          refine AW.take 0 rfl (by kernel_rfl) (by kernel_rfl) (by kernel_rfl) rfl (by assumption) (fun w hS => Y.move rfl) ?_
          refine AW.take 1 rfl (by kernel_rfl) (by kernel_rfl) (by kernel_rfl) rfl (by assumption) (fun w hS => Y.fieldAddr rfl (by rfl)) ?_
          refine AW.take 2 rfl (by kernel_rfl) (by kernel_rfl) (by kernel_rfl) rfl (by assumption) (fun w hS => Y.loadB rfl (hS.at0 hb4) rfl) ?_
          refine AW.take 3 rfl (by kernel_rfl) (by kernel_rfl) (by kernel_rfl) rfl (by assumption) (fun w hS => Y.cat rfl rfl (by rw [List.length_append]; omega)) ?_
          refine AW.take 4 rfl (by kernel_rfl) (by kernel_rfl) (by kernel_rfl) rfl (by assumption) (fun w hS => Y.fieldAddr rfl (by rfl)) ?_
          refine AW.take 5 rfl (by kernel_rfl) (by kernel_rfl) (by kernel_rfl) rfl (by assumption) (fun w hS => Y.loadN (cs := [_, _, _, _]) rfl rfl (load4 (hS.at0 hb4))) ?_
          refine AW.next 6 rfl (by kernel_rfl) ?_
          refine RW.fn rfl rfl ((refVText _ y.1.v w5 ⟨y.2, rfl, hy4.keep0 hk5⟩ fy.2.fit fy.2.2.1.2 fy.2.2.2.1.2 fy.2.2.2.2.2).mono ?_)
          rintro e w6 ⟨hk6, rfl⟩
          refine RW.nil (Nm.then (rebase0 hS hk6 fun hS => ?_))
          refine AW.take 7 rfl (by kernel_rfl) (by kernel_rfl) (by kernel_rfl) rfl (by assumption) (fun w hS => Y.cat rfl rfl (by rw [List.length_append, List.length_append]; omega)) ?_
          refine AW.take 8 rfl (by kernel_rfl) (by kernel_rfl) (by kernel_rfl) rfl (by assumption) (fun w hS => Y.assign rfl) ?_
          refine AW.donew [1, 3, 4, 5] (by kernel_rfl) ?_
          dsimp only [H.keep, H.look, H.Fr.put, Nat.beq]
          repeat' (first | (refine CL.region ?_) | (refine CL.done ?_) | (refine Nm.block ?_) | (refine Nm.then ?_) | (refine Gt.nil ?_; refine RW.nilw [0, 1, 2, 3, 4, 5, 6, 8, 13, 17, 27, 31, 44] ?_; dsimp only [H.keep, H.look, H.Fr.put, Nat.beq]) | (refine Gt.move ?_; refine RW.y (Y.move rfl) rfl ?_) | (refine Gt.assign ?_; refine RW.y (Y.assign rfl) rfl ?_) | (refine Gt.add ?_; (refine RW.y (Y.add64 rfl rfl (by omega) (by omega)) rfl ?_)))
          exact ⟨L.length - (k + 1), _, rfl, rfl, rfl, by omega, k + 1, by rw [hsk, bdT, if_neg hsg]; simp only [List.append_assoc]; rfl, rfl, by omega, ((hkv.trans0 hk4).trans0 hk5).trans0 hk6⟩
      · have hk : k = L.length := by omega
        subst hk
        rw [List.take_length] at *
        have hmap : L.map (fun y => bdT y.1) = (R.getD i default).1.map bdT := by rw [← hL, List.map_map]; rfl
        rw [hmap]
        repeat' (first | (refine CL.seq ?_) | (refine CL.region ?_) | (refine CL.condP rfl (fun _ => ?_) (fun _ => ?_) <;> try (exfalso; omega)) | (refine CL.exit ?_) | (refine Ex.then ?_) | (refine Ex.hit ?_) | (refine CL.done ?_) | (refine Nm.block ?_) | (refine Nm.then ?_) | (refine Gt.nil ?_; refine RW.nilw [0, 1, 2, 3, 4, 5, 6, 8, 13, 17, 27, 31, 44] ?_; dsimp only [H.keep, H.look, H.Fr.put, Nat.beq]) | (refine Gt.move ?_; refine RW.y (Y.move rfl) rfl ?_) | (refine Gt.assign ?_; refine RW.y (Y.assign rfl) rfl ?_) | (refine Gt.load ?_; (refine RW.y (Y.loadB rfl (by assumption) rfl) rfl ?_)) | (refine Gt.fieldAddr ?_; refine RW.y (Y.fieldAddr rfl (by rfl)) rfl ?_) | (refine Gt.add ?_; (refine RW.y (Y.add64 rfl rfl (by omega) (by omega)) rfl ?_)) | (refine Gt.len ?_; (refine RW.y (Y.lenx rfl (by assumption)) rfl ?_)) | (refine Gt.lss ?_; refine RW.y (Y.lss rfl rfl) rfl ?_) | (refine Gt.idx ?_; (refine RW.elemM rfl rfl rfl rfl (by assumption) (by omega) (by omega) ?_)))
        exact ⟨R.length - (i + 1), _, rfl, rfl, rfl, by omega, i + 1, by rw [hsn, listT]; rfl, rfl, by omega, hkr.trans0 hkv⟩
    · have hi : i = R.length := by omega
      subst hi
      repeat' (first | (refine CL.seq ?_) | (refine CL.region ?_) | (refine CL.condP rfl (fun _ => ?_) (fun _ => ?_) <;> try (exfalso; omega)) | (refine CL.exit ?_) | (refine Ex.then ?_) | (refine Ex.hit ?_) | (refine CL.ret ?_) | (refine Gt.nil ?_; refine RW.nilw [0, 1, 2, 3, 4, 5, 6, 8, 13, 17, 27, 31, 44] ?_; dsimp only [H.keep, H.look, H.Fr.put, Nat.beq]) | (refine Gt.move ?_; refine RW.y (Y.move rfl) rfl ?_) | (refine Gt.assign ?_; refine RW.y (Y.assign rfl) rfl ?_) | (refine Gt.load ?_; (refine RW.y (Y.loadB rfl (by assumption) rfl) rfl ?_)) | (refine Gt.fieldAddr ?_; refine RW.y (Y.fieldAddr rfl (by rfl)) rfl ?_) | (refine Gt.len ?_; (refine RW.y (Y.lenx rfl (by assumption)) rfl ?_)) | (refine Gt.lss ?_; refine RW.y (Y.lss rfl rfl) rfl ?_))
      refine FQ.one rfl rfl rfl ⟨hk1.trans0 hkr, hret _ ?_⟩
      rw [List.take_length, spanT, if_neg (by rw [ha]; decide), hso, List.map_map]
      rfl
  · rw [ha] at hb1'
    repeat' (first | (refine CL.seq ?_) | (refine CL.region ?_) | (refine CL.condT rfl ?_) | (refine CL.ret ?_) | (refine Gt.nil ?_; refine RW.nilw [0, 1, 2, 3, 4, 5, 6, 8, 13, 17, 27, 31, 44] ?_; dsimp only [H.keep, H.look, H.Fr.put, Nat.beq]) | (refine Gt.assign ?_; refine RW.y (Y.assign rfl) rfl ?_) | (refine Gt.load ?_; (refine RW.y (Y.loadB rfl (by assumption) rfl) rfl ?_)) | (refine Gt.fieldAddr ?_; refine RW.y (Y.fieldAddr rfl (by rfl)) rfl ?_))
    refine FQ.one rfl rfl rfl ⟨hk1, hret _ ?_⟩
    rw [spanT, if_pos ha]
end Go.Proofs.YtjfdhafmbcppjaaGreatDoor.Sp

namespace Go.Proofs.YtjfdhafmbcppjaaGreatDoor.H
open Go.RowKit

/-- What an iterator that yields the list xs does; T: what it reads besides, and what must hold behind each round. -/
def SeqT {α : Type} (P : Program) (gf : Nat) (cap : List Value) (enc : α → List Value) (S : Nat → Prop) (T : World → Prop) (Pre : World → Prop) (xs : List α) : Prop :=
  ∀ (l : Nat) (J Jx : List α → World → Prop) (W : World), Pre W → Abid S J → Abid S Jx → (∀ pre W, J pre W → T W) →
    (∀ pre x W1, J pre W1 → (pre ++ [x]) <+: xs → YieldAt Fence.wide 0 P l (enc x).toArray W1 fun e W' =>
      (e = .returned (.bool true) ∧ J (pre ++ [x]) W' ∧ Same S W1 W') ∨ (e = .returned (.bool false) ∧ Jx (pre ++ [x]) W')) →
    J [] W → Calls P gf (.func (.yield l) #[] #[] :: cap).toArray W fun e W' => (∃ v, e = .returned v) ∧ (J xs W' ∨ ∃ pre, Jx pre W')
section
variable {P : Program} {Q : Post} {cs : List Code} {f : Fr} {w : World}
theorem CL.rangeFuncT {α : Type} {g : Operand} {ps : List Nat} {assign body : Code} {gf : Nat} {cap : List Value} {enc : α → List Value} {S : Nat → Prop} {T : World → Prop} {Pre : World → Prop} {xs : List α} [he : Ent P gf]
    (hg : f.ev g = some (.func (.func gf) #[] cap.toArray)) (hseq : SeqT P gf cap enc S T Pre xs) (hpre : ∀ W, K0 w W → Pre W) (hps : ∀ x, (enc x).length = ps.length) (hpn : ∀ p ∈ ps, Nat.blt p f.n = true)
    (hS : ∀ k, S k → k < w.heap.size) (I : List α → World → Prop) (Ix : Option Nat → List α → World → Prop)
    (hI : Abid (fun k => S k ∨ k = w.heap.size ∨ k = w.heap.size + 1) I) (hIx : ∀ c, Abid (fun k => S k ∨ k = w.heap.size ∨ k = w.heap.size + 1) (Ix c)) (h0 : I [] w) (hT : ∀ pre W, I pre W → T W)
    (hround : ∀ l pre x W, I pre W → (pre ++ [x]) <+: xs → w.heap.size + 2 ≤ W.heap.size →
      CL (some (some l)) P (thenK (fun f1 W1 => W1 = W ∧ ∀ W2, I pre W2 → w.heap.size + 2 ≤ W2.heap.size → CL (some (some l)) P (RQ (fun k => S k ∨ k = w.heap.size ∨ k = w.heap.size + 1) I Ix (pre ++ [x]) W2) [body] f1 W2) (fun _ _ _ => False)) [assign] (Fr.puts ⟨f.n, [], f.e⟩ ps (enc x)) W)
    (hdone : ∀ W, I xs W → W.heap[w.heap.size]? = some (.deferred (some [])) → CL none P Q cs ⟨f.n, markOf w.heap.size :: f.ds, f.e⟩ W)
    (hstop : ∀ c pre W, Ix c pre W → W.heap[w.heap.size]? = some (.deferred (some [])) → match c with
      | none => Q .ret ⟨f.n, markOf w.heap.size :: f.ds, f.e⟩ W
      | some k => Q (.exit k) ⟨f.n, markOf w.heap.size :: f.ds, f.e⟩ W) :
    CL none P Q (.rangeFunc g ps.toArray assign body :: cs) f w := by
  intro a ha
  show Code.wp P _ _ a w
  refine (wpIn_wide (n := 0)).1 (wpIn_rangeFunc fun fn _ => ?_)
  have ha0 : Ag ⟨f.n, [], f.e⟩ { tmps := a.tmps, defers := [] } := ⟨ha.size, rfl, ha.slot⟩
  have ham : Ag ⟨f.n, markOf w.heap.size :: f.ds, f.e⟩ { a with defers := [markOf w.heap.size] ++ a.defers } := ⟨ha.size, by simp [ha.defers], ha.slot⟩
  have hga := ha.eval hg
  obtain ⟨rec, hrec⟩ : ∃ rec : LoopState → Option Code → Loop, rec = fun st pe => { state := st, pending := pe, fn, tmps := a.tmps, params := ps.toArray, assign, body, defers := w.heap.size } := ⟨_, rfl⟩
  obtain ⟨W1, hW1⟩ : ∃ W1, (w.alloc (.deferred (some []))).alloc (.loop (rec .ready none)) = W1 := ⟨_, rfl⟩
  have hL1 : W1.heap[w.heap.size + 1]? = some (.loop (rec .ready none)) := by
    rw [← hW1]; have := World.alloc_heap_new (w.alloc (.deferred (some []))) (.loop (rec .ready none)); rwa [World.size_alloc] at this
  have hK1 : W1.heap[w.heap.size]? = some (.deferred (some [])) := by
    rw [← hW1]; exact (Below.heap_alloc _ _ _ (by simp)).trans (World.alloc_heap_new w _)
  have hk1 : K0 w W1 := by rw [← hW1]; exact (Kept.alloc w _).trans0 (Kept.alloc _ _)
  have hI1 : I [] W1 := hI _ _ _ h0 hk1.of0
  refine ⟨w.heap.size + 1, [markOf w.heap.size], W1, { target := .fn (.func gf) cap.toArray, args := #[.func (.yield (w.heap.size + 1)) #[] #[]] }, W1, gf,
    #[.func (.yield (w.heap.size + 1)) #[] #[]] ++ cap.toArray, W1, ?_, ?_, ?_, ?_, ?_, ?_⟩
  · rw [← hW1, hrec]; exact run_enterLoop_outer _ _ _ _ _
  · simp only [resolve, hga]
    simp [go_sem]
  · intro _ _; trivial
  · simp [invoke, go_sem, he.out]
  · intro c; simp [Fence.wide] at c
  refine callsIn_wide.2 ?_
  have hargs : #[.func (.yield (w.heap.size + 1)) #[] #[]] ++ cap.toArray = (Value.func (.yield (w.heap.size + 1)) #[] #[] :: cap).toArray := by simp
  rw [hargs]
  have hput : ∀ {k : Nat}, k = w.heap.size + 1 → S k ∨ k = w.heap.size ∨ k = w.heap.size + 1 := fun h => .inr (.inr h)
  refine Calls.mono (hseq (w.heap.size + 1)
    (fun pre W => I pre W ∧ W.heap[w.heap.size + 1]? = some (.loop (rec .ready none)) ∧ W.heap[w.heap.size]? = some (.deferred (some [])))
    (fun pre W => ∃ c, Ix c pre W ∧ W.heap[w.heap.size + 1]? = some (.loop (rec .done (some (jumpOf c)))) ∧ W.heap[w.heap.size]? = some (.deferred (some [])))
    W1 (hpre _ hk1) ?_ ?_ (fun pre W h => hT pre W h.1) ?_ ⟨hI1, hL1, hK1⟩) ?_
  · rintro s A B ⟨h1, h2, h3⟩ hk
    exact ⟨hI _ _ _ h1 (hk.mono fun k h => .inl h), hk.at h2 (fun c => by have := hS _ c; omega), hk.at h3 (fun c => by have := hS _ c; omega)⟩
  · rintro s A B ⟨c, h1, h2, h3⟩ hk
    exact ⟨c, hIx _ _ _ _ h1 (hk.mono fun k h => .inl h), hk.at h2 (fun c => by have := hS _ c; omega), hk.at h3 (fun c => by have := hS _ c; omega)⟩
  · -- one round
    rintro pre x W ⟨hi, hl, hk⟩ hpf
    have hlt : w.heap.size + 1 < W.heap.size := (Array.getElem?_eq_some_iff.1 hl).1
    have hy := run_yield (P := P) (args := (enc x).toArray) hl (by rw [hrec]; simp [hps x])
    rw [hrec] at hy
    refine ⟨fn, _, assign, body, hy, roundIn_of_wpIn trivial ?_⟩
    have hag := Ag.puts ps (enc x) ha0 hpn
    have hw := CL.one (hround (w.heap.size + 1) pre x W hi hpf hlt) _ hag
    have hin : Rd1 (some (w.heap.size + 1)) = Fence.wide.inRound (w.heap.size + 1) := rfl
    have htm : (ps.toArray.zip (enc x).toArray).foldl (fun tmps (x : Tmp × Value) => match x with | (t, a) => tmps.setIfInBounds t a) a.tmps = (ps.zip (enc x)).foldl (fun t (x : Nat × Value) => t.setIfInBounds x.1 x.2) a.tmps := by
      rw [List.zip_toArray, List.foldl_toArray]
    rw [htm]
    refine wpIn_mono (show Code.wpIn (Fence.wide.inRound (w.heap.size + 1)) 0 P assign _ _ W from hw) ?_
    rintro e a1 W' ⟨f1, hf1, q⟩
    cases e with
    | normal =>
      obtain ⟨rfl, q⟩ := q
      refine ⟨_, run_beginRound hl (by rw [hrec]), ?_⟩
      obtain ⟨W2, hW2⟩ : ∃ W2, W'.putObj (w.heap.size + 1) (.loop { rec .ready none with state := .busy }) = W2 := ⟨_, rfl⟩
      have hl2 : W2.heap[w.heap.size + 1]? = some (.loop { rec .ready none with state := .busy }) := by rw [← hW2]; exact World.putObj_heap_same hlt
      have hk2 : W2.heap[w.heap.size]? = some (.deferred (some [])) := by rw [← hW2]; exact (World.putObj_heap_other (by omega)).trans hk
      have hkp2 : Kept (fun k => k = w.heap.size + 1) W' W2 := by rw [← hW2]; exact kept_putObj _ _ _
      have hi2 := hI _ _ _ hi (hkp2.mono fun k h => hput h)
      rw [hW2]
      have hb := CL.one (q W2 hi2 (by have := hkp2.size; omega)) a1 hf1
      refine wpIn_mono (show Code.wpIn (Fence.wide.inRound (w.heap.size + 1)) 0 P body _ _ W2 from hb) ?_
      have fin : ∀ (jump : Option Code) (W3 : World), Same (fun k => S k ∨ k = w.heap.size ∨ k = w.heap.size + 1) W2 W3 →
          ∃ W4, (Instr.endRound (w.heap.size + 1) jump).run P W3 = .ok (.bool jump.isNone) W4 ∧ Kept (fun k => k = w.heap.size + 1) W3 W4 ∧
          W4.heap[w.heap.size + 1]? = some (.loop (rec (if jump.isNone then .ready else .done) jump)) ∧ W4.heap[w.heap.size]? = some (.deferred (some [])) ∧ Same S W' W4 := fun jump W3 hs3 => by
        have hl3 := (hs3.2 _ (.inr (.inr rfl))).trans hl2
        have hk3 := (hs3.2 _ (.inr (.inl rfl))).trans hk2
        have := run_endRound (P := P) jump hl3
        rw [hrec] at this ⊢
        refine ⟨_, this, kept_putObj _ _ _, World.putObj_heap_same (Array.getElem?_eq_some_iff.1 hl3).1, (World.putObj_heap_other (by omega)).trans hk3, ?_⟩
        have hne : ∀ k, S k → k ≠ w.heap.size + 1 := fun k hk => by have := hS k hk; omega
        refine ⟨by have h1 := hkp2.size; have h2 := hs3.1; simp; omega, fun k hk => ?_⟩
        rw [World.putObj_heap_other (hne k hk), hs3.2 k (.inl hk), ← hW2, World.putObj_heap_other (hne k hk)]
      rintro e a3 W3 ⟨f3, hf3, hp⟩
      cases e with
      | normal =>
        obtain ⟨hs3, hi3⟩ := hp
        obtain ⟨W4, hr, hk4, hl4, hd4, hs4⟩ := fin none W3 hs3
        exact ⟨_, _, hr, .inl ⟨rfl, ⟨hI _ _ _ hi3 (hk4.mono fun k h => hput h), hl4, hd4⟩, hs4⟩⟩
      | ret =>
        obtain ⟨hs3, hi3⟩ := hp
        obtain ⟨W4, hr, hk4, hl4, hd4, hs4⟩ := fin (some .ret) W3 hs3
        exact ⟨_, _, hr, .inr ⟨rfl, none, hIx _ _ _ _ hi3 (hk4.mono fun k h => hput h), hl4, hd4⟩⟩
      | exit k =>
        obtain ⟨hs3, hi3⟩ := hp
        obtain ⟨W4, hr, hk4, hl4, hd4, hs4⟩ := fin (some (.exit k)) W3 hs3
        exact ⟨_, _, hr, .inr ⟨rfl, some k, hIx _ _ _ _ hi3 (hk4.mono fun k h => hput h), hl4, hd4⟩⟩
      | goto t => exact hp.elim
      | panic ch => exact hp.elim
      | outgrown => exact hp.elim
    | _ => exact q.elim
  · -- behind the iterator
    rintro e W2 ⟨⟨v, rfl⟩, (⟨hi, hl, hk⟩ | ⟨pre, c, hi, hl, hk⟩)⟩
    · have hend := run_endLoop (P := P) hl (by rw [hrec]; simp)
      rw [hrec] at hend
      exact ⟨none, _, hend, ⟨_, ham, hdone _ (hI _ _ _ hi ((kept_putObj _ _ _).mono fun k h => hput h)) ((World.putObj_heap_other (by omega)).trans hk)⟩⟩
    · have hend : (Instr.endLoop (w.heap.size + 1)).run P W2 = .ok (some (jumpOf c)) (W2.putObj (w.heap.size + 1) (.loop { rec .done (some (jumpOf c)) with state := .exhausted })) := by
        have := run_endLoop (P := P) hl (by rw [hrec]; simp)
        rw [this, hrec]
      have hIx4 := hIx c _ _ _ hi ((kept_putObj W2 (w.heap.size + 1) (.loop { rec .done (some (jumpOf c)) with state := .exhausted })).mono fun k h => hput h)
      have hd4 : (W2.putObj (w.heap.size + 1) (.loop { rec .done (some (jumpOf c)) with state := .exhausted })).heap[w.heap.size]? = some (.deferred (some [])) := (World.putObj_heap_other (by omega)).trans hk
      have hs := hstop c pre _ hIx4 hd4
      refine ⟨some (jumpOf c), _, hend, ?_⟩
      cases c with
      | none => exact wpIn_ret ⟨_, ham, hs⟩
      | some k => exact wpIn_exit ⟨_, ham, hs⟩

end
end Go.Proofs.YtjfdhafmbcppjaaGreatDoor.H

namespace Go.Proofs.YtjfdhafmbcppjaaGreatDoor.S
open Go.RowKit H
attribute [local irreducible] H.CL H.RW H.CW H.Yd H.thenK H.blockQ Go.Calls

set_option maxHeartbeats 1000000 in
theorem splitIt2T (l : List UInt8) (hl : l.length ≤ 1000000) (bs bt bv : Nat) (h1 : bt ≠ bs) (h2 : bt ≠ bv) :
    SeqT Tryz.prog 81 [.pointer (some ⟨bs, 0, none⟩), .pointer (some ⟨bt, 0, none⟩), .pointer (some ⟨bv, 0, none⟩)] (fun x : List UInt8 => [vs x]) (fun k => k = bs ∨ k = bt ∨ k = bv) Ml (Sp2 l bs bt bv) (Sp.orB l) := by
  intro r J Jx W hpre hJ hJx hJT hy h0
  obtain ⟨hbs, hbt, hbv, hM⟩ := hpre
  have hc2 : ([124, 124] : List UInt8).length = 2 := rfl
  have hcs : ∀ {k}, k = bt → k = bs ∨ k = bt ∨ k = bv := fun h => .inr (.inl h)
  refine H.enterI Tryz.func81 Tryz.ntmps81 rfl rfl ?_; dsimp only [H.args]
  repeat' (first | (refine CL.seq ?_) | (refine CL.region ?_) | (refine CL.skip ?_) | (refine CL.condP rfl (fun _ => ?_) (fun _ => ?_) <;> try (exfalso; omega)) | (refine CL.block ?_) | (refine Gt.nil ?_; refine RW.nilw [0, 1, 2, 3, 6, 7, 8, 11, 14, 25, 33, 42] ?_; dsimp only [H.keep, H.look, H.Fr.put, Nat.beq]) | (refine Gt.load ?_; refine RW.y (Y.loadB rfl (by assumption) rfl) rfl ?_) | (refine Gt.len ?_; refine RW.y (Y.lens rfl) rfl ?_) | (refine Gt.eql ?_; refine RW.y (Y.eqi rfl rfl) rfl ?_))
  refine CL.loopS [0, 1, 2, 3] (fun m vals wr => ∃ (done : List (List UInt8)) (rest : List UInt8), vals = [.func (.yield r) #[] #[], .pointer (some ⟨bs, 0, none⟩), .pointer (some ⟨bt, 0, none⟩), .pointer (some ⟨bv, 0, none⟩)] ∧ m = rest.length ∧ Sp.orB l = done ++ Sp.orB rest ∧ rest.length ≤ l.length ∧ J done wr ∧ Sp2 rest bs bt bv wr) l.length ⟨_, rfl, [], l, rfl, rfl, rfl, Nat.le_refl _, h0, hbs, hbt, hbv, hM⟩ ?_
  rintro m vals wr ⟨done, rest, rfl, rfl, hsp, hrl, hJ1, hbs1, hbt1, hbv1, hM1⟩
  dsimp only [List.zip, List.zipWith]
  repeat' (first | (refine CL.seq ?_) | (refine CL.region ?_) | (refine CL.block ?_) | (refine Gt.load ?_; refine RW.y (Y.loadB rfl (by assumption) rfl) rfl ?_))
  refine RW.fn rfl rfl ((index2 rest (by omega) wr hM1).mono ?_)
  rintro e w1 ⟨rfl, rfl⟩
  rcases Sp.orB_index rest with ⟨hi, hs⟩ | ⟨m, hi, hm, hs⟩
  · rw [hi]
    repeat' (first | (refine CL.seq ?_) | (refine CL.region ?_) | (refine CL.condP rfl (fun _ => ?_) (fun _ => ?_) <;> try (exfalso; omega)) | (refine CL.exit ?_) | (refine Ex.then ?_) | (refine Ex.hit ?_) | (refine Ex.miss rfl ?_) | (refine Gt.nil ?_; refine RW.nilw [0, 1, 2, 3, 6, 7, 8, 11, 14, 25, 33, 42] ?_; dsimp only [H.keep, H.look, H.Fr.put, Nat.beq]) | (refine Gt.load ?_; refine RW.y (Y.loadB rfl (by assumption) rfl) rfl ?_) | (refine Gt.move ?_; refine RW.y (Y.move rfl) rfl ?_) | (refine Gt.assign ?_; refine RW.y (Y.assign rfl) rfl ?_) | (refine Gt.lss ?_; refine RW.y (Y.lss rfl rfl) rfl ?_))
    refine RW.yield rfl rfl rfl (hy done rest wr hJ1 ?_) ?_
    · rw [hsp, hs]; exact List.prefix_rfl
    rw [hs] at hsp
    rintro e w2 (⟨rfl, hJ2, hs2⟩ | ⟨rfl, hJx2⟩)
    · repeat' (first | (refine CL.done ?_) | (refine Gt.nil ?_; refine RW.nilw [0, 1, 2, 3, 6, 7, 8, 11, 14, 25, 33, 42] ?_; dsimp only [H.keep, H.look, H.Fr.put, Nat.beq]))
      exact FQ.norm (FQ.none rfl rfl ⟨⟨_, rfl⟩, .inl (by rw [hsp]; exact hJ2)⟩)
    · repeat' (first | (refine CL.done ?_) | (refine Gt.nil ?_; refine RW.nilw [0, 1, 2, 3, 6, 7, 8, 11, 14, 25, 33, 42] ?_; dsimp only [H.keep, H.look, H.Fr.put, Nat.beq]))
      exact FQ.norm (FQ.none rfl rfl ⟨⟨_, rfl⟩, .inr ⟨_, hJx2⟩⟩)
  · rw [hi]
    repeat' (first | (refine CL.seq ?_) | (refine CL.region ?_) | (refine CL.skip ?_) | (refine CL.condP rfl (fun _ => ?_) (fun _ => ?_) <;> try (exfalso; omega)) | (refine Gt.nil ?_; refine RW.nilw [0, 1, 2, 3, 6, 7, 8, 11, 14, 25, 33, 42] ?_; dsimp only [H.keep, H.look, H.Fr.put, Nat.beq]) | (refine Gt.load ?_; refine RW.y (Y.loadB rfl (by assumption) rfl) rfl ?_) | (refine Gt.move ?_; refine RW.y (Y.move rfl) rfl ?_) | (refine Gt.assign ?_; refine RW.y (Y.assign rfl) rfl ?_) | (refine Gt.slice ?_; (refine RW.y (Y.cuth rfl rfl (by omega) (by omega)) rfl ?_)) | (refine Gt.add ?_; refine RW.y (Y.add64 rfl rfl (by omega) (by omega)) rfl ?_) | (refine Gt.lss ?_; refine RW.y (Y.lss rfl rfl) rfl ?_))
    have hn1 : ((m : Int) + 0).toNat = m := by omega
    rw [hn1]
    refine RW.yield rfl rfl rfl (hy done (rest.take m) wr hJ1 ?_) ?_
    · rw [hsp, hs]; exact ⟨Sp.orB (rest.drop (m + 2)), by simp⟩
    rintro e w2 (⟨rfl, hJ2, hs2⟩ | ⟨rfl, hJx2⟩)
    · have hbs2 := (hs2.2 bs (.inl rfl)).trans hbs1
      have hbt2 := (hs2.2 bt (.inr (.inl rfl))).trans hbt1
      have hbv2 := (hs2.2 bv (.inr (.inr rfl))).trans hbv1
      have hM2 : Ml w2 := hJT _ _ hJ2
      repeat' (first | (refine CL.region ?_) | (refine CL.skip ?_) | (refine CL.condF rfl ?_) | (refine Gt.nil ?_; refine RW.nilw [0, 1, 2, 3, 6, 7, 8, 11, 14, 25, 33, 42] ?_; dsimp only [H.keep, H.look, H.Fr.put, Nat.beq]) | (refine Gt.load ?_; refine RW.y (Y.loadB rfl (by assumption) rfl) rfl ?_) | (refine Gt.move ?_; refine RW.y (Y.move rfl) rfl ?_) | (refine Gt.len ?_; refine RW.y (Y.lens rfl) rfl ?_) | (refine Gt.slice ?_; (refine RW.y (Y.cutl rfl rfl (by omega) (by omega)) rfl ?_)) | (refine Gt.not ?_; (refine RW.y (Y.notb rfl) rfl ?_)) | (refine Gt.add ?_; refine RW.y (Y.add64 rfl rfl (by omega) (by omega)) rfl ?_))
      refine RW.storeB rfl rfl rfl hbt2 (by simp) (fun w3 hbt3 hk3 => ?_)
      repeat' (first | (refine CL.done ?_) | (refine Nm.block ?_) | (refine Nm.then ?_) | (refine Gt.nil ?_; refine RW.nilw [0, 1, 2, 3, 6, 7, 8, 11, 14, 25, 33, 42] ?_; dsimp only [H.keep, H.look, H.Fr.put, Nat.beq]))
      have hn2 : ((m : Int) + (([124, 124] : List UInt8).length : Int)).toNat = m + 2 := by rw [hc2]; omega
      rw [hn2] at hbt3
      have hJ3 := hJ _ _ _ hJ2 (hk3.mono fun k h => hcs h)
      have hM3 : Ml w3 := hJT _ _ hJ3
      refine ⟨(rest.drop (m + 2)).length, _, rfl, rfl, rfl, by rw [List.length_drop]; omega, done ++ [rest.take m], rest.drop (m + 2), rfl, rfl, by rw [hsp, hs]; simp, by rw [List.length_drop]; omega, hJ _ _ _ hJ2 (hk3.mono fun k h => hcs h), hk3.at hbs2 (fun h => h1 h.symm), hbt3, hk3.at hbv2 (fun h => h2 h.symm), hM3⟩
    · repeat' (first | (refine CL.condT rfl ?_) | (refine CL.ret ?_) | (refine Rt.then ?_) | (refine Rt.block ?_) | (refine Gt.nil ?_; refine RW.nilw [0, 1, 2, 3, 6, 7, 8, 11, 14, 25, 33, 42] ?_; dsimp only [H.keep, H.look, H.Fr.put, Nat.beq]) | (refine Gt.not ?_; (refine RW.y (Y.notb rfl) rfl ?_)))
      exact FQ.none rfl rfl ⟨⟨_, rfl⟩, .inr ⟨_, hJx2⟩⟩

end Go.Proofs.YtjfdhafmbcppjaaGreatDoor.S

namespace Go.Proofs.YtjfdhafmbcppjaaGreatDoor.H
open Go.RowKit
section
variable {P : Program} {f : Fr} {w : World}
theorem MQ.res {fn : Func} {R : Ending → World → Prop} {rs : List ResultVar} {vs : List Value} (hr : fn.results = rs.toArray) (hd : f.ds = []) (h : RS P f w rs vs) (hn : Nat.beq vs.length 1 = false) (hR : R (.returned (.tuple vs.toArray)) w) : MQ P fn R .ret f w :=
  .inl ⟨hd, _, fun a ha => by rw [results_list hr h ha, dif_neg (by intro c; rw [List.size_toArray] at c; rw [c] at hn; cases hn)], hR⟩
theorem MQ.resD {fn : Func} {R : Ending → World → Prop} {rs : List ResultVar} {D : Nat} (hr : fn.results = rs.toArray) (hd : f.ds = [markOf D]) (hD : w.heap[D]? = some (.deferred (some [])))
    (h : ∀ w', Kept (fun k => k = D) w w' → ∃ vs, RS P f w' rs vs ∧ Nat.beq vs.length 1 = false ∧ R (.returned (.tuple vs.toArray)) w') : MQ P fn R .ret f w :=
  .inr ⟨D, hd, hD, fun w' hk' => by
    obtain ⟨vs, h1, h2, h3⟩ := h w' hk'
    exact ⟨_, fun a ha => by rw [results_list hr h1 ha, dif_neg (by intro c; rw [List.size_toArray] at c; rw [c] at h2; cases h2)], h3⟩⟩
end
end Go.Proofs.YtjfdhafmbcppjaaGreatDoor.H

namespace Go.Proofs.YtjfdhafmbcppjaaGreatDoor.Sp
open Go.RowKit H S Ve
attribute [local irreducible] H.CL H.RW H.CW H.Yd H.thenK H.blockQ Go.Calls

abbrev ernT : TypeId := 26
structure PaI (w : World) (b2 b3 b4 B : Nat) (pre : List T) (acc : List (List Bd)) (q : Value) (W : World) : Prop where
  go : ∀ r, rdP (pre ++ r) [] = rdP r acc
  bd : acc.length ≤ 8
  c2 : W.heap[b2]? = some (.cells #[.bool false, .slice none 0 0] spnT (0, 0))
  c3 : W.heap[b3]? = some (.cells #[.int .i64 0] ernT (0, 0))
  c4 : W.heap[b4]? = some (.cells #[.bool false, q] spnT (0, 0))
  row : OI W B q acc
  ml : Ml W
  kept : K0 w W
structure PaX (w : World) (b2 b3 : Nat) (xs : List T) (W : World) : Prop where
  go : rdP xs [] = none
  c2 : W.heap[b2]? = some (.cells #[.bool false, .slice none 0 0] spnT (0, 0))
  c3 : W.heap[b3]? = some (.cells #[.int .i64 61] ernT (0, 0))
  kept : K0 w W
theorem PaI.keep {w : World} {b2 b3 b4 B : Nat} {pre : List T} {acc : List (List Bd)} {q : Value} {W W' : World} (h : PaI w b2 b3 b4 B pre acc q W) {S : Nat → Prop} (k : Kept S W W') (hm : Ml w) (hS : ∀ k, S k → w.heap.size ≤ k ∧ k ≠ b2 ∧ k ≠ b3 ∧ k ≠ b4 ∧ k < B) : PaI w b2 b3 b4 B pre acc q W' where
  go := h.go
  bd := h.bd
  c2 := k.at h.c2 fun c => (hS _ c).2.1 rfl
  c3 := k.at h.c3 fun c => (hS _ c).2.2.1 rfl
  c4 := k.at h.c4 fun c => (hS _ c).2.2.2.1 rfl
  row := h.row.keep k fun g hg _ c => by have := (hS g c).2.2.2.2; omega
  ml := h.ml.keep k fun c => by have := (hS _ c).1; have := hm.lt; omega
  kept := h.kept.trans k fun k c => .inr (hS k c).1
theorem PaX.keep {w : World} {b2 b3 : Nat} {xs : List T} {W W' : World} (h : PaX w b2 b3 xs W) {S : Nat → Prop} (k : Kept S W W') (hS : ∀ k, S k → w.heap.size ≤ k ∧ k ≠ b2 ∧ k ≠ b3) : PaX w b2 b3 xs W' where
  go := h.go
  c2 := k.at h.c2 fun c => (hS _ c).2.1 rfl
  c3 := k.at h.c3 fun c => (hS _ c).2.2 rfl
  kept := h.kept.trans k fun k c => .inr (hS k c).1
theorem rdP_none : ∀ (xs r : List T) (acc : List (List Bd)), rdP xs acc = none → rdP (xs ++ r) acc = none := by
  intro xs
  induction xs with
  | nil => intro r acc h; simp [rdP] at h
  | cons x xs ih =>
    intro r acc h
    rw [List.cons_append, rdP]
    rw [rdP] at h
    split
    · rfl
    · rename_i h8
      rw [if_neg h8] at h
      cases hb : listB x with
      | none => rfl
      | some b => rw [hb] at h; exact ih r _ h

set_option maxHeartbeats 2000000 in
theorem parseS (s : T) (hl : s.length ≤ 1000000) (w : World) (hM : Ml w) : Calls Tryz.prog 10 #[vs s] w fun e w' => K0 w w' ∧ ∃ V, e = .returned (.tuple #[V, .int .i64 (spanR (spanB s)).2]) ∧ SpanNew w.heap.size w' V (spanR (spanB s)).1 := by
  refine H.enterM Tryz.func10 Tryz.ntmps10 rfl rfl ?_; dsimp only [H.args]
  refine CL.seq ?_
  refine CL.region ?_
  refine RW.alloc rfl (fun w1 hb1 hk1 hlt1 => ?_)
  refine RW.alloc rfl (fun w2 hb2 hk2 hlt2 => ?_)
  have c2 := hk2.at0 hb1
  have hz1 := hk1.size
  have hz2 := hk2.size
  repeat' (first | (refine CL.seq ?_) | (refine CL.region ?_) | (refine Gt.nil ?_; refine RW.nilw [0, 2, 3, 4, 5, 6, 7, 9, 10, 11, 14, 17, 18, 34, 36, 37, 38, 39, 48] ?_; dsimp only [H.keep, H.look, H.Fr.put, Nat.beq]) | (refine Gt.move ?_; refine RW.y (Y.move rfl) rfl ?_))
  refine RW.fn rfl rfl ((trim s 32 (by decide) (by omega) w2).mono ?_)
  rintro e w3 ⟨hk3, rfl⟩
  have hz3 := hk3.size
  have d2 := hk3.at0 c2
  have d3 := hk3.at0 hb2
  have hK3 := (hk1.trans0 hk2).trans0 hk3
  have htr := trim_star s
  repeat' (first | (refine CL.seq ?_) | (refine CL.region ?_) | (refine CL.skip ?_) | (refine CL.condP rfl (fun _ => ?_) (fun _ => ?_) <;> try (exfalso; omega)) | (refine Gt.nil ?_; refine RW.nilw [0, 2, 3, 4, 5, 6, 7, 9, 10, 11, 14, 17, 18, 34, 36, 37, 38, 39, 48] ?_; dsimp only [H.keep, H.look, H.Fr.put, Nat.beq]) | (refine RW.y (Y.build (ps := [(0, _)]) (l := [_]) (c := #[.bool true, .slice none 0 0]) rfl rfl) rfl ?_) | (refine Gt.eql ?_; (refine RW.y (Y.eqs rfl rfl) rfl ?_)))
  · rename_i hst
    have hsp : spanB s = some ⟨true, []⟩ := by rw [spanB, if_pos (htr.1 hst)]
    rw [hsp]
    simp only [spanR]
    refine RW.storeBlock rfl rfl rfl (spnCells rfl) d2 rfl (fun w4 hb4 hk4 => ?_)
    have d34 := hk4.at d3 (fun c => by have c' : w1.heap.size = w.heap.size := c; omega)
    refine RW.storeB rfl rfl rfl d34 (by decide) (fun w5 hb5 hk5 => ?_)
    have hb45 := hk5.at hb4 (fun c => by have c' : w.heap.size = w1.heap.size := c; omega)
    repeat' (first | (refine CL.ret ?_) | (refine Gt.nil ?_; refine RW.nilw [0, 2, 3, 4, 5, 6, 7, 9, 10, 11, 14, 17, 18, 34, 36, 37, 38, 39, 48] ?_; dsimp only [H.keep, H.look, H.Fr.put, Nat.beq]))
    refine MQ.res (rs := [.cell 2 spnT, .cell 3 ernT]) (vs := [_, _]) rfl rfl ⟨⟨_, rfl, load_block hb45 rfl⟩, ⟨_, rfl, load_block1 hb5⟩, trivial⟩ rfl ⟨(hK3.trans hk4 fun k h => .inr (by have h' : k = w.heap.size := h; omega)).trans hk5 fun k h => .inr (by have h' : k = w1.heap.size := h; omega), _, rfl, _, rfl, OrNew.nil _ _⟩
  rename_i hst
  have hns : ¬ wordsB s = [[42]] := fun h => hst (htr.2 h)
  have hsp : spanB s = (rdP (orB s) []).map (⟨false, ·⟩) := by rw [spanB_P, if_neg hns]
  refine RW.alloc rfl (fun w4 hb4 hk4 hlt4 => ?_)
  have hz4 := hk4.size
  repeat' (first | (refine CL.seq ?_) | (refine CL.region ?_) | (refine Gt.nil ?_; refine RW.nilw [0, 2, 3, 4, 5, 6, 7, 9, 10, 11, 14, 17, 18, 34, 36, 37, 38, 39, 48] ?_; dsimp only [H.keep, H.look, H.Fr.put, Nat.beq]) | (refine Gt.move ?_; refine RW.y (Y.move rfl) rfl ?_))
  refine RW.fn rfl rfl ((splitSeq2 s w4 (hM.keep0 (hK3.trans0 hk4))).mono ?_)
  rintro e w5 ⟨hk5, bs, bt, bv, rfl, n1, n2, g1, g2, g3, l1, l2, l3, hsp2⟩
  have hz5 := hk5.size
  have hK5 : K0 w w5 := (hK3.trans0 hk4).trans0 hk5
  have hk45 := hk4.trans0 hk5
  repeat' (first | (refine CL.block ?_) | (refine Gt.nil ?_; refine RW.nilw [0, 2, 3, 4, 5, 6, 7, 9, 10, 11, 14, 17, 18, 34, 36, 37, 38, 39, 48] ?_; dsimp only [H.keep, H.look, H.Fr.put, Nat.beq]))
  have hSk : ∀ k, ((k = bs ∨ k = bt ∨ k = bv) ∨ k = w5.heap.size ∨ k = w5.heap.size + 1) → w.heap.size ≤ k ∧ k ≠ w.heap.size ∧ k ≠ w1.heap.size ∧ k ≠ w3.heap.size ∧ k < w5.heap.size + 2 := fun k h => by omega
  refine CL.rangeFuncT (ps := [18]) (cap := [_, _, _]) rfl (splitIt2T s hl bs bt bv n1 n2) (fun W k => ⟨k.at0 hsp2.1, k.at0 hsp2.2.1, k.at0 hsp2.2.2.1, hsp2.2.2.2.keep0 k⟩) (fun _ => rfl) (fun p hp => by rw [List.mem_singleton.1 hp]; rfl) (by rintro k (h | h | h) <;> omega)
    (fun pre W => ∃ acc q, PaI w w.heap.size w1.heap.size w3.heap.size (w5.heap.size + 2) pre acc q W)
    (fun c pre W => c = none ∧ PaX w w.heap.size w1.heap.size (orB s) W)
    (fun _ _ _ ⟨acc, q, h⟩ k => ⟨acc, q, h.keep k hM hSk⟩) (fun c _ _ _ ⟨hc, h⟩ k => ⟨hc, h.keep k fun k hk => ⟨(hSk k hk).1, (hSk k hk).2.1, (hSk k hk).2.2.1⟩⟩)
    ⟨[], _, fun _ => rfl, by simp, hk45.at0 d2, hk45.at0 d3, hk5.at0 hb4, OI.nil _ _, hM.keep0 hK5, hK5⟩ (fun pre W ⟨acc, q, h⟩ => h.ml) ?_ ?_ ?_
  · rintro l pre x W hI hpx hsz
    dsimp only [Fr.puts, Fr.put]
    repeat' (first | (refine CL.region ?_) | (refine CL.done ?_) | (refine Nm.then ?_) | (refine Gt.nil ?_; refine RW.nilw [0, 2, 3, 4, 5, 6, 7, 9, 10, 11, 14, 17, 18, 34, 36, 37, 38, 39, 48] ?_; dsimp only [H.keep, H.look, H.Fr.put, Nat.beq]) | (refine Gt.assign ?_; refine RW.y (Y.assign rfl) rfl ?_))
    refine ⟨rfl, ?_⟩
    clear hI hsz W
    rintro W ⟨acc, q, hI⟩ hsz
    obtain ⟨hgo, hbd, i2, i3, i4, irow, iml, ikept⟩ := id hI
    obtain ⟨tl, htl⟩ := hpx
    have hgo1 : ∀ r, rdP (pre ++ [x] ++ r) [] = rdP (x :: r) acc := fun r => by rw [List.append_assoc]; exact hgo _
    have hxs : x.length ≤ 1000000 := Nat.le_trans (orB_mem s x (by rw [← htl]; simp)) hl
    have hfail : rdP [x] acc = none → rdP (orB s) [] = none := fun h => by rw [← htl, hgo1]; exact rdP_none [x] tl acc h
    obtain ⟨xs, isl⟩ := irow.sl
    repeat' (first | (refine CL.seq ?_) | (refine CL.region ?_) | (refine CL.block ?_) | (refine Gt.move ?_; refine RW.y (Y.move rfl) rfl ?_))
    refine RW.fn rfl rfl ((fields x hxs W).mono ?_)
    rintro e w6 ⟨hk6, v6, rfl, how6⟩
    have hz6 := hk6.size
    have hs6 := Sl.of_own how6
    have j4 := hk6.at0 i4
    have isl6 := isl.keep0 hk6
    have hwn := wordsB_num x
    have hwl := wordsB_len x
    generalize hws : wordsB x = wl at *
    repeat' (first | (refine CL.seq ?_) | (refine CL.region ?_) | (refine CL.skip ?_) | (refine CL.condP rfl (fun _ => ?_) (fun _ => ?_) <;> try (exfalso; omega)) | (refine CL.condT rfl ?_) | (refine CL.block ?_) | (refine Gt.nil ?_; refine RW.nilw [0, 2, 3, 4, 5, 6, 7, 9, 10, 11, 14, 17, 18, 34, 36, 37, 38, 39, 48] ?_; dsimp only [H.keep, H.look, H.Fr.put, Nat.beq]) | (refine RW.y (Y.build (ps := []) (l := []) (c := #[.bool false, .slice none 0 0]) rfl rfl) rfl ?_) | (refine Gt.move ?_; refine RW.y (Y.move rfl) rfl ?_) | (refine Gt.guard ?_; first | (refine RW.part rfl rfl rfl (fun _ => ?_) (fun _ => ?_) <;> try (exfalso; omega)) | (refine RW.on rfl rfl rfl ?_) | (refine RW.off1 rfl rfl rfl rfl rfl ?_)) | (refine Gt.assign ?_; refine RW.y (Y.assign rfl) rfl ?_) | (refine Gt.len ?_; (refine RW.y (Y.lenx rfl (by assumption)) rfl ?_)) | (refine Gt.load ?_; (refine RW.y (Y.loadB rfl (by assumption) rfl) rfl ?_)) | (refine Gt.fieldAddr ?_; refine RW.y (Y.fieldAddr rfl (by rfl)) rfl ?_) | (refine Gt.eql ?_; (refine RW.y (Y.eqi rfl rfl) rfl ?_)) | (refine Gt.pick ?_; first | (refine RW.y (Y.pickT rfl rfl) rfl ?_) | (refine RW.y (Y.pickF rfl rfl) rfl ?_)) | (refine Gt.gtr ?_; refine RW.y (Y.gtr rfl rfl) rfl ?_))
    · rename_i h1
      have hln : rdP [x] acc = none := by
        rw [rdP]
        split
        · rfl
        · rw [listB, hws, if_neg (by omega)]
      have hkF := hk6
      refine RW.storeBlock rfl rfl rfl (spnCells rfl) (hkF.at0 i2) rfl (fun wq hbq hkq => ?_)
      refine RW.storeB rfl rfl rfl (hkq.at (hkF.at0 i3) (fun c => by have c' : w1.heap.size = w.heap.size := c; omega)) (by decide) (fun wr hbr hkr => ?_)
      have hbq' := hkr.at hbq (fun c => by have c' : w.heap.size = w1.heap.size := c; omega)
      repeat' (first | (refine CL.ret ?_) | (refine Rt.block ?_) | (refine Gt.nil ?_; refine RW.nilw [0, 2, 3, 4, 5, 6, 7, 9, 10, 11, 14, 17, 18, 34, 36, 37, 38, 39, 48] ?_; dsimp only [H.keep, H.look, H.Fr.put, Nat.beq]))
      have hk : Kept (fun k => k = w.heap.size ∨ k = w1.heap.size) W wr := (hkF.of0.trans hkq (fun k h => .inl (.inl h))).trans hkr (fun k h => .inl (.inr h))
      exact ⟨Same.of hk fun k h => ⟨by omega, fun c => by omega⟩, rfl, ⟨hfail hln, hbq', hbr, ikept.trans hk fun k h => .inr (by omega)⟩⟩
    · rename_i h1 h2
      have hln : rdP [x] acc = none := by
        rw [rdP]
        split
        · rfl
        · rw [listB, hws, if_neg (by omega)]
      have hkF := hk6
      refine RW.storeBlock rfl rfl rfl (spnCells rfl) (hkF.at0 i2) rfl (fun wq hbq hkq => ?_)
      refine RW.storeB rfl rfl rfl (hkq.at (hkF.at0 i3) (fun c => by have c' : w1.heap.size = w.heap.size := c; omega)) (by decide) (fun wr hbr hkr => ?_)
      have hbq' := hkr.at hbq (fun c => by have c' : w.heap.size = w1.heap.size := c; omega)
      repeat' (first | (refine CL.ret ?_) | (refine Rt.block ?_) | (refine Gt.nil ?_; refine RW.nilw [0, 2, 3, 4, 5, 6, 7, 9, 10, 11, 14, 17, 18, 34, 36, 37, 38, 39, 48] ?_; dsimp only [H.keep, H.look, H.Fr.put, Nat.beq]))
      have hk : Kept (fun k => k = w.heap.size ∨ k = w1.heap.size) W wr := (hkF.of0.trans hkq (fun k h => .inl (.inl h))).trans hkr (fun k h => .inl (.inr h))
      exact ⟨Same.of hk fun k h => ⟨by omega, fun c => by omega⟩, rfl, ⟨hfail hln, hbq', hbr, ikept.trans hk fun k h => .inr (by omega)⟩⟩
    · rename_i h1 h2 h3
      have hln : rdP [x] acc = none := by
        rw [rdP, if_pos (by omega)]
      have hkF := hk6
      refine RW.storeBlock rfl rfl rfl (spnCells rfl) (hkF.at0 i2) rfl (fun wq hbq hkq => ?_)
      refine RW.storeB rfl rfl rfl (hkq.at (hkF.at0 i3) (fun c => by have c' : w1.heap.size = w.heap.size := c; omega)) (by decide) (fun wr hbr hkr => ?_)
      have hbq' := hkr.at hbq (fun c => by have c' : w.heap.size = w1.heap.size := c; omega)
      repeat' (first | (refine CL.ret ?_) | (refine Rt.block ?_) | (refine Gt.nil ?_; refine RW.nilw [0, 2, 3, 4, 5, 6, 7, 9, 10, 11, 14, 17, 18, 34, 36, 37, 38, 39, 48] ?_; dsimp only [H.keep, H.look, H.Fr.put, Nat.beq]))
      have hk : Kept (fun k => k = w.heap.size ∨ k = w1.heap.size) W wr := (hkF.of0.trans hkq (fun k h => .inl (.inl h))).trans hkr (fun k h => .inl (.inr h))
      exact ⟨Same.of hk fun k h => ⟨by omega, fun c => by omega⟩, rfl, ⟨hfail hln, hbq', hbr, ikept.trans hk fun k h => .inr (by omega)⟩⟩
    rename_i h1 h2 h3
    have hlB : listB x = rdW wl [] := by rw [listB, hws, if_pos (by omega)]
    have hrx : rdP [x] acc = match rdW wl [] with
        | none => none
        | some b => some (acc ++ [b]) := by
      rw [rdP, if_neg (by omega), hlB]
      cases rdW wl [] <;> rfl
    refine CL.loopS [2, 3, 4, 7, 36, 37, 38] (fun m vals wv => ∃ (n : Nat) (u : Value) (bacc : List Bd), vals = [.pointer (some ⟨w.heap.size, 0, none⟩), .pointer (some ⟨w1.heap.size, 0, none⟩), .pointer (some ⟨w3.heap.size, 0, none⟩), u, v6, .int .i64 (wl.length : Int), .int .i64 (n : Int)] ∧ m = wl.length - n ∧ n ≤ wl.length ∧ bacc.length ≤ 2 * n ∧ rdW (wl.drop n) bacc = rdW wl [] ∧ BI wv w6.heap.size u bacc ∧ K0 w6 wv) wl.length ⟨_, rfl, 0, _, [], rfl, rfl, Nat.zero_le _, Nat.le_refl _, rfl, BI.nil _ _, Kept.refl _ _⟩ ?_
    rintro m vals wv ⟨n, u, bacc, rfl, rfl, hn, hbl, hrw, hbi, hkv⟩
    dsimp only [List.zip, List.zipWith]
    have hsv := hs6.keep0 hkv
    have hzv := hkv.size
    have hkWv := hk6.trans0 hkv
    rcases Nat.lt_or_ge n wl.length with hnl | hng
    · have hwm : wl.getD n [] ∈ wl := getD_mem [] hnl
      have hw1 := hwl _ hwm
      repeat' (first | (refine CL.seq ?_) | (refine CL.region ?_) | (refine CL.skip ?_) | (refine CL.condP rfl (fun _ => ?_) (fun _ => ?_) <;> try (exfalso; omega)) | (refine CL.block ?_) | (refine Gt.nil ?_; refine RW.nilw [0, 2, 3, 4, 5, 6, 7, 9, 10, 11, 14, 17, 18, 34, 36, 37, 38, 39, 48] ?_; dsimp only [H.keep, H.look, H.Fr.put, Nat.beq]) | (refine Gt.move ?_; refine RW.y (Y.move rfl) rfl ?_) | (refine Gt.assign ?_; refine RW.y (Y.assign rfl) rfl ?_) | (refine Gt.lss ?_; refine RW.y (Y.lss rfl rfl) rfl ?_) | (refine Gt.idx ?_; refine RW.elemS rfl rfl rfl rfl (by assumption) (by omega) (by omega) ?_))
      rw [Int.toNat_natCast]
      refine RW.fn rfl rfl ((word (wl.getD n []) (by omega) wv).mono ?_)
      rintro e w7 ⟨hk7, p7, rfl, hp7⟩
      rw [drop_at wl n hnl, rdW] at hrw
      have hz7 := hk7.size
      cases hbd7 : boundsB (wl.getD n []) with
      | none =>
        rw [hbd7] at hrw
        repeat' (first | (refine CL.seq ?_) | (refine CL.region ?_) | (refine CL.condT rfl ?_) | (refine Gt.nil ?_; refine RW.nilw [0, 2, 3, 4, 5, 6, 7, 9, 10, 11, 14, 17, 18, 34, 36, 37, 38, 39, 48] ?_; dsimp only [H.keep, H.look, H.Fr.put, Nat.beq]) | (refine RW.y (Y.build (ps := []) (l := []) (c := #[.bool false, .slice none 0 0]) rfl rfl) rfl ?_) | (refine Gt.move ?_; refine RW.y (Y.move rfl) rfl ?_) | (refine Gt.assign ?_; refine RW.y (Y.assign rfl) rfl ?_) | (refine Gt.extract ?_; refine RW.y (Y.extract rfl rfl) rfl ?_) | (refine Gt.not ?_; (refine RW.y (Y.notb rfl) rfl ?_)))
        have hln : rdP [x] acc = none := by rw [hrx, ← hrw]
        have hkF := hkWv.trans0 hk7
        refine RW.storeBlock rfl rfl rfl (spnCells rfl) (hkF.at0 i2) rfl (fun wq hbq hkq => ?_)
        refine RW.storeB rfl rfl rfl (hkq.at (hkF.at0 i3) (fun c => by have c' : w1.heap.size = w.heap.size := c; omega)) (by decide) (fun wr hbr hkr => ?_)
        have hbq' := hkr.at hbq (fun c => by have c' : w.heap.size = w1.heap.size := c; omega)
        repeat' (first | (refine CL.ret ?_) | (refine Rt.then ?_) | (refine Rt.block ?_) | (refine Gt.nil ?_; refine RW.nilw [0, 2, 3, 4, 5, 6, 7, 9, 10, 11, 14, 17, 18, 34, 36, 37, 38, 39, 48] ?_; dsimp only [H.keep, H.look, H.Fr.put, Nat.beq]))
        have hk : Kept (fun k => k = w.heap.size ∨ k = w1.heap.size) W wr := (hkF.of0.trans hkq (fun k h => .inl (.inl h))).trans hkr (fun k h => .inl (.inr h))
        exact ⟨Same.of hk fun k h => ⟨by omega, fun c => by omega⟩, rfl, ⟨hfail hln, hbq', hbr, ikept.trans hk fun k h => .inr (by omega)⟩⟩
      | some b =>
        rw [hbd7] at hrw
        have hb2l := bounds_len hbd7
        repeat' (first | (refine CL.seq ?_) | (refine CL.region ?_) | (refine CL.skip ?_) | (refine CL.condF rfl ?_) | (refine Gt.nil ?_; refine RW.nilw [0, 2, 3, 4, 5, 6, 7, 9, 10, 11, 14, 17, 18, 34, 36, 37, 38, 39, 48] ?_; dsimp only [H.keep, H.look, H.Fr.put, Nat.beq]) | (refine Gt.move ?_; refine RW.y (Y.move rfl) rfl ?_) | (refine Gt.assign ?_; refine RW.y (Y.assign rfl) rfl ?_) | (refine Gt.extract ?_; refine RW.y (Y.extract rfl rfl) rfl ?_) | (refine Gt.not ?_; (refine RW.y (Y.notb rfl) rfl ?_)))
        refine RW.appB rfl rfl rfl rfl (hbi.keep hk7 fun _ _ _ c => c) (hp7 b hbd7) (fun g hg => (hbi.own g hg).2) hzv (by omega) (by omega) (by decide) (by omega) (fun v' w8 hbi' hk8 hl8 => ?_)
        repeat' (first | (refine CL.region ?_) | (refine CL.done ?_) | (refine Nm.block ?_) | (refine Nm.then ?_) | (refine Gt.nil ?_; refine RW.nilw [0, 2, 3, 4, 5, 6, 7, 9, 10, 11, 14, 17, 18, 34, 36, 37, 38, 39, 48] ?_; dsimp only [H.keep, H.look, H.Fr.put, Nat.beq]) | (refine Gt.move ?_; refine RW.y (Y.move rfl) rfl ?_) | (refine Gt.assign ?_; refine RW.y (Y.assign rfl) rfl ?_) | (refine Gt.add ?_; refine RW.y (Y.add64 rfl rfl (by omega) (by omega)) rfl ?_))
        exact ⟨wl.length - (n + 1), _, rfl, rfl, rfl, by omega, n + 1, v', bacc ++ b, rfl, rfl, by omega, by rw [List.length_append]; omega, hrw, hbi', (hkv.trans0 hk7).trans hk8 fun g hg => .inr (hbi.own g hg).1⟩
    · have hn : n = wl.length := by omega
      subst hn
      rw [List.drop_length, rdW] at hrw
      rw [← hrw] at hrx
      have j4v := hkWv.at0 i4
      have iq1 := isl.one
      have irowv := irow.keep hkWv fun _ _ _ c => c
      have hio := irow.own
      repeat' (first | (refine CL.seq ?_) | (refine CL.region ?_) | (refine CL.condP rfl (fun _ => ?_) (fun _ => ?_) <;> try (exfalso; omega)) | (refine CL.exit ?_) | (refine Ex.then ?_) | (refine Ex.hit ?_) | (refine Gt.nil ?_; refine RW.nilw [0, 2, 3, 4, 5, 6, 7, 9, 10, 11, 14, 17, 18, 34, 36, 37, 38, 39, 48] ?_; dsimp only [H.keep, H.look, H.Fr.put, Nat.beq]) | (refine Gt.move ?_; refine RW.y (Y.move rfl) rfl ?_) | (refine Gt.load ?_; (refine RW.y (Y.loadB rfl (by assumption) rfl) rfl ?_)) | (refine Gt.fieldAddr ?_; refine RW.y (Y.fieldAddr rfl (by rfl)) rfl ?_) | (refine Gt.lss ?_; refine RW.y (Y.lss rfl rfl) rfl ?_))
      refine RW.appO rfl rfl rfl rfl rfl irowv hbi.new (fun g hg => by have := (hio g hg).2; omega) (by omega) (by omega) (by decide) (by omega) (fun q' w8 irow' hk8 hl8 => ?_)
      have hq4 : ¬ q.ownBlock = some w3.heap.size := fun c => by have := (hio _ c).1; omega
      have j48 := hk8.at j4v hq4
      obtain ⟨xs', isl'⟩ := irow'.sl
      repeat' ((refine Gt.fieldAddr ?_; refine RW.y (Y.fieldAddr rfl (by rfl)) rfl ?_))
      refine RW.storeB rfl rfl isl'.one j48 (show (_ : Nat) < 2 from by decide) (fun w9 hb9 hk9 => ?_)
      repeat' (first | (refine CL.done ?_) | (refine Nm.block ?_) | (refine Gt.nil ?_; refine RW.nilw [0, 2, 3, 4, 5, 6, 7, 9, 10, 11, 14, 17, 18, 34, 36, 37, 38, 39, 48] ?_; dsimp only [H.keep, H.look, H.Fr.put, Nat.beq]))
      have hk : Kept (fun k => q.ownBlock = some k ∨ k = w3.heap.size) W w9 := ((hkWv.of0).trans hk8 fun k h => .inl (.inl h)).trans hk9 fun k h => .inl (.inr h)
      have hTk : ∀ k, (q.ownBlock = some k ∨ k = w3.heap.size) → w5.heap.size + 2 ≤ k ∨ k = w3.heap.size := fun k h => h.imp (fun h => (hio k h).1) id
      refine ⟨Same.of hk fun k h => ⟨by omega, fun c => by have := hTk k c; omega⟩, acc ++ [bacc], q', ⟨fun r => ?_, by rw [List.length_append, List.length_singleton]; omega, ?_, ?_, hb9, ?_, ?_, ikept.trans hk fun k h => .inr (by have := hTk k h; omega)⟩⟩
      · rw [hgo1, rdP, if_neg (by omega), hlB, ← hrw]
      · exact hk.at i2 fun c => by have := hTk _ c; omega
      · exact hk.at i3 fun c => by have := hTk _ c; omega
      · exact irow'.keep hk9 fun g h1 _ c => by have c' : g = w3.heap.size := c; omega
      · exact iml.keep hk fun c => by have := hTk _ c; have := hM.lt; omega
  · rintro W ⟨acc, q, hI⟩ hD
    obtain ⟨hgo, hbd, i2, i3, i4, irow, iml, ikept⟩ := hI
    have hsp3 : spanB s = some ⟨false, acc⟩ := by
      have := hgo []
      rw [List.append_nil] at this
      rw [hsp, this]; rfl
    obtain ⟨xs, isl⟩ := irow.sl
    have iq1 := isl.one
    repeat' (first | (refine CL.seq ?_) | (refine CL.region ?_) | (refine CL.done ?_) | (refine Nm.block ?_) | (refine RW.y (Y.loadBlock rfl i4 rfl) rfl ?_))
    refine RW.storeBlock rfl rfl rfl (spnCells iq1) i2 rfl (fun w6 hb6 hk6 => ?_)
    refine RW.storeB rfl rfl rfl (hk6.at i3 (fun c => by have c' : w1.heap.size = w.heap.size := c; omega)) (by decide) (fun w7 hb7 hk7 => ?_)
    have hb67 := hk7.at hb6 (fun c => by have c' : w.heap.size = w1.heap.size := c; omega)
    repeat' (first | (refine CL.ret ?_) | (refine Gt.nil ?_; refine RW.nilw [0, 2, 3, 4, 5, 6, 7, 9, 10, 11, 14, 17, 18, 34, 36, 37, 38, 39, 48] ?_; dsimp only [H.keep, H.look, H.Fr.put, Nat.beq]))
    have hk : Kept (fun k => k = w.heap.size ∨ k = w1.heap.size) W w7 := (hk6.mono fun k h => .inl h).trans hk7 fun k h => .inl (.inr h)
    refine MQ.resD (rs := [.cell 2 spnT, .cell 3 ernT]) (D := w5.heap.size) rfl rfl (hk.at hD (by omega)) (fun w' hk' => ⟨[_, _], ⟨⟨_, rfl, load_block (hk'.at hb67 fun c => by have c' : w.heap.size = w5.heap.size := c; omega) rfl⟩, ⟨_, rfl, load_block1 (hk'.at hb7 fun c => by have c' : w1.heap.size = w5.heap.size := c; omega)⟩, trivial⟩, rfl, ?_⟩)
    refine ⟨(ikept.trans hk fun k h => .inr (by omega)).trans hk' fun k h => .inr (by have h' : k = w5.heap.size := h; omega), _, by rw [hsp3]; rfl, ?_⟩
    rw [hsp3]
    exact ⟨_, rfl, (OI.new ((irow.keep hk fun g h1 _ c => by omega).keep hk' fun g h1 _ c => by have c' : g = w5.heap.size := c; omega)).mono (by omega)⟩
  · rintro c pre W ⟨rfl, hX⟩ hD
    refine Rt.block ?_
    skip
    refine MQ.resD (rs := [.cell 2 spnT, .cell 3 ernT]) (D := w5.heap.size) rfl rfl hD (fun w' hk' => ⟨[_, _], ⟨⟨_, rfl, load_block (hk'.at hX.c2 fun c => by have c' : w.heap.size = w5.heap.size := c; omega) rfl⟩, ⟨_, rfl, load_block1 (hk'.at hX.c3 fun c => by have c' : w1.heap.size = w5.heap.size := c; omega)⟩, trivial⟩, rfl, ?_⟩)
    have hsp3 : spanB s = none := by rw [hsp, hX.go]; rfl
    rw [hsp3]
    exact ⟨hX.kept.trans hk' fun k h => .inr (by have h' : k = w5.heap.size := h; omega), _, rfl, _, rfl, OrNew.nil _ _⟩
end Go.Proofs.YtjfdhafmbcppjaaGreatDoor.Sp

namespace Go.Proofs.YtjfdhafmbcppjaaGreatDoor.H
open Go.RowKit
section
variable {P : Program} {f : Fr} {w : World} {d : Nat} {ty t yt : TypeId} {pos : String} {af : Array Edge} {x y : Operand} {a b : Bool}
theorem Y.neb [ht : Und P t .bool] (hx : f.ev x = some (.bool a)) (hy : f.ev y = some (.bool b)) : Yd P f (op1 d (.binOp .neq t x y yt) ty pos af) (.bool (decide (a ≠ b))) w :=
  Y.bin hx hy (by simp) (by simp) (by rw [run_neq_bool w t a b ht.out]; cases a <;> cases b <;> rfl)
theorem Y.nebE [ht : Und P t .bool] (hx : f.ev x = some (.bool a)) (hy : f.ev y = some (.bool b)) (h : a = b) : Yd P f (op1 d (.binOp .neq t x y yt) ty pos af) (.bool false) w := by
  have := Y.neb (P := P) (w := w) (d := d) (t := t) (yt := yt) (ty := ty) (pos := pos) (af := af) hx hy
  rw [h] at this
  simpa using this
theorem Y.nebS [ht : Und P t .bool] (hx : f.ev x = some (.bool a)) (hy : f.ev y = some (.bool a)) : Yd P f (op1 d (.binOp .neq t x y yt) ty pos af) (.bool false) w := Y.nebE hx hy rfl
theorem Y.eqbE [ht : Und P t .bool] (hx : f.ev x = some (.bool a)) (hy : f.ev y = some (.bool b)) (h : a = b) : Yd P f (op1 d (.binOp .eql t x y yt) ty pos af) (.bool true) w := by
  have := Y.eqb (P := P) (w := w) (d := d) (t := t) (yt := yt) (ty := ty) (pos := pos) (af := af) hx hy
  rw [h] at this
  simpa using this
end
end Go.Proofs.YtjfdhafmbcppjaaGreatDoor.H

namespace Go.Proofs.YtjfdhafmbcppjaaGreatDoor.Ve
open Go.RowKit H S
attribute [local irreducible] H.CL H.RW H.CW H.Yd H.thenK H.blockQ Go.Calls

set_option maxHeartbeats 400000 in
theorem helpStrings (v u : Value) (a b : List (List UInt8)) (w : World) (ha : Sl w 1 v a.length (sv a)) (hb : Sl w 1 u b.length (sv b)) : Calls Tryz.prog 66 #[v, u] w fun e w' => K0 w w' ∧ e = .returned (.bool (decide (a = b))) := by
  have hml : a.length ≤ 9223372036854775807 := by have := ha.2.1; simpa [maxLen] using this
  refine H.enter Tryz.func66 Tryz.ntmps66 rfl rfl ?_; dsimp only [H.args]
  repeat' (first | (refine CL.seq ?_) | (refine CL.region ?_) | (refine CL.skip ?_) | (refine CL.condP rfl (fun _ => ?_) (fun _ => ?_) <;> try (exfalso; omega)) | (refine CL.block ?_) | (refine CL.ret ?_) | (refine Gt.nil ?_; refine RW.nilw [0, 1, 4, 5, 10, 14, 25] ?_; dsimp only [H.keep, H.look, H.Fr.put, Nat.beq]) | (refine Gt.move ?_; refine RW.y (Y.move rfl) rfl ?_) | (refine Gt.assign ?_; refine RW.y (Y.assign rfl) rfl ?_) | (refine Gt.len ?_; (refine RW.y (Y.lenx rfl (by assumption)) rfl ?_)) | (refine Gt.neq ?_; (refine RW.y (Y.nei rfl rfl) rfl ?_)))
  · rename_i h
    refine FQ.one rfl rfl rfl ⟨Kept.refl _ _, ?_⟩
    rw [decide_eq_false]
    intro c; subst c; exact h rfl
  rename_i hlen
  have hlen' : a.length = b.length := by omega
  refine CL.loopS [0, 1, 5] (fun m vals wr => ∃ (i : Nat), vals = [v, u, .int .i64 (i : Int)] ∧ m = a.length - i ∧ i ≤ a.length ∧ a.take i = b.take i ∧ K0 w wr) a.length ⟨_, rfl, 0, rfl, rfl, Nat.zero_le _, rfl, Kept.refl _ _⟩ ?_
  rintro m vals wr ⟨i, rfl, rfl, hil, heq, hk⟩
  dsimp only [List.zip, List.zipWith]
  have ha' := ha.keep0 hk
  have hb' := hb.keep0 hk
  rcases Nat.lt_or_ge i a.length with hlt | hge
  · repeat' (first | (refine CL.seq ?_) | (refine CL.region ?_) | (refine CL.skip ?_) | (refine CL.condP rfl (fun _ => ?_) (fun _ => ?_) <;> try (exfalso; omega)) | (refine CL.block ?_) | (refine Gt.nil ?_; refine RW.nilw [0, 1, 4, 5, 10, 14, 25] ?_; dsimp only [H.keep, H.look, H.Fr.put, Nat.beq]) | (refine Gt.move ?_; refine RW.y (Y.move rfl) rfl ?_) | (refine Gt.len ?_; (refine RW.y (Y.lenx rfl (by assumption)) rfl ?_)) | (refine Gt.lss ?_; refine RW.y (Y.lss rfl rfl) rfl ?_))
    refine CL.draw (fun w' => Kept (fun _ => False) wr w') (by kernel_rfl) (fun w4 hheap hk4 => ?_)
    have hS : Kept (fun _ => False) wr w4 := hk4
    have hc1 : ∀ {w' : World}, K0 wr w' → w'.cell? (Value.spot v (((i : Int)).toNat * 1)) = some (vs (a.getD i [])) := fun h => by rw [Int.toNat_natCast, Nat.mul_one]; exact (ha'.keep0 h).cell (sv_at hlt)
    have hc2 : ∀ {w' : World}, K0 wr w' → w'.cell? (Value.spot u (((i : Int)).toNat * 1)) = some (vs (b.getD i [])) := fun h => by rw [Int.toNat_natCast, Nat.mul_one]; exact (hb'.keep0 h).cell (sv_at (by omega))
    skip
    refine AW.take 0 rfl (by kernel_rfl) (by kernel_rfl) (by kernel_rfl) rfl (by assumption) (fun w hS => Y.move rfl) ?_
    refine AW.take 1 rfl (by kernel_rfl) (by kernel_rfl) (by kernel_rfl) rfl (by assumption) (fun w hS => Y.move rfl) ?_
    refine AW.take 2 rfl (by kernel_rfl) (by kernel_rfl) (by kernel_rfl) rfl (by assumption) (fun w hS => Y.idx rfl rfl (ha'.keep0 hS) (by omega) (by omega)) ?_
    refine AW.take 3 rfl (by kernel_rfl) (by kernel_rfl) (by kernel_rfl) rfl (by assumption) (fun w hS => Y.load1 rfl (hc1 hS)) ?_
    refine AW.take 4 rfl (by kernel_rfl) (by kernel_rfl) (by kernel_rfl) rfl (by assumption) (fun w hS => Y.move rfl) ?_
    refine AW.take 5 rfl (by kernel_rfl) (by kernel_rfl) (by kernel_rfl) rfl (by assumption) (fun w hS => Y.move rfl) ?_
    refine AW.take 6 rfl (by kernel_rfl) (by kernel_rfl) (by kernel_rfl) rfl (by assumption) (fun w hS => Y.idx rfl rfl (hb'.keep0 hS) (by omega) (by omega)) ?_
    refine AW.take 7 rfl (by kernel_rfl) (by kernel_rfl) (by kernel_rfl) rfl (by assumption) (fun w hS => Y.load1 rfl (hc2 hS)) ?_
    refine AW.take 8 rfl (by kernel_rfl) (by kernel_rfl) (by kernel_rfl) rfl (by assumption) (fun w hS => by exact Y.nes rfl rfl) ?_
    refine AW.donew [0, 1, 5, 25] (by kernel_rfl) ?_
    dsimp only [H.keep, H.look, H.Fr.put, Nat.beq]
    repeat' (first | (refine CL.seq ?_) | (refine CL.region ?_) | (refine CL.skip ?_) | (refine CL.condP rfl (fun _ => ?_) (fun _ => ?_) <;> try (exfalso; omega)) | (refine CL.ret ?_) | (refine Rt.then ?_) | (refine Rt.block ?_) | (refine CL.done ?_) | (refine Nm.block ?_) | (refine Nm.then ?_) | (refine Gt.nil ?_; refine RW.nilw [0, 1, 4, 5, 10, 14, 25] ?_; dsimp only [H.keep, H.look, H.Fr.put, Nat.beq]) | (refine Gt.move ?_; refine RW.y (Y.move rfl) rfl ?_) | (refine Gt.assign ?_; refine RW.y (Y.assign rfl) rfl ?_) | (refine Gt.add ?_; refine RW.y (Y.add64 rfl rfl (by omega) (by omega)) rfl ?_))
    · rename_i h
      refine FQ.one rfl rfl rfl ⟨hk.trans0 hk4, ?_⟩
      rw [decide_eq_false]
      intro c; subst c; exact h rfl
    · rename_i h
      have hx : a.getD i [] = b.getD i [] := Decidable.not_not.1 h
      refine ⟨a.length - (i + 1), _, rfl, rfl, rfl, by omega, i + 1, by simp, rfl, by omega, ?_, hk.trans0 hk4⟩
      have h1 := take_snoc [] a i hlt
      have h2 := take_snoc [] b i (by omega)
      rw [h1, h2, heq]
      rw [hx]
  · have hi : i = a.length := by omega
    subst hi
    rw [List.take_length, hlen', List.take_length] at heq
    repeat' (first | (refine CL.seq ?_) | (refine CL.region ?_) | (refine CL.condP rfl (fun _ => ?_) (fun _ => ?_) <;> try (exfalso; omega)) | (refine CL.exit ?_) | (refine Ex.then ?_) | (refine Ex.hit ?_) | (refine CL.ret ?_) | (refine Gt.nil ?_; refine RW.nilw [0, 1, 4, 5, 10, 14, 25] ?_; dsimp only [H.keep, H.look, H.Fr.put, Nat.beq]) | (refine Gt.move ?_; refine RW.y (Y.move rfl) rfl ?_) | (refine Gt.assign ?_; refine RW.y (Y.assign rfl) rfl ?_) | (refine Gt.len ?_; (refine RW.y (Y.lenx rfl (by assumption)) rfl ?_)) | (refine Gt.lss ?_; refine RW.y (Y.lss rfl rfl) rfl ?_))
    refine FQ.one rfl rfl rfl ⟨hk, ?_⟩
    rw [decide_eq_true heq]

def eqV (x y : Ver) : Bool := decide (x.a = y.a) && decide (x.b = y.b) && decide (x.c = y.c) && decide (x.pre = y.pre)
theorem eqV_self (x : Ver) : eqV x x = true := by simp [eqV]

set_option maxHeartbeats 400000 in
theorem helpVersion (X Y : Value) (x y : Ver) (w : World) (hX : VerAt w X x) (hY : VerAt w Y y) : Calls Tryz.prog 34 #[X, Y] w fun e w' => K0 w w' ∧ e = .returned (.bool (eqV x y)) := by
  obtain ⟨p, rfl, hp⟩ := hX
  obtain ⟨q, rfl, hq⟩ := hY
  refine H.enter Tryz.func34 Tryz.ntmps34 rfl rfl ?_; dsimp only [H.args]
  repeat' (first | (refine CL.seq ?_) | (refine CL.region ?_))
  refine RW.box rfl rfl (fun w1 hb1 hk1 hlt1 => ?_)
  skip
  refine RW.box rfl rfl (fun w2 hb2 hk2 hlt2 => ?_)
  have hX2 : w2.heap[w.heap.size]? = some (.cells #[.int .i64 x.a, .int .i64 x.b, .int .i64 x.c, p] verT (0, 0)) := hk2.at0 hb1
  have hY2 : w2.heap[w1.heap.size]? = some (.cells #[.int .i64 y.a, .int .i64 y.b, .int .i64 y.c, q] verT (0, 0)) := hb2
  have hK2 : K0 w w2 := hk1.trans0 hk2
  repeat' (first | (refine CL.seq ?_) | (refine CL.region ?_) | (refine CL.ret ?_) | (refine Gt.nil ?_; refine RW.nilw [0, 1, 2, 3, 4] ?_; dsimp only [H.keep, H.look, H.Fr.put, Nat.beq]) | (refine Gt.fieldAddr ?_; refine RW.y (Y.fieldAddr rfl (by rfl)) rfl ?_) | (refine Gt.guard ?_; first | (refine RW.part rfl rfl rfl (fun _ => ?_) (fun _ => ?_) <;> try (exfalso; omega)) | (refine RW.on rfl rfl rfl ?_) | (refine RW.off1 rfl rfl rfl rfl rfl ?_)) | (refine Gt.load ?_; refine RW.y (Y.loadB rfl (by assumption) rfl) rfl ?_) | (refine Gt.eql ?_; refine RW.y (Y.eqi rfl rfl) rfl ?_) | (refine Gt.move ?_; refine RW.y (Y.move rfl) rfl ?_) | (refine Gt.pick ?_; first | (refine RW.y (Y.pickT rfl rfl) rfl ?_) | (refine RW.y (Y.pickF rfl rfl) rfl ?_)) | (refine Gt.assign ?_; refine RW.y (Y.assign rfl) rfl ?_))
  · rename_i h1 h2 h3
    refine RW.fn rfl rfl ((helpStrings p q x.pre y.pre w2 (hp.keep0 hK2) (hq.keep0 hK2)).mono ?_)
    rintro e w3 ⟨hk3, rfl⟩
    repeat' (first | (refine CL.ret ?_) | (refine Gt.nil ?_; refine RW.nilw [0, 1, 2, 3, 4] ?_; dsimp only [H.keep, H.look, H.Fr.put, Nat.beq]) | (refine Gt.pick ?_; (refine RW.y (Y.pickT rfl rfl) rfl ?_)) | (refine Gt.assign ?_; refine RW.y (Y.assign rfl) rfl ?_))
    exact FQ.one rfl rfl rfl ⟨hK2.trans0 hk3, by simp [eqV, h1, h2, h3]⟩
  · rename_i h1 h2 h3
    exact FQ.one rfl rfl rfl ⟨hK2, by simp [eqV, h3]⟩
  · rename_i h1 h2
    exact FQ.one rfl rfl rfl ⟨hK2, by simp [eqV, h2]⟩
  · rename_i h1
    exact FQ.one rfl rfl rfl ⟨hK2, by simp [eqV, h1]⟩

def lightB (v : Ver) : Bool := decide (v.pre.length ≤ 6) && v.pre.all (fun s => decide (s.length ≤ 30))
theorem light_fit {v : Ver} (h : lightB v = true) : Fit v := by
  simp only [lightB, Bool.and_eq_true, decide_eq_true_eq, List.all_eq_true] at h
  exact ⟨by omega, fun s hs => by have := h.2 s hs; omega⟩

theorem lightV (X : Value) (x : Ver) (w : World) (hX : VerAt w X x) : Calls Tryz.prog 19 #[X] w fun e w' => K0 w w' ∧ e = .returned (.bool (lightB x)) := by
  obtain ⟨p, rfl, hp⟩ := hX
  refine H.enter Tryz.func19 Tryz.ntmps19 rfl rfl ?_; dsimp only [H.args]
  repeat' (first | (refine CL.seq ?_) | (refine CL.region ?_))
  refine RW.box rfl rfl (fun w1 hb1 hk1 hlt1 => ?_)
  have hX1 : w1.heap[w.heap.size]? = some (.cells #[.int .i64 x.a, .int .i64 x.b, .int .i64 x.c, p] verT (0, 0)) := hb1
  have hp1 := hp.keep0 hk1
  repeat' (first | (refine CL.seq ?_) | (refine CL.region ?_) | (refine CL.skip ?_) | (refine CL.condP rfl (fun _ => ?_) (fun _ => ?_) <;> try (exfalso; omega)) | (refine CL.block ?_) | (refine CL.ret ?_) | (refine Gt.nil ?_; refine RW.nilw [0, 1, 2, 3, 7, 12, 21] ?_; dsimp only [H.keep, H.look, H.Fr.put, Nat.beq]) | (refine Gt.assign ?_; refine RW.y (Y.assign rfl) rfl ?_) | (refine Gt.load ?_; refine RW.y (Y.loadB rfl (by assumption) rfl) rfl ?_) | (refine Gt.fieldAddr ?_; refine RW.y (Y.fieldAddr rfl (by rfl)) rfl ?_) | (refine Gt.len ?_; (refine RW.y (Y.lenx rfl (by assumption)) rfl ?_)) | (refine Gt.gtr ?_; refine RW.y (Y.gtr rfl rfl) rfl ?_))
  · rename_i h
    exact FQ.one rfl rfl rfl ⟨hk1, by rw [lightB, decide_eq_false (by omega)]; rfl⟩
  rename_i h6
  refine CL.loopS [1, 2, 3] (fun k vals wr => ∃ (i : Nat) (b : Bool), vals = [.pointer (some ⟨w.heap.size, 0, none⟩), .bool b, .int .i64 (i : Int)] ∧ k = x.pre.length - i ∧ i ≤ x.pre.length ∧ (x.pre.take i).all (fun s => decide (s.length ≤ 30)) = true ∧ wr = w1) x.pre.length ⟨_, rfl, 0, false, rfl, rfl, Nat.zero_le _, rfl, rfl⟩ ?_
  rintro k vals wr ⟨i, b, rfl, rfl, hi, hall, rfl⟩
  dsimp only [List.zip, List.zipWith]
  have hi2 : ((i : Int)).toNat = i := Int.toNat_natCast i
  rcases Nat.lt_or_ge i x.pre.length with hlt | hge
  · repeat' (first | (refine CL.seq ?_) | (refine CL.region ?_) | (refine CL.skip ?_) | (refine CL.condP rfl (fun _ => ?_) (fun _ => ?_) <;> try (exfalso; omega)) | (refine CL.block ?_) | (refine CL.ret ?_) | (refine Rt.then ?_) | (refine Rt.block ?_) | (refine CL.done ?_) | (refine Nm.block ?_) | (refine Nm.then ?_) | (refine Gt.nil ?_; refine RW.nilw [0, 1, 2, 3, 7, 12, 21] ?_; dsimp only [H.keep, H.look, H.Fr.put, Nat.beq]) | (refine Gt.assign ?_; refine RW.y (Y.assign rfl) rfl ?_) | (refine Gt.load ?_; refine RW.y (Y.loadB rfl (by assumption) rfl) rfl ?_) | (refine Gt.fieldAddr ?_; refine RW.y (Y.fieldAddr rfl (by rfl)) rfl ?_) | (refine Gt.move ?_; refine RW.y (Y.move rfl) rfl ?_) | (refine Gt.len ?_; first | (refine RW.y (Y.lenx rfl (by assumption)) rfl ?_) | (refine RW.y (Y.lens rfl) rfl ?_)) | (refine Gt.gtr ?_; refine RW.y (Y.gtr rfl rfl) rfl ?_) | (refine Gt.lss ?_; refine RW.y (Y.lss rfl rfl) rfl ?_) | (refine Gt.idx ?_; refine RW.elemS rfl rfl rfl rfl (by assumption) (by omega) (by omega) ?_) | (refine Gt.add ?_; refine RW.y (Y.add64 rfl rfl (by omega) (by omega)) rfl ?_))
    · rename_i h
      rw [hi2] at h
      exact FQ.one rfl rfl rfl ⟨hk1, by rw [lightB, all_false [] hlt (decide_eq_false (by omega)), Bool.and_false]⟩
    · rename_i h
      rw [hi2] at h
      exact ⟨x.pre.length - (i + 1), _, rfl, rfl, rfl, by omega, i + 1, b, rfl, rfl, by omega, all_step [] hlt hall (decide_eq_true (by omega)), rfl⟩
  · have hi : i = x.pre.length := by omega
    subst hi
    rw [List.take_length] at hall
    repeat' (first | (refine CL.seq ?_) | (refine CL.region ?_) | (refine CL.condP rfl (fun _ => ?_) (fun _ => ?_) <;> try (exfalso; omega)) | (refine CL.exit ?_) | (refine Ex.then ?_) | (refine Ex.hit ?_) | (refine CL.ret ?_) | (refine Gt.nil ?_; refine RW.nilw [0, 1, 2, 3, 7, 12, 21] ?_; dsimp only [H.keep, H.look, H.Fr.put, Nat.beq]) | (refine Gt.assign ?_; refine RW.y (Y.assign rfl) rfl ?_) | (refine Gt.load ?_; refine RW.y (Y.loadB rfl (by assumption) rfl) rfl ?_) | (refine Gt.fieldAddr ?_; refine RW.y (Y.fieldAddr rfl (by rfl)) rfl ?_) | (refine Gt.move ?_; refine RW.y (Y.move rfl) rfl ?_) | (refine Gt.len ?_; (refine RW.y (Y.lenx rfl (by assumption)) rfl ?_)) | (refine Gt.lss ?_; refine RW.y (Y.lss rfl rfl) rfl ?_))
    exact FQ.one rfl rfl rfl ⟨hk1, by rw [lightB, hall, decide_eq_true (by omega)]; rfl⟩

end Go.Proofs.YtjfdhafmbcppjaaGreatDoor.Ve

namespace Go.Proofs.YtjfdhafmbcppjaaGreatDoor.Sp
open Go.RowKit H S Ve
attribute [local irreducible] H.CL H.RW H.CW H.Yd H.thenK H.blockQ Go.Calls

theorem bdC_len : ∀ x, (bdC x).length = 5 := fun _ => rfl
theorem bdSpot {w : World} {v : Value} {L : List (Bd × Value)} (hs : Sl w 5 v L.length (L.flatMap bdC)) {k : Nat} (hk : k < L.length) : ∃ g o, Value.spot v ((k : Int).toNat * 5) = ⟨g, o, none⟩ ∧ ∀ w', K0 w w' → w'.cell? ⟨g, o, none⟩ = some (vs (L.getD k default).1.sign) ∧ ∀ j u, ([.int .i64 (L.getD k default).1.v.a, .int .i64 (L.getD k default).1.v.b, .int .i64 (L.getD k default).1.v.c, (L.getD k default).2] : List Value)[j]? = some u → w'.cell? ((⟨g, o + 1, none⟩ : Addr).add j) = some u := by
  obtain ⟨g, o, h1⟩ := elPtr hs (by omega) ((k : Int).toNat * 5)
  refine ⟨g, o, h1, fun w' hk' => ?_⟩
  have h2 := elCells (hs.keep0 hk') bdC_len hk
  rw [h1] at h2
  refine ⟨h2 0 _ rfl, fun j u hu => ?_⟩
  have := h2 (1 + j) u (by rw [Nat.add_comm]; exact hu)
  rw [addr_add] at this ⊢
  rw [Nat.add_assoc]; exact this
theorem getD_or {R : List (List Bd × Value)} {o : List (List Bd)} (h : R.map (·.1) = o) {i : Nat} (hi : i < R.length) : (R.getD i default).1 = o.getD i [] := by
  subst h; simp [List.getD_eq_getElem?_getD, hi]
theorem getD_bd {L : List (Bd × Value)} {l : List Bd} (h : L.map (·.1) = l) {i : Nat} (hi : i < L.length) : (L.getD i default).1 = l.getD i default := by
  subst h; simp [List.getD_eq_getElem?_getD, hi]

set_option maxHeartbeats 2000000 in
theorem helpSpanS (X Y : Value) (s : Spn) (w : World) (hX : SpanAt w X s) (hY : SpanAt w Y s) : Calls Tryz.prog 12 #[X, Y] w fun e w' => K0 w w' ∧ e = .returned (.bool true) := by
  obtain ⟨p, rfl, R, hR, hs, hm⟩ := hX
  obtain ⟨p', rfl, R', hR', hs', hm'⟩ := hY
  have hRl : R'.length = R.length := by have h1 := congrArg List.length hR; have h2 := congrArg List.length hR'; rw [List.length_map] at h1 h2; omega
  have hmx : R.length ≤ 9223372036854775807 := by have := hs.2.1; simpa [maxLen] using this
  rw [hRl] at hs'
  refine H.enter Tryz.func12 Tryz.ntmps12 rfl rfl ?_; dsimp only [H.args]
  repeat' (first | (refine CL.seq ?_) | (refine CL.region ?_))
  refine RW.box rfl rfl (fun w1 hb1 hk1 hlt1 => ?_)
  have hb1' : w1.heap[w.heap.size]? = some (.cells #[.bool s.any, p] spnT (0, 0)) := hb1
  refine RW.box rfl rfl (fun w2 hb2 hk2 hlt2 => ?_)
  have hb2' : w2.heap[w1.heap.size]? = some (.cells #[.bool s.any, p'] spnT (0, 0)) := hb2
  have hb12 := hk2.at0 hb1'
  have hK2 := hk1.trans0 hk2
  have hs2 := hs.keep0 hK2
  have hs2' := hs'.keep0 hK2
  repeat' (first | (refine CL.seq ?_) | (refine CL.region ?_) | (refine CL.skip ?_) | (refine CL.condP rfl (fun _ => ?_) (fun _ => ?_) <;> try (exfalso; omega)) | (refine CL.block ?_) | (refine Gt.nil ?_; refine RW.nilw [0, 1, 2, 3, 4, 5, 6, 20, 25, 40, 48, 91] ?_; dsimp only [H.keep, H.look, H.Fr.put, Nat.beq]) | (refine RW.y (Y.nebS rfl rfl) rfl ?_) | (refine Gt.load ?_; (refine RW.y (Y.loadB rfl (by assumption) rfl) rfl ?_)) | (refine Gt.guard ?_; (refine RW.on rfl rfl rfl ?_)) | (refine Gt.move ?_; refine RW.y (Y.move rfl) rfl ?_) | (refine Gt.fieldAddr ?_; refine RW.y (Y.fieldAddr rfl (by rfl)) rfl ?_) | (refine Gt.assign ?_; refine RW.y (Y.assign rfl) rfl ?_) | (refine Gt.len ?_; (refine RW.y (Y.lenx rfl (by assumption)) rfl ?_)) | (refine Gt.neq ?_; (refine RW.y (Y.nei rfl rfl) rfl ?_)) | (refine Gt.pick ?_; (refine RW.y (Y.pickF rfl rfl) rfl ?_)))
  all_goals try contradiction
  refine CL.loopS [2, 3, 5] (fun m vals wr => ∃ i : Nat, vals = [.pointer (some ⟨w.heap.size, 0, none⟩), .pointer (some ⟨w1.heap.size, 0, none⟩), .int .i64 (i : Int)] ∧ m = R.length - i ∧ i ≤ R.length ∧ K0 w2 wr) R.length ⟨_, rfl, 0, rfl, rfl, Nat.zero_le _, Kept.refl _ _⟩ ?_
  rintro m vals wr ⟨i, rfl, rfl, hi, hkr⟩
  dsimp only [List.zip, List.zipWith]
  have hsr := hs2.keep0 hkr
  have hsr' := hs2'.keep0 hkr
  have hbr1 := hkr.at0 hb12
  have hbr2 := hkr.at0 hb2'
  rcases Nat.lt_or_ge i R.length with hlt | hge
  · have hti : ((i : Int)).toNat = i := Int.toNat_natCast i
    have hKr := hK2.trans0 hkr
    obtain ⟨L, hL, hsL, hmL⟩ := (hm _ (getD_mem default hlt)).keep0 hKr
    obtain ⟨L', hL', hsL', hmL'⟩ := (hm' (R'.getD i default) (getD_mem default (by omega))).keep0 hKr
    rw [getD_or hR hlt] at hL
    rw [getD_or hR' (by omega)] at hL'
    have hLl : L'.length = L.length := by have h1 := congrArg List.length hL; have h2 := congrArg List.length hL'; rw [List.length_map] at h1 h2; omega
    have hmL9 : L.length ≤ 9223372036854775807 := by have := hsL.2.1; simpa [maxLen] using this
    rw [hLl] at hsL'
    have hc1 : ∀ {w' : World}, K0 wr w' → w'.cell? (Value.spot p (((i : Int)).toNat * 1)) = some (R.getD i default).2 := fun h => by rw [hti, Nat.mul_one]; exact (hsr.keep0 h).cell (by simp [List.getD_eq_getElem?_getD, hlt])
    have hc2 : ∀ {w' : World}, K0 wr w' → w'.cell? (Value.spot p' (((i : Int)).toNat * 1)) = some (R'.getD i default).2 := fun h => by rw [hti, Nat.mul_one]; exact (hsr'.keep0 h).cell (by simp [List.getD_eq_getElem?_getD, hlt, hRl])
    repeat' (first | (refine CL.seq ?_) | (refine CL.region ?_) | (refine CL.skip ?_) | (refine CL.condP rfl (fun _ => ?_) (fun _ => ?_) <;> try (exfalso; omega)) | (refine CL.block ?_) | (refine Gt.nil ?_; refine RW.nilw [0, 1, 2, 3, 4, 5, 6, 20, 25, 40, 48, 91] ?_; dsimp only [H.keep, H.look, H.Fr.put, Nat.beq]) | (refine Gt.load ?_; (refine RW.y (Y.loadB rfl (by assumption) rfl) rfl ?_)) | (refine Gt.move ?_; refine RW.y (Y.move rfl) rfl ?_) | (refine Gt.fieldAddr ?_; refine RW.y (Y.fieldAddr rfl (by rfl)) rfl ?_) | (refine Gt.len ?_; (refine RW.y (Y.lenx rfl (by assumption)) rfl ?_)) | (refine Gt.lss ?_; refine RW.y (Y.lss rfl rfl) rfl ?_))
    refine CL.draw (fun w' => K0 wr w') (by kernel_rfl) (fun w3 hheap hk3 => ?_)
    have hS : K0 wr w3 := hk3
    skip
    refine AW.take 0 rfl (by kernel_rfl) (by kernel_rfl) (by kernel_rfl) rfl (by assumption) (fun w hS => Y.fieldAddr rfl (by rfl)) ?_
    refine AW.take 1 rfl (by kernel_rfl) (by kernel_rfl) (by kernel_rfl) rfl (by assumption) (fun w hS => Y.loadB rfl (hS.at0 hbr1) rfl) ?_
    refine AW.take 2 rfl (by kernel_rfl) (by kernel_rfl) (by kernel_rfl) rfl (by assumption) (fun w hS => Y.move rfl) ?_
    refine AW.take 3 rfl (by kernel_rfl) (by kernel_rfl) (by kernel_rfl) rfl (by assumption) (fun w hS => Y.idx rfl rfl (hsr.keep0 hS) (by omega) (by omega)) ?_
    refine AW.take 4 rfl (by kernel_rfl) (by kernel_rfl) (by kernel_rfl) rfl (by assumption) (fun w hS => Y.load1 rfl (hc1 hS)) ?_
    refine AW.take 5 rfl (by kernel_rfl) (by kernel_rfl) (by kernel_rfl) rfl (by assumption) (fun w hS => Y.lenx rfl (hsL.keep0 hS)) ?_
    refine AW.take 6 rfl (by kernel_rfl) (by kernel_rfl) (by kernel_rfl) rfl (by assumption) (fun w hS => Y.fieldAddr rfl (by rfl)) ?_
    refine AW.take 7 rfl (by kernel_rfl) (by kernel_rfl) (by kernel_rfl) rfl (by assumption) (fun w hS => Y.loadB rfl (hS.at0 hbr2) rfl) ?_
    refine AW.take 8 rfl (by kernel_rfl) (by kernel_rfl) (by kernel_rfl) rfl (by assumption) (fun w hS => Y.move rfl) ?_
    refine AW.take 9 rfl (by kernel_rfl) (by kernel_rfl) (by kernel_rfl) rfl (by assumption) (fun w hS => Y.idx rfl rfl (hsr'.keep0 hS) (by omega) (by omega)) ?_
    refine AW.take 10 rfl (by kernel_rfl) (by kernel_rfl) (by kernel_rfl) rfl (by assumption) (fun w hS => Y.load1 rfl (hc2 hS)) ?_
    refine AW.take 11 rfl (by kernel_rfl) (by kernel_rfl) (by kernel_rfl) rfl (by assumption) (fun w hS => Y.lenx rfl (hsL'.keep0 hS)) ?_
    refine AW.take 12 rfl (by kernel_rfl) (by kernel_rfl) (by kernel_rfl) rfl (by assumption) (fun w hS => Y.neiS rfl rfl) ?_
    refine AW.donew [2, 3, 5, 40] (by kernel_rfl) ?_
    dsimp only [H.keep, H.look, H.Fr.put, Nat.beq]
    have hsr3 := hsr.keep0 hk3
    have hsr3' := hsr'.keep0 hk3
    have hb31 := hk3.at0 hbr1
    have hb32 := hk3.at0 hbr2
    have hsL3 := hsL.keep0 hk3
    have hsL3' := hsL'.keep0 hk3
    rw [← hti] at hsL3
    repeat' (first | (refine CL.seq ?_) | (refine CL.region ?_) | (refine CL.skip ?_) | (refine CL.condF rfl ?_) | (refine CL.block ?_) | (refine Gt.nil ?_; refine RW.nilw [0, 1, 2, 3, 4, 5, 6, 20, 25, 40, 48, 91] ?_; dsimp only [H.keep, H.look, H.Fr.put, Nat.beq]) | (refine Gt.assign ?_; refine RW.y (Y.assign rfl) rfl ?_))
    refine CL.loopS [2, 3, 5, 6] (fun m vals wv => ∃ k : Nat, vals = [.pointer (some ⟨w.heap.size, 0, none⟩), .pointer (some ⟨w1.heap.size, 0, none⟩), .int .i64 (i : Int), .int .i64 (k : Int)] ∧ m = L.length - k ∧ k ≤ L.length ∧ K0 w3 wv) L.length ⟨_, rfl, 0, rfl, rfl, Nat.zero_le _, Kept.refl _ _⟩ ?_
    rintro m vals wv ⟨k, rfl, rfl, hk, hkv⟩
    dsimp only [List.zip, List.zipWith]
    have hsv := hsr3.keep0 hkv
    have hsv' := hsr3'.keep0 hkv
    have hv1 := hkv.at0 hb31
    have hv2 := hkv.at0 hb32
    have hLv := hsL3.keep0 hkv
    have hkrv := hk3.trans0 hkv
    rcases Nat.lt_or_ge k L.length with hkl | hkg
    · have hyl := hmL _ (getD_mem default hkl)
      have hyl' := hmL' (L'.getD k default) (getD_mem default (by omega))
      have hq := bdSpot (hsL.keep0 hkrv) hkl
      have hq' := bdSpot (L := L') (by rw [hLl]; exact hsL'.keep0 hkrv) (k := k) (by omega)
      have he : (L'.getD k default).1 = (L.getD k default).1 := by rw [getD_bd hL hkl, getD_bd hL' (by omega)]
      rw [he] at hyl' hq'
      obtain ⟨g, o, hsp, hcs⟩ := hq
      obtain ⟨g', o', hsp', hcs'⟩ := hq'
      repeat' (first | (refine CL.seq ?_) | (refine CL.region ?_) | (refine CL.skip ?_) | (refine CL.condP rfl (fun _ => ?_) (fun _ => ?_) <;> try (exfalso; omega)) | (refine CL.block ?_) | (refine Gt.nil ?_; refine RW.nilw [0, 1, 2, 3, 4, 5, 6, 20, 25, 40, 48, 91] ?_; dsimp only [H.keep, H.look, H.Fr.put, Nat.beq]) | (refine Gt.load ?_; (refine RW.y (Y.loadB rfl (by assumption) rfl) rfl ?_)) | (refine Gt.move ?_; refine RW.y (Y.move rfl) rfl ?_) | (refine Gt.fieldAddr ?_; refine RW.y (Y.fieldAddr rfl (by rfl)) rfl ?_) | (refine Gt.idx ?_; (refine RW.elemM rfl rfl rfl rfl (by assumption) (by omega) (by omega) ?_)) | (refine Gt.len ?_; (refine RW.y (Y.lenx rfl (by assumption)) rfl ?_)) | (refine Gt.lss ?_; refine RW.y (Y.lss rfl rfl) rfl ?_))
      refine CL.draw (fun w' => K0 wv w') (by kernel_rfl) (fun w4 hheap4 hk4 => ?_)
      have hS : K0 wv w4 := hk4
      skip
      refine AW.take 0 rfl (by kernel_rfl) (by kernel_rfl) (by kernel_rfl) rfl (by assumption) (fun w hS => Y.fieldAddr rfl (by rfl)) ?_
      refine AW.take 1 rfl (by kernel_rfl) (by kernel_rfl) (by kernel_rfl) rfl (by assumption) (fun w hS => Y.loadB rfl (hS.at0 hv1) rfl) ?_
      refine AW.take 2 rfl (by kernel_rfl) (by kernel_rfl) (by kernel_rfl) rfl (by assumption) (fun w hS => Y.move rfl) ?_
      refine AW.take 3 rfl (by kernel_rfl) (by kernel_rfl) (by kernel_rfl) rfl (by assumption) (fun w hS => Y.idx rfl rfl (hsv.keep0 hS) (by omega) (by omega)) ?_
      refine AW.take 4 rfl (by kernel_rfl) (by kernel_rfl) (by kernel_rfl) rfl (by assumption) (fun w hS => Y.load1 rfl (hc1 (hkrv.trans0 hS))) ?_
      refine AW.take 5 rfl (by kernel_rfl) (by kernel_rfl) (by kernel_rfl) rfl (by assumption) (fun w hS => Y.move rfl) ?_
      refine AW.take 6 rfl (by kernel_rfl) (by kernel_rfl) (by kernel_rfl) rfl (by assumption) (fun w hS => Y.idx rfl rfl (hsL.keep0 (hkrv.trans0 hS)) (by omega) (by omega)) ?_
      refine AW.take 7 rfl (by kernel_rfl) (by kernel_rfl) (by kernel_rfl) rfl (by assumption) (fun w hS => Y.fieldAddr (congrArg (fun a => some (Value.pointer (some a))) hsp) (by rfl)) ?_
      refine AW.take 8 rfl (by kernel_rfl) (by kernel_rfl) (by kernel_rfl) rfl (by assumption) (fun w hS => Y.load1A rfl (hcs _ hS).1) ?_
      refine AW.take 9 rfl (by kernel_rfl) (by kernel_rfl) (by kernel_rfl) rfl (by assumption) (fun w hS => Y.fieldAddr rfl (by rfl)) ?_
      refine AW.take 10 rfl (by kernel_rfl) (by kernel_rfl) (by kernel_rfl) rfl (by assumption) (fun w hS => Y.loadB rfl (hS.at0 hv2) rfl) ?_
      refine AW.take 11 rfl (by kernel_rfl) (by kernel_rfl) (by kernel_rfl) rfl (by assumption) (fun w hS => Y.move rfl) ?_
      refine AW.take 12 rfl (by kernel_rfl) (by kernel_rfl) (by kernel_rfl) rfl (by assumption) (fun w hS => Y.idx rfl rfl (hsv'.keep0 hS) (by omega) (by omega)) ?_
      refine AW.take 13 rfl (by kernel_rfl) (by kernel_rfl) (by kernel_rfl) rfl (by assumption) (fun w hS => Y.load1 rfl (hc2 (hkrv.trans0 hS))) ?_
      refine AW.take 14 rfl (by kernel_rfl) (by kernel_rfl) (by kernel_rfl) rfl (by assumption) (fun w hS => Y.move rfl) ?_
      refine AW.take 15 rfl (by kernel_rfl) (by kernel_rfl) (by kernel_rfl) rfl (by assumption) (fun w hS => Y.idx rfl rfl (hsL'.keep0 (hkrv.trans0 hS)) (by omega) (by omega)) ?_
      refine AW.take 16 rfl (by kernel_rfl) (by kernel_rfl) (by kernel_rfl) rfl (by assumption) (fun w hS => Y.fieldAddr (congrArg (fun a => some (Value.pointer (some a))) hsp') (by rfl)) ?_
      refine AW.take 17 rfl (by kernel_rfl) (by kernel_rfl) (by kernel_rfl) rfl (by assumption) (fun w hS => Y.load1A rfl (hcs' _ hS).1) ?_
      refine AW.take 18 rfl (by kernel_rfl) (by kernel_rfl) (by kernel_rfl) rfl (by assumption) (fun w hS => Y.nesS rfl rfl) ?_
      refine AW.take 19 rfl (by kernel_rfl) (by kernel_rfl) (by kernel_rfl) rfl (by assumption) (fun w hS => Y.move rfl) ?_
      refine AW.takeOn 20 rfl (by kernel_rfl) (by kernel_rfl) (by kernel_rfl) rfl rfl rfl rfl (by assumption) (fun w hS => Y.fieldAddr rfl (by rfl)) ?_
      refine AW.takeOn 21 rfl (by kernel_rfl) (by kernel_rfl) (by kernel_rfl) rfl rfl rfl rfl (by assumption) (fun w hS => Y.loadB rfl (hS.at0 hv1) rfl) ?_
      refine AW.takeOn 22 rfl (by kernel_rfl) (by kernel_rfl) (by kernel_rfl) rfl rfl rfl rfl (by assumption) (fun w hS => Y.move rfl) ?_
      refine AW.takeOn 23 rfl (by kernel_rfl) (by kernel_rfl) (by kernel_rfl) rfl rfl rfl rfl (by assumption) (fun w hS => Y.idx rfl rfl (hsv.keep0 hS) (by omega) (by omega)) ?_
      refine AW.takeOn 24 rfl (by kernel_rfl) (by kernel_rfl) (by kernel_rfl) rfl rfl rfl rfl (by assumption) (fun w hS => Y.load1 rfl (hc1 (hkrv.trans0 hS))) ?_
      refine AW.takeOn 25 rfl (by kernel_rfl) (by kernel_rfl) (by kernel_rfl) rfl rfl rfl rfl (by assumption) (fun w hS => Y.move rfl) ?_
      refine AW.takeOn 26 rfl (by kernel_rfl) (by kernel_rfl) (by kernel_rfl) rfl rfl rfl rfl (by assumption) (fun w hS => Y.idx rfl rfl (hsL.keep0 (hkrv.trans0 hS)) (by omega) (by omega)) ?_
      refine AW.takeOn 27 rfl (by kernel_rfl) (by kernel_rfl) (by kernel_rfl) rfl rfl rfl rfl (by assumption) (fun w hS => Y.fieldAddr (congrArg (fun a => some (Value.pointer (some a))) hsp) (by rfl)) ?_
      refine AW.takeOn 28 rfl (by kernel_rfl) (by kernel_rfl) (by kernel_rfl) rfl rfl rfl rfl (by assumption) (fun w hS => Y.loadN (cs := [_, _, _, _]) rfl rfl (hcs _ hS).2) ?_
      refine AW.takeOn 29 rfl (by kernel_rfl) (by kernel_rfl) (by kernel_rfl) rfl rfl rfl rfl (by assumption) (fun w hS => Y.fieldAddr rfl (by rfl)) ?_
      refine AW.takeOn 30 rfl (by kernel_rfl) (by kernel_rfl) (by kernel_rfl) rfl rfl rfl rfl (by assumption) (fun w hS => Y.loadB rfl (hS.at0 hv2) rfl) ?_
      refine AW.takeOn 31 rfl (by kernel_rfl) (by kernel_rfl) (by kernel_rfl) rfl rfl rfl rfl (by assumption) (fun w hS => Y.move rfl) ?_
      refine AW.takeOn 32 rfl (by kernel_rfl) (by kernel_rfl) (by kernel_rfl) rfl rfl rfl rfl (by assumption) (fun w hS => Y.idx rfl rfl (hsv'.keep0 hS) (by omega) (by omega)) ?_
      refine AW.takeOn 33 rfl (by kernel_rfl) (by kernel_rfl) (by kernel_rfl) rfl rfl rfl rfl (by assumption) (fun w hS => Y.load1 rfl (hc2 (hkrv.trans0 hS))) ?_
      refine AW.takeOn 34 rfl (by kernel_rfl) (by kernel_rfl) (by kernel_rfl) rfl rfl rfl rfl (by assumption) (fun w hS => Y.move rfl) ?_
      refine AW.takeOn 35 rfl (by kernel_rfl) (by kernel_rfl) (by kernel_rfl) rfl rfl rfl rfl (by assumption) (fun w hS => Y.idx rfl rfl (hsL'.keep0 (hkrv.trans0 hS)) (by omega) (by omega)) ?_
      refine AW.takeOn 36 rfl (by kernel_rfl) (by kernel_rfl) (by kernel_rfl) rfl rfl rfl rfl (by assumption) (fun w hS => Y.fieldAddr (congrArg (fun a => some (Value.pointer (some a))) hsp') (by rfl)) ?_
      refine AW.takeOn 37 rfl (by kernel_rfl) (by kernel_rfl) (by kernel_rfl) rfl rfl rfl rfl (by assumption) (fun w hS => Y.loadN (cs := [_, _, _, _]) rfl rfl (hcs' _ hS).2) ?_
      refine AW.next 38 rfl (by kernel_rfl) ?_
      refine RW.on rfl rfl rfl ?_
      refine RW.fn rfl rfl ((helpVersion _ _ (L.getD k default).1.v (L.getD k default).1.v w4 ⟨_, rfl, hyl.keep0 (hkrv.trans0 hk4)⟩ ⟨_, rfl, hyl'.keep0 (hkrv.trans0 hk4)⟩).mono ?_)
      rintro e w5 ⟨hk5, rfl⟩
      rw [eqV_self]
      refine RW.nil (Nm.then (rebase0 hS hk5 fun hS => ?_))
      refine AW.takeOn 39 rfl (by kernel_rfl) (by kernel_rfl) (by kernel_rfl) rfl rfl rfl rfl (by assumption) (fun w hS => by exact Y.notb rfl) ?_
      refine AW.take 40 rfl (by kernel_rfl) (by kernel_rfl) (by kernel_rfl) rfl (by assumption) (fun w hS => by exact Y.pickF rfl rfl) ?_
      refine AW.donew [2, 3, 5, 6, 91] (by kernel_rfl) ?_
      dsimp only [H.keep, H.look, H.Fr.put, Nat.beq]
      repeat' (first | (refine CL.region ?_) | (refine CL.skip ?_) | (refine CL.condF rfl ?_) | (refine CL.done ?_) | (refine Nm.block ?_) | (refine Nm.then ?_) | (refine Gt.nil ?_; refine RW.nilw [0, 1, 2, 3, 4, 5, 6, 20, 25, 40, 48, 91] ?_; dsimp only [H.keep, H.look, H.Fr.put, Nat.beq]) | (refine Gt.move ?_; refine RW.y (Y.move rfl) rfl ?_) | (refine Gt.assign ?_; refine RW.y (Y.assign rfl) rfl ?_) | (refine Gt.add ?_; refine RW.y (Y.add64 rfl rfl (by omega) (by omega)) rfl ?_))
      exact ⟨L.length - (k + 1), _, rfl, rfl, rfl, by omega, k + 1, rfl, rfl, by omega, (hkv.trans0 hk4).trans0 hk5⟩
    · have hk : k = L.length := by omega
      subst hk
      repeat' (first | (refine CL.seq ?_) | (refine CL.region ?_) | (refine CL.condP rfl (fun _ => ?_) (fun _ => ?_) <;> try (exfalso; omega)) | (refine CL.exit ?_) | (refine Ex.then ?_) | (refine Ex.hit ?_) | (refine CL.done ?_) | (refine Nm.block ?_) | (refine Nm.then ?_) | (refine Gt.nil ?_; refine RW.nilw [0, 1, 2, 3, 4, 5, 6, 20, 25, 40, 48, 91] ?_; dsimp only [H.keep, H.look, H.Fr.put, Nat.beq]) | (refine Gt.load ?_; (refine RW.y (Y.loadB rfl (by assumption) rfl) rfl ?_)) | (refine Gt.move ?_; refine RW.y (Y.move rfl) rfl ?_) | (refine Gt.fieldAddr ?_; refine RW.y (Y.fieldAddr rfl (by rfl)) rfl ?_) | (refine Gt.assign ?_; refine RW.y (Y.assign rfl) rfl ?_) | (refine Gt.idx ?_; (refine RW.elemM rfl rfl rfl rfl (by assumption) (by omega) (by omega) ?_)) | (refine Gt.len ?_; (refine RW.y (Y.lenx rfl (by assumption)) rfl ?_)) | (refine Gt.lss ?_; refine RW.y (Y.lss rfl rfl) rfl ?_) | (refine Gt.add ?_; refine RW.y (Y.add64 rfl rfl (by omega) (by omega)) rfl ?_))
      exact ⟨R.length - (i + 1), _, rfl, rfl, rfl, by omega, i + 1, rfl, rfl, by omega, (hkr.trans0 hk3).trans0 hkv⟩
  · have hi : i = R.length := by omega
    subst hi
    repeat' (first | (refine CL.seq ?_) | (refine CL.region ?_) | (refine CL.condP rfl (fun _ => ?_) (fun _ => ?_) <;> try (exfalso; omega)) | (refine CL.exit ?_) | (refine Ex.then ?_) | (refine Ex.hit ?_) | (refine CL.ret ?_) | (refine Gt.nil ?_; refine RW.nilw [0, 1, 2, 3, 4, 5, 6, 20, 25, 40, 48, 91] ?_; dsimp only [H.keep, H.look, H.Fr.put, Nat.beq]) | (refine Gt.load ?_; (refine RW.y (Y.loadB rfl (by assumption) rfl) rfl ?_)) | (refine Gt.move ?_; refine RW.y (Y.move rfl) rfl ?_) | (refine Gt.fieldAddr ?_; refine RW.y (Y.fieldAddr rfl (by rfl)) rfl ?_) | (refine Gt.assign ?_; refine RW.y (Y.assign rfl) rfl ?_) | (refine Gt.len ?_; (refine RW.y (Y.lenx rfl (by assumption)) rfl ?_)) | (refine Gt.lss ?_; refine RW.y (Y.lss rfl rfl) rfl ?_))
    exact FQ.one rfl rfl rfl ⟨hK2.trans0 hkr, rfl⟩

def lightS (s : Spn) : Bool := decide (s.or.length ≤ 5) && s.or.all (fun l => decide (l.length ≤ 5) && l.all (fun b => decide (b.sign.length ≤ 5) && lightB b.v))
set_option maxHeartbeats 1000000 in
theorem lightSpan (X : Value) (s : Spn) (w : World) (hX : SpanAt w X s) : Calls Tryz.prog 18 #[X] w fun e w' => K0 w w' ∧ e = .returned (.bool (lightS s)) := by
  obtain ⟨p, rfl, R, hR, hs, hm⟩ := hX
  have hmx : R.length ≤ 9223372036854775807 := by have := hs.2.1; simpa [maxLen] using this
  have hso : s.or = R.map (·.1) := hR.symm
  have hret : ∀ r : Bool, r = lightS s → Ending.returned (.bool r) = .returned (.bool (lightS s)) := fun r h => by rw [h]
  refine H.enter Tryz.func18 Tryz.ntmps18 rfl rfl ?_; dsimp only [H.args]
  repeat' (first | (refine CL.seq ?_) | (refine CL.region ?_))
  refine RW.box rfl rfl (fun w1 hb1 hk1 hlt1 => ?_)
  have hb1' : w1.heap[w.heap.size]? = some (.cells #[.bool s.any, p] spnT (0, 0)) := hb1
  have hs1 := hs.keep0 hk1
  repeat' (first | (refine CL.seq ?_) | (refine CL.region ?_) | (refine CL.skip ?_) | (refine CL.condP rfl (fun _ => ?_) (fun _ => ?_) <;> try (exfalso; omega)) | (refine CL.block ?_) | (refine CL.ret ?_) | (refine Gt.nil ?_; refine RW.nilw [0, 1, 2, 3, 4, 8, 13, 22, 30, 56] ?_; dsimp only [H.keep, H.look, H.Fr.put, Nat.beq]) | (refine Gt.load ?_; (refine RW.y (Y.loadB rfl (by assumption) rfl) rfl ?_)) | (refine Gt.assign ?_; refine RW.y (Y.assign rfl) rfl ?_) | (refine Gt.fieldAddr ?_; refine RW.y (Y.fieldAddr rfl (by rfl)) rfl ?_) | (refine Gt.len ?_; (refine RW.y (Y.lenx rfl (by assumption)) rfl ?_)) | (refine Gt.gtr ?_; refine RW.y (Y.gtr rfl rfl) rfl ?_))
  · refine FQ.one rfl rfl rfl ⟨hk1, hret _ ?_⟩
    rw [lightS, hso, List.length_map, decide_eq_false (by omega)]; rfl
  rename_i hlen
  refine CL.loopS [1, 3] (fun m vals wr => ∃ i : Nat, vals = [.pointer (some ⟨w.heap.size, 0, none⟩), .int .i64 (i : Int)] ∧ m = R.length - i ∧ i ≤ R.length ∧ (R.take i).all (fun y => decide (y.1.length ≤ 5) && y.1.all (fun b => decide (b.sign.length ≤ 5) && lightB b.v)) = true ∧ K0 w1 wr) R.length ⟨_, rfl, 0, rfl, rfl, Nat.zero_le _, rfl, Kept.refl _ _⟩ ?_
  rintro m vals wr ⟨i, rfl, rfl, hi, hall, hkr⟩
  dsimp only [List.zip, List.zipWith]
  have hsr := hs1.keep0 hkr
  have hbr1 := hkr.at0 hb1'
  have hfail : ∀ i, i < R.length → (decide ((R.getD i default).1.length ≤ 5) && (R.getD i default).1.all (fun b => decide (b.sign.length ≤ 5) && lightB b.v)) = false → false = lightS s := by
    intro i h1 h2
    rw [lightS, hso, List.all_map, all_false default h1 h2, Bool.and_false]
  rcases Nat.lt_or_ge i R.length with hlt | hge
  · have hti : ((i : Int)).toNat = i := Int.toNat_natCast i
    have hKr := hk1.trans0 hkr
    obtain ⟨L, hL, hsL, hmL⟩ := (hm _ (getD_mem default hlt)).keep0 hKr
    have hmL9 : L.length ≤ 9223372036854775807 := by have := hsL.2.1; simpa [maxLen] using this
    have hLl : (R.getD i default).1.length = L.length := by rw [← hL, List.length_map]
    rw [← hti] at hsL
    repeat' (first | (refine CL.seq ?_) | (refine CL.region ?_) | (refine CL.skip ?_) | (refine CL.condP rfl (fun _ => ?_) (fun _ => ?_) <;> try (exfalso; omega)) | (refine CL.block ?_) | (refine CL.ret ?_) | (refine Rt.then ?_) | (refine Rt.block ?_) | (refine Gt.nil ?_; refine RW.nilw [0, 1, 2, 3, 4, 8, 13, 22, 30, 56] ?_; dsimp only [H.keep, H.look, H.Fr.put, Nat.beq]) | (refine Gt.load ?_; (refine RW.y (Y.loadB rfl (by assumption) rfl) rfl ?_)) | (refine Gt.move ?_; refine RW.y (Y.move rfl) rfl ?_) | (refine Gt.assign ?_; refine RW.y (Y.assign rfl) rfl ?_) | (refine Gt.fieldAddr ?_; refine RW.y (Y.fieldAddr rfl (by rfl)) rfl ?_) | (refine Gt.len ?_; (refine RW.y (Y.lenx rfl (by assumption)) rfl ?_)) | (refine Gt.idx ?_; (refine RW.elemM rfl rfl rfl rfl (by assumption) (by omega) (by omega) ?_)) | (refine Gt.gtr ?_; refine RW.y (Y.gtr rfl rfl) rfl ?_) | (refine Gt.lss ?_; refine RW.y (Y.lss rfl rfl) rfl ?_))
    · rename_i h5
      refine FQ.one rfl rfl rfl ⟨hKr, hret _ (hfail i hlt ?_)⟩
      rw [hLl, decide_eq_false (by omega)]; rfl
    rename_i h5
    refine CL.loopS [1, 3, 4] (fun m vals wv => ∃ k : Nat, vals = [.pointer (some ⟨w.heap.size, 0, none⟩), .int .i64 (i : Int), .int .i64 (k : Int)] ∧ m = L.length - k ∧ k ≤ L.length ∧ (L.take k).all (fun b => decide (b.1.sign.length ≤ 5) && lightB b.1.v) = true ∧ K0 wr wv) L.length ⟨_, rfl, 0, rfl, rfl, Nat.zero_le _, rfl, Kept.refl _ _⟩ ?_
    rintro m vals wv ⟨k, rfl, rfl, hk, hal2, hkv⟩
    dsimp only [List.zip, List.zipWith]
    have hsv := hsr.keep0 hkv
    have hv1 := hkv.at0 hbr1
    have hLv := hsL.keep0 hkv
    have hf2 : ∀ k, k < L.length → (decide ((L.getD k default).1.sign.length ≤ 5) && lightB (L.getD k default).1.v) = false → false = lightS s := by
      intro k h1 h2
      refine hfail i hlt ?_
      rw [← hL, List.all_map, all_false default h1 h2, Bool.and_false]
    rcases Nat.lt_or_ge k L.length with hkl | hkg
    · have hyl := (hmL _ (getD_mem default hkl)).keep0 hkv
      have hq := bdSpot (hsL.keep0 hkv) hkl
      rw [hti] at hq
      obtain ⟨g, o, hsp, hcs⟩ := hq
      have hsp2 : Value.spot (R.getD ((i : Int)).toNat default).2 (((k : Int)).toNat * 5) = ⟨g, o, none⟩ := by rw [hti, Int.toNat_natCast]; rw [Int.toNat_natCast] at hsp; exact hsp
      repeat' (first | (refine CL.seq ?_) | (refine CL.region ?_) | (refine CL.skip ?_) | (refine CL.condP rfl (fun _ => ?_) (fun _ => ?_) <;> try (exfalso; omega)) | (refine CL.condT rfl ?_) | (refine CL.block ?_) | (refine CL.ret ?_) | (refine Rt.then ?_) | (refine Rt.block ?_) | (refine Gt.nil ?_; refine RW.nilw [0, 1, 2, 3, 4, 8, 13, 22, 30, 56] ?_; dsimp only [H.keep, H.look, H.Fr.put, Nat.beq]) | (refine Gt.load ?_; (refine RW.y (Y.loadB rfl (by assumption) rfl) rfl ?_)) | (refine Gt.guard ?_; first | (refine RW.part rfl rfl rfl (fun _ => ?_) (fun _ => ?_) <;> try (exfalso; omega)) | (refine RW.on rfl rfl rfl ?_) | (refine RW.off1 rfl rfl rfl rfl rfl ?_)) | (refine Gt.move ?_; refine RW.y (Y.move rfl) rfl ?_) | (refine Gt.assign ?_; refine RW.y (Y.assign rfl) rfl ?_) | (refine Gt.fieldAddr ?_; refine RW.y (Y.fieldAddr rfl (by rfl)) rfl ?_) | (refine Gt.len ?_; first | (refine RW.y (Y.lenx rfl (by assumption)) rfl ?_) | (refine RW.y (Y.lens rfl) rfl ?_)) | (refine Gt.idx ?_; first | (refine RW.elemM rfl rfl rfl rfl (by assumption) (by omega) (by omega) ?_) | (refine RW.elemF rfl rfl rfl rfl rfl rfl (by assumption) (fun _ => by rfl) rfl (by omega) (by omega) (by rfl) (fun _ _ => ?_)) | (refine RW.elemMOn rfl rfl rfl rfl (by assumption) (by omega) (by omega) rfl rfl rfl ?_)) | (refine Gt.gtr ?_; refine RW.y (Y.gtr rfl rfl) rfl ?_) | (refine Gt.lss ?_; refine RW.y (Y.lss rfl rfl) rfl ?_) | (refine Gt.pick ?_; (refine RW.y (Y.pickT rfl rfl) rfl ?_)))
      · rename_i h6
        rw [Int.toNat_natCast] at h6
        refine FQ.one rfl rfl rfl ⟨hKr.trans0 hkv, hret _ (hf2 k hkl ?_)⟩
        rw [decide_eq_false (by omega)]; rfl
      · rename_i h6
        rw [Int.toNat_natCast] at h6
        refine RW.y (Y.idx rfl rfl hLv (by omega) (by omega)) rfl ?_
        refine RW.on rfl rfl rfl ?_
        refine RW.y (Y.fieldAddr (congrArg (fun a => some (Value.pointer (some a))) hsp2) (by rfl)) rfl ?_
        refine RW.on rfl rfl rfl ?_
        refine RW.y (Y.loadN (cs := [_, _, _, _]) rfl rfl (hcs _ (Kept.refl _ _)).2) rfl ?_
        refine RW.on rfl rfl rfl ?_
        refine RW.fn rfl rfl ((lightV _ (L.getD k default).1.v wv ⟨_, rfl, hyl⟩).mono ?_)
        rintro e w4 ⟨hk4, rfl⟩
        cases hlb : lightB (L.getD k default).1.v
        · repeat' (first | (refine CL.seq ?_) | (refine CL.region ?_) | (refine CL.condT rfl ?_) | (refine CL.ret ?_) | (refine Rt.then ?_) | (refine Rt.block ?_) | (refine Gt.nil ?_; refine RW.nilw [0, 1, 2, 3, 4, 8, 13, 22, 30, 56] ?_; dsimp only [H.keep, H.look, H.Fr.put, Nat.beq]) | (refine Gt.guard ?_; (refine RW.on rfl rfl rfl ?_)) | (refine Gt.assign ?_; refine RW.y (Y.assign rfl) rfl ?_) | (refine Gt.not ?_; (refine RW.y (Y.notb rfl) rfl ?_)) | (refine Gt.pick ?_; (refine RW.y (Y.pickF rfl rfl) rfl ?_)))
          refine FQ.one rfl rfl rfl ⟨(hKr.trans0 hkv).trans0 hk4, hret _ (hf2 k hkl ?_)⟩
          rw [hlb, Bool.and_false]
        · repeat' (first | (refine CL.region ?_) | (refine CL.skip ?_) | (refine CL.condF rfl ?_) | (refine CL.done ?_) | (refine Nm.block ?_) | (refine Nm.then ?_) | (refine Gt.nil ?_; refine RW.nilw [0, 1, 2, 3, 4, 8, 13, 22, 30, 56] ?_; dsimp only [H.keep, H.look, H.Fr.put, Nat.beq]) | (refine Gt.guard ?_; (refine RW.on rfl rfl rfl ?_)) | (refine Gt.move ?_; refine RW.y (Y.move rfl) rfl ?_) | (refine Gt.assign ?_; refine RW.y (Y.assign rfl) rfl ?_) | (refine Gt.add ?_; refine RW.y (Y.add64 rfl rfl (by omega) (by omega)) rfl ?_) | (refine Gt.not ?_; (refine RW.y (Y.notb rfl) rfl ?_)) | (refine Gt.pick ?_; (refine RW.y (Y.pickF rfl rfl) rfl ?_)))
          refine ⟨L.length - (k + 1), _, rfl, rfl, rfl, by omega, k + 1, rfl, rfl, by omega, all_step default hkl hal2 ?_, hkv.trans0 hk4⟩
          rw [hlb, decide_eq_true (by omega)]; rfl
    · have hk : k = L.length := by omega
      subst hk
      rw [List.take_length] at hal2
      repeat' (first | (refine CL.seq ?_) | (refine CL.region ?_) | (refine CL.condP rfl (fun _ => ?_) (fun _ => ?_) <;> try (exfalso; omega)) | (refine CL.exit ?_) | (refine Ex.then ?_) | (refine Ex.hit ?_) | (refine CL.done ?_) | (refine Nm.block ?_) | (refine Nm.then ?_) | (refine Gt.nil ?_; refine RW.nilw [0, 1, 2, 3, 4, 8, 13, 22, 30, 56] ?_; dsimp only [H.keep, H.look, H.Fr.put, Nat.beq]) | (refine Gt.load ?_; (refine RW.y (Y.loadB rfl (by assumption) rfl) rfl ?_)) | (refine Gt.move ?_; refine RW.y (Y.move rfl) rfl ?_) | (refine Gt.assign ?_; refine RW.y (Y.assign rfl) rfl ?_) | (refine Gt.fieldAddr ?_; refine RW.y (Y.fieldAddr rfl (by rfl)) rfl ?_) | (refine Gt.len ?_; (refine RW.y (Y.lenx rfl (by assumption)) rfl ?_)) | (refine Gt.idx ?_; (refine RW.elemM rfl rfl rfl rfl (by assumption) (by omega) (by omega) ?_)) | (refine Gt.lss ?_; refine RW.y (Y.lss rfl rfl) rfl ?_) | (refine Gt.add ?_; refine RW.y (Y.add64 rfl rfl (by omega) (by omega)) rfl ?_))
      refine ⟨R.length - (i + 1), _, rfl, rfl, rfl, by omega, i + 1, rfl, rfl, by omega, all_step default hlt hall ?_, hkr.trans0 hkv⟩
      rw [hLl, decide_eq_true (by omega), Bool.true_and, ← hL, List.all_map]
      exact hal2
  · have hi : i = R.length := by omega
    subst hi
    rw [List.take_length] at hall
    repeat' (first | (refine CL.seq ?_) | (refine CL.region ?_) | (refine CL.condP rfl (fun _ => ?_) (fun _ => ?_) <;> try (exfalso; omega)) | (refine CL.exit ?_) | (refine Ex.then ?_) | (refine Ex.hit ?_) | (refine CL.ret ?_) | (refine Gt.nil ?_; refine RW.nilw [0, 1, 2, 3, 4, 8, 13, 22, 30, 56] ?_; dsimp only [H.keep, H.look, H.Fr.put, Nat.beq]) | (refine Gt.load ?_; (refine RW.y (Y.loadB rfl (by assumption) rfl) rfl ?_)) | (refine Gt.move ?_; refine RW.y (Y.move rfl) rfl ?_) | (refine Gt.assign ?_; refine RW.y (Y.assign rfl) rfl ?_) | (refine Gt.fieldAddr ?_; refine RW.y (Y.fieldAddr rfl (by rfl)) rfl ?_) | (refine Gt.len ?_; (refine RW.y (Y.lenx rfl (by assumption)) rfl ?_)) | (refine Gt.lss ?_; refine RW.y (Y.lss rfl rfl) rfl ?_))
    refine FQ.one rfl rfl rfl ⟨hk1.trans0 hkr, hret _ ?_⟩
    rw [lightS, hso, List.length_map, decide_eq_true (by omega), Bool.true_and, List.all_map]
    exact hall.symm
end Go.Proofs.YtjfdhafmbcppjaaGreatDoor.Sp

namespace Go.Proofs.YtjfdhafmbcppjaaGreatDoor.Sp
open Go.RowKit H S Ve
attribute [local irreducible] H.CL H.RW H.CW H.Yd H.thenK H.blockQ Go.Calls

theorem spnC {w : World} {V : Value} {s : Spn} (h : SpanAt w V s) : ∃ p, V = .agg #[.bool s.any, p] ∧ p.oneCell' = true ∧ OrAt w p s.or := by
  obtain ⟨p, rfl, hp⟩ := h
  exact ⟨p, rfl, hp.one, hp⟩
theorem VersAt.mk {w : World} {g : Nat} {L : List (Ver × Value)} {e : TypeId} (hb : w.heap[g]? = some (.cells (L.flatMap verCl).toArray e (0, 0))) (hm : ∀ x ∈ L, Sl w 1 x.2 x.1.pre.length (sv x.1.pre)) (hl : L.length ≤ 1000000) : VersAt w (.slice (some ⟨g, 0, none⟩) L.length L.length) (L.map (·.1)) :=
  ⟨L, rfl, sl_new hb (by rw [List.size_toArray, cells_len verCl_len]) hl, hm⟩

abbrev v199 : Ver := ⟨1, 9, 9, []⟩
abbrev v200 : Ver := ⟨2, 0, 0, []⟩
abbrev s120 : Spn := ⟨false, [[⟨[62, 61], ⟨1, 2, 0, []⟩⟩, ⟨[60], ⟨2, 0, 0, []⟩⟩]]⟩
theorem fitV_of (a b c : Int) (h : (-9223372036854775808 ≤ a ∧ a ≤ 9223372036854775807) ∧ (-9223372036854775808 ≤ b ∧ b ≤ 9223372036854775807) ∧ (-9223372036854775808 ≤ c ∧ c ≤ 9223372036854775807)) : FitV ⟨a, b, c, []⟩ := ⟨⟨by simp, by simp⟩, h⟩
theorem f120 : FitT s120 := by
  refine ⟨by decide, fun l hl => ?_⟩
  simp only [List.mem_singleton] at hl
  subst hl
  refine ⟨by decide, fun b hb => ?_⟩
  simp only [List.mem_cons, List.not_mem_nil, or_false] at hb
  rcases hb with rfl | rfl
  · exact ⟨by decide, fitV_of _ _ _ (by decide)⟩
  · exact ⟨by decide, fitV_of _ _ _ (by decide)⟩

set_option maxHeartbeats 2000000 in
theorem known (w : World) (hT : Tb w) (hM : Ml w) : Calls Tryz.prog 9 #[] w fun e w' => e = .returned (.bool true) ∧ K0 w w' := by
  have F1 : Fit v199 := ⟨by decide, by simp⟩
  have F2 : Fit v200 := ⟨by decide, by simp⟩
  refine H.enter Tryz.func9 Tryz.ntmps9 rfl rfl ?_; dsimp only [H.args]
  repeat' (first | (refine CL.seq ?_) | (refine CL.region ?_) | (refine Gt.nil ?_; refine RW.nilw [0, 1, 2, 3, 5, 8, 9, 10] ?_; dsimp only [H.keep, H.look, H.Fr.put, Nat.beq]) | (refine Gt.assign ?_; refine RW.y (Y.assign rfl) rfl ?_))
  refine RW.fn rfl rfl ((parseS [94, 49, 46, 50, 46, 48] (by decide) w hM).mono ?_)
  rintro e w1 ⟨hk1, V1, rfl, hV1⟩
  rw [show spanR (spanB [94, 49, 46, 50, 46, 48]) = (s120, 0) from by kernel_rfl] at hV1 ⊢
  obtain ⟨p1, rfl, ho1, hs1⟩ := spnC hV1.at
  repeat' (first | (refine Gt.move ?_; refine RW.y (Y.move rfl) rfl ?_) | (refine Gt.extract ?_; refine RW.y (Y.extract rfl rfl) rfl ?_))
  refine RW.varN rfl rfl rfl (spnCells ho1) rfl (fun w2 hb2 hk2 hlt2 => ?_)
  repeat' (first | (refine CL.seq ?_) | (refine CL.region ?_) | (refine Gt.nil ?_; refine RW.nilw [0, 1, 2, 3, 5, 8, 9, 10] ?_; dsimp only [H.keep, H.look, H.Fr.put, Nat.beq]) | (refine Gt.assign ?_; refine RW.y (Y.assign rfl) rfl ?_))
  refine RW.fn rfl rfl ((versionOf [49, 46, 57, 46, 57] (by decide) w2).mono ?_)
  rintro e w3 ⟨hk3, V3, rfl, hV3⟩
  rw [show verR (parseV (cutB 45 [49, 46, 57, 46, 57])) = (v199, 0) from by kernel_rfl] at hV3 ⊢
  obtain ⟨p3, rfl, ho3, hs3⟩ := verC hV3
  repeat' (first | (refine Gt.move ?_; refine RW.y (Y.move rfl) rfl ?_) | (refine Gt.extract ?_; refine RW.y (Y.extract rfl rfl) rfl ?_))
  refine RW.varN rfl rfl rfl (verCells ho3) rfl (fun w4 hb4 hk4 hlt4 => ?_)
  repeat' (first | (refine CL.seq ?_) | (refine CL.region ?_) | (refine Gt.nil ?_; refine RW.nilw [0, 1, 2, 3, 5, 8, 9, 10] ?_; dsimp only [H.keep, H.look, H.Fr.put, Nat.beq]) | (refine Gt.assign ?_; refine RW.y (Y.assign rfl) rfl ?_))
  refine RW.fn rfl rfl ((versionOf [50, 46, 48, 46, 48] (by decide) w4).mono ?_)
  rintro e w5 ⟨hk5, V5, rfl, hV5⟩
  rw [show verR (parseV (cutB 45 [50, 46, 48, 46, 48])) = (v200, 0) from by kernel_rfl] at hV5 ⊢
  obtain ⟨p5, rfl, ho5, hs5⟩ := verC hV5
  repeat' (first | (refine Gt.move ?_; refine RW.y (Y.move rfl) rfl ?_) | (refine Gt.extract ?_; refine RW.y (Y.extract rfl rfl) rfl ?_))
  refine RW.varN rfl rfl rfl (verCells ho5) rfl (fun w6 hb6 hk6 hlt6 => ?_)
  have hK6 : K0 w w6 := ((((hk1.trans0 hk2).trans0 hk3).trans0 hk4).trans0 hk5).trans0 hk6
  repeat' (first | (refine CL.seq ?_) | (refine CL.region ?_) | (refine Gt.nil ?_; refine RW.nilw [0, 1, 2, 3, 5, 8, 9, 10] ?_; dsimp only [H.keep, H.look, H.Fr.put, Nat.beq]) | (refine Gt.assign ?_; refine RW.y (Y.assign rfl) rfl ?_))
  refine RW.fn rfl rfl ((parseS [94, 49] (by decide) w6 (hM.keep0 hK6)).mono ?_)
  rintro e w7 ⟨hk7, V7, rfl, hV7⟩
  rw [show spanR (spanB [94, 49]) = (⟨false, []⟩, 61) from by kernel_rfl] at hV7 ⊢
  obtain ⟨p7, rfl, ho7, hs7⟩ := spnC hV7.at
  repeat' (first | (refine Gt.move ?_; refine RW.y (Y.move rfl) rfl ?_) | (refine Gt.extract ?_; refine RW.y (Y.extract rfl rfl) rfl ?_))
  refine RW.varN rfl rfl rfl (spnCells ho7) rfl (fun w8 hb8 hk8 hlt8 => ?_)
  have hk78 := hk7.trans0 hk8
  have hk48 := (hk5.trans0 hk6).trans0 hk78
  have hk28 := (hk3.trans0 hk4).trans0 hk48
  have hS8 := hk28.at0 hb2
  have hA8 := hk48.at0 hb4
  have hB8 := hk78.at0 hb6
  have aS : ∀ {w'}, K0 w8 w' → SpanAt w' (.agg #[.bool s120.any, p1]) s120 := fun h => ⟨p1, rfl, ((hs1.keep0 hk2).keep0 hk28).keep0 h⟩
  have aA : ∀ {w'}, K0 w8 w' → VerAt w' (.agg #[.int .i64 1, .int .i64 9, .int .i64 9, p3]) v199 := fun h => ⟨p3, rfl, ((hs3.keep0 hk4).keep0 hk48).keep0 h⟩
  have aB : ∀ {w'}, K0 w8 w' → VerAt w' (.agg #[.int .i64 2, .int .i64 0, .int .i64 0, p5]) v200 := fun h => ⟨p5, rfl, ((hs5.keep0 hk6).keep0 hk78).keep0 h⟩
  have hK8 : K0 w w8 := hK6.trans0 hk78
  repeat' (first | (refine CL.seq ?_) | (refine CL.region ?_) | (refine Gt.nil ?_; refine RW.nilw [0, 1, 2, 3, 5, 8, 9, 10] ?_; dsimp only [H.keep, H.look, H.Fr.put, Nat.beq]) | (refine Gt.assign ?_; refine RW.y (Y.assign rfl) rfl ?_) | (refine Gt.load ?_; (refine RW.y (Y.loadBlock rfl (by assumption) rfl) rfl ?_)))
  refine RW.buildL (ps := [(0, _), (1, _)]) (l := [_, _]) rfl rfl rfl (by intro v hv; simp at hv; rcases hv with rfl | rfl <;> rfl) rfl rfl (fun w9 hb9 hk9 hlt9 => ?_)
  have hvs : VersAt w9 (.slice (some ⟨w8.heap.size, 0, none⟩) 2 2) [v200, v199] := VersAt.mk (L := [(v200, p5), (v199, p3)]) hb9 (fun x hx => by
    simp at hx
    rcases hx with rfl | rfl
    · exact ((hs5.keep0 hk6).keep0 hk78).keep0 hk9
    · exact ((hs3.keep0 hk4).keep0 hk48).keep0 hk9) (by simp)
  refine RW.fn rfl rfl ((best _ _ s120 [v200, v199] w9 (aS hk9) hvs f120.fits ⟨by decide, fun x hx => by simp at hx; rcases hx with rfl | rfl <;> assumption⟩).mono ?_)
  rintro e w10 ⟨hk10, rfl⟩
  rw [show bestF s120 [v200, v199] [v200, v199].length = 1 from by decide +kernel]
  have hk810 := hk9.trans0 hk10
  have hS10 := hk810.at0 hS8
  have hA10 := hk810.at0 hA8
  have hB10 := hk810.at0 hB8
  repeat' (first | (refine CL.seq ?_) | (refine CL.region ?_) | (refine Gt.nil ?_; refine RW.nilw [0, 1, 2, 3, 5, 8, 9, 10] ?_; dsimp only [H.keep, H.look, H.Fr.put, Nat.beq]) | (refine Gt.move ?_; refine RW.y (Y.move rfl) rfl ?_) | (refine Gt.guard ?_; first | (refine RW.part rfl rfl rfl (fun _ => ?_) (fun _ => ?_) <;> try (exfalso; omega)) | (refine RW.on rfl rfl rfl ?_)) | (refine Gt.extract ?_; refine RW.y (Y.extract rfl rfl) rfl ?_) | (refine Gt.assign ?_; refine RW.y (Y.assign rfl) rfl ?_) | (refine Gt.load ?_; (refine RW.y (Y.loadBlock rfl (by assumption) rfl) rfl ?_)) | (refine Gt.pick ?_; (refine RW.y (Y.pickT rfl rfl) rfl ?_)) | (refine Gt.eql ?_; (refine RW.y (Y.eqi rfl rfl) rfl ?_)))
  refine RW.fn rfl rfl ((has _ _ s120 v199 w10 (aS hk810) (aA hk810) f120.fits F1).mono ?_)
  rintro e w11 ⟨hk11, rfl⟩
  rw [show hasB s120 v199 = true from by decide +kernel]
  have hk811 := hk810.trans0 hk11
  have hS11 := hk11.at0 hS10
  have hB11 := hk11.at0 hB10
  repeat' (first | (refine Gt.move ?_; refine RW.y (Y.move rfl) rfl ?_) | (refine Gt.guard ?_; (refine RW.on rfl rfl rfl ?_)) | (refine Gt.load ?_; (refine RW.y (Y.loadBlock rfl (by assumption) rfl) rfl ?_)) | (refine Gt.pick ?_; (refine RW.y (Y.pickT rfl rfl) rfl ?_)))
  refine RW.fn rfl rfl ((has _ _ s120 v200 w11 (aS hk811) (aB hk811) f120.fits F2).mono ?_)
  rintro e w12 ⟨hk12, rfl⟩
  rw [show hasB s120 v200 = false from by decide +kernel]
  have hS12 := hk12.at0 hS11
  have hk812 := hk811.trans0 hk12
  repeat' (first | (refine Gt.move ?_; refine RW.y (Y.move rfl) rfl ?_) | (refine Gt.guard ?_; (refine RW.on rfl rfl rfl ?_)) | (refine Gt.load ?_; (refine RW.y (Y.loadBlock rfl (by assumption) rfl) rfl ?_)) | (refine Gt.pick ?_; (refine RW.y (Y.pickT rfl rfl) rfl ?_)) | (refine Gt.not ?_; (refine RW.y (Y.notb rfl) rfl ?_)))
  refine RW.fn rfl rfl ((spanText _ s120 w12 (aS hk812) f120 (hT.keep0 (hK8.trans0 hk812))).mono ?_)
  rintro e w13 ⟨hk13, rfl⟩
  rw [show spanT s120 = [62, 61, 49, 46, 50, 46, 48, 32, 60, 50, 46, 48, 46, 48] from by decide +kernel]
  repeat' (first | (refine CL.ret ?_) | (refine Gt.nil ?_; refine RW.nilw [0, 1, 2, 3, 5, 8, 9, 10] ?_; dsimp only [H.keep, H.look, H.Fr.put, Nat.beq]) | (refine RW.y (Y.eqsS rfl rfl) rfl ?_) | (refine Gt.move ?_; refine RW.y (Y.move rfl) rfl ?_) | (refine Gt.guard ?_; first | (refine RW.part rfl rfl rfl (fun _ => ?_) (fun _ => ?_) <;> try (exfalso; omega)) | (refine RW.on rfl rfl rfl ?_)) | (refine Gt.assign ?_; refine RW.y (Y.assign rfl) rfl ?_) | (refine Gt.pick ?_; (refine RW.y (Y.pickT rfl rfl) rfl ?_)) | (refine Gt.eql ?_; (refine RW.y (Y.eqi rfl rfl) rfl ?_)))
  exact FQ.one rfl rfl rfl ⟨rfl, (hK8.trans0 hk812).trans0 hk13⟩

theorem place (k n : Int) (h0 : 0 < n) (h1 : n ≤ 1000000000) (w : World) : Calls Tryz.prog 26 #[.int .i64 k, .int .i64 n] w fun e w' => w = w' ∧ e = .returned (.int .i64 (k % n)) := by
  have hm := Int.emod_nonneg k (show n ≠ 0 from by omega)
  have hm2 := Int.emod_lt_of_pos k h0
  have hr : k.tmod n = k % n ∨ k.tmod n = k % n - n ∧ k % n ≠ 0 := by
    rw [Int.tmod_eq_emod]
    split
    · exact .inl (by omega)
    · rename_i h
      refine .inr ⟨by omega, fun c => h (.inr (Int.dvd_of_emod_eq_zero c))⟩
  have hret : ∀ a b : Int, a = b → Ending.returned (.int .i64 a) = .returned (.int .i64 b) := fun a b h => by rw [h]
  generalize k % n = r at *
  refine H.enter Tryz.func26 Tryz.ntmps26 rfl rfl ?_; dsimp only [H.args]
  repeat' (first | (refine CL.seq ?_) | (refine CL.region ?_) | (refine CL.skip ?_) | (refine CL.condP rfl (fun _ => ?_) (fun _ => ?_) <;> try (exfalso; omega)) | (refine CL.ret ?_) | (refine Gt.nil ?_; refine RW.nilw [0, 1, 4, 9] ?_; dsimp only [H.keep, H.look, H.Fr.put, Nat.beq]) | (refine RW.y (Y.rem rfl rfl (by omega)) rfl ?_) | (refine Gt.move ?_; refine RW.y (Y.move rfl) rfl ?_) | (refine Gt.assign ?_; refine RW.y (Y.assign rfl) rfl ?_) | (refine Gt.lss ?_; refine RW.y (Y.lss rfl rfl) rfl ?_) | (refine Gt.add ?_; refine RW.y (Y.add64 rfl rfl (by omega) (by omega)) rfl ?_))
  · exact FQ.one rfl rfl rfl ⟨rfl, hret _ _ (by omega)⟩
  · exact FQ.one rfl rfl rfl ⟨rfl, hret _ _ (by omega)⟩
end Go.Proofs.YtjfdhafmbcppjaaGreatDoor.Sp

namespace Go.Proofs.YtjfdhafmbcppjaaGreatDoor.Sp
open Go.RowKit H S Ve
attribute [local irreducible] H.CL H.RW H.CW H.Yd H.thenK H.blockQ Go.Calls

theorem light_fitT {s : Spn} (h : lightS s = true) (hi : ∀ m ∈ s.or, ∀ b ∈ m, I64 b.v) : FitT s := by
  simp only [lightS, Bool.and_eq_true, decide_eq_true_eq, List.all_eq_true] at h
  refine ⟨by omega, fun l hl => ⟨by have := (h.2 l hl).1; omega, fun b hb => ?_⟩⟩
  have h2 := (h.2 l hl).2 b hb
  have h3 := h2.2
  simp only [lightB, Bool.and_eq_true, decide_eq_true_eq, List.all_eq_true] at h3
  exact ⟨by omega, ⟨by omega, fun t ht => by have := h3.2 t ht; omega⟩, hi l hl b hb⟩

set_option maxHeartbeats 2000000 in
theorem lawHas (X v : Value) (s : Spn) (l : List Ver) (w : World) (hX : SpanAt w X s) (hi : ∀ m ∈ s.or, ∀ b ∈ m, I64 b.v) (hv : VersAt w v l) (hT : Tb w) (hM : Ml w) : Calls Tryz.prog 4 #[X, v] w fun e w' => e = .returned (.bool true) ∧ K0 w w' := by
  obtain ⟨p, rfl, hp1, hp⟩ := spnC hX
  refine H.enter Tryz.func4 Tryz.ntmps4 rfl rfl ?_; dsimp only [H.args]
  repeat' (first | (refine CL.seq ?_) | (refine CL.region ?_))
  refine RW.box rfl rfl (fun w1 hb1 hk1 hlt1 => ?_)
  have hb1' : w1.heap[w.heap.size]? = some (.cells #[.bool s.any, p] spnT (0, 0)) := hb1
  repeat' (first | (refine CL.seq ?_) | (refine CL.region ?_) | (refine Gt.nil ?_; refine RW.nilw [0, 1, 2, 4, 5, 6, 7, 8, 9, 11, 19, 23, 31, 44] ?_; dsimp only [H.keep, H.look, H.Fr.put, Nat.beq]) | (refine Gt.assign ?_; refine RW.y (Y.assign rfl) rfl ?_))
  refine RW.fn rfl rfl ((known w1 (hT.keep0 hk1) (hM.keep0 hk1)).mono ?_)
  rintro e w2 ⟨rfl, hk2⟩
  have hb2 := hk2.at0 hb1'
  have hK2 := hk1.trans0 hk2
  have aS : ∀ {w'}, K0 w w' → SpanAt w' (.agg #[.bool s.any, p]) s := fun h => ⟨p, rfl, hp.keep0 h⟩
  repeat' (first | (refine CL.seq ?_) | (refine CL.region ?_) | (refine CL.skip ?_) | (refine CL.condF rfl ?_) | (refine Gt.nil ?_; refine RW.nilw [0, 1, 2, 4, 5, 6, 7, 8, 9, 11, 19, 23, 31, 44] ?_; dsimp only [H.keep, H.look, H.Fr.put, Nat.beq]) | (refine Gt.load ?_; (refine RW.y (Y.loadBlock rfl (by assumption) rfl) rfl ?_)) | (refine Gt.not ?_; (refine RW.y (Y.notb rfl) rfl ?_)))
  refine RW.fn rfl rfl ((lightSpan _ s w2 (aS hK2)).mono ?_)
  rintro e w3 ⟨hk3, rfl⟩
  have hb3 := hk3.at0 hb2
  have hK3 := hK2.trans0 hk3
  obtain ⟨L, rfl, hs, hm⟩ := id hv
  cases hls : lightS s
  · repeat' (first | (refine CL.seq ?_) | (refine CL.region ?_) | (refine CL.condT rfl ?_) | (refine CL.ret ?_) | (refine Gt.nil ?_; refine RW.nilw [0, 1, 2, 4, 5, 6, 7, 8, 9, 11, 19, 23, 31, 44] ?_; dsimp only [H.keep, H.look, H.Fr.put, Nat.beq]) | (refine Gt.move ?_; refine RW.y (Y.move rfl) rfl ?_) | (refine Gt.guard ?_; (refine RW.off1 rfl rfl rfl rfl rfl ?_)) | (refine Gt.assign ?_; refine RW.y (Y.assign rfl) rfl ?_) | (refine Gt.not ?_; (refine RW.y (Y.notb rfl) rfl ?_)) | (refine Gt.pick ?_; (refine RW.y (Y.pickT rfl rfl) rfl ?_)))
    exact FQ.one rfl rfl rfl ⟨rfl, hK3⟩
  have fs := light_fitT hls hi
  have hs3 := hs.keep0 hK3
  repeat' (first | (refine CL.seq ?_) | (refine CL.region ?_) | (refine CL.skip ?_) | (refine CL.condP rfl (fun _ => ?_) (fun _ => ?_) <;> try (exfalso; omega)) | (refine CL.block ?_) | (refine CL.ret ?_) | (refine Gt.nil ?_; refine RW.nilw [0, 1, 2, 4, 5, 6, 7, 8, 9, 11, 19, 23, 31, 44] ?_; dsimp only [H.keep, H.look, H.Fr.put, Nat.beq]) | (refine Gt.move ?_; refine RW.y (Y.move rfl) rfl ?_) | (refine Gt.guard ?_; (refine RW.on rfl rfl rfl ?_)) | (refine Gt.assign ?_; refine RW.y (Y.assign rfl) rfl ?_) | (refine Gt.not ?_; (refine RW.y (Y.notb rfl) rfl ?_)) | (refine Gt.pick ?_; (refine RW.y (Y.pickF rfl rfl) rfl ?_)) | (refine Gt.len ?_; (refine RW.y (Y.lenx rfl (by assumption)) rfl ?_)) | (refine Gt.gtr ?_; refine RW.y (Y.gtr rfl rfl) rfl ?_))
  · exact FQ.one rfl rfl rfl ⟨rfl, hK3⟩
  rename_i hlen
  refine CL.loopS [1, 2, 5] (fun m vals wr => ∃ i : Nat, vals = [v, .pointer (some ⟨w.heap.size, 0, none⟩), .int .i64 (i : Int)] ∧ m = L.length - i ∧ i ≤ L.length ∧ (L.take i).all (fun x => lightB x.1) = true ∧ K0 w3 wr) L.length ⟨_, rfl, 0, rfl, rfl, Nat.zero_le _, rfl, Kept.refl _ _⟩ ?_
  rintro m vals wr ⟨i, rfl, rfl, hi', hall, hkr⟩
  dsimp only [List.zip, List.zipWith]
  have hsr := hs3.keep0 hkr
  have hbr := hkr.at0 hb3
  have hKr := hK3.trans0 hkr
  rcases Nat.lt_or_ge i L.length with hlt | hge
  · have hmem : L.getD i default ∈ L := getD_mem default hlt
    have hx := (hm _ hmem).keep0 hKr
    have hV : ∀ {w'}, K0 wr w' → VerAt w' (.agg (verCl (L.getD i default)).toArray) (L.getD i default).1 := fun h => VerAt.mk (hx.keep0 h)
    repeat' (first | (refine CL.seq ?_) | (refine CL.region ?_) | (refine CL.skip ?_) | (refine CL.condP rfl (fun _ => ?_) (fun _ => ?_) <;> try (exfalso; omega)) | (refine CL.block ?_) | (refine Gt.nil ?_; refine RW.nilw [0, 1, 2, 4, 5, 6, 7, 8, 9, 11, 19, 23, 31, 44] ?_; dsimp only [H.keep, H.look, H.Fr.put, Nat.beq]) | (refine Gt.move ?_; refine RW.y (Y.move rfl) rfl ?_) | (refine Gt.idx ?_; (refine RW.elemA rfl rfl rfl rfl (by assumption) (fun _ => by rfl) rfl (by omega) (by omega) (fun _ => ?_))) | (refine Gt.len ?_; (refine RW.y (Y.lenx rfl (by assumption)) rfl ?_)) | (refine Gt.lss ?_; refine RW.y (Y.lss rfl rfl) rfl ?_))
    rw [Int.toNat_natCast]
    refine RW.fn rfl rfl ((lightV _ _ wr (hV (Kept.refl _ _))).mono ?_)
    rintro e w4 ⟨hk4, rfl⟩
    have hs4 := hsr.keep0 hk4
    have hb4 := hk4.at0 hbr
    cases hlb : lightB (L.getD i default).1
    · repeat' (first | (refine CL.seq ?_) | (refine CL.region ?_) | (refine CL.condT rfl ?_) | (refine CL.ret ?_) | (refine Rt.then ?_) | (refine Rt.block ?_) | (refine Gt.nil ?_; refine RW.nilw [0, 1, 2, 4, 5, 6, 7, 8, 9, 11, 19, 23, 31, 44] ?_; dsimp only [H.keep, H.look, H.Fr.put, Nat.beq]) | (refine Gt.assign ?_; refine RW.y (Y.assign rfl) rfl ?_) | (refine Gt.not ?_; (refine RW.y (Y.notb rfl) rfl ?_)))
      exact FQ.one rfl rfl rfl ⟨rfl, hKr.trans0 hk4⟩
    have fx := light_fit hlb
    have hcell : ∀ {w' : World}, K0 w4 w' → ∀ (j : Nat) (u : Value), (verCl (L.getD i default))[j]? = some u → w'.cell? ((Value.spot v ((i : Int).toNat * 4)).add j) = some u := fun h => elCells (hs4.keep0 h) verCl_len hlt
    repeat' (first | (refine CL.seq ?_) | (refine CL.skip ?_) | (refine CL.condF rfl ?_) | (refine Gt.nil ?_; refine RW.nilw [0, 1, 2, 4, 5, 6, 7, 8, 9, 11, 19, 23, 31, 44] ?_; dsimp only [H.keep, H.look, H.Fr.put, Nat.beq]) | (refine Gt.not ?_; (refine RW.y (Y.notb rfl) rfl ?_)))
    refine CL.draw (fun w' => K0 w4 w') (by kernel_rfl) (fun w5 hheap hk5 => ?_)
    have hS : K0 w4 w5 := hk5
    have hk45 := hk4.trans0 hk5
    skip
    refine AW.take 0 rfl (by kernel_rfl) (by kernel_rfl) (by kernel_rfl) rfl (by assumption) (fun w hS => Y.loadBlock rfl (hS.at0 hb4) rfl) ?_
    refine AW.take 1 rfl (by kernel_rfl) (by kernel_rfl) (by kernel_rfl) rfl (by assumption) (fun w hS => Y.move rfl) ?_
    refine AW.take 2 rfl (by kernel_rfl) (by kernel_rfl) (by kernel_rfl) rfl (by assumption) (fun w hS => Y.move rfl) ?_
    refine AW.take 3 rfl (by kernel_rfl) (by kernel_rfl) (by kernel_rfl) rfl (by assumption) (fun w hS => Y.idx rfl rfl (hs4.keep0 hS) (by omega) (by omega)) ?_
    refine AW.take 4 rfl (by kernel_rfl) (by kernel_rfl) (by kernel_rfl) rfl (by assumption) (fun w hS => Y.loadN (cs := verCl (L.getD i default)) rfl rfl (hcell hS)) ?_
    refine AW.take 6 rfl (by kernel_rfl) (by kernel_rfl) (by kernel_rfl) rfl (by assumption) (fun w hS => Y.loadBlock rfl (hS.at0 hb4) rfl) ?_
    refine AW.take 7 rfl (by kernel_rfl) (by kernel_rfl) (by kernel_rfl) rfl (by assumption) (fun w hS => Y.move rfl) ?_
    refine AW.take 8 rfl (by kernel_rfl) (by kernel_rfl) (by kernel_rfl) rfl (by assumption) (fun w hS => Y.move rfl) ?_
    refine AW.take 9 rfl (by kernel_rfl) (by kernel_rfl) (by kernel_rfl) rfl (by assumption) (fun w hS => Y.idx rfl rfl (hs4.keep0 hS) (by omega) (by omega)) ?_
    refine AW.take 10 rfl (by kernel_rfl) (by kernel_rfl) (by kernel_rfl) rfl (by assumption) (fun w hS => Y.loadN (cs := verCl (L.getD i default)) rfl rfl (hcell hS)) ?_
    refine AW.next 5 rfl (by kernel_rfl) ?_
    refine RW.fn rfl rfl ((has _ _ s _ w5 (aS (hKr.trans0 hk45)) (hV hk45) fs.fits fx).mono ?_)
    rintro e w6 ⟨hk6, rfl⟩
    refine RW.nil (Nm.then (rebase0 hS hk6 fun hS => ?_))
    have hk46 := hk45.trans0 hk6
    skip
    refine AW.next 11 rfl (by kernel_rfl) ?_
    refine RW.fn rfl rfl ((refHas _ _ s _ w6 (aS (hKr.trans0 hk46)) (hV hk46) fs.fits fx).mono ?_)
    rintro e w7 ⟨hk7, rfl⟩
    refine RW.nil (Nm.then (rebase0 hS hk7 fun hS => ?_))
    refine AW.take 12 rfl (by kernel_rfl) (by kernel_rfl) (by kernel_rfl) rfl (by assumption) (fun w hS => Y.nebS rfl rfl) ?_
    refine AW.donew [1, 2, 5, 44] (by kernel_rfl) ?_
    dsimp only [H.keep, H.look, H.Fr.put, Nat.beq]
    repeat' (first | (refine CL.region ?_) | (refine CL.skip ?_) | (refine CL.condF rfl ?_) | (refine CL.done ?_) | (refine Nm.block ?_) | (refine Nm.then ?_) | (refine Gt.nil ?_; refine RW.nilw [0, 1, 2, 4, 5, 6, 7, 8, 9, 11, 19, 23, 31, 44] ?_; dsimp only [H.keep, H.look, H.Fr.put, Nat.beq]) | (refine Gt.move ?_; refine RW.y (Y.move rfl) rfl ?_) | (refine Gt.assign ?_; refine RW.y (Y.assign rfl) rfl ?_) | (refine Gt.add ?_; refine RW.y (Y.add64 rfl rfl (by omega) (by omega)) rfl ?_))
    exact ⟨L.length - (i + 1), _, rfl, rfl, rfl, by omega, i + 1, rfl, rfl, by omega, all_step default hlt hall hlb, (hkr.trans0 hk46).trans0 hk7⟩
  · have hi' : i = L.length := by omega
    subst hi'
    rw [List.take_length] at hall
    have fl : (L.map (·.1)).length ≤ 1000000 ∧ ∀ x ∈ L.map (·.1), Fit x := ⟨by rw [List.length_map]; omega, fun x hx => by
      obtain ⟨y, hy, rfl⟩ := List.mem_map.1 hx
      exact light_fit (List.all_eq_true.1 hall y hy)⟩
    repeat' (first | (refine CL.seq ?_) | (refine CL.region ?_) | (refine CL.condP rfl (fun _ => ?_) (fun _ => ?_) <;> try (exfalso; omega)) | (refine CL.exit ?_) | (refine Ex.then ?_) | (refine Ex.hit ?_) | (refine Gt.nil ?_; refine RW.nilw [0, 1, 2, 4, 5, 6, 7, 8, 9, 11, 19, 23, 31, 44] ?_; dsimp only [H.keep, H.look, H.Fr.put, Nat.beq]) | (refine Gt.move ?_; refine RW.y (Y.move rfl) rfl ?_) | (refine Gt.load ?_; (refine RW.y (Y.loadBlock rfl (by assumption) rfl) rfl ?_)) | (refine Gt.len ?_; (refine RW.y (Y.lenx rfl (by assumption)) rfl ?_)) | (refine Gt.lss ?_; refine RW.y (Y.lss rfl rfl) rfl ?_))
    refine RW.fn rfl rfl ((best _ _ s _ wr (aS hKr) (hv.keep0 hKr) fs.fits fl).mono ?_)
    rintro e w4 ⟨hk4, rfl⟩
    have hb4 := hk4.at0 hbr
    repeat' (first | (refine CL.seq ?_) | (refine CL.region ?_) | (refine Gt.nil ?_; refine RW.nilw [0, 1, 2, 4, 5, 6, 7, 8, 9, 11, 19, 23, 31, 44] ?_; dsimp only [H.keep, H.look, H.Fr.put, Nat.beq]) | (refine Gt.move ?_; refine RW.y (Y.move rfl) rfl ?_) | (refine Gt.assign ?_; refine RW.y (Y.assign rfl) rfl ?_) | (refine Gt.load ?_; (refine RW.y (Y.loadBlock rfl (by assumption) rfl) rfl ?_)) | (refine Gt.extract ?_; refine RW.y (Y.extract rfl rfl) rfl ?_))
    refine RW.fn rfl rfl ((refBest _ _ s _ w4 (aS (hKr.trans0 hk4)) (hv.keep0 (hKr.trans0 hk4)) fs.fits fl).mono ?_)
    rintro e w5 ⟨hk5, rfl⟩
    have hb5 := hk5.at0 hb4
    have hK5 := (hKr.trans0 hk4).trans0 hk5
    repeat' (first | (refine CL.seq ?_) | (refine Gt.nil ?_; refine RW.nilw [0, 1, 2, 4, 5, 6, 7, 8, 9, 11, 19, 23, 31, 44] ?_; dsimp only [H.keep, H.look, H.Fr.put, Nat.beq]) | (refine Gt.move ?_; refine RW.y (Y.move rfl) rfl ?_) | (refine Gt.assign ?_; refine RW.y (Y.assign rfl) rfl ?_) | (refine Gt.extract ?_; refine RW.y (Y.extract rfl rfl) rfl ?_))
    refine CL.draw (fun w' => K0 w5 w') (by kernel_rfl) (fun w6 hheap hk6 => ?_)
    have hS : K0 w5 w6 := hk6
    skip
    refine AW.take 0 rfl (by kernel_rfl) (by kernel_rfl) (by kernel_rfl) rfl (by assumption) (fun w hS => Y.move rfl) ?_
    refine AW.take 1 rfl (by kernel_rfl) (by kernel_rfl) (by kernel_rfl) rfl (by assumption) (fun w hS => Y.move rfl) ?_
    refine AW.take 2 rfl (by kernel_rfl) (by kernel_rfl) (by kernel_rfl) rfl (by assumption) (fun w hS => Y.eqiS rfl rfl) ?_
    refine AW.take 3 rfl (by kernel_rfl) (by kernel_rfl) (by kernel_rfl) rfl (by assumption) (fun w hS => Y.move rfl) ?_
    refine AW.takeOn 4 rfl (by kernel_rfl) (by kernel_rfl) (by kernel_rfl) rfl rfl rfl rfl (by assumption) (fun w hS => Y.move rfl) ?_
    refine AW.takeOn 5 rfl (by kernel_rfl) (by kernel_rfl) (by kernel_rfl) rfl rfl rfl rfl (by assumption) (fun w hS => Y.move rfl) ?_
    refine AW.takeOn 6 rfl (by kernel_rfl) (by kernel_rfl) (by kernel_rfl) rfl rfl rfl rfl (by assumption) (fun w hS => Y.eqbS rfl rfl) ?_
    refine AW.take 7 rfl (by kernel_rfl) (by kernel_rfl) (by kernel_rfl) rfl (by assumption) (fun w hS => by exact Y.pickT rfl rfl) ?_
    refine AW.take 8 rfl (by kernel_rfl) (by kernel_rfl) (by kernel_rfl) rfl (by assumption) (fun w hS => Y.move rfl) ?_
    refine AW.takeOn 9 rfl (by kernel_rfl) (by kernel_rfl) (by kernel_rfl) rfl rfl rfl rfl (by assumption) (fun w hS => Y.loadBlock rfl (hS.at0 hb5) rfl) ?_
    refine AW.takeOn 11 rfl (by kernel_rfl) (by kernel_rfl) (by kernel_rfl) rfl rfl rfl rfl (by assumption) (fun w hS => Y.loadBlock rfl (hS.at0 hb5) rfl) ?_
    refine AW.next 10 rfl (by kernel_rfl) ?_
    refine RW.on rfl rfl rfl ?_
    refine RW.fn rfl rfl ((spanText _ s w6 (aS (hK5.trans0 hk6)) fs (hT.keep0 (hK5.trans0 hk6))).mono ?_)
    rintro e w7 ⟨hk7, rfl⟩
    refine RW.nil (Nm.then (rebase0 hS hk7 fun hS => ?_))
    have hK7 := (hK5.trans0 hk6).trans0 hk7
    refine AW.next 12 rfl (by kernel_rfl) ?_
    refine RW.on rfl rfl rfl ?_
    refine RW.fn rfl rfl ((refSpanText _ s w7 (aS hK7) fs).mono ?_)
    rintro e w8 ⟨hk8, rfl⟩
    refine RW.nil (Nm.then (rebase0 hS hk8 fun hS => ?_))
    refine AW.takeOn 13 rfl (by kernel_rfl) (by kernel_rfl) (by kernel_rfl) rfl rfl rfl rfl (by assumption) (fun w hS => Y.eqsS rfl rfl) ?_
    refine AW.take 14 rfl (by kernel_rfl) (by kernel_rfl) (by kernel_rfl) rfl (by assumption) (fun w hS => by exact Y.pickT rfl rfl) ?_
    refine AW.take 15 rfl (by kernel_rfl) (by kernel_rfl) (by kernel_rfl) rfl (by assumption) (fun w hS => Y.assign rfl) ?_
    refine AW.donew [4] (by kernel_rfl) ?_
    dsimp only [H.keep, H.look, H.Fr.put, Nat.beq]
    repeat' ((refine CL.ret ?_))
    exact FQ.one rfl rfl rfl ⟨rfl, hK7.trans0 hk8⟩
end Go.Proofs.YtjfdhafmbcppjaaGreatDoor.Sp

namespace Go.Proofs.YtjfdhafmbcppjaaGreatDoor.Ve
open Go.RowKit H S

theorem splitC_app (c : UInt8) (y : T) : ∀ (x : T), splitB c (x ++ c :: y) = splitB c x ++ splitB c y
  | [] => by simp [splitB]
  | a :: r => by
    have ih := splitC_app c y r
    have hne := splitB_ne c r
    by_cases h : a = c
    · simp [splitB, h, ih]
    · simp only [List.cons_append, splitB, if_neg h, ih]
      cases hr : splitB c r with
      | nil => exact absurd hr hne
      | cons a b => simp
theorem splitC_none (c : UInt8) : ∀ (y : T), c ∉ y → splitB c y = [y]
  | [], _ => rfl
  | a :: r, h => by
    have ha : ¬ a = c := fun q => h (by simp [q])
    rw [splitB, if_neg ha, splitC_none c r (fun q => h (by simp [q]))]; rfl
theorem ofNat_toNat {k : Nat} (h : k < 10) : (UInt8.ofNat (48 + k)).toNat = 48 + k := by
  simp; omega
theorem dec_spec : ∀ (m u : Nat), u ≤ m → (Go.Lib.decDigits u).all isDig = true ∧ Go.Lib.decDigits u ≠ [] ∧ val (Go.Lib.decDigits u) = u ∧ (u ≠ 0 → (Go.Lib.decDigits u).getD 0 0 ≠ 48) := by
  have one : ∀ u, u < 10 → ([UInt8.ofNat (48 + u)] : T).all isDig = true ∧ ([UInt8.ofNat (48 + u)] : T) ≠ [] ∧ val [UInt8.ofNat (48 + u)] = u ∧ (u ≠ 0 → ([UInt8.ofNat (48 + u)] : T).getD 0 0 ≠ 48) := by
    intro u h
    have e := ofNat_toNat h
    refine ⟨?_, by simp, by simp only [val, List.foldl_cons, List.foldl_nil]; omega, fun h0 c => ?_⟩
    · simp only [List.all_cons, List.all_nil, Bool.and_true, isDig, Bool.and_eq_true, decide_eq_true_eq]; omega
    · have c' : UInt8.ofNat (48 + u) = 48 := c
      rw [c'] at e
      have : (48 : UInt8).toNat = 48 := rfl
      omega
  intro m
  induction m with
  | zero => intro u h; rw [Go.Lib.decDigits, dif_pos (by omega)]; exact one u (by omega)
  | succ m ih =>
    intro u h
    rw [Go.Lib.decDigits]
    by_cases h10 : u < 10
    · rw [dif_pos h10]; exact one u h10
    · rw [dif_neg h10]
      obtain ⟨i1, i2, i3, i4⟩ := ih (u / 10) (by omega)
      obtain ⟨o1, o2, o3, _⟩ := one (u % 10) (by omega)
      have e := ofNat_toNat (show u % 10 < 10 by omega)
      refine ⟨by rw [List.all_append, i1, o1]; rfl, by simp, by rw [val_snoc, i3]; omega, fun _ => ?_⟩
      have := i4 (by omega)
      cases hd : Go.Lib.decDigits (u / 10) with
      | nil => exact absurd hd i2
      | cons c r => rw [hd] at this; exact this
theorem decI_num (x : Int) (h0 : 0 ≤ x) (h1 : x ≤ 999999999) : numB (decI x) = true ∧ (val (decI x) : Int) = x := by
  have hs : (decI x).all isDig = true ∧ decI x ≠ [] ∧ val (decI x) = x.toNat ∧ (x.toNat ≠ 0 → (decI x).getD 0 0 ≠ 48) := dec_spec x.toNat x.toNat (Nat.le_refl _)
  obtain ⟨s1, s2, s3, s4⟩ := hs
  have e9 : (10 : Nat) ^ 9 = 1000000000 := by decide
  have hl : (decI x).length ≤ 9 := dec_len 8 x.toNat (by omega)
  have hz : x.toNat = 0 → (decI x).length = 1 := fun h => by rw [decI, h, Go.Lib.decDigits, dif_pos (by decide)]; rfl
  refine ⟨?_, by rw [s3]; omega⟩
  simp only [numB, digB, plainB, Bool.and_eq_true, Bool.or_eq_true, decide_eq_true_eq]
  refine ⟨⟨⟨s2, s1⟩, hl⟩, ?_⟩
  by_cases hz0 : x.toNat = 0
  · exact .inl (hz hz0)
  · exact .inr (s4 hz0)
theorem decI_no (x : Int) (c : UInt8) (hc : isDig c = false) : c ∉ decI x := by
  intro h
  have := List.all_eq_true.1 (dec_spec x.toNat x.toNat (Nat.le_refl _)).1 c h
  rw [hc] at this; cases this

def numT (x y z : Int) : T := decI x ++ [46] ++ decI y ++ [46] ++ decI z
theorem numT_split (p : T) (x y z : Int) (hp : (46 : UInt8) ∉ p) : splitB 46 (p ++ numT x y z) = [p ++ decI x, decI y, decI z] := by
  have n1 := decI_no x 46 (by decide)
  have n2 := decI_no y 46 (by decide)
  have n3 := decI_no z 46 (by decide)
  have e : p ++ numT x y z = (p ++ decI x) ++ 46 :: (decI y ++ 46 :: decI z) := by simp [numT]
  rw [e, splitC_app, splitC_app, splitC_none 46 _ n2, splitC_none 46 _ n3, splitC_none 46 (p ++ decI x) (by simp [hp, n1])]
  rfl
theorem numT_cut (p : T) (x y z : Int) (hp : (45 : UInt8) ∉ p) : cutB 45 (p ++ numT x y z) = (p ++ numT x y z, [], false) := by
  have n1 := decI_no x 45 (by decide)
  have n2 := decI_no y 45 (by decide)
  have n3 := decI_no z 45 (by decide)
  exact cut_none 45 _ (by simp [numT, hp, n1, n2, n3])
theorem numT_parse (x y z : Int) (hx : 0 ≤ x ∧ x ≤ 999999999) (hy : 0 ≤ y ∧ y ≤ 999999999) (hz : 0 ≤ z ∧ z ≤ 999999999) : parseV (cutB 45 (numT x y z)) = some ⟨x, y, z, []⟩ := by
  have hc := numT_cut [] x y z (by simp)
  have hs := numT_split [] x y z (by simp)
  rw [List.nil_append] at hc hs
  obtain ⟨a1, a2⟩ := decI_num x hx.1 hx.2
  obtain ⟨b1, b2⟩ := decI_num y hy.1 hy.2
  obtain ⟨c1, c2⟩ := decI_num z hz.1 hz.2
  rw [hc, parseV]
  simp only [hs, List.nil_append, parseL]
  rw [if_pos (by rw [a1, b1, c1]; rfl), if_neg (by decide), a2, b2, c2]
theorem numT_text (x y z : Int) : textV ⟨x, y, z, []⟩ = numT x y z := by simp [textV, numT]
end Go.Proofs.YtjfdhafmbcppjaaGreatDoor.Ve

namespace Go.Proofs.YtjfdhafmbcppjaaGreatDoor.Sp
open H S Ve

/-- Texts of a version hold no space and no bar. -/
theorem mem_glueC (c x : UInt8) : ∀ (l : List T), x ≠ c → (∀ s ∈ l, x ∉ s) → x ∉ glueC c l
  | [], _, _ => by simp [glueC]
  | [a], _, h => by simpa [glueC] using h a (by simp)
  | a :: b :: r, hc, h => by
    have h1 := h a (by simp)
    have h2 := mem_glueC c x (b :: r) hc fun s hs => h s (by simp only [List.mem_cons] at hs ⊢; exact .inr hs)
    simp only [glueC, List.mem_append, List.mem_cons, not_or] at h2 ⊢
    exact ⟨h1, hc, h2⟩
theorem textV_no (v : Ver) (x : UInt8) (h1 : isDig x = false) (h2 : x ≠ 46) (h3 : x ≠ 45) (hp : ∀ s ∈ v.pre, x ∉ s) : x ∉ textV v := by
  have n1 := decI_no v.a x h1
  have n2 := decI_no v.b x h1
  have n3 := decI_no v.c x h1
  rw [textV]
  have hg := mem_glueC 46 x v.pre h2 hp
  split <;> simp [n1, n2, n3, h2, h3, hg]
theorem markB_no {s : T} (h : markB s = true) {x : UInt8} (hx : isSign x = false) : x ∉ s := by
  rw [mark_iff] at h
  intro hm
  have := List.all_eq_true.1 h.2 x hm
  rw [hx] at this; cases this
theorem textV_ne (v : Ver) : textV v ≠ [] := by
  rw [textV]
  intro h
  have := congrArg List.length h
  simp at this
/-- A version that is read as it is told. -/
def Good (v : Ver) : Prop := parseV (cutB 45 (textV v)) = some v
theorem Good.of {s : T} {v : Ver} (h : parseV (cutB 45 s) = some v) : Good v := by rw [Good, parse_text h]; exact h
theorem Good.num (x y z : Int) (hx : 0 ≤ x ∧ x ≤ 999999999) (hy : 0 ≤ y ∧ y ≤ 999999999) (hz : 0 ≤ z ∧ z ≤ 999999999) : Good ⟨x, y, z, []⟩ := by
  rw [Good, numT_text]; exact numT_parse x y z hx hy hz
theorem Good.no {v : Ver} (h : Good v) {x : UInt8} (h1 : isSign x = false) (h2 : x ≠ 46) : x ∉ textV v := by
  have hp := parse_parts h
  have hd : isDig x = false := by
    cases hh : isDig x with
    | false => rfl
    | true =>
      have : isSign x = true := by simp only [isSign, hh, Bool.true_or]
      rw [this] at h1; cases h1
  refine textV_no v x hd h2 (fun c => by subst c; revert h1; decide) fun s hs => markB_no (List.all_eq_true.1 hp.2.1 s hs) h1
theorem Good.head {v : Ver} : ∃ c r, textV v = c :: r ∧ isDig c = true := by
  obtain ⟨h1, h2, _⟩ := dec_spec v.a.toNat v.a.toNat (Nat.le_refl _)
  cases hd : decI v.a with
  | nil => exact absurd hd h2
  | cons c r =>
    refine ⟨c, r ++ [46] ++ decI v.b ++ [46] ++ decI v.c ++ (if v.pre = [] then [] else 45 :: glueC 46 v.pre), by rw [textV, hd]; simp, ?_⟩
    exact List.all_eq_true.1 h1 c (by rw [show Go.Lib.decDigits v.a.toNat = decI v.a from rfl, hd]; simp)

def signsB : List T := [[], [61], [60], [60, 61], [62], [62, 61], [94], [126]]
theorem signOf_word {g : T} (hg : g ∈ signsB) {c : UInt8} {r : T} (hc : isDig c = true) : signOf (g ++ c :: r) = g := by
  have hn : c ≠ 61 ∧ c ≠ 60 ∧ c ≠ 62 ∧ c ≠ 94 ∧ c ≠ 126 := by
    refine ⟨?_, ?_, ?_, ?_, ?_⟩ <;> (rintro rfl; revert hc; decide)
  obtain ⟨n1, n2, n3, n4, n5⟩ := hn
  simp only [signsB, List.mem_cons, List.not_mem_nil, or_false] at hg
  rcases hg with rfl | rfl | rfl | rfl | rfl | rfl | rfl | rfl <;> simp [signOf, n1, n2, n3, n4, n5]
/-- A word read. -/
theorem bounds_word {g : T} (hg : g ∈ signsB) {v : Ver} (hv : Good v) : boundsB (g ++ textV v) = some (expand g v) := by
  obtain ⟨c, r, h1, h2⟩ := Good.head (v := v)
  have hs : signOf (g ++ textV v) = g := by rw [h1]; exact signOf_word hg h2
  rw [boundsB, hs, List.drop_left, show parseV (cutB 45 (textV v)) = some v from hv]
  rfl
theorem word_no {g : T} (hg : g ∈ signsB) {v : Ver} (hv : Good v) : (32 : UInt8) ∉ g ++ textV v ∧ (124 : UInt8) ∉ g ++ textV v ∧ g ++ textV v ≠ [] ∧ (42 : UInt8) ∉ g ++ textV v := by
  have h1 := hv.no (x := 32) (by decide) (by decide)
  have h2 := hv.no (x := 124) (by decide) (by decide)
  have h4 := hv.no (x := 42) (by decide) (by decide)
  have h3 : g ++ textV v ≠ [] := fun h => textV_ne v (List.append_eq_nil_iff.1 h).2
  simp only [signsB, List.mem_cons, List.not_mem_nil, or_false] at hg
  rcases hg with rfl | rfl | rfl | rfl | rfl | rfl | rfl | rfl <;> simp_all

/-- Words with one space between. -/
theorem words_join : ∀ (l : List T), (∀ x ∈ l, (32 : UInt8) ∉ x ∧ x ≠ []) → ∀ n, wordsB (Go.Lib.join l [32] ++ List.replicate n 32) = l
  | [], _, n => by
    rw [Go.Lib.join_nil, List.nil_append]
    induction n with
    | zero => rfl
    | succ n ih => rw [List.replicate_succ, wordsB_sp, ih]
  | [a], h, n => by
    have ha := h a (by simp)
    rw [Go.Lib.join_one]
    cases n with
    | zero => rw [List.replicate_zero, List.append_nil]; exact wordsB_last a ha.1 ha.2
    | succ n =>
      rw [List.replicate_succ, wordsB_word a _ ha.1 ha.2]
      have := words_join [] (by simp) n
      rw [Go.Lib.join_nil, List.nil_append] at this
      rw [this]
  | a :: b :: r, h, n => by
    have ha := h a (by simp)
    have ih := words_join (b :: r) (fun x hx => h x (List.mem_cons_of_mem _ hx)) n
    have e : Go.Lib.join (a :: b :: r) [32] = a ++ 32 :: Go.Lib.join (b :: r) [32] := by
      rw [Go.Lib.join_cons, Go.Lib.join_cons]; simp [Go.Lib.joinTail]
    rw [e, List.append_assoc, List.cons_append, wordsB_word a _ ha.1 ha.2, ih]
theorem words_lead (s : T) (n : Nat) : wordsB (List.replicate n 32 ++ s) = wordsB s := by
  induction n with
  | zero => rfl
  | succ n ih => rw [List.replicate_succ, List.cons_append, wordsB_sp, ih]
/-- What holds no bar is one list; behind it two bars and more. -/
theorem orB_one {s : T} (h : (124 : UInt8) ∉ s) : orB s = [s] := by
  refine orB_none s fun j _ c => h ?_
  have : (124 : UInt8) ∈ (s.drop j).take 2 := by rw [c]; simp
  exact List.mem_of_mem_drop (List.mem_of_mem_take this)
theorem orB_more {s : T} (h : (124 : UInt8) ∉ s) (r : T) : orB (s ++ 124 :: 124 :: r) = s :: orB r := by
  have hd : ∀ j, j ≤ s.length → (s ++ 124 :: 124 :: r).drop j = s.drop j ++ 124 :: 124 :: r := fun j hj => List.drop_append_of_le_length hj
  rw [orB_first s.length (s ++ 124 :: 124 :: r) (by simp) (fun j hj c => ?_) (by rw [hd _ (Nat.le_refl _), List.drop_length]; rfl)]
  · rw [List.take_left]
    congr 2
    rw [show s.length + 2 = s.length + 2 from rfl, ← List.drop_drop, List.drop_left]; rfl
  · rw [hd j (by omega)] at c
    cases hs : s.drop j with
    | nil => have := congrArg List.length hs; simp at this; omega
    | cons a m =>
      rw [hs] at c
      have ha : a = 124 := by simp at c; exact c.1
      exact h (List.mem_of_mem_drop (i := j) (by rw [hs, ha]; simp))

/-- Words read, each as its bounds. -/
theorem rdW_all : ∀ (l : List T) (f : T → List Bd) (acc : List Bd), (∀ x ∈ l, boundsB x = some (f x)) → rdW l acc = some (acc ++ l.flatMap f)
  | [], _, acc, _ => by simp [rdW]
  | x :: r, f, acc, h => by
    rw [rdW, h x (by simp)]
    simp only
    rw [rdW_all r f _ fun y hy => h y (List.mem_cons_of_mem _ hy)]
    simp
end Go.Proofs.YtjfdhafmbcppjaaGreatDoor.Sp

namespace Go.Proofs.YtjfdhafmbcppjaaGreatDoor.Sp
open H S Ve

/-- A word: its sign, its version. -/
abbrev Wd := T × Ver
def wdT (w : Wd) : T := w.1 ++ textV w.2
def wdE (w : Wd) : List Bd := expand w.1 w.2
def OkW (w : Wd) : Prop := w.1 ∈ signsB ∧ Good w.2
def lineT (l : List Wd) : T := Go.Lib.join (l.map wdT) [32]
theorem line_words {l : List Wd} (h : ∀ w ∈ l, OkW w) (m n : Nat) : wordsB (List.replicate m 32 ++ (lineT l ++ List.replicate n 32)) = l.map wdT := by
  rw [words_lead]
  exact words_join _ (fun x hx => by
    obtain ⟨w, hw, rfl⟩ := List.mem_map.1 hx
    have := word_no (h w hw).1 (h w hw).2
    exact ⟨this.1, this.2.2.1⟩) n
theorem line_rd : ∀ (l : List Wd) (acc : List Bd), (∀ w ∈ l, OkW w) → rdW (l.map wdT) acc = some (acc ++ l.flatMap wdE)
  | [], acc, _ => by simp [rdW]
  | w :: r, acc, h => by
    have hw := h w (by simp)
    rw [List.map_cons, rdW, show boundsB (wdT w) = some (wdE w) from bounds_word hw.1 hw.2]
    simp only
    rw [line_rd r _ fun y hy => h y (List.mem_cons_of_mem _ hy)]
    simp
theorem line_list {l : List Wd} (h : ∀ w ∈ l, OkW w) (m n : Nat) : listB (List.replicate m 32 ++ (lineT l ++ List.replicate n 32)) = if 1 ≤ l.length ∧ l.length ≤ 8 then some (l.flatMap wdE) else none := by
  rw [listB, line_words h, List.length_map, line_rd l [] h, List.nil_append]
theorem mem_join (c : UInt8) (sep : T) : ∀ (l : List T), c ∈ Go.Lib.join l sep → c ∈ sep ∨ ∃ x ∈ l, c ∈ x
  | [], h => by simp [Go.Lib.join_nil] at h
  | a :: r, h => by
    rw [Go.Lib.join_cons, List.mem_append] at h
    rcases h with h | h
    · exact .inr ⟨a, by simp, h⟩
    · simp only [Go.Lib.joinTail, List.mem_flatten, List.mem_map] at h
      obtain ⟨_, ⟨x, hx, rfl⟩, h⟩ := h
      rcases List.mem_append.1 h with h | h
      · exact .inl h
      · exact .inr ⟨x, by simp [hx], h⟩
theorem line_no {l : List Wd} (h : ∀ w ∈ l, OkW w) (m n : Nat) : (124 : UInt8) ∉ List.replicate m 32 ++ (lineT l ++ List.replicate n 32) ∧ (42 : UInt8) ∉ List.replicate m 32 ++ (lineT l ++ List.replicate n 32) := by
  have key : ∀ c : UInt8, c ≠ 32 → (∀ w ∈ l, c ∉ wdT w) → c ∉ List.replicate m 32 ++ (lineT l ++ List.replicate n 32) := by
    intro c hc hw hm
    simp only [List.mem_append, List.mem_replicate] at hm
    rcases hm with hm | hm | hm
    · exact hc hm.2
    · rcases mem_join c [32] _ hm with h1 | ⟨x, hx, h1⟩
      · simp at h1; exact hc h1
      · obtain ⟨w, hw', rfl⟩ := List.mem_map.1 hx
        exact hw w hw' h1
    · exact hc hm.2
  exact ⟨key 124 (by decide) fun w hw => (word_no (h w hw).1 (h w hw).2).2.1, key 42 (by decide) fun w hw => (word_no (h w hw).1 (h w hw).2).2.2.2⟩
theorem mem_glue {c x : UInt8} : ∀ {l : List T} {s : T}, s ∈ l → x ∈ s → x ∈ glueC c l
  | [a], s, h, hx => by rw [List.mem_singleton] at h; subst h; exact hx
  | a :: b :: r, s, h, hx => by
    rw [glueC, List.mem_append]
    rcases List.mem_cons.1 h with rfl | h
    · exact .inl hx
    · exact .inr (List.mem_cons_of_mem _ (mem_glue h hx))
theorem not_star {s : T} (h : (42 : UInt8) ∉ s) : wordsB s ≠ [[42]] := by
  intro e
  have : ([42] : T) ∈ splitB 32 s := by
    have h1 : ([42] : T) ∈ wordsB s := by rw [e]; simp
    rw [wordsB, List.mem_filter] at h1
    exact h1.1
  have h2 := mem_glue (c := 32) this (show (42 : UInt8) ∈ ([42] : T) by simp)
  rw [glueC_split] at h2
  exact h h2
/-- One line, spaces about. -/
theorem span_line {l : List Wd} (h : ∀ w ∈ l, OkW w) (m n : Nat) (h1 : 1 ≤ l.length) (h8 : l.length ≤ 8) : spanB (List.replicate m 32 ++ (lineT l ++ List.replicate n 32)) = some ⟨false, [l.flatMap wdE]⟩ := by
  obtain ⟨h124, h42⟩ := line_no h m n
  rw [spanB, if_neg (not_star h42), orB_one h124, if_pos (by simp), rdL, line_list h, if_pos ⟨h1, h8⟩]
  rfl
/-- Two lines, with two bars between, spaces about. -/
theorem span_two {l k : List Wd} (h : ∀ w ∈ l, OkW w) (g : ∀ w ∈ k, OkW w) (m n p q : Nat) (h1 : 1 ≤ l.length) (h8 : l.length ≤ 8) (g1 : 1 ≤ k.length) (g8 : k.length ≤ 8) :
    spanB ((List.replicate m 32 ++ (lineT l ++ List.replicate n 32)) ++ 124 :: 124 :: (List.replicate p 32 ++ (lineT k ++ List.replicate q 32))) = some ⟨false, [l.flatMap wdE, k.flatMap wdE]⟩ := by
  obtain ⟨h124, h42⟩ := line_no h m n
  obtain ⟨g124, g42⟩ := line_no g p q
  have hs : (42 : UInt8) ∉ (List.replicate m 32 ++ (lineT l ++ List.replicate n 32)) ++ 124 :: 124 :: (List.replicate p 32 ++ (lineT k ++ List.replicate q 32)) := by
    rw [List.mem_append, List.mem_cons, List.mem_cons]
    rintro (c | c | c | c)
    · exact h42 c
    · revert c; decide
    · revert c; decide
    · exact g42 c
  rw [spanB, if_neg (not_star hs), orB_more h124, orB_one g124, if_pos (by simp), rdL, line_list h, if_pos ⟨h1, h8⟩]
  simp only
  rw [rdL, line_list g, if_pos ⟨g1, g8⟩]
  rfl

/-! What is read. -/
def OkB (b : Bd) : Prop := (b.sign = [61] ∨ b.sign = [60] ∨ b.sign = [60, 61] ∨ b.sign = [62] ∨ b.sign = [62, 61]) ∧ Good b.v
theorem sign_of (w : T) : signOf w ∈ signsB := by
  rw [signOf]
  split
  · rename_i h; rcases h with h | h <;> rw [h] <;> decide
  · split
    · rename_i h; rcases h with h | h | h | h | h <;> rw [h] <;> decide
    · decide
theorem good_next {v : Ver} (h : Good v) (n : Int) : Good (nextV v n) := by
  have hp := parse_parts h
  have key : ∃ x y z : Int, nextV v n = ⟨x, y, z, []⟩ ∧ (0 ≤ x ∧ x ≤ 999999999) ∧ (0 ≤ y ∧ y ≤ 999999999) ∧ (0 ≤ z ∧ z ≤ 999999999) := by
    unfold nextV
    repeat' split
    all_goals refine ⟨_, _, _, rfl, ?_, ?_, ?_⟩ <;> omega
  obtain ⟨x, y, z, e, hx, hy, hz⟩ := key
  rw [e]; exact Good.num x y z hx hy hz
theorem ok_expand {g : T} (hg : g ∈ signsB) {v : Ver} (hv : Good v) : ∀ b ∈ expand g v, OkB b := by
  intro b hb
  rw [expand] at hb
  split at hb
  · rw [List.mem_singleton] at hb; subst hb; exact ⟨.inl rfl, hv⟩
  · rename_i h0
    split at hb
    · simp only [List.mem_cons, List.not_mem_nil, or_false] at hb
      rcases hb with rfl | rfl
      · exact ⟨.inr (.inr (.inr (.inr rfl))), hv⟩
      · exact ⟨.inr (.inl rfl), good_next hv _⟩
    · rename_i h1
      split at hb
      · simp only [List.mem_cons, List.not_mem_nil, or_false] at hb
        rcases hb with rfl | rfl
        · exact ⟨.inr (.inr (.inr (.inr rfl))), hv⟩
        · exact ⟨.inr (.inl rfl), good_next hv _⟩
      · rename_i h2
        rw [List.mem_singleton] at hb; subst hb
        refine ⟨?_, hv⟩
        simp only [signsB, List.mem_cons, List.not_mem_nil, or_false] at hg
        rcases hg with rfl | rfl | rfl | rfl | rfl | rfl | rfl | rfl <;> simp_all
theorem ok_bounds {x : T} {l : List Bd} (h : boundsB x = some l) : ∀ b ∈ l, OkB b := by
  rw [boundsB, Option.map_eq_some_iff] at h
  obtain ⟨v, hv, rfl⟩ := h
  exact ok_expand (sign_of x) (Good.of hv)
theorem ok_rdW : ∀ (l : List T) (acc r : List Bd), rdW l acc = some r → (∀ b ∈ acc, OkB b) → (∀ b ∈ r, OkB b) ∧ r.length ≤ acc.length + 2 * l.length
  | [], acc, r, h, ha => by simp only [rdW, Option.some.injEq] at h; subst h; exact ⟨ha, by omega⟩
  | x :: m, acc, r, h, ha => by
    rw [rdW] at h
    cases hb : boundsB x with
    | none => rw [hb] at h; cases h
    | some b =>
      rw [hb] at h
      have hl := bounds_len hb
      have := ok_rdW m _ r h fun y hy => (List.mem_append.1 hy).elim (ha y) (ok_bounds hb y)
      exact ⟨this.1, by have := this.2; rw [List.length_append] at this; rw [List.length_cons]; omega⟩
theorem ok_list {x : T} {l : List Bd} (h : listB x = some l) : (∀ b ∈ l, OkB b) ∧ l.length ≤ 16 := by
  rw [listB] at h
  split at h
  · rename_i hl
    have := ok_rdW _ _ _ h (by simp)
    exact ⟨this.1, by have := this.2; simp only [List.length_nil] at this; omega⟩
  · cases h
theorem ok_rdL : ∀ (l : List T) (acc r : List (List Bd)), rdL l acc = some r → (∀ m ∈ acc, (∀ b ∈ m, OkB b) ∧ m.length ≤ 16) → (∀ m ∈ r, (∀ b ∈ m, OkB b) ∧ m.length ≤ 16) ∧ r.length = acc.length + l.length
  | [], acc, r, h, ha => by simp only [rdL, Option.some.injEq] at h; subst h; exact ⟨ha, rfl⟩
  | x :: m, acc, r, h, ha => by
    rw [rdL] at h
    cases hb : listB x with
    | none => rw [hb] at h; cases h
    | some b =>
      rw [hb] at h
      have := ok_rdL m _ r h fun y hy => (List.mem_append.1 hy).elim (ha y) fun c => by rw [List.mem_singleton.1 c]; exact ok_list hb
      exact ⟨this.1, by have := this.2; rw [List.length_append, List.length_singleton] at this; rw [List.length_cons]; omega⟩
/-- What a span that is read is. -/
theorem span_read {s : T} {a : Spn} (h : spanB s = some a) : a = ⟨true, []⟩ ∨ a.any = false ∧ a.or.length ≤ 8 ∧ ∀ m ∈ a.or, (∀ b ∈ m, OkB b) ∧ m.length ≤ 16 := by
  rw [spanB] at h
  split at h
  · rw [Option.some.injEq] at h; exact .inl h.symm
  · split at h
    · rename_i h8
      rw [Option.map_eq_some_iff] at h
      obtain ⟨r, hr, rfl⟩ := h
      have := ok_rdL _ _ _ hr (by simp)
      refine .inr ⟨rfl, by have := this.2; simp only [List.length_nil] at this; simp only; omega, this.1⟩
    · cases h
theorem ok_fit {b : Bd} (h : OkB b) : b.sign.length ≤ 10 ∧ FitV b.v := by
  have hp := parse_parts h.2
  refine ⟨by rcases h.1 with e | e | e | e | e <;> rw [e] <;> decide, ⟨by omega, fun t ht => ?_⟩, ?_⟩
  · have := (mark_len (List.all_eq_true.1 hp.2.1 t ht)).2; omega
  · simp only [I64]; omega
theorem read_fit (s : T) : FitT (spanR (spanB s)).1 := by
  cases h : spanB s with
  | none => exact ⟨by simp [spanR], by simp [spanR]⟩
  | some a =>
    rcases span_read h with rfl | ⟨h1, h2, h3⟩
    · exact ⟨by simp [spanR], by simp [spanR]⟩
    · exact ⟨by simp only [spanR]; omega, fun l hl => ⟨by have := (h3 l hl).2; omega, fun b hb => ok_fit ((h3 l hl).1 b hb)⟩⟩
/-- A bound as a word. -/
def bdW (b : Bd) : Wd := (if b.sign = [61] then [] else b.sign, b.v)
theorem bdW_ok {b : Bd} (h : OkB b) : OkW (bdW b) ∧ wdT (bdW b) = bdT b ∧ wdE (bdW b) = [b] := by
  obtain ⟨g, v⟩ := b
  obtain ⟨h1, h2⟩ := h
  simp only at h1 h2
  refine ⟨⟨?_, h2⟩, rfl, ?_⟩
  · rcases h1 with rfl | rfl | rfl | rfl | rfl <;> simp [bdW, signsB]
  · rcases h1 with rfl | rfl | rfl | rfl | rfl <;> rfl
theorem listT_line {l : List Bd} (h : ∀ b ∈ l, OkB b) : listT l = lineT (l.map bdW) ∧ (l.map bdW).flatMap wdE = l ∧ ∀ w ∈ l.map bdW, OkW w := by
  refine ⟨?_, ?_, fun w hw => ?_⟩
  · rw [listT, lineT, List.map_map]
    rfl
  · induction l with
    | nil => rfl
    | cons b r ih => rw [List.map_cons, List.flatMap_cons, (bdW_ok (h b (by simp))).2.2, ih fun x hx => h x (List.mem_cons_of_mem _ hx)]; rfl
  · obtain ⟨b, hb, rfl⟩ := List.mem_map.1 hw
    exact (bdW_ok (h b hb)).1
theorem told_rdL : ∀ (L : List (List Bd)), (∀ m ∈ L, ∀ b ∈ m, OkB b) → L ≠ [] → ∀ (k : Nat) (acc : List (List Bd)), rdL (orB (List.replicate k 32 ++ Go.Lib.join (L.map listT) [32, 124, 124, 32])) acc = some (acc ++ L) ∨ rdL (orB (List.replicate k 32 ++ Go.Lib.join (L.map listT) [32, 124, 124, 32])) acc = none
  | [l], h, _, k, acc => by
    obtain ⟨h1, h2, h3⟩ := listT_line (h l (by simp))
    have hn := line_no h3 k 0
    rw [List.replicate_zero, List.append_nil] at hn
    have hl := line_list h3 k 0
    rw [List.replicate_zero, List.append_nil, h2] at hl
    rw [List.map_singleton, Go.Lib.join_one, h1, orB_one hn.1, rdL, hl]
    split
    · exact .inr rfl
    · rename_i b hb
      split at hb
      · cases hb; exact .inl rfl
      · cases hb
  | l :: m :: r, h, _, k, acc => by
    obtain ⟨h1, h2, h3⟩ := listT_line (h l (by simp))
    have hn := line_no h3 k 1
    have hl := line_list h3 k 1
    rw [h2] at hl
    have ih := told_rdL (m :: r) (fun x hx => h x (List.mem_cons_of_mem _ hx)) (by simp) 1
    have e : List.replicate k 32 ++ Go.Lib.join ((l :: m :: r).map listT) [32, 124, 124, 32] = (List.replicate k 32 ++ (lineT (l.map bdW) ++ List.replicate 1 32)) ++ 124 :: 124 :: (List.replicate 1 32 ++ Go.Lib.join ((m :: r).map listT) [32, 124, 124, 32]) := by
      rw [List.map_cons, List.map_cons, Go.Lib.join_cons, h1, Go.Lib.join_cons]
      simp [Go.Lib.joinTail]
    rw [e, orB_more hn.1, rdL, hl]
    split
    · exact .inr rfl
    · rename_i b hb
      split at hb
      · cases hb
        rcases ih (acc ++ [l]) with h5 | h5
        · exact .inl (by rw [h5]; simp)
        · exact .inr h5
      · cases hb
theorem spanT_no {a : Spn} (h0 : a.any = false) (h : ∀ m ∈ a.or, ∀ b ∈ m, OkB b) : (42 : UInt8) ∉ spanT a := by
  rw [spanT, h0]
  intro hm
  rcases mem_join 42 _ _ hm with c | ⟨x, hx, c⟩
  · revert c; decide
  · obtain ⟨l, hl, rfl⟩ := List.mem_map.1 hx
    obtain ⟨h1, _, h3⟩ := listT_line (h l hl)
    have := (line_no h3 0 0).2
    rw [List.replicate_zero, List.append_nil, List.nil_append] at this
    rw [h1] at c
    exact this c
/-- What is told of what was read is read as it, or not. -/
theorem told_read {s : T} {a c : Spn} (h : spanB s = some a) (hc : spanB (spanT a) = some c) : c = a := by
  rcases span_read h with rfl | ⟨h1, h2, h3⟩
  · have : spanB (spanT ⟨true, []⟩) = some ⟨true, []⟩ := by rfl
    rw [this, Option.some.injEq] at hc
    exact hc.symm
  · have hok : ∀ m ∈ a.or, ∀ b ∈ m, OkB b := fun m hm => (h3 m hm).1
    have hno := spanT_no h1 hok
    rw [spanB, if_neg (not_star hno)] at hc
    split at hc
    · have hT : spanT a = Go.Lib.join (a.or.map listT) [32, 124, 124, 32] := by rw [spanT, h1]; rfl
      rw [hT, Option.map_eq_some_iff] at hc
      obtain ⟨r, hr, rfl⟩ := hc
      by_cases hne : a.or = []
      · rw [hne] at hr; cases hr
      · rcases told_rdL a.or hok hne 0 [] with e | e
        · rw [List.replicate_zero, List.nil_append, hr, List.nil_append, Option.some.injEq] at e
          rw [e]; cases a; simp only at h1; subst h1; rfl
        · rw [List.replicate_zero, List.nil_append, hr] at e; cases e
    · cases hc
end Go.Proofs.YtjfdhafmbcppjaaGreatDoor.Sp

