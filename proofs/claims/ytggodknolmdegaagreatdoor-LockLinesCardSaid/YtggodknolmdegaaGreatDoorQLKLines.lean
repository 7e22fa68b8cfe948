/-
  It is proved that the statement LockLines returns true for every input and does not panic. Conditions: the listed package-level variables start as the program's text lays them (the card ties them).
-/
import Derived.Test.YtggodknolmdegaaGreatDoorQd
import Derived.Test.YtggodknolmdegaaGreatDoorQc
import Derived.Test.YtggodknolmdegaaGreatDoorQa
import Derived.WalkKit
import Derived.ProofKit
import Derived.OpenShut
import Derived.Carry
import Derived.ChangeArms
import Derived.Deep.Slices
import Derived.Test.YtggodknolmdegaaGreatDoorQb
import Derived.Test.YtggodknolmdegaaGreatDoorRows
import Derived.Stop.LaidErr
import Derived.Lib.LaidTab
import Derived.LaidMore
import Derived.Test.YtggodknolmdegaaGreatDoorCards
import Derived.Test.YtggodknolmdegaaGreatDoorTie
import Derived.Lay
import Derived.SevenTiedAt
import Derived.Stop.Joined
set_option linter.unusedVariables false
namespace Go.Proofs.YtggodknolmdegaaGreatDoor.Lk
open Go.RowKit H S Ve
section
variable {P : Program} {f : Fr} {w : World} {d : Nat} {ty : TypeId} {pos : String} {af : Array Edge}
/-- A sum, its first byte given. -/
theorem keyOne (n : UInt8) {o0 : Operand} (h0 : f.ev o0 = some (vb n)) : Yd Tryz.prog f (op1 d (.build keyT #[(0, o0)]) ty pos af) (.agg (bv (n :: List.replicate 31 0)).toArray) w := by
  intro a ha
  have h1 := H.run_zeroValue (P := Tryz.prog) (t := keyT) w
  have h2 := H.run_sizeOf (P := Tryz.prog) (t := 5) w
  have hu := (inferInstance : Und Tryz.prog keyT _).out
  simp only [execOp, List.map_toArray, List.map_cons, List.map_nil, ha.eval h0, Sem.run_bind, Instr.build, h1, Result.andThen_ok, run_underlying hu, h2]
  rfl
end
attribute [local irreducible] H.CL H.RW H.CW H.Yd H.thenK H.blockQ Go.Calls keyAt unhexB

set_option maxHeartbeats 1000000 in
theorem lawOrder (v : Value) (ns : List UInt8) (tn : UInt8) (w : World) (hv : Sl w 1 v ns.length (bv ns)) (hT : Tb w) : Calls Tryz.prog 6 #[v, vb tn] w fun e w' => e = .returned (.bool true) ∧ K0 w w' := by
  have hmx : ns.length ≤ 9223372036854775807 := by have := hv.2.1; simpa [maxLen] using this
  refine H.enter Tryz.func6 Tryz.ntmps6 rfl rfl ?_; dsimp only [H.args]
  repeat' (first | (refine CL.seq ?_) | (refine CL.region ?_) | (refine Gt.nil ?_; refine RW.nilw [0, 1, 4, 5, 6, 7, 8, 9, 10, 11, 12, 13, 15, 17, 20, 24, 49, 64, 72] ?_; dsimp only [H.keep, H.look, H.Fr.put, Nat.beq]) | (refine Gt.assign ?_; refine RW.y (Y.assign rfl) rfl ?_))
  refine RW.fn rfl rfl ((known w hT).mono ?_)
  rintro e w1 ⟨hk1, rfl⟩
  have hs1 := hv.keep0 hk1
  repeat' (first | (refine CL.seq ?_) | (refine CL.region ?_) | (refine CL.skip ?_) | (refine CL.condP rfl (fun _ => ?_) (fun _ => ?_) <;> try (exfalso; omega)) | (refine CL.condF rfl ?_) | (refine CL.ret ?_) | (refine Gt.nil ?_; refine RW.nilw [0, 1, 4, 5, 6, 7, 8, 9, 10, 11, 12, 13, 15, 17, 20, 24, 49, 64, 72] ?_; dsimp only [H.keep, H.look, H.Fr.put, Nat.beq]) | (refine Gt.move ?_; refine RW.y (Y.move rfl) rfl ?_) | (refine Gt.assign ?_; refine RW.y (Y.assign rfl) rfl ?_) | (refine Gt.len ?_; (refine RW.y (Y.lenx rfl (by assumption)) rfl ?_)) | (refine Gt.not ?_; (refine RW.y (Y.notb rfl) rfl ?_)) | (refine Gt.gtr ?_; refine RW.y (Y.gtr rfl rfl) rfl ?_))
  · exact FQ.one rfl rfl rfl ⟨rfl, hk1⟩
  rename_i h10
  have htn := tn.toNat_lt
  refine CL.cutS [0, 1, 5, 6] (fun vals wx => ∃ (q : Value) (L : List Pm), vals = [v, vb tn, q, .slice none 0 0] ∧ GA pmK wx q L ∧ L.map (·.d) = dedP (ns.map mkO) ∧ L.length ≤ ns.length ∧ K0 w1 wx) (by simp) ?_ ?_
  · refine CL.block ?_
    refine CL.loopS [0, 1, 5, 6, 7] (fun k vals wr => ∃ (i : Nat) (q : Value) (L : List Pm), vals = [v, vb tn, q, .slice none 0 0, .int .i64 (i : Int)] ∧ k = ns.length - i ∧ i ≤ ns.length ∧ GI pmK wr w1.heap.size pmT q L ∧ L.map (·.d) = dedP ((ns.take i).map mkO) ∧ L.length ≤ i ∧ (∀ x ∈ L, x.p = .slice none 0 0) ∧ K0 w1 wr) ns.length ⟨_, rfl, 0, _, [], rfl, rfl, Nat.zero_le _, GI.nil _ _ _ _, rfl, Nat.le_refl _, (fun x hx => by cases hx), Kept.refl _ _⟩ ?_
    rintro k vals wr ⟨i, q, L, rfl, rfl, hi, hI, hLd, hLi, hLp, hkr⟩
    dsimp only [List.zip, List.zipWith]
    have hsr := hs1.keep0 hkr
    rcases Nat.lt_or_ge i ns.length with hlt | hge
    · have hti : ((i : Int)).toNat = i := Int.toNat_natCast i
      have hsn : dedP ((ns.take (i + 1)).map mkO) = addP (dedP ((ns.take i).map mkO)) (mkO (ns.getD i 0)) := by rw [take_snoc 0 ns i hlt, List.map_append, List.map_cons, List.map_nil, dedP_snoc]
      generalize hn : ns.getD i 0 = n at *
      have hn1 := n.toNat_lt
      have hsA : ∀ w', K0 wr w' → Sl w' 1 v ns.length (bv ns) := fun w' h => hsr.keep0 h
      have hxl : (bv ns)[((i : Int)).toNat * 1]? = some (vb n) := by
        rw [hti, Nat.mul_one]; simp only [bv, List.getElem?_map]
        rw [List.getElem?_eq_getElem hlt, ← hn, List.getD_eq_getElem?_getD, List.getElem?_eq_getElem hlt]; rfl
      have hdl := dec_len 2 n.toNat (by omega)
      have hdl2 : (decI (n.toNat : Int)).length ≤ 3 := hdl
      repeat' (first | (refine CL.seq ?_) | (refine CL.region ?_) | (refine CL.skip ?_) | (refine CL.condP rfl (fun _ => ?_) (fun _ => ?_) <;> try (exfalso; omega)) | (refine CL.block ?_) | (refine Gt.nil ?_; refine RW.nilw [0, 1, 4, 5, 6, 7, 8, 9, 10, 11, 12, 13, 15, 17, 20, 24, 49, 64, 72] ?_; dsimp only [H.keep, H.look, H.Fr.put, Nat.beq]) | (refine Gt.move ?_; refine RW.y (Y.move rfl) rfl ?_) | (refine Gt.len ?_; (refine RW.y (Y.lenx rfl (by assumption)) rfl ?_)) | (refine Gt.lss ?_; refine RW.y (Y.lss rfl rfl) rfl ?_))
      refine CL.draw (fun w' => K0 wr w') (by kernel_rfl) (fun wd hheap hkd => ?_)
      have hS : K0 wr wd := hkd
      skip
      refine AW.take 0 rfl (by kernel_rfl) (by kernel_rfl) (by kernel_rfl) rfl (by assumption) (fun w hS => Y.move rfl) ?_
      refine AW.take 1 rfl (by kernel_rfl) (by kernel_rfl) (by kernel_rfl) rfl (by assumption) (fun w hS => Y.move rfl) ?_
      refine AW.take 2 rfl (by kernel_rfl) (by kernel_rfl) (by kernel_rfl) rfl (by assumption) (fun w hS => Y.idx rfl rfl (hsA _ hS) (by omega) (by omega)) ?_
      refine AW.take 3 rfl (by kernel_rfl) (by kernel_rfl) (by kernel_rfl) rfl (by assumption) (fun w hS => Y.load1 rfl ((hsA _ hS).cell hxl)) ?_
      refine AW.take 4 rfl (by kernel_rfl) (by kernel_rfl) (by kernel_rfl) rfl (by assumption) (fun w hS => Y.convN rfl (wrap64_id (by omega) (by omega))) ?_
      refine AW.take 7 rfl (by kernel_rfl) (by kernel_rfl) (by kernel_rfl) rfl (by assumption) (fun w hS => Y.move rfl) ?_
      refine AW.take 8 rfl (by kernel_rfl) (by kernel_rfl) (by kernel_rfl) rfl (by assumption) (fun w hS => Y.move rfl) ?_
      refine AW.take 9 rfl (by kernel_rfl) (by kernel_rfl) (by kernel_rfl) rfl (by assumption) (fun w hS => Y.idx rfl rfl (hsA _ hS) (by omega) (by omega)) ?_
      refine AW.take 10 rfl (by kernel_rfl) (by kernel_rfl) (by kernel_rfl) rfl (by assumption) (fun w hS => Y.load1 rfl ((hsA _ hS).cell hxl)) ?_
      refine AW.take 11 rfl (by kernel_rfl) (by kernel_rfl) (by kernel_rfl) rfl (by assumption) (fun w hS => Y.convN rfl (wrap64_id (by omega) (by omega))) ?_
      refine AW.take 12 rfl (by kernel_rfl) (by kernel_rfl) (by kernel_rfl) rfl (by assumption) (fun w hS => Y.build (ps := [(0, _)]) (l := [.int .i64 (n.toNat : Int)]) (c := #[.int .i64 (n.toNat : Int), .int .i64 0, .int .i64 0, .slice none 0 0]) rfl rfl) ?_
      refine AW.take 13 rfl (by kernel_rfl) (by kernel_rfl) (by kernel_rfl) rfl (by assumption) (fun w hS => Y.move rfl) ?_
      refine AW.take 14 rfl (by kernel_rfl) (by kernel_rfl) (by kernel_rfl) rfl (by assumption) (fun w hS => Y.move rfl) ?_
      refine AW.take 15 rfl (by kernel_rfl) (by kernel_rfl) (by kernel_rfl) rfl (by assumption) (fun w hS => Y.idx rfl rfl (hsA _ hS) (by omega) (by omega)) ?_
      refine AW.take 16 rfl (by kernel_rfl) (by kernel_rfl) (by kernel_rfl) rfl (by assumption) (fun w hS => Y.load1 rfl ((hsA _ hS).cell hxl)) ?_
      refine AW.take 17 rfl (by kernel_rfl) (by kernel_rfl) (by kernel_rfl) rfl (by assumption) (fun w hS => keyOne n rfl) ?_
      refine AW.two 5 19 rfl rfl (by kernel_rfl) ?_ ?_
      · refine RW.fn rfl rfl ((dec (n.toNat : Int) (by omega) _).mono ?_)
        rintro e wd ⟨hkc, rfl⟩
        have hS := hS.trans0 hkc
        try replace hba := hkc.at0 hba
        refine RW.nil (Nm.then ⟨hS, ?_⟩)
        refine AW.take 6 rfl (by kernel_rfl) (by kernel_rfl) (by kernel_rfl) rfl (by assumption) (fun w hS => by exact Y.cat rfl rfl (by (simp only [List.length_append, List.length_cons, List.length_nil]; omega))) ?_
        refine AW.take 18 rfl (by kernel_rfl) (by kernel_rfl) (by kernel_rfl) rfl (by assumption) (fun w hS => pmBuild ⟨mkO n, .slice none 0 0, by simp [mkO]⟩ rfl rfl rfl) ?_
        refine AW.next 19 rfl (by kernel_rfl) ?_
        have hga := hS.size
        obtain ⟨gb, hgb⟩ : ∃ g, g = wd.heap.size := ⟨_, rfl⟩
        refine RW.alloc rfl (fun wd hba hka hlta => ?_)
        rw [← hgb] at hba ⊢
        have hS := hS.trans0 hka
        refine RW.nil (Nm.then ⟨hS, ?_⟩)
        refine AW.next 20 rfl (by kernel_rfl) ?_
        refine RW.storeBlock rfl rfl (by rw [List.size_toArray, pmC_len]; rfl) (fun z hz => pmC_one rfl z (by simpa using hz)) hba rfl (fun we hbe hke => ?_)
        have hS := hS.trans hke fun k h => .inr (by omega)
        refine RW.nil (Nm.then ⟨hS, ?_⟩)
        refine AW.donew [0, 1, 5, 6, 7, 8] (by kernel_rfl) ?_
        dsimp only [H.keep, H.look, H.Fr.put, Nat.beq]
        generalize hX : (⟨mkO n, .slice none 0 0, by simp [mkO]⟩ : Pm) = X at *
        have hXd : X.d = mkO n := by rw [← hX]
        have hXp : X.p = .slice none 0 0 := by rw [← hX]
        have hI' := hI.keep0 hS
        repeat' (first | (refine CL.seq ?_) | (refine CL.region ?_) | (refine Gt.nil ?_; refine RW.nilw [0, 1, 4, 5, 6, 7, 8, 9, 10, 11, 12, 13, 15, 17, 20, 24, 49, 64, 72] ?_; dsimp only [H.keep, H.look, H.Fr.put, Nat.beq]) | (refine Gt.assign ?_; refine RW.y (Y.assign rfl) rfl ?_))
        refine CL.cutS [0, 1, 5, 6, 7, 8, 9] (fun vals wx => vals = [v, vb tn, q, .slice none 0 0, .int .i64 (i : Int), .pointer (some ⟨gb, 0, none⟩), .bool (thereP (L.map (·.d)) (mkO n).name)] ∧ K0 we wx) (by simp) ?_ ?_
        · refine CL.block ?_
          refine CL.loopS [0, 1, 5, 6, 7, 8, 9, 10] (fun k vals wx => ∃ j : Nat, vals = [v, vb tn, q, .slice none 0 0, .int .i64 (i : Int), .pointer (some ⟨gb, 0, none⟩), .bool (thereP ((L.take j).map (·.d)) (mkO n).name), .int .i64 (j : Int)] ∧ k = L.length - j ∧ j ≤ L.length ∧ K0 we wx) L.length ⟨_, rfl, 0, rfl, rfl, Nat.zero_le _, Kept.refl _ _⟩ ?_
          rintro k vals wx ⟨j, rfl, rfl, hj, hkx⟩
          dsimp only [List.zip, List.zipWith]
          have hgx := hI'.ga.keep0 hkx
          have hsx : Sl wx 37 q L.length (L.flatMap pmC) := hgx.1
          rcases Nat.lt_or_ge j L.length with hjl | hjg
          · have htj : ((j : Int)).toNat = j := Int.toNat_natCast j
            obtain ⟨g1, o1, hsp1, hcl1⟩ := elSpot hgx.1 pmK.len (i := (j : Int)) (by omega) (by omega)
            rw [htj] at hcl1
            have hst : thereP ((L.take (j + 1)).map (·.d)) (mkO n).name = (thereP ((L.take j).map (·.d)) (mkO n).name || decide ((L.getD j default).d.name = (mkO n).name)) := by rw [map_snoc L j hjl, thereP, thereP, List.any_append]; simp
            have hbx := hkx.at0 hbe
            have hbl : ∀ w', K0 wx w' → ∀ j u, (pmC X)[j]? = some u → w'.cell? ⟨gb, 0 + j, none⟩ = some u := fun w' h => pmBlock (h.at0 hbx)
            have hsB : ∀ w', K0 wx w' → Sl w' 37 q L.length (L.flatMap pmC) := fun w' h => hsx.keep0 h
            generalize thereP ((L.take j).map (·.d)) (mkO n).name = bj at *
            generalize L.getD j default = y at *
            obtain ⟨c1, hc1⟩ : ∃ b, decide (y.d.name = X.d.name) = b := ⟨_, rfl⟩
            rw [← hXd, hc1] at hst
            repeat' (first | (refine CL.seq ?_) | (refine CL.region ?_) | (refine CL.skip ?_) | (refine CL.condP rfl (fun _ => ?_) (fun _ => ?_) <;> try (exfalso; omega)) | (refine CL.block ?_) | (refine Gt.nil ?_; refine RW.nilw [0, 1, 4, 5, 6, 7, 8, 9, 10, 11, 12, 13, 15, 17, 20, 24, 49, 64, 72] ?_; dsimp only [H.keep, H.look, H.Fr.put, Nat.beq]) | (refine Gt.move ?_; refine RW.y (Y.move rfl) rfl ?_) | (refine Gt.len ?_; (refine RW.y (Y.lenx rfl (by assumption)) rfl ?_)) | (refine Gt.lss ?_; refine RW.y (Y.lss rfl rfl) rfl ?_))
            refine CL.draw (fun w' => K0 wx w') (by kernel_rfl) (fun w5 hheap5 hk5 => ?_)
            have hS : K0 wx w5 := hk5
            skip
            skip
            cases bj with
            | true =>
              skip
              refine AW.take 0 rfl (by kernel_rfl) (by kernel_rfl) (by kernel_rfl) rfl (by assumption) (fun w hS => Y.move rfl) ?_
              refine AW.take 1 rfl (by kernel_rfl) (by kernel_rfl) (by kernel_rfl) rfl (by assumption) (fun w hS => Y.move rfl) ?_
              refine AW.takeOff 2 rfl (by kernel_rfl) (by kernel_rfl) (by kernel_rfl) rfl rfl rfl rfl rfl (by assumption) ?_
              refine AW.takeOff 3 rfl (by kernel_rfl) (by kernel_rfl) (by kernel_rfl) rfl rfl rfl rfl rfl (by assumption) ?_
              refine AW.takeOff 4 rfl (by kernel_rfl) (by kernel_rfl) (by kernel_rfl) rfl rfl rfl rfl rfl (by assumption) ?_
              refine AW.takeOff 5 rfl (by kernel_rfl) (by kernel_rfl) (by kernel_rfl) rfl rfl rfl rfl rfl (by assumption) ?_
              refine AW.takeOff 6 rfl (by kernel_rfl) (by kernel_rfl) (by kernel_rfl) rfl rfl rfl rfl rfl (by assumption) ?_
              refine AW.takeOff 7 rfl (by kernel_rfl) (by kernel_rfl) (by kernel_rfl) rfl rfl rfl rfl rfl (by assumption) ?_
              refine AW.takeOff 8 rfl (by kernel_rfl) (by kernel_rfl) (by kernel_rfl) rfl rfl rfl rfl rfl (by assumption) ?_
              refine AW.takeOff 9 rfl (by kernel_rfl) (by kernel_rfl) (by kernel_rfl) rfl rfl rfl rfl rfl (by assumption) ?_
              refine AW.take 10 rfl (by kernel_rfl) (by kernel_rfl) (by kernel_rfl) rfl (by assumption) (fun w hS => by exact Y.pickT rfl rfl) ?_
              refine AW.take 11 rfl (by kernel_rfl) (by kernel_rfl) (by kernel_rfl) rfl (by assumption) (fun w hS => Y.assign rfl) ?_
              refine AW.donew [0, 1, 5, 6, 7, 8, 9, 10] (by kernel_rfl) ?_
              dsimp only [H.keep, H.look, H.Fr.put, Nat.beq]
              repeat' (first | (refine CL.region ?_) | (refine CL.done ?_) | (refine Nm.block ?_) | (refine Nm.then ?_) | (refine Gt.nil ?_; refine RW.nilw [0, 1, 4, 5, 6, 7, 8, 9, 10, 11, 12, 13, 15, 17, 20, 24, 49, 64, 72] ?_; dsimp only [H.keep, H.look, H.Fr.put, Nat.beq]) | (refine Gt.move ?_; refine RW.y (Y.move rfl) rfl ?_) | (refine Gt.assign ?_; refine RW.y (Y.assign rfl) rfl ?_) | (refine Gt.add ?_; (refine RW.y (Y.add64 rfl rfl (by omega) (by omega)) rfl ?_)))
              exact ⟨L.length - (j + 1), _, rfl, rfl, rfl, by omega, j + 1, by rw [← hXd, hst]; rfl, rfl, by omega, hkx.trans0 hk5⟩
            | false =>
              skip
              refine AW.take 0 rfl (by kernel_rfl) (by kernel_rfl) (by kernel_rfl) rfl (by assumption) (fun w hS => Y.move rfl) ?_
              refine AW.take 1 rfl (by kernel_rfl) (by kernel_rfl) (by kernel_rfl) rfl (by assumption) (fun w hS => Y.move rfl) ?_
              refine AW.takeOn 2 rfl (by kernel_rfl) (by kernel_rfl) (by kernel_rfl) rfl rfl rfl rfl (by assumption) (fun w hS => Y.move rfl) ?_
              refine AW.takeOn 3 rfl (by kernel_rfl) (by kernel_rfl) (by kernel_rfl) rfl rfl rfl rfl (by assumption) (fun w hS => Y.move rfl) ?_
              refine AW.takeOn 4 rfl (by kernel_rfl) (by kernel_rfl) (by kernel_rfl) rfl rfl rfl rfl (by assumption) (fun w hS => Y.idx rfl rfl (hsB _ hS) (by omega) (by omega)) ?_
              refine AW.takeOn 5 rfl (by kernel_rfl) (by kernel_rfl) (by kernel_rfl) rfl rfl rfl rfl (by assumption) (fun w hS => Y.fieldAddr (congrArg (fun a => some (Value.pointer (some a))) hsp1) (by rfl)) ?_
              refine AW.takeOn 6 rfl (by kernel_rfl) (by kernel_rfl) (by kernel_rfl) rfl rfl rfl rfl (by assumption) (fun w hS => Y.load1A rfl (hcl1 _ hS 0 _ rfl)) ?_
              refine AW.takeOn 7 rfl (by kernel_rfl) (by kernel_rfl) (by kernel_rfl) rfl rfl rfl rfl (by assumption) (fun w hS => Y.fieldAddr rfl (by rfl)) ?_
              refine AW.takeOn 8 rfl (by kernel_rfl) (by kernel_rfl) (by kernel_rfl) rfl rfl rfl rfl (by assumption) (fun w hS => Y.load1A rfl (hbl _ hS 0 _ rfl)) ?_
              refine AW.takeOn 9 rfl (by kernel_rfl) (by kernel_rfl) (by kernel_rfl) rfl rfl rfl rfl (by assumption) (fun w hS => Y.eqsE rfl rfl hc1) ?_
              refine AW.take 10 rfl (by kernel_rfl) (by kernel_rfl) (by kernel_rfl) rfl (by assumption) (fun w hS => by exact Y.pickF rfl rfl) ?_
              refine AW.take 11 rfl (by kernel_rfl) (by kernel_rfl) (by kernel_rfl) rfl (by assumption) (fun w hS => Y.assign rfl) ?_
              refine AW.donew [0, 1, 5, 6, 7, 8, 9, 10] (by kernel_rfl) ?_
              dsimp only [H.keep, H.look, H.Fr.put, Nat.beq]
              repeat' (first | (refine CL.region ?_) | (refine CL.done ?_) | (refine Nm.block ?_) | (refine Nm.then ?_) | (refine Gt.nil ?_; refine RW.nilw [0, 1, 4, 5, 6, 7, 8, 9, 10, 11, 12, 13, 15, 17, 20, 24, 49, 64, 72] ?_; dsimp only [H.keep, H.look, H.Fr.put, Nat.beq]) | (refine Gt.move ?_; refine RW.y (Y.move rfl) rfl ?_) | (refine Gt.assign ?_; refine RW.y (Y.assign rfl) rfl ?_) | (refine Gt.add ?_; (refine RW.y (Y.add64 rfl rfl (by omega) (by omega)) rfl ?_)))
              exact ⟨L.length - (j + 1), _, rfl, rfl, rfl, by omega, j + 1, by rw [← hXd, hst]; rfl, rfl, by omega, hkx.trans0 hk5⟩
          · have hj2 : j = L.length := by omega
            subst hj2
            rw [List.take_length]
            repeat' (first | (refine CL.seq ?_) | (refine CL.region ?_) | (refine CL.condP rfl (fun _ => ?_) (fun _ => ?_) <;> try (exfalso; omega)) | (refine CL.exit ?_) | (refine Ex.then ?_) | (refine Ex.hit ?_) | (refine CL.done ?_) | (refine Nm.then ?_) | (refine Gt.nil ?_; refine RW.nilw [0, 1, 4, 5, 6, 7, 8, 9, 10, 11, 12, 13, 15, 17, 20, 24, 49, 64, 72] ?_; dsimp only [H.keep, H.look, H.Fr.put, Nat.beq]) | (refine Gt.move ?_; refine RW.y (Y.move rfl) rfl ?_) | (refine Gt.len ?_; (refine RW.y (Y.lenx rfl (by assumption)) rfl ?_)) | (refine Gt.lss ?_; refine RW.y (Y.lss rfl rfl) rfl ?_))
            exact ⟨_, rfl, rfl, rfl, rfl, hkx⟩
        · rintro vals wx ⟨rfl, hkx⟩
          dsimp only [List.zip, List.zipWith]
          have hI2 := hI'.keep0 hkx
          have hbx := hkx.at0 hbe
          have hKx := (hkr.trans0 hS).trans0 hkx
          have hzx := hKx.size
          have hDX : pmK.D wx X := by
            show Sl wx 1 X.p X.d.v.pre.length (sv X.d.v.pre)
            rw [hXp, hXd]; exact Sl.nil _ _
          obtain ⟨th, hth⟩ : ∃ b, thereP (L.map (·.d)) (mkO n).name = b := ⟨_, rfl⟩
          rw [hth]
          cases th
          · repeat' (first | (refine CL.seq ?_) | (refine CL.region ?_) | (refine CL.condT rfl ?_) | (refine Gt.nil ?_; refine RW.nilw [0, 1, 4, 5, 6, 7, 8, 9, 10, 11, 12, 13, 15, 17, 20, 24, 49, 64, 72] ?_; dsimp only [H.keep, H.look, H.Fr.put, Nat.beq]) | (refine Gt.move ?_; refine RW.y (Y.move rfl) rfl ?_) | (refine Gt.not ?_; (refine RW.y (Y.notb rfl) rfl ?_)))
            refine RW.y (Y.loadBlock rfl hbx (by rw [List.size_toArray, pmC_len]; rfl)) rfl ?_
            refine RW.appG pmK X rfl rfl rfl rfl hI2 rfl rfl rfl rfl hDX (fun g hg c => by rw [show pmK.R X g = (live X.p = some g) from rfl, hXp] at hg; simp [live] at hg) (by omega) (by omega) rfl (fun q' w8 hI8 hk8 hl8 => ?_)
            repeat' (first | (refine CL.region ?_) | (refine CL.done ?_) | (refine Nm.block ?_) | (refine Nm.then ?_) | (refine Gt.nil ?_; refine RW.nilw [0, 1, 4, 5, 6, 7, 8, 9, 10, 11, 12, 13, 15, 17, 20, 24, 49, 64, 72] ?_; dsimp only [H.keep, H.look, H.Fr.put, Nat.beq]) | (refine Gt.move ?_; refine RW.y (Y.move rfl) rfl ?_) | (refine Gt.assign ?_; refine RW.y (Y.assign rfl) rfl ?_) | (refine Gt.add ?_; (refine RW.y (Y.add64 rfl rfl (by omega) (by omega)) rfl ?_)))
            refine ⟨ns.length - (i + 1), _, rfl, rfl, rfl, by omega, i + 1, q', L ++ [X], rfl, rfl, by omega, hI8, ?_, by rw [List.length_append, List.length_singleton]; omega, fun y hy => ?_, hKx.trans hk8 fun k h => .inr (hI.lt k h).1⟩
            · rw [hsn, ← hLd, addP, hth, List.map_append, List.map_cons, List.map_nil, hXd]; rfl
            · rcases List.mem_append.1 hy with hy | hy
              · exact hLp y hy
              · rw [List.mem_singleton.1 hy]; exact hXp
          · repeat' (first | (refine CL.seq ?_) | (refine CL.region ?_) | (refine CL.skip ?_) | (refine CL.condF rfl ?_) | (refine CL.done ?_) | (refine Nm.block ?_) | (refine Nm.then ?_) | (refine Gt.nil ?_; refine RW.nilw [0, 1, 4, 5, 6, 7, 8, 9, 10, 11, 12, 13, 15, 17, 20, 24, 49, 64, 72] ?_; dsimp only [H.keep, H.look, H.Fr.put, Nat.beq]) | (refine Gt.move ?_; refine RW.y (Y.move rfl) rfl ?_) | (refine Gt.assign ?_; refine RW.y (Y.assign rfl) rfl ?_) | (refine Gt.add ?_; (refine RW.y (Y.add64 rfl rfl (by omega) (by omega)) rfl ?_)) | (refine Gt.not ?_; (refine RW.y (Y.notb rfl) rfl ?_)))
            exact ⟨ns.length - (i + 1), _, rfl, rfl, rfl, by omega, i + 1, q, L, rfl, rfl, by omega, hI2, by rw [hsn, ← hLd, addP, hth]; rfl, by omega, hLp, hKx⟩
      · have hga := hS.size
        obtain ⟨gb, hgb⟩ : ∃ g, g = wd.heap.size := ⟨_, rfl⟩
        refine RW.alloc rfl (fun wd hba hka hlta => ?_)
        rw [← hgb] at hba ⊢
        have hS := hS.trans0 hka
        refine RW.nil (Nm.then ⟨hS, ?_⟩)
        refine AW.next 5 rfl (by kernel_rfl) ?_
        refine RW.fn rfl rfl ((dec (n.toNat : Int) (by omega) _).mono ?_)
        rintro e wd ⟨hkc, rfl⟩
        have hS := hS.trans0 hkc
        try replace hba := hkc.at0 hba
        refine RW.nil (Nm.then ⟨hS, ?_⟩)
        refine AW.take 6 rfl (by kernel_rfl) (by kernel_rfl) (by kernel_rfl) rfl (by assumption) (fun w hS => by exact Y.cat rfl rfl (by (simp only [List.length_append, List.length_cons, List.length_nil]; omega))) ?_
        refine AW.take 18 rfl (by kernel_rfl) (by kernel_rfl) (by kernel_rfl) rfl (by assumption) (fun w hS => pmBuild ⟨mkO n, .slice none 0 0, by simp [mkO]⟩ rfl rfl rfl) ?_
        refine AW.next 20 rfl (by kernel_rfl) ?_
        refine RW.storeBlock rfl rfl (by rw [List.size_toArray, pmC_len]; rfl) (fun z hz => pmC_one rfl z (by simpa using hz)) hba rfl (fun we hbe hke => ?_)
        have hS := hS.trans hke fun k h => .inr (by omega)
        refine RW.nil (Nm.then ⟨hS, ?_⟩)
        refine AW.donew [0, 1, 5, 6, 7, 8] (by kernel_rfl) ?_
        dsimp only [H.keep, H.look, H.Fr.put, Nat.beq]
        generalize hX : (⟨mkO n, .slice none 0 0, by simp [mkO]⟩ : Pm) = X at *
        have hXd : X.d = mkO n := by rw [← hX]
        have hXp : X.p = .slice none 0 0 := by rw [← hX]
        have hI' := hI.keep0 hS
        repeat' (first | (refine CL.seq ?_) | (refine CL.region ?_) | (refine Gt.nil ?_; refine RW.nilw [0, 1, 4, 5, 6, 7, 8, 9, 10, 11, 12, 13, 15, 17, 20, 24, 49, 64, 72] ?_; dsimp only [H.keep, H.look, H.Fr.put, Nat.beq]) | (refine Gt.assign ?_; refine RW.y (Y.assign rfl) rfl ?_))
        refine CL.cutS [0, 1, 5, 6, 7, 8, 9] (fun vals wx => vals = [v, vb tn, q, .slice none 0 0, .int .i64 (i : Int), .pointer (some ⟨gb, 0, none⟩), .bool (thereP (L.map (·.d)) (mkO n).name)] ∧ K0 we wx) (by simp) ?_ ?_
        · refine CL.block ?_
          refine CL.loopS [0, 1, 5, 6, 7, 8, 9, 10] (fun k vals wx => ∃ j : Nat, vals = [v, vb tn, q, .slice none 0 0, .int .i64 (i : Int), .pointer (some ⟨gb, 0, none⟩), .bool (thereP ((L.take j).map (·.d)) (mkO n).name), .int .i64 (j : Int)] ∧ k = L.length - j ∧ j ≤ L.length ∧ K0 we wx) L.length ⟨_, rfl, 0, rfl, rfl, Nat.zero_le _, Kept.refl _ _⟩ ?_
          rintro k vals wx ⟨j, rfl, rfl, hj, hkx⟩
          dsimp only [List.zip, List.zipWith]
          have hgx := hI'.ga.keep0 hkx
          have hsx : Sl wx 37 q L.length (L.flatMap pmC) := hgx.1
          rcases Nat.lt_or_ge j L.length with hjl | hjg
          · have htj : ((j : Int)).toNat = j := Int.toNat_natCast j
            obtain ⟨g1, o1, hsp1, hcl1⟩ := elSpot hgx.1 pmK.len (i := (j : Int)) (by omega) (by omega)
            rw [htj] at hcl1
            have hst : thereP ((L.take (j + 1)).map (·.d)) (mkO n).name = (thereP ((L.take j).map (·.d)) (mkO n).name || decide ((L.getD j default).d.name = (mkO n).name)) := by rw [map_snoc L j hjl, thereP, thereP, List.any_append]; simp
            have hbx := hkx.at0 hbe
            have hbl : ∀ w', K0 wx w' → ∀ j u, (pmC X)[j]? = some u → w'.cell? ⟨gb, 0 + j, none⟩ = some u := fun w' h => pmBlock (h.at0 hbx)
            have hsB : ∀ w', K0 wx w' → Sl w' 37 q L.length (L.flatMap pmC) := fun w' h => hsx.keep0 h
            generalize thereP ((L.take j).map (·.d)) (mkO n).name = bj at *
            generalize L.getD j default = y at *
            obtain ⟨c1, hc1⟩ : ∃ b, decide (y.d.name = X.d.name) = b := ⟨_, rfl⟩
            rw [← hXd, hc1] at hst
            repeat' (first | (refine CL.seq ?_) | (refine CL.region ?_) | (refine CL.skip ?_) | (refine CL.condP rfl (fun _ => ?_) (fun _ => ?_) <;> try (exfalso; omega)) | (refine CL.block ?_) | (refine Gt.nil ?_; refine RW.nilw [0, 1, 4, 5, 6, 7, 8, 9, 10, 11, 12, 13, 15, 17, 20, 24, 49, 64, 72] ?_; dsimp only [H.keep, H.look, H.Fr.put, Nat.beq]) | (refine Gt.move ?_; refine RW.y (Y.move rfl) rfl ?_) | (refine Gt.len ?_; (refine RW.y (Y.lenx rfl (by assumption)) rfl ?_)) | (refine Gt.lss ?_; refine RW.y (Y.lss rfl rfl) rfl ?_))
            refine CL.draw (fun w' => K0 wx w') (by kernel_rfl) (fun w5 hheap5 hk5 => ?_)
            have hS : K0 wx w5 := hk5
            skip
            skip
            cases bj with
            | true =>
              skip
              refine AW.take 0 rfl (by kernel_rfl) (by kernel_rfl) (by kernel_rfl) rfl (by assumption) (fun w hS => Y.move rfl) ?_
              refine AW.take 1 rfl (by kernel_rfl) (by kernel_rfl) (by kernel_rfl) rfl (by assumption) (fun w hS => Y.move rfl) ?_
              refine AW.takeOff 2 rfl (by kernel_rfl) (by kernel_rfl) (by kernel_rfl) rfl rfl rfl rfl rfl (by assumption) ?_
              refine AW.takeOff 3 rfl (by kernel_rfl) (by kernel_rfl) (by kernel_rfl) rfl rfl rfl rfl rfl (by assumption) ?_
              refine AW.takeOff 4 rfl (by kernel_rfl) (by kernel_rfl) (by kernel_rfl) rfl rfl rfl rfl rfl (by assumption) ?_
              refine AW.takeOff 5 rfl (by kernel_rfl) (by kernel_rfl) (by kernel_rfl) rfl rfl rfl rfl rfl (by assumption) ?_
              refine AW.takeOff 6 rfl (by kernel_rfl) (by kernel_rfl) (by kernel_rfl) rfl rfl rfl rfl rfl (by assumption) ?_
              refine AW.takeOff 7 rfl (by kernel_rfl) (by kernel_rfl) (by kernel_rfl) rfl rfl rfl rfl rfl (by assumption) ?_
              refine AW.takeOff 8 rfl (by kernel_rfl) (by kernel_rfl) (by kernel_rfl) rfl rfl rfl rfl rfl (by assumption) ?_
              refine AW.takeOff 9 rfl (by kernel_rfl) (by kernel_rfl) (by kernel_rfl) rfl rfl rfl rfl rfl (by assumption) ?_
              refine AW.take 10 rfl (by kernel_rfl) (by kernel_rfl) (by kernel_rfl) rfl (by assumption) (fun w hS => by exact Y.pickT rfl rfl) ?_
              refine AW.take 11 rfl (by kernel_rfl) (by kernel_rfl) (by kernel_rfl) rfl (by assumption) (fun w hS => Y.assign rfl) ?_
              refine AW.donew [0, 1, 5, 6, 7, 8, 9, 10] (by kernel_rfl) ?_
              dsimp only [H.keep, H.look, H.Fr.put, Nat.beq]
              repeat' (first | (refine CL.region ?_) | (refine CL.done ?_) | (refine Nm.block ?_) | (refine Nm.then ?_) | (refine Gt.nil ?_; refine RW.nilw [0, 1, 4, 5, 6, 7, 8, 9, 10, 11, 12, 13, 15, 17, 20, 24, 49, 64, 72] ?_; dsimp only [H.keep, H.look, H.Fr.put, Nat.beq]) | (refine Gt.move ?_; refine RW.y (Y.move rfl) rfl ?_) | (refine Gt.assign ?_; refine RW.y (Y.assign rfl) rfl ?_) | (refine Gt.add ?_; (refine RW.y (Y.add64 rfl rfl (by omega) (by omega)) rfl ?_)))
              exact ⟨L.length - (j + 1), _, rfl, rfl, rfl, by omega, j + 1, by rw [← hXd, hst]; rfl, rfl, by omega, hkx.trans0 hk5⟩
            | false =>
              skip
              refine AW.take 0 rfl (by kernel_rfl) (by kernel_rfl) (by kernel_rfl) rfl (by assumption) (fun w hS => Y.move rfl) ?_
              refine AW.take 1 rfl (by kernel_rfl) (by kernel_rfl) (by kernel_rfl) rfl (by assumption) (fun w hS => Y.move rfl) ?_
              refine AW.takeOn 2 rfl (by kernel_rfl) (by kernel_rfl) (by kernel_rfl) rfl rfl rfl rfl (by assumption) (fun w hS => Y.move rfl) ?_
              refine AW.takeOn 3 rfl (by kernel_rfl) (by kernel_rfl) (by kernel_rfl) rfl rfl rfl rfl (by assumption) (fun w hS => Y.move rfl) ?_
              refine AW.takeOn 4 rfl (by kernel_rfl) (by kernel_rfl) (by kernel_rfl) rfl rfl rfl rfl (by assumption) (fun w hS => Y.idx rfl rfl (hsB _ hS) (by omega) (by omega)) ?_
              refine AW.takeOn 5 rfl (by kernel_rfl) (by kernel_rfl) (by kernel_rfl) rfl rfl rfl rfl (by assumption) (fun w hS => Y.fieldAddr (congrArg (fun a => some (Value.pointer (some a))) hsp1) (by rfl)) ?_
              refine AW.takeOn 6 rfl (by kernel_rfl) (by kernel_rfl) (by kernel_rfl) rfl rfl rfl rfl (by assumption) (fun w hS => Y.load1A rfl (hcl1 _ hS 0 _ rfl)) ?_
              refine AW.takeOn 7 rfl (by kernel_rfl) (by kernel_rfl) (by kernel_rfl) rfl rfl rfl rfl (by assumption) (fun w hS => Y.fieldAddr rfl (by rfl)) ?_
              refine AW.takeOn 8 rfl (by kernel_rfl) (by kernel_rfl) (by kernel_rfl) rfl rfl rfl rfl (by assumption) (fun w hS => Y.load1A rfl (hbl _ hS 0 _ rfl)) ?_
              refine AW.takeOn 9 rfl (by kernel_rfl) (by kernel_rfl) (by kernel_rfl) rfl rfl rfl rfl (by assumption) (fun w hS => Y.eqsE rfl rfl hc1) ?_
              refine AW.take 10 rfl (by kernel_rfl) (by kernel_rfl) (by kernel_rfl) rfl (by assumption) (fun w hS => by exact Y.pickF rfl rfl) ?_
              refine AW.take 11 rfl (by kernel_rfl) (by kernel_rfl) (by kernel_rfl) rfl (by assumption) (fun w hS => Y.assign rfl) ?_
              refine AW.donew [0, 1, 5, 6, 7, 8, 9, 10] (by kernel_rfl) ?_
              dsimp only [H.keep, H.look, H.Fr.put, Nat.beq]
              repeat' (first | (refine CL.region ?_) | (refine CL.done ?_) | (refine Nm.block ?_) | (refine Nm.then ?_) | (refine Gt.nil ?_; refine RW.nilw [0, 1, 4, 5, 6, 7, 8, 9, 10, 11, 12, 13, 15, 17, 20, 24, 49, 64, 72] ?_; dsimp only [H.keep, H.look, H.Fr.put, Nat.beq]) | (refine Gt.move ?_; refine RW.y (Y.move rfl) rfl ?_) | (refine Gt.assign ?_; refine RW.y (Y.assign rfl) rfl ?_) | (refine Gt.add ?_; (refine RW.y (Y.add64 rfl rfl (by omega) (by omega)) rfl ?_)))
              exact ⟨L.length - (j + 1), _, rfl, rfl, rfl, by omega, j + 1, by rw [← hXd, hst]; rfl, rfl, by omega, hkx.trans0 hk5⟩
          · have hj2 : j = L.length := by omega
            subst hj2
            rw [List.take_length]
            repeat' (first | (refine CL.seq ?_) | (refine CL.region ?_) | (refine CL.condP rfl (fun _ => ?_) (fun _ => ?_) <;> try (exfalso; omega)) | (refine CL.exit ?_) | (refine Ex.then ?_) | (refine Ex.hit ?_) | (refine CL.done ?_) | (refine Nm.then ?_) | (refine Gt.nil ?_; refine RW.nilw [0, 1, 4, 5, 6, 7, 8, 9, 10, 11, 12, 13, 15, 17, 20, 24, 49, 64, 72] ?_; dsimp only [H.keep, H.look, H.Fr.put, Nat.beq]) | (refine Gt.move ?_; refine RW.y (Y.move rfl) rfl ?_) | (refine Gt.len ?_; (refine RW.y (Y.lenx rfl (by assumption)) rfl ?_)) | (refine Gt.lss ?_; refine RW.y (Y.lss rfl rfl) rfl ?_))
            exact ⟨_, rfl, rfl, rfl, rfl, hkx⟩
        · rintro vals wx ⟨rfl, hkx⟩
          dsimp only [List.zip, List.zipWith]
          have hI2 := hI'.keep0 hkx
          have hbx := hkx.at0 hbe
          have hKx := (hkr.trans0 hS).trans0 hkx
          have hzx := hKx.size
          have hDX : pmK.D wx X := by
            show Sl wx 1 X.p X.d.v.pre.length (sv X.d.v.pre)
            rw [hXp, hXd]; exact Sl.nil _ _
          obtain ⟨th, hth⟩ : ∃ b, thereP (L.map (·.d)) (mkO n).name = b := ⟨_, rfl⟩
          rw [hth]
          cases th
          · repeat' (first | (refine CL.seq ?_) | (refine CL.region ?_) | (refine CL.condT rfl ?_) | (refine Gt.nil ?_; refine RW.nilw [0, 1, 4, 5, 6, 7, 8, 9, 10, 11, 12, 13, 15, 17, 20, 24, 49, 64, 72] ?_; dsimp only [H.keep, H.look, H.Fr.put, Nat.beq]) | (refine Gt.move ?_; refine RW.y (Y.move rfl) rfl ?_) | (refine Gt.not ?_; (refine RW.y (Y.notb rfl) rfl ?_)))
            refine RW.y (Y.loadBlock rfl hbx (by rw [List.size_toArray, pmC_len]; rfl)) rfl ?_
            refine RW.appG pmK X rfl rfl rfl rfl hI2 rfl rfl rfl rfl hDX (fun g hg c => by rw [show pmK.R X g = (live X.p = some g) from rfl, hXp] at hg; simp [live] at hg) (by omega) (by omega) rfl (fun q' w8 hI8 hk8 hl8 => ?_)
            repeat' (first | (refine CL.region ?_) | (refine CL.done ?_) | (refine Nm.block ?_) | (refine Nm.then ?_) | (refine Gt.nil ?_; refine RW.nilw [0, 1, 4, 5, 6, 7, 8, 9, 10, 11, 12, 13, 15, 17, 20, 24, 49, 64, 72] ?_; dsimp only [H.keep, H.look, H.Fr.put, Nat.beq]) | (refine Gt.move ?_; refine RW.y (Y.move rfl) rfl ?_) | (refine Gt.assign ?_; refine RW.y (Y.assign rfl) rfl ?_) | (refine Gt.add ?_; (refine RW.y (Y.add64 rfl rfl (by omega) (by omega)) rfl ?_)))
            refine ⟨ns.length - (i + 1), _, rfl, rfl, rfl, by omega, i + 1, q', L ++ [X], rfl, rfl, by omega, hI8, ?_, by rw [List.length_append, List.length_singleton]; omega, fun y hy => ?_, hKx.trans hk8 fun k h => .inr (hI.lt k h).1⟩
            · rw [hsn, ← hLd, addP, hth, List.map_append, List.map_cons, List.map_nil, hXd]; rfl
            · rcases List.mem_append.1 hy with hy | hy
              · exact hLp y hy
              · rw [List.mem_singleton.1 hy]; exact hXp
          · repeat' (first | (refine CL.seq ?_) | (refine CL.region ?_) | (refine CL.skip ?_) | (refine CL.condF rfl ?_) | (refine CL.done ?_) | (refine Nm.block ?_) | (refine Nm.then ?_) | (refine Gt.nil ?_; refine RW.nilw [0, 1, 4, 5, 6, 7, 8, 9, 10, 11, 12, 13, 15, 17, 20, 24, 49, 64, 72] ?_; dsimp only [H.keep, H.look, H.Fr.put, Nat.beq]) | (refine Gt.move ?_; refine RW.y (Y.move rfl) rfl ?_) | (refine Gt.assign ?_; refine RW.y (Y.assign rfl) rfl ?_) | (refine Gt.add ?_; (refine RW.y (Y.add64 rfl rfl (by omega) (by omega)) rfl ?_)) | (refine Gt.not ?_; (refine RW.y (Y.notb rfl) rfl ?_)))
            exact ⟨ns.length - (i + 1), _, rfl, rfl, rfl, by omega, i + 1, q, L, rfl, rfl, by omega, hI2, by rw [hsn, ← hLd, addP, hth]; rfl, by omega, hLp, hKx⟩
    · have hi : i = ns.length := by omega
      subst hi
      rw [List.take_length] at hLd
      repeat' (first | (refine CL.seq ?_) | (refine CL.region ?_) | (refine CL.condP rfl (fun _ => ?_) (fun _ => ?_) <;> try (exfalso; omega)) | (refine CL.exit ?_) | (refine Ex.then ?_) | (refine Ex.hit ?_) | (refine CL.done ?_) | (refine Nm.then ?_) | (refine Gt.nil ?_; refine RW.nilw [0, 1, 4, 5, 6, 7, 8, 9, 10, 11, 12, 13, 15, 17, 20, 24, 49, 64, 72] ?_; dsimp only [H.keep, H.look, H.Fr.put, Nat.beq]) | (refine Gt.move ?_; refine RW.y (Y.move rfl) rfl ?_) | (refine Gt.len ?_; (refine RW.y (Y.lenx rfl (by assumption)) rfl ?_)) | (refine Gt.lss ?_; refine RW.y (Y.lss rfl rfl) rfl ?_))
      exact ⟨_, rfl, rfl, rfl, q, L, rfl, hI.ga, hLd, hLi, hkr⟩
  · rintro vals wx ⟨q, L, rfl, hq, hLd, hLi, hkx⟩
    dsimp only [List.zip, List.zipWith]
    have hKx := hk1.trans0 hkx
    have hsx : Sl wx 37 q L.length (L.flatMap pmC) := hq.1
    have hML := turnP_len (tn.toNat % L.length) L
    have hMp := turnP_perm (tn.toNat % L.length) L
    have hMa := turnP_at (default : Pm) tn.toNat L
    generalize turnP (tn.toNat % L.length) L = M at *
    repeat' (first | (refine CL.seq ?_) | (refine CL.region ?_) | (refine Gt.nil ?_; refine RW.nilw [0, 1, 4, 5, 6, 7, 8, 9, 10, 11, 12, 13, 15, 17, 20, 24, 49, 64, 72] ?_; dsimp only [H.keep, H.look, H.Fr.put, Nat.beq]) | (refine Gt.assign ?_; refine RW.y (Y.assign rfl) rfl ?_))
    refine CL.cutS [5, 6] (fun vals wy => ∃ q2 : Value, vals = [q, q2] ∧ GA pmK wy q2 M ∧ K0 wx wy) (by simp) ?_ ?_
    · refine CL.block ?_
      refine CL.loopS [1, 5, 6, 11] (fun k vals wr => ∃ (j : Nat) (q2 : Value), vals = [vb tn, q, q2, .int .i64 (j : Int)] ∧ k = L.length - j ∧ j ≤ L.length ∧ GI pmK wr wx.heap.size pmT q2 (M.take j) ∧ K0 wx wr) L.length ⟨_, rfl, 0, _, rfl, rfl, Nat.zero_le _, GI.nil _ _ _ _, Kept.refl _ _⟩ ?_
      rintro k vals wr ⟨j, q2, rfl, rfl, hj, hI, hkr⟩
      dsimp only [List.zip, List.zipWith]
      have hsr := hsx.keep0 hkr
      have hzr := hkr.size
      rcases Nat.lt_or_ge j L.length with hlt | hge
      · have hmod : ((j : Int) + (tn.toNat : Int)) % (L.length : Int) = (((j + tn.toNat) % L.length : Nat) : Int) := by rw [Int.natCast_emod, Int.natCast_add]
        have hmlt : (j + tn.toNat) % L.length < L.length := Nat.mod_lt _ (by omega)
        have he0 : 0 ≤ ((j : Int) + (tn.toNat : Int)) % (L.length : Int) := by rw [hmod]; omega
        have he1 : ((j : Int) + (tn.toNat : Int)) % (L.length : Int) < L.length := by rw [hmod]; omega
        have hge1 : (((j : Int) + (tn.toNat : Int)) % (L.length : Int)).toNat = (j + tn.toNat) % L.length := by rw [hmod]; exact Int.toNat_natCast _
        have hsn := take_snoc default M j (by omega)
        rw [hMa j hlt] at hsn
        have hm1 : L.getD ((j + tn.toNat) % L.length) default ∈ L := mem_getD default hmlt
        have hD1 := pmK.keep0 (hq.2 _ hm1) hkr
        have hRl : ∀ g, pmK.R (L.getD ((j + tn.toNat) % L.length) default) g → g < wx.heap.size := fun g hg => pmK.lt _ _ g (hq.2 _ hm1) hg
        repeat' (first | (refine CL.seq ?_) | (refine CL.region ?_) | (refine CL.skip ?_) | (refine CL.condP rfl (fun _ => ?_) (fun _ => ?_) <;> try (exfalso; omega)) | (refine CL.block ?_) | (refine Gt.nil ?_; refine RW.nilw [0, 1, 4, 5, 6, 7, 8, 9, 10, 11, 12, 13, 15, 17, 20, 24, 49, 64, 72] ?_; dsimp only [H.keep, H.look, H.Fr.put, Nat.beq]) | (refine RW.elemA rfl rfl rfl rfl hsr pmC_len rfl he0 he1 (fun _ => ?_)) | (refine Gt.move ?_; refine RW.y (Y.move rfl) rfl ?_) | (refine Gt.len ?_; (refine RW.y (Y.lenx rfl (by assumption)) rfl ?_)) | (refine Gt.add ?_; (refine RW.y (Y.add64 rfl rfl (by omega) (by omega)) rfl ?_)) | (refine Gt.lss ?_; refine RW.y (Y.lss rfl rfl) rfl ?_) | (refine Gt.convert ?_; (refine RW.y (Y.convN rfl (by exact wrap64_id (by omega) (by omega))) rfl ?_)) | (refine Gt.rem ?_; (refine RW.y (Y.remP rfl rfl (by omega) (by omega)) rfl ?_)))
        rw [hge1]
        refine RW.appG pmK (L.getD ((j + tn.toNat) % L.length) default) rfl rfl rfl rfl hI rfl rfl rfl rfl hD1 (fun g hg c => by have := hRl g hg; have := (hI.lt g c).1; omega) (by omega) (by rw [List.length_take]; omega) rfl (fun q' w8 hI8 hk8 hl8 => ?_)
        rw [← hsn] at hI8
        repeat' (first | (refine CL.region ?_) | (refine CL.done ?_) | (refine Nm.block ?_) | (refine Nm.then ?_) | (refine Gt.nil ?_; refine RW.nilw [0, 1, 4, 5, 6, 7, 8, 9, 10, 11, 12, 13, 15, 17, 20, 24, 49, 64, 72] ?_; dsimp only [H.keep, H.look, H.Fr.put, Nat.beq]) | (refine Gt.move ?_; refine RW.y (Y.move rfl) rfl ?_) | (refine Gt.assign ?_; refine RW.y (Y.assign rfl) rfl ?_) | (refine Gt.add ?_; (refine RW.y (Y.add64 rfl rfl (by omega) (by omega)) rfl ?_)))
        exact ⟨L.length - (j + 1), _, rfl, rfl, rfl, by omega, j + 1, q', rfl, rfl, by omega, hI8, hkr.trans hk8 fun k h => .inr (hI.lt k h).1⟩
      · have hj2 : j = L.length := by omega
        subst hj2
        rw [List.take_of_length_le (by omega)] at hI
        repeat' (first | (refine CL.seq ?_) | (refine CL.region ?_) | (refine CL.condP rfl (fun _ => ?_) (fun _ => ?_) <;> try (exfalso; omega)) | (refine CL.exit ?_) | (refine Ex.then ?_) | (refine Ex.hit ?_) | (refine CL.done ?_) | (refine Nm.then ?_) | (refine Gt.nil ?_; refine RW.nilw [0, 1, 4, 5, 6, 7, 8, 9, 10, 11, 12, 13, 15, 17, 20, 24, 49, 64, 72] ?_; dsimp only [H.keep, H.look, H.Fr.put, Nat.beq]) | (refine Gt.move ?_; refine RW.y (Y.move rfl) rfl ?_) | (refine Gt.len ?_; (refine RW.y (Y.lenx rfl (by assumption)) rfl ?_)) | (refine Gt.lss ?_; refine RW.y (Y.lss rfl rfl) rfl ?_))
        exact ⟨_, rfl, rfl, rfl, q2, rfl, hI.ga, hkr⟩
    · rintro vals wy ⟨q2, rfl, hq2, hky⟩
      dsimp only [List.zip, List.zipWith]
      obtain ⟨hdif, hdl, hdm⟩ := dedP_ok (ns.map mkO)
      rw [← hLd] at hdif hdl hdm
      have hok : ∀ p ∈ L.map (·.d), Ok p := fun p hp => by
        obtain ⟨n, _, rfl⟩ := List.mem_map.1 (hdm p hp)
        exact mkO_ok n
      have hLl : (L.map (·.d)).length = L.length := List.length_map _
      have hF : ∀ x ∈ L, FitP x.d := fun x hx => fit_of (hok _ (List.mem_map_of_mem hx))
      have hG : ∀ x ∈ M, FitP x.d := fun x hx => hF x (hMp.mem_iff.1 hx)
      have hMd : (M.map (·.d)).Perm (L.map (·.d)) := hMp.map _
      have hlk := lock_back hok hdif (by omega) (lock_len hok (by omega))
      have hlM := lockT_order hMd (diff_perm hMd.symm hdif)
      have hsM := sort_one_order hMd (diff_perm hMd.symm hdif)
      have hlen := lock_len hok (by omega)
      have hqy := hq.keep0 hky
      have hKy := hKx.trans0 hky
      repeat' (first | (refine CL.seq ?_) | (refine CL.region ?_) | (refine Gt.move ?_; refine RW.y (Y.move rfl) rfl ?_))
      refine RW.fn rfl rfl ((text q L wy hqy (.inl (by omega)) (by omega) hF (hT.keep0 hKy)).mono ?_)
      rintro e w2 ⟨hk2, rfl⟩
      have hK2 := hKy.trans0 hk2
      repeat' (first | (refine CL.seq ?_) | (refine CL.region ?_) | (refine Gt.nil ?_; refine RW.nilw [0, 1, 4, 5, 6, 7, 8, 9, 10, 11, 12, 13, 15, 17, 20, 24, 49, 64, 72] ?_; dsimp only [H.keep, H.look, H.Fr.put, Nat.beq]) | (refine Gt.move ?_; refine RW.y (Y.move rfl) rfl ?_) | (refine Gt.assign ?_; refine RW.y (Y.assign rfl) rfl ?_))
      refine RW.fn rfl rfl ((parse _ (by omega) w2).mono ?_)
      rintro e w3 ⟨hk3, h3⟩
      rw [hlk] at h3
      obtain ⟨u3, L3, rfl, hG3, hd3⟩ := h3.out
      have hK3 := hK2.trans0 hk3
      repeat' (first | (refine CL.seq ?_) | (refine CL.region ?_) | (refine Gt.nil ?_; refine RW.nilw [0, 1, 4, 5, 6, 7, 8, 9, 10, 11, 12, 13, 15, 17, 20, 24, 49, 64, 72] ?_; dsimp only [H.keep, H.look, H.Fr.put, Nat.beq]) | (refine Gt.move ?_; refine RW.y (Y.move rfl) rfl ?_) | (refine Gt.assign ?_; refine RW.y (Y.assign rfl) rfl ?_) | (refine Gt.extract ?_; refine RW.y (Y.extract rfl rfl) rfl ?_))
      refine RW.fn rfl rfl ((text q2 M w3 ((hq2.keep0 hk2).keep0 hk3) (.inl (by omega)) (by omega) hG (hT.keep0 hK3)).mono ?_)
      rintro e w4 ⟨hk4, rfl⟩
      rw [hlM]
      have hK4 := hK3.trans0 hk4
      repeat' (first | (refine RW.y (Y.eqsS rfl rfl) rfl ?_) | (refine Gt.move ?_; refine RW.y (Y.move rfl) rfl ?_) | (refine Gt.guard ?_; first | (refine RW.part rfl rfl rfl (fun _ => ?_) (fun _ => ?_) <;> try (exfalso; omega)) | (refine RW.on rfl rfl rfl ?_)) | (refine Gt.pick ?_; (refine RW.y (Y.pickT rfl rfl) rfl ?_)) | (refine Gt.eql ?_; (refine RW.y (Y.eqi rfl rfl) rfl ?_)))
      refine RW.fn rfl rfl ((refPins q L w4 (((hqy.keep0 hk2).keep0 hk3).keep0 hk4) (by omega)).mono ?_)
      rintro e w5 ⟨hk5, u5, L5, rfl, hG5, hd5, hin5⟩
      have hG35 := (hG3.keep0 hk4).keep0 hk5
      repeat' ((refine Gt.guard ?_; (refine RW.on rfl rfl rfl ?_)))
      refine RW.fn rfl rfl ((helpPins u3 u5 L3 L5 w5 hG35 hG5 (by rw [hd3, hd5])).mono ?_)
      rintro e w6 ⟨hk6, rfl⟩
      have hK6 := (hK4.trans0 hk5).trans0 hk6
      repeat' (first | (refine Gt.move ?_; refine RW.y (Y.move rfl) rfl ?_) | (refine Gt.guard ?_; (refine RW.on rfl rfl rfl ?_)) | (refine Gt.pick ?_; (refine RW.y (Y.pickT rfl rfl) rfl ?_)))
      refine RW.fn rfl rfl ((refPins q2 M w6 (((((hq2.keep0 hk2).keep0 hk3).keep0 hk4).keep0 hk5).keep0 hk6) (by omega)).mono ?_)
      rintro e w7 ⟨hk7, u7, L7, rfl, hG7, hd7, hin7⟩
      have hK7 := hK6.trans0 hk7
      have hF3 : ∀ x ∈ L3, FitP x.d := fun x hx => by
        have h1 : x.d ∈ L3.map (·.d) := List.mem_map_of_mem hx
        rw [hd3] at h1
        exact fit_of (hok _ ((sortP_ok _).2.mem_iff.1 h1))
      have hF7 : ∀ x ∈ L7, FitP x.d := fun x hx => hG x (hin7 x hx)
      repeat' ((refine Gt.guard ?_; (refine RW.on rfl rfl rfl ?_)))
      refine RW.fn rfl rfl ((same u3 u7 L3 L7 w7 ((hG35.keep0 hk6).keep0 hk7) hG7 hF3 hF7 (hT.keep0 hK7)).mono ?_)
      rintro e w8 ⟨hk8, rfl⟩
      rw [hd3, hd7, hsM, same_self]
      repeat' (first | (refine CL.ret ?_) | (refine Gt.nil ?_; refine RW.nilw [0, 1, 4, 5, 6, 7, 8, 9, 10, 11, 12, 13, 15, 17, 20, 24, 49, 64, 72] ?_; dsimp only [H.keep, H.look, H.Fr.put, Nat.beq]) | (refine Gt.assign ?_; refine RW.y (Y.assign rfl) rfl ?_) | (refine Gt.pick ?_; (refine RW.y (Y.pickT rfl rfl) rfl ?_)))
      exact FQ.one rfl rfl rfl ⟨rfl, hK7.trans0 hk8⟩
end Go.Proofs.YtggodknolmdegaaGreatDoor.Lk

namespace Go.Proofs.YtggodknolmdegaaGreatDoor.Lk
open Go.Proofs.YtggodknolmdegaaGreatDoor.S Go.Proofs.YtggodknolmdegaaGreatDoor.Ve Go.Proofs.YtggodknolmdegaaGreatDoor.Sp
open Go

theorem rd_pre : ∀ (ps : List Pn) (rest : List T) (acc : List Pn) (n : Nat), (∀ p ∈ ps, Ok p) → Asc (acc ++ ps) → acc.length + ps.length ≤ 200 → rdPins (ps.map lineP ++ rest) acc n = rdPins rest (acc ++ ps) (n + ps.length)
  | [], rest, acc, n, _, _, _ => by simp
  | p :: ps, rest, acc, n, hok, ha, hl => by
    have h1 := (pin_read (hok p (List.mem_cons_self ..))).1
    simp only [List.length_cons] at hl
    have hc : acc.length < 200 ∧ (acc = [] ∨ Op.bytesLess (lastName acc) p.name = true) := by
      refine ⟨by omega, ?_⟩
      rcases List.eq_nil_or_concat acc with rfl | ⟨l, q, rfl⟩
      · exact .inl rfl
      · right
        have hl2 : lastName (l.concat q) = q.name := by simp [lastName]
        rw [hl2]
        exact (List.pairwise_append.1 ha).2.2 q (by simp) p (by simp)
    rw [List.map_cons, List.cons_append, rdPins, h1]
    simp only [hc, and_self, if_true]
    rw [rd_pre ps rest (acc ++ [p]) (n + 1) (fun q hq => hok q (List.mem_cons_of_mem _ hq)) (by rw [List.append_assoc]; exact ha) (by rw [List.length_append, List.length_singleton]; omega), List.append_assoc, List.length_cons, Nat.add_assoc, Nat.add_comm 1]
    rfl
theorem rd_bad {x : T} (h : pinB x = none) (r : List T) (acc : List Pn) (n : Nat) : rdPins (x :: r) acc n = ([], (n : Int), 63) := by rw [rdPins, h]
theorem rd_twice {p : Pn} (h : Ok p) (r : List T) (acc : List Pn) (n : Nat) : rdPins (lineP p :: r) (acc ++ [p]) n = ([], (n : Int), 63) := by
  rw [rdPins, (pin_read h).1]
  have hl2 : lastName (acc ++ [p]) = p.name := by simp [lastName]
  simp only
  rw [if_neg]
  rintro ⟨_, c | c⟩
  · simp at c
  · rw [hl2, show Op.bytesLess p.name p.name = false from ltT_irr _] at c; cases c

def pnL (j : Nat) : Pn := ⟨[112, UInt8.ofNat (97 + j)], ⟨1, 0, 0, []⟩, List.replicate 32 0⟩
theorem pnL_ok (j : Nat) (h : j < 8) : Ok (pnL j) := by
  refine ⟨?_, ⟨_, one_parse⟩, by simp [pnL]⟩
  have : ∀ j, j < 8 → nameB [112, UInt8.ofNat (97 + j)] = true := by decide +kernel
  exact this j h
theorem pnL_asc (k : Nat) (h : k ≤ 8) : Asc ((List.range k).map pnL) := by
  rw [Asc, List.pairwise_map]
  refine List.Pairwise.imp_of_mem (fun {a b} ha hb hab => ?_) List.pairwise_lt_range
  have h1 := List.mem_range.1 hb
  have : ∀ b, b < 8 → ∀ a, a < b → ltT [112, UInt8.ofNat (97 + a)] [112, UInt8.ofNat (97 + b)] = true := by decide +kernel
  exact this b (by omega) a hab
/-- What a line is turned into. -/
def varL (h : Nat) (x : T) : List T := match h with
  | 0 => [x, x]
  | 1 => [x.dropLast]
  | 2 => [x ++ [32]]
  | 3 => [[]]
  | 4 => [35 :: x]
  | _ => [x]
def segL (i h j : Nat) : List T := if j = i then varL h (lineP (pnL j)) else [lineP (pnL j)]
def linesL (k i h : Nat) : List T := (List.range k).flatMap (segL i h)
theorem linesL_snoc (k i h : Nat) : linesL (k + 1) i h = linesL k i h ++ segL i h k := by rw [linesL, List.range_succ, List.flatMap_append]; simp [linesL]
def textL (k i h : Nat) : T := headL ++ [10] ++ (linesL k i h).flatMap (· ++ [10])
theorem linesL_pre : ∀ (k i h : Nat), k ≤ i → linesL k i h = ((List.range k).map pnL).map lineP
  | 0, _, _, _ => rfl
  | k + 1, i, h, hk => by
    rw [linesL_snoc, linesL_pre k i h (by omega), List.range_succ, segL, if_neg (by omega)]
    simp
theorem linesL_split : ∀ (k i h : Nat), i < k → ∃ r, linesL k i h = ((List.range i).map pnL).map lineP ++ (varL h (lineP (pnL i)) ++ r) ∧ r = ((List.range' (i + 1) (k - (i + 1))).map pnL).map lineP
  | 0, _, _, hk => by omega
  | k + 1, i, h, hk => by
    rcases Nat.eq_or_lt_of_le (Nat.le_of_lt_succ hk) with e | e
    · subst e
      refine ⟨[], ?_, by simp⟩
      rw [linesL_snoc, linesL_pre i i h (Nat.le_refl _), segL, if_pos rfl, List.append_nil]
    · obtain ⟨r, h1, h2⟩ := linesL_split k i h e
      refine ⟨r ++ [lineP (pnL k)], ?_, ?_⟩
      · rw [linesL_snoc, h1, segL, if_neg (by omega)]; simp
      · rw [h2, show k + 1 - (i + 1) = (k - (i + 1)) + 1 from by omega, List.range'_concat, List.map_append, List.map_append]
        simp [show i + 1 + (k - (i + 1)) = k from by omega]
theorem line_len {p : Pn} (h : Ok p) : lineP p ≠ [] := by simp [lineP]
theorem no_ten (k i h : Nat) (hk : k ≤ 8) : ∀ x ∈ linesL k i h, (10 : UInt8) ∉ x := by
  intro x hx
  obtain ⟨j, hj, hx⟩ := List.mem_flatMap.1 hx
  have hj8 := List.mem_range.1 hj
  have h1 := (pin_read (pnL_ok j (by omega))).2
  rw [segL] at hx
  split at hx
  · unfold varL at hx
    split at hx
    · simp at hx; rw [hx]; exact h1
    · rw [List.mem_singleton.1 hx]; exact fun c => h1 (List.dropLast_subset _ c)
    · rw [List.mem_singleton.1 hx]; simp; exact h1
    · rw [List.mem_singleton.1 hx]; simp
    · rw [List.mem_singleton.1 hx]; simp; exact h1
    · rw [List.mem_singleton.1 hx]; exact h1
  · rw [List.mem_singleton.1 hx]; exact h1
theorem text_read (k i h : Nat) (hk : k ≤ 8) (hl : (textL k i h).length ≤ 65536) : lockB (textL k i h) = rdPins (linesL k i h) [] 2 := by
  have e : textL k i h = (headL :: linesL k i h).flatMap (· ++ [10]) := by rw [textL, List.flatMap_cons]
  have hs : splitB 10 (textL k i h).dropLast = headL :: linesL k i h := by rw [e]; exact split_lines headL _ (by decide) (no_ten k i h hk)
  have hla : (textL k i h).getLastD 0 = 10 := by
    rw [e]
    rcases List.eq_nil_or_concat (headL :: linesL k i h) with c | ⟨a, y, c⟩
    · cases c
    · rw [c, List.concat_eq_append, List.flatMap_append]
      simp only [List.flatMap_cons, List.flatMap_nil, List.append_nil]
      rw [← List.append_assoc]
      simp [List.getLastD_concat]
  rw [lockB, hs, if_pos ⟨hl, hla, rfl⟩]; rfl

theorem pin_short {p : Pn} (h : Ok p) : pinB (lineP p).dropLast = none := by
  obtain ⟨s, hv⟩ := h.v
  have n32 := name_no h.name (c := 32) (by decide)
  have t32 := text_no hv (c := 32) (by decide) (by decide)
  have x32 := hex_no p.sum (c := 32) (by decide)
  have hl := hexB_len p.sum
  rw [h.sum] at hl
  have e : (lineP p).dropLast = p.name ++ 32 :: (textV p.v ++ 32 :: (hexB p.sum).dropLast) := by
    have hne : hexB p.sum ≠ [] := by intro c; rw [c] at hl; simp at hl
    rw [lineP, List.dropLast_append_of_ne_nil hne]; simp
  rw [pinB, e, splitB_snocL 32 _ _ n32, splitB_snocL 32 _ _ t32, splitB_no 32 _ (fun c => x32 (List.dropLast_subset _ c))]
  have hu : unhexB (hexB p.sum).dropLast = none := by
    rw [unhexB, if_neg]; rintro ⟨c, _⟩
    rw [List.length_dropLast] at c; omega
  simp only [hu]
  split
  · split
    · rename_i q; cases q
    · rfl
  · rfl
theorem pin_four {p : Pn} (h : Ok p) : pinB (lineP p ++ [32]) = none := by
  obtain ⟨s, hv⟩ := h.v
  have n32 := name_no h.name (c := 32) (by decide)
  have t32 := text_no hv (c := 32) (by decide) (by decide)
  have x32 := hex_no p.sum (c := 32) (by decide)
  have e : lineP p ++ [32] = p.name ++ 32 :: (textV p.v ++ 32 :: (hexB p.sum ++ 32 :: [])) := by simp [lineP]
  rw [pinB, e, splitB_snocL 32 _ _ n32, splitB_snocL 32 _ _ t32, splitB_snocL 32 _ _ x32]
  rfl
theorem pin_empty : pinB [] = none := by
  have e : splitB 32 ([] : T) = [[]] := rfl
  rw [pinB, e]
theorem pin_sharp {p : Pn} (h : Ok p) : pinB (35 :: lineP p) = none := by
  obtain ⟨s, hv⟩ := h.v
  have n32 := name_no h.name (c := 32) (by decide)
  have t32 := text_no hv (c := 32) (by decide) (by decide)
  have x32 := hex_no p.sum (c := 32) (by decide)
  have e : 35 :: lineP p = (35 :: p.name) ++ 32 :: (textV p.v ++ 32 :: hexB p.sum) := by simp [lineP]
  have hn : nameB (35 :: p.name) = false := by
    rw [nameB]
    have : smallB ((35 :: p.name : T).getD 0 0) = false := by show smallB 35 = false; decide
    rw [this]; simp
  rw [pinB, e, splitB_snocL 32 _ _ (by simp [n32]), splitB_snocL 32 _ _ t32, splitB_no 32 _ x32]
  simp only [hn]
  rfl
/-- What the lines are read as. -/
theorem lines_read (k i h : Nat) (hk : k ≤ 8) (hi : i < k) (hh : h < 6) : rdPins (linesL k i h) [] 2 = if h = 5 then ((List.range k).map pnL, 0, 0) else ([], ((i + 2 + (if h = 0 then 1 else 0) : Nat) : Int), 63) := by
  obtain ⟨r, h1, h2⟩ := linesL_split k i h hi
  have hokr : ∀ m, m ≤ 8 → ∀ p ∈ (List.range m).map pnL, Ok p := fun m hm p hp => by
    obtain ⟨j, hj, rfl⟩ := List.mem_map.1 hp
    exact pnL_ok j (by have := List.mem_range.1 hj; omega)
  have hp := fun rest => rd_pre ((List.range i).map pnL) rest [] 2 (hokr i (by omega)) (by rw [List.nil_append]; exact pnL_asc i (by omega)) (by simp; omega)
  have hlen : ((List.range i).map pnL).length = i := by simp
  have hoki := pnL_ok i (by omega)
  by_cases h5 : h = 5
  · subst h5
    rw [if_pos rfl]
    have e : linesL k i 5 = ((List.range k).map pnL).map lineP := by
      have : ∀ j, segL i 5 j = [lineP (pnL j)] := fun j => by rw [segL]; split <;> rfl
      rw [linesL, List.map_map]
      have h3 : (List.range k).flatMap (segL i 5) = (List.range k).flatMap fun j => [lineP (pnL j)] := by congr 1; funext j; exact this j
      rw [h3]
      induction List.range k with
      | nil => rfl
      | cons a l ih => simp [ih]
    rw [e]
    have := rd_read ((List.range k).map pnL) [] 2 (hokr k hk) (by rw [List.nil_append]; exact pnL_asc k hk) (by simp; omega)
    rw [this, List.nil_append]
  · rw [if_neg h5, h1, hp, List.nil_append, hlen]
    rcases (by omega : h = 0 ∨ h = 1 ∨ h = 2 ∨ h = 3 ∨ h = 4) with rfl | rfl | rfl | rfl | rfl
    · rw [if_pos rfl]
      show rdPins (lineP (pnL i) :: (lineP (pnL i) :: r)) _ _ = _
      have hasc := pnL_asc (i + 1) (by omega)
      rw [List.range_succ, List.map_append, List.map_cons, List.map_nil] at hasc
      have := rd_pre [pnL i] (lineP (pnL i) :: r) ((List.range i).map pnL) (2 + i) (fun p hp => by rw [List.mem_singleton.1 hp]; exact hoki) hasc (by simp; omega)
      rw [List.map_cons, List.map_nil, List.singleton_append] at this
      rw [this, rd_twice hoki, List.length_singleton]
      congr 2; omega
    · rw [if_neg (by decide)]
      show rdPins ((lineP (pnL i)).dropLast :: r) _ _ = _
      rw [rd_bad (pin_short hoki)]; congr 2; omega
    · rw [if_neg (by decide)]
      show rdPins ((lineP (pnL i) ++ [32]) :: r) _ _ = _
      rw [rd_bad (pin_four hoki)]; congr 2; omega
    · rw [if_neg (by decide)]
      show rdPins ([] :: r) _ _ = _
      rw [rd_bad pin_empty]; congr 2; omega
    · rw [if_neg (by decide)]
      show rdPins ((35 :: lineP (pnL i)) :: r) _ _ = _
      rw [rd_bad (pin_sharp hoki)]; congr 2; omega
end Go.Proofs.YtggodknolmdegaaGreatDoor.Lk

namespace Go.Proofs.YtggodknolmdegaaGreatDoor.Lk
open Go.RowKit H S Ve
attribute [local irreducible] H.CL H.RW H.CW H.Yd H.thenK H.blockQ Go.Calls keyAt unhexB

def pinX : Pn := ⟨[120], ⟨0, 0, 0, []⟩, List.replicate 32 0⟩
theorem zero_parse : parseV (cutB 45 [48, 46, 48, 46, 48]) = some ⟨0, 0, 0, []⟩ := rfl
theorem okX' : Ok pinX := ⟨rfl, ⟨_, zero_parse⟩, rfl⟩
theorem textX : lockT [pinX] = [108, 111, 99, 107, 32, 49, 10, 120, 32, 48, 46, 48, 46, 48, 32] ++ (hexB (List.replicate 32 0) ++ [10]) := by
  have h : textV ⟨0, 0, 0, []⟩ = [48, 46, 48, 46, 48] := parse_text zero_parse
  rw [lockT, sort_one]
  simp only [List.flatMap_cons, List.flatMap_nil, List.append_nil, pinT, pinX, h, headL]
  rfl
theorem hexX : ((lockT [pinX]).take 79).drop 15 = hexB (List.replicate 32 0) := by rw [textX]; rfl
theorem lenX : (lockT [pinX]).length = 80 := by rw [textX]; rfl
theorem lineL (j : Nat) : lineP (pnL j) = [112] ++ [UInt8.ofNat (97 + j)] ++ [32, 49, 46, 48, 46, 48, 32] ++ hexB (List.replicate 32 0) := by
  have h : textV ⟨1, 0, 0, []⟩ = [49, 46, 48, 46, 48] := parse_text one_parse
  simp only [lineP, pnL, h]
  simp
theorem lineL_len (j : Nat) : (lineP (pnL j)).length = 73 := by rw [lineL]; simp [hexB_len]
theorem textL_snoc (k i h : Nat) : textL (k + 1) i h = textL k i h ++ (segL i h k).flatMap (· ++ [10]) := by rw [textL, textL, linesL_snoc, List.flatMap_append]; simp only [List.append_assoc]
theorem segL_len (i h j : Nat) : ((segL i h j).flatMap (· ++ [10])).length ≤ 200 := by
  have hl := lineL_len j
  rw [segL]
  split
  · unfold varL
    split <;> simp [hl]
  · simp [hl]
theorem textL_len : ∀ (k i h : Nat), (textL k i h).length ≤ 7 + k * 200
  | 0, _, _ => by simp [textL, linesL, headL]
  | k + 1, i, h => by
    have h1 := textL_len k i h
    have h2 := segL_len i h k
    rw [textL_snoc, List.length_append]; omega

set_option maxHeartbeats 1000000 in
theorem lawLines (n a h : UInt8) (w : World) (hT : Tb w) : Calls Tryz.prog 7 #[vb n, vb a, vb h] w fun e w' => e = .returned (.bool true) ∧ K0 w w' := by
  have hn := n.toNat_lt
  have ha := a.toNat_lt
  have hh := h.toNat_lt
  refine H.enter Tryz.func7 Tryz.ntmps7 rfl rfl ?_; dsimp only [H.args]
  repeat' (first | (refine CL.seq ?_) | (refine CL.region ?_) | (refine Gt.nil ?_; refine RW.nilw [0, 1, 2, 6, 7, 8, 9, 10, 11, 12, 13, 14, 15, 16, 17, 18, 20, 31, 48, 50, 51, 57, 64, 68, 70, 103, 106, 119] ?_; dsimp only [H.keep, H.look, H.Fr.put, Nat.beq]) | (refine Gt.assign ?_; refine RW.y (Y.assign rfl) rfl ?_))
  refine RW.fn rfl rfl ((known w hT).mono ?_)
  rintro e w1 ⟨hk1, rfl⟩
  obtain ⟨kN, hkN⟩ : ∃ k : Nat, (n.toNat : Int) % 8 + 1 = (k : Int) := ⟨n.toNat % 8 + 1, by omega⟩
  have hk8 : kN ≤ 8 := by omega
  have hk0 : 0 < kN := by omega
  obtain ⟨iN, hiN⟩ : ∃ i : Nat, (a.toNat : Int) % (kN : Int) = (i : Int) := ⟨a.toNat % kN, by rw [Int.natCast_emod]⟩
  have hi8 : iN < kN := by
    have := Int.emod_lt_of_pos (a.toNat : Int) (show 0 < (kN : Int) by omega)
    omega
  obtain ⟨hN, hhN⟩ : ∃ k : Nat, (h.toNat : Int) % 6 = (k : Int) := ⟨h.toNat % 6, by omega⟩
  have hh6 : hN < 6 := by omega
  repeat' (first | (refine CL.seq ?_) | (refine CL.region ?_) | (refine CL.skip ?_) | (refine CL.condF rfl ?_) | (refine Gt.nil ?_; refine RW.nilw [0, 1, 2, 6, 7, 8, 9, 10, 11, 12, 13, 14, 15, 16, 17, 18, 20, 31, 48, 50, 51, 57, 64, 68, 70, 103, 106, 119] ?_; dsimp only [H.keep, H.look, H.Fr.put, Nat.beq]) | (refine Gt.move ?_; refine RW.y (Y.move rfl) rfl ?_) | (refine Gt.assign ?_; refine RW.y (Y.assign rfl) rfl ?_) | (refine Gt.add ?_; (refine RW.y (Y.add64 rfl rfl (by omega) (by omega)) rfl ?_)) | (refine Gt.rem ?_; (refine RW.y (Y.remP rfl rfl (by omega) (by omega)) rfl ?_)) | (refine Gt.convert ?_; (refine RW.y (Y.convN rfl (by exact wrap64_id (by omega) (by omega))) rfl ?_)) | (refine Gt.not ?_; (refine RW.y (Y.notb rfl) rfl ?_)))
  rw [hkN, hiN]
  refine CL.cutS [2, 7, 8, 9] (fun vals wx => vals = [vb h, .int .i64 (kN : Int), .int .i64 (iN : Int), vs (textL kN iN hN)] ∧ K0 w1 wx) (by simp) ?_ ?_
  · refine CL.block ?_
    refine CL.loopS [2, 7, 8, 9, 10] (fun k vals wr => ∃ j : Nat, vals = [vb h, .int .i64 (kN : Int), .int .i64 (iN : Int), vs (textL j iN hN), .int .i64 (j : Int)] ∧ k = kN - j ∧ j ≤ kN ∧ K0 w1 wr) kN ⟨_, rfl, 0, rfl, rfl, Nat.zero_le _, Kept.refl _ _⟩ ?_
    rintro k vals wr ⟨j, rfl, rfl, hj, hkr⟩
    dsimp only [List.zip, List.zipWith]
    rcases Nat.lt_or_ge j kN with hlt | hge
    · have hch : Value.int .u8 (97 + (j : Int)) = vb (UInt8.ofNat (97 + j)) := by rw [vb, UInt8.toNat_ofNat', Nat.mod_eq_of_lt (by omega)]; rfl
      have hsn := textL_snoc j iN hN
      have htl := textL_len j iN hN
      have hle := lineL j
      have hll := lineL_len j
      have hlX := lenX
      have hhX : (hexB (List.replicate 32 0)).length = 64 := by rw [hexB_len]; rfl
      have hhX2 : ((lockT [pinX]).take (Int.toNat 79)).drop (Int.toNat 15) = hexB (List.replicate 32 0) := hexX
      have hs64 : (((lockT [pinX]).take (Int.toNat 79)).drop (Int.toNat 15)).length = 64 := by rw [hhX2]; exact hhX
      obtain ⟨X, hXd, hXp⟩ : ∃ X : Pm, X.d = pinX ∧ X.p = .slice none 0 0 := ⟨⟨pinX, .slice none 0 0, rfl⟩, rfl, rfl⟩
      repeat' (first | (refine CL.seq ?_) | (refine CL.region ?_) | (refine CL.skip ?_) | (refine CL.condP rfl (fun _ => ?_) (fun _ => ?_) <;> try (exfalso; omega)) | (refine CL.block ?_) | (refine Gt.nil ?_; refine RW.nilw [0, 1, 2, 6, 7, 8, 9, 10, 11, 12, 13, 14, 15, 16, 17, 18, 20, 31, 48, 50, 51, 57, 64, 68, 70, 103, 106, 119] ?_; dsimp only [H.keep, H.look, H.Fr.put, Nat.beq]) | (refine Gt.move ?_; refine RW.y (Y.move rfl) rfl ?_) | (refine Gt.lss ?_; refine RW.y (Y.lss rfl rfl) rfl ?_))
      refine CL.draw (fun w' => K0 wr w') (by kernel_rfl) (fun wd hheap hkd => ?_)
      have hS : K0 wr wd := hkd
      skip
      refine AW.take 0 rfl (by kernel_rfl) (by kernel_rfl) (by kernel_rfl) rfl (by assumption) (fun w hS => Y.move rfl) ?_
      refine AW.take 1 rfl (by kernel_rfl) (by kernel_rfl) (by kernel_rfl) rfl (by assumption) (fun w hS => by exact Y.add64 rfl rfl (by omega) (by omega)) ?_
      refine AW.take 2 rfl (by kernel_rfl) (by kernel_rfl) (by kernel_rfl) rfl (by assumption) (fun w hS => Y.convN rfl (wrapu8_id (by omega) (by omega))) ?_
      refine AW.take 7 rfl (by kernel_rfl) (by kernel_rfl) (by kernel_rfl) rfl (by assumption) (fun w hS => pmBuild1 X (by rw [hXd]; rfl) (by rw [hXd]; rfl) hXp (by rw [hXd]; rfl)) ?_
      refine AW.two 3 8 rfl rfl (by kernel_rfl) ?_ ?_
      · obtain ⟨gb, hgb⟩ : ∃ g, g = wd.heap.size := ⟨_, rfl⟩
        refine RW.build1 rfl rfl rfl rfl (fun wd hbe hke hlte => ?_)
        rw [← hgb] at hbe ⊢
        have hsb : Sl wd 1 (.slice (some ⟨gb, 0, none⟩) 1 1) 1 (bv [UInt8.ofNat (97 + j)]) := by
          have h := sl_new (sz := 1) (n := 1) hbe (by rfl) (by decide)
          rw [show (Value.int .u8 (97 + (j : Int))).cells.toList = [Value.int .u8 (97 + (j : Int))] from rfl, hch] at h
          exact h
        have hkr := (hkr.trans0 hS).trans0 hke
        try replace hgx := (hgx.keep0 hS).keep0 hke
        refine RW.nil (Nm.then (rebase0 hS hke fun hS => ?_))
        refine AW.take 4 rfl (by kernel_rfl) (by kernel_rfl) (by kernel_rfl) rfl (by assumption) (fun w hS => Y.strb rfl (hsb.keep0 hS)) ?_
        refine AW.take 5 rfl (by kernel_rfl) (by kernel_rfl) (by kernel_rfl) rfl (by assumption) (fun w hS => by exact Y.cat rfl rfl (by (simp only [List.length_append, List.length_cons, List.length_nil]; omega))) ?_
        refine AW.take 6 rfl (by kernel_rfl) (by kernel_rfl) (by kernel_rfl) rfl (by assumption) (fun w hS => by exact Y.cat rfl rfl (by (simp only [List.length_append, List.length_cons, List.length_nil]; omega))) ?_
        refine AW.next 8 rfl (by kernel_rfl) ?_
        obtain ⟨gx, hgx0⟩ : ∃ g, g = wd.heap.size := ⟨_, rfl⟩
        refine RW.build1 rfl (by show (pmC _).toArray.size = _; rw [List.size_toArray, pmC_len]) rfl rfl (fun wd hbe hke hlte => ?_)
        rw [← hgx0] at hbe ⊢
        have hgx : GA pmK wd (.slice (some ⟨gx, 0, none⟩) 1 1) [X] := by
          refine ⟨?_, fun y hy => ?_⟩
          · have h := sl_new (sz := 37) (n := 1) hbe (by show (pmC _).toArray.size = _; rw [List.size_toArray, pmC_len]) (by decide)
            have e : ([X] : List Pm).flatMap pmK.enc = pmC X := by simp [pmK]
            rw [e]; exact h
          · rw [List.mem_singleton.1 hy]
            show Sl wd 1 X.p X.d.v.pre.length (sv X.d.v.pre)
            rw [hXp, hXd]; exact Sl.nil _ _
        have hkr := (hkr.trans0 hS).trans0 hke
        refine RW.nil (Nm.then (rebase0 hS hke fun hS => ?_))
        refine AW.next 9 rfl (by kernel_rfl) ?_
        refine RW.fn rfl rfl ((refLockText _ [X] _ (hgx.keep0 hS) (by simp) (fun x hx => by rw [List.mem_singleton.1 hx, hXd]; exact fit_of okX')).mono ?_)
        rintro e wd ⟨hke, rfl⟩
        have hkr := (hkr.trans0 hS).trans0 hke
        rw [show [X].map (·.d) = [pinX] from by rw [List.map_cons, List.map_nil, hXd]]
        refine RW.nil (Nm.then (rebase0 hS hke fun hS => ?_))
        refine AW.take 10 rfl (by kernel_rfl) (by kernel_rfl) (by kernel_rfl) rfl (by assumption) (fun w hS => Y.cutlh rfl rfl rfl (by omega) (by omega) (by omega)) ?_
        refine AW.take 11 rfl (by kernel_rfl) (by kernel_rfl) (by kernel_rfl) rfl (by assumption) (fun w hS => by exact Y.cat rfl rfl (by (simp only [List.length_append, List.length_cons, List.length_nil]; omega))) ?_
        refine AW.take 12 rfl (by kernel_rfl) (by kernel_rfl) (by kernel_rfl) rfl (by assumption) (fun w hS => Y.assign rfl) ?_
        have hend : [112] ++ [UInt8.ofNat (97 + j)] ++ [32, 49, 46, 48, 46, 48, 32] ++ ((lockT [pinX]).take (Int.toNat 79)).drop (Int.toNat 15) = lineP (pnL j) := by rw [hhX2, hle]
        refine AW.donew [2, 7, 8, 9, 10, 11] (by kernel_rfl) ?_
        dsimp only [H.keep, H.look, H.Fr.put, Nat.beq]
        rw [hend]
        rcases Nat.lt_or_ge j iN with hji | hji
        rotate_left
        · rcases Nat.eq_or_lt_of_le hji with hji | hji
          · subst hji
            rw [segL, if_pos rfl] at hsn
            have hli : (((lineP (pnL iN)).length : Int) - 1).toNat = (lineP (pnL iN)).length - 1 := by omega
            rcases (by omega : hN = 0 ∨ hN = 1 ∨ hN = 2 ∨ hN = 3 ∨ hN = 4 ∨ hN = 5) with rfl | rfl | rfl | rfl | rfl | rfl
            · repeat' (first | (refine CL.seq ?_) | (refine CL.region ?_) | (refine CL.condP rfl (fun _ => ?_) (fun _ => ?_) <;> try (exfalso; omega)) | (refine CL.block ?_) | (refine CL.done ?_) | (refine Nm.block ?_) | (refine Nm.then ?_) | (refine Gt.nil ?_; refine RW.nilw [0, 1, 2, 6, 7, 8, 9, 10, 11, 12, 13, 14, 15, 16, 17, 18, 20, 31, 48, 50, 51, 57, 64, 68, 70, 103, 106, 119] ?_; dsimp only [H.keep, H.look, H.Fr.put, Nat.beq]) | (refine Gt.move ?_; refine RW.y (Y.move rfl) rfl ?_) | (refine Gt.assign ?_; refine RW.y (Y.assign rfl) rfl ?_) | (refine Gt.eql ?_; refine RW.y (Y.eqi rfl rfl) rfl ?_) | (refine Gt.add ?_; first | (refine RW.y (Y.cat rfl rfl (by first | omega | (simp only [List.length_append, List.length_cons, List.length_nil]; omega))) rfl ?_) | (refine RW.y (Y.add64 rfl rfl (by omega) (by omega)) rfl ?_)) | (refine Gt.rem ?_; (refine RW.y (Y.remP rfl rfl (by omega) (by omega)) rfl ?_)))
              exact ⟨kN - (iN + 1), _, rfl, rfl, rfl, by omega, iN + 1, by rw [hsn]; simp [varL], rfl, by omega, hkr.trans0 hS⟩
            · have hlt73 : ((lineP (pnL iN)).take (((lineP (pnL iN)).length : Int) - 1).toNat).length ≤ 73 := by rw [List.length_take]; omega
              repeat' (first | (refine CL.seq ?_) | (refine CL.region ?_) | (refine CL.condP rfl (fun _ => ?_) (fun _ => ?_) <;> try (exfalso; omega)) | (refine CL.block ?_) | (refine CL.done ?_) | (refine Nm.block ?_) | (refine Nm.then ?_) | (refine Gt.nil ?_; refine RW.nilw [0, 1, 2, 6, 7, 8, 9, 10, 11, 12, 13, 14, 15, 16, 17, 18, 20, 31, 48, 50, 51, 57, 64, 68, 70, 103, 106, 119] ?_; dsimp only [H.keep, H.look, H.Fr.put, Nat.beq]) | (refine Gt.move ?_; refine RW.y (Y.move rfl) rfl ?_) | (refine Gt.assign ?_; refine RW.y (Y.assign rfl) rfl ?_) | (refine Gt.eql ?_; refine RW.y (Y.eqi rfl rfl) rfl ?_) | (refine Gt.add ?_; first | (refine RW.y (Y.cat rfl rfl (by first | omega | (simp only [List.length_append, List.length_cons, List.length_nil]; omega))) rfl ?_) | (refine RW.y (Y.add64 rfl rfl (by omega) (by omega)) rfl ?_)) | (refine Gt.rem ?_; (refine RW.y (Y.remP rfl rfl (by omega) (by omega)) rfl ?_)) | (refine Gt.slice ?_; (refine RW.y (Y.cuth rfl rfl (by omega) (by omega)) rfl ?_)) | (refine Gt.len ?_; (refine RW.y (Y.lens rfl) rfl ?_)) | (refine Gt.sub ?_; refine RW.y (Y.sub64 rfl rfl (by omega) (by omega)) rfl ?_))
              exact ⟨kN - (iN + 1), _, rfl, rfl, rfl, by omega, iN + 1, by rw [hsn, hli, ← List.dropLast_eq_take]; simp [varL], rfl, by omega, hkr.trans0 hS⟩
            · repeat' (first | (refine CL.seq ?_) | (refine CL.region ?_) | (refine CL.condP rfl (fun _ => ?_) (fun _ => ?_) <;> try (exfalso; omega)) | (refine CL.block ?_) | (refine CL.done ?_) | (refine Nm.block ?_) | (refine Nm.then ?_) | (refine Gt.nil ?_; refine RW.nilw [0, 1, 2, 6, 7, 8, 9, 10, 11, 12, 13, 14, 15, 16, 17, 18, 20, 31, 48, 50, 51, 57, 64, 68, 70, 103, 106, 119] ?_; dsimp only [H.keep, H.look, H.Fr.put, Nat.beq]) | (refine Gt.move ?_; refine RW.y (Y.move rfl) rfl ?_) | (refine Gt.assign ?_; refine RW.y (Y.assign rfl) rfl ?_) | (refine Gt.eql ?_; refine RW.y (Y.eqi rfl rfl) rfl ?_) | (refine Gt.add ?_; first | (refine RW.y (Y.cat rfl rfl (by (simp only [List.length_append, List.length_cons, List.length_nil]; omega))) rfl ?_) | (refine RW.y (Y.add64 rfl rfl (by omega) (by omega)) rfl ?_)) | (refine Gt.rem ?_; (refine RW.y (Y.remP rfl rfl (by omega) (by omega)) rfl ?_)))
              exact ⟨kN - (iN + 1), _, rfl, rfl, rfl, by omega, iN + 1, by rw [hsn]; simp [varL], rfl, by omega, hkr.trans0 hS⟩
            · repeat' (first | (refine CL.seq ?_) | (refine CL.region ?_) | (refine CL.condP rfl (fun _ => ?_) (fun _ => ?_) <;> try (exfalso; omega)) | (refine CL.block ?_) | (refine CL.done ?_) | (refine Nm.block ?_) | (refine Nm.then ?_) | (refine Gt.nil ?_; refine RW.nilw [0, 1, 2, 6, 7, 8, 9, 10, 11, 12, 13, 14, 15, 16, 17, 18, 20, 31, 48, 50, 51, 57, 64, 68, 70, 103, 106, 119] ?_; dsimp only [H.keep, H.look, H.Fr.put, Nat.beq]) | (refine Gt.move ?_; refine RW.y (Y.move rfl) rfl ?_) | (refine Gt.assign ?_; refine RW.y (Y.assign rfl) rfl ?_) | (refine Gt.eql ?_; refine RW.y (Y.eqi rfl rfl) rfl ?_) | (refine Gt.add ?_; first | (refine RW.y (Y.cat rfl rfl (by (simp only [List.length_append, List.length_cons, List.length_nil]; omega))) rfl ?_) | (refine RW.y (Y.add64 rfl rfl (by omega) (by omega)) rfl ?_)) | (refine Gt.rem ?_; (refine RW.y (Y.remP rfl rfl (by omega) (by omega)) rfl ?_)))
              exact ⟨kN - (iN + 1), _, rfl, rfl, rfl, by omega, iN + 1, by rw [hsn]; simp [varL], rfl, by omega, hkr.trans0 hS⟩
            · repeat' (first | (refine CL.seq ?_) | (refine CL.region ?_) | (refine CL.condP rfl (fun _ => ?_) (fun _ => ?_) <;> try (exfalso; omega)) | (refine CL.block ?_) | (refine CL.done ?_) | (refine Nm.block ?_) | (refine Nm.then ?_) | (refine Gt.nil ?_; refine RW.nilw [0, 1, 2, 6, 7, 8, 9, 10, 11, 12, 13, 14, 15, 16, 17, 18, 20, 31, 48, 50, 51, 57, 64, 68, 70, 103, 106, 119] ?_; dsimp only [H.keep, H.look, H.Fr.put, Nat.beq]) | (refine Gt.move ?_; refine RW.y (Y.move rfl) rfl ?_) | (refine Gt.assign ?_; refine RW.y (Y.assign rfl) rfl ?_) | (refine Gt.eql ?_; refine RW.y (Y.eqi rfl rfl) rfl ?_) | (refine Gt.add ?_; first | (refine RW.y (Y.cat rfl rfl (by (simp only [List.length_append, List.length_cons, List.length_nil]; omega))) rfl ?_) | (refine RW.y (Y.add64 rfl rfl (by omega) (by omega)) rfl ?_)) | (refine Gt.rem ?_; (refine RW.y (Y.remP rfl rfl (by omega) (by omega)) rfl ?_)))
              exact ⟨kN - (iN + 1), _, rfl, rfl, rfl, by omega, iN + 1, by rw [hsn]; simp [varL], rfl, by omega, hkr.trans0 hS⟩
            · repeat' (first | (refine CL.seq ?_) | (refine CL.region ?_) | (refine CL.skip ?_) | (refine CL.condP rfl (fun _ => ?_) (fun _ => ?_) <;> try (exfalso; omega)) | (refine CL.block ?_) | (refine CL.done ?_) | (refine Nm.block ?_) | (refine Nm.then ?_) | (refine Gt.nil ?_; refine RW.nilw [0, 1, 2, 6, 7, 8, 9, 10, 11, 12, 13, 14, 15, 16, 17, 18, 20, 31, 48, 50, 51, 57, 64, 68, 70, 103, 106, 119] ?_; dsimp only [H.keep, H.look, H.Fr.put, Nat.beq]) | (refine Gt.move ?_; refine RW.y (Y.move rfl) rfl ?_) | (refine Gt.assign ?_; refine RW.y (Y.assign rfl) rfl ?_) | (refine Gt.eql ?_; refine RW.y (Y.eqi rfl rfl) rfl ?_) | (refine Gt.add ?_; first | (refine RW.y (Y.cat rfl rfl (by first | omega | (simp only [List.length_append, List.length_cons, List.length_nil]; omega))) rfl ?_) | (refine RW.y (Y.add64 rfl rfl (by omega) (by omega)) rfl ?_)) | (refine Gt.rem ?_; (refine RW.y (Y.remP rfl rfl (by omega) (by omega)) rfl ?_)))
              exact ⟨kN - (iN + 1), _, rfl, rfl, rfl, by omega, iN + 1, by rw [hsn]; simp [varL], rfl, by omega, hkr.trans0 hS⟩
          · rw [segL, if_neg (by omega)] at hsn
            repeat' (first | (refine CL.seq ?_) | (refine CL.region ?_) | (refine CL.skip ?_) | (refine CL.condP rfl (fun _ => ?_) (fun _ => ?_) <;> try (exfalso; omega)) | (refine CL.done ?_) | (refine Nm.block ?_) | (refine Nm.then ?_) | (refine Gt.nil ?_; refine RW.nilw [0, 1, 2, 6, 7, 8, 9, 10, 11, 12, 13, 14, 15, 16, 17, 18, 20, 31, 48, 50, 51, 57, 64, 68, 70, 103, 106, 119] ?_; dsimp only [H.keep, H.look, H.Fr.put, Nat.beq]) | (refine Gt.move ?_; refine RW.y (Y.move rfl) rfl ?_) | (refine Gt.assign ?_; refine RW.y (Y.assign rfl) rfl ?_) | (refine Gt.eql ?_; refine RW.y (Y.eqi rfl rfl) rfl ?_) | (refine Gt.add ?_; first | (refine RW.y (Y.cat rfl rfl (by first | omega | (simp only [List.length_append, List.length_cons, List.length_nil]; omega))) rfl ?_) | (refine RW.y (Y.add64 rfl rfl (by omega) (by omega)) rfl ?_)))
            exact ⟨kN - (j + 1), _, rfl, rfl, rfl, by omega, j + 1, by rw [hsn]; simp, rfl, by omega, hkr.trans0 hS⟩
        · rw [segL, if_neg (by omega)] at hsn
          repeat' (first | (refine CL.seq ?_) | (refine CL.region ?_) | (refine CL.skip ?_) | (refine CL.condP rfl (fun _ => ?_) (fun _ => ?_) <;> try (exfalso; omega)) | (refine CL.done ?_) | (refine Nm.block ?_) | (refine Nm.then ?_) | (refine Gt.nil ?_; refine RW.nilw [0, 1, 2, 6, 7, 8, 9, 10, 11, 12, 13, 14, 15, 16, 17, 18, 20, 31, 48, 50, 51, 57, 64, 68, 70, 103, 106, 119] ?_; dsimp only [H.keep, H.look, H.Fr.put, Nat.beq]) | (refine Gt.move ?_; refine RW.y (Y.move rfl) rfl ?_) | (refine Gt.assign ?_; refine RW.y (Y.assign rfl) rfl ?_) | (refine Gt.eql ?_; refine RW.y (Y.eqi rfl rfl) rfl ?_) | (refine Gt.add ?_; first | (refine RW.y (Y.cat rfl rfl (by first | omega | (simp only [List.length_append, List.length_cons, List.length_nil]; omega))) rfl ?_) | (refine RW.y (Y.add64 rfl rfl (by omega) (by omega)) rfl ?_)))
          exact ⟨kN - (j + 1), _, rfl, rfl, rfl, by omega, j + 1, by rw [hsn]; simp, rfl, by omega, hkr.trans0 hS⟩
      · obtain ⟨gx, hgx0⟩ : ∃ g, g = wd.heap.size := ⟨_, rfl⟩
        refine RW.build1 rfl (by show (pmC _).toArray.size = _; rw [List.size_toArray, pmC_len]) rfl rfl (fun wd hbe hke hlte => ?_)
        rw [← hgx0] at hbe ⊢
        have hgx : GA pmK wd (.slice (some ⟨gx, 0, none⟩) 1 1) [X] := by
          refine ⟨?_, fun y hy => ?_⟩
          · have h := sl_new (sz := 37) (n := 1) hbe (by show (pmC _).toArray.size = _; rw [List.size_toArray, pmC_len]) (by decide)
            have e : ([X] : List Pm).flatMap pmK.enc = pmC X := by simp [pmK]
            rw [e]; exact h
          · rw [List.mem_singleton.1 hy]
            show Sl wd 1 X.p X.d.v.pre.length (sv X.d.v.pre)
            rw [hXp, hXd]; exact Sl.nil _ _
        have hkr := (hkr.trans0 hS).trans0 hke
        refine RW.nil (Nm.then (rebase0 hS hke fun hS => ?_))
        refine AW.two 3 9 rfl rfl (by kernel_rfl) ?_ ?_
        · obtain ⟨gb, hgb⟩ : ∃ g, g = wd.heap.size := ⟨_, rfl⟩
          refine RW.build1 rfl rfl rfl rfl (fun wd hbe hke hlte => ?_)
          rw [← hgb] at hbe ⊢
          have hsb : Sl wd 1 (.slice (some ⟨gb, 0, none⟩) 1 1) 1 (bv [UInt8.ofNat (97 + j)]) := by
            have h := sl_new (sz := 1) (n := 1) hbe (by rfl) (by decide)
            rw [show (Value.int .u8 (97 + (j : Int))).cells.toList = [Value.int .u8 (97 + (j : Int))] from rfl, hch] at h
            exact h
          have hkr := (hkr.trans0 hS).trans0 hke
          try replace hgx := (hgx.keep0 hS).keep0 hke
          refine RW.nil (Nm.then (rebase0 hS hke fun hS => ?_))
          refine AW.take 4 rfl (by kernel_rfl) (by kernel_rfl) (by kernel_rfl) rfl (by assumption) (fun w hS => Y.strb rfl (hsb.keep0 hS)) ?_
          refine AW.take 5 rfl (by kernel_rfl) (by kernel_rfl) (by kernel_rfl) rfl (by assumption) (fun w hS => by exact Y.cat rfl rfl (by (simp only [List.length_append, List.length_cons, List.length_nil]; omega))) ?_
          refine AW.take 6 rfl (by kernel_rfl) (by kernel_rfl) (by kernel_rfl) rfl (by assumption) (fun w hS => by exact Y.cat rfl rfl (by (simp only [List.length_append, List.length_cons, List.length_nil]; omega))) ?_
          refine AW.next 9 rfl (by kernel_rfl) ?_
          refine RW.fn rfl rfl ((refLockText _ [X] _ (hgx.keep0 hS) (by simp) (fun x hx => by rw [List.mem_singleton.1 hx, hXd]; exact fit_of okX')).mono ?_)
          rintro e wd ⟨hke, rfl⟩
          have hkr := (hkr.trans0 hS).trans0 hke
          rw [show [X].map (·.d) = [pinX] from by rw [List.map_cons, List.map_nil, hXd]]
          refine RW.nil (Nm.then (rebase0 hS hke fun hS => ?_))
          refine AW.take 10 rfl (by kernel_rfl) (by kernel_rfl) (by kernel_rfl) rfl (by assumption) (fun w hS => Y.cutlh rfl rfl rfl (by omega) (by omega) (by omega)) ?_
          refine AW.take 11 rfl (by kernel_rfl) (by kernel_rfl) (by kernel_rfl) rfl (by assumption) (fun w hS => by exact Y.cat rfl rfl (by (simp only [List.length_append, List.length_cons, List.length_nil]; omega))) ?_
          refine AW.take 12 rfl (by kernel_rfl) (by kernel_rfl) (by kernel_rfl) rfl (by assumption) (fun w hS => Y.assign rfl) ?_
          have hend : [112] ++ [UInt8.ofNat (97 + j)] ++ [32, 49, 46, 48, 46, 48, 32] ++ ((lockT [pinX]).take (Int.toNat 79)).drop (Int.toNat 15) = lineP (pnL j) := by rw [hhX2, hle]
          refine AW.donew [2, 7, 8, 9, 10, 11] (by kernel_rfl) ?_
          dsimp only [H.keep, H.look, H.Fr.put, Nat.beq]
          rw [hend]
          rcases Nat.lt_or_ge j iN with hji | hji
          rotate_left
          · rcases Nat.eq_or_lt_of_le hji with hji | hji
            · subst hji
              rw [segL, if_pos rfl] at hsn
              have hli : (((lineP (pnL iN)).length : Int) - 1).toNat = (lineP (pnL iN)).length - 1 := by omega
              rcases (by omega : hN = 0 ∨ hN = 1 ∨ hN = 2 ∨ hN = 3 ∨ hN = 4 ∨ hN = 5) with rfl | rfl | rfl | rfl | rfl | rfl
              · repeat' (first | (refine CL.seq ?_) | (refine CL.region ?_) | (refine CL.condP rfl (fun _ => ?_) (fun _ => ?_) <;> try (exfalso; omega)) | (refine CL.block ?_) | (refine CL.done ?_) | (refine Nm.block ?_) | (refine Nm.then ?_) | (refine Gt.nil ?_; refine RW.nilw [0, 1, 2, 6, 7, 8, 9, 10, 11, 12, 13, 14, 15, 16, 17, 18, 20, 31, 48, 50, 51, 57, 64, 68, 70, 103, 106, 119] ?_; dsimp only [H.keep, H.look, H.Fr.put, Nat.beq]) | (refine Gt.move ?_; refine RW.y (Y.move rfl) rfl ?_) | (refine Gt.assign ?_; refine RW.y (Y.assign rfl) rfl ?_) | (refine Gt.eql ?_; refine RW.y (Y.eqi rfl rfl) rfl ?_) | (refine Gt.add ?_; first | (refine RW.y (Y.cat rfl rfl (by first | omega | (simp only [List.length_append, List.length_cons, List.length_nil]; omega))) rfl ?_) | (refine RW.y (Y.add64 rfl rfl (by omega) (by omega)) rfl ?_)) | (refine Gt.rem ?_; (refine RW.y (Y.remP rfl rfl (by omega) (by omega)) rfl ?_)))
                exact ⟨kN - (iN + 1), _, rfl, rfl, rfl, by omega, iN + 1, by rw [hsn]; simp [varL], rfl, by omega, hkr.trans0 hS⟩
              · have hlt73 : ((lineP (pnL iN)).take (((lineP (pnL iN)).length : Int) - 1).toNat).length ≤ 73 := by rw [List.length_take]; omega
                repeat' (first | (refine CL.seq ?_) | (refine CL.region ?_) | (refine CL.condP rfl (fun _ => ?_) (fun _ => ?_) <;> try (exfalso; omega)) | (refine CL.block ?_) | (refine CL.done ?_) | (refine Nm.block ?_) | (refine Nm.then ?_) | (refine Gt.nil ?_; refine RW.nilw [0, 1, 2, 6, 7, 8, 9, 10, 11, 12, 13, 14, 15, 16, 17, 18, 20, 31, 48, 50, 51, 57, 64, 68, 70, 103, 106, 119] ?_; dsimp only [H.keep, H.look, H.Fr.put, Nat.beq]) | (refine Gt.move ?_; refine RW.y (Y.move rfl) rfl ?_) | (refine Gt.assign ?_; refine RW.y (Y.assign rfl) rfl ?_) | (refine Gt.eql ?_; refine RW.y (Y.eqi rfl rfl) rfl ?_) | (refine Gt.add ?_; first | (refine RW.y (Y.cat rfl rfl (by first | omega | (simp only [List.length_append, List.length_cons, List.length_nil]; omega))) rfl ?_) | (refine RW.y (Y.add64 rfl rfl (by omega) (by omega)) rfl ?_)) | (refine Gt.rem ?_; (refine RW.y (Y.remP rfl rfl (by omega) (by omega)) rfl ?_)) | (refine Gt.slice ?_; (refine RW.y (Y.cuth rfl rfl (by omega) (by omega)) rfl ?_)) | (refine Gt.len ?_; (refine RW.y (Y.lens rfl) rfl ?_)) | (refine Gt.sub ?_; refine RW.y (Y.sub64 rfl rfl (by omega) (by omega)) rfl ?_))
                exact ⟨kN - (iN + 1), _, rfl, rfl, rfl, by omega, iN + 1, by rw [hsn, hli, ← List.dropLast_eq_take]; simp [varL], rfl, by omega, hkr.trans0 hS⟩
              · repeat' (first | (refine CL.seq ?_) | (refine CL.region ?_) | (refine CL.condP rfl (fun _ => ?_) (fun _ => ?_) <;> try (exfalso; omega)) | (refine CL.block ?_) | (refine CL.done ?_) | (refine Nm.block ?_) | (refine Nm.then ?_) | (refine Gt.nil ?_; refine RW.nilw [0, 1, 2, 6, 7, 8, 9, 10, 11, 12, 13, 14, 15, 16, 17, 18, 20, 31, 48, 50, 51, 57, 64, 68, 70, 103, 106, 119] ?_; dsimp only [H.keep, H.look, H.Fr.put, Nat.beq]) | (refine Gt.move ?_; refine RW.y (Y.move rfl) rfl ?_) | (refine Gt.assign ?_; refine RW.y (Y.assign rfl) rfl ?_) | (refine Gt.eql ?_; refine RW.y (Y.eqi rfl rfl) rfl ?_) | (refine Gt.add ?_; first | (refine RW.y (Y.cat rfl rfl (by (simp only [List.length_append, List.length_cons, List.length_nil]; omega))) rfl ?_) | (refine RW.y (Y.add64 rfl rfl (by omega) (by omega)) rfl ?_)) | (refine Gt.rem ?_; (refine RW.y (Y.remP rfl rfl (by omega) (by omega)) rfl ?_)))
                exact ⟨kN - (iN + 1), _, rfl, rfl, rfl, by omega, iN + 1, by rw [hsn]; simp [varL], rfl, by omega, hkr.trans0 hS⟩
              · repeat' (first | (refine CL.seq ?_) | (refine CL.region ?_) | (refine CL.condP rfl (fun _ => ?_) (fun _ => ?_) <;> try (exfalso; omega)) | (refine CL.block ?_) | (refine CL.done ?_) | (refine Nm.block ?_) | (refine Nm.then ?_) | (refine Gt.nil ?_; refine RW.nilw [0, 1, 2, 6, 7, 8, 9, 10, 11, 12, 13, 14, 15, 16, 17, 18, 20, 31, 48, 50, 51, 57, 64, 68, 70, 103, 106, 119] ?_; dsimp only [H.keep, H.look, H.Fr.put, Nat.beq]) | (refine Gt.move ?_; refine RW.y (Y.move rfl) rfl ?_) | (refine Gt.assign ?_; refine RW.y (Y.assign rfl) rfl ?_) | (refine Gt.eql ?_; refine RW.y (Y.eqi rfl rfl) rfl ?_) | (refine Gt.add ?_; first | (refine RW.y (Y.cat rfl rfl (by (simp only [List.length_append, List.length_cons, List.length_nil]; omega))) rfl ?_) | (refine RW.y (Y.add64 rfl rfl (by omega) (by omega)) rfl ?_)) | (refine Gt.rem ?_; (refine RW.y (Y.remP rfl rfl (by omega) (by omega)) rfl ?_)))
                exact ⟨kN - (iN + 1), _, rfl, rfl, rfl, by omega, iN + 1, by rw [hsn]; simp [varL], rfl, by omega, hkr.trans0 hS⟩
              · repeat' (first | (refine CL.seq ?_) | (refine CL.region ?_) | (refine CL.condP rfl (fun _ => ?_) (fun _ => ?_) <;> try (exfalso; omega)) | (refine CL.block ?_) | (refine CL.done ?_) | (refine Nm.block ?_) | (refine Nm.then ?_) | (refine Gt.nil ?_; refine RW.nilw [0, 1, 2, 6, 7, 8, 9, 10, 11, 12, 13, 14, 15, 16, 17, 18, 20, 31, 48, 50, 51, 57, 64, 68, 70, 103, 106, 119] ?_; dsimp only [H.keep, H.look, H.Fr.put, Nat.beq]) | (refine Gt.move ?_; refine RW.y (Y.move rfl) rfl ?_) | (refine Gt.assign ?_; refine RW.y (Y.assign rfl) rfl ?_) | (refine Gt.eql ?_; refine RW.y (Y.eqi rfl rfl) rfl ?_) | (refine Gt.add ?_; first | (refine RW.y (Y.cat rfl rfl (by (simp only [List.length_append, List.length_cons, List.length_nil]; omega))) rfl ?_) | (refine RW.y (Y.add64 rfl rfl (by omega) (by omega)) rfl ?_)) | (refine Gt.rem ?_; (refine RW.y (Y.remP rfl rfl (by omega) (by omega)) rfl ?_)))
                exact ⟨kN - (iN + 1), _, rfl, rfl, rfl, by omega, iN + 1, by rw [hsn]; simp [varL], rfl, by omega, hkr.trans0 hS⟩
              · repeat' (first | (refine CL.seq ?_) | (refine CL.region ?_) | (refine CL.skip ?_) | (refine CL.condP rfl (fun _ => ?_) (fun _ => ?_) <;> try (exfalso; omega)) | (refine CL.block ?_) | (refine CL.done ?_) | (refine Nm.block ?_) | (refine Nm.then ?_) | (refine Gt.nil ?_; refine RW.nilw [0, 1, 2, 6, 7, 8, 9, 10, 11, 12, 13, 14, 15, 16, 17, 18, 20, 31, 48, 50, 51, 57, 64, 68, 70, 103, 106, 119] ?_; dsimp only [H.keep, H.look, H.Fr.put, Nat.beq]) | (refine Gt.move ?_; refine RW.y (Y.move rfl) rfl ?_) | (refine Gt.assign ?_; refine RW.y (Y.assign rfl) rfl ?_) | (refine Gt.eql ?_; refine RW.y (Y.eqi rfl rfl) rfl ?_) | (refine Gt.add ?_; first | (refine RW.y (Y.cat rfl rfl (by first | omega | (simp only [List.length_append, List.length_cons, List.length_nil]; omega))) rfl ?_) | (refine RW.y (Y.add64 rfl rfl (by omega) (by omega)) rfl ?_)) | (refine Gt.rem ?_; (refine RW.y (Y.remP rfl rfl (by omega) (by omega)) rfl ?_)))
                exact ⟨kN - (iN + 1), _, rfl, rfl, rfl, by omega, iN + 1, by rw [hsn]; simp [varL], rfl, by omega, hkr.trans0 hS⟩
            · rw [segL, if_neg (by omega)] at hsn
              repeat' (first | (refine CL.seq ?_) | (refine CL.region ?_) | (refine CL.skip ?_) | (refine CL.condP rfl (fun _ => ?_) (fun _ => ?_) <;> try (exfalso; omega)) | (refine CL.done ?_) | (refine Nm.block ?_) | (refine Nm.then ?_) | (refine Gt.nil ?_; refine RW.nilw [0, 1, 2, 6, 7, 8, 9, 10, 11, 12, 13, 14, 15, 16, 17, 18, 20, 31, 48, 50, 51, 57, 64, 68, 70, 103, 106, 119] ?_; dsimp only [H.keep, H.look, H.Fr.put, Nat.beq]) | (refine Gt.move ?_; refine RW.y (Y.move rfl) rfl ?_) | (refine Gt.assign ?_; refine RW.y (Y.assign rfl) rfl ?_) | (refine Gt.eql ?_; refine RW.y (Y.eqi rfl rfl) rfl ?_) | (refine Gt.add ?_; first | (refine RW.y (Y.cat rfl rfl (by first | omega | (simp only [List.length_append, List.length_cons, List.length_nil]; omega))) rfl ?_) | (refine RW.y (Y.add64 rfl rfl (by omega) (by omega)) rfl ?_)))
              exact ⟨kN - (j + 1), _, rfl, rfl, rfl, by omega, j + 1, by rw [hsn]; simp, rfl, by omega, hkr.trans0 hS⟩
          · rw [segL, if_neg (by omega)] at hsn
            repeat' (first | (refine CL.seq ?_) | (refine CL.region ?_) | (refine CL.skip ?_) | (refine CL.condP rfl (fun _ => ?_) (fun _ => ?_) <;> try (exfalso; omega)) | (refine CL.done ?_) | (refine Nm.block ?_) | (refine Nm.then ?_) | (refine Gt.nil ?_; refine RW.nilw [0, 1, 2, 6, 7, 8, 9, 10, 11, 12, 13, 14, 15, 16, 17, 18, 20, 31, 48, 50, 51, 57, 64, 68, 70, 103, 106, 119] ?_; dsimp only [H.keep, H.look, H.Fr.put, Nat.beq]) | (refine Gt.move ?_; refine RW.y (Y.move rfl) rfl ?_) | (refine Gt.assign ?_; refine RW.y (Y.assign rfl) rfl ?_) | (refine Gt.eql ?_; refine RW.y (Y.eqi rfl rfl) rfl ?_) | (refine Gt.add ?_; first | (refine RW.y (Y.cat rfl rfl (by first | omega | (simp only [List.length_append, List.length_cons, List.length_nil]; omega))) rfl ?_) | (refine RW.y (Y.add64 rfl rfl (by omega) (by omega)) rfl ?_)))
            exact ⟨kN - (j + 1), _, rfl, rfl, rfl, by omega, j + 1, by rw [hsn]; simp, rfl, by omega, hkr.trans0 hS⟩
        · refine RW.fn rfl rfl ((refLockText _ [X] _ (hgx.keep0 hS) (by simp) (fun x hx => by rw [List.mem_singleton.1 hx, hXd]; exact fit_of okX')).mono ?_)
          rintro e wd ⟨hke, rfl⟩
          have hkr := (hkr.trans0 hS).trans0 hke
          rw [show [X].map (·.d) = [pinX] from by rw [List.map_cons, List.map_nil, hXd]]
          refine RW.nil (Nm.then (rebase0 hS hke fun hS => ?_))
          refine AW.take 10 rfl (by kernel_rfl) (by kernel_rfl) (by kernel_rfl) rfl (by assumption) (fun w hS => Y.cutlh rfl rfl rfl (by omega) (by omega) (by omega)) ?_
          refine AW.next 3 rfl (by kernel_rfl) ?_
          obtain ⟨gb, hgb⟩ : ∃ g, g = wd.heap.size := ⟨_, rfl⟩
          refine RW.build1 rfl rfl rfl rfl (fun wd hbe hke hlte => ?_)
          rw [← hgb] at hbe ⊢
          have hsb : Sl wd 1 (.slice (some ⟨gb, 0, none⟩) 1 1) 1 (bv [UInt8.ofNat (97 + j)]) := by
            have h := sl_new (sz := 1) (n := 1) hbe (by rfl) (by decide)
            rw [show (Value.int .u8 (97 + (j : Int))).cells.toList = [Value.int .u8 (97 + (j : Int))] from rfl, hch] at h
            exact h
          have hkr := (hkr.trans0 hS).trans0 hke
          try replace hgx := (hgx.keep0 hS).keep0 hke
          refine RW.nil (Nm.then (rebase0 hS hke fun hS => ?_))
          refine AW.take 4 rfl (by kernel_rfl) (by kernel_rfl) (by kernel_rfl) rfl (by assumption) (fun w hS => Y.strb rfl (hsb.keep0 hS)) ?_
          refine AW.take 5 rfl (by kernel_rfl) (by kernel_rfl) (by kernel_rfl) rfl (by assumption) (fun w hS => by exact Y.cat rfl rfl (by (simp only [List.length_append, List.length_cons, List.length_nil]; omega))) ?_
          refine AW.take 6 rfl (by kernel_rfl) (by kernel_rfl) (by kernel_rfl) rfl (by assumption) (fun w hS => by exact Y.cat rfl rfl (by (simp only [List.length_append, List.length_cons, List.length_nil]; omega))) ?_
          refine AW.take 11 rfl (by kernel_rfl) (by kernel_rfl) (by kernel_rfl) rfl (by assumption) (fun w hS => by exact Y.cat rfl rfl (by (simp only [List.length_append, List.length_cons, List.length_nil]; omega))) ?_
          refine AW.take 12 rfl (by kernel_rfl) (by kernel_rfl) (by kernel_rfl) rfl (by assumption) (fun w hS => Y.assign rfl) ?_
          have hend : [112] ++ [UInt8.ofNat (97 + j)] ++ [32, 49, 46, 48, 46, 48, 32] ++ ((lockT [pinX]).take (Int.toNat 79)).drop (Int.toNat 15) = lineP (pnL j) := by rw [hhX2, hle]
          refine AW.donew [2, 7, 8, 9, 10, 11] (by kernel_rfl) ?_
          dsimp only [H.keep, H.look, H.Fr.put, Nat.beq]
          rw [hend]
          rcases Nat.lt_or_ge j iN with hji | hji
          rotate_left
          · rcases Nat.eq_or_lt_of_le hji with hji | hji
            · subst hji
              rw [segL, if_pos rfl] at hsn
              have hli : (((lineP (pnL iN)).length : Int) - 1).toNat = (lineP (pnL iN)).length - 1 := by omega
              rcases (by omega : hN = 0 ∨ hN = 1 ∨ hN = 2 ∨ hN = 3 ∨ hN = 4 ∨ hN = 5) with rfl | rfl | rfl | rfl | rfl | rfl
              · repeat' (first | (refine CL.seq ?_) | (refine CL.region ?_) | (refine CL.condP rfl (fun _ => ?_) (fun _ => ?_) <;> try (exfalso; omega)) | (refine CL.block ?_) | (refine CL.done ?_) | (refine Nm.block ?_) | (refine Nm.then ?_) | (refine Gt.nil ?_; refine RW.nilw [0, 1, 2, 6, 7, 8, 9, 10, 11, 12, 13, 14, 15, 16, 17, 18, 20, 31, 48, 50, 51, 57, 64, 68, 70, 103, 106, 119] ?_; dsimp only [H.keep, H.look, H.Fr.put, Nat.beq]) | (refine Gt.move ?_; refine RW.y (Y.move rfl) rfl ?_) | (refine Gt.assign ?_; refine RW.y (Y.assign rfl) rfl ?_) | (refine Gt.eql ?_; refine RW.y (Y.eqi rfl rfl) rfl ?_) | (refine Gt.add ?_; first | (refine RW.y (Y.cat rfl rfl (by first | omega | (simp only [List.length_append, List.length_cons, List.length_nil]; omega))) rfl ?_) | (refine RW.y (Y.add64 rfl rfl (by omega) (by omega)) rfl ?_)) | (refine Gt.rem ?_; (refine RW.y (Y.remP rfl rfl (by omega) (by omega)) rfl ?_)))
                exact ⟨kN - (iN + 1), _, rfl, rfl, rfl, by omega, iN + 1, by rw [hsn]; simp [varL], rfl, by omega, hkr.trans0 hS⟩
              · have hlt73 : ((lineP (pnL iN)).take (((lineP (pnL iN)).length : Int) - 1).toNat).length ≤ 73 := by rw [List.length_take]; omega
                repeat' (first | (refine CL.seq ?_) | (refine CL.region ?_) | (refine CL.condP rfl (fun _ => ?_) (fun _ => ?_) <;> try (exfalso; omega)) | (refine CL.block ?_) | (refine CL.done ?_) | (refine Nm.block ?_) | (refine Nm.then ?_) | (refine Gt.nil ?_; refine RW.nilw [0, 1, 2, 6, 7, 8, 9, 10, 11, 12, 13, 14, 15, 16, 17, 18, 20, 31, 48, 50, 51, 57, 64, 68, 70, 103, 106, 119] ?_; dsimp only [H.keep, H.look, H.Fr.put, Nat.beq]) | (refine Gt.move ?_; refine RW.y (Y.move rfl) rfl ?_) | (refine Gt.assign ?_; refine RW.y (Y.assign rfl) rfl ?_) | (refine Gt.eql ?_; refine RW.y (Y.eqi rfl rfl) rfl ?_) | (refine Gt.add ?_; first | (refine RW.y (Y.cat rfl rfl (by first | omega | (simp only [List.length_append, List.length_cons, List.length_nil]; omega))) rfl ?_) | (refine RW.y (Y.add64 rfl rfl (by omega) (by omega)) rfl ?_)) | (refine Gt.rem ?_; (refine RW.y (Y.remP rfl rfl (by omega) (by omega)) rfl ?_)) | (refine Gt.slice ?_; (refine RW.y (Y.cuth rfl rfl (by omega) (by omega)) rfl ?_)) | (refine Gt.len ?_; (refine RW.y (Y.lens rfl) rfl ?_)) | (refine Gt.sub ?_; refine RW.y (Y.sub64 rfl rfl (by omega) (by omega)) rfl ?_))
                exact ⟨kN - (iN + 1), _, rfl, rfl, rfl, by omega, iN + 1, by rw [hsn, hli, ← List.dropLast_eq_take]; simp [varL], rfl, by omega, hkr.trans0 hS⟩
              · repeat' (first | (refine CL.seq ?_) | (refine CL.region ?_) | (refine CL.condP rfl (fun _ => ?_) (fun _ => ?_) <;> try (exfalso; omega)) | (refine CL.block ?_) | (refine CL.done ?_) | (refine Nm.block ?_) | (refine Nm.then ?_) | (refine Gt.nil ?_; refine RW.nilw [0, 1, 2, 6, 7, 8, 9, 10, 11, 12, 13, 14, 15, 16, 17, 18, 20, 31, 48, 50, 51, 57, 64, 68, 70, 103, 106, 119] ?_; dsimp only [H.keep, H.look, H.Fr.put, Nat.beq]) | (refine Gt.move ?_; refine RW.y (Y.move rfl) rfl ?_) | (refine Gt.assign ?_; refine RW.y (Y.assign rfl) rfl ?_) | (refine Gt.eql ?_; refine RW.y (Y.eqi rfl rfl) rfl ?_) | (refine Gt.add ?_; first | (refine RW.y (Y.cat rfl rfl (by (simp only [List.length_append, List.length_cons, List.length_nil]; omega))) rfl ?_) | (refine RW.y (Y.add64 rfl rfl (by omega) (by omega)) rfl ?_)) | (refine Gt.rem ?_; (refine RW.y (Y.remP rfl rfl (by omega) (by omega)) rfl ?_)))
                exact ⟨kN - (iN + 1), _, rfl, rfl, rfl, by omega, iN + 1, by rw [hsn]; simp [varL], rfl, by omega, hkr.trans0 hS⟩
              · repeat' (first | (refine CL.seq ?_) | (refine CL.region ?_) | (refine CL.condP rfl (fun _ => ?_) (fun _ => ?_) <;> try (exfalso; omega)) | (refine CL.block ?_) | (refine CL.done ?_) | (refine Nm.block ?_) | (refine Nm.then ?_) | (refine Gt.nil ?_; refine RW.nilw [0, 1, 2, 6, 7, 8, 9, 10, 11, 12, 13, 14, 15, 16, 17, 18, 20, 31, 48, 50, 51, 57, 64, 68, 70, 103, 106, 119] ?_; dsimp only [H.keep, H.look, H.Fr.put, Nat.beq]) | (refine Gt.move ?_; refine RW.y (Y.move rfl) rfl ?_) | (refine Gt.assign ?_; refine RW.y (Y.assign rfl) rfl ?_) | (refine Gt.eql ?_; refine RW.y (Y.eqi rfl rfl) rfl ?_) | (refine Gt.add ?_; first | (refine RW.y (Y.cat rfl rfl (by (simp only [List.length_append, List.length_cons, List.length_nil]; omega))) rfl ?_) | (refine RW.y (Y.add64 rfl rfl (by omega) (by omega)) rfl ?_)) | (refine Gt.rem ?_; (refine RW.y (Y.remP rfl rfl (by omega) (by omega)) rfl ?_)))
                exact ⟨kN - (iN + 1), _, rfl, rfl, rfl, by omega, iN + 1, by rw [hsn]; simp [varL], rfl, by omega, hkr.trans0 hS⟩
              · repeat' (first | (refine CL.seq ?_) | (refine CL.region ?_) | (refine CL.condP rfl (fun _ => ?_) (fun _ => ?_) <;> try (exfalso; omega)) | (refine CL.block ?_) | (refine CL.done ?_) | (refine Nm.block ?_) | (refine Nm.then ?_) | (refine Gt.nil ?_; refine RW.nilw [0, 1, 2, 6, 7, 8, 9, 10, 11, 12, 13, 14, 15, 16, 17, 18, 20, 31, 48, 50, 51, 57, 64, 68, 70, 103, 106, 119] ?_; dsimp only [H.keep, H.look, H.Fr.put, Nat.beq]) | (refine Gt.move ?_; refine RW.y (Y.move rfl) rfl ?_) | (refine Gt.assign ?_; refine RW.y (Y.assign rfl) rfl ?_) | (refine Gt.eql ?_; refine RW.y (Y.eqi rfl rfl) rfl ?_) | (refine Gt.add ?_; first | (refine RW.y (Y.cat rfl rfl (by (simp only [List.length_append, List.length_cons, List.length_nil]; omega))) rfl ?_) | (refine RW.y (Y.add64 rfl rfl (by omega) (by omega)) rfl ?_)) | (refine Gt.rem ?_; (refine RW.y (Y.remP rfl rfl (by omega) (by omega)) rfl ?_)))
                exact ⟨kN - (iN + 1), _, rfl, rfl, rfl, by omega, iN + 1, by rw [hsn]; simp [varL], rfl, by omega, hkr.trans0 hS⟩
              · repeat' (first | (refine CL.seq ?_) | (refine CL.region ?_) | (refine CL.skip ?_) | (refine CL.condP rfl (fun _ => ?_) (fun _ => ?_) <;> try (exfalso; omega)) | (refine CL.block ?_) | (refine CL.done ?_) | (refine Nm.block ?_) | (refine Nm.then ?_) | (refine Gt.nil ?_; refine RW.nilw [0, 1, 2, 6, 7, 8, 9, 10, 11, 12, 13, 14, 15, 16, 17, 18, 20, 31, 48, 50, 51, 57, 64, 68, 70, 103, 106, 119] ?_; dsimp only [H.keep, H.look, H.Fr.put, Nat.beq]) | (refine Gt.move ?_; refine RW.y (Y.move rfl) rfl ?_) | (refine Gt.assign ?_; refine RW.y (Y.assign rfl) rfl ?_) | (refine Gt.eql ?_; refine RW.y (Y.eqi rfl rfl) rfl ?_) | (refine Gt.add ?_; first | (refine RW.y (Y.cat rfl rfl (by first | omega | (simp only [List.length_append, List.length_cons, List.length_nil]; omega))) rfl ?_) | (refine RW.y (Y.add64 rfl rfl (by omega) (by omega)) rfl ?_)) | (refine Gt.rem ?_; (refine RW.y (Y.remP rfl rfl (by omega) (by omega)) rfl ?_)))
                exact ⟨kN - (iN + 1), _, rfl, rfl, rfl, by omega, iN + 1, by rw [hsn]; simp [varL], rfl, by omega, hkr.trans0 hS⟩
            · rw [segL, if_neg (by omega)] at hsn
              repeat' (first | (refine CL.seq ?_) | (refine CL.region ?_) | (refine CL.skip ?_) | (refine CL.condP rfl (fun _ => ?_) (fun _ => ?_) <;> try (exfalso; omega)) | (refine CL.done ?_) | (refine Nm.block ?_) | (refine Nm.then ?_) | (refine Gt.nil ?_; refine RW.nilw [0, 1, 2, 6, 7, 8, 9, 10, 11, 12, 13, 14, 15, 16, 17, 18, 20, 31, 48, 50, 51, 57, 64, 68, 70, 103, 106, 119] ?_; dsimp only [H.keep, H.look, H.Fr.put, Nat.beq]) | (refine Gt.move ?_; refine RW.y (Y.move rfl) rfl ?_) | (refine Gt.assign ?_; refine RW.y (Y.assign rfl) rfl ?_) | (refine Gt.eql ?_; refine RW.y (Y.eqi rfl rfl) rfl ?_) | (refine Gt.add ?_; first | (refine RW.y (Y.cat rfl rfl (by first | omega | (simp only [List.length_append, List.length_cons, List.length_nil]; omega))) rfl ?_) | (refine RW.y (Y.add64 rfl rfl (by omega) (by omega)) rfl ?_)))
              exact ⟨kN - (j + 1), _, rfl, rfl, rfl, by omega, j + 1, by rw [hsn]; simp, rfl, by omega, hkr.trans0 hS⟩
          · rw [segL, if_neg (by omega)] at hsn
            repeat' (first | (refine CL.seq ?_) | (refine CL.region ?_) | (refine CL.skip ?_) | (refine CL.condP rfl (fun _ => ?_) (fun _ => ?_) <;> try (exfalso; omega)) | (refine CL.done ?_) | (refine Nm.block ?_) | (refine Nm.then ?_) | (refine Gt.nil ?_; refine RW.nilw [0, 1, 2, 6, 7, 8, 9, 10, 11, 12, 13, 14, 15, 16, 17, 18, 20, 31, 48, 50, 51, 57, 64, 68, 70, 103, 106, 119] ?_; dsimp only [H.keep, H.look, H.Fr.put, Nat.beq]) | (refine Gt.move ?_; refine RW.y (Y.move rfl) rfl ?_) | (refine Gt.assign ?_; refine RW.y (Y.assign rfl) rfl ?_) | (refine Gt.eql ?_; refine RW.y (Y.eqi rfl rfl) rfl ?_) | (refine Gt.add ?_; first | (refine RW.y (Y.cat rfl rfl (by first | omega | (simp only [List.length_append, List.length_cons, List.length_nil]; omega))) rfl ?_) | (refine RW.y (Y.add64 rfl rfl (by omega) (by omega)) rfl ?_)))
            exact ⟨kN - (j + 1), _, rfl, rfl, rfl, by omega, j + 1, by rw [hsn]; simp, rfl, by omega, hkr.trans0 hS⟩
    · have hj2 : j = kN := by omega
      subst hj2
      repeat' (first | (refine CL.seq ?_) | (refine CL.region ?_) | (refine CL.condP rfl (fun _ => ?_) (fun _ => ?_) <;> try (exfalso; omega)) | (refine CL.exit ?_) | (refine Ex.then ?_) | (refine Ex.hit ?_) | (refine CL.done ?_) | (refine Nm.then ?_) | (refine Gt.nil ?_; refine RW.nilw [0, 1, 2, 6, 7, 8, 9, 10, 11, 12, 13, 14, 15, 16, 17, 18, 20, 31, 48, 50, 51, 57, 64, 68, 70, 103, 106, 119] ?_; dsimp only [H.keep, H.look, H.Fr.put, Nat.beq]) | (refine Gt.move ?_; refine RW.y (Y.move rfl) rfl ?_) | (refine Gt.lss ?_; refine RW.y (Y.lss rfl rfl) rfl ?_))
      exact ⟨_, rfl, rfl, rfl, rfl, hkr⟩
  · rintro vals wx ⟨rfl, hkx⟩
    dsimp only [List.zip, List.zipWith]
    have htl := textL_len kN iN hN
    have hrd := text_read kN iN hN hk8 (by omega)
    rw [lines_read kN iN hN hk8 hi8 hh6] at hrd
    generalize textL kN iN hN = s at *
    have hKx := hk1.trans0 hkx
    repeat' (first | (refine CL.seq ?_) | (refine CL.region ?_) | (refine Gt.move ?_; refine RW.y (Y.move rfl) rfl ?_))
    refine RW.fn rfl rfl ((parse s (by omega) wx).mono ?_)
    rintro e w2 ⟨hk2, h2⟩
    rw [hrd] at h2
    by_cases h5 : hN = 5
    · subst h5
      rw [if_pos rfl] at h2 hrd
      obtain ⟨u2, L2, rfl, hG2, hd2⟩ := h2.out
      repeat' (first | (refine CL.seq ?_) | (refine CL.region ?_) | (refine Gt.nil ?_; refine RW.nilw [0, 1, 2, 6, 7, 8, 9, 10, 11, 12, 13, 14, 15, 16, 17, 18, 20, 31, 48, 50, 51, 57, 64, 68, 70, 103, 106, 119] ?_; dsimp only [H.keep, H.look, H.Fr.put, Nat.beq]) | (refine Gt.move ?_; refine RW.y (Y.move rfl) rfl ?_) | (refine Gt.assign ?_; refine RW.y (Y.assign rfl) rfl ?_) | (refine Gt.extract ?_; refine RW.y (Y.extract rfl rfl) rfl ?_))
      refine RW.fn rfl rfl ((refLockOf s (by omega) w2).mono ?_)
      rintro e w3 ⟨hk3, h3⟩
      rw [hrd] at h3
      obtain ⟨u3, L3, rfl, hG3, hd3⟩ := h3.out
      have hG23 := hG2.keep0 hk3
      repeat' (first | (refine CL.seq ?_) | (refine CL.region ?_) | (refine Gt.nil ?_; refine RW.nilw [0, 1, 2, 6, 7, 8, 9, 10, 11, 12, 13, 14, 15, 16, 17, 18, 20, 31, 48, 50, 51, 57, 64, 68, 70, 103, 106, 119] ?_; dsimp only [H.keep, H.look, H.Fr.put, Nat.beq]) | (refine RW.y (Y.neiS rfl rfl) rfl ?_) | (refine Gt.move ?_; refine RW.y (Y.move rfl) rfl ?_) | (refine Gt.guard ?_; (refine RW.on rfl rfl rfl ?_)) | (refine Gt.assign ?_; refine RW.y (Y.assign rfl) rfl ?_) | (refine Gt.extract ?_; refine RW.y (Y.extract rfl rfl) rfl ?_) | (refine Gt.pick ?_; (refine RW.y (Y.pickF rfl rfl) rfl ?_)))
      refine RW.fn rfl rfl ((helpPins u2 u3 L2 L3 w3 hG23 hG3 (by rw [hd2, hd3])).mono ?_)
      rintro e w4 ⟨hk4, rfl⟩
      have hs4 : Sl w4 37 u2 L2.length (L2.flatMap pmC) := hG23.1.keep0 hk4
      have hl2 : L2.length = kN := by
        have := congrArg List.length hd2
        simpa using this
      rw [hl2] at hs4
      repeat' (first | (refine CL.seq ?_) | (refine CL.region ?_) | (refine CL.skip ?_) | (refine CL.condP rfl (fun _ => ?_) (fun _ => ?_) <;> try (exfalso; omega)) | (refine CL.condF rfl ?_) | (refine CL.ret ?_) | (refine Gt.nil ?_; refine RW.nilw [0, 1, 2, 6, 7, 8, 9, 10, 11, 12, 13, 14, 15, 16, 17, 18, 20, 31, 48, 50, 51, 57, 64, 68, 70, 103, 106, 119] ?_; dsimp only [H.keep, H.look, H.Fr.put, Nat.beq]) | (refine RW.y (Y.eqiS rfl rfl) rfl ?_) | (refine Gt.move ?_; refine RW.y (Y.move rfl) rfl ?_) | (refine Gt.guard ?_; (refine RW.on rfl rfl rfl ?_)) | (refine Gt.assign ?_; refine RW.y (Y.assign rfl) rfl ?_) | (refine Gt.eql ?_; refine RW.y (Y.eqi rfl rfl) rfl ?_) | (refine Gt.rem ?_; (refine RW.y (Y.remP rfl rfl (by omega) (by omega)) rfl ?_)) | (refine Gt.pick ?_; first | (refine RW.y (Y.pickT rfl rfl) rfl ?_) | (refine RW.y (Y.pickF rfl rfl) rfl ?_)) | (refine Gt.not ?_; (refine RW.y (Y.notb rfl) rfl ?_)) | (refine Gt.len ?_; (refine RW.y (Y.lenx rfl (by assumption)) rfl ?_)))
      exact FQ.one rfl rfl rfl ⟨rfl, ((hKx.trans0 hk2).trans0 hk3).trans0 hk4⟩
    · rw [if_neg h5] at h2 hrd
      obtain ⟨u2, L2, rfl, hG2, hd2⟩ := h2.out
      repeat' (first | (refine CL.seq ?_) | (refine CL.region ?_) | (refine Gt.nil ?_; refine RW.nilw [0, 1, 2, 6, 7, 8, 9, 10, 11, 12, 13, 14, 15, 16, 17, 18, 20, 31, 48, 50, 51, 57, 64, 68, 70, 103, 106, 119] ?_; dsimp only [H.keep, H.look, H.Fr.put, Nat.beq]) | (refine Gt.move ?_; refine RW.y (Y.move rfl) rfl ?_) | (refine Gt.assign ?_; refine RW.y (Y.assign rfl) rfl ?_) | (refine Gt.extract ?_; refine RW.y (Y.extract rfl rfl) rfl ?_))
      refine RW.fn rfl rfl ((refLockOf s (by omega) w2).mono ?_)
      rintro e w3 ⟨hk3, h3⟩
      rw [hrd] at h3
      obtain ⟨u3, L3, rfl, hG3, hd3⟩ := h3.out
      have hG23 := hG2.keep0 hk3
      repeat' (first | (refine CL.seq ?_) | (refine CL.region ?_) | (refine Gt.nil ?_; refine RW.nilw [0, 1, 2, 6, 7, 8, 9, 10, 11, 12, 13, 14, 15, 16, 17, 18, 20, 31, 48, 50, 51, 57, 64, 68, 70, 103, 106, 119] ?_; dsimp only [H.keep, H.look, H.Fr.put, Nat.beq]) | (refine RW.y (Y.neiS rfl rfl) rfl ?_) | (refine Gt.move ?_; refine RW.y (Y.move rfl) rfl ?_) | (refine Gt.guard ?_; (refine RW.on rfl rfl rfl ?_)) | (refine Gt.assign ?_; refine RW.y (Y.assign rfl) rfl ?_) | (refine Gt.extract ?_; refine RW.y (Y.extract rfl rfl) rfl ?_) | (refine Gt.pick ?_; (refine RW.y (Y.pickF rfl rfl) rfl ?_)))
      refine RW.fn rfl rfl ((helpPins u2 u3 L2 L3 w3 hG23 hG3 (by rw [hd2, hd3])).mono ?_)
      rintro e w4 ⟨hk4, rfl⟩
      by_cases h0 : hN = 0
      · rw [if_pos h0]
        repeat' (first | (refine CL.seq ?_) | (refine CL.region ?_) | (refine CL.skip ?_) | (refine CL.condP rfl (fun _ => ?_) (fun _ => ?_) <;> try (exfalso; omega)) | (refine CL.condF rfl ?_) | (refine CL.ret ?_) | (refine Gt.nil ?_; refine RW.nilw [0, 1, 2, 6, 7, 8, 9, 10, 11, 12, 13, 14, 15, 16, 17, 18, 20, 31, 48, 50, 51, 57, 64, 68, 70, 103, 106, 119] ?_; dsimp only [H.keep, H.look, H.Fr.put, Nat.beq]) | (refine Gt.move ?_; refine RW.y (Y.move rfl) rfl ?_) | (refine Gt.guard ?_; first | (refine RW.part rfl rfl rfl (fun _ => ?_) (fun _ => ?_) <;> try (exfalso; omega)) | (refine RW.on rfl rfl rfl ?_)) | (refine Gt.assign ?_; refine RW.y (Y.assign rfl) rfl ?_) | (refine Gt.eql ?_; refine RW.y (Y.eqi rfl rfl) rfl ?_) | (refine Gt.add ?_; (refine RW.y (Y.add64 rfl rfl (by omega) (by omega)) rfl ?_)) | (refine Gt.rem ?_; (refine RW.y (Y.remP rfl rfl (by omega) (by omega)) rfl ?_)) | (refine Gt.pick ?_; first | (refine RW.y (Y.pickT rfl rfl) rfl ?_) | (refine RW.y (Y.pickF rfl rfl) rfl ?_)) | (refine Gt.not ?_; (refine RW.y (Y.notb rfl) rfl ?_)))
        exact FQ.one rfl rfl rfl ⟨by rw [decide_eq_true (by omega)], ((hKx.trans0 hk2).trans0 hk3).trans0 hk4⟩
      · rw [if_neg h0]
        repeat' (first | (refine CL.seq ?_) | (refine CL.region ?_) | (refine CL.skip ?_) | (refine CL.condP rfl (fun _ => ?_) (fun _ => ?_) <;> try (exfalso; omega)) | (refine CL.condF rfl ?_) | (refine CL.ret ?_) | (refine Gt.nil ?_; refine RW.nilw [0, 1, 2, 6, 7, 8, 9, 10, 11, 12, 13, 14, 15, 16, 17, 18, 20, 31, 48, 50, 51, 57, 64, 68, 70, 103, 106, 119] ?_; dsimp only [H.keep, H.look, H.Fr.put, Nat.beq]) | (refine Gt.move ?_; refine RW.y (Y.move rfl) rfl ?_) | (refine Gt.guard ?_; first | (refine RW.part rfl rfl rfl (fun _ => ?_) (fun _ => ?_) <;> try (exfalso; omega)) | (refine RW.on rfl rfl rfl ?_)) | (refine Gt.assign ?_; refine RW.y (Y.assign rfl) rfl ?_) | (refine Gt.eql ?_; refine RW.y (Y.eqi rfl rfl) rfl ?_) | (refine Gt.add ?_; (refine RW.y (Y.add64 rfl rfl (by omega) (by omega)) rfl ?_)) | (refine Gt.rem ?_; (refine RW.y (Y.remP rfl rfl (by omega) (by omega)) rfl ?_)) | (refine Gt.pick ?_; first | (refine RW.y (Y.pickT rfl rfl) rfl ?_) | (refine RW.y (Y.pickF rfl rfl) rfl ?_)) | (refine Gt.not ?_; (refine RW.y (Y.notb rfl) rfl ?_)))
        exact FQ.one rfl rfl rfl ⟨by rw [decide_eq_true (by omega)], ((hKx.trans0 hk2).trans0 hk3).trans0 hk4⟩
end Go.Proofs.YtggodknolmdegaaGreatDoor.Lk

namespace Go.Proofs.YtggodknolmdegaaGreatDoor.H
open Go.ChangeShapes Go.WideShapes Go.RowKit

/-- What a reading of a type's cells tells. -/
class Opn (P : Program) (t : TypeId) (α : outParam Type) (en : outParam (α → List Value)) (ok : outParam (World → α → Prop)) : Prop where
  out : ∀ (H : Type) (enc : TypeId × Value → H) (W : World) (fuel : Nat) (cs : List Value) (x : DataW H × List MemPlace), DataW.trod enc P W 0 (fun _ => true) true fuel t cs = some x → ∃ a, cs = en a ∧ ok W a
class Cel (P : Program) (t : TypeId) (n : outParam Nat) : Prop where out : P.cellsOf t = n
theorem Cel.of {P : Program} {t : TypeId} {z : Value} {s b : Nat} [h : Inf P t z s b] : Cel P t s := ⟨by
  have h := h.out
  cases hi : P.info? t with
  | none => simp [hi] at h
  | some i =>
    simp only [hi, Option.map_some, Option.some.injEq, Prod.mk.injEq] at h
    simp [Program.cellsOf, hi, h.2.1]⟩
instance {P : Program} {t : TypeId} {z : Value} {s b : Nat} [h : Inf P t z s b] : Cel P t s := Cel.of
class CelS (P : Program) (t : TypeId) (n : outParam Nat) : Prop where
  out : P.cellsOf t = n
  pos : 0 < n

theorem wf_of {k : IntKind} {n : Int} (h : (Lit.int k n).wf = true) : k.min ≤ n ∧ n ≤ k.max := by
  simpa [Lit.wf] using h

instance (priority := low) {P : Program} {t : TypeId} {k : IntKind} [h : Und P t (.int k)] : Opn P t Int (fun n => [.int k n]) (fun _ n => k.min ≤ n ∧ n ≤ k.max) := ⟨fun _ _ _ _ _ _ hx => by
  obtain ⟨n, rfl, rfl, hw⟩ := DataW.trod_int h.out hx
  exact ⟨n, rfl, wf_of hw⟩⟩
instance {P : Program} {t : TypeId} [h : Und P t (.int .i64)] : Opn P t Int (fun n => [.int .i64 n]) (fun _ n => -9223372036854775808 ≤ n ∧ n ≤ 9223372036854775807) := ⟨fun _ _ _ _ _ _ hx => by
  obtain ⟨n, rfl, rfl, hw⟩ := DataW.trod_int h.out hx
  exact ⟨n, rfl, bounds_i64 hw⟩⟩
instance {P : Program} {t : TypeId} [h : Und P t (.int .u64)] : Opn P t Nat (fun n => [.int .u64 (n : Int)]) (fun _ n => n < 18446744073709551616) := ⟨fun _ _ _ _ _ _ hx => by
  obtain ⟨n, rfl, rfl, hw⟩ := DataW.trod_int h.out hx
  have := bounds_u64 hw
  exact ⟨n.toNat, by rw [Int.toNat_of_nonneg this.1], by omega⟩⟩
instance {P : Program} {t : TypeId} [h : Und P t (.int .u8)] : Opn P t UInt8 (fun n => [vb n]) (fun _ _ => True) := ⟨fun _ _ _ _ _ _ hx => by
  obtain ⟨n, rfl, rfl, hw⟩ := DataW.trod_int h.out hx
  have := bounds_u8 hw
  refine ⟨UInt8.ofNat n.toNat, ?_, trivial⟩
  simp only [vb, UInt8.toNat_ofNat']
  congr 2
  omega⟩
instance {P : Program} {t : TypeId} [h : Und P t .bool] : Opn P t Bool (fun b => [.bool b]) (fun _ _ => True) := ⟨fun _ _ _ _ _ _ hx => by
  obtain ⟨n, rfl, rfl⟩ := DataW.trod_bool h.out hx
  exact ⟨n, rfl, trivial⟩⟩
instance {P : Program} {t : TypeId} [h : Und P t .string] : Opn P t (List UInt8) (fun s => [vs s]) (fun _ s => s.length ≤ 9223372036854775807) := ⟨fun _ _ _ _ _ _ hx => by
  obtain ⟨s, rfl, rfl, hw⟩ := DataW.trod_string h.out hx
  refine ⟨s.data.toList, rfl, ?_⟩
  simpa [maxLen] using hw⟩

theorem addr_none {w : World} {a : Addr} {v : Value} (h : w.cell? a = some v) : ∃ c e fz, w.heap[a.block]? = some (.cells c e fz) ∧ a.spot = none ∧ c[a.off]? = some v := by
  unfold World.cell? at h
  split at h
  · rename_i c e fz hc
    split at h
    · cases h
    · rename_i hs
      exact ⟨c, e, fz, hc, by simpa using hs, h⟩
  · cases h

theorem list_grow {L cs : List Value} {off k sz : Nat} (hl : cs.length = sz) (h : ∀ j, j < sz → L[off + k * sz + j]? = cs[j]?) : (L.drop off).take ((k + 1) * sz) = (L.drop off).take (k * sz) ++ cs := by
  rw [Nat.succ_mul, List.take_add]
  congr 1
  apply List.ext_getElem?
  intro j
  rw [List.getElem?_take]
  split
  · rename_i hj
    rw [List.drop_drop, List.getElem?_drop]
    exact h j hj
  · rename_i hj
    rw [List.getElem?_eq_none (by omega)]

/-- A slice's reading. -/
instance {P : Program} {t e : TypeId} {sz : Nat} [h : Und P t (.slice e)] [hc : CelS P e sz] {β : Type} {en : β → List Value} {ok : World → β → Prop} [ho : Opn P e β en ok] :
    Opn P t (Value × List β) (fun p => [p.1]) (fun W p => Sl W sz p.1 p.2.length (p.2.flatMap en) ∧ ∀ x ∈ p.2, ok W x) := ⟨fun H enc W fuel cs x hx => by
  have hpos := hc.pos
  rcases Go.Deep.open_slice h.out hx with ⟨rfl, _⟩ | ⟨a, len, cap, m, n, D, Pl, rfl, _, hl, hm, hmm, _, hel⟩
  · exact ⟨(_, []), rfl, by simpa using Sl.nil W sz, by simp⟩
  have hel : ∀ i, i < cap → ∃ cs', W.cells? 0 (a.add (i * sz)) sz = some cs' ∧ DataW.trod enc P W 0 (fun _ => true) true n e cs' = some (D i, Pl i) := fun i hi => by
    have := hel i (by rw [hmm]; simpa using hi)
    rw [hc.out] at this
    exact this
  by_cases h0 : cap = 0
  · subst h0
    have : len = 0 := by omega
    subst this
    exact ⟨(_, []), rfl, ⟨by simp, by simp, .inl ⟨_, rfl, rfl⟩⟩, by simp⟩
  obtain ⟨cs0, hcs0, _⟩ := hel 0 (by omega)
  obtain ⟨_, hlen0, hat0⟩ := World.cells?_some hcs0
  have h00 := hat0 0 (by omega)
  rw [List.getElem?_eq_getElem (by omega)] at h00
  have hz : (a.add (0 * sz)).add 0 = a := by unfold Addr.add; simp
  rw [hz] at h00
  obtain ⟨c, e', fz, hb, hsp, _⟩ := addr_none h00
  obtain ⟨g, off, sp⟩ := a
  simp only at hsp
  subst hsp
  have hcell : ∀ i, i < cap → ∃ cs', cs'.length = sz ∧ (∃ b, cs' = en b ∧ ok W b) ∧ ∀ j, j < sz → c.toList[off + i * sz + j]? = cs'[j]? := by
    intro i hi
    obtain ⟨cs', h1, h2⟩ := hel i hi
    obtain ⟨_, h4, h5⟩ := World.cells?_some h1
    refine ⟨cs', h4, ho.out H enc W n cs' _ h2, fun j hj => ?_⟩
    have := h5 j hj
    rw [addr_add, addr_add, cell_row (off := 0) hb] at this
    rw [← this, Array.getElem?_toList]
  have grow : ∀ k, k ≤ cap → ∃ xs : List β, xs.length = k ∧ (c.toList.drop off).take (k * sz) = xs.flatMap en ∧ (∀ x ∈ xs, ok W x) ∧ (xs.flatMap en).length = k * sz := by
    intro k
    induction k with
    | zero => intro _; exact ⟨[], rfl, by simp, by simp, by simp⟩
    | succ k ih =>
      intro hk
      obtain ⟨xs, h1, h2, h3, h6⟩ := ih (by omega)
      obtain ⟨cs', h4, ⟨b, rfl, hb'⟩, h5⟩ := hcell k (by omega)
      refine ⟨xs ++ [b], by simp [h1], ?_, ?_, ?_⟩
      · rw [list_grow h4 h5, h2]; simp
      · intro x hx
        rcases List.mem_append.1 hx with hx | hx
        · exact h3 x hx
        · simp only [List.mem_singleton] at hx; subst hx; exact hb'
      · rw [List.flatMap_append, List.length_append, h6]; simp [h4, Nat.succ_mul]
  have hsize : off + cap * sz ≤ c.size := by
    obtain ⟨cs', h4, _, h5⟩ := hcell (cap - 1) (by omega)
    have h6 := h5 (sz - 1) (by omega)
    rw [show cs'[sz - 1]? = some (cs'[sz - 1]'(by omega)) from List.getElem?_eq_getElem (by omega)] at h6
    have h7 := (List.getElem?_eq_some_iff.1 h6).1
    have : (cap - 1) * sz + sz = cap * sz := by
      have : cap = (cap - 1) + 1 := by omega
      conv => rhs; rw [this, Nat.succ_mul]
    simp only [Array.length_toList] at h7
    omega
  obtain ⟨xs, h1, h2, h3, h6⟩ := grow len hl
  subst h1
  exact ⟨(_, xs), rfl, ⟨h6, Nat.le_trans hl hm, .inr ⟨g, off, cap, c, e', fz, rfl, hb, hl, hm, hsize, h2⟩⟩, h3⟩⟩

/-- Fields, one behind the other. -/
class OpnF (P : Program) (ts : List TypeId) (α : outParam Type) (en : outParam (α → List Value)) (ok : outParam (World → α → Prop)) (len : outParam Nat) : Prop where
  out : ∀ (H : Type) (enc : TypeId × Value → H) (W : World) (n off : Nat) (cs : List Value), off + len ≤ cs.length →
    (∀ (pre : List TypeId) (t : TypeId) (post : List TypeId), ts = pre ++ t :: post → ∃ x, DataW.trod enc P W 0 (fun _ => true) true n t ((cs.drop (off + (pre.map P.cellsOf).sum)).take (P.cellsOf t)) = some x) →
    ∃ a, (cs.drop off).take len = en a ∧ ok W a
  sum : (ts.map P.cellsOf).sum = len
instance {P : Program} : OpnF P [] Unit (fun _ => []) (fun _ _ => True) 0 := ⟨fun _ _ _ _ _ _ _ _ => ⟨(), by simp, trivial⟩, rfl⟩
instance {P : Program} {t : TypeId} {ts : List TypeId} {α β : Type} {en : α → List Value} {ok : World → α → Prop} {en' : β → List Value} {ok' : World → β → Prop} {c l : Nat} [hc : Cel P t c] [h1 : Opn P t α en ok] [h2 : OpnF P ts β en' ok' l] :
    OpnF P (t :: ts) (α × β) (fun p => en p.1 ++ en' p.2) (fun W p => ok W p.1 ∧ ok' W p.2) (c + l) := ⟨fun H enc W n off cs hl hf => by
  obtain ⟨x, hx⟩ := hf [] t ts rfl
  simp only [List.map_nil, List.sum_nil, Nat.add_zero] at hx
  rw [hc.out] at hx
  obtain ⟨a, ha, hok⟩ := h1.out H enc W n _ x hx
  obtain ⟨b, hb, hok'⟩ := h2.out H enc W n (off + c) cs (by omega) (fun pre u post he => by
    obtain ⟨y, hy⟩ := hf (t :: pre) u post (by rw [he]; rfl)
    refine ⟨y, ?_⟩
    simp only [List.map_cons, List.sum_cons, hc.out] at hy
    rw [Nat.add_assoc]; exact hy)
  refine ⟨(a, b), ?_, hok, hok'⟩
  rw [List.take_add, ha, List.drop_drop, hb], by rw [List.map_cons, List.sum_cons, hc.out, h2.sum]⟩

def offsOk (P : Program) : Nat → List Field → Bool
  | _, [] => true
  | o, f :: r => f.offset == o && offsOk P (o + P.cellsOf f.type) r

theorem offs_at {P : Program} : ∀ (fs : List Field) (o : Nat), offsOk P o fs = true → ∀ (pre : List Field) (f : Field) (post : List Field), fs = pre ++ f :: post → f.offset = o + ((pre.map (·.type)).map P.cellsOf).sum := by
  intro fs
  induction fs with
  | nil => intro o _ pre f post h; cases pre <;> cases h
  | cons a r ih =>
    intro o h pre f post he
    simp only [offsOk, Bool.and_eq_true, beq_iff_eq] at h
    cases pre with
    | nil => simp only [List.nil_append, List.cons.injEq] at he; obtain ⟨rfl, _⟩ := he; simp [h.1]
    | cons b pre =>
      simp only [List.cons_append, List.cons.injEq] at he
      obtain ⟨rfl, he⟩ := he
      rw [ih _ h.2 pre f post he]
      simp [Nat.add_assoc]

/-- A struct's reading. -/
class StrT (P : Program) (t : TypeId) (ts : outParam (List TypeId)) : Prop where
  out : ∃ fs, P.underlying t = some (.struct fs) ∧ fs.toList.map (·.type) = ts ∧ offsOk P 0 fs.toList = true ∧ P.cellsOf t = (ts.map P.cellsOf).sum
instance {P : Program} {t : TypeId} {ts : List TypeId} [hS : StrT P t ts] {α : Type} {en : α → List Value} {ok : World → α → Prop} {len : Nat} [h : OpnF P ts α en ok len] : Opn P t α en ok := ⟨fun H enc W fuel cs x hx => by
  obtain ⟨fs, hu, hts, hof, hlen⟩ := hS.out
  obtain ⟨xs, n, rfl, rfl, hl, hxl, hf⟩ := DataW.trod_struct hu hx
  rw [hlen, h.sum] at hl
  subst hts
  obtain ⟨a, ha, hok⟩ := h.out H enc W n 0 cs (by omega) (fun pre u post he => by
    obtain ⟨i, hi⟩ : ∃ i, pre.length = i := ⟨_, rfl⟩
    have hlen2 : pre.length < fs.toList.length := by
      have := congrArg List.length he
      simp at this
      simp; omega
    have hpre : (fs.toList.take pre.length).map (·.type) = pre := by rw [List.map_take, he]; simp
    have hget : (fs.toList.map (·.type))[pre.length]? = some u := by rw [he]; simp
    rw [List.getElem?_map, List.getElem?_eq_getElem hlen2] at hget
    simp only [Option.map_some, Option.some.injEq] at hget
    have hfi : fs[pre.length]? = some (fs.toList[pre.length]) := by rw [← Array.getElem?_toList, List.getElem?_eq_getElem hlen2]
    have hoff := offs_at fs.toList 0 hof (fs.toList.take pre.length) (fs.toList[pre.length]) (fs.toList.drop (pre.length + 1)) (by rw [← List.drop_eq_getElem_cons hlen2, List.take_append_drop])
    have h2 := hf pre.length _ hfi
    rw [hget, hoff, hpre] at h2
    rw [h2]
    have : pre.length < xs.length := by rw [hxl]; simpa using hlen2
    exact ⟨_, List.getElem?_eq_getElem this⟩)
  rw [List.drop_zero, List.take_of_length_le (by omega)] at ha
  exact ⟨a, ha, hok⟩⟩

theorem flat_one {α : Type} (f : α → Value) (l : List α) : (l.flatMap fun a => [f a]) = l.map f := by induction l with
  | nil => rfl
  | cons a l ih => rw [List.flatMap_cons, ih]; rfl
theorem Sl.map {α : Type} {f : α → Value} {W : World} {v : Value} {n : Nat} {l : List α} (h : Sl W 1 v n (l.flatMap fun a => [f a])) : Sl W 1 v n (l.map f) := by rw [← flat_one]; exact h

/-- A parameter. -/
class Top (P : Program) (t : TypeId) (α : outParam Type) (tv : outParam (α → Value)) (ok : outParam (World → α → Prop)) : Prop where
  out : ∀ (H : Type) (enc : TypeId × Value → H) (W : World) (base : Nat) (v : Value) (d : DataW H) (p : List MemPlace), Value.okWide P W .any base t v → DataW.Trod enc P W 0 (fun _ => true) true t v d p → ∃ a, v = tv a ∧ ok W a
theorem Top.one {P : Program} {t : TypeId} {desc : TypeDesc} (hu : P.underlying t = some desc) (hd : TypeDesc.isOne desc = true) {α : Type} {c : α → Value} {ok : World → α → Prop} (h : Opn P t α (fun a => [c a]) ok) : Top P t α c ok := ⟨fun H enc W base v d p hv hd' => by
  obtain ⟨fuel, hf⟩ := hd'
  obtain ⟨a, ha, hok⟩ := h.out H enc W fuel _ _ hf
  refine ⟨a, ?_, hok⟩
  have hna : ∀ cs, v ≠ .agg cs := by
    intro cs hcs
    subst hcs
    unfold Value.okWide at hv
    rw [hu] at hv
    cases desc <;> simp_all [TypeDesc.isOne, Cell.okWide, Cell.ok]
  have : v.cells = #[v] := by
    cases v with
    | agg cs => exact absurd rfl (hna cs)
    | _ => rfl
  rw [this] at ha
  simpa using ha⟩
instance {P : Program} {t : TypeId} {k : IntKind} [h : Und P t (.int k)] {α : Type} {c : α → Value} {ok : World → α → Prop} [ho : Opn P t α (fun a => [c a]) ok] : Top P t α c ok := Top.one h.out rfl ho
instance {P : Program} {t : TypeId} [h : Und P t .bool] {α : Type} {c : α → Value} {ok : World → α → Prop} [ho : Opn P t α (fun a => [c a]) ok] : Top P t α c ok := Top.one h.out rfl ho
instance {P : Program} {t : TypeId} [h : Und P t .string] {α : Type} {c : α → Value} {ok : World → α → Prop} [ho : Opn P t α (fun a => [c a]) ok] : Top P t α c ok := Top.one h.out rfl ho
instance {P : Program} {t e : TypeId} [h : Und P t (.slice e)] {α : Type} {c : α → Value} {ok : World → α → Prop} [ho : Opn P t α (fun a => [c a]) ok] : Top P t α c ok := Top.one h.out rfl ho
instance {P : Program} {t : TypeId} {ts : List TypeId} [hS : StrT P t ts] {α : Type} {en : α → List Value} {ok : World → α → Prop} [h : Opn P t α en ok] : Top P t α (fun a => .agg (en a).toArray) ok := ⟨fun H enc W base v d p hv hd' => by
  obtain ⟨fuel, hf⟩ := hd'
  obtain ⟨fs, hu, _⟩ := hS.out
  obtain ⟨cs, rfl, _⟩ := okWide_struct hu hv
  obtain ⟨a, ha, hok⟩ := h.out H enc W fuel _ _ hf
  refine ⟨a, ?_, hok⟩
  have : cs = (en a).toArray := by
    apply Array.ext'
    simpa [Value.cells] using ha
  rw [this]⟩

/-- The parameters, one behind the other. -/
class Tops (P : Program) (ts : List TypeId) (α : outParam Type) (tv : outParam (α → List Value)) (ok : outParam (World → α → Prop)) : Prop where
  out : ∀ (H : Type) (enc : TypeId × Value → H) (W : World) (base : Nat) (l : List Value) (ds : List (DataW H)) (p : List MemPlace), (∀ (j : Nat) t v, ts[j]? = some t → l[j]? = some v → Value.okWide P W .any base t v) →
    DataW.TrodAll enc P W 0 (fun _ => true) true ts l ds p → ∃ a, l = tv a ∧ ok W a
instance {P : Program} : Tops P [] Unit (fun _ => []) (fun _ _ => True) := ⟨fun _ _ _ _ l ds p _ h => by
  obtain ⟨rfl, _⟩ := trodAll_nil h
  exact ⟨(), rfl, trivial⟩⟩
instance {P : Program} {t : TypeId} {ts : List TypeId} {α β : Type} {tv : α → Value} {ok : World → α → Prop} {tv' : β → List Value} {ok' : World → β → Prop} [h1 : Top P t α tv ok] [h2 : Tops P ts β tv' ok'] :
    Tops P (t :: ts) (α × β) (fun p => tv p.1 :: tv' p.2) (fun W p => ok W p.1 ∧ ok' W p.2) := ⟨fun H enc W base l ds p hv h => by
  obtain ⟨v, vs, d, ds', p', q, rfl, rfl, rfl, hd, hr⟩ := trodAll_cons h
  obtain ⟨a, rfl, ha⟩ := h1.out H enc W base v d p' (hv 0 t v rfl rfl) hd
  obtain ⟨b, rfl, hb⟩ := h2.out H enc W base vs ds' q (fun j t' v' h1 h2 => hv (j + 1) t' v' h1 h2) hr
  exact ⟨(a, b), rfl, ha, hb⟩⟩

theorem below_kept {w w' : World} (h : K0 w w') : Below w.heap.size w w' := h.below

theorem trodAll_stays {H : Type} {enc : TypeId × Value → H} {P : Program} (hl : laidOutB P = true) {W W' : World} (hb : Below W.heap.size W W') : ∀ (ts : List TypeId) (l : List Value) (ds : List (DataW H)) (p : List MemPlace), (∀ t ∈ ts, P.readableRec t = true ∧ t < P.types.size) → (∀ x ∈ p, x.block < W.heap.size) →
    DataW.TrodAll enc P W 0 (fun _ => true) true ts l ds p → DataW.TrodAll enc P W' 0 (fun b => decide (b < W.heap.size)) true ts l ds p := by
  intro ts
  induction ts with
  | nil =>
    intro l ds p _ _ h
    obtain ⟨rfl, rfl, rfl⟩ := trodAll_nil h
    exact trodAll_mk0
  | cons t ts ih =>
    intro l ds p hts hp h
    obtain ⟨v, vs, d, ds', p', q, rfl, rfl, rfl, hd, hr⟩ := trodAll_cons h
    have h1 := hts t (by simp)
    exact trodAll_cons_mk (Below.trod hl h1.1 h1.2 hd hb fun x hx => hp x (by simp [hx])) (ih vs ds' q (fun u hu => hts u (by simp [hu])) (fun x hx => hp x (by simp [hx])) hr)

theorem trodAll_length {H : Type} {enc : TypeId × Value → H} {P : Program} {W : World} {sp : Nat → Bool} {hd : Bool} : ∀ (ts : List TypeId) (l : List Value) (ds : List (DataW H)) (p : List MemPlace), DataW.TrodAll enc P W 0 sp hd ts l ds p → ds.length = ts.length := by
  intro ts
  induction ts with
  | nil => intro l ds p h; obtain ⟨_, rfl, _⟩ := trodAll_nil h; rfl
  | cons t ts ih =>
    intro l ds p h
    obtain ⟨v, vs, d, ds', p', q, rfl, rfl, rfl, _, hr⟩ := trodAll_cons h
    simp [ih _ _ _ hr]

/-- A law that returns true and leaves all that there was as it was. -/
theorem law_contract {P : Program} (hlo : laidOutB P = true) {k : FuncId} {f : Func} {s : ChangeSpec} {tb : TypeId} (hb : P.underlying tb = some .bool) (hr : f.resultTypes = #[tb]) (hv : s.vars = [])
    {ts : List TypeId} (hts : f.params.toList = ts) (hps : ∀ t ∈ ts, P.readableRec t = true ∧ t < P.types.size) {α : Type} {tv : α → List Value} {ok : World → α → Prop} [ho : Tops P ts α tv ok]
    (hs : ∀ (H : Type) (ds : List (DataW H)), ds.length = ts.length → s.fn H ds = { results := [.lit (.bool true)], args := ds })
    (walk : ∀ (a : α) (W : World), ok W a → Calls P k (tv a).toArray W fun e W' => e = .returned (.bool true) ∧ K0 W W')
    (H : Type) (enc : TypeId × Value → H) (W : World) (base : Nat) (args : Array Value) (ds gs : List (DataW H)) (before : List MemPlace)
    (hval : ∀ (j : Nat) t v, f.params[j]? = some t → args[j]? = some v → Value.okWide P W .any base t v)
    (hW : DataW.Whole enc P f.params.toList s.vars false W args.toList ds gs before) :
    Calls P k args W fun e W' => ∃ v, e = .returned v ∧ s.post enc P f false true false false W args v W' := by
  have hW' := hW
  rw [hv] at hW
  obtain ⟨p, q, hA, hV, rfl, hfz, hnd⟩ := hW
  obtain ⟨rfl, rfl⟩ := trodVars_none hV
  have hlt : ∀ x ∈ p, x.block < W.heap.size := fun x hx => by have := hW'.lt x (by simp [hx]); simpa using this
  rw [hts] at hA
  obtain ⟨a, ha, hok⟩ := ho.out H enc W base args.toList ds p (fun j t v h1 h2 => hval j t v (by rw [← Array.getElem?_toList, hts]; exact h1) (by rw [← Array.getElem?_toList]; exact h2)) hA
  have hargs : args = (tv a).toArray := by apply Array.ext'; simpa using ha
  subst hargs
  refine (walk a W hok).mono fun e W' ⟨he, hk⟩ => ?_
  have hbel := hk.below
  have hfn := hs H (ds ++ []) (by simpa using trodAll_length _ _ _ _ hA)
  refine ⟨_, he, ds, [], p ++ [], [], p, [], hW', ?_, ?_, ?_, hbel.frame _, fun h => by cases h⟩
  · rw [hfn, hr]; exact trodAll_cons_mk (shut_bool hb _) trodAll_mk0
  · rw [hfn, hts]; simpa using trodAll_stays hlo hbel ts _ ds p hps hlt hA
  · rw [hfn, hv]; exact rfl
end Go.Proofs.YtggodknolmdegaaGreatDoor.H

namespace Go.Proofs.YtggodknolmdegaaGreatDoor.H
open Go.ChangeShapes Go.WideShapes Go.RowKit
/-- An array's type: how many, of what, how many cells each. -/
class ArrT (P : Program) (t : TypeId) (n : outParam Nat) (e : outParam TypeId) (sz : outParam Nat) : Prop where
  out : P.underlying t = some (.array n e)
  el : P.cellsOf e = sz
  all : P.cellsOf t = n * sz
theorem rows_cat {β : Type} {en : β → List Value} {W : World} {ok : World → β → Prop} {sz : Nat} : ∀ (n : Nat) (cs : List Value), cs.length = n * sz → (∀ i, i < n → ∃ b, (cs.drop (i * sz)).take sz = en b ∧ ok W b) → ∃ l : List β, cs = l.flatMap en ∧ l.length = n ∧ ∀ x ∈ l, ok W x
  | 0, cs, h, _ => ⟨[], by rw [Nat.zero_mul] at h; rw [List.length_eq_zero_iff.1 h]; rfl, rfl, by simp⟩
  | n + 1, cs, h, hf => by
    obtain ⟨b, hb, hok⟩ := hf 0 (by omega)
    obtain ⟨l, h1, h2, h3⟩ := rows_cat (en := en) (ok := ok) (W := W) (sz := sz) n (cs.drop sz) (by rw [List.length_drop, h, Nat.succ_mul, Nat.add_sub_cancel]) (fun i hi => by
      obtain ⟨b', h1, h2⟩ := hf (i + 1) (by omega)
      refine ⟨b', ?_, h2⟩
      rw [List.drop_drop, ← h1, Nat.succ_mul, Nat.add_comm])
    refine ⟨b :: l, ?_, by simp [h2], fun x hx => ?_⟩
    · rw [List.flatMap_cons, ← h1, ← hb, Nat.zero_mul, List.drop_zero, List.take_append_drop]
    · rcases List.mem_cons.1 hx with rfl | hx
      · exact hok
      · exact h3 x hx
instance {P : Program} {t e : TypeId} {n sz : Nat} [h : ArrT P t n e sz] {β : Type} {en : β → List Value} {ok : World → β → Prop} [ho : Opn P e β en ok] :
    Opn P t (List β) (fun l => l.flatMap en) (fun W l => l.length = n ∧ ∀ x ∈ l, ok W x) := ⟨fun H enc W fuel cs x hx => by
  obtain ⟨xs, m, rfl, rfl, hl, hxl, hel⟩ := DataW.trod_array h.out hx
  rw [h.all] at hl
  obtain ⟨l, h1, h2, h3⟩ := rows_cat (en := en) (ok := ok) (W := W) n cs hl (fun i hi => by
    have := hel i hi
    rw [h.el, List.getElem?_eq_getElem (by omega)] at this
    obtain ⟨b, hb, hok⟩ := ho.out H enc W m _ _ this
    exact ⟨b, hb, hok⟩)
  exact ⟨l, h1, h2, h3⟩⟩
theorem okWide_arr {P : Program} {w : World} {base : Nat} {t : TypeId} {v : Value} {n : Nat} {e : TypeId} (ht : P.underlying t = some (.array n e)) (h : Value.okWide P w .any base t v) : ∃ cs, v = .agg cs ∧ cs.size = P.cellsOf t := by
  simp only [Value.okWide, ht] at h
  obtain ⟨cs, h1, h2, _⟩ := h
  exact ⟨cs, h1, h2⟩
instance {P : Program} {t e : TypeId} {n sz : Nat} [h : ArrT P t n e sz] {α : Type} {en : α → List Value} {ok : World → α → Prop} [ho : Opn P t α en ok] : Top P t α (fun a => .agg (en a).toArray) ok := ⟨fun H enc W base v d p hv hd' => by
  obtain ⟨fuel, hf⟩ := hd'
  obtain ⟨cs, rfl, _⟩ := okWide_arr h.out hv
  obtain ⟨a, ha, hok⟩ := ho.out H enc W fuel _ _ hf
  refine ⟨a, ?_, hok⟩
  have : cs = (en a).toArray := by
    apply Array.ext'
    simpa [Value.cells] using ha
  rw [this]⟩
/-- The same, of one world. -/
theorem law_contractW {P : Program} (hlo : laidOutB P = true) {k : FuncId} {f : Func} {s : ChangeSpec} {tb : TypeId} (hb : P.underlying tb = some .bool) (hr : f.resultTypes = #[tb]) (hv : s.vars = [])
    {ts : List TypeId} (hts : f.params.toList = ts) (hps : ∀ t ∈ ts, P.readableRec t = true ∧ t < P.types.size) {α : Type} {tv : α → List Value} {ok : World → α → Prop} [ho : Tops P ts α tv ok]
    (hs : ∀ (H : Type) (ds : List (DataW H)), ds.length = ts.length → s.fn H ds = { results := [.lit (.bool true)], args := ds })
    (W : World) (walk : ∀ (a : α), ok W a → Calls P k (tv a).toArray W fun e W' => e = .returned (.bool true) ∧ K0 W W')
    (H : Type) (enc : TypeId × Value → H) (base : Nat) (args : Array Value) (ds gs : List (DataW H)) (before : List MemPlace)
    (hval : ∀ (j : Nat) t v, f.params[j]? = some t → args[j]? = some v → Value.okWide P W .any base t v)
    (hW : DataW.Whole enc P f.params.toList s.vars false W args.toList ds gs before) :
    Calls P k args W fun e W' => ∃ v, e = .returned v ∧ s.post enc P f false true false false W args v W' := by
  have hW' := hW
  rw [hv] at hW
  obtain ⟨p, q, hA, hV, rfl, hfz, hnd⟩ := hW
  obtain ⟨rfl, rfl⟩ := trodVars_none hV
  have hlt : ∀ x ∈ p, x.block < W.heap.size := fun x hx => by have := hW'.lt x (by simp [hx]); simpa using this
  rw [hts] at hA
  obtain ⟨a, ha, hok⟩ := ho.out H enc W base args.toList ds p (fun j t v h1 h2 => hval j t v (by rw [← Array.getElem?_toList, hts]; exact h1) (by rw [← Array.getElem?_toList]; exact h2)) hA
  have hargs : args = (tv a).toArray := by apply Array.ext'; simpa using ha
  subst hargs
  refine (walk a hok).mono fun e W' ⟨he, hk⟩ => ?_
  have hbel := hk.below
  have hfn := hs H (ds ++ []) (by simpa using trodAll_length _ _ _ _ hA)
  refine ⟨_, he, ds, [], p ++ [], [], p, [], hW', ?_, ?_, ?_, hbel.frame _, fun h => by cases h⟩
  · rw [hfn, hr]; exact trodAll_cons_mk (shut_bool hb _) trodAll_mk0
  · rw [hfn, hts]; simpa using trodAll_stays hlo hbel ts _ ds p hps hlt hA
  · rw [hfn, hv]; exact rfl
/-- The same, of one row of arguments. -/
theorem law_contractA {P : Program} (hlo : laidOutB P = true) {k : FuncId} {f : Func} {s : ChangeSpec} {tb : TypeId} (hb : P.underlying tb = some .bool) (hr : f.resultTypes = #[tb]) (hv : s.vars = [])
    {ts : List TypeId} (hts : f.params.toList = ts) (hps : ∀ t ∈ ts, P.readableRec t = true ∧ t < P.types.size) {α : Type} {tv : α → List Value} {ok : World → α → Prop} [ho : Tops P ts α tv ok]
    (hs : ∀ (H : Type) (ds : List (DataW H)), ds.length = ts.length → s.fn H ds = { results := [.lit (.bool true)], args := ds })
    (W : World) (args : Array Value) (walk : ∀ (a : α), args = (tv a).toArray → ok W a → Calls P k (tv a).toArray W fun e W' => e = .returned (.bool true) ∧ K0 W W')
    (H : Type) (enc : TypeId × Value → H) (base : Nat) (ds gs : List (DataW H)) (before : List MemPlace)
    (hval : ∀ (j : Nat) t v, f.params[j]? = some t → args[j]? = some v → Value.okWide P W .any base t v)
    (hW : DataW.Whole enc P f.params.toList s.vars false W args.toList ds gs before) :
    Calls P k args W fun e W' => ∃ v, e = .returned v ∧ s.post enc P f false true false false W args v W' := by
  have hW' := hW
  rw [hv] at hW
  obtain ⟨p, q, hA, hV, rfl, hfz, hnd⟩ := hW
  obtain ⟨rfl, rfl⟩ := trodVars_none hV
  have hlt : ∀ x ∈ p, x.block < W.heap.size := fun x hx => by have := hW'.lt x (by simp [hx]); simpa using this
  rw [hts] at hA
  obtain ⟨a, ha, hok⟩ := ho.out H enc W base args.toList ds p (fun j t v h1 h2 => hval j t v (by rw [← Array.getElem?_toList, hts]; exact h1) (by rw [← Array.getElem?_toList]; exact h2)) hA
  have hargs : args = (tv a).toArray := by apply Array.ext'; simpa using ha
  subst hargs
  refine (walk a rfl hok).mono fun e W' ⟨he, hk⟩ => ?_
  have hbel := hk.below
  have hfn := hs H (ds ++ []) (by simpa using trodAll_length _ _ _ _ hA)
  refine ⟨_, he, ds, [], p ++ [], [], p, [], hW', ?_, ?_, ?_, hbel.frame _, fun h => by cases h⟩
  · rw [hfn, hr]; exact trodAll_cons_mk (shut_bool hb _) trodAll_mk0
  · rw [hfn, hts]; simpa using trodAll_stays hlo hbel ts _ ds p hps hlt hA
  · rw [hfn, hv]; exact rfl
end Go.Proofs.YtggodknolmdegaaGreatDoor.H

set_option maxRecDepth 100000
namespace Go.Proofs.YtggodknolmdegaaGreatDoor.H
instance : CelS Tryz.prog 1 1 := ⟨by kernel_rfl, by decide⟩
instance : CelS Tryz.prog 2 1 := ⟨by kernel_rfl, by decide⟩
instance : CelS Tryz.prog 3 1 := ⟨by kernel_rfl, by decide⟩
instance : CelS Tryz.prog 4 1 := ⟨by kernel_rfl, by decide⟩
instance : CelS Tryz.prog 5 1 := ⟨by kernel_rfl, by decide⟩
instance : CelS Tryz.prog 6 1 := ⟨by kernel_rfl, by decide⟩
instance : CelS Tryz.prog 7 4 := ⟨by kernel_rfl, by decide⟩
instance : StrT Tryz.prog 7 [2, 3, 4, 6] := ⟨_, Tryz.underlying7, rfl, by kernel_rfl, by kernel_rfl⟩
instance : CelS Tryz.prog 8 4 := ⟨by kernel_rfl, by decide⟩
instance : StrT Tryz.prog 8 [2, 3, 4, 6] := ⟨_, Tryz.underlying8, rfl, by kernel_rfl, by kernel_rfl⟩
instance : CelS Tryz.prog 9 1 := ⟨by kernel_rfl, by decide⟩
instance : CelS Tryz.prog 10 1 := ⟨by kernel_rfl, by decide⟩
instance : CelS Tryz.prog 11 1 := ⟨by kernel_rfl, by decide⟩
instance : CelS Tryz.prog 12 1 := ⟨by kernel_rfl, by decide⟩
instance : CelS Tryz.prog 13 2 := ⟨by kernel_rfl, by decide⟩
instance : StrT Tryz.prog 13 [9, 12] := ⟨_, Tryz.underlying13, rfl, by kernel_rfl, by kernel_rfl⟩
instance : CelS Tryz.prog 14 2 := ⟨by kernel_rfl, by decide⟩
instance : StrT Tryz.prog 14 [9, 12] := ⟨_, Tryz.underlying14, rfl, by kernel_rfl, by kernel_rfl⟩
instance : CelS Tryz.prog 15 1 := ⟨by kernel_rfl, by decide⟩
instance : CelS Tryz.prog 16 1 := ⟨by kernel_rfl, by decide⟩
instance : CelS Tryz.prog 17 1 := ⟨by kernel_rfl, by decide⟩
instance : CelS Tryz.prog 18 1 := ⟨by kernel_rfl, by decide⟩
instance : StrT Tryz.prog 18 [17] := ⟨_, Tryz.underlying18, rfl, by kernel_rfl, by kernel_rfl⟩
instance : CelS Tryz.prog 19 1 := ⟨by kernel_rfl, by decide⟩
instance : StrT Tryz.prog 19 [17] := ⟨_, Tryz.underlying19, rfl, by kernel_rfl, by kernel_rfl⟩
instance : CelS Tryz.prog 20 1 := ⟨by kernel_rfl, by decide⟩
instance : CelS Tryz.prog 21 1 := ⟨by kernel_rfl, by decide⟩
instance : CelS Tryz.prog 22 1 := ⟨by kernel_rfl, by decide⟩
instance : CelS Tryz.prog 23 1 := ⟨by kernel_rfl, by decide⟩
instance : CelS Tryz.prog 24 1 := ⟨by kernel_rfl, by decide⟩
instance : CelS Tryz.prog 26 1 := ⟨by kernel_rfl, by decide⟩
instance : CelS Tryz.prog 28 1 := ⟨by kernel_rfl, by decide⟩
instance : CelS Tryz.prog 29 1 := ⟨by kernel_rfl, by decide⟩
instance : CelS Tryz.prog 30 1 := ⟨by kernel_rfl, by decide⟩
instance : CelS Tryz.prog 31 1 := ⟨by kernel_rfl, by decide⟩
instance : CelS Tryz.prog 32 1 := ⟨by kernel_rfl, by decide⟩
instance : CelS Tryz.prog 33 1 := ⟨by kernel_rfl, by decide⟩
instance : CelS Tryz.prog 34 4 := ⟨by kernel_rfl, by decide⟩
instance : StrT Tryz.prog 34 [3, 3, 3, 33] := ⟨_, Tryz.underlying34, rfl, by kernel_rfl, by kernel_rfl⟩
instance : CelS Tryz.prog 35 4 := ⟨by kernel_rfl, by decide⟩
instance : StrT Tryz.prog 35 [3, 3, 3, 33] := ⟨_, Tryz.underlying35, rfl, by kernel_rfl, by kernel_rfl⟩
instance : CelS Tryz.prog 36 32 := ⟨by kernel_rfl, by decide⟩
instance : ArrT Tryz.prog 36 32 5 1 := ⟨Tryz.underlying36, by kernel_rfl, by kernel_rfl⟩
instance : CelS Tryz.prog 37 32 := ⟨by kernel_rfl, by decide⟩
instance : ArrT Tryz.prog 37 32 5 1 := ⟨Tryz.underlying37, by kernel_rfl, by kernel_rfl⟩
instance : CelS Tryz.prog 38 37 := ⟨by kernel_rfl, by decide⟩
instance : StrT Tryz.prog 38 [9, 35, 37] := ⟨_, Tryz.underlying38, rfl, by kernel_rfl, by kernel_rfl⟩
instance : CelS Tryz.prog 39 37 := ⟨by kernel_rfl, by decide⟩
instance : StrT Tryz.prog 39 [9, 35, 37] := ⟨_, Tryz.underlying39, rfl, by kernel_rfl, by kernel_rfl⟩
instance : CelS Tryz.prog 40 1 := ⟨by kernel_rfl, by decide⟩
instance : CelS Tryz.prog 41 1 := ⟨by kernel_rfl, by decide⟩
instance : CelS Tryz.prog 42 1 := ⟨by kernel_rfl, by decide⟩
instance : CelS Tryz.prog 44 1 := ⟨by kernel_rfl, by decide⟩
instance : CelS Tryz.prog 45 1 := ⟨by kernel_rfl, by decide⟩
instance : CelS Tryz.prog 46 1 := ⟨by kernel_rfl, by decide⟩
instance : CelS Tryz.prog 47 1 := ⟨by kernel_rfl, by decide⟩
instance : CelS Tryz.prog 48 1 := ⟨by kernel_rfl, by decide⟩
instance : CelS Tryz.prog 49 1 := ⟨by kernel_rfl, by decide⟩
instance : CelS Tryz.prog 50 1 := ⟨by kernel_rfl, by decide⟩
instance : CelS Tryz.prog 51 1 := ⟨by kernel_rfl, by decide⟩
instance : StrT Tryz.prog 51 [3] := ⟨_, Tryz.underlying51, rfl, by kernel_rfl, by kernel_rfl⟩
instance : CelS Tryz.prog 52 1 := ⟨by kernel_rfl, by decide⟩
instance : StrT Tryz.prog 52 [3] := ⟨_, Tryz.underlying52, rfl, by kernel_rfl, by kernel_rfl⟩
instance : CelS Tryz.prog 54 1 := ⟨by kernel_rfl, by decide⟩
instance : CelS Tryz.prog 55 1 := ⟨by kernel_rfl, by decide⟩
instance : CelS Tryz.prog 56 1 := ⟨by kernel_rfl, by decide⟩
instance : CelS Tryz.prog 57 1 := ⟨by kernel_rfl, by decide⟩
instance : CelS Tryz.prog 58 1 := ⟨by kernel_rfl, by decide⟩
instance : CelS Tryz.prog 59 1 := ⟨by kernel_rfl, by decide⟩
instance : CelS Tryz.prog 60 1 := ⟨by kernel_rfl, by decide⟩
instance : CelS Tryz.prog 62 1 := ⟨by kernel_rfl, by decide⟩
instance : CelS Tryz.prog 63 1 := ⟨by kernel_rfl, by decide⟩
instance : CelS Tryz.prog 64 1 := ⟨by kernel_rfl, by decide⟩
instance : CelS Tryz.prog 65 1 := ⟨by kernel_rfl, by decide⟩
instance : CelS Tryz.prog 66 1 := ⟨by kernel_rfl, by decide⟩
instance : CelS Tryz.prog 67 1 := ⟨by kernel_rfl, by decide⟩
instance : CelS Tryz.prog 68 2 := ⟨by kernel_rfl, by decide⟩
instance : StrT Tryz.prog 68 [67, 41] := ⟨_, Tryz.underlying68, rfl, by kernel_rfl, by kernel_rfl⟩
instance : CelS Tryz.prog 69 2 := ⟨by kernel_rfl, by decide⟩
instance : StrT Tryz.prog 69 [67, 41] := ⟨_, Tryz.underlying69, rfl, by kernel_rfl, by kernel_rfl⟩
instance : CelS Tryz.prog 70 1 := ⟨by kernel_rfl, by decide⟩
instance : CelS Tryz.prog 71 1 := ⟨by kernel_rfl, by decide⟩
instance : CelS Tryz.prog 73 1 := ⟨by kernel_rfl, by decide⟩
instance : CelS Tryz.prog 74 1 := ⟨by kernel_rfl, by decide⟩
instance : CelS Tryz.prog 75 1 := ⟨by kernel_rfl, by decide⟩
instance : CelS Tryz.prog 76 1 := ⟨by kernel_rfl, by decide⟩
instance : CelS Tryz.prog 77 1 := ⟨by kernel_rfl, by decide⟩
instance : CelS Tryz.prog 78 1 := ⟨by kernel_rfl, by decide⟩
instance : CelS Tryz.prog 80 1 := ⟨by kernel_rfl, by decide⟩
instance : CelS Tryz.prog 81 1 := ⟨by kernel_rfl, by decide⟩
instance : CelS Tryz.prog 83 1 := ⟨by kernel_rfl, by decide⟩
instance : CelS Tryz.prog 84 1 := ⟨by kernel_rfl, by decide⟩
instance : CelS Tryz.prog 85 1 := ⟨by kernel_rfl, by decide⟩
instance : CelS Tryz.prog 86 1 := ⟨by kernel_rfl, by decide⟩
instance : CelS Tryz.prog 87 1 := ⟨by kernel_rfl, by decide⟩
instance : CelS Tryz.prog 88 1 := ⟨by kernel_rfl, by decide⟩
instance : CelS Tryz.prog 89 1 := ⟨by kernel_rfl, by decide⟩
instance : CelS Tryz.prog 90 1 := ⟨by kernel_rfl, by decide⟩
instance : CelS Tryz.prog 92 1 := ⟨by kernel_rfl, by decide⟩
instance : CelS Tryz.prog 93 3 := ⟨by kernel_rfl, by decide⟩
instance : ArrT Tryz.prog 93 3 3 1 := ⟨Tryz.underlying93, by kernel_rfl, by kernel_rfl⟩
instance : CelS Tryz.prog 94 1 := ⟨by kernel_rfl, by decide⟩
instance : CelS Tryz.prog 95 1 := ⟨by kernel_rfl, by decide⟩
instance : CelS Tryz.prog 96 1 := ⟨by kernel_rfl, by decide⟩
instance : CelS Tryz.prog 97 1 := ⟨by kernel_rfl, by decide⟩
instance : CelS Tryz.prog 98 1 := ⟨by kernel_rfl, by decide⟩
instance : CelS Tryz.prog 99 1 := ⟨by kernel_rfl, by decide⟩
instance : CelS Tryz.prog 100 1 := ⟨by kernel_rfl, by decide⟩
instance : CelS Tryz.prog 101 1 := ⟨by kernel_rfl, by decide⟩
instance : CelS Tryz.prog 102 1 := ⟨by kernel_rfl, by decide⟩
instance : CelS Tryz.prog 104 1 := ⟨by kernel_rfl, by decide⟩
instance : CelS Tryz.prog 105 1 := ⟨by kernel_rfl, by decide⟩
instance : CelS Tryz.prog 106 1 := ⟨by kernel_rfl, by decide⟩
instance : CelS Tryz.prog 107 1 := ⟨by kernel_rfl, by decide⟩
instance : CelS Tryz.prog 108 1 := ⟨by kernel_rfl, by decide⟩
instance : CelS Tryz.prog 109 24 := ⟨by kernel_rfl, by decide⟩
instance : ArrT Tryz.prog 109 24 5 1 := ⟨Tryz.underlying109, by kernel_rfl, by kernel_rfl⟩
instance : CelS Tryz.prog 110 1 := ⟨by kernel_rfl, by decide⟩
instance : CelS Tryz.prog 111 1 := ⟨by kernel_rfl, by decide⟩
instance : CelS Tryz.prog 112 1 := ⟨by kernel_rfl, by decide⟩
instance : CelS Tryz.prog 114 1 := ⟨by kernel_rfl, by decide⟩
instance : CelS Tryz.prog 115 1 := ⟨by kernel_rfl, by decide⟩
instance : CelS Tryz.prog 117 2 := ⟨by kernel_rfl, by decide⟩
instance : StrT Tryz.prog 117 [5, 5] := ⟨_, Tryz.underlying117, rfl, by kernel_rfl, by kernel_rfl⟩
instance : CelS Tryz.prog 118 2 := ⟨by kernel_rfl, by decide⟩
instance : StrT Tryz.prog 118 [5, 5] := ⟨_, Tryz.underlying118, rfl, by kernel_rfl, by kernel_rfl⟩
instance : CelS Tryz.prog 119 32 := ⟨by kernel_rfl, by decide⟩
instance : ArrT Tryz.prog 119 16 118 2 := ⟨Tryz.underlying119, by kernel_rfl, by kernel_rfl⟩
instance : CelS Tryz.prog 120 1 := ⟨by kernel_rfl, by decide⟩
instance : CelS Tryz.prog 122 1 := ⟨by kernel_rfl, by decide⟩
instance : CelS Tryz.prog 123 1 := ⟨by kernel_rfl, by decide⟩
instance : CelS Tryz.prog 125 1 := ⟨by kernel_rfl, by decide⟩
instance : CelS Tryz.prog 126 1 := ⟨by kernel_rfl, by decide⟩
instance : CelS Tryz.prog 127 1 := ⟨by kernel_rfl, by decide⟩
instance : CelS Tryz.prog 128 1 := ⟨by kernel_rfl, by decide⟩
instance : CelS Tryz.prog 129 1 := ⟨by kernel_rfl, by decide⟩
instance : CelS Tryz.prog 130 20 := ⟨by kernel_rfl, by decide⟩
instance : ArrT Tryz.prog 130 20 110 1 := ⟨Tryz.underlying130, by kernel_rfl, by kernel_rfl⟩
instance : CelS Tryz.prog 132 1 := ⟨by kernel_rfl, by decide⟩
instance : CelS Tryz.prog 133 1 := ⟨by kernel_rfl, by decide⟩
instance : CelS Tryz.prog 135 1 := ⟨by kernel_rfl, by decide⟩
instance : CelS Tryz.prog 136 1 := ⟨by kernel_rfl, by decide⟩
instance : CelS Tryz.prog 137 3 := ⟨by kernel_rfl, by decide⟩
instance : StrT Tryz.prog 137 [9, 9, 71] := ⟨_, Tryz.underlying137, rfl, by kernel_rfl, by kernel_rfl⟩
instance : CelS Tryz.prog 138 3 := ⟨by kernel_rfl, by decide⟩
instance : StrT Tryz.prog 138 [9, 9, 71] := ⟨_, Tryz.underlying138, rfl, by kernel_rfl, by kernel_rfl⟩
instance : CelS Tryz.prog 139 1 := ⟨by kernel_rfl, by decide⟩
instance : CelS Tryz.prog 140 1 := ⟨by kernel_rfl, by decide⟩
instance : CelS Tryz.prog 141 1 := ⟨by kernel_rfl, by decide⟩
instance : CelS Tryz.prog 142 1 := ⟨by kernel_rfl, by decide⟩
instance : CelS Tryz.prog 143 1 := ⟨by kernel_rfl, by decide⟩
instance : StrT Tryz.prog 143 [9] := ⟨_, Tryz.underlying143, rfl, by kernel_rfl, by kernel_rfl⟩
instance : CelS Tryz.prog 144 1 := ⟨by kernel_rfl, by decide⟩
instance : StrT Tryz.prog 144 [9] := ⟨_, Tryz.underlying144, rfl, by kernel_rfl, by kernel_rfl⟩
instance : CelS Tryz.prog 145 64 := ⟨by kernel_rfl, by decide⟩
instance : ArrT Tryz.prog 145 64 5 1 := ⟨Tryz.underlying145, by kernel_rfl, by kernel_rfl⟩
instance : CelS Tryz.prog 146 4 := ⟨by kernel_rfl, by decide⟩
instance : StrT Tryz.prog 146 [17, 17, 17, 9] := ⟨_, Tryz.underlying146, rfl, by kernel_rfl, by kernel_rfl⟩
instance : CelS Tryz.prog 147 4 := ⟨by kernel_rfl, by decide⟩
instance : StrT Tryz.prog 147 [17, 17, 17, 9] := ⟨_, Tryz.underlying147, rfl, by kernel_rfl, by kernel_rfl⟩
instance : ArrT Tryz.prog 148 0 16 1 := ⟨Tryz.underlying148, by kernel_rfl, by kernel_rfl⟩
instance : StrT Tryz.prog 149 [148] := ⟨_, Tryz.underlying149, rfl, by kernel_rfl, by kernel_rfl⟩
instance : StrT Tryz.prog 150 [148] := ⟨_, Tryz.underlying150, rfl, by kernel_rfl, by kernel_rfl⟩
instance : CelS Tryz.prog 151 1 := ⟨by kernel_rfl, by decide⟩
instance : CelS Tryz.prog 152 1 := ⟨by kernel_rfl, by decide⟩
instance : CelS Tryz.prog 153 1 := ⟨by kernel_rfl, by decide⟩
instance : CelS Tryz.prog 154 1 := ⟨by kernel_rfl, by decide⟩
instance : CelS Tryz.prog 155 1 := ⟨by kernel_rfl, by decide⟩
instance : CelS Tryz.prog 156 1 := ⟨by kernel_rfl, by decide⟩
instance : CelS Tryz.prog 157 11 := ⟨by kernel_rfl, by decide⟩
instance : StrT Tryz.prog 157 [12, 12, 120, 152, 5, 5, 153, 154, 88, 155, 156] := ⟨_, Tryz.underlying157, rfl, by kernel_rfl, by kernel_rfl⟩
instance : CelS Tryz.prog 158 11 := ⟨by kernel_rfl, by decide⟩
instance : StrT Tryz.prog 158 [12, 12, 120, 152, 5, 5, 153, 154, 88, 155, 156] := ⟨_, Tryz.underlying158, rfl, by kernel_rfl, by kernel_rfl⟩
end Go.Proofs.YtggodknolmdegaaGreatDoor.H

namespace Go.Proofs.YtggodknolmdegaaGreatDoor.Ve
open Go.RowKit H
theorem tab_at {P : Program} {W : World} {name : String} {k : IntKind} {zs : List Int} {rest : List (String × DataW Unit)} {t e : TypeId} {n : Nat}
    (hty : (P.globalNamed name).bind (fun g => (P.globals[g]?).map (·.type)) = some t) (ht : P.underlying t = some (.array n e)) (he : P.underlying e = some (.int k)) (hce : P.cellsOf e = 1) (hct : P.cellsOf t = n)
    (h : laidMet P ((name, Go.Lib.tabData k zs) :: rest) W) : Go.Lib.TabIs P W name k zs := by
  obtain ⟨g, hg⟩ : ∃ g, P.globalNamed name = some g := by
    cases hh : P.globalNamed name with
    | none => rw [hh] at hty; cases hty
    | some g => exact ⟨g, rfl⟩
  rw [hg] at hty
  exact Go.Lib.tabIs_of_head hg hty ht he hce hct h
theorem tb_of {W : World} {rest : List (String × DataW Unit)} (h : laidMet Tryz.prog (("internal/strconv.uint64pow10", Rows.laid_internal_strconv_uint64pow10) :: rest) W) : Tb W :=
  tab_at (t := 130) (by kernel_rfl) Tryz.underlying130 Tryz.underlying110 (by kernel_rfl) (by kernel_rfl) h
end Go.Proofs.YtggodknolmdegaaGreatDoor.Ve

namespace Go.Proofs.YtggodknolmdegaaGreatDoor.lockLines
open Go.ChangeShapes Go.WideShapes Go.ChangeAt Go.RowKit
set_option linter.unusedVariables false

theorem own : ownKnob Tryz.prog.godebug = none := by kernel_rfl
theorem types : ∀ t ∈ ([5, 5, 5] : List TypeId), Tryz.prog.readableRec t = true ∧ t < Tryz.prog.types.size := by
  intro t ht
  simp only [List.mem_cons, List.not_mem_nil, or_false] at ht
  rcases ht with rfl | rfl | rfl <;> exact ⟨by kernel_rfl, of_decide_eq_true (by kernel_rfl)⟩

set_option maxRecDepth 100000 in
theorem lifted (os : Os) (started : os.Started) (H : Type) (enc : TypeId × Value → H) :
    ReturnsInHanded {} Tryz.checked os 7 .any (fun w args => (Rows.lockLinesSpec.pre enc Tryz.prog Tryz.f7 Rows.lockLinesRow.domain false w args ∧ laidMetH Tryz.prog Rows.lockLinesRow.laid w) ∧ sizedMet enc Tryz.prog Tryz.f7 (OpenSpec.ofChange Rows.lockLinesSpec) false w args) (Rows.lockLinesSpec.post enc Tryz.prog Tryz.f7 false true false false) := by
  refine returnsInHanded_of_change_and (C := Tryz.checked) (X := fun w _ => laidMetH Tryz.prog Rows.lockLinesRow.laid w) (fun _ _ _ hh h => h.of_heap hh) own started (by kernel_rfl) Tryz.func7
    (ChangeSpec.witness_shaped (enc := enc) (C := Tryz.checked) (os := os) (X := fun w _ => laidMetH Tryz.prog Rows.lockLinesRow.laid w) false (World.laidAll Tryz.prog os Rows.lockLinesRow.laid) #[.int .u8 0, .int .u8 0, .int .u8 0] 8 (World.laidAll_os _ _ _)
      (World.shaped_of_ZipB (by kernel_rfl) (by kernel_rfl)) (by kernel_rfl) (by kernel_rfl) (by kernel_rfl)
      (by rw [MakeChecks.laidMetH_plain _ _ _ (by kernel_rfl)]; exact laidMet_laidAll _ (by kernel_rfl) (by kernel_rfl))) ?_
  intro W base args ds gs before hval hW _ _ hL _
  have hL' : laidMet Tryz.prog Rows.lockLinesRow.laid W := by have h := hL; rw [MakeChecks.laidMetH_plain _ _ _ (by kernel_rfl)] at h; exact h
  have hT := Go.Proofs.YtggodknolmdegaaGreatDoor.Ve.tb_of hL'.tail.tail
  exact Go.Proofs.YtggodknolmdegaaGreatDoor.H.law_contractW (P := Tryz.prog) (k := 7) (f := Tryz.f7) (s := Rows.lockLinesSpec) (tb := 4) (by kernel_rfl) Tryz.underlying4 rfl rfl (ts := [5, 5, 5]) rfl types (fun H ds h => match ds, h with | [d1, d2, d3], _ => rfl)
    W (fun a h => by
  obtain ⟨n, m, k, ⟨⟩⟩ := a
  exact Lk.lawLines n m k W hT)
    H enc base args ds gs before hval hW

theorem over : Rows.LockLinesSaid :=
  OpenClaim.holds_of_wide 7 Tryz.f7 rfl rfl rfl rfl rfl rfl rfl ⟨rfl, rfl, rfl, rfl, rfl⟩ rfl rfl rfl rfl rfl (by kernel_rfl) Tryz.func7 (by kernel_rfl)
    (of_decide_eq_true (by kernel_rfl)) (by unfold Func.isWrapper; first | (rw [if_pos (by decide +kernel)]; kernel_rfl) | (rw [if_neg (by decide +kernel)]; exact ⟨rfl, rfl⟩))
    (fun os started H enc _ => lifted os started H enc)

theorem plain (f : FuncId) (fn : Func) (hf : Tryz.pinned.checked.prog.funcNamed "haversack/haversacklaw12.LockLines" = some f) (hfn : Tryz.pinned.checked.prog.funcs[f]? = some fn) :
    true = Tryz.pinned.checked.prog.looks [] ∧ ∀ (j : Nat) t, fn.params[j]? = some t → Tryz.pinned.checked.prog.wantsStandIn t = false := by
  obtain rfl : f = 7 := Option.some.inj ((show Tryz.prog.funcNamed "haversack/haversacklaw12.LockLines" = some 7 by kernel_rfl).symm.trans hf) |>.symm
  obtain rfl : fn = Tryz.f7 := (Option.some.inj (Tryz.func7.symm.trans hfn)).symm
  refine ⟨by kernel_rfl, fun j t ht => ?_⟩
  have hm : t ∈ ([5, 5, 5] : List TypeId) := by simpa using Array.mem_of_getElem? ht
  have hall : (([5, 5, 5] : List TypeId).all fun u => !Tryz.prog.wantsStandIn u) = true := by kernel_rfl
  exact (show Tryz.prog.wantsStandIn t = false by simpa using List.all_eq_true.1 hall t hm)

theorem proved : Rows.LockLinesCardSaid :=
  Claim7.holds_tied_plain_at .later [] _ _ _ _ over (fun _ h => by cases h) (by kernel_rfl) (fun _ h => by cases h) lockLines_row_tie rfl ⟨rfl, rfl⟩ (by kernel_rfl) rfl plain (by kernel_rfl)
#print axioms proved
end Go.Proofs.YtggodknolmdegaaGreatDoor.lockLines

