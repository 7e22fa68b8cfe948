/-
  A registry of few numbers, made. Rows whose beginning was cut off, and that go on growing. Slices cloned; rows copied. A row looked up, by the program and by the reference; parts of archives. Parts of archives, by the program and by the reference; a row's archive. A net in memory; made, told, turned. Faults that wait: put in, taken. A question answered, by the program. A question answered, by the reference. A range over a function whose iterator reads what the loop's body leaves as it is (T). The end of a body that holds a range over a function, whatever the results' form. Truths held against one another.
-/
import Derived.Test.YtlbegmpikggmlaaQc
import Derived.Test.YtlbegmpikggmlaaQb
import Derived.Test.YtlbegmpikggmlaaQa
set_option linter.unusedVariables false
namespace Go.Proofs.Ytlbegmpikggmlaa.Ne
open Go.RowKit H S Ve Sp
attribute [local irreducible] H.CL H.RW H.CW H.Yd H.thenK H.blockQ Go.Calls
set_option maxHeartbeats 4000000 in
theorem made (v : Value) (L : List (Rw × Value)) (w : World) (hv : GA srK w v L) (hl : L.length ≤ 10) (hn : ∀ x ∈ L, x.1.needs.length ≤ 4 ∧ ∀ n ∈ x.1.needs, n < 65536) : Calls Try.prog 9 #[v] w fun e w' => K0 w w' ∧ ∃ (u a : Value) (R : List Rp) (A : List (List UInt8 × Value)) (t : T), e = .returned (.tuple #[u, a, vs t]) ∧ MadeI w.heap.size w' u R a A ∧ R.length ≤ L.length ∧ (L ≠ [] → R ≠ []) ∧ (R ≠ [] → (R.getD 0 default).name = nameK (L.getD 0 default).1.n) := by
  refine H.enter Try.func9 Try.ntmps9 rfl rfl ?_; dsimp only [H.args]
  repeat' (first | (refine CL.seq ?_) | (refine CL.region ?_) | (refine CL.block ?_) | (refine Gt.nil ?_; refine RW.nilw [0, 2, 3, 4, 5, 6, 7, 8, 11, 12, 13, 14, 15, 16, 17, 18, 19, 21, 25, 50, 63, 85, 86, 94, 100, 107, 119, 153, 167, 187] ?_; dsimp only [H.keep, H.look, H.Fr.put, Nat.beq]) | (refine Gt.assign ?_; refine RW.y (Y.assign rfl) rfl ?_))
  refine CL.loopS [0, 5, 6, 7] (fun k vals wr => ∃ (i : Nat) (u a : Value) (R : List Rp) (A : List (List UInt8 × Value)), vals = [v, u, a, .int .i64 (i : Int)] ∧ k = L.length - i ∧ i ≤ L.length ∧ MadeI w.heap.size wr u R a A ∧ R.length ≤ i ∧ (0 < i → R ≠ []) ∧ (R ≠ [] → (R.getD 0 default).name = nameK (L.getD 0 default).1.n) ∧ K0 w wr) L.length ⟨_, rfl, 0, _, _, [], [], rfl, rfl, Nat.zero_le _, ⟨GI.nil _ _ _ _, GI.nil _ _ _ _, rfl, (fun x hx => by cases hx), (fun x hx => by cases hx), (fun g hg => by cases hg), (fun g hg => by cases hg)⟩, by simp, (fun h => absurd h (by decide)), (fun h => absurd rfl h), Kept.refl _ _⟩ ?_
  rintro k vals wr ⟨i, u, a, R, A, rfl, rfl, hi, hI, hRi, hR0, hRn, hKr⟩
  dsimp only [List.zip, List.zipWith]
  have hvr := hv.keep0 hKr
  have hsr := hvr.1
  rcases Nat.lt_or_ge i L.length with hlt | hge
  · have hti : ((i : Int)).toNat = i := Int.toNat_natCast i
    have hmem : L.getD ((i : Int)).toNat default ∈ L := getD_mem default (by omega)
    obtain ⟨g, o, hsp, hcl⟩ := elSpot hsr srK.len (i := (i : Int)) (by omega) (by omega)
    have hall := elAll hsr srK.len (i := (i : Int)) (by omega) (by omega)
    obtain ⟨hn1, hn2⟩ := hn _ hmem
    have hD := hvr.2 _ hmem
    have hx0 : i = 0 → L.getD ((i : Int)).toNat default = L.getD 0 default := fun h => by subst h; rfl
    generalize hxd : L.getD ((i : Int)).toNat default = x at *
    have hvl := verK_len x.1.v
    repeat' (first | (refine CL.seq ?_) | (refine CL.region ?_) | (refine CL.skip ?_) | (refine CL.condP rfl (fun _ => ?_) (fun _ => ?_) <;> try (exfalso; omega)) | (refine Gt.nil ?_; refine RW.nilw [0, 2, 3, 4, 5, 6, 7, 8, 11, 12, 13, 14, 15, 16, 17, 18, 19, 21, 25, 50, 63, 85, 86, 94, 100, 107, 119, 153, 167, 187] ?_; dsimp only [H.keep, H.look, H.Fr.put, Nat.beq]) | (refine Gt.move ?_; refine RW.y (Y.move rfl) rfl ?_) | (refine Gt.len ?_; (refine RW.y (Y.lenx rfl (by assumption)) rfl ?_)) | (refine Gt.lss ?_; (refine RW.y (Y.lss rfl rfl) rfl ?_)))
    refine CL.block ?_
    repeat' (first | (refine CL.seq ?_) | (refine CL.region ?_) | (refine Gt.move ?_; refine RW.y (Y.move rfl) rfl ?_) | (refine Gt.idx ?_; (refine RW.elemF rfl rfl rfl rfl rfl rfl (by assumption) (fun _ => by rfl) rfl (by omega) (by omega) (by rfl) (fun _ _ => ?_))))
    rw [hxd]
    refine RW.fn rfl rfl ((seatVersion x.1.v wr).mono ?_)
    rintro e w1 ⟨hk1, rfl⟩
    refine RW.fn rfl rfl ((versionOfN (verK x.1.v) (by omega) w1).mono ?_)
    rintro e w2 ⟨hk2, V, rfl, pv, hV, hpv, hpvl⟩
    subst hV
    repeat' (first | (refine Gt.move ?_; refine RW.y (Y.move rfl) rfl ?_) | (refine Gt.extract ?_; refine RW.y (Y.extract rfl rfl) rfl ?_))
    refine RW.varN rfl rfl rfl (verCells hpv.one) rfl (fun w3 hb3 hk3 hlt3 => ?_)
    have hz1 := hk1.size
    have hz2 := hk2.size
    have hK3 := (hk1.trans0 hk2).trans0 hk3
    replace hpv := hpv.keep0 hk3
    repeat' (first | (refine CL.seq ?_) | (refine Gt.nil ?_; refine RW.nilw [0, 2, 3, 4, 5, 6, 7, 8, 11, 12, 13, 14, 15, 16, 17, 18, 19, 21, 25, 50, 63, 85, 86, 94, 100, 107, 119, 153, 167, 187] ?_; dsimp only [H.keep, H.look, H.Fr.put, Nat.beq]) | (refine Gt.assign ?_; refine RW.y (Y.assign rfl) rfl ?_))
    refine CL.cutS [0, 5, 6, 7, 8, 11] (fun vals wx => ∃ b : Bool, vals = [v, u, a, .int .i64 (i : Int), .pointer (some ⟨w2.heap.size, 0, none⟩), .bool b] ∧ (R = [] → b = false) ∧ K0 w3 wx) (by simp) ?_ ?_
    · refine CL.draw (fun w' => K0 w3 w') (by kernel_rfl) (fun wc hheap hkc => ?_)
      have hS : K0 w3 wc := hkc
      replace hI := hI.keep0 hK3
      have hsr3 := hsr.keep0 hK3
      have hcl3 : ∀ w', K0 w3 w' → w'.cell? ⟨g, o + 0, none⟩ = some (vb x.1.n) := fun w' k => hcl w' (hK3.trans0 k) 0 _ rfl
      skip
      refine AW.take 0 rfl (by kernel_rfl) (by kernel_rfl) (by kernel_rfl) rfl (by assumption) (fun w hS => Y.move rfl) ?_
      refine AW.take 1 rfl (by kernel_rfl) (by kernel_rfl) (by kernel_rfl) rfl (by assumption) (fun w hS => Y.move rfl) ?_
      refine AW.take 2 rfl (by kernel_rfl) (by kernel_rfl) (by kernel_rfl) rfl (by assumption) (fun w hS => Y.move rfl) ?_
      refine AW.take 3 rfl (by kernel_rfl) (by kernel_rfl) (by kernel_rfl) rfl (by assumption) (fun w hS => Y.idx rfl rfl (hsr3.keep0 hS) (by omega) (by omega)) ?_
      refine AW.take 4 rfl (by kernel_rfl) (by kernel_rfl) (by kernel_rfl) rfl (by assumption) (fun w hS => Y.fieldAddr (congrArg (fun a => some (Value.pointer (some a))) hsp) (by rfl)) ?_
      refine AW.take 5 rfl (by kernel_rfl) (by kernel_rfl) (by kernel_rfl) rfl (by assumption) (fun w hS => Y.load1A rfl (hcl3 _ hS)) ?_
      refine AW.take 7 rfl (by kernel_rfl) (by kernel_rfl) (by kernel_rfl) rfl (by assumption) (fun w hS => Y.loadBlock rfl (hS.at0 hb3) rfl) ?_
      refine AW.two 6 12 rfl rfl (by kernel_rfl) ?_ ?_
      · refine RW.fn rfl rfl ((seatName x.1.n _).mono ?_)
        rintro e wc' ⟨rfl, rfl⟩
        refine RW.nil (Nm.then ⟨hS, ?_⟩)
        refine AW.two 8 12 rfl rfl (by kernel_rfl) ?_ ?_
        · refine RW.fn rfl rfl ((find _ _ R _ (vK x.1.v) _ ((hI.rows.ga).keep0 hS) ⟨_, rfl, hpv.keep0 (by assumption)⟩ hI.fit (parse_fit _)).mono ?_)
          rintro e wd ⟨hkd, cF, bF, rfl, hcF, hcF1, hbF⟩
          have hS := hS.trans0 hkd
          try replace hba := Kept.at0 hkd hba
          refine RW.nil (Nm.then ⟨hS, ?_⟩)
          refine AW.take 9 rfl (by kernel_rfl) (by kernel_rfl) (by kernel_rfl) rfl (by assumption) (fun w hS => Y.move rfl) ?_
          refine AW.take 10 rfl (by kernel_rfl) (by kernel_rfl) (by kernel_rfl) rfl (by assumption) (fun w hS => Y.extract rfl rfl) ?_
          refine AW.take 11 rfl (by kernel_rfl) (by kernel_rfl) (by kernel_rfl) rfl (by assumption) (fun w hS => Y.extract rfl rfl) ?_
          refine AW.next 12 rfl (by kernel_rfl) ?_
          have hga := hS.size
          refine RW.alloc rfl (fun wa hba hka hlta => ?_)
          have hS := hS.trans0 hka
          refine RW.nil (Nm.then ⟨hS, ?_⟩)
          refine AW.next 13 rfl (by kernel_rfl) ?_
          refine RW.storeBlock rfl rfl (by rw [hcF]; rfl) hcF1 hba rfl (fun wd hbd hkd => ?_)
          have hS := hS.trans hkd fun k h => .inr (by omega)
          refine RW.nil (Nm.then ⟨hS, ?_⟩)
          refine AW.take 14 rfl (by kernel_rfl) (by kernel_rfl) (by kernel_rfl) rfl (by assumption) (fun w hS => Y.assign rfl) ?_
          refine AW.donew [0, 5, 6, 7, 8, 11] (by kernel_rfl) ?_
          dsimp only [H.keep, H.look, H.Fr.put, Nat.beq]
          repeat' (first | (refine CL.done ?_) | (refine Nm.then ?_))
          exact ⟨_, rfl, rfl, rfl, bF, rfl, hbF, hS⟩
        · have hga := hS.size
          refine RW.alloc rfl (fun wa hba hka hlta => ?_)
          have hS := hS.trans0 hka
          refine RW.nil (Nm.then ⟨hS, ?_⟩)
          refine AW.next 8 rfl (by kernel_rfl) ?_
          refine RW.fn rfl rfl ((find _ _ R _ (vK x.1.v) _ ((hI.rows.ga).keep0 hS) ⟨_, rfl, hpv.keep0 (by assumption)⟩ hI.fit (parse_fit _)).mono ?_)
          rintro e wd ⟨hkd, cF, bF, rfl, hcF, hcF1, hbF⟩
          have hS := hS.trans0 hkd
          try replace hba := Kept.at0 hkd hba
          refine RW.nil (Nm.then ⟨hS, ?_⟩)
          refine AW.take 9 rfl (by kernel_rfl) (by kernel_rfl) (by kernel_rfl) rfl (by assumption) (fun w hS => Y.move rfl) ?_
          refine AW.take 10 rfl (by kernel_rfl) (by kernel_rfl) (by kernel_rfl) rfl (by assumption) (fun w hS => Y.extract rfl rfl) ?_
          refine AW.take 11 rfl (by kernel_rfl) (by kernel_rfl) (by kernel_rfl) rfl (by assumption) (fun w hS => Y.extract rfl rfl) ?_
          refine AW.next 13 rfl (by kernel_rfl) ?_
          refine RW.storeBlock rfl rfl (by rw [hcF]; rfl) hcF1 hba rfl (fun wd hbd hkd => ?_)
          have hS := hS.trans hkd fun k h => .inr (by omega)
          refine RW.nil (Nm.then ⟨hS, ?_⟩)
          refine AW.take 14 rfl (by kernel_rfl) (by kernel_rfl) (by kernel_rfl) rfl (by assumption) (fun w hS => Y.assign rfl) ?_
          refine AW.donew [0, 5, 6, 7, 8, 11] (by kernel_rfl) ?_
          dsimp only [H.keep, H.look, H.Fr.put, Nat.beq]
          repeat' (first | (refine CL.done ?_) | (refine Nm.then ?_))
          exact ⟨_, rfl, rfl, rfl, bF, rfl, hbF, hS⟩
      · have hga := hS.size
        refine RW.alloc rfl (fun wa hba hka hlta => ?_)
        have hS := hS.trans0 hka
        refine RW.nil (Nm.then ⟨hS, ?_⟩)
        refine AW.next 6 rfl (by kernel_rfl) ?_
        refine RW.fn rfl rfl ((seatName x.1.n _).mono ?_)
        rintro e wc' ⟨rfl, rfl⟩
        refine RW.nil (Nm.then ⟨hS, ?_⟩)
        refine AW.next 8 rfl (by kernel_rfl) ?_
        refine RW.fn rfl rfl ((find _ _ R _ (vK x.1.v) _ ((hI.rows.ga).keep0 hS) ⟨_, rfl, hpv.keep0 (by assumption)⟩ hI.fit (parse_fit _)).mono ?_)
        rintro e wd ⟨hkd, cF, bF, rfl, hcF, hcF1, hbF⟩
        have hS := hS.trans0 hkd
        try replace hba := Kept.at0 hkd hba
        refine RW.nil (Nm.then ⟨hS, ?_⟩)
        refine AW.take 9 rfl (by kernel_rfl) (by kernel_rfl) (by kernel_rfl) rfl (by assumption) (fun w hS => Y.move rfl) ?_
        refine AW.take 10 rfl (by kernel_rfl) (by kernel_rfl) (by kernel_rfl) rfl (by assumption) (fun w hS => Y.extract rfl rfl) ?_
        refine AW.take 11 rfl (by kernel_rfl) (by kernel_rfl) (by kernel_rfl) rfl (by assumption) (fun w hS => Y.extract rfl rfl) ?_
        refine AW.next 13 rfl (by kernel_rfl) ?_
        refine RW.storeBlock rfl rfl (by rw [hcF]; rfl) hcF1 hba rfl (fun wd hbd hkd => ?_)
        have hS := hS.trans hkd fun k h => .inr (by omega)
        refine RW.nil (Nm.then ⟨hS, ?_⟩)
        refine AW.take 14 rfl (by kernel_rfl) (by kernel_rfl) (by kernel_rfl) rfl (by assumption) (fun w hS => Y.assign rfl) ?_
        refine AW.donew [0, 5, 6, 7, 8, 11] (by kernel_rfl) ?_
        dsimp only [H.keep, H.look, H.Fr.put, Nat.beq]
        repeat' (first | (refine CL.done ?_) | (refine Nm.then ?_))
        exact ⟨_, rfl, rfl, rfl, bF, rfl, hbF, hS⟩
    · rintro vals wx ⟨bF, rfl, hbF, hkx⟩
      dsimp only [List.zip, List.zipWith]
      have hKx := hK3.trans0 hkx
      have hsx := hsr.keep0 hKx
      cases bF
      · repeat' (first | (refine CL.seq ?_) | (refine CL.region ?_) | (refine CL.skip ?_) | (refine CL.condF rfl ?_) | (refine Gt.nil ?_; refine RW.nilw [0, 2, 3, 4, 5, 6, 7, 8, 11, 12, 13, 14, 15, 16, 17, 18, 19, 21, 25, 50, 63, 85, 86, 94, 100, 107, 119, 153, 167, 187] ?_; dsimp only [H.keep, H.look, H.Fr.put, Nat.beq]) | (refine Gt.move ?_; refine RW.y (Y.move rfl) rfl ?_) | (refine Gt.idx ?_; (refine RW.elemA rfl rfl rfl rfl (by assumption) (fun _ => by rfl) rfl (by omega) (by omega) (fun _ => ?_))))
        rw [hxd]
        refine RW.fn rfl rfl ((files x.1 x.2 hD.one wx).mono ?_)
        rintro e w4 ⟨hk4, uF, F, rfl, hF, hFf⟩
        refine RW.fn rfl rfl ((pack uF F w4 hF hFf).mono ?_)
        rintro e w5 ⟨hk5, ub, q, rfl, how, hq4, hql⟩
        have hzx := hKx.size
        have hz4 := hk4.size
        have hz5 := hk5.size
        have hK5 := (hKx.trans0 hk4).trans0 hk5
        have hs5 := hsr.keep0 hK5
        repeat' (first | (refine CL.seq ?_) | (refine Gt.nil ?_; refine RW.nilw [0, 2, 3, 4, 5, 6, 7, 8, 11, 12, 13, 14, 15, 16, 17, 18, 19, 21, 25, 50, 63, 85, 86, 94, 100, 107, 119, 153, 167, 187] ?_; dsimp only [H.keep, H.look, H.Fr.put, Nat.beq]) | (refine Gt.assign ?_; refine RW.y (Y.assign rfl) rfl ?_))
        refine CL.region ?_
        repeat' (first | (refine Gt.nil ?_; refine RW.nilw [0, 2, 3, 4, 5, 6, 7, 8, 11, 12, 13, 14, 15, 16, 17, 18, 19, 21, 25, 50, 63, 85, 86, 94, 100, 107, 119, 153, 167, 187] ?_; dsimp only [H.keep, H.look, H.Fr.put, Nat.beq]) | (refine Gt.move ?_; refine RW.y (Y.move rfl) rfl ?_) | (refine Gt.idx ?_; (refine RW.elemF rfl rfl rfl rfl rfl rfl (by assumption) (fun _ => by rfl) rfl (by omega) (by omega) (by rfl) (fun _ _ => ?_))) | (refine Gt.eql ?_; (refine RW.y (Y.eqi rfl rfl) rfl ?_)) | (refine Gt.rem ?_; (refine RW.y (Y.remP rfl rfl (by omega) (by omega)) rfl ?_)))
        rw [hxd]
        skip
        refine CL.cutS [0, 5, 6, 7, 8, 12] (fun vals wy => ∃ ub q, vals = [v, u, a, .int .i64 (i : Int), .pointer (some ⟨w2.heap.size, 0, none⟩), ub] ∧ wy.ownsRow w4.heap.size u8T 1 ub q.length (bv q) ∧ q.take 4 = [80, 65, 75, 49] ∧ q.length ≤ 20001 ∧ K0 wx wy) (by simp) ?_ ?_
        · repeat' (first | (refine CL.region ?_) | (refine CL.skip ?_) | (refine CL.condP rfl (fun _ => ?_) (fun _ => ?_) <;> try (exfalso; omega)) | (refine CL.done ?_) | (refine Nm.then ?_) | (refine Gt.move ?_; refine RW.y (Y.move rfl) rfl ?_))
          · refine RW.app1 rfl rfl rfl rfl how rfl rfl rfl rfl (fun y hy => by simp [Value.cells] at hy; rw [hy]; rfl) (by omega) (by omega) (by omega) (fun u' w6 how2 hk6 hl6 => ?_)
            have how2' : w6.ownsRow w4.heap.size u8T 1 u' (q ++ [7]).length (bv (q ++ [7])) := own_snoc how2
            repeat' (first | (refine CL.done ?_) | (refine Nm.then ?_) | (refine Gt.nil ?_; refine RW.nilw [0, 2, 3, 4, 5, 6, 7, 8, 11, 12, 13, 14, 15, 16, 17, 18, 19, 21, 25, 50, 63, 85, 86, 94, 100, 107, 119, 153, 167, 187] ?_; dsimp only [H.keep, H.look, H.Fr.put, Nat.beq]) | (refine Gt.assign ?_; refine RW.y (Y.assign rfl) rfl ?_))
            exact ⟨_, rfl, rfl, rfl, u', q ++ [7], rfl, how2', by rw [List.take_append_of_le_length (by have := congrArg List.length hq4; simp at this; omega)]; exact hq4, by simp; omega, (hk4.trans0 hk5).trans hk6 fun k h => .inr (by have := (how.lt k h).1; omega)⟩
          · exact ⟨_, rfl, rfl, rfl, ub, q, rfl, how, hq4, by omega, hk4.trans0 hk5⟩
        · rintro vals wy ⟨ub, q, rfl, how, hq4, hql, hky⟩
          clear hk4 hk5 hz5 hK5 hs5 hF hFf
          dsimp only [List.zip, List.zipWith]
          have hKy := hKx.trans0 hky
          have hsy := hsr.keep0 hKy
          have hb3y := (hkx.trans0 hky).at0 hb3
          have hpvy := hpv.keep0 (hkx.trans0 hky)
          have hcly : ∀ w', K0 wy w' → w'.cell? ⟨g, o + 0, none⟩ = some (vb x.1.n) := fun w' k => hcl w' (hKy.trans0 k) 0 _ rfl
          have hub := Sl.of_own how
          obtain ⟨pub, cub, rfl, _⟩ := hub.shape
          have hzy := hKy.size
          repeat' ((refine CL.seq ?_))
          refine CL.cutS [0, 5, 6, 7, 12, 13] (fun vals wz => ∃ (xr : Rp) (gr : Nat), vals = [v, u, a, .int .i64 (i : Int), .slice pub q.length cub, .pointer (some ⟨gr, 0, none⟩)] ∧ Mk wr.heap.size gr xr wz ∧ xr.name = nameK x.1.n ∧ xr.needs = [] ∧ 0 ≤ xr.size ∧ xr.size ≤ 30000 ∧ wy.heap.size ≤ gr ∧ K0 wy wz) (by simp) ?_ ?_
          · refine CL.draw (fun w' => K0 wy w') (by kernel_rfl) (fun wc hheap hkc => ?_)
            have hS : K0 wy wc := hkc
            skip
            refine AW.take 0 rfl (by kernel_rfl) (by kernel_rfl) (by kernel_rfl) rfl (by assumption) (fun w hS => Y.move rfl) ?_
            refine AW.take 1 rfl (by kernel_rfl) (by kernel_rfl) (by kernel_rfl) rfl (by assumption) (fun w hS => Y.move rfl) ?_
            refine AW.take 2 rfl (by kernel_rfl) (by kernel_rfl) (by kernel_rfl) rfl (by assumption) (fun w hS => Y.idx rfl rfl (hsy.keep0 hS) (by omega) (by omega)) ?_
            refine AW.take 3 rfl (by kernel_rfl) (by kernel_rfl) (by kernel_rfl) rfl (by assumption) (fun w hS => Y.fieldAddr (congrArg (fun a => some (Value.pointer (some a))) hsp) (by rfl)) ?_
            refine AW.take 4 rfl (by kernel_rfl) (by kernel_rfl) (by kernel_rfl) rfl (by assumption) (fun w hS => Y.load1A rfl (hcly _ hS)) ?_
            refine AW.take 6 rfl (by kernel_rfl) (by kernel_rfl) (by kernel_rfl) rfl (by assumption) (fun w hS => Y.loadBlock rfl (hS.at0 hb3y) rfl) ?_
            refine AW.take 7 rfl (by kernel_rfl) (by kernel_rfl) (by kernel_rfl) rfl (by assumption) (fun w hS => Y.move rfl) ?_
            refine AW.take 10 rfl (by kernel_rfl) (by kernel_rfl) (by kernel_rfl) rfl (by assumption) (fun w hS => Y.move rfl) ?_
            refine AW.take 11 rfl (by kernel_rfl) (by kernel_rfl) (by kernel_rfl) rfl (by assumption) (fun w hS => Y.lenx rfl (hub.keep0 hS)) ?_
            refine AW.three 5 8 13 (by kernel_rfl) rfl rfl rfl ?_ ?_ ?_
            · refine RW.fn rfl rfl ((seatName x.1.n _).mono ?_)
              rintro e wc' ⟨rfl, rfl⟩
              refine RW.nil (Nm.then ⟨hS, ?_⟩)
              refine AW.two 8 13 rfl rfl (by kernel_rfl) ?_ ?_
              · have hg8 := hS.size
                refine RW.build1 rfl rfl rfl rfl (fun wb hbb hkb hltb => ?_)
                have hS := hS.trans0 hkb
                try replace hba := Kept.at0 hkb hba
                refine RW.nil (Nm.then ⟨hS, ?_⟩)
                refine AW.two 9 13 rfl rfl (by kernel_rfl) ?_ ?_
                · have hs9 := sl_new (sz := 1) hbb rfl (by decide)
                  refine RW.fn rfl rfl ((refOf _ [q] _ ⟨[(q, .slice pub q.length cub)], rfl, hs9, fun y hy => by rw [List.mem_singleton.1 hy]; exact hub.keep0 hS⟩ (by simp; omega)).mono ?_)
                  rintro e we ⟨hke, cs, rfl, hcs⟩
                  have hS := hS.trans0 hke
                  try replace hba := Kept.at0 hke hba
                  refine RW.nil (Nm.then ⟨hS, ?_⟩)
                  refine AW.take 12 rfl (by kernel_rfl) (by kernel_rfl) (by kernel_rfl) rfl (by assumption) (fun w hS => rowBuild ⟨nameK x.1.n, vK x.1.v, pv, cs, hcs, (q.length : Int), [], .slice none 0 0, fun _ => False⟩ rfl rfl rfl rfl rfl) ?_
                  refine AW.next 13 rfl (by kernel_rfl) ?_
                  have hga := hS.size
                  refine RW.alloc rfl (fun wa hba hka hlta => ?_)
                  have hS := hS.trans0 hka
                  try replace hbb := Kept.at0 hka hbb
                  refine RW.nil (Nm.then ⟨hS, ?_⟩)
                  refine AW.next 14 rfl (by kernel_rfl) ?_
                  refine RW.storeBlock rfl rfl (by rw [List.size_toArray, rpC_len]; rfl) (fun z hz => rpC_one hpv.one rfl z (by simpa using hz)) hba rfl (fun wd hbd hkd => ?_)
                  have hS := hS.trans hkd fun k h => .inr (by omega)
                  refine RW.nil (Nm.then ⟨hS, ?_⟩)
                  refine AW.donew [0, 5, 6, 7, 12, 13] (by kernel_rfl) ?_
                  dsimp only [H.keep, H.look, H.Fr.put, Nat.beq]
                  repeat' (first | (refine CL.done ?_) | (refine Nm.then ?_))
                  have hfr : FitR ⟨nameK x.1.n, vK x.1.v, pv, cs, hcs, (q.length : Int), [], .slice none 0 0, fun _ => False⟩ := by
                    have hbd := parse_bd (verK x.1.v)
                    exact ⟨by show (nameK x.1.n).length ≤ 100; rw [nameK_len]; omega, parse_fit _, by show (vK x.1.v).a ≤ _; unfold vK; omega, by show (vK x.1.v).b ≤ _; unfold vK; omega, by show (vK x.1.v).c ≤ _; unfold vK; omega, vK_text _, by show (q.length : Int) ≤ _; omega, by show ([] : List Np).length ≤ 20; simp, fun y hy => by cases hy⟩
                  exact ⟨_, rfl, rfl, rfl, ⟨nameK x.1.n, vK x.1.v, pv, cs, hcs, (q.length : Int), [], .slice none 0 0, fun _ => False⟩, _, rfl, ⟨hbd, by omega, hpvy.keep0 hS, ⟨Sl.nil _ _, fun y hy => by cases hy⟩, fun k hk => ⟨by have := hpvl k hk; omega, by have := hpvy.lt hk; omega⟩, fun k hk => by simp [live] at hk, (fun y hy => by cases hy), hfr, by show ([] : List Np).length ≤ 4; simp⟩, rfl, rfl, by show 0 ≤ (q.length : Int); omega, by show (q.length : Int) ≤ 30000; omega, by omega, hS⟩
                · have hga := hS.size
                  refine RW.alloc rfl (fun wa hba hka hlta => ?_)
                  have hS := hS.trans0 hka
                  try replace hbb := Kept.at0 hka hbb
                  refine RW.nil (Nm.then ⟨hS, ?_⟩)
                  refine AW.next 9 rfl (by kernel_rfl) ?_
                  have hs9 := sl_new (sz := 1) hbb rfl (by decide)
                  refine RW.fn rfl rfl ((refOf _ [q] _ ⟨[(q, .slice pub q.length cub)], rfl, hs9, fun y hy => by rw [List.mem_singleton.1 hy]; exact hub.keep0 hS⟩ (by simp; omega)).mono ?_)
                  rintro e we ⟨hke, cs, rfl, hcs⟩
                  have hS := hS.trans0 hke
                  try replace hba := Kept.at0 hke hba
                  refine RW.nil (Nm.then ⟨hS, ?_⟩)
                  refine AW.take 12 rfl (by kernel_rfl) (by kernel_rfl) (by kernel_rfl) rfl (by assumption) (fun w hS => rowBuild ⟨nameK x.1.n, vK x.1.v, pv, cs, hcs, (q.length : Int), [], .slice none 0 0, fun _ => False⟩ rfl rfl rfl rfl rfl) ?_
                  refine AW.next 14 rfl (by kernel_rfl) ?_
                  refine RW.storeBlock rfl rfl (by rw [List.size_toArray, rpC_len]; rfl) (fun z hz => rpC_one hpv.one rfl z (by simpa using hz)) hba rfl (fun wd hbd hkd => ?_)
                  have hS := hS.trans hkd fun k h => .inr (by omega)
                  refine RW.nil (Nm.then ⟨hS, ?_⟩)
                  refine AW.donew [0, 5, 6, 7, 12, 13] (by kernel_rfl) ?_
                  dsimp only [H.keep, H.look, H.Fr.put, Nat.beq]
                  repeat' (first | (refine CL.done ?_) | (refine Nm.then ?_))
                  have hfr : FitR ⟨nameK x.1.n, vK x.1.v, pv, cs, hcs, (q.length : Int), [], .slice none 0 0, fun _ => False⟩ := by
                    have hbd := parse_bd (verK x.1.v)
                    exact ⟨by show (nameK x.1.n).length ≤ 100; rw [nameK_len]; omega, parse_fit _, by show (vK x.1.v).a ≤ _; unfold vK; omega, by show (vK x.1.v).b ≤ _; unfold vK; omega, by show (vK x.1.v).c ≤ _; unfold vK; omega, vK_text _, by show (q.length : Int) ≤ _; omega, by show ([] : List Np).length ≤ 20; simp, fun y hy => by cases hy⟩
                  exact ⟨_, rfl, rfl, rfl, ⟨nameK x.1.n, vK x.1.v, pv, cs, hcs, (q.length : Int), [], .slice none 0 0, fun _ => False⟩, _, rfl, ⟨hbd, by omega, hpvy.keep0 hS, ⟨Sl.nil _ _, fun y hy => by cases hy⟩, fun k hk => ⟨by have := hpvl k hk; omega, by have := hpvy.lt hk; omega⟩, fun k hk => by simp [live] at hk, (fun y hy => by cases hy), hfr, by show ([] : List Np).length ≤ 4; simp⟩, rfl, rfl, by show 0 ≤ (q.length : Int); omega, by show (q.length : Int) ≤ 30000; omega, by omega, hS⟩
              · have hga := hS.size
                refine RW.alloc rfl (fun wa hba hka hlta => ?_)
                have hS := hS.trans0 hka
                try replace hbb := Kept.at0 hka hbb
                refine RW.nil (Nm.then ⟨hS, ?_⟩)
                refine AW.next 8 rfl (by kernel_rfl) ?_
                have hg8 := hS.size
                refine RW.build1 rfl rfl rfl rfl (fun wb hbb hkb hltb => ?_)
                have hS := hS.trans0 hkb
                try replace hba := Kept.at0 hkb hba
                refine RW.nil (Nm.then ⟨hS, ?_⟩)
                refine AW.next 9 rfl (by kernel_rfl) ?_
                have hs9 := sl_new (sz := 1) hbb rfl (by decide)
                refine RW.fn rfl rfl ((refOf _ [q] _ ⟨[(q, .slice pub q.length cub)], rfl, hs9, fun y hy => by rw [List.mem_singleton.1 hy]; exact hub.keep0 hS⟩ (by simp; omega)).mono ?_)
                rintro e we ⟨hke, cs, rfl, hcs⟩
                have hS := hS.trans0 hke
                try replace hba := Kept.at0 hke hba
                refine RW.nil (Nm.then ⟨hS, ?_⟩)
                refine AW.take 12 rfl (by kernel_rfl) (by kernel_rfl) (by kernel_rfl) rfl (by assumption) (fun w hS => rowBuild ⟨nameK x.1.n, vK x.1.v, pv, cs, hcs, (q.length : Int), [], .slice none 0 0, fun _ => False⟩ rfl rfl rfl rfl rfl) ?_
                refine AW.next 14 rfl (by kernel_rfl) ?_
                refine RW.storeBlock rfl rfl (by rw [List.size_toArray, rpC_len]; rfl) (fun z hz => rpC_one hpv.one rfl z (by simpa using hz)) hba rfl (fun wd hbd hkd => ?_)
                have hS := hS.trans hkd fun k h => .inr (by omega)
                refine RW.nil (Nm.then ⟨hS, ?_⟩)
                refine AW.donew [0, 5, 6, 7, 12, 13] (by kernel_rfl) ?_
                dsimp only [H.keep, H.look, H.Fr.put, Nat.beq]
                repeat' (first | (refine CL.done ?_) | (refine Nm.then ?_))
                have hfr : FitR ⟨nameK x.1.n, vK x.1.v, pv, cs, hcs, (q.length : Int), [], .slice none 0 0, fun _ => False⟩ := by
                  have hbd := parse_bd (verK x.1.v)
                  exact ⟨by show (nameK x.1.n).length ≤ 100; rw [nameK_len]; omega, parse_fit _, by show (vK x.1.v).a ≤ _; unfold vK; omega, by show (vK x.1.v).b ≤ _; unfold vK; omega, by show (vK x.1.v).c ≤ _; unfold vK; omega, vK_text _, by show (q.length : Int) ≤ _; omega, by show ([] : List Np).length ≤ 20; simp, fun y hy => by cases hy⟩
                exact ⟨_, rfl, rfl, rfl, ⟨nameK x.1.n, vK x.1.v, pv, cs, hcs, (q.length : Int), [], .slice none 0 0, fun _ => False⟩, _, rfl, ⟨hbd, by omega, hpvy.keep0 hS, ⟨Sl.nil _ _, fun y hy => by cases hy⟩, fun k hk => ⟨by have := hpvl k hk; omega, by have := hpvy.lt hk; omega⟩, fun k hk => by simp [live] at hk, (fun y hy => by cases hy), hfr, by show ([] : List Np).length ≤ 4; simp⟩, rfl, rfl, by show 0 ≤ (q.length : Int); omega, by show (q.length : Int) ≤ 30000; omega, by omega, hS⟩
            · have hg8 := hS.size
              refine RW.build1 rfl rfl rfl rfl (fun wb hbb hkb hltb => ?_)
              have hS := hS.trans0 hkb
              try replace hba := Kept.at0 hkb hba
              refine RW.nil (Nm.then ⟨hS, ?_⟩)
              refine AW.two 5 13 rfl rfl (by kernel_rfl) ?_ ?_
              · refine RW.fn rfl rfl ((seatName x.1.n _).mono ?_)
                rintro e wc' ⟨rfl, rfl⟩
                refine RW.nil (Nm.then ⟨hS, ?_⟩)
                refine AW.two 9 13 rfl rfl (by kernel_rfl) ?_ ?_
                · have hs9 := sl_new (sz := 1) hbb rfl (by decide)
                  refine RW.fn rfl rfl ((refOf _ [q] _ ⟨[(q, .slice pub q.length cub)], rfl, hs9, fun y hy => by rw [List.mem_singleton.1 hy]; exact hub.keep0 hS⟩ (by simp; omega)).mono ?_)
                  rintro e we ⟨hke, cs, rfl, hcs⟩
                  have hS := hS.trans0 hke
                  try replace hba := Kept.at0 hke hba
                  refine RW.nil (Nm.then ⟨hS, ?_⟩)
                  refine AW.take 12 rfl (by kernel_rfl) (by kernel_rfl) (by kernel_rfl) rfl (by assumption) (fun w hS => rowBuild ⟨nameK x.1.n, vK x.1.v, pv, cs, hcs, (q.length : Int), [], .slice none 0 0, fun _ => False⟩ rfl rfl rfl rfl rfl) ?_
                  refine AW.next 13 rfl (by kernel_rfl) ?_
                  have hga := hS.size
                  refine RW.alloc rfl (fun wa hba hka hlta => ?_)
                  have hS := hS.trans0 hka
                  try replace hbb := Kept.at0 hka hbb
                  refine RW.nil (Nm.then ⟨hS, ?_⟩)
                  refine AW.next 14 rfl (by kernel_rfl) ?_
                  refine RW.storeBlock rfl rfl (by rw [List.size_toArray, rpC_len]; rfl) (fun z hz => rpC_one hpv.one rfl z (by simpa using hz)) hba rfl (fun wd hbd hkd => ?_)
                  have hS := hS.trans hkd fun k h => .inr (by omega)
                  refine RW.nil (Nm.then ⟨hS, ?_⟩)
                  refine AW.donew [0, 5, 6, 7, 12, 13] (by kernel_rfl) ?_
                  dsimp only [H.keep, H.look, H.Fr.put, Nat.beq]
                  repeat' (first | (refine CL.done ?_) | (refine Nm.then ?_))
                  have hfr : FitR ⟨nameK x.1.n, vK x.1.v, pv, cs, hcs, (q.length : Int), [], .slice none 0 0, fun _ => False⟩ := by
                    have hbd := parse_bd (verK x.1.v)
                    exact ⟨by show (nameK x.1.n).length ≤ 100; rw [nameK_len]; omega, parse_fit _, by show (vK x.1.v).a ≤ _; unfold vK; omega, by show (vK x.1.v).b ≤ _; unfold vK; omega, by show (vK x.1.v).c ≤ _; unfold vK; omega, vK_text _, by show (q.length : Int) ≤ _; omega, by show ([] : List Np).length ≤ 20; simp, fun y hy => by cases hy⟩
                  exact ⟨_, rfl, rfl, rfl, ⟨nameK x.1.n, vK x.1.v, pv, cs, hcs, (q.length : Int), [], .slice none 0 0, fun _ => False⟩, _, rfl, ⟨hbd, by omega, hpvy.keep0 hS, ⟨Sl.nil _ _, fun y hy => by cases hy⟩, fun k hk => ⟨by have := hpvl k hk; omega, by have := hpvy.lt hk; omega⟩, fun k hk => by simp [live] at hk, (fun y hy => by cases hy), hfr, by show ([] : List Np).length ≤ 4; simp⟩, rfl, rfl, by show 0 ≤ (q.length : Int); omega, by show (q.length : Int) ≤ 30000; omega, by omega, hS⟩
                · have hga := hS.size
                  refine RW.alloc rfl (fun wa hba hka hlta => ?_)
                  have hS := hS.trans0 hka
                  try replace hbb := Kept.at0 hka hbb
                  refine RW.nil (Nm.then ⟨hS, ?_⟩)
                  refine AW.next 9 rfl (by kernel_rfl) ?_
                  have hs9 := sl_new (sz := 1) hbb rfl (by decide)
                  refine RW.fn rfl rfl ((refOf _ [q] _ ⟨[(q, .slice pub q.length cub)], rfl, hs9, fun y hy => by rw [List.mem_singleton.1 hy]; exact hub.keep0 hS⟩ (by simp; omega)).mono ?_)
                  rintro e we ⟨hke, cs, rfl, hcs⟩
                  have hS := hS.trans0 hke
                  try replace hba := Kept.at0 hke hba
                  refine RW.nil (Nm.then ⟨hS, ?_⟩)
                  refine AW.take 12 rfl (by kernel_rfl) (by kernel_rfl) (by kernel_rfl) rfl (by assumption) (fun w hS => rowBuild ⟨nameK x.1.n, vK x.1.v, pv, cs, hcs, (q.length : Int), [], .slice none 0 0, fun _ => False⟩ rfl rfl rfl rfl rfl) ?_
                  refine AW.next 14 rfl (by kernel_rfl) ?_
                  refine RW.storeBlock rfl rfl (by rw [List.size_toArray, rpC_len]; rfl) (fun z hz => rpC_one hpv.one rfl z (by simpa using hz)) hba rfl (fun wd hbd hkd => ?_)
                  have hS := hS.trans hkd fun k h => .inr (by omega)
                  refine RW.nil (Nm.then ⟨hS, ?_⟩)
                  refine AW.donew [0, 5, 6, 7, 12, 13] (by kernel_rfl) ?_
                  dsimp only [H.keep, H.look, H.Fr.put, Nat.beq]
                  repeat' (first | (refine CL.done ?_) | (refine Nm.then ?_))
                  have hfr : FitR ⟨nameK x.1.n, vK x.1.v, pv, cs, hcs, (q.length : Int), [], .slice none 0 0, fun _ => False⟩ := by
                    have hbd := parse_bd (verK x.1.v)
                    exact ⟨by show (nameK x.1.n).length ≤ 100; rw [nameK_len]; omega, parse_fit _, by show (vK x.1.v).a ≤ _; unfold vK; omega, by show (vK x.1.v).b ≤ _; unfold vK; omega, by show (vK x.1.v).c ≤ _; unfold vK; omega, vK_text _, by show (q.length : Int) ≤ _; omega, by show ([] : List Np).length ≤ 20; simp, fun y hy => by cases hy⟩
                  exact ⟨_, rfl, rfl, rfl, ⟨nameK x.1.n, vK x.1.v, pv, cs, hcs, (q.length : Int), [], .slice none 0 0, fun _ => False⟩, _, rfl, ⟨hbd, by omega, hpvy.keep0 hS, ⟨Sl.nil _ _, fun y hy => by cases hy⟩, fun k hk => ⟨by have := hpvl k hk; omega, by have := hpvy.lt hk; omega⟩, fun k hk => by simp [live] at hk, (fun y hy => by cases hy), hfr, by show ([] : List Np).length ≤ 4; simp⟩, rfl, rfl, by show 0 ≤ (q.length : Int); omega, by show (q.length : Int) ≤ 30000; omega, by omega, hS⟩
              · have hga := hS.size
                refine RW.alloc rfl (fun wa hba hka hlta => ?_)
                have hS := hS.trans0 hka
                try replace hbb := Kept.at0 hka hbb
                refine RW.nil (Nm.then ⟨hS, ?_⟩)
                refine AW.next 5 rfl (by kernel_rfl) ?_
                refine RW.fn rfl rfl ((seatName x.1.n _).mono ?_)
                rintro e wc' ⟨rfl, rfl⟩
                refine RW.nil (Nm.then ⟨hS, ?_⟩)
                refine AW.next 9 rfl (by kernel_rfl) ?_
                have hs9 := sl_new (sz := 1) hbb rfl (by decide)
                refine RW.fn rfl rfl ((refOf _ [q] _ ⟨[(q, .slice pub q.length cub)], rfl, hs9, fun y hy => by rw [List.mem_singleton.1 hy]; exact hub.keep0 hS⟩ (by simp; omega)).mono ?_)
                rintro e we ⟨hke, cs, rfl, hcs⟩
                have hS := hS.trans0 hke
                try replace hba := Kept.at0 hke hba
                refine RW.nil (Nm.then ⟨hS, ?_⟩)
                refine AW.take 12 rfl (by kernel_rfl) (by kernel_rfl) (by kernel_rfl) rfl (by assumption) (fun w hS => rowBuild ⟨nameK x.1.n, vK x.1.v, pv, cs, hcs, (q.length : Int), [], .slice none 0 0, fun _ => False⟩ rfl rfl rfl rfl rfl) ?_
                refine AW.next 14 rfl (by kernel_rfl) ?_
                refine RW.storeBlock rfl rfl (by rw [List.size_toArray, rpC_len]; rfl) (fun z hz => rpC_one hpv.one rfl z (by simpa using hz)) hba rfl (fun wd hbd hkd => ?_)
                have hS := hS.trans hkd fun k h => .inr (by omega)
                refine RW.nil (Nm.then ⟨hS, ?_⟩)
                refine AW.donew [0, 5, 6, 7, 12, 13] (by kernel_rfl) ?_
                dsimp only [H.keep, H.look, H.Fr.put, Nat.beq]
                repeat' (first | (refine CL.done ?_) | (refine Nm.then ?_))
                have hfr : FitR ⟨nameK x.1.n, vK x.1.v, pv, cs, hcs, (q.length : Int), [], .slice none 0 0, fun _ => False⟩ := by
                  have hbd := parse_bd (verK x.1.v)
                  exact ⟨by show (nameK x.1.n).length ≤ 100; rw [nameK_len]; omega, parse_fit _, by show (vK x.1.v).a ≤ _; unfold vK; omega, by show (vK x.1.v).b ≤ _; unfold vK; omega, by show (vK x.1.v).c ≤ _; unfold vK; omega, vK_text _, by show (q.length : Int) ≤ _; omega, by show ([] : List Np).length ≤ 20; simp, fun y hy => by cases hy⟩
                exact ⟨_, rfl, rfl, rfl, ⟨nameK x.1.n, vK x.1.v, pv, cs, hcs, (q.length : Int), [], .slice none 0 0, fun _ => False⟩, _, rfl, ⟨hbd, by omega, hpvy.keep0 hS, ⟨Sl.nil _ _, fun y hy => by cases hy⟩, fun k hk => ⟨by have := hpvl k hk; omega, by have := hpvy.lt hk; omega⟩, fun k hk => by simp [live] at hk, (fun y hy => by cases hy), hfr, by show ([] : List Np).length ≤ 4; simp⟩, rfl, rfl, by show 0 ≤ (q.length : Int); omega, by show (q.length : Int) ≤ 30000; omega, by omega, hS⟩
            · have hga := hS.size
              refine RW.alloc rfl (fun wa hba hka hlta => ?_)
              have hS := hS.trans0 hka
              try replace hbb := Kept.at0 hka hbb
              refine RW.nil (Nm.then ⟨hS, ?_⟩)
              refine AW.two 5 8 rfl rfl (by kernel_rfl) ?_ ?_
              · refine RW.fn rfl rfl ((seatName x.1.n _).mono ?_)
                rintro e wc' ⟨rfl, rfl⟩
                refine RW.nil (Nm.then ⟨hS, ?_⟩)
                refine AW.next 8 rfl (by kernel_rfl) ?_
                have hg8 := hS.size
                refine RW.build1 rfl rfl rfl rfl (fun wb hbb hkb hltb => ?_)
                have hS := hS.trans0 hkb
                try replace hba := Kept.at0 hkb hba
                refine RW.nil (Nm.then ⟨hS, ?_⟩)
                refine AW.next 9 rfl (by kernel_rfl) ?_
                have hs9 := sl_new (sz := 1) hbb rfl (by decide)
                refine RW.fn rfl rfl ((refOf _ [q] _ ⟨[(q, .slice pub q.length cub)], rfl, hs9, fun y hy => by rw [List.mem_singleton.1 hy]; exact hub.keep0 hS⟩ (by simp; omega)).mono ?_)
                rintro e we ⟨hke, cs, rfl, hcs⟩
                have hS := hS.trans0 hke
                try replace hba := Kept.at0 hke hba
                refine RW.nil (Nm.then ⟨hS, ?_⟩)
                refine AW.take 12 rfl (by kernel_rfl) (by kernel_rfl) (by kernel_rfl) rfl (by assumption) (fun w hS => rowBuild ⟨nameK x.1.n, vK x.1.v, pv, cs, hcs, (q.length : Int), [], .slice none 0 0, fun _ => False⟩ rfl rfl rfl rfl rfl) ?_
                refine AW.next 14 rfl (by kernel_rfl) ?_
                refine RW.storeBlock rfl rfl (by rw [List.size_toArray, rpC_len]; rfl) (fun z hz => rpC_one hpv.one rfl z (by simpa using hz)) hba rfl (fun wd hbd hkd => ?_)
                have hS := hS.trans hkd fun k h => .inr (by omega)
                refine RW.nil (Nm.then ⟨hS, ?_⟩)
                refine AW.donew [0, 5, 6, 7, 12, 13] (by kernel_rfl) ?_
                dsimp only [H.keep, H.look, H.Fr.put, Nat.beq]
                repeat' (first | (refine CL.done ?_) | (refine Nm.then ?_))
                have hfr : FitR ⟨nameK x.1.n, vK x.1.v, pv, cs, hcs, (q.length : Int), [], .slice none 0 0, fun _ => False⟩ := by
                  have hbd := parse_bd (verK x.1.v)
                  exact ⟨by show (nameK x.1.n).length ≤ 100; rw [nameK_len]; omega, parse_fit _, by show (vK x.1.v).a ≤ _; unfold vK; omega, by show (vK x.1.v).b ≤ _; unfold vK; omega, by show (vK x.1.v).c ≤ _; unfold vK; omega, vK_text _, by show (q.length : Int) ≤ _; omega, by show ([] : List Np).length ≤ 20; simp, fun y hy => by cases hy⟩
                exact ⟨_, rfl, rfl, rfl, ⟨nameK x.1.n, vK x.1.v, pv, cs, hcs, (q.length : Int), [], .slice none 0 0, fun _ => False⟩, _, rfl, ⟨hbd, by omega, hpvy.keep0 hS, ⟨Sl.nil _ _, fun y hy => by cases hy⟩, fun k hk => ⟨by have := hpvl k hk; omega, by have := hpvy.lt hk; omega⟩, fun k hk => by simp [live] at hk, (fun y hy => by cases hy), hfr, by show ([] : List Np).length ≤ 4; simp⟩, rfl, rfl, by show 0 ≤ (q.length : Int); omega, by show (q.length : Int) ≤ 30000; omega, by omega, hS⟩
              · have hg8 := hS.size
                refine RW.build1 rfl rfl rfl rfl (fun wb hbb hkb hltb => ?_)
                have hS := hS.trans0 hkb
                try replace hba := Kept.at0 hkb hba
                refine RW.nil (Nm.then ⟨hS, ?_⟩)
                refine AW.next 5 rfl (by kernel_rfl) ?_
                refine RW.fn rfl rfl ((seatName x.1.n _).mono ?_)
                rintro e wc' ⟨rfl, rfl⟩
                refine RW.nil (Nm.then ⟨hS, ?_⟩)
                refine AW.next 9 rfl (by kernel_rfl) ?_
                have hs9 := sl_new (sz := 1) hbb rfl (by decide)
                refine RW.fn rfl rfl ((refOf _ [q] _ ⟨[(q, .slice pub q.length cub)], rfl, hs9, fun y hy => by rw [List.mem_singleton.1 hy]; exact hub.keep0 hS⟩ (by simp; omega)).mono ?_)
                rintro e we ⟨hke, cs, rfl, hcs⟩
                have hS := hS.trans0 hke
                try replace hba := Kept.at0 hke hba
                refine RW.nil (Nm.then ⟨hS, ?_⟩)
                refine AW.take 12 rfl (by kernel_rfl) (by kernel_rfl) (by kernel_rfl) rfl (by assumption) (fun w hS => rowBuild ⟨nameK x.1.n, vK x.1.v, pv, cs, hcs, (q.length : Int), [], .slice none 0 0, fun _ => False⟩ rfl rfl rfl rfl rfl) ?_
                refine AW.next 14 rfl (by kernel_rfl) ?_
                refine RW.storeBlock rfl rfl (by rw [List.size_toArray, rpC_len]; rfl) (fun z hz => rpC_one hpv.one rfl z (by simpa using hz)) hba rfl (fun wd hbd hkd => ?_)
                have hS := hS.trans hkd fun k h => .inr (by omega)
                refine RW.nil (Nm.then ⟨hS, ?_⟩)
                refine AW.donew [0, 5, 6, 7, 12, 13] (by kernel_rfl) ?_
                dsimp only [H.keep, H.look, H.Fr.put, Nat.beq]
                repeat' (first | (refine CL.done ?_) | (refine Nm.then ?_))
                have hfr : FitR ⟨nameK x.1.n, vK x.1.v, pv, cs, hcs, (q.length : Int), [], .slice none 0 0, fun _ => False⟩ := by
                  have hbd := parse_bd (verK x.1.v)
                  exact ⟨by show (nameK x.1.n).length ≤ 100; rw [nameK_len]; omega, parse_fit _, by show (vK x.1.v).a ≤ _; unfold vK; omega, by show (vK x.1.v).b ≤ _; unfold vK; omega, by show (vK x.1.v).c ≤ _; unfold vK; omega, vK_text _, by show (q.length : Int) ≤ _; omega, by show ([] : List Np).length ≤ 20; simp, fun y hy => by cases hy⟩
                exact ⟨_, rfl, rfl, rfl, ⟨nameK x.1.n, vK x.1.v, pv, cs, hcs, (q.length : Int), [], .slice none 0 0, fun _ => False⟩, _, rfl, ⟨hbd, by omega, hpvy.keep0 hS, ⟨Sl.nil _ _, fun y hy => by cases hy⟩, fun k hk => ⟨by have := hpvl k hk; omega, by have := hpvy.lt hk; omega⟩, fun k hk => by simp [live] at hk, (fun y hy => by cases hy), hfr, by show ([] : List Np).length ≤ 4; simp⟩, rfl, rfl, by show 0 ≤ (q.length : Int); omega, by show (q.length : Int) ≤ 30000; omega, by omega, hS⟩
          · rintro vals wz ⟨xr, gr, rfl, hmk, hnm, hnd, hs0, hs1, hgy, hKz⟩
            dsimp only [List.zip, List.zipWith]
            have hsz := hsy.keep0 hKz
            have hDy := srK.keep0 hD hKy
            repeat' ((refine CL.seq ?_))
            refine CL.region ?_
            repeat' (first | (refine Gt.nil ?_; refine RW.nilw [0, 2, 3, 4, 5, 6, 7, 8, 11, 12, 13, 14, 15, 16, 17, 18, 19, 21, 25, 50, 63, 85, 86, 94, 100, 107, 119, 153, 167, 187] ?_; dsimp only [H.keep, H.look, H.Fr.put, Nat.beq]) | (refine Gt.move ?_; refine RW.y (Y.move rfl) rfl ?_) | (refine Gt.idx ?_; (refine RW.elemF rfl rfl rfl rfl rfl rfl (by assumption) (fun _ => by rfl) rfl (by omega) (by omega) (by rfl) (fun _ _ => ?_))) | (refine Gt.rem ?_; (refine RW.y (Y.remP rfl rfl (by omega) (by omega)) rfl ?_)))
            rw [hxd]
            skip
            refine CL.cutS [0, 5, 6, 7, 12, 13] (fun vals wz => ∃ (xr : Rp), vals = [v, u, a, .int .i64 (i : Int), .slice pub q.length cub, .pointer (some ⟨gr, 0, none⟩)] ∧ Mk wr.heap.size gr xr wz ∧ xr.name = nameK x.1.n ∧ xr.needs = [] ∧ K0 wy wz) (by simp) ?_ ?_
            · refine CL.block ?_
              repeat' (first | (refine CL.seq ?_) | (refine CL.region ?_) | (refine CL.skip ?_) | (refine CL.condP rfl (fun _ => ?_) (fun _ => ?_) <;> try (exfalso; omega)) | (refine CL.done ?_) | (refine Nm.block ?_) | (refine Nm.then ?_) | (refine Gt.nil ?_; refine RW.nilw [0, 2, 3, 4, 5, 6, 7, 8, 11, 12, 13, 14, 15, 16, 17, 18, 19, 21, 25, 50, 63, 85, 86, 94, 100, 107, 119, 153, 167, 187] ?_; dsimp only [H.keep, H.look, H.Fr.put, Nat.beq]) | (refine Gt.assign ?_; refine RW.y (Y.assign rfl) rfl ?_) | (refine Gt.fieldAddr ?_; refine RW.y (Y.fieldAddr rfl (by rfl)) rfl ?_) | (refine Gt.idx ?_; (refine RW.y (Y.idxP rfl rfl (by omega) (by omega)) rfl ?_)) | (refine Gt.eql ?_; (refine RW.y (Y.eqi rfl rfl) rfl ?_)))
              · obtain ⟨b3, hb3x⟩ : ∃ c : UInt8, xr.sum[3]? = some (vb c) := xr.hsum.2 3 (by omega)
                refine RW.y (Y.loadB rfl hmk.at_ ((rpC_8 xr).trans hb3x)) rfl ?_
                repeat' (first | (refine Gt.fieldAddr ?_; refine RW.y (Y.fieldAddr rfl (by rfl)) rfl ?_) | (refine Gt.idx ?_; (refine RW.y (Y.idxP rfl rfl (by omega) (by omega)) rfl ?_)) | (refine Gt.xor ?_; refine RW.y (Y.bits (by exact .inr (.inr (.inl rfl))) rfl rfl) rfl ?_))
                obtain ⟨c8, hc8⟩ : ∃ c, Value.int .u8 (bits .xor .u8 (b3.toNat : Int) 4) = vb c := byte_of _
                rw [hc8]
                refine RW.storeB rfl rfl rfl hmk.at_ (by rw [List.size_toArray, rpC_len]; decide) (fun w6 hb6 hk6 => ?_)
                have hb6' : w6.heap[gr]? = some (.cells (rpC (xr.withSum _ (xr.hsum.set 3 c8))).toArray irowT (0, 0)) := by rw [← set_sum3]; exact hb6
                repeat' (first | (refine CL.done ?_) | (refine Nm.block ?_) | (refine Nm.then ?_) | (refine Gt.nil ?_; refine RW.nilw [0, 2, 3, 4, 5, 6, 7, 8, 11, 12, 13, 14, 15, 16, 17, 18, 19, 21, 25, 50, 63, 85, 86, 94, 100, 107, 119, 153, 167, 187] ?_; dsimp only [H.keep, H.look, H.Fr.put, Nat.beq]))
                exact ⟨_, rfl, rfl, rfl, _, rfl, hmk.sum hk6 hb6', hnm, hnd, hKz.trans hk6 fun k h => .inr (by have := hmk.hB; omega)⟩
              · refine RW.y (Y.loadB rfl hmk.at_ (rpC_37 xr)) rfl ?_
                repeat' (first | (refine Gt.fieldAddr ?_; refine RW.y (Y.fieldAddr rfl (by rfl)) rfl ?_) | (refine Gt.add ?_; refine RW.y (Y.add64 rfl rfl (by omega) (by omega)) rfl ?_))
                refine RW.storeB rfl rfl rfl hmk.at_ (by rw [List.size_toArray, rpC_len]; decide) (fun w6 hb6 hk6 => ?_)
                have hb6' : w6.heap[gr]? = some (.cells (rpC (xr.withSize (xr.size + 9))).toArray irowT (0, 0)) := by rw [← set_size]; exact hb6
                repeat' (first | (refine CL.done ?_) | (refine Nm.block ?_) | (refine Nm.then ?_) | (refine Gt.nil ?_; refine RW.nilw [0, 2, 3, 4, 5, 6, 7, 8, 11, 12, 13, 14, 15, 16, 17, 18, 19, 21, 25, 50, 63, 85, 86, 94, 100, 107, 119, 153, 167, 187] ?_; dsimp only [H.keep, H.look, H.Fr.put, Nat.beq]))
                exact ⟨_, rfl, rfl, rfl, _, rfl, hmk.size hk6 (by omega) hb6', hnm, hnd, hKz.trans hk6 fun k h => .inr (by have := hmk.hB; omega)⟩
              · refine RW.y (Y.loadB rfl hmk.at_ (rpC_37 xr)) rfl ?_
                repeat' (first | (refine Gt.fieldAddr ?_; refine RW.y (Y.fieldAddr rfl (by rfl)) rfl ?_) | (refine Gt.sub ?_; refine RW.y (Y.sub64 rfl rfl (by omega) (by omega)) rfl ?_) | (refine Gt.call ?_; refine RW.y (Y.max2 rfl rfl) rfl ?_))
                refine RW.storeB rfl rfl rfl hmk.at_ (by rw [List.size_toArray, rpC_len]; decide) (fun w6 hb6 hk6 => ?_)
                have hb6' : w6.heap[gr]? = some (.cells (rpC (xr.withSize (max (xr.size - 9) 0))).toArray irowT (0, 0)) := by rw [← set_size]; exact hb6
                repeat' (first | (refine CL.done ?_) | (refine Nm.block ?_) | (refine Nm.then ?_) | (refine Gt.nil ?_; refine RW.nilw [0, 2, 3, 4, 5, 6, 7, 8, 11, 12, 13, 14, 15, 16, 17, 18, 19, 21, 25, 50, 63, 85, 86, 94, 100, 107, 119, 153, 167, 187] ?_; dsimp only [H.keep, H.look, H.Fr.put, Nat.beq]))
                exact ⟨_, rfl, rfl, rfl, _, rfl, hmk.size hk6 (by omega) hb6', hnm, hnd, hKz.trans hk6 fun k h => .inr (by have := hmk.hB; omega)⟩
              · refine RW.fn rfl rfl ((refOf (.slice none 0 0) [] _ ⟨[], rfl, Sl.nil _ _, fun y hy => by cases hy⟩ (by simp)).mono ?_)
                rintro e w6 ⟨hk6, cz, rfl, hcz⟩
                replace hmk := hmk.keep0 hk6
                have hkz6 := hKz.trans0 hk6
                repeat' ((refine Gt.fieldAddr ?_; refine RW.y (Y.fieldAddr rfl (by rfl)) rfl ?_))
                refine RW.storeB rfl rfl rfl hmk.at_ (by rw [List.size_toArray, rpC_len]; decide) (fun w7 hb7 hk7 => ?_)
                have hb7' : w7.heap[gr]? = some (.cells (rpC (xr.withSize 0)).toArray irowT (0, 0)) := by rw [← set_size]; exact hb7
                have hmk7 := hmk.size hk7 (by omega) hb7'
                repeat' ((refine Gt.fieldAddr ?_; refine RW.y (Y.fieldAddr rfl (by rfl)) rfl ?_))
                refine RW.storeN (n := 32) (c := (rpC (xr.withSize 0)).toArray) (fun w => Many.size w) rfl rfl hcz.1 hcz.ones hb7' (by rw [List.size_toArray, rpC_len]; decide) (fun w8 hb8 hk8 => ?_)
                have hb8' : w8.heap[gr]? = some (.cells (rpC ((xr.withSize 0).withSum cz hcz)).toArray irowT (0, 0)) := by rw [← set_sum]; exact hb8
                repeat' (first | (refine CL.done ?_) | (refine Nm.block ?_) | (refine Nm.then ?_) | (refine Gt.nil ?_; refine RW.nilw [0, 2, 3, 4, 5, 6, 7, 8, 11, 12, 13, 14, 15, 16, 17, 18, 19, 21, 25, 50, 63, 85, 86, 94, 100, 107, 119, 153, 167, 187] ?_; dsimp only [H.keep, H.look, H.Fr.put, Nat.beq]))
                have hB := hmk.hB
                exact ⟨_, rfl, rfl, rfl, _, rfl, hmk7.sum hk8 hb8', hnm, hnd, (hkz6.trans hk7 fun k h => .inr (by omega)).trans hk8 fun k h => .inr (by omega)⟩
              · exact ⟨_, rfl, rfl, rfl, xr, rfl, hmk, hnm, hnd, hKz⟩
            · clear hnm hnd hs0 hs1 hmk hKz hsz
              rintro vals wz ⟨xr, rfl, hmk, hnm, hnd, hKz⟩
              dsimp only [List.zip, List.zipWith]
              repeat' ((refine CL.seq ?_))
              refine CL.region ?_
              repeat' (first | (refine Gt.nil ?_; refine RW.nilw [0, 2, 3, 4, 5, 6, 7, 8, 11, 12, 13, 14, 15, 16, 17, 18, 19, 21, 25, 50, 63, 85, 86, 94, 100, 107, 119, 153, 167, 187] ?_; dsimp only [H.keep, H.look, H.Fr.put, Nat.beq]) | (refine Gt.assign ?_; refine RW.y (Y.assign rfl) rfl ?_))
              refine CL.cutS [0, 5, 6, 7, 12, 13] (fun vals wz => ∃ (xr : Rp), vals = [v, u, a, .int .i64 (i : Int), .slice pub q.length cub, .pointer (some ⟨gr, 0, none⟩)] ∧ Mk wr.heap.size gr xr wz ∧ xr.name = nameK x.1.n ∧ K0 wy wz) (by simp) ?_ ?_
              · refine CL.block ?_
                refine CL.loopS [0, 5, 6, 7, 12, 13, 14] (fun k vals wn => ∃ (j : Nat) (xr : Rp), vals = [v, u, a, .int .i64 (i : Int), .slice pub q.length cub, .pointer (some ⟨gr, 0, none⟩), .int .i64 (j : Int)] ∧ k = x.1.needs.length - j ∧ j ≤ x.1.needs.length ∧ Mk wr.heap.size gr xr wn ∧ xr.name = nameK x.1.n ∧ xr.needs.length ≤ j ∧ K0 wy wn) x.1.needs.length ⟨_, rfl, 0, xr, rfl, rfl, Nat.zero_le _, hmk, hnm, by rw [hnd]; simp, hKz⟩ ?_
                clear hmk hnm hnd hKz
                rintro k vals wn ⟨j, xr, rfl, rfl, hj, hmk, hnm, hnl, hKn⟩
                dsimp only [List.zip, List.zipWith]
                have hsn := hsy.keep0 hKn
                have hdn : Sl wn 1 x.2 x.1.needs.length (x.1.needs.map fun n : Nat => Value.int .u16 (n : Int)) := srK.keep0 hDy hKn
                have htj : ((j : Int)).toNat = j := Int.toNat_natCast j
                repeat' (first | (refine CL.seq ?_) | (refine CL.region ?_) | (refine Gt.move ?_; refine RW.y (Y.move rfl) rfl ?_) | (refine Gt.idx ?_; (refine RW.elemF rfl rfl rfl rfl rfl rfl (by assumption) (fun _ => by rfl) rfl (by omega) (by omega) (by rfl) (fun _ _ => ?_))))
                rw [hxd]
                repeat' (first | (refine CL.seq ?_) | (refine CL.skip ?_) | (refine CL.condP rfl (fun _ => ?_) (fun _ => ?_) <;> try (exfalso; omega)) | (refine CL.exit ?_) | (refine Ex.then ?_) | (refine Ex.hit ?_) | (refine CL.done ?_) | (refine Nm.then ?_) | (refine Gt.nil ?_; refine RW.nilw [0, 2, 3, 4, 5, 6, 7, 8, 11, 12, 13, 14, 15, 16, 17, 18, 19, 21, 25, 50, 63, 85, 86, 94, 100, 107, 119, 153, 167, 187] ?_; dsimp only [H.keep, H.look, H.Fr.put, Nat.beq]) | (refine Gt.len ?_; (refine RW.y (Y.lenx rfl (by assumption)) rfl ?_)) | (refine Gt.lss ?_; (refine RW.y (Y.lss rfl rfl) rfl ?_)))
                · rename_i hjl
                  have hnj := hn2 (x.1.needs.getD ((j : Int)).toNat default) (getD_mem default (by omega))
                  refine CL.block ?_
                  repeat' (first | (refine CL.seq ?_) | (refine CL.region ?_) | (refine Gt.move ?_; refine RW.y (Y.move rfl) rfl ?_) | (refine Gt.idx ?_; (refine RW.elemF rfl rfl rfl rfl rfl rfl (by assumption) (fun _ => by rfl) rfl (by omega) (by omega) (by rfl) (fun _ _ => ?_))))
                  rw [hxd]
                  repeat' (first | (refine Gt.idx ?_; (refine RW.elemM rfl rfl rfl rfl (by assumption) (by omega) (by omega) ?_)) | (refine Gt.rem ?_; (refine RW.y (Y.remP rfl rfl (by omega) (by omega)) rfl ?_)) | (refine Gt.convert ?_; (refine RW.y (Y.convN rfl (by exact wrapu8_id (by omega) (by omega))) rfl ?_)))
                  obtain ⟨c1, hc1⟩ : ∃ c, Value.int .u8 (((x.1.needs.getD ((j : Int)).toNat default : Nat) : Int) % 6) = vb c := byte_int (by omega) (by omega)
                  rw [hc1]
                  refine RW.fn rfl rfl ((seatName c1 wn).mono ?_)
                  rintro e w4 ⟨rfl, rfl⟩
                  repeat' (first | (refine CL.seq ?_) | (refine CL.region ?_) | (refine Gt.nil ?_; refine RW.nilw [0, 2, 3, 4, 5, 6, 7, 8, 11, 12, 13, 14, 15, 16, 17, 18, 19, 21, 25, 50, 63, 85, 86, 94, 100, 107, 119, 153, 167, 187] ?_; dsimp only [H.keep, H.look, H.Fr.put, Nat.beq]) | (refine Gt.move ?_; refine RW.y (Y.move rfl) rfl ?_) | (refine Gt.assign ?_; refine RW.y (Y.assign rfl) rfl ?_) | (refine Gt.idx ?_; (refine RW.elemF rfl rfl rfl rfl rfl rfl (by assumption) (fun _ => by rfl) rfl (by omega) (by omega) (by rfl) (fun _ _ => ?_))))
                  rw [hxd]
                  repeat' (first | (refine Gt.idx ?_; (refine RW.elemM rfl rfl rfl rfl (by assumption) (by omega) (by omega) ?_)) | (refine Gt.rem ?_; (refine RW.y (Y.remP rfl rfl (by omega) (by omega)) rfl ?_)) | (refine Gt.convert ?_; (refine RW.y (Y.convN rfl (by exact wrapu8_id (by omega) (by omega))) rfl ?_)) | (refine Gt.quo ?_; refine RW.y (Y.quoP rfl rfl (by omega) (by omega) (by exact wrapu16_id (by omega) (by omega))) rfl ?_))
                  obtain ⟨c2, hc2⟩ : ∃ c, Value.int .u8 (((x.1.needs.getD ((j : Int)).toNat default : Nat) : Int) / 6 % 10) = vb c := byte_int (by omega) (by omega)
                  rw [hc2]
                  refine RW.fn rfl rfl ((seatSpan c2 wn).mono ?_)
                  rintro e w4 ⟨hk4, rfl⟩
                  replace hmk := hmk.keep0 hk4
                  have hb4 := hmk.at_
                  have hK4 := hKn.trans0 hk4
                  repeat' (first | (refine CL.seq ?_) | (refine CL.region ?_) | (refine Gt.nil ?_; refine RW.nilw [0, 2, 3, 4, 5, 6, 7, 8, 11, 12, 13, 14, 15, 16, 17, 18, 19, 21, 25, 50, 63, 85, 86, 94, 100, 107, 119, 153, 167, 187] ?_; dsimp only [H.keep, H.look, H.Fr.put, Nat.beq]) | (refine Gt.move ?_; refine RW.y (Y.move rfl) rfl ?_) | (refine Gt.assign ?_; refine RW.y (Y.assign rfl) rfl ?_) | (refine Gt.load ?_; (refine RW.y (Y.loadB rfl (by assumption) rfl) rfl ?_)) | (refine Gt.fieldAddr ?_; refine RW.y (Y.fieldAddr rfl (by rfl)) rfl ?_) | (refine Gt.eql ?_; (refine RW.y (Y.eqs rfl rfl) rfl ?_)))
                  refine CL.cutS [0, 5, 6, 7, 12, 13, 14, 15, 16, 17] (fun vals wq => ∃ b : Bool, vals = [v, u, a, .int .i64 (i : Int), .slice pub q.length cub, .pointer (some ⟨gr, 0, none⟩), .int .i64 (j : Int), vs (nameK c1), vs (spanK c2), .bool b] ∧ K0 w4 wq) (by simp) ?_ ?_
                  · refine CL.block ?_
                    refine CL.loopS [0, 5, 6, 7, 12, 13, 14, 15, 16, 17, 18] (fun k vals wq => ∃ (m : Nat) (b : Bool), vals = [v, u, a, .int .i64 (i : Int), .slice pub q.length cub, .pointer (some ⟨gr, 0, none⟩), .int .i64 (j : Int), vs (nameK c1), vs (spanK c2), .bool b, .int .i64 (m : Int)] ∧ k = xr.needs.length - m ∧ m ≤ xr.needs.length ∧ K0 w4 wq) xr.needs.length ⟨_, rfl, 0, _, rfl, rfl, Nat.zero_le _, Kept.refl _ _⟩ ?_
                    rintro k vals wq ⟨m, b, rfl, rfl, hm, hkq⟩
                    dsimp only [List.zip, List.zipWith]
                    have hmq := hmk.keep0 hkq
                    have hbq := hmq.at_
                    have hnq := hmq.needs.1
                    have hml := hmk.len
                    have htm : ((m : Int)).toNat = m := Int.toNat_natCast m
                    repeat' (first | (refine CL.seq ?_) | (refine CL.region ?_) | (refine Gt.move ?_; refine RW.y (Y.move rfl) rfl ?_) | (refine Gt.fieldAddr ?_; refine RW.y (Y.fieldAddr rfl (by rfl)) rfl ?_))
                    refine RW.y (Y.loadB rfl hbq (rpC_38 xr)) rfl ?_
                    repeat' (first | (refine CL.seq ?_) | (refine CL.skip ?_) | (refine CL.condP rfl (fun _ => ?_) (fun _ => ?_) <;> try (exfalso; omega)) | (refine CL.exit ?_) | (refine Ex.then ?_) | (refine Ex.hit ?_) | (refine CL.done ?_) | (refine Nm.then ?_) | (refine Gt.nil ?_; refine RW.nilw [0, 2, 3, 4, 5, 6, 7, 8, 11, 12, 13, 14, 15, 16, 17, 18, 19, 21, 25, 50, 63, 85, 86, 94, 100, 107, 119, 153, 167, 187] ?_; dsimp only [H.keep, H.look, H.Fr.put, Nat.beq]) | (refine Gt.len ?_; (refine RW.y (Y.lenx rfl (by assumption)) rfl ?_)) | (refine Gt.lss ?_; (refine RW.y (Y.lss rfl rfl) rfl ?_)))
                    · rename_i hmlt
                      obtain ⟨g3, o3, hsp3, hcl3⟩ := elSpot hnq ndK.len (i := (m : Int)) (by omega) (by omega)
                      refine CL.block ?_
                      cases b
                      · repeat' (first | (refine CL.region ?_) | (refine Gt.move ?_; refine RW.y (Y.move rfl) rfl ?_) | (refine Gt.guard ?_; (refine RW.on rfl rfl rfl ?_)) | (refine Gt.fieldAddr ?_; refine RW.y (Y.fieldAddr rfl (by rfl)) rfl ?_))
                        refine RW.y (Y.loadB rfl hbq (rpC_38 xr)) rfl ?_
                        repeat' (first | (refine Gt.move ?_; refine RW.y (Y.move rfl) rfl ?_) | (refine Gt.guard ?_; (refine RW.on rfl rfl rfl ?_)))
                        refine RW.y (Y.idx rfl rfl hnq (by omega) (by omega)) rfl ?_
                        refine RW.on rfl rfl rfl ?_
                        refine RW.y (Y.fieldAddr (congrArg (fun a => some (Value.pointer (some a))) hsp3) (by rfl)) rfl ?_
                        refine RW.on rfl rfl rfl ?_
                        refine RW.y (Y.load1A rfl (hcl3 _ (Kept.refl _ _) 0 _ rfl)) rfl ?_
                        repeat' (first | (refine CL.region ?_) | (refine CL.done ?_) | (refine Nm.block ?_) | (refine Nm.then ?_) | (refine Gt.nil ?_; refine RW.nilw [0, 2, 3, 4, 5, 6, 7, 8, 11, 12, 13, 14, 15, 16, 17, 18, 19, 21, 25, 50, 63, 85, 86, 94, 100, 107, 119, 153, 167, 187] ?_; dsimp only [H.keep, H.look, H.Fr.put, Nat.beq]) | (refine Gt.move ?_; refine RW.y (Y.move rfl) rfl ?_) | (refine Gt.guard ?_; (refine RW.on rfl rfl rfl ?_)) | (refine Gt.assign ?_; refine RW.y (Y.assign rfl) rfl ?_) | (refine Gt.eql ?_; (refine RW.y (Y.eqs rfl rfl) rfl ?_)) | (refine Gt.add ?_; refine RW.y (Y.add64 rfl rfl (by omega) (by omega)) rfl ?_) | (refine Gt.pick ?_; (refine RW.y (Y.pickF rfl rfl) rfl ?_)))
                        exact ⟨xr.needs.length - (m + 1), _, rfl, rfl, rfl, by omega, m + 1, _, rfl, rfl, by omega, hkq⟩
                      · repeat' (first | (refine CL.region ?_) | (refine CL.done ?_) | (refine Nm.block ?_) | (refine Nm.then ?_) | (refine Gt.nil ?_; refine RW.nilw [0, 2, 3, 4, 5, 6, 7, 8, 11, 12, 13, 14, 15, 16, 17, 18, 19, 21, 25, 50, 63, 85, 86, 94, 100, 107, 119, 153, 167, 187] ?_; dsimp only [H.keep, H.look, H.Fr.put, Nat.beq]) | (refine Gt.move ?_; refine RW.y (Y.move rfl) rfl ?_) | (refine Gt.guard ?_; (refine RW.off1 rfl rfl rfl rfl rfl ?_)) | (refine Gt.assign ?_; refine RW.y (Y.assign rfl) rfl ?_) | (refine Gt.add ?_; refine RW.y (Y.add64 rfl rfl (by omega) (by omega)) rfl ?_) | (refine Gt.pick ?_; (refine RW.y (Y.pickT rfl rfl) rfl ?_)))
                        exact ⟨xr.needs.length - (m + 1), _, rfl, rfl, rfl, by omega, m + 1, _, rfl, rfl, by omega, hkq⟩
                    · exact ⟨_, rfl, rfl, rfl, _, rfl, hkq⟩
                  · rintro vals wq ⟨b, rfl, hkq⟩
                    dsimp only [List.zip, List.zipWith]
                    replace hmk := hmk.keep0 hkq
                    replace hK4 := hK4.trans0 hkq
                    clear hb4 hk4 hkq hKn hsn hdn
                    cases b
                    · repeat' (first | (refine CL.seq ?_) | (refine CL.region ?_) | (refine CL.skip ?_) | (refine CL.condF rfl ?_) | (refine Gt.nil ?_; refine RW.nilw [0, 2, 3, 4, 5, 6, 7, 8, 11, 12, 13, 14, 15, 16, 17, 18, 19, 21, 25, 50, 63, 85, 86, 94, 100, 107, 119, 153, 167, 187] ?_; dsimp only [H.keep, H.look, H.Fr.put, Nat.beq]) | (refine Gt.move ?_; refine RW.y (Y.move rfl) rfl ?_))
                      have hgr := lt_of_at hmk.at_
                      refine RW.fn rfl rfl ((refSpanOf (spanK c2) (by have := spanK_len c2; omega) wq).mono ?_)
                      rintro e w6 ⟨hk6, VS, rfl, pS, rfl, hor⟩
                      obtain ⟨B6, hB6⟩ : ∃ B : Nat, wq.heap.size = B := ⟨_, rfl⟩
                      rw [hB6] at hor hgr
                      have hzq := hK4.size
                      have hz6 := hk6.size
                      have hor6 := OrNew.on hor
                      repeat' (first | (refine Gt.move ?_; refine RW.y (Y.move rfl) rfl ?_) | (refine Gt.extract ?_; refine RW.y (Y.extract rfl rfl) rfl ?_))
                      refine RW.varN rfl rfl rfl (spnCells hor6.one) rfl (fun w7 hb7 hk7 hlt7 => ?_)
                      have hK67 := hk6.trans0 hk7
                      replace hmk := hmk.keep0 hK67
                      replace hK4 := hK4.trans0 hK67
                      have hor7 := hor6.keep hk7 (fun _ _ _ c => c)
                      have hz7 := hk7.size
                      repeat' (first | (refine CL.seq ?_) | (refine CL.region ?_) | (refine Gt.nil ?_; refine RW.nilw [0, 2, 3, 4, 5, 6, 7, 8, 11, 12, 13, 14, 15, 16, 17, 18, 19, 21, 25, 50, 63, 85, 86, 94, 100, 107, 119, 153, 167, 187] ?_; dsimp only [H.keep, H.look, H.Fr.put, Nat.beq]) | (refine Gt.assign ?_; refine RW.y (Y.assign rfl) rfl ?_))
                      refine CL.cutS [0, 5, 6, 7, 12, 13, 14, 15, 16, 19, 21] (fun vals wq => ∃ m : Nat, vals = [v, u, a, .int .i64 (i : Int), .slice pub q.length cub, .pointer (some ⟨gr, 0, none⟩), .int .i64 (j : Int), vs (nameK c1), vs (spanK c2), .pointer (some ⟨w6.heap.size, 0, none⟩), .int .i64 (m : Int)] ∧ m ≤ xr.needs.length ∧ K0 w7 wq) (by simp) ?_ ?_
                      · refine CL.block ?_
                        refine CL.loopS [0, 5, 6, 7, 12, 13, 14, 15, 16, 19, 21] (fun k vals wq => ∃ m : Nat, vals = [v, u, a, .int .i64 (i : Int), .slice pub q.length cub, .pointer (some ⟨gr, 0, none⟩), .int .i64 (j : Int), vs (nameK c1), vs (spanK c2), .pointer (some ⟨w6.heap.size, 0, none⟩), .int .i64 (m : Int)] ∧ k = xr.needs.length - m ∧ m ≤ xr.needs.length ∧ K0 w7 wq) xr.needs.length ⟨_, rfl, 0, rfl, rfl, Nat.zero_le _, Kept.refl _ _⟩ ?_
                        rintro k vals wq ⟨m, rfl, rfl, hm, hkq⟩
                        dsimp only [List.zip, List.zipWith]
                        have hmq := hmk.keep0 hkq
                        have hbq := hmq.at_
                        have hnq := hmq.needs.1
                        have hml := hmk.len
                        have htm : ((m : Int)).toNat = m := Int.toNat_natCast m
                        repeat' (first | (refine CL.seq ?_) | (refine CL.region ?_) | (refine Gt.move ?_; refine RW.y (Y.move rfl) rfl ?_) | (refine Gt.fieldAddr ?_; refine RW.y (Y.fieldAddr rfl (by rfl)) rfl ?_))
                        refine RW.y (Y.loadB rfl hbq (rpC_38 xr)) rfl ?_
                        repeat' (first | (refine CL.condF rfl ?_) | (refine CL.exit ?_) | (refine Ex.then ?_) | (refine Ex.hit ?_) | (refine CL.done ?_) | (refine Nm.then ?_) | (refine Gt.nil ?_; refine RW.nilw [0, 2, 3, 4, 5, 6, 7, 8, 11, 12, 13, 14, 15, 16, 17, 18, 19, 21, 25, 50, 63, 85, 86, 94, 100, 107, 119, 153, 167, 187] ?_; dsimp only [H.keep, H.look, H.Fr.put, Nat.beq]) | (refine Gt.move ?_; refine RW.y (Y.move rfl) rfl ?_) | (refine Gt.guard ?_; first | (refine RW.part rfl rfl rfl (fun _ => ?_) (fun _ => ?_) <;> try (exfalso; omega)) | (refine RW.on rfl rfl rfl ?_) | (refine RW.off1 rfl rfl rfl rfl rfl ?_)) | (refine Gt.fieldAddr ?_; refine RW.y (Y.fieldAddr rfl (by rfl)) rfl ?_) | (refine Gt.len ?_; (refine RW.y (Y.lenx rfl (by assumption)) rfl ?_)) | (refine Gt.lss ?_; (refine RW.y (Y.lss rfl rfl) rfl ?_)) | (refine Gt.pick ?_; (refine RW.y (Y.pickF rfl rfl) rfl ?_)))
                        · rename_i hmlt
                          obtain ⟨g3, o3, hsp3, hcl3⟩ := elSpot hnq ndK.len (i := (m : Int)) (by omega) (by omega)
                          obtain ⟨b5, hb5⟩ : ∃ b5 : Bool, Op.bytesLess (xr.needs.getD ((m : Int)).toNat default).d.name (nameK c1) = b5 := ⟨_, rfl⟩
                          refine RW.y (Y.loadB rfl hbq (rpC_38 xr)) rfl ?_
                          repeat' (first | (refine Gt.move ?_; refine RW.y (Y.move rfl) rfl ?_) | (refine Gt.guard ?_; (refine RW.on rfl rfl rfl ?_)))
                          refine RW.y (Y.idx rfl rfl hnq (by omega) (by omega)) rfl ?_
                          refine RW.on rfl rfl rfl ?_
                          refine RW.y (Y.fieldAddr (congrArg (fun a => some (Value.pointer (some a))) hsp3) (by rfl)) rfl ?_
                          refine RW.on rfl rfl rfl ?_
                          refine RW.y (Y.load1A rfl (hcl3 _ (Kept.refl _ _) 0 _ rfl)) rfl ?_
                          refine RW.on rfl rfl rfl ?_
                          refine RW.y (Y.move rfl) rfl ?_
                          refine RW.on rfl rfl rfl ?_
                          refine RW.y (Y.ltsE rfl rfl hb5) rfl ?_
                          cases b5
                          · repeat' (first | (refine CL.condF rfl ?_) | (refine CL.exit ?_) | (refine Ex.then ?_) | (refine Ex.hit ?_) | (refine CL.done ?_) | (refine Nm.then ?_) | (refine Gt.nil ?_; refine RW.nilw [0, 2, 3, 4, 5, 6, 7, 8, 11, 12, 13, 14, 15, 16, 17, 18, 19, 21, 25, 50, 63, 85, 86, 94, 100, 107, 119, 153, 167, 187] ?_; dsimp only [H.keep, H.look, H.Fr.put, Nat.beq]) | (refine Gt.pick ?_; (refine RW.y (Y.pickT rfl rfl) rfl ?_)))
                            exact ⟨_, rfl, rfl, rfl, m, rfl, hm, hkq⟩
                          · repeat' (first | (refine CL.region ?_) | (refine CL.skip ?_) | (refine CL.condT rfl ?_) | (refine CL.block ?_) | (refine CL.done ?_) | (refine Nm.block ?_) | (refine Nm.then ?_) | (refine Gt.nil ?_; refine RW.nilw [0, 2, 3, 4, 5, 6, 7, 8, 11, 12, 13, 14, 15, 16, 17, 18, 19, 21, 25, 50, 63, 85, 86, 94, 100, 107, 119, 153, 167, 187] ?_; dsimp only [H.keep, H.look, H.Fr.put, Nat.beq]) | (refine Gt.move ?_; refine RW.y (Y.move rfl) rfl ?_) | (refine Gt.assign ?_; refine RW.y (Y.assign rfl) rfl ?_) | (refine Gt.add ?_; refine RW.y (Y.add64 rfl rfl (by omega) (by omega)) rfl ?_) | (refine Gt.pick ?_; (refine RW.y (Y.pickT rfl rfl) rfl ?_)))
                            exact ⟨xr.needs.length - (m + 1), _, rfl, rfl, rfl, by omega, m + 1, rfl, rfl, by omega, hkq⟩
                        · exact ⟨_, rfl, rfl, rfl, m, rfl, hm, hkq⟩
                      · rintro vals wq ⟨m, rfl, hm, hkq⟩
                        dsimp only [List.zip, List.zipWith]
                        replace hmk := hmk.keep0 hkq
                        replace hK4 := hK4.trans0 hkq
                        have hbq := hmk.at_
                        have hnq := hmk.needs.1
                        have hml := hmk.len
                        have hb7q := hkq.at0 hb7
                        have horq := hor7.keep hkq (fun _ _ _ c => c)
                        have hz7q := hkq.size
                        obtain ⟨y, hyd⟩ : ∃ y : Np, (⟨⟨nameK c1, (spanR (spanB (spanK c2))).1, spanK c2⟩, pS, fun g => B6 ≤ g ∧ g < w6.heap.size⟩ : Np) = y := ⟨_, rfl⟩
                        obtain ⟨p, cap, hnp, hcap⟩ := hmk.needs.shape
                        have hq : GA ndK wq (.slice p xr.needs.length cap) xr.needs := hnp ▸ hmk.needs
                        have hat38 : (rpC xr).toArray.toList[0 + 38]? = some (.slice p xr.needs.length cap) := (rpC_38 xr).trans (by rw [hnp])
                        have hti2 : ((m : Int)).toNat = m := Int.toNat_natCast m
                        skip
                        refine CL.drawz (fun w' => K0 wq w') (fun j => Nat.beq j 17) (by kernel_rfl) (fun w2 hheap hk2 => ?_)
                        have hS : K0 wq w2 := hk2
                        skip
                        refine AL.take 0 [1, 4, 15, 16, 17] rfl (by kernel_rfl) (by kernel_rfl) (by kernel_rfl) (by kernel_rfl) rfl (by assumption) (fun w hS => Y.fieldAddr rfl (by rfl)) ?_
                        refine AL.take 1 [4, 15, 16, 17] rfl (by kernel_rfl) (by kernel_rfl) (by kernel_rfl) (by kernel_rfl) rfl (by assumption) (fun w hS => Y.loadB rfl (hS.at0 hbq) hat38) ?_
                        refine AL.take 2 [4, 15, 16, 17] rfl (by kernel_rfl) (by kernel_rfl) (by kernel_rfl) (by kernel_rfl) rfl (by assumption) (fun w hS => Y.move rfl) ?_
                        refine AL.take 3 [4, 15, 16, 17] rfl (by kernel_rfl) (by kernel_rfl) (by kernel_rfl) (by kernel_rfl) rfl (by assumption) (fun w hS => Y.move rfl) ?_
                        refine AL.take 4 [15, 16, 17] rfl (by kernel_rfl) (by kernel_rfl) (by kernel_rfl) (by kernel_rfl) rfl (by assumption) (fun w hS => Y.upto rfl rfl rfl (by omega) (by omega)) ?_
                        refine AL.take 5 [8, 9, 14, 15, 16, 17] rfl (by kernel_rfl) (by kernel_rfl) (by kernel_rfl) (by kernel_rfl) rfl (by assumption) (fun w hS => Y.move rfl) ?_
                        refine AL.take 6 [8, 9, 14, 15, 16, 17] rfl (by kernel_rfl) (by kernel_rfl) (by kernel_rfl) (by kernel_rfl) rfl (by assumption) (fun w hS => Y.loadBlock rfl (hS.at0 hb7q) rfl) ?_
                        refine AL.take 7 [8, 9, 14, 15, 16, 17] rfl (by kernel_rfl) (by kernel_rfl) (by kernel_rfl) (by kernel_rfl) rfl (by assumption) (fun w hS => Y.move rfl) ?_
                        refine AL.take 8 [9, 14, 15, 16, 17] rfl (by kernel_rfl) (by kernel_rfl) (by kernel_rfl) (by kernel_rfl) rfl (by assumption) (fun w hS => Y.build (ps := [(0, _), (1, _), (2, _)]) (l := [_, _, _]) (c := #[vs (nameK c1), .bool (spanR (spanB (spanK c2))).1.any, pS, vs (spanK c2)]) rfl rfl) ?_
                        refine AL.take 10 [11, 13, 14, 15, 16, 17] rfl (by kernel_rfl) (by kernel_rfl) (by kernel_rfl) (by kernel_rfl) rfl (by assumption) (fun w hS => Y.fieldAddr rfl (by rfl)) ?_
                        refine AL.take 11 [13, 14, 15, 16, 17] rfl (by kernel_rfl) (by kernel_rfl) (by kernel_rfl) (by kernel_rfl) rfl (by assumption) (fun w hS => Y.loadB rfl (hS.at0 hbq) hat38) ?_
                        refine AL.take 12 [13, 14, 15, 16, 17] rfl (by kernel_rfl) (by kernel_rfl) (by kernel_rfl) (by kernel_rfl) rfl (by assumption) (fun w hS => Y.move rfl) ?_
                        refine AL.take 13 [14, 15, 16, 17] rfl (by kernel_rfl) (by kernel_rfl) (by kernel_rfl) (by kernel_rfl) rfl (by assumption) (fun w hS => Y.from rfl rfl (by omega) (by omega) (by omega)) ?_
                        refine AL.next 9 rfl (by kernel_rfl) ?_
                        have hz2 := hk2.size
                        refine RW.build1 rfl rfl rfl rfl (fun w3 hb3 hk3 hlt3 => ?_)
                        have hown3 : w3.ownsRow w2.heap.size needT 4 (.slice (some ⟨w2.heap.size, 0, none⟩) 1 1) 1 [vs (nameK c1), .bool (spanR (spanB (spanK c2))).1.any, pS, vs (spanK c2)] := own_new hb3 (Nat.le_refl _) rfl (by decide)
                        have hS := hk2.trans0 hk3
                        refine RW.nil (Nm.then ⟨hS, ?_⟩)
                        skip
                        refine AL.next 14 rfl (by kernel_rfl) ?_
                        have hgf := (hq.keep0 (hk2.trans0 hk3)).from rfl (a := m) (by omega) (by omega)
                        have hgu := (hq.keep0 hk2).upto rfl (a := m) (by omega) (by omega)
                        have hz3 := hk3.size
                        rw [← hti2] at hgf hgu
                        refine RW.app (sz := 4) rfl rfl rfl rfl rfl hown3 hgf.1 hgf.ones (by rw [List.length_drop]; omega) (by rw [List.length_drop]; omega) (by omega) (fun u4 w4 how4 hk4 hl4 => ?_)
                        have hK34 : K0 w2 w4 := (hk3.trans hk4 fun k h => .inr (by simp [Value.ownBlock] at h; omega))
                        have hS := hk2.trans0 hK34
                        refine RW.nil (Nm.then ⟨hS, ?_⟩)
                        skip
                        refine AL.next 15 rfl (by kernel_rfl) ?_
                        have hz4 := hK34.size
                        have hgu4 := hgu.1.keep0 hK34
                        have hyD : ndK.D wq y := by rw [← hyd]; exact ⟨horq, fun g hg => by have := hg.2; omega⟩
                        have hyC : ndK.enc y = [vs (nameK c1), .bool (spanR (spanB (spanK c2))).1.any, pS, vs (spanK c2)] := by rw [← hyd]; rfl
                        refine RW.appA (sz := 4) rfl rfl rfl rfl rfl (.inr ⟨hgu4, ⟨_, by rw [List.length_take]; congr 1 <;> omega⟩, rfl⟩) (by omega) (Sl.of_own how4) (fun z hz => ?_) (by simp only [List.length_take, List.length_drop]; omega) (by simp only [List.length_take, List.length_drop]; omega) (Nat.zero_le _) (fun u5 w5 how5 hk5 hl5 => ?_)
                        · rcases List.mem_append.1 hz with hz | hz
                          · exact ndK.ones wq y hyD z (by rw [hyC]; exact hz)
                          · obtain ⟨y', hy, hz⟩ := List.mem_flatMap.1 hz
                            exact ndK.ones wq y' (hq.2 y' (List.mem_of_mem_drop hy)) z hz
                        · have hK25 : K0 w2 w5 := hK34.trans0 (hk5.mono fun k h => by cases h)
                          have hS := hk2.trans0 hK25
                          refine RW.nil (Nm.then ⟨hS, ?_⟩)
                          refine AL.take 16 [17] rfl (by kernel_rfl) (by kernel_rfl) (by kernel_rfl) (by kernel_rfl) rfl (by assumption) (fun w hS => Y.fieldAddr rfl (by rfl)) ?_
                          refine AL.last 17 rfl (by kernel_rfl) rfl ?_
                          have hmk5 := hmk.keep0 hS
                          have hf : (xr.needs.take ((m : Int)).toNat ++ y :: xr.needs.drop ((m : Int)).toNat).length = xr.needs.length + 1 := by rw [List.length_append, List.length_cons, List.length_take, List.length_drop]; omega
                          have hmemN : ∀ z ∈ xr.needs.take ((m : Int)).toNat ++ y :: xr.needs.drop ((m : Int)).toNat, z = y ∨ z ∈ xr.needs := fun z hz => by
                            rcases List.mem_append.1 hz with h | h
                            · exact .inr (List.mem_of_mem_take h)
                            · rcases List.mem_cons.1 h with h | h
                              · exact .inl h
                              · exact .inr (List.mem_of_mem_drop h)
                          have hGA : GA ndK w5 u5 (xr.needs.take ((m : Int)).toNat ++ y :: xr.needs.drop ((m : Int)).toNat) := by
                            refine ⟨?_, fun z hz => (hmemN z hz).elim (fun h => by rw [h]; exact ndK.keep0 hyD hS) fun h => ndK.keep0 (hq.2 z h) hS⟩
                            rw [List.flatMap_append, List.flatMap_cons, hf, hyC]
                            have h5 := Sl.of_own how5
                            rw [show (xr.needs.take ((m : Int)).toNat).length + (1 + (xr.needs.drop ((m : Int)).toNat).length) = xr.needs.length + 1 from by rw [List.length_take, List.length_drop]; omega] at h5
                            exact h5
                          generalize hN : xr.needs.take ((m : Int)).toNat ++ y :: xr.needs.drop ((m : Int)).toNat = N5 at *
                          have hgr5 := lt_of_at (hmk.keep0 (hk2.trans0 hK34)).at_
                          refine RW.storeB rfl rfl hGA.1.one hmk5.at_ (by rw [List.size_toArray, rpC_len]; decide) (fun w6' hb6' hk6' => ?_)
                          have hb6s : w6'.heap[gr]? = some (.cells (rpC (xr.withNeeds u5 N5)).toArray irowT (0, 0)) := by rw [← set_needs]; exact hb6'
                          have hmk6 := hmk5.put hk6' hGA (fun k hk => by have := hl5 k (live_own hk); simp at this; omega) (fun z hz k hk => (hmemN z hz).elim (fun h => by rw [h, ← hyd] at hk; have := hk.1; omega) fun h => hmk.le z h k hk) (by omega) (fun z hz => (hmemN z hz).elim (fun h => by rw [h, ← hyd]; have := spanK_len c2; have := nameK_len c1; exact ⟨by show (nameK c1).length ≤ 100; omega, by show (spanK c2).length ≤ 1000; omega⟩) fun h => hmk.fit.need z h) hb6s
                          have hBg := hmk.hB
                          refine RW.nil (Nm.then ⟨trivial, ?_⟩)
                          skip
                          refine AL.donew [0, 5, 6, 7, 12, 13, 14] (by kernel_rfl) ?_
                          dsimp only [H.keep, H.look, H.Fr.put, Nat.beq]
                          repeat' (first | (refine CL.region ?_) | (refine CL.done ?_) | (refine Nm.block ?_) | (refine Nm.then ?_) | (refine Gt.nil ?_; refine RW.nilw [0, 2, 3, 4, 5, 6, 7, 8, 11, 12, 13, 14, 15, 16, 17, 18, 19, 21, 25, 50, 63, 85, 86, 94, 100, 107, 119, 153, 167, 187] ?_; dsimp only [H.keep, H.look, H.Fr.put, Nat.beq]) | (refine Gt.move ?_; refine RW.y (Y.move rfl) rfl ?_) | (refine Gt.assign ?_; refine RW.y (Y.assign rfl) rfl ?_) | (refine Gt.add ?_; refine RW.y (Y.add64 rfl rfl (by omega) (by omega)) rfl ?_))
                          exact ⟨x.1.needs.length - (j + 1), _, rfl, rfl, rfl, by omega, j + 1, _, rfl, rfl, by omega, hmk6, hnm, by show N5.length ≤ j + 1; omega, (hK4.trans0 hS).trans hk6' fun k h => .inr (by omega)⟩
                    · repeat' (first | (refine CL.seq ?_) | (refine CL.region ?_) | (refine CL.condT rfl ?_) | (refine CL.exit ?_) | (refine Ex.hit ?_) | (refine CL.done ?_) | (refine Nm.then ?_) | (refine Gt.nil ?_; refine RW.nilw [0, 2, 3, 4, 5, 6, 7, 8, 11, 12, 13, 14, 15, 16, 17, 18, 19, 21, 25, 50, 63, 85, 86, 94, 100, 107, 119, 153, 167, 187] ?_; dsimp only [H.keep, H.look, H.Fr.put, Nat.beq]) | (refine Gt.move ?_; refine RW.y (Y.move rfl) rfl ?_) | (refine Gt.assign ?_; refine RW.y (Y.assign rfl) rfl ?_) | (refine Gt.add ?_; refine RW.y (Y.add64 rfl rfl (by omega) (by omega)) rfl ?_))
                      exact ⟨x.1.needs.length - (j + 1), _, rfl, rfl, rfl, by omega, j + 1, xr, rfl, rfl, by omega, hmk, hnm, by omega, hK4⟩
                · exact ⟨_, rfl, rfl, rfl, xr, rfl, hmk, hnm, hKn⟩
              · rintro vals wz ⟨xr, rfl, hmk, hnm, hKz⟩
                dsimp only [List.zip, List.zipWith]
                have hbz := hmk.at_
                have hIz := hI.keep0 (hKy.trans0 hKz)
                have hzz := hKz.size
                have hzr := hKr.size
                have hubz : Sl wz 1 (.slice pub q.length cub) q.length (bv q) := hub.keep0 hKz
                have hul : ∀ g, live (.slice pub q.length cub) = some g → wr.heap.size ≤ g ∧ g < wz.heap.size := fun g hg => ⟨by have := (how.lt g (live_own hg)).1; omega, hubz.lt hg⟩
                obtain ⟨z, hz⟩ : ∃ z : Rp, z = { xr with A := fun g => wr.heap.size ≤ g ∧ g ≠ gr ∧ g < wz.heap.size } := ⟨_, rfl⟩
                have hzc : rpC z = rpC xr := by rw [hz]; rfl
                have hzf : FitR z := by rw [hz]; have h := hmk.fit; exact ⟨h.name, h.v, h.va, h.vb, h.vc, h.text, h.size, h.needs, h.need⟩
                have hzA : ∀ g, z.A g → wr.heap.size ≤ g ∧ g < wz.heap.size := fun g h => by rw [hz] at h; exact ⟨h.1, h.2.2⟩
                have hzD : rwK.D wz z := by
                  rw [hz]
                  exact ⟨hmk.pre, hmk.needs, fun g hg => ⟨(hmk.lp g hg).1, (hmk.lp g hg).2, hmk.pre.lt hg⟩, fun g hg => ⟨(hmk.ln g hg).1, (hmk.ln g hg).2, hmk.needs.1.lt hg⟩, fun y hy g hg => ⟨(hmk.le y hy g hg).1, (hmk.le y hy g hg).2, ndK.lt wz y g (hmk.needs.2 y hy) hg⟩, fun g hg => hg.2.2⟩
                skip
                refine CL.region ?_
                repeat' ((refine Gt.move ?_; refine RW.y (Y.move rfl) rfl ?_))
                refine RW.y (Y.loadBlock rfl hbz (by rw [List.size_toArray, rpC_len]; rfl)) rfl ?_
                refine RW.appG rwK (e := irowT) z rfl rfl rfl rfl hIz.rows (by rw [show rwK.enc z = rpC z from rfl, hzc]; rfl) rfl rfl rfl hzD (fun g hg c => by have := (hzA g hg).1; have := (hI.rows.lt g c).2; omega) (by omega) (by omega) rfl (fun u' w8 hg8 hk8 hl8 => ?_)
                repeat' ((refine Gt.move ?_; refine RW.y (Y.move rfl) rfl ?_))
                have hua : ∀ g, u'.ownBlock = some g → a.ownBlock ≠ some g := fun g h c => (hl8 g h).elim (fun h => (hI.ua g h).1 c) fun h => by have := (hI.arcs.lt g c).2; omega
                refine RW.appG arK (e := arcT) ((q, .slice pub q.length cub) : List UInt8 × Value) rfl rfl rfl rfl (hIz.arcs.keep hk8 fun g hgl h c => h.elim (fun h => (hI.ua g c).1 h) fun ⟨y, hy, h⟩ => (hI.ua g c).2 y hy h) rfl rfl rfl rfl (hubz.keep hk8 fun g hg c => by have := (hul g hg).1; have := (hI.rows.lt g c).2; omega) (fun g hg c => by have := (hul g hg).1; have := (hI.arcs.lt g c).2; omega) (by have := hk8.size; omega) (by have := hI.len; omega) rfl (fun a' w9 hg9 hk9 hl9 => ?_)
                repeat' (first | (refine CL.region ?_) | (refine CL.done ?_) | (refine Nm.block ?_) | (refine Nm.then ?_) | (refine Gt.nil ?_; refine RW.nilw [0, 2, 3, 4, 5, 6, 7, 8, 11, 12, 13, 14, 15, 16, 17, 18, 19, 21, 25, 50, 63, 85, 86, 94, 100, 107, 119, 153, 167, 187] ?_; dsimp only [H.keep, H.look, H.Fr.put, Nat.beq]) | (refine Gt.move ?_; refine RW.y (Y.move rfl) rfl ?_) | (refine Gt.assign ?_; refine RW.y (Y.assign rfl) rfl ?_) | (refine Gt.add ?_; refine RW.y (Y.add64 rfl rfl (by omega) (by omega)) rfl ?_))
                have hz8 := hk8.size
                have hnew : MadeI w.heap.size w9 u' (R ++ [z]) a' (A ++ [(q, .slice pub q.length cub)]) := by
                  refine ⟨hg8.keep hk9 fun g hgl h c => ?_, hg9, by rw [List.length_append, List.length_append, hI.len]; rfl, fun y hy => ?_, fun y hy => ?_, fun g h => ⟨fun c => ?_, fun y hy c => ?_⟩, fun g h y hy c => ?_⟩
                  · have hla := (hI.arcs.lt g c).2
                    rcases h with h | ⟨y, hy, h⟩
                    · exact hua g h c
                    · rcases List.mem_append.1 hy with hy | hy
                      · exact hI.au g c y hy h
                      · rw [List.mem_singleton.1 hy] at h; have := (hzA g h).1; omega
                  · rcases List.mem_append.1 hy with hy | hy
                    · exact hI.fit y hy
                    · rw [List.mem_singleton.1 hy]; exact hzf
                  · rcases List.mem_append.1 hy with hy | hy
                    · exact hI.pak y hy
                    · rw [List.mem_singleton.1 hy]; exact ⟨by show q.length ≤ 30000; omega, hq4⟩
                  · rcases hl9 g c with c | c
                    · exact hua g h c
                    · have := (hg8.lt g h).2; omega
                  · rcases List.mem_append.1 hy with hy | hy
                    · rcases hl8 g h with h | h
                      · exact (hI.ua g h).2 y hy c
                      · have := arK.lt wr y g (hI.arcs.2 y hy).1 c; omega
                    · rw [List.mem_singleton.1 hy] at c
                      have h1 := hul g c
                      rcases hl8 g h with h | h
                      · have := (hI.rows.lt g h).2; omega
                      · omega
                  · rcases List.mem_append.1 hy with hy | hy
                    · have h1 := rwK.lt wr y g (hI.rows.2 y hy).1 c
                      rcases hl9 g h with h | h
                      · exact hI.au g h y hy c
                      · omega
                    · rw [List.mem_singleton.1 hy] at c
                      have h1 := hzA g c
                      rcases hl9 g h with h | h
                      · have := (hI.arcs.lt g h).2; omega
                      · omega
                refine ⟨L.length - (i + 1), _, rfl, rfl, rfl, by omega, i + 1, u', a', R ++ [z], _, rfl, rfl, by omega, hnew, by rw [List.length_append, List.length_singleton]; omega, (fun _ => by simp), (fun _ => ?_), ((hKr.trans0 (hKy.trans0 hKz)).trans hk8 fun k h => .inr (hI.rows.lt k h).1).trans hk9 fun k h => .inr (hI.arcs.lt k h).1⟩
                rcases Nat.eq_zero_or_pos i with h0 | h0
                · have hR : R = [] := by cases R with
                    | nil => rfl
                    | cons r R => simp at hRi; omega
                  rw [hR, ← hx0 h0]
                  show z.name = _
                  rw [hz]
                  exact hnm
                · have hR := hR0 h0
                  have h1 := hRn hR
                  cases R with
                  | nil => exact absurd rfl hR
                  | cons r R => exact h1
      · repeat' (first | (refine CL.seq ?_) | (refine CL.region ?_) | (refine CL.condT rfl ?_) | (refine CL.exit ?_) | (refine Ex.hit ?_) | (refine CL.done ?_) | (refine Nm.then ?_) | (refine Gt.nil ?_; refine RW.nilw [0, 2, 3, 4, 5, 6, 7, 8, 11, 12, 13, 14, 15, 16, 17, 18, 19, 21, 25, 50, 63, 85, 86, 94, 100, 107, 119, 153, 167, 187] ?_; dsimp only [H.keep, H.look, H.Fr.put, Nat.beq]) | (refine Gt.move ?_; refine RW.y (Y.move rfl) rfl ?_) | (refine Gt.assign ?_; refine RW.y (Y.assign rfl) rfl ?_) | (refine Gt.add ?_; refine RW.y (Y.add64 rfl rfl (by omega) (by omega)) rfl ?_))
        exact ⟨L.length - (i + 1), _, rfl, rfl, rfl, by omega, i + 1, u, a, R, A, rfl, rfl, by omega, hI.keep0 hKx, by omega, (fun _ h => by cases hbF h), (fun h => hRn h), hKr.trans0 hKx⟩
  · have hi : i = L.length := by omega
    subst hi
    repeat' (first | (refine CL.seq ?_) | (refine CL.region ?_) | (refine CL.condP rfl (fun _ => ?_) (fun _ => ?_) <;> try (exfalso; omega)) | (refine CL.exit ?_) | (refine Ex.then ?_) | (refine Ex.hit ?_) | (refine Gt.nil ?_; refine RW.nilw [0, 2, 3, 4, 5, 6, 7, 8, 11, 12, 13, 14, 15, 16, 17, 18, 19, 21, 25, 50, 63, 85, 86, 94, 100, 107, 119, 153, 167, 187] ?_; dsimp only [H.keep, H.look, H.Fr.put, Nat.beq]) | (refine Gt.move ?_; refine RW.y (Y.move rfl) rfl ?_) | (refine Gt.len ?_; (refine RW.y (Y.lenx rfl (by assumption)) rfl ?_)) | (refine Gt.lss ?_; (refine RW.y (Y.lss rfl rfl) rfl ?_)))
    refine RW.fn rfl rfl ((indexText u R wr hI.rows.ga (by omega) hI.fit).mono ?_)
    rintro e w2 ⟨hk2, tx, rfl⟩
    repeat' (first | (refine CL.ret ?_) | (refine Gt.nil ?_; refine RW.nilw [0, 2, 3, 4, 5, 6, 7, 8, 11, 12, 13, 14, 15, 16, 17, 18, 19, 21, 25, 50, 63, 85, 86, 94, 100, 107, 119, 153, 167, 187] ?_; dsimp only [H.keep, H.look, H.Fr.put, Nat.beq]) | (refine Gt.assign ?_; refine RW.y (Y.assign rfl) rfl ?_))
    exact FQ.res (rs := [.tmp 2, .tmp 3, .tmp 4]) (vs := [_, _, _]) rfl rfl ⟨rfl, rfl, rfl, trivial⟩ rfl ⟨hKr.trans0 hk2, u, a, R, A, tx, rfl, hI.keep0 hk2, hRi, (fun h => hR0 (by cases L with
      | nil => exact absurd rfl h
      | cons => simp)), hRn⟩
end Go.Proofs.Ytlbegmpikggmlaa.Ne

namespace Go.Proofs.Ytlbegmpikggmlaa.H
open Go.RowKit
section
variable {M : Option (Option Nat)} {P : Program} {ops : Array Oper} {Q : Post} {rest : List Oper} {f : Fr} {w : World} {d : Nat} {ty : TypeId} {pos : String} {af : Array Edge}
/-- A slice into a block of the call's own, at any place of it. -/
def Tl (w : World) (base : Nat) (e : TypeId) (sz : Nat) (v : Value) (n : Nat) (xs : List Value) : Prop :=
  xs.length = n * sz ∧ ((v = .slice none 0 0 ∧ n = 0) ∨
   ∃ g off cap cur, v = .slice (some ⟨g, off, none⟩) n cap ∧ base ≤ g ∧ w.heap[g]? = some (.cells cur e (0, 0)) ∧ n ≤ cap ∧ cap ≤ maxLen ∧ off + cap * sz ≤ cur.size ∧ (cur.toList.drop off).take (n * sz) = xs)
theorem Tl.nil (w : World) (base : Nat) (e : TypeId) (sz : Nat) : Tl w base e sz (.slice none 0 0) 0 [] := ⟨by simp, .inl ⟨rfl, rfl⟩⟩
theorem Tl.sl {base : Nat} {e : TypeId} {sz : Nat} {v : Value} {n : Nat} {xs : List Value} (h : Tl w base e sz v n xs) : Sl w sz v n xs := by
  rcases h.2 with ⟨rfl, rfl⟩ | ⟨g, off, cap, cur, rfl, hb, hg, hn, hm, hs, ht⟩
  · exact ⟨h.1, by simp [maxLen], .inl ⟨none, rfl, rfl⟩⟩
  · exact ⟨h.1, Nat.le_trans hn hm, .inr ⟨g, off, cap, cur, e, (0, 0), rfl, hg, hn, hm, hs, ht⟩⟩
theorem Tl.own {base : Nat} {e : TypeId} {sz : Nat} {v : Value} {n : Nat} {xs : List Value} (h : w.ownsRow base e sz v n xs) : Tl w base e sz v n xs := by
  refine ⟨h.1, ?_⟩
  rcases h.2 with h | ⟨g, cap, cur, rfl, hb, hg, hn, hm, hs, ht⟩
  · exact .inl h
  · exact .inr ⟨g, 0, cap, cur, rfl, hb, hg, hn, hm, by omega, by simpa using ht⟩
theorem Tl.keep {S : Nat → Prop} {w' : World} {base : Nat} {e : TypeId} {sz : Nat} {v : Value} {n : Nat} {xs : List Value} (h : Tl w base e sz v n xs) (k : Kept S w w') (hn : ∀ g, v.ownBlock = some g → ¬ S g) : Tl w' base e sz v n xs := by
  refine ⟨h.1, ?_⟩
  rcases h.2 with h | ⟨g, off, cap, cur, rfl, hb, hg, hnc, hm, hs, ht⟩
  · exact .inl h
  · exact .inr ⟨g, off, cap, cur, rfl, hb, k.at hg (hn g rfl), hnc, hm, hs, ht⟩
theorem Tl.keep0 {w' : World} {base : Nat} {e : TypeId} {sz : Nat} {v : Value} {n : Nat} {xs : List Value} (h : Tl w base e sz v n xs) (k : K0 w w') : Tl w' base e sz v n xs := h.keep k fun _ _ c => c
theorem Tl.lt {base : Nat} {e : TypeId} {sz : Nat} {v : Value} {n : Nat} {xs : List Value} (h : Tl w base e sz v n xs) {g : Nat} (hg : v.ownBlock = some g) : base ≤ g ∧ g < w.heap.size := by
  rcases h.2 with ⟨rfl, _⟩ | ⟨g', off, cap, cur, rfl, hb, hg', _⟩
  · cases hg
  · simp only [Value.ownBlock, Option.some.injEq] at hg
    subst hg
    exact ⟨hb, lt_of_at hg'⟩
theorem Tl.from {base : Nat} {e : TypeId} {sz : Nat} {p : Option Addr} {n cap : Nat} {xs : List Value} (h : Tl w base e sz (.slice p n cap) n xs) {a : Nat} (ha : a ≤ n) : Tl w base e sz (.slice (if cap = a then p else p.map (·.add (a * sz))) (n - a) (cap - a)) (n - a) (xs.drop (a * sz)) := by
  refine ⟨by rw [List.length_drop, h.1, Nat.sub_mul], ?_⟩
  rcases h.2 with ⟨h1, rfl⟩ | ⟨g, off, cap', cur, h1, hb, hg, hnc, hm, hs, ht⟩
  · simp only [Value.slice.injEq] at h1
    obtain ⟨rfl, _, rfl⟩ := h1
    left
    have : a = 0 := by omega
    subst this
    simp
  · simp only [Value.slice.injEq, true_and] at h1
    obtain ⟨rfl, rfl⟩ := h1
    right
    by_cases hc : cap = a
    · subst hc
      have hn : n = cap := by omega
      subst hn
      rw [if_pos rfl]
      refine ⟨g, off, n - n, cur, rfl, hb, hg, by omega, by omega, by rw [Nat.sub_self, Nat.zero_mul]; omega, ?_⟩
      rw [Nat.sub_self, Nat.zero_mul, List.take_zero, List.drop_eq_nil_of_le (by rw [h.1]; omega)]
    · rw [if_neg hc]
      refine ⟨g, off + a * sz, cap - a, cur, by simp [addr_add], hb, hg, by omega, by omega, ?_, ?_⟩
      · have : a * sz + (cap - a) * sz = cap * sz := by rw [← Nat.add_mul]; congr 1; omega
        omega
      · rw [← ht, List.drop_take, List.drop_drop, ← Nat.sub_mul]
theorem Tl.shape {base : Nat} {e : TypeId} {sz : Nat} {v : Value} {n : Nat} {xs : List Value} (h : Tl w base e sz v n xs) : ∃ p cap, v = .slice p n cap ∧ n ≤ cap := by
  rcases h.2 with ⟨rfl, rfl⟩ | ⟨g, off, cap, cur, rfl, hb, hg, hnc, _⟩
  · exact ⟨_, _, rfl, Nat.le_refl _⟩
  · exact ⟨_, _, rfl, hnc⟩
theorem run_append_roomO (t ty e : TypeId) (i : TypeInfo) (ht : P.underlying t = some (.slice e)) (hi : P.info? e = some i)
    (g off sLen sCap : Nat) (cur : Array Value) (hg : w.heap[g]? = some (.cells cur e (0, 0)))
    (a : Addr) (m c : Nat) (news : List Value) (hl : news.length = m * i.size) (hnews : ∀ j u, news[j]? = some u → w.cell? (a.add j) = some u) (h1 : ∀ u ∈ news, u.oneCell' = true)
    (hroom : sLen + m ≤ sCap) (hfit : off + sLen * i.size + news.length ≤ cur.size) :
    (Builtin.append_ #[t, t] ty #[.slice (some ⟨g, off, none⟩) sLen sCap, .slice (some a) m c]).run P w =
      .ok (.slice (some ⟨g, off, none⟩) (sLen + m) sCap) (w.setRow g (cur.toList.take (off + sLen * i.size) ++ news ++ cur.toList.drop (off + sLen * i.size + news.length)).toArray) := by
  have hf := run_firstCells_some (P := P) w i.size m a m c news hl hnews
  have hst := run_storeCells_at P g (off + sLen * i.size) e news 0 cur w hg (by simpa using hfit) h1
  simp only [Nat.add_zero] at hst
  simp [Builtin.append_, run_underlying ht, sizeOf, typeInfo, hi, Builtin.lenOf, hroom, hf, addr_add, hst]
theorem run_appT {t u e : TypeId} {z : Value} {sz b : Nat} [ht : Und P t (.slice e)] [hi : Inf P e z sz b] (base : Nat) (hz : z.cells.size = sz) (hsz : 0 < sz) {v : Value} {n : Nat} {xs : List Value} (hown : Tl w base e sz v n xs)
    {vx : Value} {m : Nat} {news : List Value} (hm : 0 < m) (hsrc : Sl w sz vx m news) (h1 : ∀ u ∈ news, u.oneCell' = true) (h63 : n + m ≤ maxLen) (hbytes : (n + m) * b ≤ 140737488355328) (hbase : base ≤ w.heap.size) :
    ∃ v' w', (Builtin.append_ #[t, t] u #[v, vx]).run P w = .ok v' w' ∧ Tl w' base e sz v' (n + m) (xs ++ news) ∧ Kept (fun k => v.ownBlock = some k) w w' ∧ Lies w v v' := by
  rcases hown.2 with ⟨rfl, rfl⟩ | ⟨g0, off0, cap0, cur0, rfl, hb0, hg0, hn0, hm0, hs0, ht0⟩
  · have hx : xs = [] := List.eq_nil_of_length_eq_zero (by simpa using hown.1)
    subst hx
    obtain ⟨v', w', h, h2, h3, h4⟩ := run_app (P := P) (t := t) (u := u) base hz hsz (World.ownsRow_nil w base e sz) hsrc h1 h63 hbytes hbase
    exact ⟨v', w', h, .own h2, (Kept.of_grown h3).mono fun k hk => hk, h4⟩
  have hi' := hi.out
  have h63' : n + m ≤ 9223372036854775807 := by simpa [maxLen] using h63
  cases hinf : P.info? e with
  | none => simp [hinf] at hi'
  | some i =>
    simp only [hinf, Option.map_some, Option.some.injEq, Prod.mk.injEq] at hi'
    obtain ⟨hz', hs', hb'⟩ := hi'
    have ho : ∀ j y, xs[j]? = some y → w.cell? ((⟨g0, off0, none⟩ : Addr).add j) = some y := fun j y hy => by have := hown.sl.cell hy; simpa [Value.spot] using this
    have key : ∃ a cap, vx = .slice (some a) m cap ∧ ∀ j y, news[j]? = some y → w.cell? (a.add j) = some y := by
      rcases hsrc.2.2 with ⟨p, rfl, rfl⟩ | ⟨g, off, cap, cur, e', fz, rfl, hg, hn, hm, ho, htk⟩
      · omega
      · exact ⟨_, cap, rfl, fun j y hy => by have := hsrc.cell hy; simpa [Value.spot] using this⟩
    obtain ⟨a, cap, rfl, hcells⟩ := key
    have hlen : (xs ++ news).length = (n + m) * sz := by rw [List.length_append, hown.1, hsrc.1, Nat.add_mul]
    by_cases hroom : n + m ≤ cap0
    · have hfit : off0 + n * i.size + news.length ≤ cur0.size := by
        have : (n + m) * sz ≤ cap0 * sz := Nat.mul_le_mul_right _ hroom
        rw [hs', hsrc.1, Nat.add_assoc, ← Nat.add_mul]; omega
      have hr := run_append_roomO (P := P) (w := w) t u e i ht.out hinf g0 off0 n cap0 cur0 hg0 a m cap news (by rw [hs']; exact hsrc.1) hcells h1 hroom hfit
      refine ⟨_, _, hr, ⟨hlen, .inr ⟨g0, off0, cap0, _, rfl, hb0, setRow_heap w g0 cur0 _ e _ hg0, hroom, hm0, ?_, ?_⟩⟩, ?_, fun k hk => .inl hk⟩
      · simp only [List.size_toArray, List.length_append, List.length_take, List.length_drop, Array.length_toList]
        omega
      · show ((cur0.toList.take (off0 + n * i.size) ++ news ++ cur0.toList.drop (off0 + n * i.size + news.length)).drop off0).take ((n + m) * sz) = xs ++ news
        rw [List.append_assoc, List.drop_append_of_le_length (by rw [List.length_take, Array.length_toList]; omega), List.drop_take, Nat.add_sub_cancel_left, hs', ht0, ← List.append_assoc, ← hlen]
        exact List.take_left
      · exact (Kept.setRow w g0 _).mono fun k hk => by rw [hk]; rfl
    · have hr := run_append_grow (P := P) w t u e i z ht.out hinf hz' ⟨g0, off0, none⟩ n cap0 xs (by rw [hs']; exact hown.1) ho a m cap news (by rw [hs']; exact hsrc.1) hcells (by omega) (by omega) (growslice_fits (by omega) (by rw [hb']; exact hbytes))
      have hge := grownCap_ge w (n + m) cap0 e
      have hcm : grownCap w (n + m) cap0 e ≤ maxLen := grownCap_le_maxLen w (n + m) cap0 e h63
      refine ⟨_, _, hr, .own ⟨hlen, .inr ⟨w.heap.size, _, _, rfl, hbase, heap_alloc_new w.drew _, hge, hcm, ?_, ?_⟩⟩, ⟨rfl, rfl, rfl, by simp, fun k hk _ => heap_alloc_old w.drew _ hk⟩, fun k hk => .inr (by simp [Value.ownBlock] at hk; omega)⟩
      · simp only [Array.size_append, List.size_toArray, size_zeroCells, hz, hown.1, hsrc.1, ← Nat.add_mul]
        congr 1
        omega
      · simp only [Array.toList_append, List.append_assoc]
        rw [← List.append_assoc, ← hlen]
        exact List.take_left
/-- append to such a row. -/
theorem RW.appT {t e : TypeId} {z : Value} {sz b : Nat} [ht : Und P t (.slice e)] [hi : Inf P e z sz b] {s x : Operand} {v vx : Value} (hs : f.ev s = some v) (hx : f.ev x = some vx) (hd : Nat.blt d f.n = true) {base : Nat} (hz : z.cells.size = sz) (hsz : Nat.blt 0 sz = true) {n : Nat} {xs : List Value} (hown : Tl w base e sz v n xs) {m : Nat} {news : List Value} (hm : 0 < m) (hsrc : Sl w sz vx m news) (h1 : ∀ u ∈ news, u.oneCell' = true) (h63 : n + m ≤ 9223372036854775807) (hbytes : (n + m) * b ≤ 140737488355328) (hbase : base ≤ w.heap.size)
    (k : ∀ v' w', Tl w' base e sz v' (n + m) (xs ++ news) → Kept (fun k => v.ownBlock = some k) w w' → Lies w v v' → RW M P ops Q rest (f.put d v') w') :
    RW M P ops Q (op1 d (.call { callee := .builtin .append, args := #[s, x], argTypes := #[t, t] }) ty pos af :: rest) f w := by
  obtain ⟨v', w', h, h2, h3, h4⟩ := run_appT (P := P) (t := t) (u := ty) base hz (blt_lt hsz) hown hm hsrc h1 (by simpa [maxLen] using h63) hbytes hbase
  refine RW.val rfl rfl hd (fun a ha => ?_) (k v' w' h2 h3 h4)
  simp [execOp, resolve, invoke, builtin, ha.eval hs, ha.eval hx, h]
end
end Go.Proofs.Ytlbegmpikggmlaa.H

namespace Go.Proofs.Ytlbegmpikggmlaa.Ne
open Go.RowKit H S Ve Sp
attribute [local irreducible] H.CL H.RW H.CW H.Yd H.thenK H.blockQ Go.Calls

theorem cloneB (v : Value) (n : Nat) (xs : List Value) (w : World) (hs : Sl w 1 v n xs) (h1 : ∀ u ∈ xs, u.oneCell' = true) (hn : n ≤ 1000000) : Calls Try.prog 29 #[v] w fun e w' => K0 w w' ∧ ∃ u, e = .returned u ∧ w'.ownsRow w.heap.size u8T 1 u n xs := by
  refine H.enter Try.func29 Try.ntmps29 rfl rfl ?_; dsimp only [H.args]
  repeat' (first | (refine CL.seq ?_) | (refine CL.region ?_) | (refine Gt.nil ?_; refine RW.nilw [0, 2, 4] ?_; dsimp only [H.keep, H.look, H.Fr.put, Nat.beq]) | (refine Gt.assign ?_; refine RW.y (Y.assign rfl) rfl ?_) | (refine Gt.move ?_; refine RW.y (Y.move rfl) rfl ?_))
  obtain ⟨p, cap, rfl, hcap⟩ := hs.shape
  refine RW.y (Y.eqsn rfl rfl) rfl ?_
  cases p with
  | none =>
    have hn : n = 0 := by
      rcases hs.2.2 with ⟨p, h, _⟩ | ⟨g, off, cap, cur, e', fz, h, _⟩
      · cases h; rfl
      · cases h
    subst hn
    have hx : xs = [] := List.eq_nil_of_length_eq_zero (by simpa using hs.1)
    subst hx
    repeat' (first | (refine CL.seq ?_) | (refine CL.region ?_) | (refine CL.condT rfl ?_) | (refine CL.ret ?_) | (refine Gt.nil ?_; refine RW.nilw [0, 2, 4] ?_; dsimp only [H.keep, H.look, H.Fr.put, Nat.beq]) | (refine Gt.assign ?_; refine RW.y (Y.assign rfl) rfl ?_))
    exact FQ.one rfl rfl rfl ⟨Kept.refl _ _, _, rfl, World.ownsRow_nil _ _ _ _⟩
  | some a =>
    repeat' (first | (refine CL.seq ?_) | (refine CL.region ?_) | (refine CL.skip ?_) | (refine CL.condF rfl ?_) | (refine Gt.nil ?_; refine RW.nilw [0, 2, 4] ?_; dsimp only [H.keep, H.look, H.Fr.put, Nat.beq]))
    refine RW.build0 rfl (fun w1 hb1 hk1 hlt1 => ?_)
    have hown := fun sz => own_new (n := 0) (sz := sz) hb1 (Nat.le_refl _) (by simp) (by decide)
    repeat' ((refine Gt.move ?_; refine RW.y (Y.move rfl) rfl ?_))
    refine RW.app (sz := 1) rfl rfl rfl rfl rfl (hown 1) (hs.keep0 hk1) h1 (by omega) (by omega) (by omega) (fun u' w2 how hk2 hl2 => ?_)
    repeat' (first | (refine CL.ret ?_) | (refine Gt.nil ?_; refine RW.nilw [0, 2, 4] ?_; dsimp only [H.keep, H.look, H.Fr.put, Nat.beq]) | (refine Gt.assign ?_; refine RW.y (Y.assign rfl) rfl ?_))
    have how' := how
    rw [Nat.zero_add] at how'
    exact FQ.one rfl rfl rfl ⟨hk1.trans hk2 fun k h => .inr (by simp [Value.ownBlock] at h; omega), _, rfl, how'⟩
theorem cloneR (v : Value) (n : Nat) (xs : List Value) (w : World) (hs : Sl w 39 v n xs) (h1 : ∀ u ∈ xs, u.oneCell' = true) (hn : n ≤ 1000000) : Calls Try.prog 48 #[v] w fun e w' => K0 w w' ∧ ∃ u, e = .returned u ∧ w'.ownsRow w.heap.size irowT 39 u n xs := by
  refine H.enter Try.func48 Try.ntmps48 rfl rfl ?_; dsimp only [H.args]
  repeat' (first | (refine CL.seq ?_) | (refine CL.region ?_) | (refine Gt.nil ?_; refine RW.nilw [0, 2, 4] ?_; dsimp only [H.keep, H.look, H.Fr.put, Nat.beq]) | (refine Gt.assign ?_; refine RW.y (Y.assign rfl) rfl ?_) | (refine Gt.move ?_; refine RW.y (Y.move rfl) rfl ?_))
  obtain ⟨p, cap, rfl, hcap⟩ := hs.shape
  refine RW.y (Y.eqsn rfl rfl) rfl ?_
  cases p with
  | none =>
    have hn : n = 0 := by
      rcases hs.2.2 with ⟨p, h, _⟩ | ⟨g, off, cap, cur, e', fz, h, _⟩
      · cases h; rfl
      · cases h
    subst hn
    have hx : xs = [] := List.eq_nil_of_length_eq_zero (by simpa using hs.1)
    subst hx
    repeat' (first | (refine CL.seq ?_) | (refine CL.region ?_) | (refine CL.condT rfl ?_) | (refine CL.ret ?_) | (refine Gt.nil ?_; refine RW.nilw [0, 2, 4] ?_; dsimp only [H.keep, H.look, H.Fr.put, Nat.beq]) | (refine Gt.assign ?_; refine RW.y (Y.assign rfl) rfl ?_))
    exact FQ.one rfl rfl rfl ⟨Kept.refl _ _, _, rfl, World.ownsRow_nil _ _ _ _⟩
  | some a =>
    repeat' (first | (refine CL.seq ?_) | (refine CL.region ?_) | (refine CL.skip ?_) | (refine CL.condF rfl ?_) | (refine Gt.nil ?_; refine RW.nilw [0, 2, 4] ?_; dsimp only [H.keep, H.look, H.Fr.put, Nat.beq]))
    refine RW.build0 rfl (fun w1 hb1 hk1 hlt1 => ?_)
    have hown := fun sz => own_new (n := 0) (sz := sz) hb1 (Nat.le_refl _) (by simp) (by decide)
    repeat' ((refine Gt.move ?_; refine RW.y (Y.move rfl) rfl ?_))
    refine RW.app (sz := 39) rfl rfl rfl rfl rfl (hown 39) (hs.keep0 hk1) h1 (by omega) (by omega) (by omega) (fun u' w2 how hk2 hl2 => ?_)
    repeat' (first | (refine CL.ret ?_) | (refine Gt.nil ?_; refine RW.nilw [0, 2, 4] ?_; dsimp only [H.keep, H.look, H.Fr.put, Nat.beq]) | (refine Gt.assign ?_; refine RW.y (Y.assign rfl) rfl ?_))
    have how' := how
    rw [Nat.zero_add] at how'
    exact FQ.one rfl rfl rfl ⟨hk1.trans hk2 fun k h => .inr (by simp [Value.ownBlock] at h; omega), _, rfl, how'⟩
theorem cloneN (v : Value) (n : Nat) (xs : List Value) (w : World) (hs : Sl w 4 v n xs) (h1 : ∀ u ∈ xs, u.oneCell' = true) (hn : n ≤ 1000000) : Calls Try.prog 49 #[v] w fun e w' => K0 w w' ∧ ∃ u, e = .returned u ∧ w'.ownsRow w.heap.size needT 4 u n xs := by
  refine H.enter Try.func49 Try.ntmps49 rfl rfl ?_; dsimp only [H.args]
  repeat' (first | (refine CL.seq ?_) | (refine CL.region ?_) | (refine Gt.nil ?_; refine RW.nilw [0, 2, 4] ?_; dsimp only [H.keep, H.look, H.Fr.put, Nat.beq]) | (refine Gt.assign ?_; refine RW.y (Y.assign rfl) rfl ?_) | (refine Gt.move ?_; refine RW.y (Y.move rfl) rfl ?_))
  obtain ⟨p, cap, rfl, hcap⟩ := hs.shape
  refine RW.y (Y.eqsn rfl rfl) rfl ?_
  cases p with
  | none =>
    have hn : n = 0 := by
      rcases hs.2.2 with ⟨p, h, _⟩ | ⟨g, off, cap, cur, e', fz, h, _⟩
      · cases h; rfl
      · cases h
    subst hn
    have hx : xs = [] := List.eq_nil_of_length_eq_zero (by simpa using hs.1)
    subst hx
    repeat' (first | (refine CL.seq ?_) | (refine CL.region ?_) | (refine CL.condT rfl ?_) | (refine CL.ret ?_) | (refine Gt.nil ?_; refine RW.nilw [0, 2, 4] ?_; dsimp only [H.keep, H.look, H.Fr.put, Nat.beq]) | (refine Gt.assign ?_; refine RW.y (Y.assign rfl) rfl ?_))
    exact FQ.one rfl rfl rfl ⟨Kept.refl _ _, _, rfl, World.ownsRow_nil _ _ _ _⟩
  | some a =>
    repeat' (first | (refine CL.seq ?_) | (refine CL.region ?_) | (refine CL.skip ?_) | (refine CL.condF rfl ?_) | (refine Gt.nil ?_; refine RW.nilw [0, 2, 4] ?_; dsimp only [H.keep, H.look, H.Fr.put, Nat.beq]))
    refine RW.build0 rfl (fun w1 hb1 hk1 hlt1 => ?_)
    have hown := fun sz => own_new (n := 0) (sz := sz) hb1 (Nat.le_refl _) (by simp) (by decide)
    repeat' ((refine Gt.move ?_; refine RW.y (Y.move rfl) rfl ?_))
    refine RW.app (sz := 4) rfl rfl rfl rfl rfl (hown 4) (hs.keep0 hk1) h1 (by omega) (by omega) (by omega) (fun u' w2 how hk2 hl2 => ?_)
    repeat' (first | (refine CL.ret ?_) | (refine Gt.nil ?_; refine RW.nilw [0, 2, 4] ?_; dsimp only [H.keep, H.look, H.Fr.put, Nat.beq]) | (refine Gt.assign ?_; refine RW.y (Y.assign rfl) rfl ?_))
    have how' := how
    rw [Nat.zero_add] at how'
    exact FQ.one rfl rfl rfl ⟨hk1.trans hk2 fun k h => .inr (by simp [Value.ownBlock] at h; omega), _, rfl, how'⟩

/-- What a row says, whatever the memory it lies in. -/
structure Rv where
  name : T
  v : Ver
  sum : Array Value
  size : Int
  needs : List Nd
def Rp.val (x : Rp) : Rv := ⟨x.name, x.v, x.sum, x.size, x.needs.map (·.d)⟩
/-- A cell of a row of the call's own written. -/
theorem own_set {w w' : World} {base : Nat} {e : TypeId} {sz n cap g : Nat} {cur : Array Value} {xs : List Value} (h : w.ownsRow base e sz (.slice (some ⟨g, 0, none⟩) n cap) n xs) (hg : w.heap[g]? = some (.cells cur e (0, 0))) {j : Nat} {u : Value} (hj : j < n * sz) (hb : w'.heap[g]? = some (.cells (cur.setIfInBounds j u) e (0, 0))) : w'.ownsRow base e sz (.slice (some ⟨g, 0, none⟩) n cap) n (xs.set j u) := by
  refine ⟨by rw [List.length_set]; exact h.1, ?_⟩
  rcases h.2 with ⟨h, _⟩ | ⟨g', cap', cur', h1, hB, hg', hn, hm, hs, ht⟩
  · cases h
  · simp only [Value.slice.injEq, Option.some.injEq, Addr.mk.injEq, and_true, true_and] at h1
    obtain ⟨rfl, rfl⟩ := h1
    rw [hg] at hg'
    simp only [Option.some.injEq, Obj.cells.injEq] at hg'
    obtain ⟨rfl, _⟩ := hg'
    refine .inr ⟨g, cap, _, rfl, hB, hb, hn, hm, by rw [Array.size_setIfInBounds]; exact hs, ?_⟩
    rw [Array.toList_setIfInBounds, List.take_set, ht]
theorem own_block {w : World} {base : Nat} {e : TypeId} {sz n : Nat} {u : Value} {xs : List Value} (h : w.ownsRow base e sz u n xs) (hn : 0 < n) : ∃ g cap cur, u = .slice (some ⟨g, 0, none⟩) n cap ∧ w.heap[g]? = some (.cells cur e (0, 0)) ∧ n * sz ≤ cur.size ∧ base ≤ g := by
  rcases h.2 with ⟨_, h⟩ | ⟨g, cap, cur, rfl, hB, hg, hnc, hm, hs, ht⟩
  · omega
  · exact ⟨g, cap, cur, rfl, hg, by rw [hs]; exact Nat.mul_le_mul_right _ hnc, hB⟩
theorem set_row (L : List Rp) (i : Nat) (hi : i < L.length) (y : Rp) (p : Value) (hy : rpC y = (rpC (L.getD i default)).set 38 p) : (L.flatMap rpC).set (i * 39 + 38) p = (L.set i y).flatMap rpC := by
  induction L generalizing i with
  | nil => simp at hi
  | cons x L ih =>
    have hx := rpC_len x
    cases i with
    | zero =>
      simp only [List.getD_cons_zero] at hy
      rw [List.flatMap_cons, List.set_append_left _ _ (by omega), List.set_cons_zero, List.flatMap_cons, hy]
    | succ i =>
      simp only [List.getD_cons_succ] at hy
      have e : (i + 1) * 39 + 38 - 39 = i * 39 + 38 := by omega
      rw [List.flatMap_cons, List.set_append_right _ _ (by omega), List.set_cons_succ, List.flatMap_cons, hx, e, ih i (by simpa using hi) hy]
theorem set_same {α : Type} (d : α) : ∀ (l : List α) (i : Nat), l.set i (l.getD i d) = l
  | [], _ => rfl
  | _ :: _, 0 => rfl
  | x :: l, i + 1 => by
    simp only [List.getD_cons_succ, List.set_cons_succ]
    rw [set_same d l i]
theorem getD_map {α β : Type} (f : α → β) (d : α) (e : β) (l : List α) (i : Nat) (h : i < l.length) : (l.map f).getD i e = f (l.getD i d) := by
  simp [List.getD_eq_getElem?_getD, h]
theorem list_set38 (x : Rp) (p : Value) (l : List Np) : rpC (x.withNeeds p l) = (rpC x).set 38 p := by
  have := congrArg Array.toList (set_needs x p l)
  simpa using this.symm
/-- The net's copy of rows: they say the same. -/
theorem rowsOf (v : Value) (R : List Rp) (w : World) (hv : GA rwK w v R) (hl : R.length ≤ 100) (hf : ∀ x ∈ R, FitR x) : Calls Try.prog 28 #[v] w fun e w' => K0 w w' ∧ ∃ u R', e = .returned u ∧ GI rwK w' w.heap.size irowT u R' ∧ R'.map Rp.val = R.map Rp.val ∧ (∀ x ∈ R', FitR x) ∧ (∀ x' ∈ R', ∀ g, x'.A g → (∃ x ∈ R, x.A g) ∨ w.heap.size ≤ g) := by
  refine H.enter Try.func28 Try.ntmps28 rfl rfl ?_; dsimp only [H.args]
  repeat' (first | (refine CL.seq ?_) | (refine CL.region ?_) | (refine Gt.nil ?_; refine RW.nilw [0, 2, 3, 7, 8, 9] ?_; dsimp only [H.keep, H.look, H.Fr.put, Nat.beq]) | (refine Gt.move ?_; refine RW.y (Y.move rfl) rfl ?_) | (refine Gt.assign ?_; refine RW.y (Y.assign rfl) rfl ?_))
  refine RW.fn rfl rfl ((cloneR v R.length _ w hv.1 hv.ones (by omega)).mono ?_)
  rintro e w1 ⟨hk1, u, rfl, how⟩
  have hg0 : GI rwK w1 w.heap.size irowT u R := GI.clone hv hk1 how
  have hus := hg0.ga.1
  repeat' (first | (refine CL.seq ?_) | (refine CL.region ?_) | (refine CL.block ?_) | (refine Gt.nil ?_; refine RW.nilw [0, 2, 3, 7, 8, 9] ?_; dsimp only [H.keep, H.look, H.Fr.put, Nat.beq]) | (refine Gt.move ?_; refine RW.y (Y.move rfl) rfl ?_) | (refine Gt.assign ?_; refine RW.y (Y.assign rfl) rfl ?_) | (refine Gt.len ?_; (refine RW.y (Y.lenx rfl (by assumption)) rfl ?_)))
  refine CL.loopS [0, 7, 8] (fun k vals wr => ∃ (i : Nat) (L : List Rp), vals = [u, .int .i64 (R.length : Int), .int .i64 (i : Int)] ∧ k = R.length - i ∧ i ≤ R.length ∧ GI rwK wr w.heap.size irowT u L ∧ L.map Rp.val = R.map Rp.val ∧ (∀ x ∈ L, FitR x) ∧ (∀ x' ∈ L, ∀ g, x'.A g → (∃ x ∈ R, x.A g) ∨ w.heap.size ≤ g) ∧ K0 w wr) R.length ⟨_, rfl, 0, R, rfl, rfl, Nat.zero_le _, hg0, rfl, hf, (fun x hx g hg => .inl ⟨x, hx, hg⟩), hk1⟩ ?_
  rintro k vals wr ⟨i, L, rfl, rfl, hi, hL, hval, hfl, hA, hKr⟩
  dsimp only [List.zip, List.zipWith]
  have hlen : L.length = R.length := by simpa using congrArg List.length hval
  have hti : ((i : Int)).toNat = i := Int.toNat_natCast i
  rcases Nat.lt_or_ge i R.length with hlt | hge
  · have hga := hL.ga
    have hsr := hga.1
    have hmem : L.getD ((i : Int)).toNat default ∈ L := getD_mem default (by omega)
    obtain ⟨gu, cap, cur, hu, hgu, hsz, hB⟩ := own_block hL.1 (by omega)
    subst hu
    obtain ⟨g, o, hsp, hrc⟩ := rowSpot hga (i := (i : Int)) (by omega) (by omega)
    have hD := hga.2 _ hmem
    have hNF := (hL.2 _ hmem).2
    have hx := hfl _ hmem
    have hxA := hA _ hmem
    generalize hxd : L.getD ((i : Int)).toNat default = x at *
    repeat' (first | (refine CL.seq ?_) | (refine CL.region ?_) | (refine CL.skip ?_) | (refine CL.condP rfl (fun _ => ?_) (fun _ => ?_) <;> try (exfalso; omega)) | (refine Gt.nil ?_; refine RW.nilw [0, 2, 3, 7, 8, 9] ?_; dsimp only [H.keep, H.look, H.Fr.put, Nat.beq]) | (refine Gt.lss ?_; refine RW.y (Y.lss rfl rfl) rfl ?_))
    refine CL.block ?_
    repeat' (first | (refine CL.seq ?_) | (refine CL.region ?_) | (refine Gt.nil ?_; refine RW.nilw [0, 2, 3, 7, 8, 9] ?_; dsimp only [H.keep, H.look, H.Fr.put, Nat.beq]) | (refine Gt.move ?_; refine RW.y (Y.move rfl) rfl ?_) | (refine Gt.assign ?_; refine RW.y (Y.assign rfl) rfl ?_))
    refine RW.y (Y.idx rfl rfl hsr (by omega) (by omega)) rfl ?_
    refine RW.y (Y.fieldAddr (congrArg (fun a => some (Value.pointer (some a))) hsp) (by rfl)) rfl ?_
    refine RW.y (Y.load1A rfl (hrc _ (Kept.refl _ _)).needs) rfl ?_
    refine RW.fn rfl rfl ((cloneN x.np x.needs.length _ wr hD.2.1.1 hD.2.1.ones (by have := hx.needs; omega)).mono ?_)
    rintro e w2 ⟨hk2, u2, rfl, how2⟩
    have hgn : GI ndK w2 wr.heap.size needT u2 x.needs := GI.clone hD.2.1 hk2 how2
    have hz2 := hk2.size
    have hL2 := hL.keep0 hk2
    have hgu2 := hk2.at0 hgu
    have hltu := lt_of_at hgu
    refine RW.y (Y.idx rfl rfl hL2.ga.1 (by omega) (by omega)) rfl ?_
    refine RW.y (Y.fieldAddr (congrArg (fun a => some (Value.pointer (some a))) (show Value.spot (.slice (some ⟨gu, 0, none⟩) L.length cap) (((i : Int)).toNat * 39) = ⟨gu, 0 + ((i : Int)).toNat * 39, none⟩ from by simp [Value.spot, addr_add])) (by rfl)) rfl ?_
    refine RW.storeB rfl rfl hgn.ga.1.one hgu2 (by simp only [rwK] at hsz; omega) (fun w3 hb3 hk3 => ?_)
    obtain ⟨y, hyd⟩ : ∃ y : Rp, y = { x.withNeeds u2 x.needs with A := fun g => x.A g ∨ (wr.heap.size ≤ g ∧ g < w2.heap.size) } := ⟨_, rfl⟩
    have hyc : rpC y = (rpC x).set 38 u2 := by rw [← list_set38 x u2 x.needs, hyd]; rfl
    have hyA : ∀ g, y.A g → x.A g ∨ (wr.heap.size ≤ g ∧ g < w2.heap.size) := fun g h => by rw [hyd] at h; exact h
    have hyne : ∀ g, y.A g → gu ≠ g := fun g h c => (hyA g h).elim (fun h => hNF g h (by rw [← c]; rfl)) fun h => by omega
    have hDy : rwD w2 y := by
      rw [hyd]
      have hD2 := rwK.keep0 hD hk2
      exact ⟨hD2.1, hgn.ga, fun g hg => .inl (hD2.2.2.1 g hg), fun g hg => .inr ⟨(hgn.1.lt g (live_own hg)).1, hgn.ga.1.lt hg⟩, fun z hz g hg => .inl (hD2.2.2.2.2.1 z hz g hg), fun g hg => hg.elim (fun h => hD2.2.2.2.2.2 g h) fun h => h.2⟩
    have hown3 := own_set hL2.1 hgu2 (j := 0 + ((i : Int)).toNat * 39 + 38) (u := u2) (by simp only [rwK]; omega) hb3
    have hL3 : GI rwK w3 w.heap.size irowT (.slice (some ⟨gu, 0, none⟩) L.length cap) (L.set i y) := by
      refine ⟨?_, fun z hz => ?_⟩
      · rw [List.length_set]
        have e1 : (L.flatMap rpC).set (0 + ((i : Int)).toNat * 39 + 38) u2 = (L.set i y).flatMap rpC := by
          rw [hti, Nat.zero_add]
          exact set_row L i (by omega) y u2 (by rw [hyc, ← hxd, hti])
        exact e1 ▸ hown3
      · rcases List.mem_or_eq_of_mem_set hz with hz | rfl
        · have h4 := hL2.2 z hz
          exact ⟨rwK.keep _ w2 w3 z h4.1 hk3 fun g _ hg c => h4.2 g hg (by rw [c]; rfl), h4.2⟩
        · exact ⟨rwK.keep _ w2 w3 z hDy hk3 fun g _ hg c => hyne g hg c.symm, fun g hg c => hyne g hg (by simpa [Value.ownBlock] using c)⟩
    repeat' (first | (refine CL.region ?_) | (refine CL.done ?_) | (refine Nm.block ?_) | (refine Nm.then ?_) | (refine Gt.nil ?_; refine RW.nilw [0, 2, 3, 7, 8, 9] ?_; dsimp only [H.keep, H.look, H.Fr.put, Nat.beq]) | (refine Gt.move ?_; refine RW.y (Y.move rfl) rfl ?_) | (refine Gt.add ?_; refine RW.y (Y.add64 rfl rfl (by omega) (by omega)) rfl ?_))
    refine ⟨R.length - (i + 1), _, by rw [hlen]; rfl, rfl, rfl, by omega, i + 1, L.set i y, rfl, rfl, by omega, hL3, ?_, fun z hz => ?_, fun z hz g hg => ?_, (hKr.trans0 hk2).trans hk3 fun k h => .inr (by omega)⟩
    · rw [List.map_set, ← hval, show y.val = (L.map Rp.val).getD i ⟨[], default, #[], 0, []⟩ from ?_, set_same]
      rw [getD_map Rp.val default _ L i (by omega), ← hti, hxd, hyd]
      rfl
    · rcases List.mem_or_eq_of_mem_set hz with hz | rfl
      · exact hfl z hz
      · rw [hyd]; exact ⟨hx.name, hx.v, hx.va, hx.vb, hx.vc, hx.text, hx.size, hx.needs, hx.need⟩
    · rcases List.mem_or_eq_of_mem_set hz with hz | rfl
      · exact hA z hz g hg
      · exact (hyA g hg).elim (fun h => hxA g h) fun h => .inr (by have := hKr.size; omega)
  · have hi : i = R.length := by omega
    subst hi
    repeat' (first | (refine CL.seq ?_) | (refine CL.region ?_) | (refine CL.condP rfl (fun _ => ?_) (fun _ => ?_) <;> try (exfalso; omega)) | (refine CL.exit ?_) | (refine Ex.then ?_) | (refine Ex.hit ?_) | (refine CL.ret ?_) | (refine Gt.nil ?_; refine RW.nilw [0, 2, 3, 7, 8, 9] ?_; dsimp only [H.keep, H.look, H.Fr.put, Nat.beq]) | (refine Gt.move ?_; refine RW.y (Y.move rfl) rfl ?_) | (refine Gt.assign ?_; refine RW.y (Y.assign rfl) rfl ?_) | (refine Gt.lss ?_; refine RW.y (Y.lss rfl rfl) rfl ?_))
    exact FQ.one rfl rfl rfl ⟨hKr, u, L, rfl, hL, hval, hfl, hA⟩
end Go.Proofs.Ytlbegmpikggmlaa.Ne

namespace Go.Proofs.Ytlbegmpikggmlaa.Ne
open Go.RowKit H S Ve Sp
attribute [local irreducible] H.CL H.RW H.CW H.Yd H.thenK H.blockQ Go.Calls

/-- The version that a closure has caught. -/
def HasV (w : World) (g : Nat) (x : Ver) : Prop := ∃ q, w.heap[g]? = some (.cells #[.int .i64 x.a, .int .i64 x.b, .int .i64 x.c, q] verT (0, 0)) ∧ Sl w 1 q x.pre.length (sv x.pre)
theorem HasV.keep0 {w w' : World} {g : Nat} {x : Ver} (h : HasV w g x) (k : K0 w w') : HasV w' g x := by obtain ⟨q, h1, h2⟩ := h; exact ⟨q, k.at0 h1, h2.keep0 k⟩
def hitR (nm : T) (v : Ver) (x : Rp) : Bool := decide (x.name = nm) && decide (cmpV x.v v = 0)
/-- The place of the first that is hit, or -1. -/
def idxI {α : Type} (p : α → Bool) : List α → Nat → Int
  | [], _ => -1
  | x :: r, k => if p x = true then (k : Int) else idxI p r (k + 1)
theorem idxI_drop {α : Type} [Inhabited α] (p : α → Bool) (L : List α) (i : Nat) (hi : i < L.length) : idxI p (L.drop i) i = if p (L.getD i default) = true then (i : Int) else idxI p (L.drop (i + 1)) (i + 1) := by
  rw [show L.drop i = L.getD i default :: L.drop (i + 1) from by simp [List.getD_eq_getElem?_getD, hi]]
  rfl
/-- The cells of a row that lies alone. -/
theorem rowBlock {w : World} {g : Nat} {x : Rp} {e : TypeId} {fz : Nat × Nat} (hb : w.heap[g]? = some (.cells (rpC x).toArray e fz)) : RowC w g 0 x := by
  have hl := x.hsum.1
  have hc : ∀ j u, (rpC x)[j]? = some u → w.cell? ⟨g, j, none⟩ = some u := fun j u hu => ldU hb (by simpa using hu)
  refine ⟨hc 0 _ rfl, fun j u hu => ?_, fun j u hu => ?_, ?_, ?_⟩
  · have hj : j < 4 := (List.getElem?_eq_some_iff.1 hu).1
    rw [addr_add]
    refine hc _ _ ?_
    rw [rpC, List.getElem?_append_left (by simp; omega), Nat.zero_add, Nat.add_comm]; exact hu
  · have hj : j < 32 := by have := (List.getElem?_eq_some_iff.1 hu).1; rw [Array.length_toList, hl] at this; exact this
    rw [addr_add]
    refine hc _ _ ?_
    rw [rpC, List.getElem?_append_right (by simp)]
    simp only [List.length_cons, List.length_nil]
    rw [show 0 + 5 + j - (0 + 1 + 1 + 1 + 1 + 1) = j from by omega, List.getElem?_append_left (by rw [Array.length_toList, hl]; exact hj)]; exact hu
  · exact hc 37 _ (by have := rpC_37 x; simpa using this)
  · exact hc 38 _ (by have := rpC_38 x; simpa using this)
theorem atLam (x : Rp) (nm : T) (x0 : Ver) (gn gv : Nat) (w : World) (hD : rwD w x) (hx : FitR x) (hn : w.heap[gn]? = some (.cells #[vs nm] strT (0, 0))) (hV : HasV w gv x0) (fx : Fit x0) : Calls Try.prog 51 #[.agg (rpC x).toArray, .pointer (some ⟨gn, 0, none⟩), .pointer (some ⟨gv, 0, none⟩)] w fun e w' => K0 w w' ∧ e = .returned (.bool (hitR nm x0 x)) := by
  obtain ⟨q, hg, hq⟩ := hV
  refine H.enter Try.func51 Try.ntmps51 rfl rfl ?_; dsimp only [H.args]
  repeat' (first | (refine CL.seq ?_) | (refine CL.region ?_))
  refine RW.box rfl rfl (fun w1 hb1 hk1 hlt1 => ?_)
  have hb1' : w1.heap[w.heap.size]? = some (.cells (rpC x).toArray irowT (0, 0)) := hb1
  have hrc := rowBlock hb1'
  have hn1 := hk1.at0 hn
  have hg1 := hk1.at0 hg
  repeat' (first | (refine CL.seq ?_) | (refine CL.region ?_) | (refine CL.ret ?_) | (refine Gt.nil ?_; refine RW.nilw [0, 1, 2, 3, 4] ?_; dsimp only [H.keep, H.look, H.Fr.put, Nat.beq]) | (refine Gt.load ?_; (refine RW.y (Y.loadB rfl (by assumption) rfl) rfl ?_)) | (refine Gt.guard ?_; first | (refine RW.part rfl rfl rfl (fun _ => ?_) (fun _ => ?_) <;> try (exfalso; omega)) | (refine RW.on rfl rfl rfl ?_) | (refine RW.off1 rfl rfl rfl rfl rfl ?_)) | (refine Gt.assign ?_; refine RW.y (Y.assign rfl) rfl ?_) | (refine Gt.fieldAddr ?_; refine RW.y (Y.fieldAddr rfl (by rfl)) rfl ?_) | (refine Gt.eql ?_; (refine RW.y (Y.eqs rfl rfl) rfl ?_)) | (refine Gt.move ?_; refine RW.y (Y.move rfl) rfl ?_) | (refine Gt.pick ?_; (refine RW.y (Y.pickF rfl rfl) rfl ?_)))
  · rename_i hnm
    refine RW.y (Y.loadN (cs := [_, _, _, _]) rfl rfl hrc.ver) rfl ?_
    refine RW.on rfl rfl rfl ?_
    refine RW.y (Y.loadBlock rfl hg1 rfl) rfl ?_
    refine RW.on rfl rfl rfl ?_
    refine RW.fn rfl rfl ((cmpW _ _ x.v x0 w1 ⟨_, rfl, hD.1.keep0 hk1⟩ ⟨_, rfl, hq.keep0 hk1⟩ hx.v fx).mono ?_)
    rintro e w2 ⟨hk2, rfl⟩
    repeat' (first | (refine CL.ret ?_) | (refine Gt.nil ?_; refine RW.nilw [0, 1, 2, 3, 4] ?_; dsimp only [H.keep, H.look, H.Fr.put, Nat.beq]) | (refine Gt.guard ?_; (refine RW.on rfl rfl rfl ?_)) | (refine Gt.assign ?_; refine RW.y (Y.assign rfl) rfl ?_) | (refine Gt.eql ?_; (refine RW.y (Y.eqi rfl rfl) rfl ?_)) | (refine Gt.pick ?_; (refine RW.y (Y.pickT rfl rfl) rfl ?_)))
    exact FQ.one rfl rfl rfl ⟨hk1.trans0 hk2, by rw [hitR, hnm]; simp⟩
  · rename_i hnm
    exact FQ.one rfl rfl rfl ⟨hk1, by rw [hitR, decide_eq_false hnm]; rfl⟩
theorem idxRows (v : Value) (L : List Rp) (nm : T) (x0 : Ver) (gn gv : Nat) (w : World) (hv : GA rwK w v L) (hf : ∀ x ∈ L, FitR x) (hn : w.heap[gn]? = some (.cells #[vs nm] strT (0, 0))) (hV : HasV w gv x0) (fx : Fit x0) (hl : L.length ≤ 1000000) : Calls Try.prog 50 #[v, .func (.func 51) #[] #[.pointer (some ⟨gn, 0, none⟩), .pointer (some ⟨gv, 0, none⟩)]] w fun e w' => K0 w w' ∧ e = .returned (.int .i64 (idxI (hitR nm x0) L 0)) := by
  refine H.enter Try.func50 Try.ntmps50 rfl rfl ?_; dsimp only [H.args]
  have hs := hv.1
  repeat' (first | (refine CL.seq ?_) | (refine CL.region ?_) | (refine CL.block ?_) | (refine Gt.nil ?_; refine RW.nilw [0, 1, 4, 5, 7, 8, 9, 16] ?_; dsimp only [H.keep, H.look, H.Fr.put, Nat.beq]) | (refine Gt.move ?_; refine RW.y (Y.move rfl) rfl ?_) | (refine Gt.assign ?_; refine RW.y (Y.assign rfl) rfl ?_) | (refine Gt.len ?_; (refine RW.y (Y.lenx rfl (by assumption)) rfl ?_)))
  refine CL.loopS [0, 1, 4, 7, 8] (fun k vals wr => ∃ (i : Nat) (n : Int), vals = [v, .func (.func 51) #[] #[.pointer (some ⟨gn, 0, none⟩), .pointer (some ⟨gv, 0, none⟩)], .int .i64 n, .int .i64 (L.length : Int), .int .i64 (i : Int)] ∧ k = L.length - i ∧ i ≤ L.length ∧ idxI (hitR nm x0) L 0 = idxI (hitR nm x0) (L.drop i) i ∧ K0 w wr) L.length ⟨_, rfl, 0, 0, rfl, rfl, Nat.zero_le _, rfl, Kept.refl _ _⟩ ?_
  rintro k vals wr ⟨i, n, rfl, rfl, hi, hix, hkr⟩
  dsimp only [List.zip, List.zipWith]
  have hvr := hv.keep0 hkr
  have hsr : Sl wr 39 v L.length (L.flatMap rpC) := hvr.1
  have hti : ((i : Int)).toNat = i := Int.toNat_natCast i
  rcases Nat.lt_or_ge i L.length with hlt | hge
  · have hmem : L.getD ((i : Int)).toNat default ∈ L := getD_mem default (by omega)
    have hall := elAll hsr rpC_len (i := (i : Int)) (by omega) (by omega)
    have hst := idxI_drop (hitR nm x0) L i hlt
    rw [← hti] at hst
    have hD := hvr.2 _ hmem
    have hx := hf _ hmem
    generalize hxd : L.getD ((i : Int)).toNat default = x at *
    rw [hti] at hst
    repeat' (first | (refine CL.seq ?_) | (refine CL.region ?_) | (refine CL.skip ?_) | (refine CL.condP rfl (fun _ => ?_) (fun _ => ?_) <;> try (exfalso; omega)) | (refine CL.block ?_) | (refine Gt.nil ?_; refine RW.nilw [0, 1, 4, 5, 7, 8, 9, 16] ?_; dsimp only [H.keep, H.look, H.Fr.put, Nat.beq]) | (refine Gt.move ?_; refine RW.y (Y.move rfl) rfl ?_) | (refine Gt.assign ?_; refine RW.y (Y.assign rfl) rfl ?_) | (refine Gt.lss ?_; refine RW.y (Y.lss rfl rfl) rfl ?_))
    refine RW.y (Y.idx rfl rfl hsr (by omega) (by omega)) rfl ?_
    refine RW.y (Y.loadN (cs := rpC x) rfl (rpC_len x) (hall _ (Kept.refl _ _))) rfl ?_
    refine RW.fnv (cap := [.pointer (some ⟨gn, 0, none⟩), .pointer (some ⟨gv, 0, none⟩)]) rfl rfl rfl ((atLam x nm x0 gn gv wr hD hx (hkr.at0 hn) (hV.keep0 hkr) fx).mono ?_)
    rintro e w' ⟨hk', rfl⟩
    cases hm : hitR nm x0 x
    · rw [hm] at hst
      repeat' (first | (refine CL.region ?_) | (refine CL.skip ?_) | (refine CL.condF rfl ?_) | (refine CL.done ?_) | (refine Nm.block ?_) | (refine Nm.then ?_) | (refine Gt.nil ?_; refine RW.nilw [0, 1, 4, 5, 7, 8, 9, 16] ?_; dsimp only [H.keep, H.look, H.Fr.put, Nat.beq]) | (refine Gt.move ?_; refine RW.y (Y.move rfl) rfl ?_) | (refine Gt.add ?_; refine RW.y (Y.add64 rfl rfl (by omega) (by omega)) rfl ?_))
      exact ⟨L.length - (i + 1), _, rfl, rfl, rfl, by omega, i + 1, n, rfl, rfl, by omega, by rw [hix, hst]; rfl, hkr.trans0 hk'⟩
    · rw [hm] at hst
      repeat' (first | (refine CL.seq ?_) | (refine CL.region ?_) | (refine CL.condT rfl ?_) | (refine CL.ret ?_) | (refine Rt.then ?_) | (refine Rt.block ?_) | (refine Gt.nil ?_; refine RW.nilw [0, 1, 4, 5, 7, 8, 9, 16] ?_; dsimp only [H.keep, H.look, H.Fr.put, Nat.beq]) | (refine Gt.move ?_; refine RW.y (Y.move rfl) rfl ?_) | (refine Gt.assign ?_; refine RW.y (Y.assign rfl) rfl ?_))
      exact FQ.one rfl rfl rfl ⟨hkr.trans0 hk', by rw [hix, hst]; rfl⟩
  · have hi : i = L.length := by omega
    subst hi
    rw [List.drop_length] at hix
    repeat' (first | (refine CL.seq ?_) | (refine CL.region ?_) | (refine CL.condP rfl (fun _ => ?_) (fun _ => ?_) <;> try (exfalso; omega)) | (refine CL.exit ?_) | (refine Ex.then ?_) | (refine Ex.hit ?_) | (refine CL.ret ?_) | (refine Gt.nil ?_; refine RW.nilw [0, 1, 4, 5, 7, 8, 9, 16] ?_; dsimp only [H.keep, H.look, H.Fr.put, Nat.beq]) | (refine Gt.assign ?_; refine RW.y (Y.assign rfl) rfl ?_) | (refine Gt.lss ?_; refine RW.y (Y.lss rfl rfl) rfl ?_))
    exact FQ.one rfl rfl rfl ⟨hkr, by rw [hix]; rfl⟩
theorem indexAt (v V : Value) (L : List Rp) (nm : T) (x0 : Ver) (w : World) (hv : GA rwK w v L) (hf : ∀ x ∈ L, FitR x) (hV : VerAt w V x0) (fx : Fit x0) (hl : L.length ≤ 1000000) : Calls Try.prog 31 #[v, vs nm, V] w fun e w' => K0 w w' ∧ e = .returned (.int .i64 (idxI (hitR nm x0) L 0)) := by
  obtain ⟨pv, rfl, hpv⟩ := hV
  refine H.enter Try.func31 Try.ntmps31 rfl rfl ?_; dsimp only [H.args]
  repeat' (first | (refine CL.seq ?_) | (refine CL.region ?_))
  refine RW.box rfl rfl (fun w1 hb1 hk1 hlt1 => ?_)
  skip
  refine RW.box rfl rfl (fun w2 hb2 hk2 hlt2 => ?_)
  have hK := hk1.trans0 hk2
  repeat' (first | (refine CL.seq ?_) | (refine CL.region ?_) | (refine Gt.nil ?_; refine RW.nilw [0, 1, 2, 4, 5, 6] ?_; dsimp only [H.keep, H.look, H.Fr.put, Nat.beq]) | (refine RW.y (Y.makeFunc (xs := []) (ys := [_, _]) rfl rfl) rfl ?_) | (refine Gt.assign ?_; refine RW.y (Y.assign rfl) rfl ?_) | (refine Gt.move ?_; refine RW.y (Y.move rfl) rfl ?_))
  refine RW.fn rfl rfl ((idxRows v L nm x0 w.heap.size w1.heap.size w2 (hv.keep0 hK) hf (hk2.at0 hb1) ⟨pv, hb2, hpv.keep0 hK⟩ fx hl).mono ?_)
  rintro e w3 ⟨hk3, rfl⟩
  repeat' (first | (refine CL.ret ?_) | (refine Gt.nil ?_; refine RW.nilw [0, 1, 2, 4, 5, 6] ?_; dsimp only [H.keep, H.look, H.Fr.put, Nat.beq]) | (refine Gt.assign ?_; refine RW.y (Y.assign rfl) rfl ?_))
  exact FQ.one rfl rfl rfl ⟨hK.trans0 hk3, rfl⟩
theorem refFind (v V : Value) (L : List Rp) (nm : T) (x0 : Ver) (w : World) (hv : GA rwK w v L) (hf : ∀ x ∈ L, FitR x) (hV : VerAt w V x0) (fx : Fit x0) (hl : L.length ≤ 1000000) : Calls Try.prog 54 #[v, vs nm, V] w fun e w' => K0 w w' ∧ e = .returned (.int .i64 (idxI (hitR nm x0) L 0)) := by
  obtain ⟨pv, rfl, hpv⟩ := hV
  refine H.enter Try.func54 Try.ntmps54 rfl rfl ?_; dsimp only [H.args]
  repeat' (first | (refine CL.seq ?_) | (refine CL.region ?_))
  refine RW.box rfl rfl (fun w1 hb1 hk1 hlt1 => ?_)
  have hb1' : w1.heap[w.heap.size]? = some (.cells #[.int .i64 x0.a, .int .i64 x0.b, .int .i64 x0.c, pv] verT (0, 0)) := hb1
  repeat' (first | (refine CL.seq ?_) | (refine CL.region ?_) | (refine CL.block ?_) | (refine Gt.nil ?_; refine RW.nilw [0, 1, 2, 5, 6, 7, 11, 30] ?_; dsimp only [H.keep, H.look, H.Fr.put, Nat.beq]) | (refine Gt.assign ?_; refine RW.y (Y.assign rfl) rfl ?_))
  refine CL.loopS [0, 1, 5, 6, 7] (fun k vals wr => ∃ i : Nat, vals = [v, vs nm, .pointer (some ⟨w.heap.size, 0, none⟩), .int .i64 0, .int .i64 (i : Int)] ∧ k = L.length - i ∧ i ≤ L.length ∧ idxI (hitR nm x0) L 0 = idxI (hitR nm x0) (L.drop i) i ∧ K0 w1 wr) L.length ⟨_, rfl, 0, rfl, rfl, Nat.zero_le _, rfl, Kept.refl _ _⟩ ?_
  rintro k vals wr ⟨i, rfl, rfl, hi, hix, hkr⟩
  dsimp only [List.zip, List.zipWith]
  have hKr := hk1.trans0 hkr
  have hvr := hv.keep0 hKr
  have hsr := hvr.1
  have hbr1 := hkr.at0 hb1'
  rcases Nat.lt_or_ge i L.length with hlt | hge
  · have hti : ((i : Int)).toNat = i := Int.toNat_natCast i
    have hmem : L.getD ((i : Int)).toNat default ∈ L := getD_mem default (by omega)
    obtain ⟨g, o, hsp, hrc⟩ := rowSpot hvr (i := (i : Int)) (by omega) (by omega)
    have hst := idxI_drop (hitR nm x0) L i hlt
    rw [← hti] at hst
    have hx := hf _ hmem
    have hD := hvr.2 _ hmem
    generalize hxd : L.getD ((i : Int)).toNat default = x at *
    rw [hti] at hst
    repeat' (first | (refine CL.seq ?_) | (refine CL.region ?_) | (refine CL.skip ?_) | (refine CL.condP rfl (fun _ => ?_) (fun _ => ?_) <;> try (exfalso; omega)) | (refine CL.block ?_) | (refine Gt.nil ?_; refine RW.nilw [0, 1, 2, 5, 6, 7, 11, 30] ?_; dsimp only [H.keep, H.look, H.Fr.put, Nat.beq]) | (refine Gt.move ?_; refine RW.y (Y.move rfl) rfl ?_) | (refine Gt.len ?_; (refine RW.y (Y.lenx rfl (by assumption)) rfl ?_)) | (refine Gt.lss ?_; refine RW.y (Y.lss rfl rfl) rfl ?_))
    refine CL.draw (fun w' => K0 wr w') (by kernel_rfl) (fun w3 hheap hk3 => ?_)
    have hS : K0 wr w3 := hk3
    obtain ⟨b1, hb1e⟩ : ∃ b : Bool, decide (x.name = nm) = b := ⟨_, rfl⟩
    skip
    skip
    cases b1
    · refine AW.take 0 rfl (by kernel_rfl) (by kernel_rfl) (by kernel_rfl) rfl (by assumption) (fun w hS => Y.move rfl) ?_
      refine AW.take 1 rfl (by kernel_rfl) (by kernel_rfl) (by kernel_rfl) rfl (by assumption) (fun w hS => Y.move rfl) ?_
      refine AW.take 2 rfl (by kernel_rfl) (by kernel_rfl) (by kernel_rfl) rfl (by assumption) (fun w hS => Y.idx rfl rfl (hsr.keep0 hS) (by omega) (by omega)) ?_
      refine AW.take 3 rfl (by kernel_rfl) (by kernel_rfl) (by kernel_rfl) rfl (by assumption) (fun w hS => Y.fieldAddr (congrArg (fun a => some (Value.pointer (some a))) hsp) (by rfl)) ?_
      refine AW.take 4 rfl (by kernel_rfl) (by kernel_rfl) (by kernel_rfl) rfl (by assumption) (fun w hS => Y.load1A rfl (hrc _ hS).name) ?_
      refine AW.take 5 rfl (by kernel_rfl) (by kernel_rfl) (by kernel_rfl) rfl (by assumption) (fun w hS => Y.move rfl) ?_
      refine AW.take 6 rfl (by kernel_rfl) (by kernel_rfl) (by kernel_rfl) rfl (by assumption) (fun w hS => Y.eqsE rfl rfl hb1e) ?_
      refine AW.take 7 rfl (by kernel_rfl) (by kernel_rfl) (by kernel_rfl) rfl (by assumption) (fun w hS => Y.move rfl) ?_
      refine AW.takeOff 8 rfl (by kernel_rfl) (by kernel_rfl) (by kernel_rfl) rfl rfl rfl rfl rfl (by assumption) ?_
      refine AW.takeOff 9 rfl (by kernel_rfl) (by kernel_rfl) (by kernel_rfl) rfl rfl rfl rfl rfl (by assumption) ?_
      refine AW.takeOff 10 rfl (by kernel_rfl) (by kernel_rfl) (by kernel_rfl) rfl rfl rfl rfl rfl (by assumption) ?_
      refine AW.takeOff 11 rfl (by kernel_rfl) (by kernel_rfl) (by kernel_rfl) rfl rfl rfl rfl rfl (by assumption) ?_
      refine AW.takeOff 12 rfl (by kernel_rfl) (by kernel_rfl) (by kernel_rfl) rfl rfl rfl rfl rfl (by assumption) ?_
      refine AW.takeOff 13 rfl (by kernel_rfl) (by kernel_rfl) (by kernel_rfl) rfl rfl rfl rfl rfl (by assumption) ?_
      refine AW.takeOff 14 rfl (by kernel_rfl) (by kernel_rfl) (by kernel_rfl) rfl rfl rfl rfl rfl (by assumption) ?_
      refine AW.takeOff 15 rfl (by kernel_rfl) (by kernel_rfl) (by kernel_rfl) rfl rfl rfl rfl rfl (by assumption) ?_
      refine AW.take 16 rfl (by kernel_rfl) (by kernel_rfl) (by kernel_rfl) rfl (by assumption) (fun w hS => by exact Y.pickF rfl rfl) ?_
      refine AW.donew [0, 1, 5, 6, 7, 30] (by kernel_rfl) ?_
      dsimp only [H.keep, H.look, H.Fr.put, Nat.beq]
      rw [hitR, hb1e] at hst
      repeat' (first | (refine CL.region ?_) | (refine CL.skip ?_) | (refine CL.condF rfl ?_) | (refine CL.done ?_) | (refine Nm.block ?_) | (refine Nm.then ?_) | (refine Gt.nil ?_; refine RW.nilw [0, 1, 2, 5, 6, 7, 11, 30] ?_; dsimp only [H.keep, H.look, H.Fr.put, Nat.beq]) | (refine Gt.move ?_; refine RW.y (Y.move rfl) rfl ?_) | (refine Gt.assign ?_; refine RW.y (Y.assign rfl) rfl ?_) | (refine Gt.add ?_; refine RW.y (Y.add64 rfl rfl (by omega) (by omega)) rfl ?_))
      exact ⟨L.length - (i + 1), _, rfl, rfl, rfl, by omega, i + 1, rfl, rfl, by omega, by rw [hix, hst]; rfl, hkr.trans0 hk3⟩
    · skip
      refine AW.take 0 rfl (by kernel_rfl) (by kernel_rfl) (by kernel_rfl) rfl (by assumption) (fun w hS => Y.move rfl) ?_
      refine AW.take 1 rfl (by kernel_rfl) (by kernel_rfl) (by kernel_rfl) rfl (by assumption) (fun w hS => Y.move rfl) ?_
      refine AW.take 2 rfl (by kernel_rfl) (by kernel_rfl) (by kernel_rfl) rfl (by assumption) (fun w hS => Y.idx rfl rfl (hsr.keep0 hS) (by omega) (by omega)) ?_
      refine AW.take 3 rfl (by kernel_rfl) (by kernel_rfl) (by kernel_rfl) rfl (by assumption) (fun w hS => Y.fieldAddr (congrArg (fun a => some (Value.pointer (some a))) hsp) (by rfl)) ?_
      refine AW.take 4 rfl (by kernel_rfl) (by kernel_rfl) (by kernel_rfl) rfl (by assumption) (fun w hS => Y.load1A rfl (hrc _ hS).name) ?_
      refine AW.take 5 rfl (by kernel_rfl) (by kernel_rfl) (by kernel_rfl) rfl (by assumption) (fun w hS => Y.move rfl) ?_
      refine AW.take 6 rfl (by kernel_rfl) (by kernel_rfl) (by kernel_rfl) rfl (by assumption) (fun w hS => Y.eqsE rfl rfl hb1e) ?_
      refine AW.take 7 rfl (by kernel_rfl) (by kernel_rfl) (by kernel_rfl) rfl (by assumption) (fun w hS => Y.move rfl) ?_
      refine AW.takeOn 8 rfl (by kernel_rfl) (by kernel_rfl) (by kernel_rfl) rfl rfl rfl rfl (by assumption) (fun w hS => Y.move rfl) ?_
      refine AW.takeOn 9 rfl (by kernel_rfl) (by kernel_rfl) (by kernel_rfl) rfl rfl rfl rfl (by assumption) (fun w hS => Y.move rfl) ?_
      refine AW.takeOn 10 rfl (by kernel_rfl) (by kernel_rfl) (by kernel_rfl) rfl rfl rfl rfl (by assumption) (fun w hS => Y.idx rfl rfl (hsr.keep0 hS) (by omega) (by omega)) ?_
      refine AW.takeOn 11 rfl (by kernel_rfl) (by kernel_rfl) (by kernel_rfl) rfl rfl rfl rfl (by assumption) (fun w hS => Y.fieldAddr (congrArg (fun a => some (Value.pointer (some a))) hsp) (by rfl)) ?_
      refine AW.takeOn 12 rfl (by kernel_rfl) (by kernel_rfl) (by kernel_rfl) rfl rfl rfl rfl (by assumption) (fun w hS => Y.loadN (cs := [_, _, _, _]) rfl rfl (hrc _ hS).ver) ?_
      refine AW.takeOn 13 rfl (by kernel_rfl) (by kernel_rfl) (by kernel_rfl) rfl rfl rfl rfl (by assumption) (fun w hS => Y.loadBlock rfl (hS.at0 hbr1) rfl) ?_
      refine AW.next 14 rfl (by kernel_rfl) ?_
      refine RW.on rfl rfl rfl ?_
      refine RW.fn rfl rfl ((refCmp _ _ x.v x0 w3 ⟨_, rfl, hD.1.keep0 hk3⟩ ⟨_, rfl, hpv.keep0 (hKr.trans0 hk3)⟩ hx.v fx).mono ?_)
      rintro e w4 ⟨hk4, rfl⟩
      refine RW.nil (Nm.then (rebase0 hS hk4 fun hS => ?_))
      obtain ⟨b2, hb2e⟩ : ∃ b : Bool, decide (cmpV x.v x0 = 0) = b := ⟨_, rfl⟩
      refine AW.takeOn 15 rfl (by kernel_rfl) (by kernel_rfl) (by kernel_rfl) rfl rfl rfl rfl (by assumption) (fun w hS => Y.eqiE rfl rfl hb2e) ?_
      refine AW.take 16 rfl (by kernel_rfl) (by kernel_rfl) (by kernel_rfl) rfl (by assumption) (fun w hS => by exact Y.pickT rfl rfl) ?_
      refine AW.donew [0, 1, 5, 6, 7, 30] (by kernel_rfl) ?_
      dsimp only [H.keep, H.look, H.Fr.put, Nat.beq]
      have hk34 := hk3.trans0 hk4
      rw [hitR, hb1e, hb2e] at hst
      cases b2
      · repeat' (first | (refine CL.region ?_) | (refine CL.skip ?_) | (refine CL.condF rfl ?_) | (refine CL.done ?_) | (refine Nm.block ?_) | (refine Nm.then ?_) | (refine Gt.nil ?_; refine RW.nilw [0, 1, 2, 5, 6, 7, 11, 30] ?_; dsimp only [H.keep, H.look, H.Fr.put, Nat.beq]) | (refine Gt.move ?_; refine RW.y (Y.move rfl) rfl ?_) | (refine Gt.assign ?_; refine RW.y (Y.assign rfl) rfl ?_) | (refine Gt.add ?_; refine RW.y (Y.add64 rfl rfl (by omega) (by omega)) rfl ?_))
        exact ⟨L.length - (i + 1), _, rfl, rfl, rfl, by omega, i + 1, rfl, rfl, by omega, by rw [hix, hst]; rfl, hkr.trans0 hk34⟩
      · repeat' (first | (refine CL.seq ?_) | (refine CL.region ?_) | (refine CL.condT rfl ?_) | (refine CL.ret ?_) | (refine Rt.then ?_) | (refine Rt.block ?_) | (refine Gt.nil ?_; refine RW.nilw [0, 1, 2, 5, 6, 7, 11, 30] ?_; dsimp only [H.keep, H.look, H.Fr.put, Nat.beq]) | (refine Gt.move ?_; refine RW.y (Y.move rfl) rfl ?_) | (refine Gt.assign ?_; refine RW.y (Y.assign rfl) rfl ?_))
        exact FQ.one rfl rfl rfl ⟨hKr.trans0 hk34, by rw [hix, hst]; rfl⟩
  · have hi : i = L.length := by omega
    subst hi
    rw [List.drop_length] at hix
    repeat' (first | (refine CL.seq ?_) | (refine CL.region ?_) | (refine CL.condP rfl (fun _ => ?_) (fun _ => ?_) <;> try (exfalso; omega)) | (refine CL.exit ?_) | (refine Ex.then ?_) | (refine Ex.hit ?_) | (refine CL.ret ?_) | (refine Gt.nil ?_; refine RW.nilw [0, 1, 2, 5, 6, 7, 11, 30] ?_; dsimp only [H.keep, H.look, H.Fr.put, Nat.beq]) | (refine Gt.move ?_; refine RW.y (Y.move rfl) rfl ?_) | (refine Gt.assign ?_; refine RW.y (Y.assign rfl) rfl ?_) | (refine Gt.len ?_; (refine RW.y (Y.lenx rfl (by assumption)) rfl ?_)) | (refine Gt.lss ?_; refine RW.y (Y.lss rfl rfl) rfl ?_))
    exact FQ.one rfl rfl rfl ⟨hKr, by rw [hix]; rfl⟩
end Go.Proofs.Ytlbegmpikggmlaa.Ne

namespace Go.Proofs.Ytlbegmpikggmlaa.Ne
open Go.RowKit H S Ve Sp
attribute [local irreducible] H.CL H.RW H.CW H.Yd H.thenK H.blockQ Go.Calls

/-- So many bytes from there. -/
def partB (b : List UInt8) (off n : Int) : List UInt8 := (b.drop (max off 0).toNat).take (min (max n 0) 64).toNat
theorem partB_len (b : List UInt8) (off n : Int) : (partB b off n).length ≤ 64 ∧ (partB b off n).length ≤ b.length := by
  simp only [partB, List.length_take, List.length_drop]
  omega
theorem own_bytes {w : World} {B : Nat} {u : Value} {n : Nat} {xs : List Value} {q : List UInt8} (h : w.ownsRow B u8T 1 u n xs) (hq : xs = bv q) : w.ownsRow B u8T 1 u q.length (bv q) := by
  subst hq
  have : n = q.length := by have := h.1; simp at this; omega
  subst this
  exact h
theorem bv_take (l : List UInt8) (k : Nat) : (bv l).take (k * 1) = bv (l.take k) := by rw [Nat.mul_one]; exact List.map_take.symm
theorem bv_drop (l : List UInt8) (k : Nat) : (bv l).drop (k * 1) = bv (l.drop k) := by rw [Nat.mul_one]; exact List.map_drop.symm
theorem netPart (v : Value) (b : List UInt8) (off n : Int) (w : World) (hs : Sl w 1 v b.length (bv b)) (hl : b.length ≤ 100000) : Calls Try.prog 32 #[v, .int .i64 off, .int .i64 n] w fun e w' => K0 w w' ∧ ∃ u, e = .returned u ∧ w'.ownsRow w.heap.size u8T 1 u (partB b off n).length (bv (partB b off n)) := by
  refine H.enter Try.func32 Try.ntmps32 rfl rfl ?_; dsimp only [H.args]
  repeat' (first | (refine CL.seq ?_) | (refine CL.region ?_) | (refine Gt.nil ?_; refine RW.nilw [0, 1, 2, 6] ?_; dsimp only [H.keep, H.look, H.Fr.put, Nat.beq]) | (refine Gt.move ?_; refine RW.y (Y.move rfl) rfl ?_) | (refine Gt.assign ?_; refine RW.y (Y.assign rfl) rfl ?_) | (refine Gt.call ?_; first | (refine RW.y (Y.max2 rfl rfl) rfl ?_) | (refine RW.y (Y.min2 rfl rfl) rfl ?_)) | (refine Gt.len ?_; (refine RW.y (Y.lenx rfl (by assumption)) rfl ?_)))
  refine RW.subl rfl rfl rfl hs (by omega) (by omega) (fun v1 hs1 hv1 => ?_)
  repeat' (first | (refine Gt.move ?_; refine RW.y (Y.move rfl) rfl ?_) | (refine Gt.call ?_; first | (refine RW.y (Y.max2 rfl rfl) rfl ?_) | (refine RW.y (Y.min3 rfl rfl rfl) rfl ?_)) | (refine Gt.len ?_; (refine RW.y (Y.lenx rfl (by assumption)) rfl ?_)) | (refine Gt.sub ?_; refine RW.y (Y.sub64 rfl rfl (by omega) (by omega)) rfl ?_))
  refine RW.subh rfl rfl rfl hs1 (by omega) (by omega) (fun v2 hs2 hv2 => ?_)
  rw [bv_drop, bv_take] at hs2
  refine RW.fn rfl rfl ((cloneB v2 _ _ w hs2 (bv_one _) (by omega)).mono ?_)
  rintro e w2 ⟨hk2, u, rfl, how⟩
  repeat' (first | (refine CL.ret ?_) | (refine Gt.nil ?_; refine RW.nilw [0, 1, 2, 6] ?_; dsimp only [H.keep, H.look, H.Fr.put, Nat.beq]) | (refine Gt.assign ?_; refine RW.y (Y.assign rfl) rfl ?_))
  refine FQ.one rfl rfl rfl ⟨hk2, u, rfl, own_bytes how (congrArg bv ?_)⟩
  rw [partB]
  rcases Int.le_total (max off 0) b.length with h | h
  · rw [show min (max off 0) (b.length : Int) = max off 0 from by omega]
    rcases Int.le_total (min (max n 0) 64) ((b.length : Int) - max off 0) with h2 | h2
    · rw [show min (min (max n 0) 64) ((b.length : Int) - max off 0) = min (max n 0) 64 from by omega]
    · rw [List.take_of_length_le (by rw [List.length_drop]; omega), List.take_of_length_le (by rw [List.length_drop]; omega)]
  · rw [List.drop_eq_nil_of_le (by omega), List.drop_eq_nil_of_le (by omega), List.take_nil, List.take_nil]
theorem refPart (v : Value) (b : List UInt8) (off n : Int) (w : World) (hs : Sl w 1 v b.length (bv b)) (hl : b.length ≤ 100000) : Calls Try.prog 37 #[v, .int .i64 off, .int .i64 n] w fun e w' => K0 w w' ∧ ∃ u, e = .returned u ∧ w'.ownsRow w.heap.size u8T 1 u (partB b off n).length (bv (partB b off n)) := by
  refine H.enter Try.func37 Try.ntmps37 rfl rfl ?_; dsimp only [H.args]
  repeat' (first | (refine CL.seq ?_) | (refine CL.region ?_) | (refine CL.skip ?_) | (refine CL.condP rfl (fun _ => ?_) (fun _ => ?_) <;> try (exfalso; omega)) | (refine CL.ret ?_) | (refine Gt.nil ?_; refine RW.nilw [0, 1, 2, 6, 15] ?_; dsimp only [H.keep, H.look, H.Fr.put, Nat.beq]) | (refine Gt.move ?_; refine RW.y (Y.move rfl) rfl ?_) | (refine Gt.assign ?_; refine RW.y (Y.assign rfl) rfl ?_) | (refine Gt.call ?_; first | (refine RW.y (Y.max2 rfl rfl) rfl ?_) | (refine RW.y (Y.min2 rfl rfl) rfl ?_)) | (refine Gt.len ?_; (refine RW.y (Y.lenx rfl (by assumption)) rfl ?_)) | (refine Gt.geq ?_; refine RW.y (Y.geq rfl rfl) rfl ?_))
  · rename_i h
    refine FQ.one rfl rfl rfl ⟨Kept.refl _ _, _, rfl, ?_⟩
    rw [partB, List.drop_eq_nil_of_le (by omega), List.take_nil]
    exact World.ownsRow_nil _ _ _ _
  · rename_i h
    refine RW.subl rfl rfl rfl hs (by omega) (by omega) (fun v1 hs1 hv1 => ?_)
    repeat' (first | (refine CL.seq ?_) | (refine CL.region ?_) | (refine Gt.nil ?_; refine RW.nilw [0, 1, 2, 6, 15] ?_; dsimp only [H.keep, H.look, H.Fr.put, Nat.beq]) | (refine Gt.move ?_; refine RW.y (Y.move rfl) rfl ?_) | (refine Gt.assign ?_; refine RW.y (Y.assign rfl) rfl ?_) | (refine Gt.call ?_; (refine RW.y (Y.min2 rfl rfl) rfl ?_)) | (refine Gt.len ?_; (refine RW.y (Y.lenx rfl (by assumption)) rfl ?_)))
    refine RW.subh rfl rfl rfl hs1 (by omega) (by omega) (fun v2 hs2 hv2 => ?_)
    rw [bv_drop, bv_take] at hs2
    refine RW.app (sz := 1) rfl rfl rfl rfl rfl (World.ownsRow_nil w w.heap.size u8T 1) hs2 (bv_one _) (by omega) (by omega) (by omega) (fun u w2 how hk2 hl2 => ?_)
    repeat' (first | (refine CL.ret ?_) | (refine Gt.nil ?_; refine RW.nilw [0, 1, 2, 6, 15] ?_; dsimp only [H.keep, H.look, H.Fr.put, Nat.beq]) | (refine Gt.assign ?_; refine RW.y (Y.assign rfl) rfl ?_))
    refine FQ.one rfl rfl rfl ⟨hk2.mono (fun k h => by cases h), u, rfl, own_bytes how ?_⟩
    rw [List.nil_append, partB]
    refine congrArg bv ?_
    rcases Int.le_total (min (max n 0) 64) ((b.length : Int) - max off 0) with h2 | h2
    · rw [show min (min (max n 0) 64) ((b.length - (max off 0).toNat : Nat) : Int) = min (max n 0) 64 from by omega]
    · rw [List.take_of_length_le (by rw [List.length_drop]; omega), List.take_of_length_le (by rw [List.length_drop]; omega)]
/-- A row's archive. -/
def arcOf (nm : T) (v : Ver) (R : List Rp) (A : List (List UInt8)) : Option (List UInt8) :=
  if 0 ≤ idxI (hitR nm v) R 0 ∧ idxI (hitR nm v) R 0 < A.length then some (A.getD (idxI (hitR nm v) R 0).toNat []) else none
theorem arc_at {w : World} {a : Value} {A : List (List UInt8 × Value)} (h : GA arK w a A) {i : Nat} (hi : i < A.length) : Sl w 1 a A.length (A.map (·.2)) ∧ Sl w 1 (A.getD i default).2 (A.getD i default).1.length (bv (A.getD i default).1) := by
  refine ⟨?_, h.2 _ (getD_mem default hi)⟩
  have h1 := h.1
  have e : ∀ A : List (List UInt8 × Value), A.flatMap arK.enc = A.map (·.2) := by
    intro A
    induction A with
    | nil => rfl
    | cons x A ih => rw [List.flatMap_cons, List.map_cons, ih]; rfl
  rw [e A] at h1
  exact h1
theorem idxI_ge {α : Type} (p : α → Bool) : ∀ (L : List α) (k : Nat), -1 ≤ idxI p L k
  | [], _ => by simp [idxI]
  | x :: L, k => by
    simp only [idxI]
    split
    · omega
    · exact idxI_ge p L (k + 1)
theorem idxI_lt {α : Type} (p : α → Bool) : ∀ (L : List α) (k : Nat), idxI p L k < (k : Int) + L.length ∨ idxI p L k = -1
  | [], _ => by simp [idxI]
  | x :: L, k => by
    simp only [idxI, List.length_cons]
    split
    · left; omega
    · rcases idxI_lt p L (k + 1) with h | h
      · left; omega
      · right; exact h
theorem refArc (u a V : Value) (R : List Rp) (A : List (List UInt8 × Value)) (nm : T) (x0 : Ver) (w : World) (hu : GA rwK w u R) (ha : GA arK w a A) (hf : ∀ x ∈ R, FitR x) (hV : VerAt w V x0) (fx : Fit x0) (hl : R.length ≤ 1000) : Calls Try.prog 36 #[u, a, vs nm, V] w fun e w' => K0 w w' ∧ ∃ v, e = .returned (.tuple #[v, .bool (arcOf nm x0 R (A.map (·.1))).isSome]) ∧ ∀ q, arcOf nm x0 R (A.map (·.1)) = some q → Sl w' 1 v q.length (bv q) := by
  obtain ⟨pv, rfl, hpv⟩ := hV
  refine H.enter Try.func36 Try.ntmps36 rfl rfl ?_; dsimp only [H.args]
  repeat' (first | (refine CL.seq ?_) | (refine CL.region ?_))
  refine RW.box rfl rfl (fun w1 hb1 hk1 hlt1 => ?_)
  have hb1' : w1.heap[w.heap.size]? = some (.cells #[.int .i64 x0.a, .int .i64 x0.b, .int .i64 x0.c, pv] verT (0, 0)) := hb1
  repeat' (first | (refine CL.seq ?_) | (refine CL.region ?_) | (refine Gt.nil ?_; refine RW.nilw [0, 1, 2, 3, 7, 8, 9, 10, 22] ?_; dsimp only [H.keep, H.look, H.Fr.put, Nat.beq]) | (refine Gt.move ?_; refine RW.y (Y.move rfl) rfl ?_) | (refine Gt.assign ?_; refine RW.y (Y.assign rfl) rfl ?_) | (refine Gt.load ?_; (refine RW.y (Y.loadBlock rfl (by assumption) rfl) rfl ?_)))
  refine RW.fn rfl rfl ((refFind u _ R nm x0 w1 (hu.keep0 hk1) hf ⟨pv, rfl, hpv.keep0 hk1⟩ fx (by omega)).mono ?_)
  rintro e w2 ⟨hk2, rfl⟩
  have hK := hk1.trans0 hk2
  have hge := idxI_ge (hitR nm x0) R 0
  have hlt := idxI_lt (hitR nm x0) R 0
  obtain ⟨i, hi⟩ : ∃ i, idxI (hitR nm x0) R 0 = i := ⟨_, rfl⟩
  have harc : arcOf nm x0 R (A.map (·.1)) = if 0 ≤ i ∧ i < A.length then some ((A.map (·.1)).getD i.toNat []) else none := by rw [arcOf, hi, List.length_map]
  rw [hi] at hge hlt
  rw [hi]
  have hsl : Sl w2 1 a A.length (A.map (·.2)) := by
    rcases Nat.eq_zero_or_pos A.length with h0 | h0
    · have : A = [] := List.eq_nil_of_length_eq_zero h0
      subst this; exact (ha.keep0 hK).1
    · exact (arc_at (ha.keep0 hK) h0).1
  rw [harc]
  repeat' (first | (refine CL.seq ?_) | (refine CL.region ?_) | (refine CL.skip ?_) | (refine CL.condP rfl (fun _ => ?_) (fun _ => ?_) <;> try (exfalso; omega)) | (refine CL.condT rfl ?_) | (refine CL.ret ?_) | (refine Gt.nil ?_; refine RW.nilw [0, 1, 2, 3, 7, 8, 9, 10, 22] ?_; dsimp only [H.keep, H.look, H.Fr.put, Nat.beq]) | (refine Gt.move ?_; refine RW.y (Y.move rfl) rfl ?_) | (refine Gt.guard ?_; first | (refine RW.part rfl rfl rfl (fun _ => ?_) (fun _ => ?_) <;> try (exfalso; omega)) | (refine RW.on rfl rfl rfl ?_) | (refine RW.off1 rfl rfl rfl rfl rfl ?_)) | (refine Gt.assign ?_; refine RW.y (Y.assign rfl) rfl ?_) | (refine Gt.lss ?_; refine RW.y (Y.lss rfl rfl) rfl ?_) | (refine Gt.len ?_; (refine RW.y (Y.lenx rfl (by assumption)) rfl ?_)) | (refine Gt.geq ?_; refine RW.y (Y.geq rfl rfl) rfl ?_) | (refine Gt.pick ?_; first | (refine RW.y (Y.pickT rfl rfl) rfl ?_) | (refine RW.y (Y.pickF rfl rfl) rfl ?_)) | (refine Gt.idx ?_; refine RW.elemM rfl rfl rfl rfl (by assumption) (by omega) (by omega) ?_))
  · rename_i h
    refine FQ.res (rs := [.tmp 8, .tmp 9]) (vs := [_, _]) rfl rfl ⟨rfl, rfl, trivial⟩ rfl ⟨hK, .slice none 0 0, ?_, fun q hq => ?_⟩
    · rw [if_neg (by omega)]; rfl
    · rw [if_neg (by omega)] at hq; cases hq
  · rename_i h h2
    refine FQ.res (rs := [.tmp 8, .tmp 9]) (vs := [_, _]) rfl rfl ⟨rfl, rfl, trivial⟩ rfl ⟨hK, .slice none 0 0, ?_, fun q hq => ?_⟩
    · rw [if_neg (by omega)]; rfl
    · rw [if_neg (by omega)] at hq; cases hq
  · rename_i h h2
    have hi2 : i.toNat < A.length := by omega
    refine FQ.res (rs := [.tmp 8, .tmp 9]) (vs := [_, _]) rfl rfl ⟨rfl, rfl, trivial⟩ rfl ⟨hK, (A.getD i.toNat default).2, ?_, fun q hq => ?_⟩
    · rw [if_pos (by omega)]; rfl
    · rw [if_pos (by omega)] at hq
      simp only [Option.some.injEq] at hq
      rw [getD_map (·.1) default [] A _ hi2] at hq
      rw [← hq]
      exact (arc_at (ha.keep0 hK) hi2).2
end Go.Proofs.Ytlbegmpikggmlaa.Ne

namespace Go.Proofs.Ytlbegmpikggmlaa.Ne
open Go.RowKit H S Ve Sp
attribute [local irreducible] H.CL H.RW H.CW H.Yd H.thenK H.blockQ Go.Calls

abbrev netT : TypeId := 86
abbrev fltT : TypeId := 51
def fltC (x : Int × Int) : List Value := [.int .i64 x.1, .int .i64 x.2]
/-- A net: where it lies, its rows, archives, faults, how many Gets there were. -/
structure Nt where
  g : Nat
  u : Value
  a : Value
  q : Value
  R : List Rp
  A : List (List UInt8 × Value)
  F : List (Int × Int)
  c : Nat
/-- The blocks that it may write; those that it reads beside. -/
def Nt.Wr (n : Nt) (k : Nat) : Prop := k = n.g ∨ n.q.ownBlock = some k
def Nt.Rd (n : Nt) (k : Nat) : Prop := (live n.u = some k ∨ ∃ x ∈ n.R, x.A k) ∨ (live n.a = some k ∨ ∃ y ∈ n.A, live y.2 = some k)
structure NetAt (ty : TypeId) (w : World) (n : Nt) : Prop where
  at_ : w.heap[n.g]? = some (.cells #[n.u, n.a, n.q, .int .i64 (n.c : Int)] ty (0, 0))
  rows : GA rwK w n.u n.R
  arcs : GA arK w n.a n.A
  flt : Tl w 0 fltT 2 n.q n.F.length (n.F.flatMap fltC)
  sep : ∀ k, n.Wr k → ¬ n.Rd k
  qg : n.q.ownBlock ≠ some n.g
  fit : ∀ x ∈ n.R, FitR x
  len : ∀ y ∈ n.A, y.1.length ≤ 30000
  rl : n.R.length ≤ 100
  al : n.A.length ≤ 100
theorem NetAt.keep {ty : TypeId} {S : Nat → Prop} {w w' : World} {n : Nt} (h : NetAt ty w n) (k : Kept S w w') (hS : ∀ k, k < w.heap.size → (n.Wr k ∨ n.Rd k) → ¬ S k) : NetAt ty w' n :=
  ⟨k.at h.at_ (hS _ (lt_of_at h.at_) (.inl (.inl rfl))), GA.keep h.rows k fun g hl hg => hS g hl (.inr (.inl hg)), GA.keep h.arcs k fun g hl hg => hS g hl (.inr (.inr hg)), h.flt.keep k fun g hg => hS g (h.flt.lt hg).2 (.inl (.inr hg)), h.sep, h.qg, h.fit, h.len, h.rl, h.al⟩
theorem NetAt.keep0 {ty : TypeId} {w w' : World} {n : Nt} (h : NetAt ty w n) (k : K0 w w') : NetAt ty w' n := h.keep k fun _ _ _ c => c
theorem NetAt.lt {ty : TypeId} {w : World} {n : Nt} (h : NetAt ty w n) (k : Nat) (hk : n.Wr k ∨ n.Rd k) : k < w.heap.size := by
  rcases hk with (rfl | hk) | (hk | ⟨x, hx, hk⟩) | (hk | ⟨y, hy, hk⟩)
  · exact lt_of_at h.at_
  · exact (h.flt.lt hk).2
  · exact h.rows.1.lt hk
  · exact rwK.lt w x k (h.rows.2 x hx) hk
  · exact h.arcs.1.lt hk
  · exact arK.lt w y k (h.arcs.2 y hy) hk
/-- A net turned into another one: what may have been written, what is written and read from now on. -/
structure Turned (ty : TypeId) (w w' : World) (n n' : Nt) : Prop where
  at_ : NetAt ty w' n'
  g : n'.g = n.g
  kept : Kept n.Wr w w'
  wr : ∀ k, n'.Wr k → n.Wr k ∨ w.heap.size ≤ k
  rd : ∀ k, n'.Rd k → n.Rd k ∨ w.heap.size ≤ k
theorem GI.snoc {α : Type} {K : Dp α} {w w' : World} {B : Nat} {e : TypeId} {u u' : Value} {L : List α} {y : α} (h : GI K w B e u L) (how : w'.ownsRow B e K.sz u' (L.length + 1) (L.flatMap K.enc ++ K.enc y)) (k : Kept (fun k => u.ownBlock = some k) w w') (hl : Lies w u u') (hy : K.D w y) (hR : ∀ g, K.R y g → u.ownBlock ≠ some g) : GI K w' B e u' (L ++ [y]) := by
  refine ⟨?_, fun x hx => ?_⟩
  · have e1 : (L ++ [y]).flatMap K.enc = L.flatMap K.enc ++ K.enc y := by simp
    rw [List.length_append, List.length_singleton, e1]
    exact how
  · have key : K.D w x ∧ ∀ g, K.R x g → u.ownBlock ≠ some g := by
      rcases List.mem_append.1 hx with hx | hx
      · exact h.2 x hx
      · rw [List.mem_singleton.1 hx]; exact ⟨hy, hR⟩
    refine ⟨K.keep _ w w' x key.1 k fun g _ hg c => key.2 g hg c, fun g hg c => ?_⟩
    rcases hl g c with h1 | h1
    · exact key.2 g hg h1
    · have := K.lt w x g key.1 hg; omega
theorem ar_enc (A : List (List UInt8 × Value)) : A.flatMap arK.enc = A.map (·.2) := by
  induction A with
  | nil => rfl
  | cons x A ih => rw [List.flatMap_cons, List.map_cons, ih]; rfl

theorem netNew (u a : Value) (R : List Rp) (A : List (List UInt8 × Value)) (w : World) (hu : GA rwK w u R) (ha : GA arK w a A) (hf : ∀ x ∈ R, FitR x) (hA : ∀ y ∈ A, y.1.length ≤ 30000) (hl : R.length ≤ 100) (hal : A.length ≤ 100) : Calls Try.prog 10 #[u, a] w fun e w' => K0 w w' ∧ ∃ n : Nt, e = .returned (.pointer (some ⟨n.g, 0, none⟩)) ∧ NetAt netT w' n ∧ n.R.map Rp.val = R.map Rp.val ∧ n.A.map (·.1) = A.map (·.1) ∧ n.F = [] ∧ n.c = 0 ∧ n.q = .slice none 0 0 ∧ w.heap.size ≤ n.g ∧ (∀ k, n.Rd k → w.heap.size ≤ k ∨ ∃ x ∈ R, x.A k) := by
  have hsl : Sl w 1 a A.length (A.map (·.2)) := by rw [← ar_enc]; exact ha.1
  refine H.enter Try.func10 Try.ntmps10 rfl rfl ?_; dsimp only [H.args]
  repeat' (first | (refine CL.seq ?_) | (refine CL.region ?_) | (refine Gt.nil ?_; refine RW.nilw [0, 1, 4, 5, 7, 12, 13, 14, 15] ?_; dsimp only [H.keep, H.look, H.Fr.put, Nat.beq]) | (refine Gt.move ?_; refine RW.y (Y.move rfl) rfl ?_) | (refine Gt.assign ?_; refine RW.y (Y.assign rfl) rfl ?_))
  refine RW.fn rfl rfl ((rowsOf u R w hu hl hf).mono ?_)
  rintro e w1 ⟨hk1, u', R', rfl, hR', hval, hf', hRA⟩
  have hs1 := (Sl.of_own hR'.1)
  obtain ⟨pu, cu, rfl, _⟩ := hs1.shape
  refine RW.y (Y.build (ps := [(0, _)]) (l := [_]) (c := #[.slice pu R'.length cu, .slice none 0 0, .slice none 0 0, .int .i64 0]) rfl rfl) rfl ?_
  refine RW.box rfl rfl (fun w2 hb2 hk2 hlt2 => ?_)
  have hb2' : w2.heap[w1.heap.size]? = some (.cells #[.slice pu R'.length cu, .slice none 0 0, .slice none 0 0, .int .i64 0] netT (0, 0)) := hb2
  have hz1 := hk1.size
  have hz2 := hk2.size
  have hs2 := hsl.keep0 (hk1.trans0 hk2)
  repeat' (first | (refine CL.seq ?_) | (refine CL.region ?_) | (refine CL.block ?_) | (refine Gt.nil ?_; refine RW.nilw [0, 1, 4, 5, 7, 12, 13, 14, 15] ?_; dsimp only [H.keep, H.look, H.Fr.put, Nat.beq]) | (refine Gt.move ?_; refine RW.y (Y.move rfl) rfl ?_) | (refine Gt.assign ?_; refine RW.y (Y.assign rfl) rfl ?_) | (refine Gt.len ?_; (refine RW.y (Y.lenx rfl (by assumption)) rfl ?_)))
  refine CL.loopS [5, 12, 13, 14] (fun k vals wr => ∃ (i : Nat) (v : Value) (L : List (List UInt8 × Value)), vals = [.pointer (some ⟨w1.heap.size, 0, none⟩), a, .int .i64 (A.length : Int), .int .i64 (i : Int)] ∧ k = A.length - i ∧ i ≤ A.length ∧ wr.heap[w1.heap.size]? = some (.cells #[.slice pu R'.length cu, v, .slice none 0 0, .int .i64 0] netT (0, 0)) ∧ GI arK wr w2.heap.size arcT v L ∧ L.map (·.1) = (A.take i).map (·.1) ∧ (∀ y ∈ L, ∀ g, live y.2 = some g → w2.heap.size ≤ g) ∧ Kept (fun k => k = w1.heap.size) w2 wr) A.length ⟨_, rfl, 0, _, [], rfl, rfl, Nat.zero_le _, hb2', GI.nil _ _ _ _, rfl, (fun y hy => by cases hy), Kept.refl _ _⟩ ?_
  rintro k vals wr ⟨i, v, L, rfl, rfl, hi, hbr, hL, hLA, hLg, hKr⟩
  dsimp only [List.zip, List.zipWith]
  have hti : ((i : Int)).toNat = i := Int.toNat_natCast i
  have hlen : L.length = i := by have := congrArg List.length hLA; simp at this; omega
  have hAl : ∀ k, (live a = some k ∨ ∃ y ∈ A, live y.2 = some k) → k < w.heap.size := fun k hk => hk.elim (fun h => ha.1.lt h) fun ⟨y, hy, h⟩ => arK.lt w y k (ha.2 y hy) h
  have har : GA arK wr a A := GA.keep (ha.keep0 (hk1.trans0 hk2)) hKr fun g _ hg c => by have := hAl g hg; omega
  have hsr : Sl wr 1 a A.length (A.map (·.2)) := by rw [← ar_enc]; exact har.1
  rcases Nat.lt_or_ge i A.length with hlt | hge
  · have hmem : A.getD ((i : Int)).toNat default ∈ A := getD_mem default (by omega)
    have hD := har.2 _ hmem
    have hx := hA _ hmem
    have htk : (A.take (i + 1)).map (·.1) = (A.take i).map (·.1) ++ [(A.getD ((i : Int)).toNat default).1] := by rw [take_snoc default A i hlt, List.map_append, hti]; rfl
    repeat' (first | (refine CL.seq ?_) | (refine CL.region ?_) | (refine CL.skip ?_) | (refine CL.condP rfl (fun _ => ?_) (fun _ => ?_) <;> try (exfalso; omega)) | (refine CL.block ?_) | (refine Gt.nil ?_; refine RW.nilw [0, 1, 4, 5, 7, 12, 13, 14, 15] ?_; dsimp only [H.keep, H.look, H.Fr.put, Nat.beq]) | (refine Gt.assign ?_; refine RW.y (Y.assign rfl) rfl ?_) | (refine Gt.lss ?_; refine RW.y (Y.lss rfl rfl) rfl ?_) | (refine Gt.idx ?_; refine RW.elemM rfl rfl rfl rfl (by assumption) (by omega) (by omega) ?_))
    generalize hxd : A.getD ((i : Int)).toNat default = x at *
    have hvn : ∀ g, v.ownBlock = some g → g ≠ w1.heap.size := fun g hg => by have := (hL.lt g hg).1; omega
    have hne : ¬ (v.ownBlock = some w1.heap.size) := fun c => hvn _ c rfl
    refine CL.drawz (fun w' => Kept (fun k => v.ownBlock = some k) wr w') (fun j => Nat.beq j 11) (by kernel_rfl) (fun w3 hheap hk3 => ?_)
    have hS : Kept (fun k => v.ownBlock = some k) wr w3 := hk3.of0
    have hzr := hKr.size
    have hz3 := hk3.size
    skip
    refine AL.take 0 [9, 10, 11] rfl (by kernel_rfl) (by kernel_rfl) (by kernel_rfl) (by kernel_rfl) rfl (by assumption) (fun w hS => Y.move rfl) ?_
    refine AL.take 1 [2, 3, 4, 8, 9, 10, 11] rfl (by kernel_rfl) (by kernel_rfl) (by kernel_rfl) (by kernel_rfl) rfl (by assumption) (fun w hS => Y.move rfl) ?_
    refine AL.take 2 [3, 4, 8, 9, 10, 11] rfl (by kernel_rfl) (by kernel_rfl) (by kernel_rfl) (by kernel_rfl) rfl (by assumption) (fun w hS => Y.nilck rfl) ?_
    refine AL.take 3 [4, 8, 9, 10, 11] rfl (by kernel_rfl) (by kernel_rfl) (by kernel_rfl) (by kernel_rfl) rfl (by assumption) (fun w hS => Y.fieldAddr rfl (by rfl)) ?_
    refine AL.take 4 [8, 9, 10, 11] rfl (by kernel_rfl) (by kernel_rfl) (by kernel_rfl) (by kernel_rfl) rfl (by assumption) (fun w hS => Y.loadB rfl (hS.at hbr hne) rfl) ?_
    refine AL.take 5 [6, 7, 8, 9, 10, 11] rfl (by kernel_rfl) (by kernel_rfl) (by kernel_rfl) (by kernel_rfl) rfl (by assumption) (fun w hS => Y.move rfl) ?_
    refine AL.next 6 rfl (by kernel_rfl) ?_
    refine RW.fn rfl rfl ((cloneB x.2 _ _ w3 (arK.keep0 hD hk3) (bv_one _) (by omega)).mono ?_)
    rintro e w4 ⟨hk4, u3, rfl, how3⟩
    have hk34 := hk3.trans0 hk4
    have hz4 := hk4.size
    have hS : Kept (fun k => v.ownBlock = some k) wr w4 := hk34.of0
    have hs3 := Sl.of_own how3
    obtain ⟨p3, c3, rfl, _⟩ := hs3.shape
    refine RW.nil (Nm.then ⟨hS, ?_⟩)
    skip
    refine AL.next 7 rfl (by kernel_rfl) ?_
    refine RW.build1 rfl rfl rfl rfl (fun w5 hb5 hk5 hlt5 => ?_)
    have hk35 := hk34.trans0 hk5
    have hS : Kept (fun k => v.ownBlock = some k) wr w5 := hk35.of0
    have hs5 := sl_new (sz := 1) hb5 rfl (by decide)
    refine RW.nil (Nm.then ⟨hS, ?_⟩)
    skip
    refine AL.next 8 rfl (by kernel_rfl) ?_
    have hL5 := hL.keep0 hk35
    refine RW.app (sz := 1) rfl rfl rfl rfl rfl hL5.1 hs5 (fun z hz => by simp [Value.cells] at hz; rw [hz]; rfl) (by omega) (by omega) (by omega) (fun v6 w6 how6 hk6 hl6 => ?_)
    have hS : Kept (fun k => v.ownBlock = some k) wr w6 := hk35.of0.trans hk6 fun k h => .inl h
    have hL6 : GI arK w6 w2.heap.size arcT v6 (L ++ [(x.1, .slice p3 x.1.length c3)]) := GI.snoc hL5 how6 hk6 hl6 (hs3.keep0 hk5) (fun g hg c => by have := (how3.lt g (live_own hg)).1; have := (hL.lt g c).2; omega)
    refine RW.nil (Nm.then ⟨hS, ?_⟩)
    refine AL.take 9 [10, 11] rfl (by kernel_rfl) (by kernel_rfl) (by kernel_rfl) (by kernel_rfl) rfl (by assumption) (fun w hS => Y.nilck rfl) ?_
    refine AL.take 10 [11] rfl (by kernel_rfl) (by kernel_rfl) (by kernel_rfl) (by kernel_rfl) rfl (by assumption) (fun w hS => Y.fieldAddr rfl (by rfl)) ?_
    refine AL.last 11 rfl (by kernel_rfl) rfl ?_
    have hbr6 := hS.at hbr hne
    refine RW.storeB rfl rfl hL6.ga.1.one hbr6 (by simp) (fun w7 hb7 hk7 => ?_)
    have hL7 : GI arK w7 w2.heap.size arcT v6 (L ++ [(x.1, .slice p3 x.1.length c3)]) := hL6.keep hk7 fun g hgl h c => by
      rcases h with h | ⟨y, hy, h⟩
      · have := (hL6.lt g h).1; omega
      · rcases List.mem_append.1 hy with hy | hy
        · have := hLg y hy g h; omega
        · rw [List.mem_singleton.1 hy] at h; have := (how3.lt g (live_own h)).1; omega
    refine RW.nil (Nm.then ⟨trivial, ?_⟩)
    skip
    refine AL.donew [5, 12, 13, 14] (by kernel_rfl) ?_
    dsimp only [H.keep, H.look, H.Fr.put, Nat.beq]
    repeat' (first | (refine CL.region ?_) | (refine CL.done ?_) | (refine Nm.block ?_) | (refine Nm.then ?_) | (refine Gt.nil ?_; refine RW.nilw [0, 1, 4, 5, 7, 12, 13, 14, 15] ?_; dsimp only [H.keep, H.look, H.Fr.put, Nat.beq]) | (refine Gt.move ?_; refine RW.y (Y.move rfl) rfl ?_) | (refine Gt.add ?_; refine RW.y (Y.add64 rfl rfl (by omega) (by omega)) rfl ?_))
    exact ⟨A.length - (i + 1), _, rfl, rfl, rfl, by omega, i + 1, v6, _, rfl, rfl, by omega, hb7, hL7, by rw [List.map_append, hLA, htk]; rfl, fun y hy g h => (List.mem_append.1 hy).elim (fun hy => hLg y hy g h) fun hy => by rw [List.mem_singleton.1 hy] at h; have := (how3.lt g (live_own h)).1; omega, (hKr.trans hS fun k h => .inr (hL.lt k h).1).trans hk7 fun k h => .inl h⟩
  · have hi : i = A.length := by omega
    subst hi
    repeat' (first | (refine CL.seq ?_) | (refine CL.region ?_) | (refine CL.condP rfl (fun _ => ?_) (fun _ => ?_) <;> try (exfalso; omega)) | (refine CL.exit ?_) | (refine Ex.then ?_) | (refine Ex.hit ?_) | (refine CL.ret ?_) | (refine Gt.nil ?_; refine RW.nilw [0, 1, 4, 5, 7, 12, 13, 14, 15] ?_; dsimp only [H.keep, H.look, H.Fr.put, Nat.beq]) | (refine Gt.move ?_; refine RW.y (Y.move rfl) rfl ?_) | (refine Gt.assign ?_; refine RW.y (Y.assign rfl) rfl ?_) | (refine Gt.lss ?_; refine RW.y (Y.lss rfl rfl) rfl ?_))
    rw [List.take_length] at hLA
    have hRr : GA rwK wr (.slice pu R'.length cu) R' := GA.keep (hR'.ga.keep0 hk2) hKr fun g _ hg c => by
      rcases hg with hg | ⟨x, hx, hg⟩
      · have := hR'.ga.1.lt hg; omega
      · have := rwK.lt w1 x g (hR'.2 x hx).1 hg; omega
    refine FQ.one rfl rfl rfl ⟨((hk1.trans0 hk2)).trans hKr fun k h => .inr (by omega), ⟨w1.heap.size, .slice pu R'.length cu, v, .slice none 0 0, R', L, [], 0⟩, rfl, ⟨hbr, hRr, hL.ga, Tl.nil _ _ _ _, fun k hk hr => ?_, (fun c => by cases c), hf', fun y hy => ?_, by show R'.length ≤ 100; have := congrArg List.length hval; simp at this; omega, by show L.length ≤ 100; omega⟩, hval, hLA, rfl, rfl, rfl, hz1, fun k hk => ?_⟩
    · have hk' : k = w1.heap.size := hk.elim id fun h => by cases h
      rcases hr with (h | ⟨x, hx, h⟩) | (h | ⟨y, hy, h⟩)
      · have := hR'.ga.1.lt h; omega
      · have := rwK.lt w1 x k (hR'.2 x hx).1 h; omega
      · have := (hL.lt k (live_own h)).1; omega
      · have := hLg y hy k h; omega
    · have : y.1 ∈ A.map (·.1) := hLA ▸ List.mem_map.2 ⟨y, hy, rfl⟩
      obtain ⟨z, hz, h⟩ := List.mem_map.1 this
      rw [← h]; exact hA z hz
    · rcases hk with (h | ⟨x, hx, h⟩) | (h | ⟨y, hy, h⟩)
      · exact .inl (hR'.1.lt k (live_own h)).1
      · exact (hRA x hx k h).symm.imp id id
      · left; have := (hL.lt k (live_own h)).1; omega
      · left; have := hLg y hy k h; omega
theorem netCount (n : Nt) (w : World) (h : NetAt netT w n) : Calls Try.prog 16 #[.pointer (some ⟨n.g, 0, none⟩)] w fun e w' => w = w' ∧ e = .returned (.int .i64 (n.c : Int)) := by
  refine H.enter Try.func16 Try.ntmps16 rfl rfl ?_; dsimp only [H.args]
  have hb := h.at_
  repeat' (first | (refine CL.seq ?_) | (refine CL.region ?_) | (refine CL.ret ?_) | (refine Gt.nil ?_; refine RW.nilw [0, 2] ?_; dsimp only [H.keep, H.look, H.Fr.put, Nat.beq]) | (refine Gt.assign ?_; refine RW.y (Y.assign rfl) rfl ?_) | (refine Gt.move ?_; refine RW.y (Y.move rfl) rfl ?_) | (refine Gt.nilck ?_; refine RW.y (Y.nilck rfl) rfl ?_) | (refine Gt.fieldAddr ?_; refine RW.y (Y.fieldAddr rfl (by rfl)) rfl ?_) | (refine Gt.load ?_; refine RW.y (Y.loadB rfl (by assumption) rfl) rfl ?_))
  exact FQ.one rfl rfl rfl ⟨rfl, rfl⟩
theorem netRows (n : Nt) (w : World) (h : NetAt netT w n) : Calls Try.prog 20 #[.pointer (some ⟨n.g, 0, none⟩)] w fun e w' => K0 w w' ∧ ∃ u R', e = .returned u ∧ GA rwK w' u R' ∧ R'.map Rp.val = n.R.map Rp.val := by
  refine H.enter Try.func20 Try.ntmps20 rfl rfl ?_; dsimp only [H.args]
  have hb := h.at_
  repeat' (first | (refine CL.seq ?_) | (refine CL.region ?_) | (refine Gt.nil ?_; refine RW.nilw [0, 2] ?_; dsimp only [H.keep, H.look, H.Fr.put, Nat.beq]) | (refine Gt.assign ?_; refine RW.y (Y.assign rfl) rfl ?_) | (refine Gt.move ?_; refine RW.y (Y.move rfl) rfl ?_) | (refine Gt.nilck ?_; refine RW.y (Y.nilck rfl) rfl ?_) | (refine Gt.fieldAddr ?_; refine RW.y (Y.fieldAddr rfl (by rfl)) rfl ?_) | (refine Gt.load ?_; refine RW.y (Y.loadB rfl (by assumption) rfl) rfl ?_))
  refine RW.fn rfl rfl ((rowsOf n.u n.R w h.rows h.rl h.fit).mono ?_)
  rintro e w1 ⟨hk1, u', R', rfl, hR', hval, hf', hRA⟩
  repeat' (first | (refine CL.ret ?_) | (refine Gt.nil ?_; refine RW.nilw [0, 2] ?_; dsimp only [H.keep, H.look, H.Fr.put, Nat.beq]) | (refine Gt.assign ?_; refine RW.y (Y.assign rfl) rfl ?_))
  exact FQ.one rfl rfl rfl ⟨hk1, u', R', rfl, hR'.ga, hval⟩
/-- A net whose block was turned. -/
theorem NetAt.put {ty : TypeId} {w w' : World} {n n' : Nt} (h : NetAt ty w n) (k : Kept n.Wr w w') (hb : w'.heap[n.g]? = some (.cells #[n'.u, n'.a, n'.q, .int .i64 (n'.c : Int)] ty (0, 0))) (hg : n'.g = n.g) (hr : GA rwK w' n'.u n'.R) (ha : n'.a = n.a) (hA : n'.A = n.A) (hq : Tl w' 0 fltT 2 n'.q n'.F.length (n'.F.flatMap fltC)) (hfit : ∀ x ∈ n'.R, FitR x) (hrl : n'.R.length ≤ 100) (hwr : ∀ k, n'.q.ownBlock = some k → n.q.ownBlock = some k ∨ w.heap.size ≤ k) (hrd : ∀ k, (live n'.u = some k ∨ ∃ x ∈ n'.R, x.A k) → n.Rd k ∨ w.heap.size ≤ k) (hsep : ∀ k, n'.q.ownBlock = some k → w.heap.size ≤ k → ¬ (live n'.u = some k ∨ ∃ x ∈ n'.R, x.A k)) : Turned ty w w' n n' := by
  have hlt := h.lt
  have hrd' : ∀ k, n'.Rd k → n.Rd k ∨ w.heap.size ≤ k := fun k hk => hk.elim (hrd k) fun hk => .inl (.inr (by rw [← ha, ← hA]; exact hk))
  have hwr' : ∀ k, n'.Wr k → n.Wr k ∨ w.heap.size ≤ k := fun k hk => hk.elim (fun hk => .inl (.inl (hk.trans hg))) fun hk => (hwr k hk).imp .inr id
  refine ⟨⟨by rw [hg]; exact hb, hr, by rw [ha, hA]; exact GA.keep h.arcs k fun g hl hg c => h.sep g c (.inr hg), hq, fun k hk hd => ?_, fun c => ?_, hfit, by rw [hA]; exact h.len, hrl, by rw [hA]; exact h.al⟩, hg, k, hwr', hrd'⟩
  · rcases hwr' k hk with h1 | h1
    · rcases hrd' k hd with h2 | h2
      · exact h.sep k h1 h2
      · have := hlt k (.inl h1); omega
    · rcases hk with rfl | hk
      · have := hlt n.g (.inl (.inl rfl)); rw [hg] at h1; omega
      · rcases hd with hd | hd
        · exact hsep k hk h1 hd
        · have := hlt k (.inr (.inr (by rw [← ha, ← hA]; exact hd))); omega
  · rw [hg] at c
    rcases hwr n.g c with h1 | h1
    · exact h.qg h1
    · have := hlt n.g (.inl (.inl rfl)); omega
theorem netSet (n : Nt) (u : Value) (R : List Rp) (w : World) (h : NetAt netT w n) (hu : GA rwK w u R) (hf : ∀ x ∈ R, FitR x) (hl : R.length ≤ 100) (hR : ∀ k, (∃ x ∈ R, x.A k) → ¬ n.Wr k) : Calls Try.prog 17 #[.pointer (some ⟨n.g, 0, none⟩), u] w fun e w' => e = .returned (.tuple #[]) ∧ ∃ u' R', R'.map Rp.val = R.map Rp.val ∧ NetAt netT w' { n with u := u', R := R' } ∧ Kept n.Wr w w' ∧ (∀ k, ({ n with u := u', R := R' } : Nt).Rd k → n.Rd k ∨ w.heap.size ≤ k ∨ ∃ x ∈ R, x.A k) := by
  refine H.enter Try.func17 Try.ntmps17 rfl rfl ?_; dsimp only [H.args]
  repeat' (first | (refine CL.region ?_) | (refine Gt.move ?_; refine RW.y (Y.move rfl) rfl ?_))
  refine RW.fn rfl rfl ((rowsOf u R w hu hl hf).mono ?_)
  rintro e w1 ⟨hk1, u', R', rfl, hR', hval, hf', hRA⟩
  have hb := hk1.at0 h.at_
  have h1 := h.keep0 hk1
  repeat' (first | (refine Gt.nilck ?_; refine RW.y (Y.nilck rfl) rfl ?_) | (refine Gt.fieldAddr ?_; refine RW.y (Y.fieldAddr rfl (by rfl)) rfl ?_))
  refine RW.storeB rfl rfl hR'.ga.1.one hb (by simp) (fun w2 hb2 hk2 => ?_)
  repeat' (first | (refine CL.done ?_) | (refine Gt.nil ?_; refine RW.nilw [0, 1] ?_; dsimp only [H.keep, H.look, H.Fr.put, Nat.beq]))
  have hlt := lt_of_at h.at_
  have hRn : ∀ x ∈ R', ∀ g, x.A g → w.heap.size ≤ g ∨ ∃ x ∈ R, x.A g := fun x hx g hg => (hRA x hx g hg).symm
  have hk : Kept n.Wr w w2 := hk1.of0.trans hk2 fun k h => .inl (.inl h)
  have hnr : ∀ k, (live u' = some k ∨ ∃ x ∈ R', x.A k) → w.heap.size ≤ k ∨ ∃ x ∈ R, x.A k := fun k hk => hk.elim (fun hk => .inl (hR'.1.lt k (live_own hk)).1) fun ⟨x, hx, hg⟩ => hRn x hx k hg
  have hgr : GA rwK w2 u' R' := GA.keep hR'.ga hk2 fun g _ hg c => (hnr g hg).elim (fun h => by omega) fun h => hR g h (.inl c)
  refine FQ.norm (FQ.none rfl rfl ⟨rfl, u', R', hval, ⟨hb2, hgr, GA.keep h1.arcs hk2 fun g _ hg c => h.sep g (.inl c) (.inr hg), h1.flt.keep hk2 fun g hg c => h.qg (by rw [hg, c]), fun k hk hd => ?_, h.qg, hf', h.len, by show R'.length ≤ 100; have := congrArg List.length hval; simp at this; omega, h.al⟩, hk, fun k hd => ?_⟩)
  · rcases hd with hd | hd
    · rcases hnr k hd with h2 | h2
      · have := h.lt k (.inl hk); omega
      · exact hR k h2 hk
    · exact h.sep k hk (.inr hd)
  · rcases hd with hd | hd
    · exact .inr (hnr k hd)
    · exact .inl (.inr hd)
end Go.Proofs.Ytlbegmpikggmlaa.Ne

namespace Go.Proofs.Ytlbegmpikggmlaa.Ne
open Go.RowKit H S Ve Sp
attribute [local irreducible] H.CL H.RW H.CW H.Yd H.thenK H.blockQ Go.Calls

theorem flt_ones (F : List (Int × Int)) : ∀ z ∈ F.flatMap fltC, z.oneCell' = true := by
  intro z hz
  obtain ⟨x, _, h⟩ := List.mem_flatMap.1 hz
  simp [fltC] at h
  rcases h with rfl | rfl <;> rfl
theorem flt_len (F : List (Int × Int)) : (F.flatMap fltC).length = F.length * 2 := cells_len (enc := fltC) (fun _ => rfl) F
theorem netFault (n : Nt) (x : Int × Int) (w : World) (h : NetAt netT w n) (hF : n.F.length ≤ 1000) : Calls Try.prog 12 #[.pointer (some ⟨n.g, 0, none⟩), .agg (fltC x).toArray] w fun e w' => e = .returned (.tuple #[]) ∧ ∃ q', Turned netT w w' n { n with F := n.F ++ [x], q := q' } := by
  obtain ⟨g, u, a, q, R, A, F, c⟩ := n
  refine H.enter Try.func12 Try.ntmps12 rfl rfl ?_; dsimp only [H.args]
  have hlt := h.lt
  repeat' (first | (refine CL.seq ?_) | (refine CL.region ?_))
  refine RW.box rfl rfl (fun w1 hb1 hk1 hlt1 => ?_)
  have hb : w1.heap[g]? = some (.cells #[u, a, q, .int .i64 (c : Int)] netT (0, 0)) := hk1.at0 h.at_
  have hb1' : w1.heap[w.heap.size]? = some (.cells #[.int .i64 x.1, .int .i64 x.2] fltT (0, 0)) := hb1
  have hflt : Tl w1 0 fltT 2 q F.length (F.flatMap fltC) := h.flt.keep0 hk1
  have hq : ¬ q.ownBlock = some g := h.qg
  have hq1 : ¬ q.ownBlock = some w.heap.size := fun c => by have := hlt _ (.inl (.inr c)); omega
  repeat' ((refine Gt.nil ?_; refine RW.nilw [0, 1, 3] ?_; dsimp only [H.keep, H.look, H.Fr.put, Nat.beq]))
  refine CL.drawz (fun w' => Kept (fun k => q.ownBlock = some k) w1 w') (fun j => Nat.beq j 10) (by kernel_rfl) (fun w2 hheap hk2 => ?_)
  have hS : Kept (fun k => q.ownBlock = some k) w1 w2 := hk2.of0
  skip
  refine AL.take 0 [8, 9, 10] rfl (by kernel_rfl) (by kernel_rfl) (by kernel_rfl) (by kernel_rfl) rfl (by assumption) (fun w hS => Y.move rfl) ?_
  refine AL.take 1 [2, 3, 4, 7, 8, 9, 10] rfl (by kernel_rfl) (by kernel_rfl) (by kernel_rfl) (by kernel_rfl) rfl (by assumption) (fun w hS => Y.move rfl) ?_
  refine AL.take 2 [3, 4, 7, 8, 9, 10] rfl (by kernel_rfl) (by kernel_rfl) (by kernel_rfl) (by kernel_rfl) rfl (by assumption) (fun w hS => Y.nilck rfl) ?_
  refine AL.take 3 [4, 7, 8, 9, 10] rfl (by kernel_rfl) (by kernel_rfl) (by kernel_rfl) (by kernel_rfl) rfl (by assumption) (fun w hS => Y.fieldAddr rfl (by rfl)) ?_
  refine AL.take 4 [7, 8, 9, 10] rfl (by kernel_rfl) (by kernel_rfl) (by kernel_rfl) (by kernel_rfl) rfl (by assumption) (fun w hS => Y.loadB rfl (hS.at hb hq) rfl) ?_
  refine AL.take 5 [6, 7, 8, 9, 10] rfl (by kernel_rfl) (by kernel_rfl) (by kernel_rfl) (by kernel_rfl) rfl (by assumption) (fun w hS => Y.loadBlock rfl (hS.at hb1' hq1) rfl) ?_
  refine AL.next 6 rfl (by kernel_rfl) ?_
  refine RW.build1 rfl rfl rfl rfl (fun w3 hb3 hk3 hlt3 => ?_)
  have hk23 := hk2.trans0 hk3
  have hS : Kept (fun k => q.ownBlock = some k) w1 w3 := hk23.of0
  have hs3 := sl_new (sz := 2) hb3 rfl (by decide)
  refine RW.nil (Nm.then ⟨hS, ?_⟩)
  skip
  refine AL.next 7 rfl (by kernel_rfl) ?_
  have hF' : F.length ≤ 1000 := hF
  refine RW.appT (sz := 2) rfl rfl rfl rfl rfl (hflt.keep0 hk23) (by omega) hs3 (fun z hz => flt_ones [x] z (List.mem_flatMap.2 ⟨x, by simp, hz⟩)) (by omega) (by omega) (Nat.zero_le _) (fun q' w4 hq4 hk4 hl4 => ?_)
  have hS : Kept (fun k => q.ownBlock = some k) w1 w4 := hk23.of0.trans hk4 fun k h => .inl h
  refine RW.nil (Nm.then ⟨hS, ?_⟩)
  refine AL.take 8 [9, 10] rfl (by kernel_rfl) (by kernel_rfl) (by kernel_rfl) (by kernel_rfl) rfl (by assumption) (fun w hS => Y.nilck rfl) ?_
  refine AL.take 9 [10] rfl (by kernel_rfl) (by kernel_rfl) (by kernel_rfl) (by kernel_rfl) rfl (by assumption) (fun w hS => Y.fieldAddr rfl (by rfl)) ?_
  refine AL.last 10 rfl (by kernel_rfl) rfl ?_
  have hz3 := (hk1.trans0 hk23).size
  have hqne : q'.ownBlock ≠ some g := fun c => (hl4 g c).elim (fun h => hq h) fun h => by have := lt_of_at hb; have := hk23.size; omega
  refine RW.storeB rfl rfl hq4.sl.one (hS.at hb hq) (by simp) (fun w5 hb5 hk5 => ?_)
  refine RW.nil (Nm.then ⟨trivial, ?_⟩)
  skip
  refine AL.donew [] (by kernel_rfl) ?_
  dsimp only [H.keep, H.look, H.Fr.put, Nat.beq]
  repeat' ((refine CL.done ?_))
  have hk : Kept (Nt.Wr ⟨g, u, a, q, R, A, F, c⟩) w w5 := (hk1.of0.trans (hS.mono fun k h => (.inr h : Nt.Wr ⟨g, u, a, q, R, A, F, c⟩ k)) fun k h => .inl h).trans (hk5.mono fun k h => (.inl h : Nt.Wr ⟨g, u, a, q, R, A, F, c⟩ k)) fun k h => .inl h
  refine FQ.norm (FQ.none rfl rfl ⟨rfl, q', h.put hk hb5 rfl (GA.keep h.rows hk fun g _ hg c => h.sep g c (.inl hg)) rfl rfl ?_ h.fit h.rl (fun k hk => (hl4 k hk).imp id fun h => by omega) (fun k hk => .inl (.inl hk)) (fun k hk hw hd => by have := hlt k (.inr (.inl hd)); omega)⟩)
  have e1 : (F ++ [x]).flatMap fltC = F.flatMap fltC ++ [.int .i64 x.1, .int .i64 x.2] := by simp [fltC]
  show Tl w5 0 fltT 2 q' (F ++ [x]).length ((F ++ [x]).flatMap fltC)
  rw [e1, List.length_append, List.length_singleton]
  exact hq4.keep hk5 fun k hk c => hqne (by rw [hk, c])
def hdF (F : List (Int × Int)) : Int × Int := F.headD (0, 0)
theorem netNext (n : Nt) (w : World) (h : NetAt netT w n) (hF : n.F.length ≤ 1000) : Calls Try.prog 30 #[.pointer (some ⟨n.g, 0, none⟩)] w fun e w' => e = .returned (.agg (fltC (hdF n.F)).toArray) ∧ ∃ q', (∀ k, q'.ownBlock = some k → n.q.ownBlock = some k) ∧ Turned netT w w' n { n with F := n.F.tail, q := q' } := by
  obtain ⟨g, u, a, q, R, A, F, c⟩ := n
  have hlt := h.lt
  have hF' : F.length ≤ 1000 := hF
  have hq : ¬ q.ownBlock = some g := h.qg
  have hfl : Tl w 0 fltT 2 q F.length (F.flatMap fltC) := h.flt
  obtain ⟨p, cap, hqe, hcap⟩ := hfl.shape
  subst hqe
  refine H.enter Try.func30 Try.ntmps30 rfl rfl ?_; dsimp only [H.args]
  repeat' (first | (refine CL.seq ?_) | (refine CL.region ?_))
  refine RW.alloc rfl (fun w1 hb1 hk1 hlt1 => ?_)
  have hb : w1.heap[g]? = some (.cells #[u, a, .slice p F.length cap, .int .i64 (c : Int)] netT (0, 0)) := hk1.at0 h.at_
  have hb1' : w1.heap[w.heap.size]? = some (.cells #[.int .i64 0, .int .i64 0] fltT (0, 0)) := hb1
  have hfl1 := hfl.keep0 hk1
  have hsl1 := hfl1.sl
  have hgw : g < w.heap.size := lt_of_at h.at_
  rcases Nat.eq_zero_or_pos F.length with h0 | h0
  · have hFn : F = [] := List.eq_nil_of_length_eq_zero h0
    repeat' (first | (refine CL.seq ?_) | (refine CL.region ?_) | (refine CL.condP rfl (fun _ => ?_) (fun _ => ?_) <;> try (exfalso; omega)) | (refine Gt.nil ?_; refine RW.nilw [0, 2, 3, 9] ?_; dsimp only [H.keep, H.look, H.Fr.put, Nat.beq]) | (refine Gt.load ?_; (refine RW.y (Y.loadB rfl (by assumption) rfl) rfl ?_)) | (refine Gt.move ?_; refine RW.y (Y.move rfl) rfl ?_) | (refine Gt.nilck ?_; refine RW.y (Y.nilck rfl) rfl ?_) | (refine Gt.fieldAddr ?_; refine RW.y (Y.fieldAddr rfl (by rfl)) rfl ?_) | (refine Gt.len ?_; (refine RW.y (Y.lenv rfl) rfl ?_)) | (refine Gt.eql ?_; refine RW.y (Y.eqi rfl rfl) rfl ?_) | (refine RW.y (Y.build (ps := []) rfl rfl) rfl ?_))
    refine RW.storeBlock rfl rfl rfl (by decide) hb1' rfl (fun w2 hb2 hk2 => ?_)
    repeat' (first | (refine CL.ret ?_) | (refine Gt.nil ?_; refine RW.nilw [0, 2, 3, 9] ?_; dsimp only [H.keep, H.look, H.Fr.put, Nat.beq]))
    have hk : K0 w w2 := hk1.trans hk2 fun k h => .inr (by omega)
    subst hFn
    exact FQ.res1 (v := _) rfl rfl ⟨⟨_, rfl, load_block (cs := _) hb2 rfl⟩, trivial⟩ ⟨rfl, .slice p 0 cap, (fun _ h => h), h.keep0 hk, rfl, hk.of0, fun k hk => .inl hk, fun k hk => .inl hk⟩
  · obtain ⟨x, hx⟩ : ∃ x, F.getD (Int.toNat 0) default = x := ⟨_, rfl⟩
    have hxh : hdF F = x := by cases F with
      | nil => simp at h0
      | cons y F => exact hx
    have htl : F.tail.length = F.length - 1 := by simp
    repeat' (first | (refine CL.seq ?_) | (refine CL.region ?_) | (refine CL.skip ?_) | (refine CL.condP rfl (fun _ => ?_) (fun _ => ?_) <;> try (exfalso; omega)) | (refine Gt.nil ?_; refine RW.nilw [0, 2, 3, 9] ?_; dsimp only [H.keep, H.look, H.Fr.put, Nat.beq]) | (refine Gt.load ?_; (refine RW.y (Y.loadB rfl (by assumption) rfl) rfl ?_)) | (refine Gt.move ?_; refine RW.y (Y.move rfl) rfl ?_) | (refine Gt.nilck ?_; refine RW.y (Y.nilck rfl) rfl ?_) | (refine Gt.fieldAddr ?_; refine RW.y (Y.fieldAddr rfl (by rfl)) rfl ?_) | (refine Gt.len ?_; (refine RW.y (Y.lenv rfl) rfl ?_)) | (refine Gt.eql ?_; refine RW.y (Y.eqi rfl rfl) rfl ?_) | (refine Gt.idx ?_; (refine RW.elemA rfl rfl rfl rfl (by assumption) (fun _ => by rfl) rfl (by omega) (by omega) (fun _ => ?_))))
    rw [hx]
    refine RW.varN rfl rfl rfl (fun z hz => by simp [fltC] at hz; rcases hz with rfl | rfl <;> rfl) rfl (fun w2 hb2 hk2 hlt2 => ?_)
    have hb' := hk2.at0 hb
    have hb2' : w2.heap[w1.heap.size]? = some (.cells #[.int .i64 x.1, .int .i64 x.2] fltT (0, 0)) := hb2
    have hfl2 := hfl1.keep0 hk2
    have hz1 := hk1.size
    have hz2 := hk2.size
    repeat' (first | (refine CL.seq ?_) | (refine CL.region ?_) | (refine Gt.nil ?_; refine RW.nilw [0, 2, 3, 9] ?_; dsimp only [H.keep, H.look, H.Fr.put, Nat.beq]) | (refine Gt.load ?_; (refine RW.y (Y.loadB rfl (by assumption) rfl) rfl ?_)) | (refine Gt.move ?_; refine RW.y (Y.move rfl) rfl ?_) | (refine Gt.nilck ?_; refine RW.y (Y.nilck rfl) rfl ?_) | (refine Gt.fieldAddr ?_; refine RW.y (Y.fieldAddr rfl (by rfl)) rfl ?_))
    refine RW.y (Y.from rfl rfl (by omega) (by omega) (by omega)) rfl ?_
    have hfr := hfl2.from (a := 1) (by omega)
    repeat' (first | (refine Gt.nilck ?_; refine RW.y (Y.nilck rfl) rfl ?_) | (refine Gt.fieldAddr ?_; refine RW.y (Y.fieldAddr rfl (by rfl)) rfl ?_))
    refine RW.storeB rfl rfl hfr.sl.one hb' (by simp) (fun w3 hb3 hk3 => ?_)
    have hb3' : w3.heap[w1.heap.size]? = some (.cells #[.int .i64 x.1, .int .i64 x.2] fltT (0, 0)) := hk3.at hb2' (by omega)
    have hb13 : w3.heap[w.heap.size]? = some (.cells #[.int .i64 0, .int .i64 0] fltT (0, 0)) := hk3.at (hk2.at0 hb1') (by omega)
    have hz3 := hk3.size
    repeat' (first | (refine CL.seq ?_) | (refine CL.region ?_) | (refine Gt.nil ?_; refine RW.nilw [0, 2, 3, 9] ?_; dsimp only [H.keep, H.look, H.Fr.put, Nat.beq]) | (refine Gt.load ?_; (refine RW.y (Y.loadBlock rfl (by assumption) rfl) rfl ?_)))
    refine RW.storeBlock rfl rfl rfl (fun z hz => by simp at hz; rcases hz with rfl | rfl <;> rfl) hb13 rfl (fun w4 hb4 hk4 => ?_)
    repeat' (first | (refine CL.ret ?_) | (refine Gt.nil ?_; refine RW.nilw [0, 2, 3, 9] ?_; dsimp only [H.keep, H.look, H.Fr.put, Nat.beq]))
    have hk34 : Kept (Nt.Wr ⟨g, u, a, .slice p F.length cap, R, A, F, c⟩) w w3 := ((hk1.trans0 hk2).of0).trans (hk3.mono fun k h => (.inl h : Nt.Wr ⟨g, u, a, .slice p F.length cap, R, A, F, c⟩ k)) fun k h => .inl h
    have hk : Kept (Nt.Wr ⟨g, u, a, .slice p F.length cap, R, A, F, c⟩) w w4 := hk34.trans hk4 fun k h => .inr (by omega)
    have hsub : ∀ k, (Value.slice (if cap = 1 then p else p.map (·.add (1 * 2))) (F.length - 1) (cap - 1)).ownBlock = some k → (Value.slice p F.length cap).ownBlock = some k := fun k hk => by
      cases p with
      | none => split at hk <;> simp [Value.ownBlock] at hk
      | some p =>
        split at hk
        · exact hk
        · simpa [Value.ownBlock, add_block] using hk
    have hb34 := hk4.at hb3 (by omega)
    refine FQ.res1 (v := _) rfl rfl ⟨⟨_, rfl, load_block (cs := [_, _]) hb4 rfl⟩, trivial⟩ ⟨by rw [hxh]; rfl, _, hsub, h.put hk hb34 rfl (GA.keep h.rows hk fun g _ hg c => h.sep g c (.inl hg)) rfl rfl ?_ h.fit h.rl (fun k hk => .inl (hsub k hk)) (fun k hk => .inl (.inl hk)) (fun k hk hw hd => by have := hlt k (.inr (.inl hd)); omega)⟩
    show Tl w4 0 fltT 2 _ F.tail.length (F.tail.flatMap fltC)
    have e1 : F.tail.flatMap fltC = (F.flatMap fltC).drop (1 * 2) := by cases F with
      | nil => rfl
      | cons y F => rfl
    rw [e1, htl]
    exact (hfr.keep hk3 fun k hk c => hq (by rw [← c]; exact hsub k hk)).keep hk4 fun k hk c => by have h1 := hlt k (.inl (.inr (hsub k hk))); have h2 : k = w.heap.size := c; omega
end Go.Proofs.Ytlbegmpikggmlaa.Ne

namespace Go.Proofs.Ytlbegmpikggmlaa.Ne
open Go.RowKit H S Ve Sp
attribute [local irreducible] H.CL H.RW H.CW H.Yd H.thenK H.blockQ Go.Calls

theorem Turned.trans {ty : TypeId} {w w1 w2 : World} {n n1 n2 : Nt} (h1 : Turned ty w w1 n n1) (h2 : Turned ty w1 w2 n1 n2) : Turned ty w w2 n n2 := by
  have hz := h1.kept.size
  refine ⟨h2.at_, h2.g.trans h1.g, h1.kept.trans h2.kept h1.wr, fun k hk => ?_, fun k hk => ?_⟩
  · rcases h2.wr k hk with h | h
    · exact h1.wr k h
    · exact .inr (by omega)
  · rcases h2.rd k hk with h | h
    · exact h1.rd k h
    · exact .inr (by omega)
theorem Turned.pre {ty : TypeId} {w w1 w2 : World} {n n1 : Nt} (k : K0 w w1) (h : Turned ty w1 w2 n n1) : Turned ty w w2 n n1 := by
  have hz := k.size
  exact ⟨h.at_, h.g, k.of0.trans h.kept fun k h => .inl h, fun k hk => (h.wr k hk).imp id fun h => by omega, fun k hk => (h.rd k hk).imp id fun h => by omega⟩
theorem Turned.post {ty : TypeId} {S : Nat → Prop} {w w1 w2 : World} {n n1 : Nt} (h : Turned ty w w1 n n1) (k : Kept S w1 w2) (hS : ∀ k, S k → w.heap.size ≤ k ∧ ¬ n1.Wr k ∧ ¬ n1.Rd k) : Turned ty w w2 n n1 :=
  ⟨h.at_.keep k fun j _ hj c => hj.elim (hS j c).2.1 (hS j c).2.2, h.g, h.kept.trans k fun j c => .inr (hS j c).1, h.wr, h.rd⟩
theorem Turned.out {ty : TypeId} {w w1 : World} {n n1 : Nt} (h : Turned ty w w1 n n1) {g : Nat} (hg : g < w.heap.size) (h1 : ¬ n.Wr g) (h2 : ¬ n.Rd g) : ¬ n1.Wr g ∧ ¬ n1.Rd g :=
  ⟨fun c => (h.wr g c).elim h1 fun h => by omega, fun c => (h.rd g c).elim h2 fun h => by omega⟩
def xorBit (b : UInt8) (j : Nat) : UInt8 := UInt8.ofNat (b.toNat ^^^ 2 ^ j)
theorem bit_eq (b : UInt8) {z : Int} (h0 : 0 ≤ z) (h8 : z < 8) : Value.int .u8 (bits .xor .u8 (b.toNat : Int) (IntKind.u8.wrap (1 * 2 ^ (min z.toNat IntKind.u8.bits)))) = vb (xorBit b z.toNat) := by
  obtain ⟨j, rfl⟩ : ∃ j : Nat, z = (j : Int) := ⟨z.toNat, by omega⟩
  have hj : j < 8 := by omega
  have hb := b.toNat_lt
  have h1 : IntKind.u8.wrap (1 * 2 ^ (min ((j : Int)).toNat IntKind.u8.bits)) = ((2 ^ j : Nat) : Int) := by
    have : j = 0 ∨ j = 1 ∨ j = 2 ∨ j = 3 ∨ j = 4 ∨ j = 5 ∨ j = 6 ∨ j = 7 := by omega
    rcases this with rfl | rfl | rfl | rfl | rfl | rfl | rfl | rfl <;> rfl
  have h2 : 2 ^ j < 256 := Nat.pow_lt_pow_right (by omega) (show j < 8 from hj)
  rw [h1, u8_xor_nat b.toNat (2 ^ j) hb h2, Int.toNat_natCast, vb, xorBit, UInt8.toNat_ofNat', Nat.mod_eq_of_lt (Nat.xor_lt_two_pow (n := 8) hb h2)]
/-- One bit of some bytes turned. -/
def spoilB (x : List UInt8) (n : Int) : List UInt8 :=
  x.set ((n % (8 * x.length)) / 8).toNat (xorBit (x.getD ((n % (8 * x.length)) / 8).toNat 0) ((n % (8 * x.length)) % 8).toNat)
/-- The reply to a question, given the archive that is asked for. -/
def replyB (A : List (List UInt8)) (arc : Option (List UInt8)) (f : Int × Int) (off n : Int) : Int × List UInt8 := match arc with
  | none => (2, [])
  | some b =>
    if f.1 = 1 then (1, []) else if f.1 = 3 then (0, if partB b off n = [] then [] else spoilB (partB b off n) f.2)
    else if f.1 = 4 then (0, (partB (A.getD 0 []) off n).take (partB b off n).length)
    else if f.1 = 2 then (0, (partB b off n).take (max f.2 0).toNat) else (0, partB b off n)
theorem rem_fix (n : Int) {m : Int} (hm : 0 < m) : (n.tmod m + m) % m = n % m := by
  rw [Int.add_emod_right, Int.tmod_def]
  rw [show n - m * n.tdiv m = n + m * (-(n.tdiv m)) from by rw [Int.mul_neg]; omega]
  exact Int.add_mul_emod_self_left ..
theorem blkSub {w : World} {g o : Nat} {c : Array Value} {e : TypeId} {fz : Nat × Nat} {cs : List Value} (h : w.heap[g]? = some (.cells c e fz)) (hc : ∀ j u, cs[j]? = some u → c[o + j]? = some u) : ∀ j u, cs[j]? = some u → w.cell? ((⟨g, o, none⟩ : Addr).add j) = some u := fun j u hu => by
  rw [addr_add]; exact ldU h (hc j u hu)
theorem part_part (b : List UInt8) (off sz : Int) (k : Nat) (hk : k ≤ (min (max sz 0) 64).toNat) : (partB b off k).take (min (max (k : Int) 0) ((partB b off k).length : Int)).toNat = (partB b off sz).take k := by
  have e1 : partB b off k = (b.drop (max off 0).toNat).take k := by
    rw [partB, show (min (max (k : Int) 0) 64).toNat = k from by omega]
  have e2 : (partB b off sz).take k = (b.drop (max off 0).toNat).take k := by
    rw [partB, List.take_take, Nat.min_eq_left hk]
  rw [e2, e1]
  refine List.take_of_length_le ?_
  rw [List.length_take]
  omega
theorem part_le (b : List UInt8) (off sz : Int) : (partB b off sz).length ≤ (min (max sz 0) 64).toNat := by
  rw [partB, List.length_take]; omega
abbrev gotT : TypeId := 36
abbrev askT : TypeId := 47
def askC (nm : T) (x0 : Ver) (p : Value) (off n : Int) : Array Value := #[vs nm, .int .i64 x0.a, .int .i64 x0.b, .int .i64 x0.c, p, .int .i64 off, .int .i64 n]
theorem askV (nm : T) (x0 : Ver) (p : Value) (off n : Int) : ∀ j u, ([.int .i64 x0.a, .int .i64 x0.b, .int .i64 x0.c, p] : List Value)[j]? = some u → (askC nm x0 p off n)[1 + j]? = some u := fun j u hu => by
  have hj : j < 4 := (List.getElem?_eq_some_iff.1 hu).1
  have : j = 0 ∨ j = 1 ∨ j = 2 ∨ j = 3 := by omega
  rcases this with rfl | rfl | rfl | rfl <;> exact hu

set_option maxHeartbeats 4000000 in
theorem netGet (n : Nt) (nm : T) (x0 : Ver) (pv : Value) (off sz : Int) (w : World) (h : NetAt netT w n) (hF : n.F.length ≤ 1000) (hc : n.c ≤ 1000000) (hpv : Sl w 1 pv x0.pre.length (sv x0.pre)) (hpw : ∀ g, live pv = some g → ¬ n.Wr g) (fx : Fit x0) : Calls Try.prog 11 #[.pointer (some ⟨n.g, 0, none⟩), .agg (askC nm x0 pv off sz)] w fun e w' => ∃ v q', e = .returned (.agg #[.int .i64 (replyB (n.A.map (·.1)) (arcOf nm x0 n.R (n.A.map (·.1))) (hdF n.F) off sz).1, v]) ∧ Sl w' 1 v (replyB (n.A.map (·.1)) (arcOf nm x0 n.R (n.A.map (·.1))) (hdF n.F) off sz).2.length (bv (replyB (n.A.map (·.1)) (arcOf nm x0 n.R (n.A.map (·.1))) (hdF n.F) off sz).2) ∧ (∀ g, live v = some g → w.heap.size ≤ g) ∧ (∀ k, q'.ownBlock = some k → n.q.ownBlock = some k) ∧ Turned netT w w' n { n with F := n.F.tail, q := q', c := n.c + 1 } := by
  refine H.enter Try.func11 Try.ntmps11 rfl rfl ?_; dsimp only [H.args]
  have hlt := h.lt
  repeat' (first | (refine CL.seq ?_) | (refine CL.region ?_))
  refine RW.box rfl rfl (fun w1 hb1 hk1 hlt1 => ?_)
  have hb1' : w1.heap[w.heap.size]? = some (.cells (askC nm x0 pv off sz) askT (0, 0)) := hb1
  skip
  refine RW.alloc rfl (fun w2 hb2 hk2 hlt2 => ?_)
  have hb2' : w2.heap[w1.heap.size]? = some (.cells #[.int .i64 0, .slice none 0 0] gotT (0, 0)) := hb2
  have hK2 := hk1.trans0 hk2
  have hz1 := hk1.size
  have h2 := h.keep0 hK2
  have hg2 := h2.at_
  repeat' (first | (refine CL.seq ?_) | (refine CL.region ?_) | (refine Gt.nil ?_; refine RW.nilw [0, 1, 3, 4, 5, 6, 7, 8, 9, 38, 53, 54, 56, 58, 60, 67] ?_; dsimp only [H.keep, H.look, H.Fr.put, Nat.beq]) | (refine Gt.move ?_; refine RW.y (Y.move rfl) rfl ?_) | (refine Gt.load ?_; (refine RW.y (Y.loadB rfl (by assumption) rfl) rfl ?_)) | (refine Gt.fieldAddr ?_; refine RW.y (Y.fieldAddr rfl (by rfl)) rfl ?_) | (refine Gt.nilck ?_; refine RW.y (Y.nilck rfl) rfl ?_) | (refine Gt.add ?_; refine RW.y (Y.add64 rfl rfl (by omega) (by omega)) rfl ?_))
  refine RW.storeB rfl rfl rfl hg2 (by simp) (fun w3 hb3 hk3 => ?_)
  have ht3 : Turned netT w2 w3 n { n with c := n.c + 1 } := by
    have hk : Kept n.Wr w2 w3 := hk3.mono fun k h => .inl h
    refine h2.put hk (by rw [show ((n.c + 1 : Nat) : Int) = (n.c : Int) + 1 from by omega]; exact hb3) rfl (GA.keep h2.rows hk fun g _ hg c => h2.sep g c (.inl hg)) rfl rfl (h2.flt.keep hk3 fun k hk c => h.qg (by rw [hk, c])) h.fit h.rl (fun k hk => .inl hk) (fun k hk => .inl (.inl hk)) (fun k hk hw hd => by have := h2.lt k (.inr (.inl hd)); omega)
  repeat' (first | (refine CL.seq ?_) | (refine CL.region ?_) | (refine Gt.nil ?_; refine RW.nilw [0, 1, 3, 4, 5, 6, 7, 8, 9, 38, 53, 54, 56, 58, 60, 67] ?_; dsimp only [H.keep, H.look, H.Fr.put, Nat.beq]) | (refine Gt.move ?_; refine RW.y (Y.move rfl) rfl ?_))
  refine RW.fn rfl rfl ((netNext { n with c := n.c + 1 } w3 ht3.at_ hF).mono ?_)
  rintro e w4 ⟨rfl, q', hqs, ht4⟩
  have ht := ht3.trans ht4
  obtain ⟨ho1, ho2⟩ := ht.out (g := w.heap.size) (by omega) (fun c => by have := hlt _ (.inl c); omega) (fun c => by have := hlt _ (.inr c); omega)
  obtain ⟨ho3, ho4⟩ := ht.out (g := w1.heap.size) (by omega) (fun c => by have := hlt _ (.inl c); omega) (fun c => by have := hlt _ (.inr c); omega)
  obtain ⟨f, hf⟩ : ∃ f, hdF n.F = f := ⟨_, rfl⟩
  rw [show hdF ({ n with c := n.c + 1 } : Nt).F = f from hf]
  try rw [hf]
  refine RW.varN rfl rfl rfl (fun z hz => flt_ones [f] z (List.mem_flatMap.2 ⟨f, by simp, hz⟩)) rfl (fun w5 hb5 hk5 hlt5 => ?_)
  have hb5' : w5.heap[w4.heap.size]? = some (.cells #[.int .i64 f.1, .int .i64 f.2] fltT (0, 0)) := hb5
  have ht5 : Turned netT w2 w5 n { n with F := n.F.tail, q := q', c := n.c + 1 } := ht.post hk5 fun k c => by cases c
  have hz4 := ht.kept.size
  have hb15 : w5.heap[w.heap.size]? = some (.cells (askC nm x0 pv off sz) askT (0, 0)) := ht5.kept.at (hk2.at0 hb1') (fun c => by have := hlt _ (.inl c); omega)
  have hb25 : w5.heap[w1.heap.size]? = some (.cells #[.int .i64 0, .slice none 0 0] gotT (0, 0)) := ht5.kept.at hb2' (fun c => by have := hlt _ (.inl c); omega)
  have hpv5 : Sl w5 1 pv x0.pre.length (sv x0.pre) := (hpv.keep0 hK2).keep ht5.kept fun g hg => hpw g hg
  obtain ⟨R, hR⟩ : ∃ R, n.R = R := ⟨_, rfl⟩
  obtain ⟨A, hA⟩ : ∃ A, n.A = A := ⟨_, rfl⟩
  obtain ⟨u, hu⟩ : ∃ u, n.u = u := ⟨_, rfl⟩
  obtain ⟨a, ha⟩ : ∃ a, n.a = a := ⟨_, rfl⟩
  have hg5 : w5.heap[n.g]? = some (.cells #[u, a, q', .int .i64 ((n.c + 1 : Nat) : Int)] netT (0, 0)) := by rw [← hu, ← ha]; exact ht5.at_.at_
  have hrw : GA rwK w5 u R := by rw [← hu, ← hR]; exact ht5.at_.rows
  have har : GA arK w5 a A := by rw [← ha, ← hA]; exact ht5.at_.arcs
  have hfit : ∀ x ∈ R, FitR x := by rw [← hR]; exact h.fit
  have hlen : ∀ y ∈ A, y.1.length ≤ 30000 := by rw [← hA]; exact h.len
  have hrl : R.length ≤ 100 := by rw [← hR]; exact h.rl
  have hal : A.length ≤ 100 := by rw [← hA]; exact h.al
  have hsl : Sl w5 1 a A.length (A.map (·.2)) := by rw [← ar_enc]; exact har.1
  rw [hR, hA]
  have hz5 := hk5.size
  repeat' (first | (refine CL.seq ?_) | (refine Gt.nil ?_; refine RW.nilw [0, 1, 3, 4, 5, 6, 7, 8, 9, 38, 53, 54, 56, 58, 60, 67] ?_; dsimp only [H.keep, H.look, H.Fr.put, Nat.beq]))
  refine CL.draw (fun w' => K0 w5 w') (by kernel_rfl) (fun w6 hheap hk6 => ?_)
  have hS : K0 w5 w6 := hk6
  skip
  refine AW.take 0 rfl (by kernel_rfl) (by kernel_rfl) (by kernel_rfl) rfl (by assumption) (fun w hS => Y.move rfl) ?_
  refine AW.take 1 rfl (by kernel_rfl) (by kernel_rfl) (by kernel_rfl) rfl (by assumption) (fun w hS => Y.nilck rfl) ?_
  refine AW.take 2 rfl (by kernel_rfl) (by kernel_rfl) (by kernel_rfl) rfl (by assumption) (fun w hS => Y.fieldAddr rfl (by rfl)) ?_
  refine AW.take 3 rfl (by kernel_rfl) (by kernel_rfl) (by kernel_rfl) rfl (by assumption) (fun w hS => Y.loadB rfl (hS.at0 hg5) rfl) ?_
  refine AW.take 4 rfl (by kernel_rfl) (by kernel_rfl) (by kernel_rfl) rfl (by assumption) (fun w hS => Y.fieldAddr rfl (by rfl)) ?_
  refine AW.take 5 rfl (by kernel_rfl) (by kernel_rfl) (by kernel_rfl) rfl (by assumption) (fun w hS => Y.loadB rfl (hS.at0 hb15) rfl) ?_
  refine AW.take 6 rfl (by kernel_rfl) (by kernel_rfl) (by kernel_rfl) rfl (by assumption) (fun w hS => Y.fieldAddr rfl (by rfl)) ?_
  refine AW.take 7 rfl (by kernel_rfl) (by kernel_rfl) (by kernel_rfl) rfl (by assumption) (fun w hS => Y.loadN (cs := [_, _, _, _]) rfl rfl (blkSub (hS.at0 hb15) (askV nm x0 pv off sz))) ?_
  refine AW.next 8 rfl (by kernel_rfl) ?_
  refine RW.fn rfl rfl ((indexAt u _ R nm x0 w6 (hrw.keep0 hk6) hfit ⟨pv, rfl, hpv5.keep0 hk6⟩ fx (by omega)).mono ?_)
  rintro e w7 ⟨hk7, rfl⟩
  refine RW.nil (Nm.then (rebase0 hS hk7 fun hS => ?_))
  refine AW.take 9 rfl (by kernel_rfl) (by kernel_rfl) (by kernel_rfl) rfl (by assumption) (fun w hS => Y.assign rfl) ?_
  refine AW.donew [0, 3, 4, 5, 6] (by kernel_rfl) ?_
  dsimp only [H.keep, H.look, H.Fr.put, Nat.beq]
  have hK7 := hk6.trans0 hk7
  have hge := idxI_ge (hitR nm x0) R 0
  have hltx := idxI_lt (hitR nm x0) R 0
  obtain ⟨i, hi⟩ : ∃ i, idxI (hitR nm x0) R 0 = i := ⟨_, rfl⟩
  have harc : arcOf nm x0 R (A.map (·.1)) = if 0 ≤ i ∧ i < A.length then some ((A.map (·.1)).getD i.toNat []) else none := by rw [arcOf, hi, List.length_map]
  rw [hi] at hge hltx
  rw [hi]
  have hg7 := hK7.at0 hg5
  have hb17 := hK7.at0 hb15
  have hb27 := hK7.at0 hb25
  have hb57 := hK7.at0 hb5'
  have har7 := har.keep0 hK7
  have hsl7 := hsl.keep0 hK7
  have ht7 := ht5.post hK7 (fun k c => by cases c)
  have hz7 := hK7.size
  have htw := Turned.pre hK2 ht7
  simp only [hR, hA] at htw ho3 ho4
  rw [harc]
  repeat' (first | (refine CL.seq ?_) | (refine CL.region ?_) | (refine CL.skip ?_) | (refine CL.condP rfl (fun _ => ?_) (fun _ => ?_) <;> try (exfalso; omega)) | (refine CL.condT rfl ?_) | (refine Gt.nil ?_; refine RW.nilw [0, 1, 3, 4, 5, 6, 7, 8, 9, 38, 53, 54, 56, 58, 60, 67] ?_; dsimp only [H.keep, H.look, H.Fr.put, Nat.beq]) | (refine Gt.move ?_; refine RW.y (Y.move rfl) rfl ?_) | (refine Gt.guard ?_; first | (refine RW.part rfl rfl rfl (fun _ => ?_) (fun _ => ?_) <;> try (exfalso; omega)) | (refine RW.on rfl rfl rfl ?_) | (refine RW.off1 rfl rfl rfl rfl rfl ?_)) | (refine Gt.load ?_; (refine RW.y (Y.loadB rfl (by assumption) rfl) rfl ?_)) | (refine Gt.fieldAddr ?_; refine RW.y (Y.fieldAddr rfl (by rfl)) rfl ?_) | (refine Gt.nilck ?_; refine RW.y (Y.nilck rfl) rfl ?_) | (refine Gt.len ?_; (refine RW.y (Y.lenx rfl (by assumption)) rfl ?_)) | (refine Gt.lss ?_; refine RW.y (Y.lss rfl rfl) rfl ?_) | (refine Gt.geq ?_; refine RW.y (Y.geq rfl rfl) rfl ?_) | (refine Gt.pick ?_; first | (refine RW.y (Y.pickT rfl rfl) rfl ?_) | (refine RW.y (Y.pickF rfl rfl) rfl ?_)) | (refine RW.y (Y.build (ps := [(0, _)]) rfl rfl) rfl ?_))
  · rw [if_neg (by omega)]
    refine RW.storeBlock rfl rfl rfl (by decide) hb27 rfl (fun w8 hb8 hk8 => ?_)
    repeat' (first | (refine CL.ret ?_) | (refine Gt.nil ?_; refine RW.nilw [0, 1, 3, 4, 5, 6, 7, 8, 9, 38, 53, 54, 56, 58, 60, 67] ?_; dsimp only [H.keep, H.look, H.Fr.put, Nat.beq]))
    exact FQ.res1 (v := _) rfl rfl ⟨⟨_, rfl, load_block (cs := [_, _]) hb8 rfl⟩, trivial⟩ ⟨.slice none 0 0, q', rfl, Sl.nil _ _, nolive, hqs, htw.post hk8 fun k c => by subst c; exact ⟨hz1, ho3, ho4⟩⟩
  · rw [if_neg (by omega)]
    refine RW.storeBlock rfl rfl rfl (by decide) hb27 rfl (fun w8 hb8 hk8 => ?_)
    repeat' (first | (refine CL.ret ?_) | (refine Gt.nil ?_; refine RW.nilw [0, 1, 3, 4, 5, 6, 7, 8, 9, 38, 53, 54, 56, 58, 60, 67] ?_; dsimp only [H.keep, H.look, H.Fr.put, Nat.beq]))
    exact FQ.res1 (v := _) rfl rfl ⟨⟨_, rfl, load_block (cs := [_, _]) hb8 rfl⟩, trivial⟩ ⟨.slice none 0 0, q', rfl, Sl.nil _ _, nolive, hqs, htw.post hk8 fun k c => by subst c; exact ⟨hz1, ho3, ho4⟩⟩
  · rw [if_pos (by omega)]
    have hi2 : i.toNat < A.length := by omega
    have hmem : A.getD i.toNat default ∈ A := getD_mem default hi2
    have hAi : (A.map (·.2))[i.toNat * 1]? = some (A.getD i.toNat default).2 := by simp [List.getD_eq_getElem?_getD, hi2]
    have hD := har7.2 _ hmem
    have hyl := hlen _ hmem
    rw [getD_map (·.1) default [] A _ hi2]
    generalize hyd : A.getD i.toNat default = y at *
    skip
    refine CL.draw (fun w' => K0 w7 w') (by kernel_rfl) (fun w8 hheap8 hk8 => ?_)
    have hS : K0 w7 w8 := hk8
    skip
    refine AW.take 0 rfl (by kernel_rfl) (by kernel_rfl) (by kernel_rfl) rfl (by assumption) (fun w hS => Y.move rfl) ?_
    refine AW.take 1 rfl (by kernel_rfl) (by kernel_rfl) (by kernel_rfl) rfl (by assumption) (fun w hS => Y.nilck rfl) ?_
    refine AW.take 2 rfl (by kernel_rfl) (by kernel_rfl) (by kernel_rfl) rfl (by assumption) (fun w hS => Y.fieldAddr rfl (by rfl)) ?_
    refine AW.take 3 rfl (by kernel_rfl) (by kernel_rfl) (by kernel_rfl) rfl (by assumption) (fun w hS => Y.loadB rfl (hS.at0 hg7) rfl) ?_
    refine AW.take 4 rfl (by kernel_rfl) (by kernel_rfl) (by kernel_rfl) rfl (by assumption) (fun w hS => Y.move rfl) ?_
    refine AW.take 5 rfl (by kernel_rfl) (by kernel_rfl) (by kernel_rfl) rfl (by assumption) (fun w hS => Y.idx rfl rfl (hsl7.keep0 hS) (by omega) (by omega)) ?_
    refine AW.take 6 rfl (by kernel_rfl) (by kernel_rfl) (by kernel_rfl) rfl (by assumption) (fun w hS => Y.load1 rfl ((hsl7.keep0 hS).cell hAi)) ?_
    refine AW.take 7 rfl (by kernel_rfl) (by kernel_rfl) (by kernel_rfl) rfl (by assumption) (fun w hS => Y.fieldAddr rfl (by rfl)) ?_
    refine AW.take 8 rfl (by kernel_rfl) (by kernel_rfl) (by kernel_rfl) rfl (by assumption) (fun w hS => Y.loadB rfl (hS.at0 hb17) rfl) ?_
    refine AW.take 9 rfl (by kernel_rfl) (by kernel_rfl) (by kernel_rfl) rfl (by assumption) (fun w hS => Y.fieldAddr rfl (by rfl)) ?_
    refine AW.take 10 rfl (by kernel_rfl) (by kernel_rfl) (by kernel_rfl) rfl (by assumption) (fun w hS => Y.loadB rfl (hS.at0 hb17) rfl) ?_
    refine AW.next 11 rfl (by kernel_rfl) ?_
    refine RW.fn rfl rfl ((netPart y.2 y.1 off sz w8 (arK.keep0 hD hk8) (by omega)).mono ?_)
    rintro e w9 ⟨hk9, v9, rfl, how9⟩
    refine RW.nil (Nm.then (rebase0 hS hk9 fun hS => ?_))
    refine AW.take 12 rfl (by kernel_rfl) (by kernel_rfl) (by kernel_rfl) rfl (by assumption) (fun w hS => Y.assign rfl) ?_
    refine AW.donew [0, 3, 4, 5, 7] (by kernel_rfl) ?_
    dsimp only [H.keep, H.look, H.Fr.put, Nat.beq]
    have hk79 := hk8.trans0 hk9
    have hg9 := hk79.at0 hg7
    have hb19 := hk79.at0 hb17
    have hb29 := hk79.at0 hb27
    have hb59 := hk79.at0 hb57
    have har9 := har7.keep0 hk79
    have hsl9 := hsl7.keep0 hk79
    have htw9 := htw.post hk79 (fun k c => by cases c)
    have hxl := (partB_len y.1 off sz).1
    obtain ⟨x, hx⟩ : ∃ x, partB y.1 off sz = x := ⟨_, rfl⟩
    simp only [replyB, hx]
    rw [hx] at how9 hxl
    have hs9 := Sl.of_own how9
    have hz8 := hk8.size
    have hz9 := hk9.size
    have hv9 : ∀ g, live v9 = some g → w.heap.size ≤ g := fun g hg => by have := (how9.lt g (live_own hg)).1; omega
    repeat' (first | (refine CL.seq ?_) | (refine CL.region ?_) | (refine CL.skip ?_) | (refine CL.condP rfl (fun _ => ?_) (fun _ => ?_) <;> try (exfalso; omega)) | (refine CL.block ?_) | (refine CL.exit ?_) | (refine Ex.hit ?_) | (refine Ex.miss rfl ?_) | (refine Gt.nil ?_; refine RW.nilw [0, 1, 3, 4, 5, 6, 7, 8, 9, 38, 53, 54, 56, 58, 60, 67] ?_; dsimp only [H.keep, H.look, H.Fr.put, Nat.beq]) | (refine Gt.move ?_; refine RW.y (Y.move rfl) rfl ?_) | (refine Gt.load ?_; (refine RW.y (Y.loadB rfl (by assumption) rfl) rfl ?_)) | (refine Gt.fieldAddr ?_; refine RW.y (Y.fieldAddr rfl (by rfl)) rfl ?_) | (refine Gt.assign ?_; refine RW.y (Y.assign rfl) rfl ?_) | (refine Gt.len ?_; (refine RW.y (Y.lenx rfl (by assumption)) rfl ?_)) | (refine Gt.eql ?_; refine RW.y (Y.eqi rfl rfl) rfl ?_) | (refine Gt.rem ?_; (refine RW.y (Y.rem rfl rfl (by omega)) rfl ?_)) | (refine Gt.mul ?_; (refine RW.y (Y.mul64 rfl rfl (by omega) (by omega)) rfl ?_)) | (refine Gt.gtr ?_; refine RW.y (Y.gtr rfl rfl) rfl ?_) | (refine Gt.call ?_; first | (refine RW.y (Y.max2 rfl rfl) rfl ?_) | (refine RW.y (Y.min2 rfl rfl) rfl ?_)) | (refine RW.y (Y.build (ps := [(0, _)]) rfl rfl) rfl ?_))
    · rename_i h1
      rw [if_pos h1]
      refine RW.storeBlock rfl rfl rfl (by decide) hb29 rfl (fun w10 hb10 hk10 => ?_)
      repeat' (first | (refine CL.ret ?_) | (refine Rt.block ?_) | (refine Gt.nil ?_; refine RW.nilw [0, 1, 3, 4, 5, 6, 7, 8, 9, 38, 53, 54, 56, 58, 60, 67] ?_; dsimp only [H.keep, H.look, H.Fr.put, Nat.beq]))
      exact FQ.res1 (v := _) rfl rfl ⟨⟨_, rfl, load_block (cs := [_, _]) hb10 rfl⟩, trivial⟩ ⟨.slice none 0 0, q', rfl, Sl.nil _ _, nolive, hqs, htw9.post hk10 fun k c => by subst c; exact ⟨hz1, ho3, ho4⟩⟩
    · rename_i h1 h3 hp
      have hm1 := Int.tmod_lt_of_pos f.2 hp
      have hm2 := Int.lt_tmod_of_pos f.2 hp
      have hm3 := Int.emod_nonneg (f.2.tmod (8 * (x.length : Int)) + 8 * (x.length : Int)) (show (8 * (x.length : Int)) ≠ 0 by omega)
      have hm4 := Int.emod_lt_of_pos (f.2.tmod (8 * (x.length : Int)) + 8 * (x.length : Int)) hp
      have hm5 := rem_fix f.2 hp
      rw [if_neg h1, if_pos h3, if_neg (fun c => by rw [c] at hp; simp at hp)]
      repeat' (first | (refine CL.seq ?_) | (refine CL.region ?_) | (refine CL.exit ?_) | (refine Ex.hit ?_) | (refine Ex.miss rfl ?_) | (refine Gt.nil ?_; refine RW.nilw [0, 1, 3, 4, 5, 6, 7, 8, 9, 38, 53, 54, 56, 58, 60, 67] ?_; dsimp only [H.keep, H.look, H.Fr.put, Nat.beq]) | (refine RW.setEl rfl rfl rfl how9 (by omega) (by omega) (fun _ => rfl) rfl (fun p w10 how10 hk10 => ?_)) | (refine Gt.move ?_; refine RW.y (Y.move rfl) rfl ?_) | (refine Gt.assign ?_; refine RW.y (Y.assign rfl) rfl ?_) | (refine Gt.rem ?_; (refine RW.y (Y.remP rfl rfl (by omega) (by omega)) rfl ?_)) | (refine Gt.add ?_; refine RW.y (Y.add64 rfl rfl (by omega) (by omega)) rfl ?_) | (refine Gt.idx ?_; (refine RW.elemM rfl rfl rfl rfl (by assumption) (by omega) (by omega) ?_)) | (refine Gt.quo ?_; refine RW.y (Y.quoP rfl rfl (by omega) (by omega) (by exact wrap64_id (by omega) (by omega))) rfl ?_) | (refine Gt.convert ?_; (refine RW.y (Y.convN rfl (by exact wrapu64_id (by omega) (by omega))) rfl ?_)) | (refine Gt.shl ?_; refine RW.y (Y.shl rfl rfl (by omega)) rfl ?_) | (refine Gt.xor ?_; refine RW.y (Y.bits (by exact .inr (.inr (.inl rfl))) rfl rfl) rfl ?_))
      rw [hm5] at hm3 hm4
      rw [hm5, bit_eq _ (by omega) (by omega)] at how10
      have hset : (bv x).set ((f.2 % (8 * (x.length : Int))) / 8).toNat (vb (xorBit (x.getD ((f.2 % (8 * (x.length : Int))) / 8).toNat 0) ((f.2 % (8 * (x.length : Int))) % 8).toNat)) = bv (spoilB x f.2) := by
        rw [spoilB]; exact List.map_set.symm
      have how11 := own_bytes how10 hset
      have hlt7 := htw.at_.lt
      have hsV := Sl.of_own how11
      have hb2V := hk10.at hb29 (fun c => by have := (how9.lt _ c).1; omega)
      have htV := htw9.post hk10 (fun k c => by
        have h1 := (how9.lt k c).1
        exact ⟨by omega, fun h => by have := hlt7 k (.inl h); omega, fun h => by have := hlt7 k (.inr h); omega⟩)
      have hvV := hv9
      have hvne : ∀ g, live v9 = some g → ¬ g = w1.heap.size := fun g hg c => by have := (how9.lt g (live_own hg)).1; omega
      obtain ⟨pV, cV, rfl, _⟩ := hsV.shape
      refine RW.y (Y.build (ps := [(1, _)]) (l := [_]) (c := #[.int .i64 0, .slice pV _ cV]) rfl rfl) rfl ?_
      refine RW.storeBlock rfl rfl rfl (fun z hz => by simp at hz; rcases hz with rfl | rfl <;> rfl) hb2V rfl (fun wV hbV hkV => ?_)
      repeat' (first | (refine CL.ret ?_) | (refine Gt.nil ?_; refine RW.nilw [0, 1, 3, 4, 5, 6, 7, 8, 9, 38, 53, 54, 56, 58, 60, 67] ?_; dsimp only [H.keep, H.look, H.Fr.put, Nat.beq]))
      exact FQ.res1 (v := _) rfl rfl ⟨⟨_, rfl, load_block (cs := [_, _]) hbV rfl⟩, trivial⟩ ⟨_, q', rfl, hsV.keep hkV hvne, hvV, hqs, htV.post hkV fun k c => by subst c; exact ⟨hz1, ho3, ho4⟩⟩
    · rename_i h1 h3 hp
      have hxn : x = [] := List.eq_nil_of_length_eq_zero (by omega)
      rw [if_neg h1, if_pos h3, if_pos hxn]
      have hsV := hs9
      have hb2V := hb29
      have htV := htw9
      have hvV := hv9
      have hvne : ∀ g, live v9 = some g → ¬ g = w1.heap.size := fun g hg c => by have := (how9.lt g (live_own hg)).1; omega
      have hl0 : x.length = 0 := by rw [hxn]; rfl
      rw [hxn] at hsV
      obtain ⟨pV, cV, rfl, _⟩ := hsV.shape
      refine RW.y (Y.build (ps := [(1, _)]) (l := [_]) (c := #[.int .i64 0, .slice pV _ cV]) rfl rfl) rfl ?_
      refine RW.storeBlock rfl rfl rfl (fun z hz => by simp at hz; rcases hz with rfl | rfl <;> rfl) hb2V rfl (fun wV hbV hkV => ?_)
      repeat' (first | (refine CL.ret ?_) | (refine Gt.nil ?_; refine RW.nilw [0, 1, 3, 4, 5, 6, 7, 8, 9, 38, 53, 54, 56, 58, 60, 67] ?_; dsimp only [H.keep, H.look, H.Fr.put, Nat.beq]))
      exact FQ.res1 (v := _) rfl rfl ⟨⟨_, rfl, load_block (cs := [_, _]) hbV rfl⟩, trivial⟩ ⟨_, q', rfl, hsV.keep hkV hvne, hvV, hqs, htV.post hkV fun k c => by subst c; exact ⟨hz1, ho3, ho4⟩⟩
    · rename_i h1 h3 h4
      rw [if_neg h1, if_neg h3, if_pos h4]
      refine RW.storeB rfl rfl rfl hb59 (by simp) (fun w10 hb10 hk10 => ?_)
      have hb10' : w10.heap[w4.heap.size]? = some (.cells #[.int .i64 f.1, .int .i64 (x.length : Int)] fltT (0, 0)) := hb10
      have hAlt : ∀ k, (live a = some k ∨ ∃ y ∈ A, live y.2 = some k) → k < w.heap.size := fun k hk => hlt k (.inr (.inr (by rw [ha, hA]; exact hk)))
      have hng : n.g < w.heap.size := hlt _ (.inl (.inl rfl))
      have hlt4 := ht.at_.lt
      simp only [hR, hA] at hlt4
      have hg10 := hk10.at hg9 (by omega)
      have hb110 := hk10.at hb19 (by omega)
      have hb210 := hk10.at hb29 (by omega)
      have har10 : GA arK w10 a A := GA.keep har9 hk10 fun g _ hg c => by have h5 := hAlt g hg; have h6 : g = w4.heap.size := c; omega
      have hsl10 : Sl w10 1 a A.length (A.map (·.2)) := by rw [← ar_enc]; exact har10.1
      have hs10 := hs9.keep hk10 fun g hg c => by have h5 := (how9.lt g (live_own hg)).1; have h6 : g = w4.heap.size := c; omega
      have htw10 := htw9.post hk10 (fun k c => by
        have h6 : k = w4.heap.size := c
        exact ⟨by omega, fun h => by have := hlt4 k (.inl h); omega, fun h => by have := hlt4 k (.inr h); omega⟩)
      have hA0 : (A.map (·.2))[Int.toNat 0 * 1]? = some (A.getD 0 default).2 := by simp [List.getD_eq_getElem?_getD, show 0 < A.length by omega]
      have hm0 : A.getD 0 default ∈ A := getD_mem default (by omega)
      have hD0 := har10.2 _ hm0
      have hy0 := hlen _ hm0
      have hz10 := hk10.size
      have hxsz : x.length ≤ (min (max sz 0) 64).toNat := by rw [← hx]; exact part_le _ _ _
      rw [getD_map (·.1) default [] A _ (by omega)]
      generalize hy0d : A.getD 0 default = y0 at *
      repeat' ((refine Gt.nil ?_; refine RW.nilw [0, 1, 3, 4, 5, 6, 7, 8, 9, 38, 53, 54, 56, 58, 60, 67] ?_; dsimp only [H.keep, H.look, H.Fr.put, Nat.beq]))
      refine CL.draw (fun w' => K0 w10 w') (by kernel_rfl) (fun w11 hheap11 hk11 => ?_)
      have hS : K0 w10 w11 := hk11
      skip
      refine AW.take 0 rfl (by kernel_rfl) (by kernel_rfl) (by kernel_rfl) rfl (by assumption) (fun w hS => Y.move rfl) ?_
      refine AW.take 1 rfl (by kernel_rfl) (by kernel_rfl) (by kernel_rfl) rfl (by assumption) (fun w hS => Y.nilck rfl) ?_
      refine AW.take 2 rfl (by kernel_rfl) (by kernel_rfl) (by kernel_rfl) rfl (by assumption) (fun w hS => Y.fieldAddr rfl (by rfl)) ?_
      refine AW.take 3 rfl (by kernel_rfl) (by kernel_rfl) (by kernel_rfl) rfl (by assumption) (fun w hS => Y.loadB rfl (hS.at0 hg10) rfl) ?_
      refine AW.take 4 rfl (by kernel_rfl) (by kernel_rfl) (by kernel_rfl) rfl (by assumption) (fun w hS => Y.idx rfl rfl (hsl10.keep0 hS) (by omega) (by omega)) ?_
      refine AW.take 5 rfl (by kernel_rfl) (by kernel_rfl) (by kernel_rfl) rfl (by assumption) (fun w hS => Y.load1 rfl ((hsl10.keep0 hS).cell hA0)) ?_
      refine AW.take 6 rfl (by kernel_rfl) (by kernel_rfl) (by kernel_rfl) rfl (by assumption) (fun w hS => Y.fieldAddr rfl (by rfl)) ?_
      refine AW.take 7 rfl (by kernel_rfl) (by kernel_rfl) (by kernel_rfl) rfl (by assumption) (fun w hS => Y.loadB rfl (hS.at0 hb110) rfl) ?_
      refine AW.take 8 rfl (by kernel_rfl) (by kernel_rfl) (by kernel_rfl) rfl (by assumption) (fun w hS => Y.move rfl) ?_
      refine AW.take 9 rfl (by kernel_rfl) (by kernel_rfl) (by kernel_rfl) rfl (by assumption) (fun w hS => Y.lenx rfl (hs10.keep0 hS)) ?_
      refine AW.next 10 rfl (by kernel_rfl) ?_
      refine RW.fn rfl rfl ((netPart y0.2 y0.1 off x.length w11 (arK.keep0 hD0 hk11) (by omega)).mono ?_)
      rintro e w12 ⟨hk12, v12, rfl, how12⟩
      refine RW.nil (Nm.then (rebase0 hS hk12 fun hS => ?_))
      refine AW.take 11 rfl (by kernel_rfl) (by kernel_rfl) (by kernel_rfl) rfl (by assumption) (fun w hS => Y.assign rfl) ?_
      refine AW.donew [0, 3, 4, 5, 7] (by kernel_rfl) ?_
      dsimp only [H.keep, H.look, H.Fr.put, Nat.beq]
      have hk1012 := hk11.trans0 hk12
      have hb512 := hk1012.at0 hb10'
      have hz11 := hk11.size
      have hs12 := Sl.of_own how12
      repeat' (first | (refine CL.seq ?_) | (refine CL.region ?_) | (refine CL.done ?_) | (refine Nm.block ?_) | (refine Gt.move ?_; refine RW.y (Y.move rfl) rfl ?_) | (refine Gt.load ?_; (refine RW.y (Y.loadB rfl (by assumption) rfl) rfl ?_)) | (refine Gt.fieldAddr ?_; refine RW.y (Y.fieldAddr rfl (by rfl)) rfl ?_) | (refine Gt.len ?_; (refine RW.y (Y.lenx rfl (by assumption)) rfl ?_)) | (refine Gt.call ?_; first | (refine RW.y (Y.max2 rfl rfl) rfl ?_) | (refine RW.y (Y.min2 rfl rfl) rfl ?_)))
      refine RW.subh rfl rfl rfl hs12 (by omega) (by omega) (fun v13 hs13 hv13 => ?_)
      have hsV : Sl w12 1 v13 ((partB y0.1 off sz).take x.length).length (bv ((partB y0.1 off sz).take x.length)) := by
        rw [bv_take, part_part _ _ _ _ hxsz] at hs13
        have e2 := hs13.len
        simp only [List.length_map, Nat.mul_one] at e2
        rw [e2]
        exact hs13
      have hb2V := hk1012.at0 hb210
      have htV := htw10.post hk1012 (fun k c => by cases c)
      have hvV : ∀ g, live v13 = some g → w.heap.size ≤ g := fun g hg => by have := (how12.lt g (live_own (hv13 g hg))).1; omega
      have hvne : ∀ g, live v13 = some g → ¬ g = w1.heap.size := fun g hg c => by have := (how12.lt g (live_own (hv13 g hg))).1; omega
      repeat' (first | (refine CL.seq ?_) | (refine CL.region ?_) | (refine CL.exit ?_) | (refine Ex.hit ?_) | (refine Gt.nil ?_; refine RW.nilw [0, 1, 3, 4, 5, 6, 7, 8, 9, 38, 53, 54, 56, 58, 60, 67] ?_; dsimp only [H.keep, H.look, H.Fr.put, Nat.beq]) | (refine Gt.move ?_; refine RW.y (Y.move rfl) rfl ?_) | (refine Gt.assign ?_; refine RW.y (Y.assign rfl) rfl ?_))
      obtain ⟨pV, cV, rfl, _⟩ := hsV.shape
      refine RW.y (Y.build (ps := [(1, _)]) (l := [_]) (c := #[.int .i64 0, .slice pV _ cV]) rfl rfl) rfl ?_
      refine RW.storeBlock rfl rfl rfl (fun z hz => by simp at hz; rcases hz with rfl | rfl <;> rfl) hb2V rfl (fun wV hbV hkV => ?_)
      repeat' (first | (refine CL.ret ?_) | (refine Gt.nil ?_; refine RW.nilw [0, 1, 3, 4, 5, 6, 7, 8, 9, 38, 53, 54, 56, 58, 60, 67] ?_; dsimp only [H.keep, H.look, H.Fr.put, Nat.beq]))
      exact FQ.res1 (v := _) rfl rfl ⟨⟨_, rfl, load_block (cs := [_, _]) hbV rfl⟩, trivial⟩ ⟨_, q', rfl, hsV.keep hkV hvne, hvV, hqs, htV.post hkV fun k c => by subst c; exact ⟨hz1, ho3, ho4⟩⟩
    · rename_i h1 h3 h4 h2
      rw [if_neg h1, if_neg h3, if_neg h4, if_pos h2]
      refine RW.subh rfl rfl rfl hs9 (by omega) (by omega) (fun v10 hs10 hv10 => ?_)
      have hsV : Sl w9 1 v10 (x.take (max f.2 0).toNat).length (bv (x.take (max f.2 0).toNat)) := by
        rw [bv_take] at hs10
        have e1 : x.take (min (max f.2 0) (x.length : Int)).toNat = x.take (max f.2 0).toNat := by
          rcases Int.le_total (max f.2 0) x.length with h | h
          · rw [show min (max f.2 0) (x.length : Int) = max f.2 0 from by omega]
          · rw [List.take_of_length_le (by omega), List.take_of_length_le (by omega)]
        rw [e1] at hs10
        have e2 := hs10.len
        simp only [List.length_map, Nat.mul_one] at e2
        rw [e2]
        exact hs10
      have hb2V := hb29
      have htV := htw9
      have hvV : ∀ g, live v10 = some g → w.heap.size ≤ g := fun g hg => hv9 g (hv10 g hg)
      have hvne : ∀ g, live v10 = some g → ¬ g = w1.heap.size := fun g hg c => by have := (how9.lt g (live_own (hv10 g hg))).1; omega
      repeat' (first | (refine CL.seq ?_) | (refine CL.region ?_) | (refine CL.exit ?_) | (refine Ex.hit ?_) | (refine Gt.nil ?_; refine RW.nilw [0, 1, 3, 4, 5, 6, 7, 8, 9, 38, 53, 54, 56, 58, 60, 67] ?_; dsimp only [H.keep, H.look, H.Fr.put, Nat.beq]) | (refine Gt.move ?_; refine RW.y (Y.move rfl) rfl ?_) | (refine Gt.assign ?_; refine RW.y (Y.assign rfl) rfl ?_))
      obtain ⟨pV, cV, rfl, _⟩ := hsV.shape
      refine RW.y (Y.build (ps := [(1, _)]) (l := [_]) (c := #[.int .i64 0, .slice pV _ cV]) rfl rfl) rfl ?_
      refine RW.storeBlock rfl rfl rfl (fun z hz => by simp at hz; rcases hz with rfl | rfl <;> rfl) hb2V rfl (fun wV hbV hkV => ?_)
      repeat' (first | (refine CL.ret ?_) | (refine Gt.nil ?_; refine RW.nilw [0, 1, 3, 4, 5, 6, 7, 8, 9, 38, 53, 54, 56, 58, 60, 67] ?_; dsimp only [H.keep, H.look, H.Fr.put, Nat.beq]))
      exact FQ.res1 (v := _) rfl rfl ⟨⟨_, rfl, load_block (cs := [_, _]) hbV rfl⟩, trivial⟩ ⟨_, q', rfl, hsV.keep hkV hvne, hvV, hqs, htV.post hkV fun k c => by subst c; exact ⟨hz1, ho3, ho4⟩⟩
    · rename_i h1 h3 h4 h2
      rw [if_neg h1, if_neg h3, if_neg h4, if_neg h2]
      have hsV := hs9
      have hb2V := hb29
      have htV := htw9
      have hvV := hv9
      have hvne : ∀ g, live v9 = some g → ¬ g = w1.heap.size := fun g hg c => by have := (how9.lt g (live_own hg)).1; omega
      obtain ⟨pV, cV, rfl, _⟩ := hsV.shape
      refine RW.y (Y.build (ps := [(1, _)]) (l := [_]) (c := #[.int .i64 0, .slice pV _ cV]) rfl rfl) rfl ?_
      refine RW.storeBlock rfl rfl rfl (fun z hz => by simp at hz; rcases hz with rfl | rfl <;> rfl) hb2V rfl (fun wV hbV hkV => ?_)
      repeat' (first | (refine CL.ret ?_) | (refine Gt.nil ?_; refine RW.nilw [0, 1, 3, 4, 5, 6, 7, 8, 9, 38, 53, 54, 56, 58, 60, 67] ?_; dsimp only [H.keep, H.look, H.Fr.put, Nat.beq]))
      exact FQ.res1 (v := _) rfl rfl ⟨⟨_, rfl, load_block (cs := [_, _]) hbV rfl⟩, trivial⟩ ⟨_, q', rfl, hsV.keep hkV hvne, hvV, hqs, htV.post hkV fun k c => by subst c; exact ⟨hz1, ho3, ho4⟩⟩
end Go.Proofs.Ytlbegmpikggmlaa.Ne

namespace Go.Proofs.Ytlbegmpikggmlaa.Ne
open Go.RowKit H S Ve Sp
attribute [local irreducible] H.CL H.RW H.CW H.Yd H.thenK H.blockQ Go.Calls

abbrev rnetT : TypeId := 56
theorem rem_neg {n m : Int} (hm : 0 < m) (h : n.tmod m < 0) : n.tmod m + m = n % m := by
  have h1 := rem_fix n hm
  have h2 := Int.lt_tmod_of_pos n hm
  rw [← h1]
  exact (Int.emod_eq_of_lt (by omega) (by omega)).symm
theorem rem_pos {n m : Int} (hm : 0 < m) (h : ¬ n.tmod m < 0) : n.tmod m = n % m := by
  have h1 := rem_fix n hm
  have h2 := Int.tmod_lt_of_pos n hm
  rw [← h1, Int.add_emod_right]
  exact (Int.emod_eq_of_lt (by omega) (by omega)).symm
set_option maxHeartbeats 4000000 in
theorem refGet (n : Nt) (nm : T) (x0 : Ver) (pv : Value) (off sz : Int) (w : World) (h : NetAt rnetT w n) (hF : n.F.length ≤ 1000) (hc : n.c ≤ 1000000) (hpv : Sl w 1 pv x0.pre.length (sv x0.pre)) (hpw : ∀ g, live pv = some g → ¬ n.Wr g) (fx : Fit x0) : Calls Try.prog 15 #[.pointer (some ⟨n.g, 0, none⟩), .agg (askC nm x0 pv off sz)] w fun e w' => ∃ v q', e = .returned (.agg #[.int .i64 (replyB (n.A.map (·.1)) (arcOf nm x0 n.R (n.A.map (·.1))) (hdF n.F) off sz).1, v]) ∧ Sl w' 1 v (replyB (n.A.map (·.1)) (arcOf nm x0 n.R (n.A.map (·.1))) (hdF n.F) off sz).2.length (bv (replyB (n.A.map (·.1)) (arcOf nm x0 n.R (n.A.map (·.1))) (hdF n.F) off sz).2) ∧ (∀ g, live v = some g → w.heap.size ≤ g) ∧ (∀ k, q'.ownBlock = some k → n.q.ownBlock = some k) ∧ Turned rnetT w w' n { n with F := n.F.tail, q := q', c := n.c + 1 } := by
  refine H.enter Try.func15 Try.ntmps15 rfl rfl ?_; dsimp only [H.args]
  have hlt := h.lt
  repeat' (first | (refine CL.seq ?_) | (refine CL.region ?_))
  refine RW.box rfl rfl (fun w1 hb1 hk1 hlt1 => ?_)
  have hb1' : w1.heap[w.heap.size]? = some (.cells (askC nm x0 pv off sz) askT (0, 0)) := hb1
  skip
  refine RW.alloc rfl (fun w2 hb2 hk2 hlt2 => ?_)
  have hb2' : w2.heap[w1.heap.size]? = some (.cells #[.int .i64 0, .slice none 0 0] gotT (0, 0)) := hb2
  repeat' (first | (refine CL.seq ?_) | (refine CL.region ?_) | (refine Gt.nil ?_; refine RW.nilw [0, 1, 3, 4, 5, 6, 7, 8, 9, 10, 11, 17, 56, 65, 66, 69, 79, 85, 91, 105] ?_; dsimp only [H.keep, H.look, H.Fr.put, Nat.beq]))
  refine RW.alloc rfl (fun w3 hb3 hk3 hlt3 => ?_)
  have hb3' : w3.heap[w2.heap.size]? = some (.cells #[.int .i64 0, .int .i64 0] fltT (0, 0)) := hb3
  have hK3 := (hk1.trans0 hk2).trans0 hk3
  have hz1 := hk1.size
  have hz2 := hk2.size
  have h3 := h.keep0 hK3
  have hg3 := h3.at_
  have hg0 : n.g < w.heap.size := hlt _ (.inl (.inl rfl))
  obtain ⟨p, cap, hqe, hcap⟩ := h3.flt.shape
  have hfl3 := h3.flt
  rw [hqe] at hg3 hfl3
  have hsl3 := hfl3.sl
  obtain ⟨F, hFe⟩ : ∃ F, n.F = F := ⟨_, rfl⟩
  rw [hFe] at hg3 hfl3 hsl3 hcap hF
  repeat' (first | (refine CL.seq ?_) | (refine Gt.nil ?_; refine RW.nilw [0, 1, 3, 4, 5, 6, 7, 8, 9, 10, 11, 17, 56, 65, 66, 69, 79, 85, 91, 105] ?_; dsimp only [H.keep, H.look, H.Fr.put, Nat.beq]))
  refine CL.region ?_
  repeat' (first | (refine Gt.nil ?_; refine RW.nilw [0, 1, 3, 4, 5, 6, 7, 8, 9, 10, 11, 17, 56, 65, 66, 69, 79, 85, 91, 105] ?_; dsimp only [H.keep, H.look, H.Fr.put, Nat.beq]) | (refine Gt.move ?_; refine RW.y (Y.move rfl) rfl ?_) | (refine Gt.load ?_; (refine RW.y (Y.loadB rfl (by assumption) rfl) rfl ?_)) | (refine Gt.fieldAddr ?_; refine RW.y (Y.fieldAddr rfl (by rfl)) rfl ?_) | (refine Gt.nilck ?_; refine RW.y (Y.nilck rfl) rfl ?_) | (refine Gt.len ?_; (refine RW.y (Y.lenv rfl) rfl ?_)) | (refine Gt.gtr ?_; refine RW.y (Y.gtr rfl rfl) rfl ?_))
  refine CL.cutS [0, 3, 4, 5] (fun vals wx => ∃ q', vals = [.pointer (some ⟨n.g, 0, none⟩), .pointer (some ⟨w.heap.size, 0, none⟩), .pointer (some ⟨w1.heap.size, 0, none⟩), .pointer (some ⟨w2.heap.size, 0, none⟩)] ∧ wx.heap[w2.heap.size]? = some (.cells #[.int .i64 (hdF F).1, .int .i64 (hdF F).2] fltT (0, 0)) ∧ (∀ k, q'.ownBlock = some k → n.q.ownBlock = some k) ∧ (∀ k, w.heap.size ≤ k → k < w2.heap.size → wx.heap[k]? = w3.heap[k]?) ∧ w3.heap.size ≤ wx.heap.size ∧ Turned rnetT w wx n { n with F := F.tail, q := q' }) (by simp) ?_ ?_
  · rcases Nat.eq_zero_or_pos F.length with h0 | h0
    · have hFn : F = [] := List.eq_nil_of_length_eq_zero h0
      repeat' (first | (refine CL.skip ?_) | (refine CL.condP rfl (fun _ => ?_) (fun _ => ?_) <;> try (exfalso; omega)) | (refine CL.done ?_) | (refine Nm.then ?_))
      refine ⟨_, rfl, rfl, rfl, n.q, rfl, by rw [hFn]; exact hb3', (fun k hk => hk), (fun _ _ _ => rfl), Nat.le_refl _, ?_⟩
      have e : ({ n with F := F.tail, q := n.q } : Nt) = n := by cases n; simp only at hFe; subst hFe; simp [hFn]
      rw [e]
      exact Turned.pre hK3 ⟨h3, rfl, Kept.refl _ _, fun k hk => .inl hk, fun k hk => .inl hk⟩
    · obtain ⟨x, hx⟩ : ∃ x, F.getD (Int.toNat 0) default = x := ⟨_, rfl⟩
      have hxh : hdF F = x := by cases F with
        | nil => simp at h0
        | cons y F => exact hx
      have htl : F.tail.length = F.length - 1 := by simp
      have hq : ¬ (Value.slice p F.length cap).ownBlock = some n.g := by rw [← hFe, ← hqe]; exact h.qg
      have hqlt : ∀ k, (Value.slice p F.length cap).ownBlock = some k → k < w.heap.size := fun k hk => hlt k (.inl (.inr (by rw [hqe, hFe]; exact hk)))
      repeat' (first | (refine CL.seq ?_) | (refine CL.region ?_) | (refine CL.condP rfl (fun _ => ?_) (fun _ => ?_) <;> try (exfalso; omega)) | (refine Gt.move ?_; refine RW.y (Y.move rfl) rfl ?_) | (refine Gt.load ?_; (refine RW.y (Y.loadB rfl (by assumption) rfl) rfl ?_)) | (refine Gt.fieldAddr ?_; refine RW.y (Y.fieldAddr rfl (by rfl)) rfl ?_) | (refine Gt.nilck ?_; refine RW.y (Y.nilck rfl) rfl ?_) | (refine Gt.idx ?_; (refine RW.elemA rfl rfl rfl rfl (by assumption) (fun _ => by rfl) rfl (by omega) (by omega) (fun _ => ?_))))
      rw [hx]
      refine RW.storeBlock rfl rfl rfl (fun z hz => by simp [fltC] at hz; rcases hz with rfl | rfl <;> rfl) hb3' rfl (fun w4 hb4 hk4 => ?_)
      have hb' := hk4.at hg3 (by omega)
      have hb4' : w4.heap[w2.heap.size]? = some (.cells #[.int .i64 x.1, .int .i64 x.2] fltT (0, 0)) := hb4
      have hfl4 := hfl3.keep hk4 (fun k hk c => by have h1 := hqlt k hk; have h2 : k = w2.heap.size := c; omega)
      repeat' (first | (refine CL.region ?_) | (refine Gt.nil ?_; refine RW.nilw [0, 1, 3, 4, 5, 6, 7, 8, 9, 10, 11, 17, 56, 65, 66, 69, 79, 85, 91, 105] ?_; dsimp only [H.keep, H.look, H.Fr.put, Nat.beq]) | (refine Gt.move ?_; refine RW.y (Y.move rfl) rfl ?_) | (refine Gt.load ?_; (refine RW.y (Y.loadB rfl (by assumption) rfl) rfl ?_)) | (refine Gt.fieldAddr ?_; refine RW.y (Y.fieldAddr rfl (by rfl)) rfl ?_) | (refine Gt.nilck ?_; refine RW.y (Y.nilck rfl) rfl ?_))
      refine RW.y (Y.from rfl rfl (by omega) (by omega) (by omega)) rfl ?_
      have hfr := hfl4.from (a := 1) (by omega)
      repeat' (first | (refine Gt.fieldAddr ?_; refine RW.y (Y.fieldAddr rfl (by rfl)) rfl ?_) | (refine Gt.nilck ?_; refine RW.y (Y.nilck rfl) rfl ?_))
      refine RW.storeB rfl rfl hfr.sl.one hb' (by simp) (fun w5 hb5 hk5 => ?_)
      have hb55 : w5.heap[w2.heap.size]? = some (.cells #[.int .i64 x.1, .int .i64 x.2] fltT (0, 0)) := hk5.at hb4' (by omega)
      repeat' (first | (refine CL.done ?_) | (refine Nm.then ?_) | (refine Gt.nil ?_; refine RW.nilw [0, 1, 3, 4, 5, 6, 7, 8, 9, 10, 11, 17, 56, 65, 66, 69, 79, 85, 91, 105] ?_; dsimp only [H.keep, H.look, H.Fr.put, Nat.beq]))
      have hkn : Kept n.Wr w4 w5 := hk5.mono fun k h => .inl h
      have hz4 := hk4.size
      have hsub : ∀ k, (Value.slice (if cap = 1 then p else p.map (·.add (1 * 2))) (F.length - 1) (cap - 1)).ownBlock = some k → (Value.slice p F.length cap).ownBlock = some k := fun k hk => by
        cases p with
        | none => split at hk <;> simp [Value.ownBlock] at hk
        | some p =>
          split at hk
          · exact hk
          · simpa [Value.ownBlock, add_block] using hk
      have h4 : NetAt rnetT w4 n := h3.keep hk4 (fun k _ hk c => by have h1 := hlt k hk; have h2 : k = w2.heap.size := c; omega)
      have ht : Turned rnetT w4 w5 n { n with F := F.tail, q := (Value.slice (if cap = 1 then p else p.map (·.add (1 * 2))) (F.length - 1) (cap - 1)) } := by
        refine h4.put hkn hb5 rfl (GA.keep h4.rows hkn fun g _ hg c => h.sep g c (.inl hg)) rfl rfl ?_ h.fit h.rl (fun k hk => .inl (by rw [hqe, hFe]; exact hsub k hk)) (fun k hk => .inl (.inl hk)) (fun k hk hw hd => by have := hlt k (.inr (.inl hd)); omega)
        show Tl w5 0 fltT 2 _ F.tail.length (F.tail.flatMap fltC)
        have e1 : F.tail.flatMap fltC = (F.flatMap fltC).drop (1 * 2) := by cases F with
          | nil => rfl
          | cons y F => rfl
        rw [e1, htl]
        exact hfr.keep hk5 fun k hk c => hq (by rw [← c]; exact hsub k hk)
      exact ⟨_, rfl, rfl, rfl, _, rfl, by rw [hxh]; exact hb55, (fun k hk => by rw [hqe, hFe]; exact hsub k hk), (fun k h1 h2 => (hk5.block k (by omega) (by omega)).trans (hk4.block k (by omega) (by omega))), by have := hk5.size; omega, Turned.pre (hK3.trans hk4 fun k h => .inr (by omega)) ht⟩
  · rintro vals w4 ⟨q', rfl, hb54, hqs, hblk, hz34, ht4⟩
    have hqlt : ∀ k, q'.ownBlock = some k → k < w.heap.size := fun k hk => hlt k (.inl (.inr (hqs k hk)))
    dsimp only [List.zip, List.zipWith]
    obtain ⟨f, hf⟩ : ∃ f, hdF F = f := ⟨_, rfl⟩
    rw [hFe, hf]
    rw [hf] at hb54
    obtain ⟨n4, hn4⟩ : ∃ n4 : Nt, n4 = { n with F := F.tail, q := q' } := ⟨_, rfl⟩
    have hg4 : w4.heap[n.g]? = some (.cells #[n.u, n.a, q', .int .i64 (n.c : Int)] rnetT (0, 0)) := ht4.at_.at_
    have hq4 : q'.ownBlock ≠ some n.g := ht4.at_.qg
    repeat' ((refine CL.seq ?_))
    refine CL.region ?_
    repeat' (first | (refine Gt.move ?_; refine RW.y (Y.move rfl) rfl ?_) | (refine Gt.load ?_; (refine RW.y (Y.loadB rfl (by assumption) rfl) rfl ?_)) | (refine Gt.fieldAddr ?_; refine RW.y (Y.fieldAddr rfl (by rfl)) rfl ?_) | (refine Gt.nilck ?_; refine RW.y (Y.nilck rfl) rfl ?_) | (refine Gt.add ?_; refine RW.y (Y.add64 rfl rfl (by omega) (by omega)) rfl ?_))
    refine RW.storeB rfl rfl rfl hg4 (by simp) (fun w5 hb5 hk5 => ?_)
    have ht45 : Turned rnetT w4 w5 { n with F := F.tail, q := q' } { n with F := F.tail, q := q', c := n.c + 1 } := by
      have h4 := ht4.at_
      have hk : Kept (Nt.Wr { n with F := F.tail, q := q' }) w4 w5 := hk5.mono fun k h => .inl h
      refine h4.put hk (by rw [show ((n.c + 1 : Nat) : Int) = (n.c : Int) + 1 from by omega]; exact hb5) rfl (GA.keep h4.rows hk fun g _ hg c => h4.sep g c (.inl hg)) rfl rfl (h4.flt.keep hk5 fun k hk c => h4.qg (by rw [hk, c])) h4.fit h4.rl (fun k hk => .inl hk) (fun k hk => .inl (.inl hk)) (fun k hk hw hd => by have := h4.lt k (.inr (.inl hd)); omega)
    have ht := ht4.trans ht45
    have hcw : Kept n.Wr w w5 := ht.kept
    obtain ⟨R, hR⟩ : ∃ R, n.R = R := ⟨_, rfl⟩
    obtain ⟨A, hA⟩ : ∃ A, n.A = A := ⟨_, rfl⟩
    obtain ⟨u, hu⟩ : ∃ u, n.u = u := ⟨_, rfl⟩
    obtain ⟨a, ha⟩ : ∃ a, n.a = a := ⟨_, rfl⟩
    have ho3 : ¬ Nt.Wr { n with F := F.tail, q := q', c := n.c + 1 } w1.heap.size := fun c => c.elim (fun c => by have : w1.heap.size = n.g := c; omega) fun c => by have := hqlt _ c; omega
    have ho4 : ¬ Nt.Rd { n with F := F.tail, q := q', c := n.c + 1 } w1.heap.size := fun c => by have := hlt _ (.inr c); omega
    have hlt5 : ∀ k, (Nt.Wr { n with F := F.tail, q := q', c := n.c + 1 } k ∨ Nt.Rd { n with F := F.tail, q := q', c := n.c + 1 } k) → k < w.heap.size := fun k hk => hk.elim (fun c => c.elim (fun c => by have : k = n.g := c; omega) fun c => hqlt _ c) fun c => hlt _ (.inr c)
    have htw := ht
    have hg5 : w5.heap[n.g]? = some (.cells #[u, a, q', .int .i64 ((n.c + 1 : Nat) : Int)] rnetT (0, 0)) := by rw [← hu, ← ha]; exact ht.at_.at_
    have hrw : GA rwK w5 u R := by rw [← hu, ← hR]; exact ht.at_.rows
    have har : GA arK w5 a A := by rw [← ha, ← hA]; exact ht.at_.arcs
    have hfit : ∀ x ∈ R, FitR x := by rw [← hR]; exact h.fit
    have hlen : ∀ y ∈ A, y.1.length ≤ 30000 := by rw [← hA]; exact h.len
    have hrl : R.length ≤ 100 := by rw [← hR]; exact h.rl
    have hal : A.length ≤ 100 := by rw [← hA]; exact h.al
    have hsl : Sl w5 1 a A.length (A.map (·.2)) := by rw [← ar_enc]; exact har.1
    have hk35 : ∀ k, w.heap.size ≤ k → k < w3.heap.size → True := fun _ _ _ => trivial
    have hb15 : w5.heap[w.heap.size]? = some (.cells (askC nm x0 pv off sz) askT (0, 0)) := hk5.at ((hblk _ (Nat.le_refl _) (by omega)).trans ((hk2.trans0 hk3).at0 hb1')) (by omega)
    have hb25 : w5.heap[w1.heap.size]? = some (.cells #[.int .i64 0, .slice none 0 0] gotT (0, 0)) := hk5.at ((hblk _ hz1 (by omega)).trans (hk3.at0 hb2')) (by omega)
    have hb55 : w5.heap[w2.heap.size]? = some (.cells #[.int .i64 f.1, .int .i64 f.2] fltT (0, 0)) := hk5.at hb54 (by omega)
    have hpv5 : Sl w5 1 pv x0.pre.length (sv x0.pre) := hpv.keep hcw fun g hg => hpw g hg
    rw [hR, hA]
    simp only [hR, hA] at htw ho3 ho4 hlt5
    repeat' (first | (refine CL.seq ?_) | (refine Gt.nil ?_; refine RW.nilw [0, 1, 3, 4, 5, 6, 7, 8, 9, 10, 11, 17, 56, 65, 66, 69, 79, 85, 91, 105] ?_; dsimp only [H.keep, H.look, H.Fr.put, Nat.beq]))
    refine CL.draw (fun w' => K0 w5 w') (by kernel_rfl) (fun w6 hheap hk6 => ?_)
    have hS : K0 w5 w6 := hk6
    skip
    refine AW.take 0 rfl (by kernel_rfl) (by kernel_rfl) (by kernel_rfl) rfl (by assumption) (fun w hS => Y.move rfl) ?_
    refine AW.take 1 rfl (by kernel_rfl) (by kernel_rfl) (by kernel_rfl) rfl (by assumption) (fun w hS => Y.nilck rfl) ?_
    refine AW.take 2 rfl (by kernel_rfl) (by kernel_rfl) (by kernel_rfl) rfl (by assumption) (fun w hS => Y.fieldAddr rfl (by rfl)) ?_
    refine AW.take 3 rfl (by kernel_rfl) (by kernel_rfl) (by kernel_rfl) rfl (by assumption) (fun w hS => Y.loadB rfl (hS.at0 hg5) rfl) ?_
    refine AW.take 4 rfl (by kernel_rfl) (by kernel_rfl) (by kernel_rfl) rfl (by assumption) (fun w hS => Y.move rfl) ?_
    refine AW.take 5 rfl (by kernel_rfl) (by kernel_rfl) (by kernel_rfl) rfl (by assumption) (fun w hS => Y.nilck rfl) ?_
    refine AW.take 6 rfl (by kernel_rfl) (by kernel_rfl) (by kernel_rfl) rfl (by assumption) (fun w hS => Y.fieldAddr rfl (by rfl)) ?_
    refine AW.take 7 rfl (by kernel_rfl) (by kernel_rfl) (by kernel_rfl) rfl (by assumption) (fun w hS => Y.loadB rfl (hS.at0 hg5) rfl) ?_
    refine AW.take 8 rfl (by kernel_rfl) (by kernel_rfl) (by kernel_rfl) rfl (by assumption) (fun w hS => Y.fieldAddr rfl (by rfl)) ?_
    refine AW.take 9 rfl (by kernel_rfl) (by kernel_rfl) (by kernel_rfl) rfl (by assumption) (fun w hS => Y.loadB rfl (hS.at0 hb15) rfl) ?_
    refine AW.take 10 rfl (by kernel_rfl) (by kernel_rfl) (by kernel_rfl) rfl (by assumption) (fun w hS => Y.fieldAddr rfl (by rfl)) ?_
    refine AW.take 11 rfl (by kernel_rfl) (by kernel_rfl) (by kernel_rfl) rfl (by assumption) (fun w hS => Y.loadN (cs := [_, _, _, _]) rfl rfl (blkSub (hS.at0 hb15) (askV nm x0 pv off sz))) ?_
    refine AW.next 12 rfl (by kernel_rfl) ?_
    refine RW.fn rfl rfl ((refArc u a _ R A nm x0 w6 (hrw.keep0 hk6) (har.keep0 hk6) hfit ⟨pv, rfl, hpv5.keep0 hk6⟩ fx (by omega)).mono ?_)
    rintro e w7 ⟨hk7, vb7, rfl, hvb7⟩
    refine RW.nil (Nm.then (rebase0 hS hk7 fun hS => ?_))
    refine AW.take 13 rfl (by kernel_rfl) (by kernel_rfl) (by kernel_rfl) rfl (by assumption) (fun w hS => Y.move rfl) ?_
    refine AW.take 14 rfl (by kernel_rfl) (by kernel_rfl) (by kernel_rfl) rfl (by assumption) (fun w hS => Y.extract rfl rfl) ?_
    refine AW.take 15 rfl (by kernel_rfl) (by kernel_rfl) (by kernel_rfl) rfl (by assumption) (fun w hS => Y.extract rfl rfl) ?_
    refine AW.take 16 rfl (by kernel_rfl) (by kernel_rfl) (by kernel_rfl) rfl (by assumption) (fun w hS => Y.assign rfl) ?_
    refine AW.take 17 rfl (by kernel_rfl) (by kernel_rfl) (by kernel_rfl) rfl (by assumption) (fun w hS => Y.assign rfl) ?_
    refine AW.donew [0, 3, 4, 5, 6, 7] (by kernel_rfl) ?_
    dsimp only [H.keep, H.look, H.Fr.put, Nat.beq]
    have hK7 := hk6.trans0 hk7
    have hg7 := hK7.at0 hg5
    have hb17 := hK7.at0 hb15
    have hb27 := hK7.at0 hb25
    have hb57 := hK7.at0 hb55
    have har7 := har.keep0 hK7
    have hsl7 := hsl.keep0 hK7
    replace htw := htw.post hK7 (fun k c => by cases c)
    have hz7 := hK7.size
    have hz5 : w3.heap.size ≤ w5.heap.size := by have := hk5.size; omega
    obtain ⟨o, hoe⟩ : ∃ o, arcOf nm x0 R (A.map (·.1)) = o := ⟨_, rfl⟩
    have hpos : ∀ b, o = some b → 0 < A.length ∧ b.length ≤ 30000 := fun b hb => by
      rw [hb, arcOf] at hoe
      split at hoe
      · rename_i hc
        rw [List.length_map] at hc
        simp only [Option.some.injEq] at hoe
        rw [getD_map (·.1) default [] A _ (by omega)] at hoe
        exact ⟨by omega, by rw [← hoe]; exact hlen _ (getD_mem default (by omega))⟩
      · cases hoe
    rw [hoe] at hvb7
    rw [hoe]
    cases o with
    | none =>
      simp only [Option.isSome_none]
      repeat' (first | (refine CL.seq ?_) | (refine CL.region ?_) | (refine CL.condT rfl ?_) | (refine Gt.nil ?_; refine RW.nilw [0, 1, 3, 4, 5, 6, 7, 8, 9, 10, 11, 17, 56, 65, 66, 69, 79, 85, 91, 105] ?_; dsimp only [H.keep, H.look, H.Fr.put, Nat.beq]) | (refine Gt.move ?_; refine RW.y (Y.move rfl) rfl ?_) | (refine Gt.not ?_; (refine RW.y (Y.notb rfl) rfl ?_)) | (refine RW.y (Y.build (ps := [(0, _)]) rfl rfl) rfl ?_))
      refine RW.storeBlock rfl rfl rfl (by decide) hb27 rfl (fun w8 hb8 hk8 => ?_)
      repeat' (first | (refine CL.ret ?_) | (refine Gt.nil ?_; refine RW.nilw [0, 1, 3, 4, 5, 6, 7, 8, 9, 10, 11, 17, 56, 65, 66, 69, 79, 85, 91, 105] ?_; dsimp only [H.keep, H.look, H.Fr.put, Nat.beq]))
      exact FQ.res1 (v := _) rfl rfl ⟨⟨_, rfl, load_block (cs := [_, _]) hb8 rfl⟩, trivial⟩ ⟨.slice none 0 0, q', rfl, Sl.nil _ _, nolive, hqs, htw.post hk8 fun k c => by subst c; exact ⟨hz1, ho3, ho4⟩⟩
    | some b =>
      simp only [Option.isSome_some]
      have hb7 := hvb7 b rfl
      obtain ⟨hA0, hbl⟩ := hpos b rfl
      repeat' (first | (refine CL.seq ?_) | (refine CL.region ?_) | (refine CL.skip ?_) | (refine CL.condF rfl ?_) | (refine Gt.nil ?_; refine RW.nilw [0, 1, 3, 4, 5, 6, 7, 8, 9, 10, 11, 17, 56, 65, 66, 69, 79, 85, 91, 105] ?_; dsimp only [H.keep, H.look, H.Fr.put, Nat.beq]) | (refine Gt.move ?_; refine RW.y (Y.move rfl) rfl ?_) | (refine Gt.load ?_; (refine RW.y (Y.loadB rfl (by assumption) rfl) rfl ?_)) | (refine Gt.fieldAddr ?_; refine RW.y (Y.fieldAddr rfl (by rfl)) rfl ?_) | (refine Gt.not ?_; (refine RW.y (Y.notb rfl) rfl ?_)))
      refine RW.fn rfl rfl ((refPart vb7 b off sz w7 hb7 (by omega)).mono ?_)
      rintro e w9 ⟨hk9, v9, rfl, how9⟩
      have hg9 := hk9.at0 hg7
      have hb19 := hk9.at0 hb17
      have hb29 := hk9.at0 hb27
      have hb59 := hk9.at0 hb57
      have har9 := har7.keep0 hk9
      have hsl9 := hsl7.keep0 hk9
      have htw9 := htw.post hk9 (fun k c => by cases c)
      have hxl := (partB_len b off sz).1
      have hxsz := part_le b off sz
      obtain ⟨x, hx⟩ : ∃ x, partB b off sz = x := ⟨_, rfl⟩
      simp only [replyB, hx]
      rw [hx] at how9 hxl hxsz
      have hs9 := Sl.of_own how9
      have hz9 := hk9.size
      have hv9 : ∀ g, live v9 = some g → w.heap.size ≤ g := fun g hg => by have := (how9.lt g (live_own hg)).1; omega
      have hvne9 : ∀ g, live v9 = some g → ¬ g = w1.heap.size := fun g hg c => by have := (how9.lt g (live_own hg)).1; omega
      repeat' (first | (refine CL.seq ?_) | (refine CL.region ?_) | (refine CL.skip ?_) | (refine CL.condP rfl (fun _ => ?_) (fun _ => ?_) <;> try (exfalso; omega)) | (refine CL.block ?_) | (refine CL.done ?_) | (refine Nm.block ?_) | (refine Gt.nil ?_; refine RW.nilw [0, 1, 3, 4, 5, 6, 7, 8, 9, 10, 11, 17, 56, 65, 66, 69, 79, 85, 91, 105] ?_; dsimp only [H.keep, H.look, H.Fr.put, Nat.beq]) | (refine Gt.move ?_; refine RW.y (Y.move rfl) rfl ?_) | (refine Gt.load ?_; (refine RW.y (Y.loadB rfl (by assumption) rfl) rfl ?_)) | (refine Gt.fieldAddr ?_; refine RW.y (Y.fieldAddr rfl (by rfl)) rfl ?_) | (refine Gt.assign ?_; refine RW.y (Y.assign rfl) rfl ?_) | (refine Gt.len ?_; (refine RW.y (Y.lenx rfl (by assumption)) rfl ?_)) | (refine Gt.eql ?_; refine RW.y (Y.eqi rfl rfl) rfl ?_) | (refine Gt.gtr ?_; refine RW.y (Y.gtr rfl rfl) rfl ?_) | (refine Gt.call ?_; first | (refine RW.y (Y.min2 rfl rfl) rfl ?_) | (refine RW.y (Y.max2 rfl rfl) rfl ?_)) | (refine Gt.rem ?_; (refine RW.y (Y.rem rfl rfl (by omega)) rfl ?_)) | (refine Gt.mul ?_; (refine RW.y (Y.mul64 rfl rfl (by omega) (by omega)) rfl ?_)) | (refine Gt.lss ?_; refine RW.y (Y.lss rfl rfl) rfl ?_) | (refine RW.y (Y.build (ps := [(0, _)]) rfl rfl) rfl ?_))
      · rename_i h1
        rw [if_pos h1]
        refine RW.storeBlock rfl rfl rfl (by decide) hb29 rfl (fun w10 hb10 hk10 => ?_)
        repeat' (first | (refine CL.ret ?_) | (refine Rt.block ?_) | (refine Gt.nil ?_; refine RW.nilw [0, 1, 3, 4, 5, 6, 7, 8, 9, 10, 11, 17, 56, 65, 66, 69, 79, 85, 91, 105] ?_; dsimp only [H.keep, H.look, H.Fr.put, Nat.beq]))
        exact FQ.res1 (v := _) rfl rfl ⟨⟨_, rfl, load_block (cs := [_, _]) hb10 rfl⟩, trivial⟩ ⟨.slice none 0 0, q', rfl, Sl.nil _ _, nolive, hqs, htw9.post hk10 fun k c => by subst c; exact ⟨hz1, ho3, ho4⟩⟩
      · rename_i h1 h2
        rw [if_neg h1, if_neg (by omega), if_neg (by omega), if_pos h2]
        refine RW.subh rfl rfl rfl hs9 (by omega) (by omega) (fun v10 hs10 hv10 => ?_)
        have hsV : Sl w9 1 v10 (x.take (max f.2 0).toNat).length (bv (x.take (max f.2 0).toNat)) := by
          rw [bv_take] at hs10
          have e1 : x.take (min (max f.2 0) (x.length : Int)).toNat = x.take (max f.2 0).toNat := by
            rcases Int.le_total (max f.2 0) x.length with h | h
            · rw [show min (max f.2 0) (x.length : Int) = max f.2 0 from by omega]
            · rw [List.take_of_length_le (by omega), List.take_of_length_le (by omega)]
          rw [e1] at hs10
          have e2 := hs10.len
          simp only [List.length_map, Nat.mul_one] at e2
          rw [e2]
          exact hs10
        have hb2V := hb29
        have htV := htw9
        have hvV : ∀ g, live v10 = some g → w.heap.size ≤ g := fun g hg => hv9 g (hv10 g hg)
        have hvne : ∀ g, live v10 = some g → ¬ g = w1.heap.size := fun g hg => hvne9 g (hv10 g hg)
        repeat' (first | (refine CL.seq ?_) | (refine CL.region ?_) | (refine CL.done ?_) | (refine Nm.block ?_) | (refine Gt.nil ?_; refine RW.nilw [0, 1, 3, 4, 5, 6, 7, 8, 9, 10, 11, 17, 56, 65, 66, 69, 79, 85, 91, 105] ?_; dsimp only [H.keep, H.look, H.Fr.put, Nat.beq]) | (refine Gt.move ?_; refine RW.y (Y.move rfl) rfl ?_) | (refine Gt.assign ?_; refine RW.y (Y.assign rfl) rfl ?_))
        obtain ⟨pV, cV, rfl, _⟩ := hsV.shape
        refine RW.y (Y.build (ps := [(0, _), (1, _)]) (l := [_, _]) (c := #[.int .i64 0, .slice pV _ cV]) rfl rfl) rfl ?_
        refine RW.storeBlock rfl rfl rfl (fun z hz => by simp at hz; rcases hz with rfl | rfl <;> rfl) hb2V rfl (fun wV hbV hkV => ?_)
        repeat' (first | (refine CL.ret ?_) | (refine Gt.nil ?_; refine RW.nilw [0, 1, 3, 4, 5, 6, 7, 8, 9, 10, 11, 17, 56, 65, 66, 69, 79, 85, 91, 105] ?_; dsimp only [H.keep, H.look, H.Fr.put, Nat.beq]))
        exact FQ.res1 (v := _) rfl rfl ⟨⟨_, rfl, load_block (cs := [_, _]) hbV rfl⟩, trivial⟩ ⟨_, q', rfl, hsV.keep hkV hvne, hvV, hqs, htV.post hkV fun k c => by subst c; exact ⟨hz1, ho3, ho4⟩⟩
      · rename_i h1 h2 h3 hp h0
        have hm1 := Int.tmod_lt_of_pos f.2 hp
        have hm2 := Int.lt_tmod_of_pos f.2 hp
        have hm3 := Int.emod_nonneg f.2 (show (8 * (x.length : Int)) ≠ 0 by omega)
        have hm4 := Int.emod_lt_of_pos f.2 hp
        repeat' (first | (refine Gt.nil ?_; refine RW.nilw [0, 1, 3, 4, 5, 6, 7, 8, 9, 10, 11, 17, 56, 65, 66, 69, 79, 85, 91, 105] ?_; dsimp only [H.keep, H.look, H.Fr.put, Nat.beq]) | (refine Gt.assign ?_; refine RW.y (Y.assign rfl) rfl ?_) | (refine Gt.add ?_; refine RW.y (Y.add64 rfl rfl (by omega) (by omega)) rfl ?_))
        rw [rem_neg hp h0]
        skip
        rw [if_neg h1, if_pos h3, if_neg (fun c => by rw [c] at hp; simp at hp)]
        obtain ⟨gu, cap9, cur9, hu9, hgu9, hsz9, hB9⟩ := own_block how9 (by omega)
        subst hu9
        have hxz : (bv x)[((f.2 % (8 * (x.length : Int))) / 8).toNat * 1]? = some (vb (x.getD ((f.2 % (8 * (x.length : Int))) / 8).toNat 0)) := by
          have : ((f.2 % (8 * (x.length : Int))) / 8).toNat < x.length := by omega
          simp [List.getD_eq_getElem?_getD, this]
        refine CL.drawz (fun w' => K0 w9 w') (fun j => Nat.beq j 10) (by kernel_rfl) (fun w10 hheap10 hk10 => ?_)
        have hS : K0 w9 w10 := hk10
        skip
        refine AL.take 0 [3, 4, 8, 9, 10] rfl (by kernel_rfl) (by kernel_rfl) (by kernel_rfl) (by kernel_rfl) rfl (by assumption) (fun w hS => Y.move rfl) ?_
        refine AL.take 1 [2, 3, 4, 8, 9, 10] rfl (by kernel_rfl) (by kernel_rfl) (by kernel_rfl) (by kernel_rfl) rfl (by assumption) (fun w hS => Y.move rfl) ?_
        refine AL.take 2 [3, 4, 8, 9, 10] rfl (by kernel_rfl) (by kernel_rfl) (by kernel_rfl) (by kernel_rfl) rfl (by assumption) (fun w hS => Y.quoP rfl rfl (by omega) (by omega) (by exact wrap64_id (by omega) (by omega))) ?_
        refine AL.take 3 [4, 8, 9, 10] rfl (by kernel_rfl) (by kernel_rfl) (by kernel_rfl) (by kernel_rfl) rfl (by assumption) (fun w hS => Y.idx rfl rfl (hs9.keep0 hS) (by omega) (by omega)) ?_
        refine AL.take 4 [8, 9, 10] rfl (by kernel_rfl) (by kernel_rfl) (by kernel_rfl) (by kernel_rfl) rfl (by assumption) (fun w hS => Y.load1 rfl ((hs9.keep0 hS).cell hxz)) ?_
        refine AL.take 5 [6, 7, 8, 9, 10] rfl (by kernel_rfl) (by kernel_rfl) (by kernel_rfl) (by kernel_rfl) rfl (by assumption) (fun w hS => Y.move rfl) ?_
        refine AL.take 6 [7, 8, 9, 10] rfl (by kernel_rfl) (by kernel_rfl) (by kernel_rfl) (by kernel_rfl) rfl (by assumption) (fun w hS => by exact Y.remP rfl rfl (by omega) (by omega)) ?_
        refine AL.take 7 [8, 9, 10] rfl (by kernel_rfl) (by kernel_rfl) (by kernel_rfl) (by kernel_rfl) rfl (by assumption) (fun w hS => Y.shl rfl rfl (by omega)) ?_
        refine AL.take 8 [9, 10] rfl (by kernel_rfl) (by kernel_rfl) (by kernel_rfl) (by kernel_rfl) rfl (by assumption) (fun w hS => Y.bits (by exact .inr (.inr (.inl rfl))) rfl rfl) ?_
        refine AL.take 9 [10] rfl (by kernel_rfl) (by kernel_rfl) (by kernel_rfl) (by kernel_rfl) rfl (by assumption) (fun w hS => Y.idx rfl rfl (hs9.keep0 hS) (by omega) (by omega)) ?_
        refine AL.last 10 rfl (by kernel_rfl) rfl ?_
        refine RW.storeB (congrArg (fun a => some (Value.pointer (some a))) (show Value.spot (.slice (some ⟨gu, 0, none⟩) x.length cap9) (((f.2 % (8 * (x.length : Int))) / 8).toNat * 1) = ⟨gu, 0 + ((f.2 % (8 * (x.length : Int))) / 8).toNat * 1, none⟩ from by simp [Value.spot, addr_add])) rfl rfl (hk10.at0 hgu9) (by omega) (fun w11 hb11 hk11 => ?_)
        refine RW.nil (Nm.then ⟨trivial, ?_⟩)
        skip
        refine AL.donew [0, 3, 4, 5, 8] (by kernel_rfl) ?_
        dsimp only [H.keep, H.look, H.Fr.put, Nat.beq]
        have how11 := own_set (own_kept0 how9 hk10) (hk10.at0 hgu9) (by omega) hb11
        rw [bit_eq _ (by omega) (by omega), Nat.zero_add, Nat.mul_one] at how11
        have hset : (bv x).set ((f.2 % (8 * (x.length : Int))) / 8).toNat (vb (xorBit (x.getD ((f.2 % (8 * (x.length : Int))) / 8).toNat 0) ((f.2 % (8 * (x.length : Int))) % 8).toNat)) = bv (spoilB x f.2) := by
          rw [spoilB]; exact List.map_set.symm
        have how12 := own_bytes how11 hset
        have hsV := Sl.of_own how12
        have hb2V := hk11.at (hk10.at0 hb29) (fun c => by omega)
        have htV := (htw9.post hk10 (fun k c => by cases c)).post hk11 (fun k c => by
          have h6 : k = gu := c
          exact ⟨by omega, fun h => by have := hlt5 k (.inl h); omega, fun h => by have := hlt5 k (.inr h); omega⟩)
        have hvV := hv9
        have hvne := hvne9
        repeat' (first | (refine CL.seq ?_) | (refine CL.region ?_) | (refine CL.done ?_) | (refine Nm.block ?_) | (refine Gt.move ?_; refine RW.y (Y.move rfl) rfl ?_) | (refine RW.y (Y.build (ps := [(0, _), (1, _)]) rfl rfl) rfl ?_))
        refine RW.storeBlock rfl rfl rfl (show ∀ z ∈ (#[Value.int .i64 0, .slice (some ⟨gu, 0, none⟩) x.length cap9] : Array Value).toList, z.oneCell' = true from fun z hz => by simp at hz; rcases hz with rfl | rfl <;> rfl) hb2V rfl (fun wV hbV hkV => ?_)
        repeat' (first | (refine CL.ret ?_) | (refine Gt.nil ?_; refine RW.nilw [0, 1, 3, 4, 5, 6, 7, 8, 9, 10, 11, 17, 56, 65, 66, 69, 79, 85, 91, 105] ?_; dsimp only [H.keep, H.look, H.Fr.put, Nat.beq]))
        exact FQ.res1 (v := .agg #[.int .i64 0, .slice (some ⟨gu, 0, none⟩) x.length cap9]) rfl rfl ⟨⟨_, rfl, load_block (cs := [_, _]) hbV rfl⟩, trivial⟩ ⟨_, q', rfl, hsV.keep hkV hvne, hvV, hqs, htV.post hkV fun k c => by subst c; exact ⟨hz1, ho3, ho4⟩⟩
      · rename_i h1 h2 h3 hp h0
        have hm3 := Int.emod_nonneg f.2 (show (8 * (x.length : Int)) ≠ 0 by omega)
        have hm4 := Int.emod_lt_of_pos f.2 hp
        rw [rem_pos hp h0]
        rw [if_neg h1, if_pos h3, if_neg (fun c => by rw [c] at hp; simp at hp)]
        obtain ⟨gu, cap9, cur9, hu9, hgu9, hsz9, hB9⟩ := own_block how9 (by omega)
        subst hu9
        have hxz : (bv x)[((f.2 % (8 * (x.length : Int))) / 8).toNat * 1]? = some (vb (x.getD ((f.2 % (8 * (x.length : Int))) / 8).toNat 0)) := by
          have : ((f.2 % (8 * (x.length : Int))) / 8).toNat < x.length := by omega
          simp [List.getD_eq_getElem?_getD, this]
        refine CL.drawz (fun w' => K0 w9 w') (fun j => Nat.beq j 10) (by kernel_rfl) (fun w10 hheap10 hk10 => ?_)
        have hS : K0 w9 w10 := hk10
        skip
        refine AL.take 0 [3, 4, 8, 9, 10] rfl (by kernel_rfl) (by kernel_rfl) (by kernel_rfl) (by kernel_rfl) rfl (by assumption) (fun w hS => Y.move rfl) ?_
        refine AL.take 1 [2, 3, 4, 8, 9, 10] rfl (by kernel_rfl) (by kernel_rfl) (by kernel_rfl) (by kernel_rfl) rfl (by assumption) (fun w hS => Y.move rfl) ?_
        refine AL.take 2 [3, 4, 8, 9, 10] rfl (by kernel_rfl) (by kernel_rfl) (by kernel_rfl) (by kernel_rfl) rfl (by assumption) (fun w hS => Y.quoP rfl rfl (by omega) (by omega) (by exact wrap64_id (by omega) (by omega))) ?_
        refine AL.take 3 [4, 8, 9, 10] rfl (by kernel_rfl) (by kernel_rfl) (by kernel_rfl) (by kernel_rfl) rfl (by assumption) (fun w hS => Y.idx rfl rfl (hs9.keep0 hS) (by omega) (by omega)) ?_
        refine AL.take 4 [8, 9, 10] rfl (by kernel_rfl) (by kernel_rfl) (by kernel_rfl) (by kernel_rfl) rfl (by assumption) (fun w hS => Y.load1 rfl ((hs9.keep0 hS).cell hxz)) ?_
        refine AL.take 5 [6, 7, 8, 9, 10] rfl (by kernel_rfl) (by kernel_rfl) (by kernel_rfl) (by kernel_rfl) rfl (by assumption) (fun w hS => Y.move rfl) ?_
        refine AL.take 6 [7, 8, 9, 10] rfl (by kernel_rfl) (by kernel_rfl) (by kernel_rfl) (by kernel_rfl) rfl (by assumption) (fun w hS => by exact Y.remP rfl rfl (by omega) (by omega)) ?_
        refine AL.take 7 [8, 9, 10] rfl (by kernel_rfl) (by kernel_rfl) (by kernel_rfl) (by kernel_rfl) rfl (by assumption) (fun w hS => Y.shl rfl rfl (by omega)) ?_
        refine AL.take 8 [9, 10] rfl (by kernel_rfl) (by kernel_rfl) (by kernel_rfl) (by kernel_rfl) rfl (by assumption) (fun w hS => Y.bits (by exact .inr (.inr (.inl rfl))) rfl rfl) ?_
        refine AL.take 9 [10] rfl (by kernel_rfl) (by kernel_rfl) (by kernel_rfl) (by kernel_rfl) rfl (by assumption) (fun w hS => Y.idx rfl rfl (hs9.keep0 hS) (by omega) (by omega)) ?_
        refine AL.last 10 rfl (by kernel_rfl) rfl ?_
        refine RW.storeB (congrArg (fun a => some (Value.pointer (some a))) (show Value.spot (.slice (some ⟨gu, 0, none⟩) x.length cap9) (((f.2 % (8 * (x.length : Int))) / 8).toNat * 1) = ⟨gu, 0 + ((f.2 % (8 * (x.length : Int))) / 8).toNat * 1, none⟩ from by simp [Value.spot, addr_add])) rfl rfl (hk10.at0 hgu9) (by omega) (fun w11 hb11 hk11 => ?_)
        refine RW.nil (Nm.then ⟨trivial, ?_⟩)
        skip
        refine AL.donew [0, 3, 4, 5, 8] (by kernel_rfl) ?_
        dsimp only [H.keep, H.look, H.Fr.put, Nat.beq]
        have how11 := own_set (own_kept0 how9 hk10) (hk10.at0 hgu9) (by omega) hb11
        rw [bit_eq _ (by omega) (by omega), Nat.zero_add, Nat.mul_one] at how11
        have hset : (bv x).set ((f.2 % (8 * (x.length : Int))) / 8).toNat (vb (xorBit (x.getD ((f.2 % (8 * (x.length : Int))) / 8).toNat 0) ((f.2 % (8 * (x.length : Int))) % 8).toNat)) = bv (spoilB x f.2) := by
          rw [spoilB]; exact List.map_set.symm
        have how12 := own_bytes how11 hset
        have hsV := Sl.of_own how12
        have hb2V := hk11.at (hk10.at0 hb29) (fun c => by omega)
        have htV := (htw9.post hk10 (fun k c => by cases c)).post hk11 (fun k c => by
          have h6 : k = gu := c
          exact ⟨by omega, fun h => by have := hlt5 k (.inl h); omega, fun h => by have := hlt5 k (.inr h); omega⟩)
        have hvV := hv9
        have hvne := hvne9
        repeat' (first | (refine CL.seq ?_) | (refine CL.region ?_) | (refine CL.done ?_) | (refine Nm.block ?_) | (refine Gt.move ?_; refine RW.y (Y.move rfl) rfl ?_) | (refine RW.y (Y.build (ps := [(0, _), (1, _)]) rfl rfl) rfl ?_))
        refine RW.storeBlock rfl rfl rfl (show ∀ z ∈ (#[Value.int .i64 0, .slice (some ⟨gu, 0, none⟩) x.length cap9] : Array Value).toList, z.oneCell' = true from fun z hz => by simp at hz; rcases hz with rfl | rfl <;> rfl) hb2V rfl (fun wV hbV hkV => ?_)
        repeat' (first | (refine CL.ret ?_) | (refine Gt.nil ?_; refine RW.nilw [0, 1, 3, 4, 5, 6, 7, 8, 9, 10, 11, 17, 56, 65, 66, 69, 79, 85, 91, 105] ?_; dsimp only [H.keep, H.look, H.Fr.put, Nat.beq]))
        exact FQ.res1 (v := .agg #[.int .i64 0, .slice (some ⟨gu, 0, none⟩) x.length cap9]) rfl rfl ⟨⟨_, rfl, load_block (cs := [_, _]) hbV rfl⟩, trivial⟩ ⟨_, q', rfl, hsV.keep hkV hvne, hvV, hqs, htV.post hkV fun k c => by subst c; exact ⟨hz1, ho3, ho4⟩⟩
      · rename_i h1 h2 h3 hp
        have hxn : x = [] := List.eq_nil_of_length_eq_zero (by omega)
        rw [if_neg h1, if_pos h3, if_pos hxn]
        have hsV := hs9
        have hb2V := hb29
        have htV := htw9
        have hvV := hv9
        have hvne := hvne9
        have hl0 : x.length = 0 := by rw [hxn]; rfl
        rw [hxn] at hsV
        obtain ⟨pV, cV, rfl, _⟩ := hsV.shape
        refine RW.y (Y.build (ps := [(0, _), (1, _)]) (l := [_, _]) (c := #[.int .i64 0, .slice pV _ cV]) rfl rfl) rfl ?_
        refine RW.storeBlock rfl rfl rfl (fun z hz => by simp at hz; rcases hz with rfl | rfl <;> rfl) hb2V rfl (fun wV hbV hkV => ?_)
        repeat' (first | (refine CL.ret ?_) | (refine Gt.nil ?_; refine RW.nilw [0, 1, 3, 4, 5, 6, 7, 8, 9, 10, 11, 17, 56, 65, 66, 69, 79, 85, 91, 105] ?_; dsimp only [H.keep, H.look, H.Fr.put, Nat.beq]))
        exact FQ.res1 (v := _) rfl rfl ⟨⟨_, rfl, load_block (cs := [_, _]) hbV rfl⟩, trivial⟩ ⟨_, q', rfl, hsV.keep hkV hvne, hvV, hqs, htV.post hkV fun k c => by subst c; exact ⟨hz1, ho3, ho4⟩⟩
      · rename_i h1 h2 h3 h4
        rw [if_neg h1, if_neg h3, if_pos h4]
        have hA00 : (A.map (·.2))[Int.toNat 0 * 1]? = some (A.getD 0 default).2 := by simp [List.getD_eq_getElem?_getD, hA0]
        have hm0 : A.getD 0 default ∈ A := getD_mem default (by omega)
        have hD0 := har9.2 _ hm0
        have hy0 := hlen _ hm0
        rw [getD_map (·.1) default [] A _ (by omega)]
        generalize hy0d : A.getD 0 default = y0 at *
        refine CL.draw (fun w' => K0 w9 w') (by kernel_rfl) (fun w11 hheap11 hk11 => ?_)
        have hS : K0 w9 w11 := hk11
        skip
        refine AW.take 0 rfl (by kernel_rfl) (by kernel_rfl) (by kernel_rfl) rfl (by assumption) (fun w hS => Y.move rfl) ?_
        refine AW.take 1 rfl (by kernel_rfl) (by kernel_rfl) (by kernel_rfl) rfl (by assumption) (fun w hS => Y.nilck rfl) ?_
        refine AW.take 2 rfl (by kernel_rfl) (by kernel_rfl) (by kernel_rfl) rfl (by assumption) (fun w hS => Y.fieldAddr rfl (by rfl)) ?_
        refine AW.take 3 rfl (by kernel_rfl) (by kernel_rfl) (by kernel_rfl) rfl (by assumption) (fun w hS => Y.loadB rfl (hS.at0 hg9) rfl) ?_
        refine AW.take 4 rfl (by kernel_rfl) (by kernel_rfl) (by kernel_rfl) rfl (by assumption) (fun w hS => Y.idx rfl rfl (hsl9.keep0 hS) (by omega) (by omega)) ?_
        refine AW.take 5 rfl (by kernel_rfl) (by kernel_rfl) (by kernel_rfl) rfl (by assumption) (fun w hS => Y.load1 rfl ((hsl9.keep0 hS).cell hA00)) ?_
        refine AW.take 6 rfl (by kernel_rfl) (by kernel_rfl) (by kernel_rfl) rfl (by assumption) (fun w hS => Y.fieldAddr rfl (by rfl)) ?_
        refine AW.take 7 rfl (by kernel_rfl) (by kernel_rfl) (by kernel_rfl) rfl (by assumption) (fun w hS => Y.loadB rfl (hS.at0 hb19) rfl) ?_
        refine AW.take 8 rfl (by kernel_rfl) (by kernel_rfl) (by kernel_rfl) rfl (by assumption) (fun w hS => Y.fieldAddr rfl (by rfl)) ?_
        refine AW.take 9 rfl (by kernel_rfl) (by kernel_rfl) (by kernel_rfl) rfl (by assumption) (fun w hS => Y.loadB rfl (hS.at0 hb19) rfl) ?_
        refine AW.next 10 rfl (by kernel_rfl) ?_
        refine RW.fn rfl rfl ((refPart y0.2 y0.1 off sz w11 (arK.keep0 hD0 hk11) (by omega)).mono ?_)
        rintro e w12 ⟨hk12, v12, rfl, how12⟩
        refine RW.nil (Nm.then (rebase0 hS hk12 fun hS => ?_))
        refine AW.take 11 rfl (by kernel_rfl) (by kernel_rfl) (by kernel_rfl) rfl (by assumption) (fun w hS => Y.assign rfl) ?_
        refine AW.donew [0, 3, 4, 5, 8, 11] (by kernel_rfl) ?_
        dsimp only [H.keep, H.look, H.Fr.put, Nat.beq]
        have hk912 := hk11.trans0 hk12
        have hz11 := hk11.size
        have hs12 := Sl.of_own how12
        have hs912 := hs9.keep0 hk912
        repeat' (first | (refine CL.region ?_) | (refine Gt.move ?_; refine RW.y (Y.move rfl) rfl ?_) | (refine Gt.len ?_; (refine RW.y (Y.lenx rfl (by assumption)) rfl ?_)) | (refine Gt.call ?_; (refine RW.y (Y.min2 rfl rfl) rfl ?_)))
        refine RW.subh rfl rfl rfl hs12 (by omega) (by omega) (fun v13 hs13 hv13 => ?_)
        have hsV : Sl w12 1 v13 ((partB y0.1 off sz).take x.length).length (bv ((partB y0.1 off sz).take x.length)) := by
          have e1 : (partB y0.1 off sz).take (min (x.length : Int) ((partB y0.1 off sz).length : Int)).toNat = (partB y0.1 off sz).take x.length := by
            rcases Nat.le_total x.length (partB y0.1 off sz).length with h | h
            · rw [show (min (x.length : Int) ((partB y0.1 off sz).length : Int)).toNat = x.length from by omega]
            · rw [List.take_of_length_le (by omega), List.take_of_length_le (by omega)]
          rw [bv_take, e1] at hs13
          have e2 := hs13.len
          simp only [List.length_map, Nat.mul_one] at e2
          rw [e2]
          exact hs13
        have hb2V := hk912.at0 hb29
        have htV := htw9.post hk912 (fun k c => by cases c)
        have hvV : ∀ g, live v13 = some g → w.heap.size ≤ g := fun g hg => by have := (how12.lt g (live_own (hv13 g hg))).1; omega
        have hvne : ∀ g, live v13 = some g → ¬ g = w1.heap.size := fun g hg c => by have := (how12.lt g (live_own (hv13 g hg))).1; omega
        repeat' (first | (refine CL.seq ?_) | (refine CL.region ?_) | (refine CL.done ?_) | (refine Nm.block ?_) | (refine Gt.nil ?_; refine RW.nilw [0, 1, 3, 4, 5, 6, 7, 8, 9, 10, 11, 17, 56, 65, 66, 69, 79, 85, 91, 105] ?_; dsimp only [H.keep, H.look, H.Fr.put, Nat.beq]) | (refine Gt.move ?_; refine RW.y (Y.move rfl) rfl ?_) | (refine Gt.assign ?_; refine RW.y (Y.assign rfl) rfl ?_))
        obtain ⟨pV, cV, rfl, _⟩ := hsV.shape
        refine RW.y (Y.build (ps := [(0, _), (1, _)]) (l := [_, _]) (c := #[.int .i64 0, .slice pV _ cV]) rfl rfl) rfl ?_
        refine RW.storeBlock rfl rfl rfl (fun z hz => by simp at hz; rcases hz with rfl | rfl <;> rfl) hb2V rfl (fun wV hbV hkV => ?_)
        repeat' (first | (refine CL.ret ?_) | (refine Gt.nil ?_; refine RW.nilw [0, 1, 3, 4, 5, 6, 7, 8, 9, 10, 11, 17, 56, 65, 66, 69, 79, 85, 91, 105] ?_; dsimp only [H.keep, H.look, H.Fr.put, Nat.beq]))
        exact FQ.res1 (v := _) rfl rfl ⟨⟨_, rfl, load_block (cs := [_, _]) hbV rfl⟩, trivial⟩ ⟨_, q', rfl, hsV.keep hkV hvne, hvV, hqs, htV.post hkV fun k c => by subst c; exact ⟨hz1, ho3, ho4⟩⟩
      · rename_i h1 h2 h3 h4
        rw [if_neg h1, if_neg h3, if_neg h4, if_neg h2]
        have hsV := hs9
        have hb2V := hb29
        have htV := htw9
        have hvV := hv9
        have hvne := hvne9
        obtain ⟨pV, cV, rfl, _⟩ := hsV.shape
        refine RW.y (Y.build (ps := [(0, _), (1, _)]) (l := [_, _]) (c := #[.int .i64 0, .slice pV _ cV]) rfl rfl) rfl ?_
        refine RW.storeBlock rfl rfl rfl (fun z hz => by simp at hz; rcases hz with rfl | rfl <;> rfl) hb2V rfl (fun wV hbV hkV => ?_)
        repeat' (first | (refine CL.ret ?_) | (refine Gt.nil ?_; refine RW.nilw [0, 1, 3, 4, 5, 6, 7, 8, 9, 10, 11, 17, 56, 65, 66, 69, 79, 85, 91, 105] ?_; dsimp only [H.keep, H.look, H.Fr.put, Nat.beq]))
        exact FQ.res1 (v := _) rfl rfl ⟨⟨_, rfl, load_block (cs := [_, _]) hbV rfl⟩, trivial⟩ ⟨_, q', rfl, hsV.keep hkV hvne, hvV, hqs, htV.post hkV fun k c => by subst c; exact ⟨hz1, ho3, ho4⟩⟩
end Go.Proofs.Ytlbegmpikggmlaa.Ne

namespace Go.Proofs.Ytlbegmpikggmlaa.H
open Go.RowKit

/-- What an iterator that yields the list xs does; T: what it reads besides, and what must hold behind each round. -/
def SeqT {α : Type} (P : Program) (gf : Nat) (cap : List Value) (enc : α → List Value) (S : Nat → Prop) (T : World → Prop) (Pre : World → Prop) (xs : List α) : Prop :=
  ∀ (l : Nat) (J Jx : List α → World → Prop) (W : World), Pre W → Abid S J → Abid S Jx → (∀ pre W, J pre W → T W) →
    (∀ pre x W1, J pre W1 → (pre ++ [x]) <+: xs → YieldAt Fence.wide 0 P l (enc x).toArray W1 fun e W' =>
      (e = .returned (.bool true) ∧ J (pre ++ [x]) W' ∧ Same S W1 W') ∨ (e = .returned (.bool false) ∧ Jx (pre ++ [x]) W')) →
    J [] W → Calls P gf (.func (.yield l) #[] #[] :: cap).toArray W fun e W' => (∃ v, e = .returned v) ∧ (J xs W' ∨ ∃ pre, Jx pre W')
section
variable {P : Program} {Q : Post} {cs : List Code} {f : Fr} {w : World}
theorem CL.rangeFuncT {α : Type} {g : Operand} {ps : List Nat} {assign body : Code} {gf : Nat} {cap : List Value} {enc : α → List Value} {S : Nat → Prop} {T : World → Prop} {Pre : World → Prop} {xs : List α} [he : Ent P gf]
    (hg : f.ev g = some (.func (.func gf) #[] cap.toArray)) (hseq : SeqT P gf cap enc S T Pre xs) (hpre : ∀ W, K0 w W → Pre W) (hps : ∀ x, (enc x).length = ps.length) (hpn : ∀ p ∈ ps, Nat.blt p f.n = true)
    (hS : ∀ k, S k → k < w.heap.size) (I : List α → World → Prop) (Ix : Option Nat → List α → World → Prop)
    (hI : Abid (fun k => S k ∨ k = w.heap.size ∨ k = w.heap.size + 1) I) (hIx : ∀ c, Abid (fun k => S k ∨ k = w.heap.size ∨ k = w.heap.size + 1) (Ix c)) (h0 : I [] w) (hT : ∀ pre W, I pre W → T W)
    (hround : ∀ l pre x W, I pre W → (pre ++ [x]) <+: xs → w.heap.size + 2 ≤ W.heap.size →
      CL (some (some l)) P (thenK (fun f1 W1 => W1 = W ∧ ∀ W2, I pre W2 → w.heap.size + 2 ≤ W2.heap.size → CL (some (some l)) P (RQ (fun k => S k ∨ k = w.heap.size ∨ k = w.heap.size + 1) I Ix (pre ++ [x]) W2) [body] f1 W2) (fun _ _ _ => False)) [assign] (Fr.puts ⟨f.n, [], f.e⟩ ps (enc x)) W)
    (hdone : ∀ W, I xs W → W.heap[w.heap.size]? = some (.deferred (some [])) → CL none P Q cs ⟨f.n, markOf w.heap.size :: f.ds, f.e⟩ W)
    (hstop : ∀ c pre W, Ix c pre W → W.heap[w.heap.size]? = some (.deferred (some [])) → match c with
      | none => Q .ret ⟨f.n, markOf w.heap.size :: f.ds, f.e⟩ W
      | some k => Q (.exit k) ⟨f.n, markOf w.heap.size :: f.ds, f.e⟩ W) :
    CL none P Q (.rangeFunc g ps.toArray assign body :: cs) f w := by
  intro a ha
  show Code.wp P _ _ a w
  refine (wpIn_wide (n := 0)).1 (wpIn_rangeFunc fun fn _ => ?_)
  have ha0 : Ag ⟨f.n, [], f.e⟩ { tmps := a.tmps, defers := [] } := ⟨ha.size, rfl, ha.slot⟩
  have ham : Ag ⟨f.n, markOf w.heap.size :: f.ds, f.e⟩ { a with defers := [markOf w.heap.size] ++ a.defers } := ⟨ha.size, by simp [ha.defers], ha.slot⟩
  have hga := ha.eval hg
  obtain ⟨rec, hrec⟩ : ∃ rec : LoopState → Option Code → Loop, rec = fun st pe => { state := st, pending := pe, fn, tmps := a.tmps, params := ps.toArray, assign, body, defers := w.heap.size } := ⟨_, rfl⟩
  obtain ⟨W1, hW1⟩ : ∃ W1, (w.alloc (.deferred (some []))).alloc (.loop (rec .ready none)) = W1 := ⟨_, rfl⟩
  have hL1 : W1.heap[w.heap.size + 1]? = some (.loop (rec .ready none)) := by
    rw [← hW1]; have := World.alloc_heap_new (w.alloc (.deferred (some []))) (.loop (rec .ready none)); rwa [World.size_alloc] at this
  have hK1 : W1.heap[w.heap.size]? = some (.deferred (some [])) := by
    rw [← hW1]; exact (Below.heap_alloc _ _ _ (by simp)).trans (World.alloc_heap_new w _)
  have hk1 : K0 w W1 := by rw [← hW1]; exact (Kept.alloc w _).trans0 (Kept.alloc _ _)
  have hI1 : I [] W1 := hI _ _ _ h0 hk1.of0
  refine ⟨w.heap.size + 1, [markOf w.heap.size], W1, { target := .fn (.func gf) cap.toArray, args := #[.func (.yield (w.heap.size + 1)) #[] #[]] }, W1, gf,
    #[.func (.yield (w.heap.size + 1)) #[] #[]] ++ cap.toArray, W1, ?_, ?_, ?_, ?_, ?_, ?_⟩
  · rw [← hW1, hrec]; exact run_enterLoop_outer _ _ _ _ _
  · simp only [resolve, hga]
    simp [go_sem]
  · intro _ _; trivial
  · simp [invoke, go_sem, he.out]
  · intro c; simp [Fence.wide] at c
  refine callsIn_wide.2 ?_
  have hargs : #[.func (.yield (w.heap.size + 1)) #[] #[]] ++ cap.toArray = (Value.func (.yield (w.heap.size + 1)) #[] #[] :: cap).toArray := by simp
  rw [hargs]
  have hput : ∀ {k : Nat}, k = w.heap.size + 1 → S k ∨ k = w.heap.size ∨ k = w.heap.size + 1 := fun h => .inr (.inr h)
  refine Calls.mono (hseq (w.heap.size + 1)
    (fun pre W => I pre W ∧ W.heap[w.heap.size + 1]? = some (.loop (rec .ready none)) ∧ W.heap[w.heap.size]? = some (.deferred (some [])))
    (fun pre W => ∃ c, Ix c pre W ∧ W.heap[w.heap.size + 1]? = some (.loop (rec .done (some (jumpOf c)))) ∧ W.heap[w.heap.size]? = some (.deferred (some [])))
    W1 (hpre _ hk1) ?_ ?_ (fun pre W h => hT pre W h.1) ?_ ⟨hI1, hL1, hK1⟩) ?_
  · rintro s A B ⟨h1, h2, h3⟩ hk
    exact ⟨hI _ _ _ h1 (hk.mono fun k h => .inl h), hk.at h2 (fun c => by have := hS _ c; omega), hk.at h3 (fun c => by have := hS _ c; omega)⟩
  · rintro s A B ⟨c, h1, h2, h3⟩ hk
    exact ⟨c, hIx _ _ _ _ h1 (hk.mono fun k h => .inl h), hk.at h2 (fun c => by have := hS _ c; omega), hk.at h3 (fun c => by have := hS _ c; omega)⟩
  · -- one round
    rintro pre x W ⟨hi, hl, hk⟩ hpf
    have hlt : w.heap.size + 1 < W.heap.size := (Array.getElem?_eq_some_iff.1 hl).1
    have hy := run_yield (P := P) (args := (enc x).toArray) hl (by rw [hrec]; simp [hps x])
    rw [hrec] at hy
    refine ⟨fn, _, assign, body, hy, roundIn_of_wpIn trivial ?_⟩
    have hag := Ag.puts ps (enc x) ha0 hpn
    have hw := CL.one (hround (w.heap.size + 1) pre x W hi hpf hlt) _ hag
    have hin : Rd1 (some (w.heap.size + 1)) = Fence.wide.inRound (w.heap.size + 1) := rfl
    have htm : (ps.toArray.zip (enc x).toArray).foldl (fun tmps (x : Tmp × Value) => match x with | (t, a) => tmps.setIfInBounds t a) a.tmps = (ps.zip (enc x)).foldl (fun t (x : Nat × Value) => t.setIfInBounds x.1 x.2) a.tmps := by
      rw [List.zip_toArray, List.foldl_toArray]
    rw [htm]
    refine wpIn_mono (show Code.wpIn (Fence.wide.inRound (w.heap.size + 1)) 0 P assign _ _ W from hw) ?_
    rintro e a1 W' ⟨f1, hf1, q⟩
    cases e with
    | normal =>
      obtain ⟨rfl, q⟩ := q
      refine ⟨_, run_beginRound hl (by rw [hrec]), ?_⟩
      obtain ⟨W2, hW2⟩ : ∃ W2, W'.putObj (w.heap.size + 1) (.loop { rec .ready none with state := .busy }) = W2 := ⟨_, rfl⟩
      have hl2 : W2.heap[w.heap.size + 1]? = some (.loop { rec .ready none with state := .busy }) := by rw [← hW2]; exact World.putObj_heap_same hlt
      have hk2 : W2.heap[w.heap.size]? = some (.deferred (some [])) := by rw [← hW2]; exact (World.putObj_heap_other (by omega)).trans hk
      have hkp2 : Kept (fun k => k = w.heap.size + 1) W' W2 := by rw [← hW2]; exact kept_putObj _ _ _
      have hi2 := hI _ _ _ hi (hkp2.mono fun k h => hput h)
      rw [hW2]
      have hb := CL.one (q W2 hi2 (by have := hkp2.size; omega)) a1 hf1
      refine wpIn_mono (show Code.wpIn (Fence.wide.inRound (w.heap.size + 1)) 0 P body _ _ W2 from hb) ?_
      have fin : ∀ (jump : Option Code) (W3 : World), Same (fun k => S k ∨ k = w.heap.size ∨ k = w.heap.size + 1) W2 W3 →
          ∃ W4, (Instr.endRound (w.heap.size + 1) jump).run P W3 = .ok (.bool jump.isNone) W4 ∧ Kept (fun k => k = w.heap.size + 1) W3 W4 ∧
          W4.heap[w.heap.size + 1]? = some (.loop (rec (if jump.isNone then .ready else .done) jump)) ∧ W4.heap[w.heap.size]? = some (.deferred (some [])) ∧ Same S W' W4 := fun jump W3 hs3 => by
        have hl3 := (hs3.2 _ (.inr (.inr rfl))).trans hl2
        have hk3 := (hs3.2 _ (.inr (.inl rfl))).trans hk2
        have := run_endRound (P := P) jump hl3
        rw [hrec] at this ⊢
        refine ⟨_, this, kept_putObj _ _ _, World.putObj_heap_same (Array.getElem?_eq_some_iff.1 hl3).1, (World.putObj_heap_other (by omega)).trans hk3, ?_⟩
        have hne : ∀ k, S k → k ≠ w.heap.size + 1 := fun k hk => by have := hS k hk; omega
        refine ⟨by have h1 := hkp2.size; have h2 := hs3.1; simp; omega, fun k hk => ?_⟩
        rw [World.putObj_heap_other (hne k hk), hs3.2 k (.inl hk), ← hW2, World.putObj_heap_other (hne k hk)]
      rintro e a3 W3 ⟨f3, hf3, hp⟩
      cases e with
      | normal =>
        obtain ⟨hs3, hi3⟩ := hp
        obtain ⟨W4, hr, hk4, hl4, hd4, hs4⟩ := fin none W3 hs3
        exact ⟨_, _, hr, .inl ⟨rfl, ⟨hI _ _ _ hi3 (hk4.mono fun k h => hput h), hl4, hd4⟩, hs4⟩⟩
      | ret =>
        obtain ⟨hs3, hi3⟩ := hp
        obtain ⟨W4, hr, hk4, hl4, hd4, hs4⟩ := fin (some .ret) W3 hs3
        exact ⟨_, _, hr, .inr ⟨rfl, none, hIx _ _ _ _ hi3 (hk4.mono fun k h => hput h), hl4, hd4⟩⟩
      | exit k =>
        obtain ⟨hs3, hi3⟩ := hp
        obtain ⟨W4, hr, hk4, hl4, hd4, hs4⟩ := fin (some (.exit k)) W3 hs3
        exact ⟨_, _, hr, .inr ⟨rfl, some k, hIx _ _ _ _ hi3 (hk4.mono fun k h => hput h), hl4, hd4⟩⟩
      | goto t => exact hp.elim
      | panic ch => exact hp.elim
      | outgrown => exact hp.elim
    | _ => exact q.elim
  · -- behind the iterator
    rintro e W2 ⟨⟨v, rfl⟩, (⟨hi, hl, hk⟩ | ⟨pre, c, hi, hl, hk⟩)⟩
    · have hend := run_endLoop (P := P) hl (by rw [hrec]; simp)
      rw [hrec] at hend
      exact ⟨none, _, hend, ⟨_, ham, hdone _ (hI _ _ _ hi ((kept_putObj _ _ _).mono fun k h => hput h)) ((World.putObj_heap_other (by omega)).trans hk)⟩⟩
    · have hend : (Instr.endLoop (w.heap.size + 1)).run P W2 = .ok (some (jumpOf c)) (W2.putObj (w.heap.size + 1) (.loop { rec .done (some (jumpOf c)) with state := .exhausted })) := by
        have := run_endLoop (P := P) hl (by rw [hrec]; simp)
        rw [this, hrec]
      have hIx4 := hIx c _ _ _ hi ((kept_putObj W2 (w.heap.size + 1) (.loop { rec .done (some (jumpOf c)) with state := .exhausted })).mono fun k h => hput h)
      have hd4 : (W2.putObj (w.heap.size + 1) (.loop { rec .done (some (jumpOf c)) with state := .exhausted })).heap[w.heap.size]? = some (.deferred (some [])) := (World.putObj_heap_other (by omega)).trans hk
      have hs := hstop c pre _ hIx4 hd4
      refine ⟨some (jumpOf c), _, hend, ?_⟩
      cases c with
      | none => exact wpIn_ret ⟨_, ham, hs⟩
      | some k => exact wpIn_exit ⟨_, ham, hs⟩

end
end Go.Proofs.Ytlbegmpikggmlaa.H

namespace Go.Proofs.Ytlbegmpikggmlaa.H
open Go.RowKit
section
variable {P : Program} {f : Fr} {w : World}
theorem MQ.res {fn : Func} {R : Ending → World → Prop} {rs : List ResultVar} {vs : List Value} (hr : fn.results = rs.toArray) (hd : f.ds = []) (h : RS P f w rs vs) (hn : Nat.beq vs.length 1 = false) (hR : R (.returned (.tuple vs.toArray)) w) : MQ P fn R .ret f w :=
  .inl ⟨hd, _, fun a ha => by rw [results_list hr h ha, dif_neg (by intro c; rw [List.size_toArray] at c; rw [c] at hn; cases hn)], hR⟩
theorem MQ.resD {fn : Func} {R : Ending → World → Prop} {rs : List ResultVar} {D : Nat} (hr : fn.results = rs.toArray) (hd : f.ds = [markOf D]) (hD : w.heap[D]? = some (.deferred (some [])))
    (h : ∀ w', Kept (fun k => k = D) w w' → ∃ vs, RS P f w' rs vs ∧ Nat.beq vs.length 1 = false ∧ R (.returned (.tuple vs.toArray)) w') : MQ P fn R .ret f w :=
  .inr ⟨D, hd, hD, fun w' hk' => by
    obtain ⟨vs, h1, h2, h3⟩ := h w' hk'
    exact ⟨_, fun a ha => by rw [results_list hr h1 ha, dif_neg (by intro c; rw [List.size_toArray] at c; rw [c] at h2; cases h2)], h3⟩⟩
end
end Go.Proofs.Ytlbegmpikggmlaa.H

namespace Go.Proofs.Ytlbegmpikggmlaa.H
open Go.RowKit
section
variable {P : Program} {f : Fr} {w : World} {d : Nat} {ty t yt : TypeId} {pos : String} {af : Array Edge} {x y : Operand} {a b : Bool}
theorem Y.neb [ht : Und P t .bool] (hx : f.ev x = some (.bool a)) (hy : f.ev y = some (.bool b)) : Yd P f (op1 d (.binOp .neq t x y yt) ty pos af) (.bool (decide (a ≠ b))) w :=
  Y.bin hx hy (by simp) (by simp) (by rw [run_neq_bool w t a b ht.out]; cases a <;> cases b <;> rfl)
theorem Y.nebE [ht : Und P t .bool] (hx : f.ev x = some (.bool a)) (hy : f.ev y = some (.bool b)) (h : a = b) : Yd P f (op1 d (.binOp .neq t x y yt) ty pos af) (.bool false) w := by
  have := Y.neb (P := P) (w := w) (d := d) (t := t) (yt := yt) (ty := ty) (pos := pos) (af := af) hx hy
  rw [h] at this
  simpa using this
theorem Y.nebS [ht : Und P t .bool] (hx : f.ev x = some (.bool a)) (hy : f.ev y = some (.bool a)) : Yd P f (op1 d (.binOp .neq t x y yt) ty pos af) (.bool false) w := Y.nebE hx hy rfl
theorem Y.eqbE [ht : Und P t .bool] (hx : f.ev x = some (.bool a)) (hy : f.ev y = some (.bool b)) (h : a = b) : Yd P f (op1 d (.binOp .eql t x y yt) ty pos af) (.bool true) w := by
  have := Y.eqb (P := P) (w := w) (d := d) (t := t) (yt := yt) (ty := ty) (pos := pos) (af := af) hx hy
  rw [h] at this
  simpa using this
end
end Go.Proofs.Ytlbegmpikggmlaa.H

