/-
  (*solve.search).far, walked: whatever order the maps come in. (*solve.search).far, as an evaluator sees it. slices.SortStableFunc of at most one number: nothing moves. The tables of the functions that are told by themselves, one above the other. A law out of its run: where it begins, what it comes to. Calls that are told by a table: what is known before, what is known behind. Short words for states. stage.Build by a table: what comes of a pin and an archive's bytes, told under names of its own.
-/
import Derived.Test.YtoafcnecjgnbmaaGreatDoorVh
import Derived.Test.YtoafcnecjgnbmaaGreatDoorVe
set_option linter.unusedVariables false
set_option linter.unusedSimpArgs false
set_option linter.constructorNameAsVariable false
set_option linter.unusedVariables false
namespace Go.Proofs.YtoafcnecjgnbmaaGreatDoor.E
open Go Go.RowKit H
attribute [local irreducible] H.CL H.RW H.CW H.Yd H.thenK H.blockQ Go.Calls
theorem one_vs (n : Nm) : ∀ y ∈ (vs n).cells.toList, y.oneCell' = true := by
  intro y hy
  simp [Value.cells] at hy
  subst hy; rfl
set_option maxHeartbeats 4000000 in
theorem far (g : Nat) (D : FarD) (R : List Nm) (w : World) {rv : Value} {mb mf mc ma : Nat} {lb la : List (Nm × Value)} {ea ef : Array MapEntry} {cka ckf : Nat} (h : FarAt w g D rv mb mf mc ma lb la ea ef cka ckf)
    (hR : R.Nodup) (hA : ∀ n ∈ D.A, n ∈ R) (hS : ∀ n ∈ R, ∀ m ∈ D.suc n, m ∈ R) (hmin : ∀ X : Nm → Prop, (∀ n ∈ D.A, X n) → (∀ n, X n → ∀ m ∈ D.suc n, X m) → ∀ n ∈ R, X n)
    (hin : ∀ n ∈ R, ∀ i ∈ D.rho n, 0 ≤ i ∧ i < D.N.length) (hM : D.la.length + wt D.suc [] R ≤ 1000000) (hbig : ∀ i : Int, 0 ≤ i → i < D.N.length → (D.nds i).length ≤ 1000000) (hbig2 : ∀ n ∈ R, (D.rho n).length ≤ 1000000) :
    Calls Tryz.prog 536 #[.pointer (some ⟨g, 0, none⟩)] w fun e w' => K0 w w' ∧ ((∃ x ∈ D.lf, x.2 ≠ -1 ∧ x.1 ∉ R ∧ e = .returned (.tuple #[.string (B x.1), .bool true])) ∨ ((∀ x ∈ D.lf, x.2 ≠ -1 → x.1 ∈ R) ∧ e = .returned (.tuple #[.string (B []), .bool false]))) := by
  obtain ⟨c0, c2, c3, c4, c5, hrows, hask, hakey, halen, hby, hbyV, hcho, hfix⟩ := h
  refine H.enter Tryz.func536 Tryz.ntmps536 rfl rfl ?_; dsimp only [H.args]
  repeat' (first | (refine CL.seq ?_) | (refine CL.region ?_) | (refine Gt.nil ?_; refine RW.nilw [0, 2, 3, 4, 5, 6, 7, 8, 9, 10, 12, 13, 14, 16, 17, 18, 24, 26, 36, 43, 62, 78, 81, 82, 83, 84, 101, 109, 110, 111, 112, 126, 128, 139] ?_; dsimp only [H.keep, H.look, H.Fr.put, Nat.beq]) | (refine Gt.assign ?_; refine RW.y (Y.assign rfl) rfl ?_))
  refine RW.mkmap rfl fun w1 hm1 hk1 hl1 => ?_
  repeat' (first | (refine CL.seq ?_) | (refine CL.region ?_) | (refine Gt.nil ?_; refine RW.nilw [0, 2, 3, 4, 5, 6, 7, 8, 9, 10, 12, 13, 14, 16, 17, 18, 24, 26, 36, 43, 62, 78, 81, 82, 83, 84, 101, 109, 110, 111, 112, 126, 128, 139] ?_; dsimp only [H.keep, H.look, H.Fr.put, Nat.beq]) | (refine RW.y (Y.load1 rfl (cell2 hk1 c5 fun c => c)) rfl ?_) | (refine Gt.move ?_; refine RW.y (Y.move rfl) rfl ?_) | (refine Gt.assign ?_; refine RW.y (Y.assign rfl) rfl ?_) | (refine Gt.fieldAddr ?_; refine RW.y (Y.fieldAddr rfl (by rfl)) rfl ?_) | (refine Gt.nilck ?_; refine RW.y (Y.nilck rfl) rfl ?_))
  refine RW.rangeM rfl (hk1.at0 hask.1) rfl (fun w2 hi2 hk2 hl2 => ?_)
  have hk02 : K0 w w2 := hk1.trans0 hk2
  repeat' (first | (refine CL.block ?_) | (refine Gt.nil ?_; refine RW.nilw [0, 2, 3, 4, 5, 6, 7, 8, 9, 10, 12, 13, 14, 16, 17, 18, 24, 26, 36, 43, 62, 78, 81, 82, 83, 84, 101, 109, 110, 111, 112, 126, 128, 139] ?_; dsimp only [H.keep, H.look, H.Fr.put, Nat.beq]))
  refine CL.loopS [0, 4, 5, 24] (fun m vals wr => ∃ (V U : List MapEntry) (L : List Nm) (v : Value), vals = [.pointer (some ⟨g, 0, none⟩), .map (some w.heap.size), v, .pointer (some ⟨w1.heap.size, 0, none⟩)] ∧ m = U.length ∧ ea.toList.Perm (V ++ U) ∧ (∀ n, n ∈ L ↔ ∃ e ∈ V, e.key = .string (B n) ∧ 0 < D.len n) ∧ L.length ≤ V.length ∧ FS w w.heap.size [] L v wr ∧ w1.heap.size < wr.heap.size ∧ wr.heap[w1.heap.size]? = some (.mapIter (some ma) cka (V.map (·.born)).toArray cka) ∧ v.ownBlock ≠ some w1.heap.size) ea.toList.length
    ⟨_, rfl, [], ea.toList, [], .slice none 0 0, rfl, rfl, List.Perm.refl _, fun n => ⟨(fun h => by cases h), (fun ⟨e, he, _⟩ => by cases he)⟩, Nat.le_refl _, ⟨hk02, Nat.le_refl _, ⟨#[], 0, hk2.at0 hm1, rfl⟩, by simp [Value.ownBlock], World.ownsRow_nil _ _ _ _⟩, hl2, hi2, by simp [Value.ownBlock]⟩ ?_
  rintro m vals wr ⟨V, U, L, v, rfl, rfl, hp, hL, hLl, hFS, hlr, hit, hv1⟩
  dsimp only [List.zip, List.zipWith]
  obtain ⟨hkr, _, hms, hvm, hown⟩ := id hFS
  have hmar := hkr.at0 hask.1
  have hen : ea.toList.length = D.la.length := by
    have e1 := congrArg List.length hask.2.1
    have e2 := congrArg List.length hakey
    simp only [List.length_map] at e1 e2
    omega
  have hVl : V.length + U.length = D.la.length := by rw [← List.length_append, ← hp.length_eq, hen]
  have h3 : (V.map (·.born)).toArray.size = 0 ∨ ea.size = 0 ∨ ∃ e ∈ ea.toList, e.born < cka := by
    rcases Nat.eq_zero_or_pos ea.size with h | h
    · exact .inr (.inl h)
    · have hes : 0 < ea.toList.length := by simpa using h
      exact .inr (.inr ⟨ea.toList[0], List.getElem_mem hes, hask.2.2.2 _ (List.getElem_mem hes)⟩)
  repeat' (first | (refine CL.seq ?_) | (refine CL.region ?_))
  refine RW.nextE rfl hit hmar h3 (fun e he => hask.2.2.2 e (List.mem_filter.1 he).1) rfl (fun hnil => ?_) (fun e w3 he hit3 hk3 => ?_)
  · have hU := left_nil2 hask.2.2.1 hp hnil
    subst hU
    rw [List.append_nil] at hp
    have hLA : ∀ n, n ∈ L ↔ n ∈ D.A := fun n => by
      rw [hL n]
      constructor
      · rintro ⟨e, he, hk, hn⟩
        obtain ⟨x, hx, hkx, _⟩ := kv_mem hask.2.1 (hp.symm.subset he)
        have := B_inj (hk.symm.trans hkx)
        subst this
        refine List.mem_filter.2 ⟨?_, by rw [Nat.blt_eq]; exact hn⟩
        rw [← hakey]; exact List.mem_map.2 ⟨x, hx, rfl⟩
      · intro hn
        obtain ⟨h1, h2⟩ := List.mem_filter.1 hn
        rw [← hakey] at h1
        obtain ⟨x, hx, rfl⟩ := List.mem_map.1 h1
        obtain ⟨e, he, hk, _⟩ := kv_mem' hask.2.1 hx
        exact ⟨e, hp.subset he, hk, by rw [Nat.blt_eq] at h2; exact h2⟩
    repeat' (first | (refine CL.seq ?_) | (refine CL.condF rfl ?_) | (refine CL.block ?_) | (refine CL.exit ?_) | (refine Ex.then ?_) | (refine Ex.hit ?_) | (refine Gt.nil ?_; refine RW.nilw [0, 2, 3, 4, 5, 6, 7, 8, 9, 10, 12, 13, 14, 16, 17, 18, 24, 26, 36, 43, 62, 78, 81, 82, 83, 84, 101, 109, 110, 111, 112, 126, 128, 139] ?_; dsimp only [H.keep, H.look, H.Fr.put, Nat.beq]) | (refine Gt.extract ?_; refine RW.y (Y.extract rfl rfl) rfl ?_))
    refine CL.loopS [0, 4, 5] (fun k vals wr => ∃ (L : List Nm) (X : List (Nm × Int)) (v : Value) (C : Nat), vals = [.pointer (some ⟨g, 0, none⟩), .map (some w.heap.size), v] ∧ k = L.length + wt D.suc X R ∧ FS w w.heap.size X L v wr ∧ FP D R L X C) (L.length + wt D.suc [] R)
      ⟨_, rfl, L, [], v, 0, rfl, rfl, hFS, ⟨(by simp only [List.length_nil] at hVl; omega), fun n hn => hA n ((hLA n).1 hn), (fun x hx => by cases hx), fun n hn => .inl ((hLA n).2 hn), (fun n hn => by cases hn)⟩⟩ ?_
    rintro k vals wr ⟨L, X, v, C, rfl, rfl, hFS, hFP⟩
    dsimp only [List.zip, List.zipWith]
    obtain ⟨hkr, _, hms, hvm, hown⟩ := id hFS
    have hsu := Sl.of_own hown
    have hfew := hFP.few
    rcases Nat.eq_zero_or_pos L.length with h0 | h0
    · have hL0 := List.eq_nil_of_length_eq_zero h0
      subst hL0
      have hD := hFP.done hmin
      repeat' (first | (refine CL.seq ?_) | (refine CL.region ?_) | (refine CL.condP rfl (fun _ => ?_) (fun _ => ?_) <;> try (exfalso; omega)) | (refine CL.exit ?_) | (refine Ex.then ?_) | (refine Ex.hit ?_) | (refine Gt.nil ?_; refine RW.nilw [0, 2, 3, 4, 5, 6, 7, 8, 9, 10, 12, 13, 14, 16, 17, 18, 24, 26, 36, 43, 62, 78, 81, 82, 83, 84, 101, 109, 110, 111, 112, 126, 128, 139] ?_; dsimp only [H.keep, H.look, H.Fr.put, Nat.beq]) | (refine RW.y (Y.load1 rfl (cell2 hkr c3 fun c => c)) rfl ?_) | (refine Gt.move ?_; refine RW.y (Y.move rfl) rfl ?_) | (refine Gt.fieldAddr ?_; refine RW.y (Y.fieldAddr rfl (by rfl)) rfl ?_) | (refine Gt.nilck ?_; refine RW.y (Y.nilck rfl) rfl ?_) | (refine Gt.len ?_; (refine RW.y (Y.lenx rfl (by assumption)) rfl ?_)) | (refine Gt.gtr ?_; refine RW.y (Y.gtr rfl rfl) rfl ?_))
      refine RW.rangeM rfl (hkr.at0 hfix.1) rfl (fun w2 hi2 hk2 hl2 => ?_)
      repeat' (first | (refine CL.block ?_) | (refine Gt.nil ?_; refine RW.nilw [0, 2, 3, 4, 5, 6, 7, 8, 9, 10, 12, 13, 14, 16, 17, 18, 24, 26, 36, 43, 62, 78, 81, 82, 83, 84, 101, 109, 110, 111, 112, 126, 128, 139] ?_; dsimp only [H.keep, H.look, H.Fr.put, Nat.beq]))
      refine CL.loopS [4, 126] (fun m vals wr2 => ∃ (V U : List MapEntry), vals = [.map (some w.heap.size), .pointer (some ⟨wr.heap.size, 0, none⟩)] ∧ m = U.length ∧ ef.toList.Perm (V ++ U) ∧ (∀ e ∈ V, ∃ x ∈ D.lf, e.key = .string (B x.1) ∧ e.val = iv x.2 ∧ (x.2 ≠ -1 → x.1 ∈ R)) ∧ K0 w wr2 ∧ MV wr2 w.heap.size (vX X) ∧ wr.heap.size < wr2.heap.size ∧ wr2.heap[wr.heap.size]? = some (.mapIter (some mf) ckf (V.map (·.born)).toArray ckf)) ef.toList.length
        ⟨_, rfl, [], ef.toList, rfl, rfl, List.Perm.refl _, (fun e he => by cases he), hkr.trans0 hk2, hms.keep hk2 (fun c => c), hl2, hi2⟩ ?_
      rintro m vals wr2 ⟨V, U, rfl, rfl, hp, hV, hkr2, hms2, hlr2, hit2⟩
      dsimp only [List.zip, List.zipWith]
      have hmlt := hms.lt
      have h32 : (V.map (·.born)).toArray.size = 0 ∨ ef.size = 0 ∨ ∃ e ∈ ef.toList, e.born < ckf := by
        rcases Nat.eq_zero_or_pos ef.size with h | h
        · exact .inr (.inl h)
        · have hes : 0 < ef.toList.length := by simpa using h
          exact .inr (.inr ⟨ef.toList[0], List.getElem_mem hes, hfix.2.2.2 _ (List.getElem_mem hes)⟩)
      repeat' (first | (refine CL.seq ?_) | (refine CL.region ?_))
      refine RW.nextE rfl hit2 (hkr2.at0 hfix.1) h32 (fun e he => hfix.2.2.2 e (List.mem_filter.1 he).1) rfl (fun hnil => ?_) (fun e w3 he hit3 hk3 => ?_)
      · have hU := left_nil2 hfix.2.2.1 hp hnil
        subst hU
        rw [List.append_nil] at hp
        repeat' (first | (refine CL.seq ?_) | (refine CL.region ?_) | (refine CL.condF rfl ?_) | (refine CL.exit ?_) | (refine Ex.then ?_) | (refine Ex.hit ?_) | (refine CL.ret ?_) | (refine Gt.nil ?_; refine RW.nilw [0, 2, 3, 4, 5, 6, 7, 8, 9, 10, 12, 13, 14, 16, 17, 18, 24, 26, 36, 43, 62, 78, 81, 82, 83, 84, 101, 109, 110, 111, 112, 126, 128, 139] ?_; dsimp only [H.keep, H.look, H.Fr.put, Nat.beq]) | (refine Gt.assign ?_; refine RW.y (Y.assign rfl) rfl ?_) | (refine Gt.extract ?_; refine RW.y (Y.extract rfl rfl) rfl ?_))
        refine FQ.two rfl rfl rfl rfl ⟨hkr2, .inr ⟨fun x hx hne => ?_, rfl⟩⟩
        obtain ⟨e, he, hk, hv⟩ := kv_mem' hfix.2.1 (List.mem_map.2 ⟨x, hx, rfl⟩ : (x.1, iv x.2) ∈ vX D.lf)
        obtain ⟨y, hy, hky, hvy, hr⟩ := hV e (hp.subset he)
        have e1 := B_inj (hk.symm.trans hky)
        have e2 : iv x.2 = iv y.2 := hv.symm.trans hvy
        injection e2 with _ e2
        have e1 : x.1 = y.1 := e1
        rw [e1]
        exact hr (by rw [← e2]; exact hne)
      · have heU := left_mem2 hp he
        obtain ⟨U1, U2, rfl⟩ := List.append_of_mem heU
        have hp2 : ef.toList.Perm ((V ++ [e]) ++ (U1 ++ U2)) := by
          refine hp.trans ?_
          rw [List.append_assoc]
          exact List.Perm.append_left V List.perm_middle
        have hen2 : e ∈ ef.toList := (List.mem_filter.1 he).1
        obtain ⟨x', hx', hkey, hval⟩ := kv_mem hfix.2.1 hen2
        obtain ⟨x, hx, rfl⟩ := List.mem_map.1 hx'
        have K3 : K0 w w3 := hkr2.trans hk3 fun k h => .inr (by have h : k = wr.heap.size := h; have := hkr.size; omega)
        have hms3 := hms2.keep hk3 (by omega)
        repeat' (first | (refine CL.seq ?_) | (refine CL.region ?_) | (refine CL.skip ?_) | (refine CL.condT rfl ?_) | (refine CL.block ?_) | (refine Gt.nil ?_; refine RW.nilw [0, 2, 3, 4, 5, 6, 7, 8, 9, 10, 12, 13, 14, 16, 17, 18, 24, 26, 36, 43, 62, 78, 81, 82, 83, 84, 101, 109, 110, 111, 112, 126, 128, 139] ?_; dsimp only [H.keep, H.look, H.Fr.put, Nat.beq]) | (refine Gt.extract ?_; refine RW.y (Y.extract rfl rfl) rfl ?_))
        refine RW.y (Y.entryM (e := e) rfl hit3 (K3.at0 hfix.1) (b := e.born) (by simp) (by rw [← Array.find?_toList]; exact find_born hfix.2.2.1 hen2) hkey hval) rfl ?_
        have hDx := hD x.1
        have done : (x.2 ≠ -1 → x.1 ∈ R) → ∃ (V' U' : List MapEntry), [Value.map (some w.heap.size), .pointer (some ⟨wr.heap.size, 0, none⟩)] = [Value.map (some w.heap.size), .pointer (some ⟨wr.heap.size, 0, none⟩)] ∧ (U1 ++ U2).length = U'.length ∧ ef.toList.Perm (V' ++ U') ∧ (∀ e ∈ V', ∃ x ∈ D.lf, e.key = .string (B x.1) ∧ e.val = iv x.2 ∧ (x.2 ≠ -1 → x.1 ∈ R)) ∧ K0 w w3 ∧ MV w3 w.heap.size (vX X) ∧ wr.heap.size < w3.heap.size ∧ w3.heap[wr.heap.size]? = some (.mapIter (some mf) ckf (V'.map (·.born)).toArray ckf) := fun hr =>
          ⟨V ++ [e], U1 ++ U2, rfl, rfl, hp2, fun e' he' => by
            rcases List.mem_append.1 he' with h | h
            · exact hV e' h
            · rw [List.mem_singleton.1 h]; exact ⟨x, hx, hkey, hval, hr⟩, K3, hms3, by have := hk3.size; omega, by simpa using hit3⟩
        by_cases hx1 : x.2 = -1
        · have hr : x.2 ≠ -1 → x.1 ∈ R := fun c => absurd hx1 c
          repeat' (first | (refine CL.seq ?_) | (refine CL.region ?_) | (refine CL.skip ?_) | (refine CL.condF rfl ?_) | (refine CL.done ?_) | (refine Nm.block ?_) | (refine Nm.then ?_) | (refine Gt.nil ?_; refine RW.nilw [0, 2, 3, 4, 5, 6, 7, 8, 9, 10, 12, 13, 14, 16, 17, 18, 24, 26, 36, 43, 62, 78, 81, 82, 83, 84, 101, 109, 110, 111, 112, 126, 128, 139] ?_; dsimp only [H.keep, H.look, H.Fr.put, Nat.beq]) | (refine Gt.move ?_; refine RW.y (Y.move rfl) rfl ?_) | (refine Gt.guard ?_; first | (refine RW.part rfl rfl rfl (fun _ => ?_) (fun _ => ?_) <;> try (exfalso; omega)) | (refine RW.off1 rfl rfl rfl rfl rfl ?_)) | (refine Gt.assign ?_; refine RW.y (Y.assign rfl) rfl ?_) | (refine Gt.extract ?_; refine RW.y (Y.extract rfl rfl) rfl ?_) | (refine Gt.neq ?_; refine RW.y (Y.nei rfl rfl) rfl ?_) | (refine Gt.pick ?_; (refine RW.y (Y.pickF rfl rfl) rfl ?_)))
          exact ⟨(U1 ++ U2).length, _, rfl, rfl, rfl, by simp, done hr⟩
        · by_cases hxR : x.1 ∈ R
          · have hne : (mget X x.1).getD 0 ≠ 0 := fun c => hDx.1 c hxR
            repeat' (first | (refine CL.seq ?_) | (refine CL.region ?_) | (refine CL.skip ?_) | (refine CL.condP rfl (fun _ => ?_) (fun _ => ?_) <;> try (exfalso; omega)) | (refine CL.done ?_) | (refine Nm.block ?_) | (refine Nm.then ?_) | (refine Gt.nil ?_; refine RW.nilw [0, 2, 3, 4, 5, 6, 7, 8, 9, 10, 12, 13, 14, 16, 17, 18, 24, 26, 36, 43, 62, 78, 81, 82, 83, 84, 101, 109, 110, 111, 112, 126, 128, 139] ?_; dsimp only [H.keep, H.look, H.Fr.put, Nat.beq]) | (refine RW.y (Y.lookE rfl rfl hms3 (vX_get X x.1)) rfl ?_) | (refine Gt.move ?_; refine RW.y (Y.move rfl) rfl ?_) | (refine Gt.guard ?_; first | (refine RW.part rfl rfl rfl (fun _ => ?_) (fun _ => ?_) <;> try (exfalso; omega)) | (refine RW.on rfl rfl rfl ?_)) | (refine Gt.assign ?_; refine RW.y (Y.assign rfl) rfl ?_) | (refine Gt.extract ?_; refine RW.y (Y.extract rfl rfl) rfl ?_) | (refine Gt.neq ?_; refine RW.y (Y.nei rfl rfl) rfl ?_) | (refine Gt.pick ?_; (refine RW.y (Y.pickT rfl rfl) rfl ?_)) | (refine Gt.eql ?_; refine RW.y (Y.eqi rfl rfl) rfl ?_))
            exact ⟨(U1 ++ U2).length, _, rfl, rfl, rfl, by simp, done fun _ => hxR⟩
          · have hz := hDx.2 hxR
            repeat' (first | (refine CL.seq ?_) | (refine CL.region ?_) | (refine CL.condP rfl (fun _ => ?_) (fun _ => ?_) <;> try (exfalso; omega)) | (refine CL.ret ?_) | (refine Rt.then ?_) | (refine Rt.block ?_) | (refine Gt.nil ?_; refine RW.nilw [0, 2, 3, 4, 5, 6, 7, 8, 9, 10, 12, 13, 14, 16, 17, 18, 24, 26, 36, 43, 62, 78, 81, 82, 83, 84, 101, 109, 110, 111, 112, 126, 128, 139] ?_; dsimp only [H.keep, H.look, H.Fr.put, Nat.beq]) | (refine RW.y (Y.lookE rfl rfl hms3 (vX_get X x.1)) rfl ?_) | (refine Gt.move ?_; refine RW.y (Y.move rfl) rfl ?_) | (refine Gt.guard ?_; first | (refine RW.part rfl rfl rfl (fun _ => ?_) (fun _ => ?_) <;> try (exfalso; omega)) | (refine RW.on rfl rfl rfl ?_)) | (refine Gt.assign ?_; refine RW.y (Y.assign rfl) rfl ?_) | (refine Gt.extract ?_; refine RW.y (Y.extract rfl rfl) rfl ?_) | (refine Gt.neq ?_; refine RW.y (Y.nei rfl rfl) rfl ?_) | (refine Gt.pick ?_; (refine RW.y (Y.pickT rfl rfl) rfl ?_)) | (refine Gt.eql ?_; refine RW.y (Y.eqi rfl rfl) rfl ?_))
            exact FQ.two rfl rfl rfl rfl ⟨K3, .inl ⟨x, hx, hx1, hxR, rfl⟩⟩
    · obtain ⟨L0, nm, hL⟩ : ∃ L0 nm, L = L0 ++ [nm] := by
        rcases List.eq_nil_or_concat L with h | ⟨a, b, h⟩
        · rw [h] at h0; cases h0
        · exact ⟨a, b, h.trans List.concat_eq_append⟩
      have hll : L.length = L0.length + 1 := by rw [hL]; simp
      have e1 : ((L.length : Int) - 1).toNat = L0.length := by omega
      have hgl : L.getD ((L.length : Int) - 1).toNat [] = nm := by rw [e1, hL, List.getD_eq_getElem?_getD]; simp
      have hnR : nm ∈ R := hFP.inR nm (by rw [hL]; simp)
      have hcn := hFP.cnt nm
      have hC6 : C ≤ 1000000 := by omega
      repeat' (first | (refine CL.seq ?_) | (refine CL.region ?_) | (refine CL.skip ?_) | (refine CL.condP rfl (fun _ => ?_) (fun _ => ?_) <;> try (exfalso; omega)) | (refine CL.block ?_) | (refine Gt.nil ?_; refine RW.nilw [0, 2, 3, 4, 5, 6, 7, 8, 9, 10, 12, 13, 14, 16, 17, 18, 24, 26, 36, 43, 62, 78, 81, 82, 83, 84, 101, 109, 110, 111, 112, 126, 128, 139] ?_; dsimp only [H.keep, H.look, H.Fr.put, Nat.beq]) | (refine Gt.move ?_; refine RW.y (Y.move rfl) rfl ?_) | (refine Gt.assign ?_; refine RW.y (Y.assign rfl) rfl ?_) | (refine Gt.len ?_; (refine RW.y (Y.lenx rfl (by assumption)) rfl ?_)) | (refine Gt.gtr ?_; refine RW.y (Y.gtr rfl rfl) rfl ?_) | (refine Gt.sub ?_; refine RW.y (Y.sub64 rfl rfl (by omega) (by omega)) rfl ?_) | (refine Gt.idx ?_; (refine RW.elemS rfl rfl rfl rfl (by assumption) (by omega) (by omega) ?_)))
      rw [hgl]
      refine RW.ownh rfl rfl rfl hown (by omega) (by omega) (fun u how hb => ?_)
      rw [e1, Nat.mul_one, show (sv L).take L0.length = sv L0 from by rw [hL]; simp] at how
      repeat' (first | (refine CL.seq ?_) | (refine CL.region ?_) | (refine Gt.nil ?_; refine RW.nilw [0, 2, 3, 4, 5, 6, 7, 8, 9, 10, 12, 13, 14, 16, 17, 18, 24, 26, 36, 43, 62, 78, 81, 82, 83, 84, 101, 109, 110, 111, 112, 126, 128, 139] ?_; dsimp only [H.keep, H.look, H.Fr.put, Nat.beq]) | (refine Gt.move ?_; refine RW.y (Y.move rfl) rfl ?_) | (refine Gt.assign ?_; refine RW.y (Y.assign rfl) rfl ?_))
      refine RW.y (Y.lookE rfl rfl hms (vX_get X nm)) rfl ?_
      repeat' ((refine Gt.add ?_; refine RW.y (Y.add64 rfl rfl (by omega) (by omega)) rfl ?_))
      refine RW.updV rfl rfl rfl hms (fun w4 hms4 hk4 => ?_)
      rw [vX_put] at hms4
      have K4 : K0 w w4 := hkr.trans hk4 fun k h => .inr (Nat.le_of_eq h.symm)
      have how4 := own_kept how hk4 fun g hg c => by rw [hb] at hg; exact hvm (c ▸ hg)
      have F4 : FS w w.heap.size (mput X nm ((mget X nm).getD 0 + 1)) L0 u w4 := ⟨K4, Nat.le_refl _, hms4, by rw [hb]; exact hvm, how4⟩
      repeat' (first | (refine CL.seq ?_) | (refine CL.region ?_) | (refine Gt.nil ?_; refine RW.nilw [0, 2, 3, 4, 5, 6, 7, 8, 9, 10, 12, 13, 14, 16, 17, 18, 24, 26, 36, 43, 62, 78, 81, 82, 83, 84, 101, 109, 110, 111, 112, 126, 128, 139] ?_; dsimp only [H.keep, H.look, H.Fr.put, Nat.beq]) | (refine Gt.move ?_; refine RW.y (Y.move rfl) rfl ?_))
      refine RW.y (Y.lookE rfl rfl hms4 (u := iv ((mget X nm).getD 0 + 1)) (by rw [vX_get, mget_put, if_pos rfl]; rfl)) rfl ?_
      cases hq : mget X nm with
      | some c =>
        have hnx := hFP.next hR hS hL (.inl ⟨by rw [hq]; rfl, rfl⟩)
        have hc1 := hcn.2.2 (by rw [hq]; rfl)
        rw [hq] at F4 hnx hc1 hcn
        repeat' (first | (refine CL.condP rfl (fun _ => ?_) (fun _ => ?_) <;> try (exfalso; omega)) | (refine CL.exit ?_) | (refine Ex.hit ?_) | (refine CL.done ?_) | (refine Nm.then ?_) | (refine Gt.nil ?_; refine RW.nilw [0, 2, 3, 4, 5, 6, 7, 8, 9, 10, 12, 13, 14, 16, 17, 18, 24, 26, 36, 43, 62, 78, 81, 82, 83, 84, 101, 109, 110, 111, 112, 126, 128, 139] ?_; dsimp only [H.keep, H.look, H.Fr.put, Nat.beq]) | (refine Gt.gtr ?_; refine RW.y (Y.gtr rfl rfl) rfl ?_))
        exact ⟨_, _, rfl, rfl, rfl, hnx.2, L0, _, u, C + 1, rfl, rfl, F4, hnx.1⟩
      | none =>
        have hnx := hFP.next hR hS hL (.inr ⟨hq, rfl⟩)
        have hwn := wt_new (s := D.suc) (c := 1) hR hnR hq
        have hrl := hbig2 nm hnR
        replace hwn : wt D.suc (mput X nm 1) R + ((D.rho nm).flatMap (D.one nm)).length = wt D.suc X R := hwn
        have hz0 : (mget X nm).getD 0 = 0 := by rw [hq]; rfl
        rw [← hq]
        repeat' (first | (refine CL.seq ?_) | (refine CL.region ?_) | (refine CL.skip ?_) | (refine CL.condP rfl (fun _ => ?_) (fun _ => ?_) <;> try (exfalso; omega)) | (refine Gt.nil ?_; refine RW.nilw [0, 2, 3, 4, 5, 6, 7, 8, 9, 10, 12, 13, 14, 16, 17, 18, 24, 26, 36, 43, 62, 78, 81, 82, 83, 84, 101, 109, 110, 111, 112, 126, 128, 139] ?_; dsimp only [H.keep, H.look, H.Fr.put, Nat.beq]) | (refine RW.y (Y.load1 rfl (cell2 K4 c2 fun c => c)) rfl ?_) | (refine Gt.move ?_; refine RW.y (Y.move rfl) rfl ?_) | (refine Gt.fieldAddr ?_; refine RW.y (Y.fieldAddr rfl (by rfl)) rfl ?_) | (refine Gt.nilck ?_; refine RW.y (Y.nilck rfl) rfl ?_) | (refine Gt.gtr ?_; refine RW.y (Y.gtr rfl rfl) rfl ?_))
        obtain ⟨v8, hv8⟩ : ∃ v8, v8 = (mget lb nm).getD (.slice none 0 0) := ⟨_, rfl⟩
        have hby8 := hbyV nm
        rw [← hv8] at hby8
        have hbyK := hby.keep K4 (fun c => c)
        refine RW.y (Y.lookE rfl rfl hbyK hv8.symm) rfl ?_
        repeat' (first | (refine CL.seq ?_) | (refine CL.region ?_) | (refine Gt.nil ?_; refine RW.nilw [0, 2, 3, 4, 5, 6, 7, 8, 9, 10, 12, 13, 14, 16, 17, 18, 24, 26, 36, 43, 62, 78, 81, 82, 83, 84, 101, 109, 110, 111, 112, 126, 128, 139] ?_; dsimp only [H.keep, H.look, H.Fr.put, Nat.beq]) | (refine RW.y (Y.load1 rfl (cell2 K4 c4 fun c => c)) rfl ?_) | (refine Gt.move ?_; refine RW.y (Y.move rfl) rfl ?_) | (refine Gt.assign ?_; refine RW.y (Y.assign rfl) rfl ?_) | (refine Gt.fieldAddr ?_; refine RW.y (Y.fieldAddr rfl (by rfl)) rfl ?_) | (refine Gt.nilck ?_; refine RW.y (Y.nilck rfl) rfl ?_))
        cases hq3 : mget D.lc nm
        case' none =>
          refine RW.y (Y.lookF rfl rfl (hcho.keep K4 (fun c => c)) (u := iv 0) (c := false) (by rw [vX_get, hq3]; rfl) (by rw [vX_is, hq3]; rfl)) rfl ?_
          have hrho : D.rho nm = (mget D.lb nm).getD [] := by simp [FarD.rho, hq3]
          have hs8 : Sl w4 1 v8 (D.rho nm).length ((D.rho nm).map iv) := by rw [hrho]; exact hby8.keep0 K4
          have hdis8 : ∀ g, live v8 = some g → u.ownBlock ≠ some g := fun g hg c => by
            have h1 := hby8.lt hg
            have := (how4.lt g c).1
            omega
          have F5 := F4
        case' some i0 =>
          refine RW.y (Y.lookF rfl rfl (hcho.keep K4 (fun c => c)) (u := iv i0) (c := true) (by rw [vX_get, hq3]; rfl) (by rw [vX_is, hq3]; rfl)) rfl ?_
          have hrho : D.rho nm = [i0] := by simp [FarD.rho, hq3]
          repeat' (first | (refine CL.seq ?_) | (refine CL.region ?_) | (refine CL.condT rfl ?_) | (refine Gt.nil ?_; refine RW.nilw [0, 2, 3, 4, 5, 6, 7, 8, 9, 10, 12, 13, 14, 16, 17, 18, 24, 26, 36, 43, 62, 78, 81, 82, 83, 84, 101, 109, 110, 111, 112, 126, 128, 139] ?_; dsimp only [H.keep, H.look, H.Fr.put, Nat.beq]) | (refine Gt.move ?_; refine RW.y (Y.move rfl) rfl ?_) | (refine Gt.assign ?_; refine RW.y (Y.assign rfl) rfl ?_) | (refine Gt.extract ?_; refine RW.y (Y.extract rfl rfl) rfl ?_))
          refine RW.build1 rfl rfl rfl rfl (fun w5 hb5 hk5 hl5 => ?_)
          obtain ⟨v8, hv8⟩ : ∃ v8, v8 = Value.slice (some ⟨w4.heap.size, 0, none⟩) 1 1 := ⟨_, rfl⟩
          rw [← hv8]
          have hs8 : Sl w5 1 v8 (D.rho nm).length ((D.rho nm).map iv) := by
            rw [hrho, hv8]
            exact Sl.of_own (own_new (sz := 1) (base := 0) hb5 (Nat.zero_le _) (n := 1) (by rfl) (by simp [maxLen]))
          have hdis8 : ∀ g, live v8 = some g → u.ownBlock ≠ some g := fun g hg c => by
            rw [hv8] at hg
            have h1 : w4.heap.size = g := by simpa [live] using hg
            have := (how4.lt g c).2
            omega
          have F5 : FS w w.heap.size (mput X nm ((mget X nm).getD 0 + 1)) L0 u w5 := ⟨K4.trans0 hk5, Nat.le_refl _, hms4.keep hk5 (fun c => c), by rw [hb]; exact hvm, own_kept0 how4 hk5⟩
        all_goals (
          repeat' (first | (refine CL.seq ?_) | (refine CL.region ?_) | (refine CL.skip ?_) | (refine CL.condF rfl ?_) | (refine CL.block ?_) | (refine Gt.nil ?_; refine RW.nilw [0, 2, 3, 4, 5, 6, 7, 8, 9, 10, 12, 13, 14, 16, 17, 18, 24, 26, 36, 43, 62, 78, 81, 82, 83, 84, 101, 109, 110, 111, 112, 126, 128, 139] ?_; dsimp only [H.keep, H.look, H.Fr.put, Nat.beq]) | (refine Gt.move ?_; refine RW.y (Y.move rfl) rfl ?_) | (refine Gt.assign ?_; refine RW.y (Y.assign rfl) rfl ?_) | (refine Gt.extract ?_; refine RW.y (Y.extract rfl rfl) rfl ?_) | (refine Gt.len ?_; (refine RW.y (Y.lenx rfl (by assumption)) rfl ?_)))
          refine CL.loopS [0, 4, 5, 7, 81, 82, 83] (fun k vals wr => ∃ (j : Nat) (v : Value), vals = [.pointer (some ⟨g, 0, none⟩), .map (some w.heap.size), v, .string (B nm), v8, .int .i64 ((D.rho nm).length : Int), .int .i64 (j : Int)] ∧ k = (D.rho nm).length - j ∧ j ≤ (D.rho nm).length ∧ FS w w.heap.size (mput X nm ((mget X nm).getD 0 + 1)) (L0 ++ ((D.rho nm).take j).flatMap (D.one nm)) v wr ∧ Sl wr 1 v8 (D.rho nm).length ((D.rho nm).map iv) ∧ (∀ g, live v8 = some g → v.ownBlock ≠ some g)) (D.rho nm).length ⟨_, rfl, 0, u, rfl, rfl, Nat.zero_le _, by simpa using F5, hs8, hdis8⟩ ?_
          rintro k vals wr ⟨j, v, rfl, rfl, hj, hF, hs8, hdis⟩
          dsimp only [List.zip, List.zipWith]
          obtain ⟨hkr, _, hms, hvm, hown⟩ := id hF
          rcases Nat.lt_or_ge j (D.rho nm).length with hlt | hge
          · obtain ⟨i, hi⟩ : ∃ i, (D.rho nm)[j]? = some i := ⟨_, List.getElem?_eq_getElem hlt⟩
            have hgd : (D.rho nm).getD ((j : Int)).toNat default = i := by rw [Int.toNat_natCast, List.getD_eq_getElem?_getD, hi]; rfl
            have htk := take_next hi
            obtain ⟨hi0, hi1⟩ := hin nm hnR i (List.mem_of_getElem? hi)
            obtain ⟨xs, hx1, hx2⟩ := hrows
            obtain ⟨nv, hnv, ys, hy1, hy2, hy3⟩ := hx2 i.toNat (by omega)
            replace hy1 : Sl w 4 nv (D.nds i).length ys := hy1
            replace hy3 : ∀ j, j < (D.nds i).length → ys[j * 4]? = some (.string (B ((D.nds i).getD j []))) := hy3
            have hndl := hbig i hi0 hi1
            have htf := take_flat (D.one nm) (D.rho nm) j
            have hmf := hfix.mv.keep hkr (fun c => c)
            repeat' (first | (refine CL.seq ?_) | (refine CL.region ?_) | (refine CL.skip ?_) | (refine CL.condP rfl (fun _ => ?_) (fun _ => ?_) <;> try (exfalso; omega)) | (refine CL.block ?_) | (refine Gt.nil ?_; refine RW.nilw [0, 2, 3, 4, 5, 6, 7, 8, 9, 10, 12, 13, 14, 16, 17, 18, 24, 26, 36, 43, 62, 78, 81, 82, 83, 84, 101, 109, 110, 111, 112, 126, 128, 139] ?_; dsimp only [H.keep, H.look, H.Fr.put, Nat.beq]) | (refine Gt.move ?_; refine RW.y (Y.move rfl) rfl ?_) | (refine Gt.assign ?_; refine RW.y (Y.assign rfl) rfl ?_) | (refine Gt.fieldAddr ?_; refine RW.y (Y.fieldAddr rfl (by rfl)) rfl ?_) | (refine Gt.nilck ?_; refine RW.y (Y.nilck rfl) rfl ?_) | (refine Gt.lss ?_; refine RW.y (Y.lss rfl rfl) rfl ?_) | (refine Gt.idx ?_; (refine RW.elemM rfl rfl rfl rfl (by assumption) (by omega) (by omega) ?_)))
            rw [hgd]
            repeat' (first | (refine RW.y (Y.load1 rfl (cell2 hkr c3 fun c => c)) rfl ?_) | (refine Gt.move ?_; refine RW.y (Y.move rfl) rfl ?_))
            cases hq2 : mget D.lf nm
            case' none =>
              have hone : D.one nm i = D.nds i := by simp [FarD.one, FarD.ok, hq2]
              refine RW.y (Y.lookF rfl rfl hmf (u := iv 0) (c := false) (by rw [vX_get, hq2]; rfl) (by rw [vX_is, hq2]; rfl)) rfl ?_
            case' some k2 =>
              refine RW.y (Y.lookF rfl rfl hmf (u := iv k2) (c := true) (by rw [vX_get, hq2]; rfl) (by rw [vX_is, hq2]; rfl)) rfl ?_
              by_cases hki : k2 = i
              case neg =>
                have hone : D.one nm i = [] := by simp [FarD.one, FarD.ok, hq2, hki]
                repeat' (first | (refine CL.seq ?_) | (refine CL.region ?_) | (refine CL.condP rfl (fun _ => ?_) (fun _ => ?_) <;> try (exfalso; omega)) | (refine CL.exit ?_) | (refine Ex.hit ?_) | (refine CL.done ?_) | (refine Nm.then ?_) | (refine Gt.nil ?_; refine RW.nilw [0, 2, 3, 4, 5, 6, 7, 8, 9, 10, 12, 13, 14, 16, 17, 18, 24, 26, 36, 43, 62, 78, 81, 82, 83, 84, 101, 109, 110, 111, 112, 126, 128, 139] ?_; dsimp only [H.keep, H.look, H.Fr.put, Nat.beq]) | (refine Gt.move ?_; refine RW.y (Y.move rfl) rfl ?_) | (refine Gt.guard ?_; (refine RW.on rfl rfl rfl ?_)) | (refine Gt.assign ?_; refine RW.y (Y.assign rfl) rfl ?_) | (refine Gt.extract ?_; refine RW.y (Y.extract rfl rfl) rfl ?_) | (refine Gt.add ?_; refine RW.y (Y.add64 rfl rfl (by omega) (by omega)) rfl ?_) | (refine Gt.neq ?_; refine RW.y (Y.nei rfl rfl) rfl ?_) | (refine Gt.pick ?_; (refine RW.y (Y.pickT rfl rfl) rfl ?_)))
                refine ⟨(D.rho nm).length - (j + 1), _, rfl, rfl, rfl, by omega, j + 1, v, rfl, rfl, by omega, ?_, hs8, hdis⟩
                rw [htk, List.flatMap_append, List.flatMap_singleton, hone, List.append_nil]
                exact hF
              have hone : D.one nm i = D.nds i := by simp [FarD.one, FarD.ok, hq2, hki]
            all_goals (
              repeat' (first | (refine CL.seq ?_) | (refine CL.region ?_) | (refine CL.skip ?_) | (refine CL.condP rfl (fun _ => ?_) (fun _ => ?_) <;> try (exfalso; omega)) | (refine CL.condF rfl ?_) | (refine Gt.nil ?_; refine RW.nilw [0, 2, 3, 4, 5, 6, 7, 8, 9, 10, 12, 13, 14, 16, 17, 18, 24, 26, 36, 43, 62, 78, 81, 82, 83, 84, 101, 109, 110, 111, 112, 126, 128, 139] ?_; dsimp only [H.keep, H.look, H.Fr.put, Nat.beq]) | (refine Gt.move ?_; refine RW.y (Y.move rfl) rfl ?_) | (refine Gt.guard ?_; first | (refine RW.on rfl rfl rfl ?_) | (refine RW.off1 rfl rfl rfl rfl rfl ?_)) | (refine Gt.assign ?_; refine RW.y (Y.assign rfl) rfl ?_) | (refine Gt.fieldAddr ?_; refine RW.y (Y.fieldAddr rfl (by rfl)) rfl ?_) | (refine Gt.extract ?_; refine RW.y (Y.extract rfl rfl) rfl ?_) | (refine Gt.nilck ?_; refine RW.y (Y.nilck rfl) rfl ?_) | (refine Gt.neq ?_; refine RW.y (Y.nei rfl rfl) rfl ?_) | (refine Gt.pick ?_; first | (refine RW.y (Y.pickT rfl rfl) rfl ?_) | (refine RW.y (Y.pickF rfl rfl) rfl ?_)))
              refine RW.y (Y.load1 rfl (cell2 hkr c0 fun c => c)) rfl ?_
              repeat' ((refine Gt.move ?_; refine RW.y (Y.move rfl) rfl ?_))
              refine RW.elemG rfl rfl rfl rfl rfl rfl (hx1.keep0 hkr) (by omega) (by omega) hnv (fun p q => ?_)
              have hyr := hy1.keep0 hkr
              repeat' (first | (refine CL.block ?_) | (refine Gt.nil ?_; refine RW.nilw [0, 2, 3, 4, 5, 6, 7, 8, 9, 10, 12, 13, 14, 16, 17, 18, 24, 26, 36, 43, 62, 78, 81, 82, 83, 84, 101, 109, 110, 111, 112, 126, 128, 139] ?_; dsimp only [H.keep, H.look, H.Fr.put, Nat.beq]) | (refine Gt.move ?_; refine RW.y (Y.move rfl) rfl ?_) | (refine Gt.len ?_; (refine RW.y (Y.lenx rfl (by assumption)) rfl ?_)))
              refine CL.loopS [0, 4, 5, 7, 81, 82, 83, 109, 110, 111] (fun k vals wr => ∃ (jj : Nat) (v : Value), vals = [.pointer (some ⟨g, 0, none⟩), .map (some w.heap.size), v, .string (B nm), v8, .int .i64 ((D.rho nm).length : Int), .int .i64 (j : Int), nv, .int .i64 ((D.nds i).length : Int), .int .i64 (jj : Int)] ∧ k = (D.nds i).length - jj ∧ jj ≤ (D.nds i).length ∧ FS w w.heap.size (mput X nm ((mget X nm).getD 0 + 1)) ((L0 ++ ((D.rho nm).take j).flatMap (D.one nm)) ++ (D.nds i).take jj) v wr ∧ Sl wr 1 v8 (D.rho nm).length ((D.rho nm).map iv) ∧ (∀ g, live v8 = some g → v.ownBlock ≠ some g)) (D.nds i).length ⟨_, rfl, 0, v, rfl, rfl, Nat.zero_le _, by simpa using hF, hs8, hdis⟩ ?_
              rintro k vals wr ⟨jj, v, rfl, rfl, hjj, hF, hs8, hdis⟩
              dsimp only [List.zip, List.zipWith]
              obtain ⟨hkr, _, hms, hvm, hown⟩ := id hF
              have hyr := hy1.keep0 hkr
              rcases Nat.lt_or_ge jj (D.nds i).length with hlt2 | hge2
              · have hyj := hy3 jj hlt2
                have htj := take_next (l := D.nds i) (j := jj) (x := (D.nds i).getD jj []) (by rw [List.getD_eq_getElem?_getD, List.getElem?_eq_getElem hlt2]; rfl)
                have hyl := hy1.1
                repeat' (first | (refine CL.seq ?_) | (refine CL.region ?_) | (refine CL.skip ?_) | (refine CL.condP rfl (fun _ => ?_) (fun _ => ?_) <;> try (exfalso; omega)) | (refine CL.block ?_) | (refine Gt.nil ?_; refine RW.nilw [0, 2, 3, 4, 5, 6, 7, 8, 9, 10, 12, 13, 14, 16, 17, 18, 24, 26, 36, 43, 62, 78, 81, 82, 83, 84, 101, 109, 110, 111, 112, 126, 128, 139] ?_; dsimp only [H.keep, H.look, H.Fr.put, Nat.beq]) | (refine Gt.lss ?_; refine RW.y (Y.lss rfl rfl) rfl ?_))
                refine RW.elemN rfl rfl rfl rfl hyr (by omega) (by omega) (fun p => ?_)
                have h4 : Nat.beq (List.take 4 (List.drop ((jj : Int).toNat * 4) ys)).toArray.size 4 = true := by
                  have : (List.take 4 (List.drop ((jj : Int).toNat * 4) ys)).toArray.size = 4 := by
                    rw [List.size_toArray, List.length_take, List.length_drop, hyl, Int.toNat_natCast]; omega
                  rw [this]; rfl
                refine RW.varN rfl h4 rfl (fun z hz => hy2 z (by
                  have hz' : z ∈ List.take 4 (List.drop ((jj : Int).toNat * 4) ys) := by simpa using hz
                  exact List.mem_of_mem_drop (List.mem_of_mem_take hz'))) rfl (fun w6 hb6 hk6 hl6 => ?_)
                have hc6 : w6.cell? ⟨wr.heap.size, 0, none⟩ = some (.string (B ((D.nds i).getD jj []))) := by
                  rw [cell_row (off := 0) hb6]
                  simp only [List.getElem?_toArray, List.getElem?_take, List.getElem?_drop]
                  simpa using hyj
                repeat' (first | (refine CL.region ?_) | (refine Gt.nil ?_; refine RW.nilw [0, 2, 3, 4, 5, 6, 7, 8, 9, 10, 12, 13, 14, 16, 17, 18, 24, 26, 36, 43, 62, 78, 81, 82, 83, 84, 101, 109, 110, 111, 112, 126, 128, 139] ?_; dsimp only [H.keep, H.look, H.Fr.put, Nat.beq]) | (refine RW.y (Y.load1 rfl hc6) rfl ?_) | (refine Gt.move ?_; refine RW.y (Y.move rfl) rfl ?_) | (refine Gt.fieldAddr ?_; refine RW.y (Y.fieldAddr rfl (by rfl)) rfl ?_))
                have hown6 := own_kept0 hown hk6
                have hlj := congrArg List.length htj
                simp only [List.length_append, List.length_singleton] at hlj
                have hll : ((L0 ++ ((D.rho nm).take j).flatMap (D.one nm)) ++ (D.nds i).take jj).length + 1 ≤ 3000000 := by
                  simp only [List.length_append, List.length_take]
                  omega
                refine RW.app1 rfl rfl rfl rfl hown6 rfl rfl rfl rfl (one_vs _) (hkr.trans0 hk6).size (by omega) (by omega) (fun u' w7 how' hk' hl' => ?_)
                repeat' (first | (refine CL.region ?_) | (refine CL.done ?_) | (refine Nm.block ?_) | (refine Nm.then ?_) | (refine Gt.nil ?_; refine RW.nilw [0, 2, 3, 4, 5, 6, 7, 8, 9, 10, 12, 13, 14, 16, 17, 18, 24, 26, 36, 43, 62, 78, 81, 82, 83, 84, 101, 109, 110, 111, 112, 126, 128, 139] ?_; dsimp only [H.keep, H.look, H.Fr.put, Nat.beq]) | (refine Gt.move ?_; refine RW.y (Y.move rfl) rfl ?_) | (refine Gt.assign ?_; refine RW.y (Y.assign rfl) rfl ?_) | (refine Gt.add ?_; refine RW.y (Y.add64 rfl rfl (by omega) (by omega)) rfl ?_))
                have F6 : FS w w.heap.size (mput X nm ((mget X nm).getD 0 + 1)) ((L0 ++ ((D.rho nm).take j).flatMap (D.one nm)) ++ (D.nds i).take jj) v w6 := ⟨hkr.trans0 hk6, Nat.le_refl _, hms.keep hk6 (fun c => c), hvm, hown6⟩
                have F7 := F6.push how' hk' hl'
                have hlt8 := fun g hg => (hs8.lt (g := g) hg)
                refine ⟨(D.nds i).length - (jj + 1), _, rfl, rfl, rfl, by omega, jj + 1, u', rfl, rfl, by omega, by rw [htj, ← List.append_assoc]; exact F7, (hs8.keep0 hk6).keep hk' fun g hg c => hdis g hg c, fun g hg c => ?_⟩
                rcases hl' g c with e | e
                · exact hdis g hg e
                · have := hlt8 g hg; have := hk6.size; omega
              · have hjj2 : jj = (D.nds i).length := by omega
                subst hjj2
                repeat' (first | (refine CL.seq ?_) | (refine CL.region ?_) | (refine CL.condP rfl (fun _ => ?_) (fun _ => ?_) <;> try (exfalso; omega)) | (refine CL.exit ?_) | (refine Ex.then ?_) | (refine Ex.hit ?_) | (refine CL.done ?_) | (refine Nm.block ?_) | (refine Nm.then ?_) | (refine Gt.nil ?_; refine RW.nilw [0, 2, 3, 4, 5, 6, 7, 8, 9, 10, 12, 13, 14, 16, 17, 18, 24, 26, 36, 43, 62, 78, 81, 82, 83, 84, 101, 109, 110, 111, 112, 126, 128, 139] ?_; dsimp only [H.keep, H.look, H.Fr.put, Nat.beq]) | (refine Gt.move ?_; refine RW.y (Y.move rfl) rfl ?_) | (refine Gt.add ?_; refine RW.y (Y.add64 rfl rfl (by omega) (by omega)) rfl ?_) | (refine Gt.lss ?_; refine RW.y (Y.lss rfl rfl) rfl ?_))
                rw [List.take_length] at hF
                refine ⟨(D.rho nm).length - (j + 1), _, rfl, rfl, rfl, by omega, j + 1, v, rfl, rfl, by omega, ?_, hs8, hdis⟩
                rw [htk, List.flatMap_append, List.flatMap_singleton, hone, ← List.append_assoc]
                exact hF
            )
          · have hj2 : j = (D.rho nm).length := by omega
            subst hj2
            repeat' (first | (refine CL.seq ?_) | (refine CL.region ?_) | (refine CL.condP rfl (fun _ => ?_) (fun _ => ?_) <;> try (exfalso; omega)) | (refine CL.exit ?_) | (refine Ex.then ?_) | (refine Ex.hit ?_) | (refine CL.done ?_) | (refine Nm.block ?_) | (refine Nm.then ?_) | (refine Gt.nil ?_; refine RW.nilw [0, 2, 3, 4, 5, 6, 7, 8, 9, 10, 12, 13, 14, 16, 17, 18, 24, 26, 36, 43, 62, 78, 81, 82, 83, 84, 101, 109, 110, 111, 112, 126, 128, 139] ?_; dsimp only [H.keep, H.look, H.Fr.put, Nat.beq]) | (refine Gt.lss ?_; refine RW.y (Y.lss rfl rfl) rfl ?_))
            rw [List.take_length] at hF
            exact ⟨_, _, rfl, rfl, rfl, hnx.2, L0 ++ D.suc nm, _, v, C + 1, rfl, rfl, hF, hnx.1⟩
        )
  · have heU := left_mem2 hp he
    obtain ⟨U1, U2, rfl⟩ := List.append_of_mem heU
    have hp2 : ea.toList.Perm ((V ++ [e]) ++ (U1 ++ U2)) := by
      refine hp.trans ?_
      rw [List.append_assoc]
      exact List.Perm.append_left V List.perm_middle
    have hen2 : e ∈ ea.toList := (List.mem_filter.1 he).1
    obtain ⟨x, hx, hkey, hval⟩ := kv_mem hask.2.1 hen2
    obtain ⟨p, cap, hpc⟩ := halen x.1
    have K3 : K0 w w3 := hkr.trans hk3 fun k h => .inr (by have h : k = w1.heap.size := h; have := hk1.size; omega)
    have hms3 := hms.keep hk3 (by omega)
    have hown3 := own_kept hown hk3 fun g hg c => hv1 (by rw [hg]; exact congrArg some c)
    have hm3 := hask.mv.keep K3 (fun c => c)
    have F3 : FS w w.heap.size [] L v w3 := ⟨K3, Nat.le_refl _, hms3, hvm, hown3⟩
    have hsz3 := hk3.size
    have hVl2 : (V ++ [e]).length = V.length + 1 := by simp
    have hLb : L.length + 1 ≤ 1000001 := by omega
    repeat' (first | (refine CL.seq ?_) | (refine CL.region ?_) | (refine CL.skip ?_) | (refine CL.condT rfl ?_) | (refine CL.block ?_) | (refine Gt.nil ?_; refine RW.nilw [0, 2, 3, 4, 5, 6, 7, 8, 9, 10, 12, 13, 14, 16, 17, 18, 24, 26, 36, 43, 62, 78, 81, 82, 83, 84, 101, 109, 110, 111, 112, 126, 128, 139] ?_; dsimp only [H.keep, H.look, H.Fr.put, Nat.beq]) | (refine Gt.extract ?_; refine RW.y (Y.extract rfl rfl) rfl ?_))
    refine RW.y (Y.entryM (e := e) rfl hit3 (K3.at0 hask.1) (b := e.born) (by simp) (by rw [← Array.find?_toList]; exact find_born hask.2.2.1 hen2) hkey hval) rfl ?_
    repeat' (first | (refine CL.seq ?_) | (refine CL.region ?_) | (refine Gt.nil ?_; refine RW.nilw [0, 2, 3, 4, 5, 6, 7, 8, 9, 10, 12, 13, 14, 16, 17, 18, 24, 26, 36, 43, 62, 78, 81, 82, 83, 84, 101, 109, 110, 111, 112, 126, 128, 139] ?_; dsimp only [H.keep, H.look, H.Fr.put, Nat.beq]) | (refine RW.y (Y.load1 rfl (cell2 K3 c5 fun c => c)) rfl ?_) | (refine Gt.move ?_; refine RW.y (Y.move rfl) rfl ?_) | (refine Gt.assign ?_; refine RW.y (Y.assign rfl) rfl ?_) | (refine Gt.fieldAddr ?_; refine RW.y (Y.fieldAddr rfl (by rfl)) rfl ?_) | (refine Gt.extract ?_; refine RW.y (Y.extract rfl rfl) rfl ?_) | (refine Gt.nilck ?_; refine RW.y (Y.nilck rfl) rfl ?_))
    refine RW.y (Y.lookE rfl rfl hm3 hpc) rfl ?_
    have hLV : ∀ (L' : List Nm), (∀ n, n ∈ L' ↔ n ∈ L ∨ (n = x.1 ∧ 0 < D.len x.1)) → ∀ n, n ∈ L' ↔ ∃ e' ∈ V ++ [e], e'.key = .string (B n) ∧ 0 < D.len n := fun L' hL' n => by
      rw [hL' n, hL n]
      constructor
      · rintro (⟨e', h1, h2⟩ | ⟨rfl, h1⟩)
        · exact ⟨e', List.mem_append.2 (.inl h1), h2⟩
        · exact ⟨e, by simp, hkey, h1⟩
      · rintro ⟨e', h1, h2, h3⟩
        rcases List.mem_append.1 h1 with h1 | h1
        · exact .inl ⟨e', h1, h2, h3⟩
        · rw [List.mem_singleton.1 h1] at h2
          have := B_inj (h2.symm.trans hkey)
          subst this
          exact .inr ⟨rfl, h3⟩
    rcases Nat.eq_zero_or_pos (D.len x.1) with hz | hpos
    · repeat' (first | (refine CL.skip ?_) | (refine CL.condP rfl (fun _ => ?_) (fun _ => ?_) <;> try (exfalso; omega)) | (refine CL.done ?_) | (refine Nm.block ?_) | (refine Nm.then ?_) | (refine Gt.nil ?_; refine RW.nilw [0, 2, 3, 4, 5, 6, 7, 8, 9, 10, 12, 13, 14, 16, 17, 18, 24, 26, 36, 43, 62, 78, 81, 82, 83, 84, 101, 109, 110, 111, 112, 126, 128, 139] ?_; dsimp only [H.keep, H.look, H.Fr.put, Nat.beq]) | (refine Gt.len ?_; (refine RW.y (Y.lenv rfl) rfl ?_)) | (refine Gt.gtr ?_; refine RW.y (Y.gtr rfl rfl) rfl ?_))
      exact ⟨(U1 ++ U2).length, _, rfl, rfl, rfl, by simp, V ++ [e], U1 ++ U2, L, v, rfl, rfl, hp2, hLV L (fun n => ⟨.inl, fun h => h.resolve_right (by omega)⟩), by omega, F3, by omega, by simpa using hit3, hv1⟩
    · repeat' (first | (refine CL.region ?_) | (refine CL.condP rfl (fun _ => ?_) (fun _ => ?_) <;> try (exfalso; omega)) | (refine Gt.nil ?_; refine RW.nilw [0, 2, 3, 4, 5, 6, 7, 8, 9, 10, 12, 13, 14, 16, 17, 18, 24, 26, 36, 43, 62, 78, 81, 82, 83, 84, 101, 109, 110, 111, 112, 126, 128, 139] ?_; dsimp only [H.keep, H.look, H.Fr.put, Nat.beq]) | (refine Gt.move ?_; refine RW.y (Y.move rfl) rfl ?_) | (refine Gt.len ?_; (refine RW.y (Y.lenv rfl) rfl ?_)) | (refine Gt.gtr ?_; refine RW.y (Y.gtr rfl rfl) rfl ?_))
      refine RW.app1 rfl rfl rfl rfl hown3 rfl rfl rfl rfl (one_vs _) K3.size (by omega) (by omega) (fun u' w4 how' hk' hl' => ?_)
      repeat' (first | (refine CL.done ?_) | (refine Nm.block ?_) | (refine Nm.then ?_) | (refine Gt.nil ?_; refine RW.nilw [0, 2, 3, 4, 5, 6, 7, 8, 9, 10, 12, 13, 14, 16, 17, 18, 24, 26, 36, 43, 62, 78, 81, 82, 83, 84, 101, 109, 110, 111, 112, 126, 128, 139] ?_; dsimp only [H.keep, H.look, H.Fr.put, Nat.beq]) | (refine Gt.assign ?_; refine RW.y (Y.assign rfl) rfl ?_))
      have F4 := F3.push how' hk' hl'
      have hz4 := hk'.size
      refine ⟨(U1 ++ U2).length, _, rfl, rfl, rfl, by simp, V ++ [e], U1 ++ U2, L ++ [x.1], u', rfl, rfl, hp2, hLV _ (fun n => by simp [hpos]), by simp; omega, F4, by omega, ?_, fun c => ?_⟩
      · rw [hk'.block w1.heap.size (by omega) (fun c => hv1 c)]; simpa using hit3
      · rcases hl' _ c with e | e
        · exact hv1 e
        · omega
end Go.Proofs.YtoafcnecjgnbmaaGreatDoor.E

set_option linter.constructorNameAsVariable false
set_option linter.unusedVariables false
namespace Go.Proofs.YtoafcnecjgnbmaaGreatDoor.E
open Go Go.RowKit H
attribute [local irreducible] H.CL H.RW H.CW H.Yd H.thenK H.blockQ Go.Calls
/-! What is reached, reckoned and looked over. -/
namespace FarD
def reach (D : FarD) : Nat → List Nm → List Nm → List Nm
  | 0, _, R => R
  | _ + 1, [], R => R
  | n + 1, x :: l, R => if R.contains x then D.reach n l R else D.reach n (D.suc x ++ l) (R ++ [x])
def nodB : List Nm → Bool
  | [] => true
  | x :: l => !l.contains x && nodB l
def ordB (D : FarD) : List Nm → List Nm → Bool
  | _, [] => true
  | S, n :: R => (D.A.contains n || S.any fun m => (D.suc m).contains n) && ordB D (n :: S) R
def good (D : FarD) (R : List Nm) : Bool := nodB R && D.A.all R.contains && R.all (fun n => (D.suc n).all R.contains) && D.ordB [] R && R.all (fun n => (D.rho n).all fun i => decide (0 ≤ i) && decide (i < D.N.length)) && decide (D.la.length + wt D.suc [] R ≤ 1000000) && D.N.all (fun l => decide (l.length ≤ 1000000)) && R.all (fun n => decide ((D.rho n).length ≤ 1000000))
theorem nodB_ok : ∀ {l : List Nm}, nodB l = true → l.Nodup
  | [], _ => List.nodup_nil
  | x :: l, h => by
    simp only [nodB, Bool.and_eq_true, Bool.not_eq_true'] at h
    refine List.nodup_cons.2 ⟨fun c => ?_, nodB_ok h.2⟩
    have : l.contains x = true := by simpa using c
    rw [this] at h; cases h.1
theorem ordB_ok {D : FarD} {X : Nm → Prop} (h1 : ∀ n ∈ D.A, X n) (h2 : ∀ n, X n → ∀ m ∈ D.suc n, X m) : ∀ {R S : List Nm}, (∀ n ∈ S, X n) → D.ordB S R = true → ∀ n ∈ R, X n
  | [], S, _, _, n, hn => by cases hn
  | m :: R, S, hS, h, n, hn => by
    simp only [ordB, Bool.and_eq_true, Bool.or_eq_true, List.any_eq_true] at h
    have hm : X m := by
      rcases h.1 with h | ⟨k, hk, h⟩
      · exact h1 m (by simpa using h)
      · exact h2 k (hS k hk) m (by simpa using h)
    rcases List.mem_cons.1 hn with rfl | hn
    · exact hm
    · exact ordB_ok h1 h2 (S := m :: S) (fun k hk => by
        rcases List.mem_cons.1 hk with rfl | hk
        · exact hm
        · exact hS k hk) h.2 n hn
end FarD
/-! Rows of values, read. -/
inductive All2 {α β : Type} (T : α → β → Prop) : List α → List β → Prop where
  | nil : All2 T [] []
  | cons {a b l m} : T a b → All2 T l m → All2 T (a :: l) (b :: m)
noncomputable def allR {β : Type} (f : AV → (β → Bool) → Bool) (l : List AV) : (List β → Bool) → Bool := List.rec (motive := fun _ => (List β → Bool) → Bool) (fun k => k []) (fun x _ ih k => f x fun b => ih fun t => k (b :: t)) l
theorem allR_ok {β : Type} {f : AV → (β → Bool) → Bool} {T : AV → β → Prop} (hf : ∀ x k, f x k = true → ∃ b, k b = true ∧ T x b) : ∀ {l : List AV} {k : List β → Bool}, allR f l k = true → ∃ bs, k bs = true ∧ All2 T l bs
  | [], k, h => ⟨[], h, .nil⟩
  | x :: l, k, h => by
    obtain ⟨b, h, hT⟩ := hf x _ (show f x (fun b => allR f l fun t => k (b :: t)) = true from h)
    obtain ⟨bs, h, hl⟩ := allR_ok hf h
    exact ⟨b :: bs, h, .cons hT hl⟩
noncomputable def i64K (x : AV) (k : Int → Bool) : Bool := qInt x fun i z => ask (kEq i .i64) (k z)
theorem i64K_ok {x : AV} {k : Int → Bool} (h : i64K x k = true) : ∃ z, k z = true ∧ x = .int .i64 z := by
  obtain ⟨i, z, rfl, h⟩ := qInt_ok (x := x) h
  obtain ⟨h1, h⟩ := ask_ok h
  rw [kEq_ok h1]
  exact ⟨z, h, rfl⟩
noncomputable def slen (x : AV) (k : Nat → Bool) : Bool := match x with | .nils => k 0 | .sl _ _ n _ => k n | .slx _ _ n _ => k n | _ => false
theorem slen_ok {x : AV} {k : Nat → Bool} (h : slen x k = true) : ∃ n, k n = true ∧ ∀ r u, real r x = some u → ∃ p cap, u = .slice p n cap := by
  cases x with
  | nils => exact ⟨0, h, fun r u hu => by cases hu; exact ⟨_, _, rfl⟩⟩
  | sl i o n c => exact ⟨n, h, fun r u hu => by obtain ⟨p, _, rfl⟩ := real_sl hu; exact ⟨_, _, rfl⟩⟩
  | slx i o n z => exact ⟨n, h, fun r u hu => by obtain ⟨p, _, _, _, _, rfl⟩ := real_slx hu; exact ⟨_, _, rfl⟩⟩
  | _ => cases h
/-- A slice of numbers. -/
noncomputable def sInts (h : Hp) (x : AV) (k : List Int → Bool) : Bool := slK 1 x h fun n l => allR i64K l fun zs => lenK zs fun m => ask (Nat.beq m n) (k zs)
theorem i64s_real {r : Ren} : ∀ {l : List AV} {zs : List Int} {us : List Value}, All2 (fun x z => x = AV.int .i64 z) l zs → reals r l = some us → us = zs.map iv
  | _, _, us, .nil, h => by rw [reals_nil] at h; cases h; rfl
  | _, _, us, .cons e t, h => by
    obtain ⟨u, us', h1, h2, rfl⟩ := reals_cons.1 h
    subst e
    rw [real_int h1, i64s_real t h2]; rfl
theorem sInts_ok {h : Hp} {x : AV} {k : List Int → Bool} (hk : sInts h x k = true) : ∃ zs, k zs = true ∧ ∀ S w0 fl r w u, Rel S w0 fl r h w → real r x = some u → Sl w 1 u zs.length (zs.map iv) := by
  obtain ⟨n, l, hk, hS⟩ := slK_ok hk
  obtain ⟨zs, hk, hZ⟩ := allR_ok (T := fun x z => x = AV.int .i64 z) (fun x k h => i64K_ok h) hk
  rw [lenK_eq] at hk
  obtain ⟨hn, hk⟩ := ask_ok hk
  have hn := Nat.eq_of_beq_eq_true hn
  refine ⟨zs, hk, fun S w0 fl r w u hR hu => ?_⟩
  obtain ⟨us, h1, h2⟩ := hS S w0 fl r w u hR hu
  rw [hn, ← i64s_real hZ h1]; exact h2
/-- The names of needs; rows with the names that they need. -/
noncomputable def ndsK : Nat → List AV → (List (List Nat) → Bool) → Bool := Nat.rec (motive := fun _ => List AV → (List (List Nat) → Bool) → Bool) (fun _ k => k []) (fun _ ih l k => nthK l 0 fun x => qStr x fun s => dropK l 4 fun l => ih l fun t => k (s :: t))
theorem ndsK_ok : ∀ {m : Nat} {l : List AV} {k : List (List Nat) → Bool}, ndsK m l k = true → ∃ ns, k ns = true ∧ ns.length = m ∧ ∀ j, j < m → l[j * 4]? = some (.str (ns.getD j []))
  | 0, l, k, h => ⟨[], h, rfl, fun j hj => by omega⟩
  | m + 1, l, k, h => by
    obtain ⟨x, hx, h⟩ := nthK_ok (show nthK l 0 (fun x => qStr x fun s => dropK l 4 fun l => ndsK m l fun t => k (s :: t)) = true from h)
    obtain ⟨s, rfl, h⟩ := qStr_ok (x := x) h
    replace h : dropK l 4 (fun l => ndsK m l fun t => k (s :: t)) = true := h
    rw [dropK_eq] at h
    obtain ⟨ns, h, h1, h2⟩ := ndsK_ok h
    refine ⟨s :: ns, h, by simp [h1], fun j hj => ?_⟩
    cases j with
    | zero => simpa using hx
    | succ j =>
      have := h2 j (by omega)
      rw [List.getElem?_drop] at this
      rw [show (j + 1) * 4 = 4 + j * 4 by omega, this]
      rfl
noncomputable def rowsK (h : Hp) : Nat → List AV → (List (List (List Nat)) → Bool) → Bool := Nat.rec (motive := fun _ => List AV → (List (List (List Nat)) → Bool) → Bool) (fun _ k => k []) (fun _ ih l k => nthK l 38 fun x => slK 4 x h fun m ys => onesA ys (ndsK m ys fun ns => dropK l 39 fun l => ih l fun t => k (ns :: t)))
def NdsR (h : Hp) (x : AV) (ns : List (List Nat)) : Prop := ∀ S w0 fl r w u, Rel S w0 fl r h w → real r x = some u → NdsAt w u (ns.map textOf)
theorem getD_text (ns : List (List Nat)) (j : Nat) : (ns.map textOf).getD j [] = textOf (ns.getD j []) := by
  simp only [List.getD_eq_getElem?_getD, List.getElem?_map]
  cases ns[j]? <;> rfl
theorem rowsK_ok {h : Hp} : ∀ {n : Nat} {l : List AV} {k : List (List (List Nat)) → Bool}, rowsK h n l k = true → ∃ N, k N = true ∧ N.length = n ∧ ∀ i, i < n → ∃ x, l[i * 39 + 38]? = some x ∧ NdsR h x (N.getD i [])
  | 0, l, k, hk => ⟨[], hk, rfl, fun j hj => by omega⟩
  | n + 1, l, k, hk => by
    obtain ⟨x, hx, hk⟩ := nthK_ok (show nthK l 38 (fun x => slK 4 x h fun m ys => onesA ys (ndsK m ys fun ns => dropK l 39 fun l => rowsK h n l fun t => k (ns :: t))) = true from hk)
    obtain ⟨m, ys, hk, hS⟩ := slK_ok hk
    obtain ⟨h1, hk⟩ := onesA_ok hk
    obtain ⟨ns, hk, h2, h3⟩ := ndsK_ok hk
    rw [dropK_eq] at hk
    obtain ⟨N, hk, h4, h5⟩ := rowsK_ok hk
    refine ⟨ns :: N, hk, by simp [h4], fun i hi => ?_⟩
    cases i with
    | zero =>
      refine ⟨x, by simpa using hx, fun S w0 fl r w u hR hu => ?_⟩
      obtain ⟨us, e1, e2⟩ := hS S w0 fl r w u hR hu
      refine ⟨us, ?_, ones_real h1 e1, fun j hj => ?_⟩
      · show Sl w 4 u (ns.map textOf).length us
        rw [List.length_map, h2]; exact e2
      · have hj : j < (ns.map textOf).length := hj
        rw [List.length_map, h2] at hj
        obtain ⟨v, v1, v2⟩ := reals_at e1 (h3 j hj)
        obtain ⟨_, rfl⟩ := real_str v2
        show us[j * 4]? = some (.string (B ((ns.map textOf).getD j [])))
        rw [v1, getD_text]
    | succ i =>
      obtain ⟨y, y1, y2⟩ := h5 i (by omega)
      rw [List.getElem?_drop] at y1
      exact ⟨y, by rw [← y1]; congr 1; omega, y2⟩
/-! Maps, read. -/
theorem mget_zip {α β : Type} {T : α → β → Prop} : ∀ {us : List α} {vs : List β} (ns : List Nm) (n : Nm), All2 T us vs → (mget (ns.zip us) n = none ∧ mget (ns.zip vs) n = none) ∨ ∃ u v, mget (ns.zip us) n = some u ∧ mget (ns.zip vs) n = some v ∧ T u v
  | _, _, [], n, _ => .inl ⟨rfl, rfl⟩
  | _, _, _ :: _, n, .nil => .inl ⟨rfl, rfl⟩
  | _, _, x :: ns, n, .cons (a := a) (b := b) h t => by
    simp only [List.zip_cons_cons, mget]
    by_cases c : x = n
    · rw [if_pos c, if_pos c]
      exact .inr ⟨a, b, rfl, rfl, h⟩
    · rw [if_neg c, if_neg c]
      exact mget_zip ns n t
theorem kv_zip : ∀ {en : List MapEntry} {ns : List Nm}, en.map (·.key) = ns.map (fun s => Value.string (B s)) → en.map kvE = (ns.zip (en.map (·.val))).map kvN
  | [], [], _ => rfl
  | [], _ :: _, h => by simp at h
  | _ :: _, [], h => by simp at h
  | e :: en, n :: ns, h => by
    simp only [List.map_cons, List.cons.injEq] at h
    simp only [List.map_cons, List.zip_cons_cons, kv_zip h.2]
    congr 1
    simp [kvE, kvN, h.1]
theorem strs_realK {r : Ren} : ∀ {l : List AV} {ss : List (List Nat)} {us : List Value}, All2 (fun x s => x = AV.str s) l ss → reals r l = some us → us = (ss.map textOf).map (fun s => Value.string (B s)) ∧ ∀ s ∈ ss, Bytes s
  | _, _, us, .nil, h => by rw [reals_nil] at h; cases h; exact ⟨rfl, fun s h => by cases h⟩
  | _, _, us, .cons e t, h => by
    obtain ⟨u, us', h1, h2, rfl⟩ := reals_cons.1 h
    subst e
    obtain ⟨hb, rfl⟩ := real_str h1
    obtain ⟨h3, h4⟩ := strs_realK t h2
    refine ⟨by rw [h3]; rfl, fun s hs => ?_⟩
    rcases List.mem_cons.1 hs with rfl | hs
    · exact hb
    · exact h4 s hs
theorem vX_zip : ∀ (ns : List Nm) (zs : List Int), vX (ns.zip zs) = ns.zip (zs.map iv)
  | [], _ => rfl
  | _ :: _, [] => rfl
  | n :: ns, z :: zs => by
    simp only [vX, List.zip_cons_cons, List.map_cons]
    rw [← vX_zip ns zs]; rfl
theorem All2.real {r : Ren} {β : Type} {T : AV → β → Prop} {T' : Value → β → Prop} (hT : ∀ x b u, T x b → Go.Proofs.YtoafcnecjgnbmaaGreatDoor.E.real r x = some u → T' u b) : ∀ {l : List AV} {bs : List β} {us : List Value}, All2 T l bs → reals r l = some us → All2 T' us bs
  | _, _, us, .nil, h => by rw [reals_nil] at h; cases h; exact .nil
  | _, _, us, .cons e t, h => by
    obtain ⟨u, us', h1, h2, rfl⟩ := reals_cons.1 h
    exact .cons (hT _ _ _ e h1) (All2.real hT t h2)
theorem All2.len {α β : Type} {T : α → β → Prop} : ∀ {l : List α} {m : List β}, All2 T l m → l.length = m.length
  | _, _, .nil => rfl
  | _, _, .cons _ t => by rw [List.length_cons, List.length_cons, t.len]
noncomputable def mKey (h : Hp) (x : AV) (k : Nat → List (List Nat) → List AV → Bool) : Bool := match x with
  | .map j => mapK h j fun ks vs _ _ => allR (fun x k => qStr x k) ks fun ss => k j ss vs
  | _ => false
theorem mKey_ok {h : Hp} {x : AV} {k : Nat → List (List Nat) → List AV → Bool} (hk : mKey h x k = true) : ∃ j ss vs, k j ss vs = true ∧ ∀ S w0 fl r w u, Rel S w0 fl r h w → real r x = some u → ∃ m en ck, u = .map (some m) ∧ MR w m en ck ((ss.map textOf).zip (en.toList.map (·.val))) ∧ reals r vs = some (en.toList.map (·.val)) ∧ (∀ s ∈ ss, Bytes s) ∧ ss.length = en.toList.length := by
  unfold mKey at hk
  split at hk
  · rename_i j
    obtain ⟨ks, vs, bs, ck0, hb, hk⟩ := mapK_ok hk
    obtain ⟨ss, hk, hK⟩ := allR_ok (T := fun x s => x = AV.str s) (fun x k h => by obtain ⟨s, e, h⟩ := qStr_ok (x := x) h; exact ⟨s, h, e⟩) hk
    refine ⟨j, ss, vs, hk, fun S w0 fl r w u hR hu => ?_⟩
    obtain ⟨p, hp, rfl⟩ := real_map hu
    obtain ⟨en, ckk, b1, b2, b3, b4, b5, _⟩ := hR.at hp hb
    obtain ⟨e1, e2⟩ := strs_realK hK b2
    have hl := hK.len
    have hl2 := reals_len b2
    rw [List.length_map] at hl2
    exact ⟨p.1, en, ckk, rfl, ⟨b1, kv_zip e1, b4.imp (fun h => Nat.ne_of_lt h), b5⟩, b3, e2, by omega⟩
  · cases hk
/-- What is far: the one name that is fixed and not reached, or none. -/
def farL (R : List Nm) : List (List Nat × Int) → List (List Nat)
  | [] => []
  | x :: l => if x.2 ≠ -1 ∧ ¬ R.contains (textOf x.1) = true then x.1 :: farL R l else farL R l
theorem farL_mem {R : List Nm} : ∀ {l : List (List Nat × Int)} {s : List Nat}, s ∈ farL R l ↔ ∃ z, (s, z) ∈ l ∧ z ≠ -1 ∧ textOf s ∉ R
  | [], s => by simp [farL]
  | x :: l, s => by
    simp only [farL]
    split
    · rename_i h
      rw [List.mem_cons, farL_mem (l := l)]
      constructor
      · rintro (rfl | ⟨z, h1, h2, h3⟩)
        · exact ⟨x.2, List.mem_cons_self, h.1, by simpa using h.2⟩
        · exact ⟨z, List.mem_cons_of_mem _ h1, h2, h3⟩
      · rintro ⟨z, h1, h2, h3⟩
        rcases List.mem_cons.1 h1 with e | h1
        · exact .inl (congrArg Prod.fst e)
        · exact .inr ⟨z, h1, h2, h3⟩
    · rename_i h
      rw [farL_mem (l := l)]
      constructor
      · rintro ⟨z, h1, h2, h3⟩
        exact ⟨z, List.mem_cons_of_mem _ h1, h2, h3⟩
      · rintro ⟨z, h1, h2, h3⟩
        rcases List.mem_cons.1 h1 with e | h1
        · exfalso
          rw [← e] at h
          exact h ⟨h2, by simpa using h3⟩
        · exact ⟨z, h1, h2, h3⟩
def farD (sa : List (List Nat)) (na : List Nat) (sb : List (List Nat)) (ib : List (List Int)) (sc : List (List Nat)) (ic : List Int) (sf : List (List Nat)) (jf : List Int) (N : List (List (List Nat))) : FarD :=
  ⟨(sa.map textOf).zip na, (sb.map textOf).zip ib, (sc.map textOf).zip ic, (sf.map textOf).zip jf, N.map (·.map textOf)⟩
def farR (D : FarD) : List Nm := D.reach 1000 D.A []
noncomputable def farP (vs : List AV) (h : Hp) (k : AV → Bool) : Bool := one1 vs fun v => qPtr v fun i o => ask (Nat.beq o 0) (cellsK h i fun _ _ _ cs => nthK cs 0 fun xr => nthK cs 2 fun xb => nthK cs 3 fun xf => nthK cs 4 fun xc => nthK cs 5 fun xa =>
  slK 39 xr h fun n rl => rowsK h n rl fun N => mKey h xa fun _ sa va => allR slen va fun na => mKey h xb fun _ sb vb => allR (sInts h) vb fun ib => mKey h xc fun _ sc vc => allR i64K vc fun ic => mKey h xf fun _ sf vf => allR i64K vf fun jf =>
  ask (FarD.good (farD sa na sb ib sc ic sf jf N) (farR (farD sa na sb ib sc ic sf jf N))) (List.rec (motive := fun _ => Bool) (k (.tup [.str [], .bool false])) (fun s t _ => List.rec (motive := fun _ => Bool) (k (.tup [.str s, .bool true])) (fun _ _ _ => false) t) (farL (farR (farD sa na sb ib sc ic sf jf N)) (sf.zip jf))))
theorem zip_text : ∀ (sf : List (List Nat)) (jf : List Int), (sf.map textOf).zip jf = (sf.zip jf).map fun x => (textOf x.1, x.2)
  | [], _ => rfl
  | _ :: _, [] => rfl
  | s :: sf, j :: jf => by simp only [List.map_cons, List.zip_cons_cons, zip_text sf jf]
theorem good_ok {D : FarD} {R : List Nm} (h : D.good R = true) : R.Nodup ∧ (∀ n ∈ D.A, n ∈ R) ∧ (∀ n ∈ R, ∀ m ∈ D.suc n, m ∈ R) ∧ (∀ X : Nm → Prop, (∀ n ∈ D.A, X n) → (∀ n, X n → ∀ m ∈ D.suc n, X m) → ∀ n ∈ R, X n) ∧ (∀ n ∈ R, ∀ i ∈ D.rho n, 0 ≤ i ∧ i < D.N.length) ∧ D.la.length + wt D.suc [] R ≤ 1000000 ∧ (∀ i : Int, 0 ≤ i → i < D.N.length → (D.nds i).length ≤ 1000000) ∧ ∀ n ∈ R, (D.rho n).length ≤ 1000000 := by
  simp only [FarD.good, Bool.and_eq_true, List.all_eq_true, decide_eq_true_eq] at h
  obtain ⟨⟨⟨⟨⟨⟨⟨h1, h2⟩, h3⟩, h4⟩, h5⟩, h6⟩, h7⟩, h8⟩ := h
  refine ⟨FarD.nodB_ok h1, fun n hn => by simpa using h2 n hn, fun n hn m hm => by simpa using h3 n hn m hm, fun X x1 x2 => FarD.ordB_ok x1 x2 (fun _ h => by cases h) h4, h5, h6, fun i i0 i1 => ?_, h8⟩
  unfold FarD.nds
  rw [List.getD_eq_getElem?_getD, List.getElem?_eq_getElem (by omega)]
  exact h7 _ (List.getElem_mem _)
set_option maxHeartbeats 2000000 in
theorem pr_far {fl : Nat} : Pr1 Tryz.prog fl 536 fun _ vs h kr _ => farP vs h fun v => kr v h := by
  refine Pr1.val fun ps h k hk => ?_
  obtain ⟨v, rfl, hk⟩ := one1_ok hk
  obtain ⟨i, o, rfl, hk⟩ := qPtr_ok (x := v) hk
  obtain ⟨ho, hk⟩ := ask_ok hk
  obtain rfl := Nat.eq_of_beq_eq_true ho
  obtain ⟨t, op, ro, cs, hb, hk⟩ := cellsK_ok hk
  obtain ⟨xr, hr, hk⟩ := nthK_ok hk
  obtain ⟨xb, hxb, hk⟩ := nthK_ok hk
  obtain ⟨xf, hxf, hk⟩ := nthK_ok hk
  obtain ⟨xc, hxc, hk⟩ := nthK_ok hk
  obtain ⟨xa, hxa, hk⟩ := nthK_ok hk
  obtain ⟨n, rl, hk, hS⟩ := slK_ok hk
  obtain ⟨N, hk, hN1, hN2⟩ := rowsK_ok hk
  obtain ⟨ja, sa, va, hk, hKa⟩ := mKey_ok hk
  obtain ⟨na, hk, hna⟩ := allR_ok (T := fun x n => ∀ r u, real r x = some u → ∃ p cap, u = .slice p n cap) (fun x k h => slen_ok h) hk
  obtain ⟨jb, sb, vb, hk, hKb⟩ := mKey_ok hk
  obtain ⟨ib, hk, hib⟩ := allR_ok (T := fun x zs => ∀ S w0 fl r w u, Rel S w0 fl r h w → real r x = some u → Sl w 1 u zs.length (zs.map iv)) (fun x k h => sInts_ok h) hk
  obtain ⟨jc, sc, vc, hk, hKc⟩ := mKey_ok hk
  obtain ⟨ic, hk, hic⟩ := allR_ok (T := fun x z => x = AV.int .i64 z) (fun x k h => i64K_ok h) hk
  obtain ⟨jf', sf, vf, hk, hKf⟩ := mKey_ok hk
  obtain ⟨jf, hk, hjf⟩ := allR_ok (T := fun x z => x = AV.int .i64 z) (fun x k h => i64K_ok h) hk
  obtain ⟨hgood, hk⟩ := ask_ok hk
  obtain ⟨g1, g2, g3, g4, g5, g6, g7, g8⟩ := good_ok hgood
  obtain ⟨D, hD⟩ : ∃ D, D = farD sa na sb ib sc ic sf jf N := ⟨_, rfl⟩
  rw [← hD] at hk g1 g2 g3 g4 g5 g6 g7 g8
  have dN : D.N = N.map (·.map textOf) := by rw [hD]; rfl
  have da : D.la = (sa.map textOf).zip na := by rw [hD]; rfl
  have db : D.lb = (sb.map textOf).zip ib := by rw [hD]; rfl
  have dc : D.lc = (sc.map textOf).zip ic := by rw [hD]; rfl
  have df : D.lf = (sf.map textOf).zip jf := by rw [hD]; rfl
  clear hD hgood
  generalize farR D = R at *
  have key : ∀ S w0 r w xs, Rel S w0 fl r h w → reals r [AV.ptr i 0] = some xs → (∀ s ∈ sf, Bytes s) ∧ Calls Tryz.prog 536 xs.toArray w fun e w' => K0 w w' ∧ ((∃ x ∈ D.lf, x.2 ≠ -1 ∧ x.1 ∉ R ∧ e = .returned (.tuple #[.string (B x.1), .bool true])) ∨ ((∀ x ∈ D.lf, x.2 ≠ -1 → x.1 ∈ R) ∧ e = .returned (.tuple #[.string (B []), .bool false]))) := by
    intro S w0 r w xs hR hxs
    obtain ⟨x, hx, rfl⟩ := reals1 hxs
    obtain ⟨p, hp, rfl⟩ := real_ptr hx
    obtain ⟨cc, fz, us, e1, e2, e3, _⟩ := hR.at hp hb
    have cell : ∀ {j : Nat} {a : AV}, cs[j]? = some a → ∃ u, w.cell? ⟨p.1, j, none⟩ = some u ∧ real r a = some u := fun ha => by
      obtain ⟨u, h1, h2⟩ := reals_at e3 ha
      exact ⟨u, cell_of (hR.at hp hb) e3 h1, h2⟩
    obtain ⟨rv, c0, r0⟩ := cell hr
    obtain ⟨ub, c2, r2⟩ := cell hxb
    obtain ⟨uf, c3, r3⟩ := cell hxf
    obtain ⟨uc, c4, r4⟩ := cell hxc
    obtain ⟨ua, c5, r5⟩ := cell hxa
    obtain ⟨mb, eb, ckb, rfl, hMb, hvb, _, hlb⟩ := hKb S w0 fl r w ub hR r2
    obtain ⟨mf, ef, ckf, rfl, hMf, hvf, hBf, hlf⟩ := hKf S w0 fl r w uf hR r3
    obtain ⟨mc, ec, ckc, rfl, hMc, hvc, _, hlc⟩ := hKc S w0 fl r w uc hR r4
    obtain ⟨ma, ea, cka, rfl, hMa, hva, _, hla⟩ := hKa S w0 fl r w ua hR r5
    obtain ⟨rs, s1, s2⟩ := hS S w0 fl r w rv hR r0
    refine ⟨hBf, ?_⟩
    have hc : ec.toList.map (·.val) = ic.map iv := i64s_real hic hvc
    have hf : ef.toList.map (·.val) = jf.map iv := i64s_real hjf hvf
    have zlen : ∀ {β : Type} {l : List Value} {m : List β}, l.length = m.length → ∀ ns : List Nm, (ns.zip l).map (·.1) = (ns.zip m).map (·.1) := by
      intro β l m hl ns
      induction ns generalizing l m with
      | nil => rfl
      | cons a ns ih =>
        cases l with
        | nil => cases m with
          | nil => rfl
          | cons b m => simp at hl
        | cons c l => cases m with
          | nil => simp at hl
          | cons b m =>
            simp only [List.zip_cons_cons, List.map_cons, ih (show l.length = m.length by simpa using hl)]
    have hna2 := All2.real (T' := fun u n => ∃ p cap, u = Value.slice p n cap) (fun x b u h hu => h r u hu) hna hva
    have hib2 := All2.real (T' := fun u zs => Sl w 1 u zs.length (zs.map iv)) (fun x b u h hu => h S w0 fl r w u hR hu) hib hvb
    refine far p.1 D R w (rv := rv) (mb := mb) (mf := mf) (mc := mc) (ma := ma) (lb := (sb.map textOf).zip (eb.toList.map (·.val))) (la := (sa.map textOf).zip (ea.toList.map (·.val))) (ea := ea) (ef := ef) (cka := cka) (ckf := ckf) ?_ g1 g2 g3 g4 g5 g6 g7 g8
    refine ⟨c0, c2, c3, c4, c5, ?_, hMa, ?_, fun n => ?_, hMb.mv, fun n => ?_, ?_, ?_⟩
    · refine ⟨rs, ?_, fun i hi => ?_⟩
      · rw [dN, List.length_map, hN1]; exact s2
      · rw [dN, List.length_map, hN1] at hi
        rw [dN]
        obtain ⟨y, y1, y2⟩ := hN2 i hi
        obtain ⟨u, u1, u2⟩ := reals_at s1 y1
        refine ⟨u, u1, ?_⟩
        have := y2 S w0 fl r w u hR u2
        rw [List.getD_eq_getElem?_getD, List.getElem?_map]
        rw [List.getD_eq_getElem?_getD] at this
        cases hq : N[i]? with
        | none => rw [hq] at this; exact this
        | some q => rw [hq] at this; exact this
    · rw [da]; exact zlen hna2.len _
    · unfold FarD.len
      rw [da]
      rcases mget_zip (sa.map textOf) n hna2 with ⟨a1, a2⟩ | ⟨u, v, a1, a2, p, cap, rfl⟩
      · rw [a1, a2]; exact ⟨_, _, rfl⟩
      · rw [a1, a2]; exact ⟨_, _, rfl⟩
    · rw [db]
      rcases mget_zip (sb.map textOf) n hib2 with ⟨a1, a2⟩ | ⟨u, v, a1, a2, hu⟩
      · rw [a1, a2]; exact Sl.nil w 1
      · rw [a1, a2]; exact hu
    · rw [dc, vX_zip, ← hc]; exact hMc.mv
    · rw [df, vX_zip, ← hf]; exact hMf
  have hlf : D.lf = (sf.zip jf).map fun x => (textOf x.1, x.2) := by
    rw [df]; exact zip_text sf jf
  have farOf : ∀ x ∈ D.lf, x.2 ≠ -1 → x.1 ∉ R → ∃ s ∈ farL R (sf.zip jf), textOf s = x.1 := fun x hx h1 h2 => by
    rw [hlf] at hx
    obtain ⟨y, hy, rfl⟩ := List.mem_map.1 hx
    exact ⟨y.1, farL_mem.2 ⟨y.2, hy, h1, h2⟩, rfl⟩
  have ofFar : ∀ s ∈ farL R (sf.zip jf), s ∈ sf ∧ ∃ x ∈ D.lf, x.2 ≠ -1 ∧ x.1 ∉ R := fun s hs => by
    obtain ⟨z, h1, h2, h3⟩ := farL_mem.1 hs
    exact ⟨(List.of_mem_zip h1).1, (textOf s, z), by rw [hlf]; exact List.mem_map.2 ⟨(s, z), h1, rfl⟩, h2, h3⟩
  cases hL : farL R (sf.zip jf) with
  | nil =>
    rw [hL] at hk
    refine ⟨_, hk, fun S w0 r w xs hR hxs => (key S w0 r w xs hR hxs).2.mono ?_⟩
    rintro e w' ⟨hK, ⟨x, hx, h1, h2, rfl⟩ | ⟨_, rfl⟩⟩
    · obtain ⟨s, hs, _⟩ := farOf x hx h1 h2
      rw [hL] at hs; cases hs
    · refine ⟨_, rfl, hK, ?_⟩
      have : reals r [AV.str [], .bool false] = some [.string (B []), .bool false] := reals_cons.2 ⟨_, _, str_real (s := []) rfl, reals_cons.2 ⟨_, _, rfl, reals_nil, rfl⟩, rfl⟩
      simp only [real, this, Option.map_some]
  | cons s tl =>
    rw [hL] at hk
    cases tl with
    | cons _ _ => cases hk
    | nil =>
      refine ⟨_, hk, fun S w0 r w xs hR hxs => ?_⟩
      obtain ⟨hBy, hC⟩ := key S w0 r w xs hR hxs
      have hs : s ∈ farL R (sf.zip jf) := by rw [hL]; simp
      obtain ⟨hsf, x0, hx0, h10, h20⟩ := ofFar s hs
      refine hC.mono ?_
      rintro e w' ⟨hK, ⟨x, hx, h1, h2, rfl⟩ | ⟨hno, rfl⟩⟩
      · obtain ⟨s', hs', e'⟩ := farOf x hx h1 h2
        rw [hL] at hs'
        obtain rfl := List.mem_singleton.1 hs'
        refine ⟨_, rfl, hK, ?_⟩
        rw [← e']
        have : reals r [AV.str s', .bool true] = some [.string (B (textOf s')), .bool true] := reals_cons.2 ⟨_, _, str_real (hBy s' hsf), reals_cons.2 ⟨_, _, rfl, reals_nil, rfl⟩, rfl⟩
        simp only [real, this, Option.map_some]
      · exact absurd (hno x0 hx0 h10) h20
end Go.Proofs.YtoafcnecjgnbmaaGreatDoor.E

set_option linter.constructorNameAsVariable false
set_option linter.unusedVariables false
namespace Go.Proofs.YtoafcnecjgnbmaaGreatDoor.E
open Go Go.RowKit H
attribute [local irreducible] H.CL H.RW H.CW H.Yd H.thenK H.blockQ Go.Calls
theorem insInt1 (p : Option Addr) (n cap : Nat) (fv : Value) (hn : n ≤ 1) (w : World) : Calls Tryz.prog 548 #[.slice p n cap, .int .i64 0, .int .i64 (n : Int), fv] w fun e w' => e = .returned (.tuple #[]) ∧ w' = w := by
  refine H.enter Tryz.func548 Tryz.ntmps548 rfl rfl ?_; dsimp only [H.args]
  repeat' (first | (refine CL.seq ?_) | (refine CL.region ?_) | (refine CL.block ?_) | (refine Gt.nil ?_; refine RW.nilw [0, 1, 2, 3, 8, 9, 14, 34] ?_; dsimp only [H.keep, H.look, H.Fr.put, Nat.beq]) | (refine Gt.move ?_; refine RW.y (Y.move rfl) rfl ?_) | (refine Gt.assign ?_; refine RW.y (Y.assign rfl) rfl ?_) | (refine Gt.add ?_; refine RW.y (Y.add64 rfl rfl (by omega) (by omega)) rfl ?_))
  refine CL.loopS [0, 1, 2, 3, 8] (fun k vals wr => vals = [.slice p n cap, .int .i64 0, .int .i64 (n : Int), fv, .int .i64 1] ∧ wr = w) 0 ⟨_, rfl, rfl, rfl⟩ ?_
  rintro k vals wr ⟨rfl, rfl⟩
  dsimp only [List.zip, List.zipWith]
  repeat' (first | (refine CL.seq ?_) | (refine CL.region ?_) | (refine CL.condP rfl (fun _ => ?_) (fun _ => ?_) <;> try (exfalso; omega)) | (refine CL.exit ?_) | (refine Ex.then ?_) | (refine Ex.hit ?_) | (refine CL.done ?_) | (refine Gt.nil ?_; refine RW.nilw [0, 1, 2, 3, 8, 9, 14, 34] ?_; dsimp only [H.keep, H.look, H.Fr.put, Nat.beq]) | (refine Gt.move ?_; refine RW.y (Y.move rfl) rfl ?_) | (refine Gt.lss ?_; refine RW.y (Y.lss rfl rfl) rfl ?_))
  exact FQ.norm (FQ.none rfl rfl ⟨rfl, rfl⟩)
theorem stableInt1 (p : Option Addr) (n cap : Nat) (fv : Value) (hn : n ≤ 1) (w : World) : Calls Tryz.prog 535 #[.slice p n cap, .int .i64 (n : Int), fv] w fun e w' => e = .returned (.tuple #[]) ∧ w' = w := by
  refine H.enter Tryz.func535 Tryz.ntmps535 rfl rfl ?_; dsimp only [H.args]
  repeat' (first | (refine CL.seq ?_) | (refine CL.region ?_) | (refine CL.block ?_) | (refine Gt.nil ?_; refine RW.nilw [0, 1, 2, 6, 7, 8, 9, 13, 30, 35, 54] ?_; dsimp only [H.keep, H.look, H.Fr.put, Nat.beq]) | (refine Gt.move ?_; refine RW.y (Y.move rfl) rfl ?_) | (refine Gt.assign ?_; refine RW.y (Y.assign rfl) rfl ?_))
  refine CL.loopS [0, 1, 2, 6, 7, 8] (fun k vals wr => vals = [.slice p n cap, .int .i64 (n : Int), fv, .int .i64 20, .int .i64 0, .int .i64 20] ∧ wr = w) 0 ⟨_, rfl, rfl, rfl⟩ ?_
  rintro k vals wr ⟨rfl, rfl⟩
  dsimp only [List.zip, List.zipWith]
  repeat' (first | (refine CL.seq ?_) | (refine CL.region ?_) | (refine CL.condP rfl (fun _ => ?_) (fun _ => ?_) <;> try (exfalso; omega)) | (refine CL.exit ?_) | (refine Ex.then ?_) | (refine Ex.hit ?_) | (refine Gt.nil ?_; refine RW.nilw [0, 1, 2, 6, 7, 8, 9, 13, 30, 35, 54] ?_; dsimp only [H.keep, H.look, H.Fr.put, Nat.beq]) | (refine Gt.move ?_; refine RW.y (Y.move rfl) rfl ?_) | (refine Gt.leq ?_; refine RW.y (Y.leq rfl rfl) rfl ?_))
  refine RW.fn rfl rfl ((insInt1 p n cap fv hn wr).mono ?_)
  rintro e w3 ⟨rfl, rfl⟩
  repeat' (first | (refine CL.block ?_) | (refine Gt.nil ?_; refine RW.nilw [0, 1, 2, 6, 7, 8, 9, 13, 30, 35, 54] ?_; dsimp only [H.keep, H.look, H.Fr.put, Nat.beq]))
  refine CL.loopS [0, 1, 2, 6] (fun k vals wr => vals = [.slice p n cap, .int .i64 (n : Int), fv, .int .i64 20] ∧ wr = w3) 0 ⟨_, rfl, rfl, rfl⟩ ?_
  rintro k vals wr ⟨rfl, rfl⟩
  dsimp only [List.zip, List.zipWith]
  repeat' (first | (refine CL.seq ?_) | (refine CL.region ?_) | (refine CL.condP rfl (fun _ => ?_) (fun _ => ?_) <;> try (exfalso; omega)) | (refine CL.exit ?_) | (refine Ex.then ?_) | (refine Ex.hit ?_) | (refine CL.done ?_) | (refine Gt.nil ?_; refine RW.nilw [0, 1, 2, 6, 7, 8, 9, 13, 30, 35, 54] ?_; dsimp only [H.keep, H.look, H.Fr.put, Nat.beq]) | (refine Gt.move ?_; refine RW.y (Y.move rfl) rfl ?_) | (refine Gt.lss ?_; refine RW.y (Y.lss rfl rfl) rfl ?_))
  exact FQ.norm (FQ.none rfl rfl ⟨rfl, rfl⟩)
theorem sortInt1 (p : Option Addr) (n cap : Nat) (fv : Value) (hn : n ≤ 1) (w : World) : Calls Tryz.prog 512 #[.slice p n cap, fv] w fun e w' => e = .returned (.tuple #[]) ∧ w' = w := by
  refine H.enter Tryz.func512 Tryz.ntmps512 rfl rfl ?_; dsimp only [H.args]
  repeat' (first | (refine CL.region ?_) | (refine Gt.move ?_; refine RW.y (Y.move rfl) rfl ?_) | (refine Gt.len ?_; (refine RW.y (Y.lenv rfl) rfl ?_)))
  refine RW.fn rfl rfl ((stableInt1 p n cap fv hn w).mono ?_)
  rintro e w3 ⟨rfl, rfl⟩
  repeat' (first | (refine CL.done ?_) | (refine Gt.nil ?_; refine RW.nilw [0, 1] ?_; dsimp only [H.keep, H.look, H.Fr.put, Nat.beq]))
  exact FQ.norm (FQ.none rfl rfl ⟨rfl, rfl⟩)
noncomputable def sstP (vs : List AV) (h : Hp) (k : AV → Bool) : Bool := two2 vs fun a _ => slen a fun n => ask (Nat.ble n 1) (k (.tup []))
theorem pr_sst {fl : Nat} : Pr1 Tryz.prog fl 512 fun _ vs h kr _ => sstP vs h fun v => kr v h := by
  refine Pr1.val fun ps h k hk => ?_
  obtain ⟨a, b, rfl, hk⟩ := two2_ok hk
  obtain ⟨n, hk, hS⟩ := slen_ok (show slen a (fun n => ask (Nat.ble n 1) (k (.tup []))) = true from hk)
  obtain ⟨h1, hk⟩ := ask_ok hk
  refine ⟨_, hk, fun S w0 r w xs hR hxs => ?_⟩
  obtain ⟨x, y, hx, hy, rfl⟩ := reals2 hxs
  obtain ⟨p, cap, rfl⟩ := hS r x hx
  refine (sortInt1 p n cap y (ble_le h1) w).mono ?_
  rintro e w' ⟨rfl, rfl⟩
  exact ⟨_, rfl, Kept.refl _ _, by simp [real, reals]⟩
end Go.Proofs.YtoafcnecjgnbmaaGreatDoor.E

set_option linter.constructorNameAsVariable false
set_option linter.unusedVariables false
namespace Go.Proofs.YtoafcnecjgnbmaaGreatDoor.E
open Go Go.RowKit H
set_option maxRecDepth 100000
/-- The sums of the archives that come. -/
def SumsOk : Prop := (∀ x ∈ shaT, Bytes x.2 ∧ SumOk P0 106 60 5 x.1 x.2) ∧ ∀ x ∈ shaT, Bytes x.2 ∧ SumOk P0 25 60 5 x.1 x.2
noncomputable def defP (fl : Nat) (f : FuncId) : Prim := fun call vs h kr kp => deferK P0 fl FU (dr0 fl) call f vs h kr kp
noncomputable def tb0 (fl : Nat) : List (FuncId × Prim) := [(536, fun _ vs h kr _ => farP vs h fun v => kr v h), (512, fun _ vs h kr _ => sstP vs h fun v => kr v h), (104, fun _ vs h kr _ => idxP vs h fun v => kr v h), (160, fun _ vs h kr _ => idxP vs h fun v => kr v h), (177, fun _ vs h kr _ => cnt1P vs h fun v => kr v h),
  (433, rfK P0 fl FU (dr0 fl) 190 it1 (fun _ => true) 433), (127, rfK P0 fl FU (dr0 fl) 190 it2 tk2 127),
  (101, fun _ vs h kr _ => sortedS 9 [158, 519, 558] vs h kr), (237, fun _ vs h kr _ => sortedI 3 [321] vs h kr),
  (204, fun _ vs h kr _ => cloneP vs h kr), (516, fun _ vs h kr _ => cloneP vs h kr), (510, fun _ vs h kr _ => ccP fl 599 vs h kr),
  (236, fun _ vs h kr _ => asP fl vs h kr), (307, fun _ vs h kr _ => isP vs h fun v => kr v h), (30, fun _ vs h kr _ => diskP vs h kr),
  (106, fun _ vs h kr _ => sumP 60 5 shaT vs h fun v => kr v h), (25, fun _ vs h kr _ => sumP 60 5 shaT vs h fun v => kr v h), (431, fun _ vs h kr _ => joinP vs h fun v => kr v h),
  (110, defP fl 110), (198, defP fl 198), (352, defP fl 352), (303, defP fl 303)]
theorem tb0_ok (hs : SumsOk) (fl : Nat) : ∀ x ∈ tb0 fl, Pr1 P0 fl x.1 x.2 := by
  have hd : ∀ f, Pr1 P0 fl f (defP fl f) := fun f => Pr1.defer (dr0_ok fl) regs0
  unfold tb0
  refine List.forall_mem_cons.2 ⟨pr_far, List.forall_mem_cons.2 ⟨pr_sst, List.forall_mem_cons.2 ⟨pr_106, List.forall_mem_cons.2 ⟨pr_162, List.forall_mem_cons.2 ⟨pr_179, List.forall_mem_cons.2 ⟨rfK_ok (dr0_ok fl) regs0 it1_ok 433, List.forall_mem_cons.2 ⟨rfK_ok (dr0_ok fl) regs0 it2_ok 127, List.forall_mem_cons.2 ⟨pr_103, List.forall_mem_cons.2 ⟨pr_239, List.forall_mem_cons.2 ⟨pr_206, List.forall_mem_cons.2 ⟨pr_518, List.forall_mem_cons.2 ⟨pr_512, List.forall_mem_cons.2 ⟨pr_238, List.forall_mem_cons.2 ⟨pr_309, List.forall_mem_cons.2 ⟨pr_37, List.forall_mem_cons.2 ⟨sumP_ok hs.1, List.forall_mem_cons.2 ⟨sumP_ok hs.2, List.forall_mem_cons.2 ⟨pr_433, List.forall_mem_cons.2 ⟨hd 110, List.forall_mem_cons.2 ⟨hd 198, List.forall_mem_cons.2 ⟨hd 352, List.forall_mem_cons.2 ⟨hd 303, fun x hx => by cases hx⟩⟩⟩⟩⟩⟩⟩⟩⟩⟩⟩⟩⟩⟩⟩⟩⟩⟩⟩⟩⟩⟩
noncomputable def call0 (fl : Nat) : CallF := callK P0 fl FU (tab (tb0 fl)) (dr0 fl) 100
theorem call0_ok (hs : SumsOk) (fl : Nat) : CallOk P0 fl (call0 fl) := callK_ok (tab_ok (tb0_ok hs fl)) (dr0_ok fl) regs0 100
noncomputable def tb1 (fl : Nat) : List (FuncId × Prim) := (235, fun _ vs h kr _ => filesP vs h kr) :: (467, pureS P0 FU dr0 call0 467) :: (423, pureS P0 FU dr0 call0 423) :: tb0 fl
theorem tb1_ok (hs : SumsOk) (fl : Nat) : ∀ x ∈ tb1 fl, Pr1 P0 fl x.1 x.2 := List.forall_mem_cons.2 ⟨pr_237, List.forall_mem_cons.2 ⟨pureS_ok (call0_ok hs) dr0_ok regs0 fl _, List.forall_mem_cons.2 ⟨pureS_ok (call0_ok hs) dr0_ok regs0 fl _, tb0_ok hs fl⟩⟩⟩
noncomputable def call1 (fl : Nat) : CallF := callK P0 fl FU (tab (tb1 fl)) (dr0 fl) 100
theorem call1_ok (hs : SumsOk) (fl : Nat) : CallOk P0 fl (call1 fl) := callK_ok (tab_ok (tb1_ok hs fl)) (dr0_ok fl) regs0 100
noncomputable def run1 (fl : Nat) (vs : List AV) (h : Hp) (k : KV) : Bool := bodyW 0 P0 fl FU noWc (fun n call => drX call1 n call) (call1 fl) 304 vs h k
noncomputable def wc1 (fl : Nat) : WcF := fun f => ifeV (Nat.beq f 304) (some (run1 fl)) none
theorem wc1_ok (hs : SumsOk) (fl : Nat) : WcOk P0 fl (wc1 fl) := by
  intro f g vs h k hg hk
  cases e : Nat.beq f 304 with
  | true =>
    replace hg : ifeV (Nat.beq f 304) (some (run1 fl)) none = some g := hg
    rw [e] at hg
    replace hg : some (run1 fl) = some g := hg
    cases hg
    have e := Nat.eq_of_beq_eq_true e
    subst e
    replace hk : bodyW 0 P0 fl FU noWc (fun n call => drX call1 n call) (call1 fl) 304 vs h k = true := hk
    have hd : ∀ n call, CallOk P0 fl call → DrawWk P0 fl n (fun ops => ops = R8) (drX call1 n call) := fun n call hc => drX_ok (call1_ok hs) hc
    exact ⟨bodyW_ex (call1_ok hs fl) (noWc_ok (P := P0) (fl := fl)).ex (fun n call hc => (hd n call hc).ex) regs8 hk, bodyW_ok (call1_ok hs fl) noWc_ok hd regs8 hk⟩
  | false =>
    replace hg : ifeV (Nat.beq f 304) (some (run1 fl)) none = some g := hg
    rw [e] at hg
    cases hg
noncomputable def runA (fl : Nat) (vs : List AV) (h : Hp) (k : KV) : Bool := bodyW 1 P0 fl FU noWc (fun n call => drXA call1 n call) (call1 fl) 304 vs h k
noncomputable def wcA (fl : Nat) : WcF := fun f => ifeV (Nat.beq f 304) (some (runA fl)) none
noncomputable def tb2 (fl : Nat) : List (FuncId × Prim) := (227, pureD P0 FU wcA wc1 dr0 call1 227) :: tb1 fl
noncomputable def call2 (fl : Nat) : CallF := callK P0 fl FU (tab (tb2 fl)) (dr0 fl) 200
/-- What is known of the memory where a law begins. -/
noncomputable def h00 : Hp := ((⟨100, .e⟩ : Hp).put 0 (some .ints)).put 1 (some (.cells 441 false true [.ifc 512 (.agg [.ptr 9 201])]))
end Go.Proofs.YtoafcnecjgnbmaaGreatDoor.E

set_option linter.constructorNameAsVariable false
set_option linter.unusedVariables false
namespace Go.Proofs.YtoafcnecjgnbmaaGreatDoor.E
open Go Go.RowKit H
set_option maxRecDepth 100000
/-- What the library's variables hold where a law begins. -/
structure Wf (w : World) : Prop where
  m0 : ∃ m, w.cell? ⟨0, 0, none⟩ = some (.int .i64 m)
  e1 : ∃ fz, w.heap[1]? = some (.cells #[rT 201] 441 fz)
  sz : 9 < w.heap.size
theorem h00_at {i : Nat} (hi : i < LIM) : h00.at i = if 1 = i then some (.cells 441 false true [.ifc 512 (.agg [.ptr 9 201])]) else if 0 = i then some .ints else none := by
  unfold h00
  rw [Hp.at_put (by decide) hi, Hp.at_put (by decide) hi]
  simp only [Hp.at, Tr.get_e]
def r00f (i : Nat) : Option (Nat × Nat) := match i with
  | 0 => some (0, 1)
  | 1 => some (1, 1)
  | 9 => some (9, 0)
  | _ => none
def r00 (sg : Nat → Nat) : Ren := ⟨r00f, fun i => i < 100 ∧ r00f i = none, sg⟩
theorem r00_some {sg : Nat → Nat} {i : Nat} {p : Nat × Nat} (h : r00 sg i = some p) : (i = 0 ∨ i = 1 ∨ i = 9) ∧ p.1 = i := by
  have h : r00f i = some p := h
  unfold r00f at h
  split at h
  · cases h; exact ⟨.inl rfl, rfl⟩
  · cases h; exact ⟨.inr (.inl rfl), rfl⟩
  · cases h; exact ⟨.inr (.inr rfl), rfl⟩
  · cases h
theorem rel00 (sg : Nat → Nat) {w : World} (h : Wf w) : Rel (fun _ => False) w 100 (r00 sg) h00 w := by
  have hn : h00.next = 100 := rfl
  obtain ⟨fz1, he1⟩ := h.e1
  have hl1 := lt_of_at he1
  refine ⟨fun i b hi hb => ?_, fun i j b c p q hi hj hb hc hp hq e => ?_, fun i hi => ?_, by rw [hn]; decide, fun i p _ hp => (r00_some hp).2, fun i p hi hp => ?_, fun i p hp => ?_, Kept.refl _ _, by rw [hn]; exact ⟨Nat.le_refl _, Nat.le_refl _⟩, fun i hi => ⟨hi.2, by rw [hn]; exact hi.1⟩, fun i hi => ?_, fun i hi hL => ?_⟩
  · rw [hn] at hi
    rw [h00_at (Nat.lt_trans hi (by decide))] at hb
    by_cases e1 : 1 = i
    · subst e1
      rw [if_pos rfl] at hb; cases hb
      refine ⟨(1, 1), rfl, _, fz1, _, he1, rfl, reals_cons.2 ⟨rT 201, [], rfl, reals_nil, rfl⟩, rfl, Nat.le_refl _, fun _ => rfl, fun z => by cases z⟩
    · rw [if_neg e1] at hb
      by_cases e0 : 0 = i
      · subst e0
        rw [if_pos rfl] at hb; cases hb
        exact ⟨(0, 1), rfl, h.m0⟩
      · rw [if_neg e0] at hb; cases hb
  · have h1 := (r00_some hp).2
    have h2 := (r00_some hq).2
    omega
  · rw [hn] at hi
    cases e : r00 sg i with
    | none => rfl
    | some p => have := (r00_some e).1; omega
  · have := (r00_some hp).1; omega
  · have h1 := (r00_some hp).1
    have h2 := (r00_some hp).2
    have := h.sz
    omega
  · rw [hn] at hi
    cases e : r00 sg i with
    | none => exact .inl ⟨hi, e⟩
    | some p => exact .inr ⟨p, rfl⟩
  · rw [hn] at hi
    rw [h00_at hL, if_neg (by omega), if_neg (by omega)]
/-- A law's run, with calls told by a table. -/
theorem law_of {T : List (FuncId × Prim)} (hT : ∀ x ∈ T, Pr1 P0 100 x.1 x.2) {f : FuncId} {vs : List AV}
    (hk : callK P0 100 FU (tab T) (dr0 100) 200 f vs h00 (fun v _ => qBool v fun x => ask x true) (fun _ _ => false) = true) {w : World} (hw : Wf w) {sg : Nat → Nat} {xs : List Value} (hxs : reals (r00 sg) vs = some xs) : Calls P0 f xs.toArray w fun e w' => K0 w w' ∧ e = .returned (.bool true) := by
  have hc := callK_ok (P := P0) (fl := 100) (m := FU) (tab_ok hT) (dr0_ok 100) regs0 200
  rcases hc _ _ _ _ _ hk with ⟨v, h', hv, hC⟩ | ⟨_, _, hk, _⟩
  · obtain ⟨b, rfl, hb⟩ := qBool_ok (x := v) hv
    have hb : b = true := (ask_ok (b := b) hb).1
    subst hb
    refine (hC _ w (r00 sg) w xs (rel00 sg hw) hxs).mono ?_
    rintro e w' ⟨r', x, rfl, _, hR', hx⟩
    have := real_bool hx
    subst this
    exact ⟨hR'.kept, rfl⟩
  · cases hk
end Go.Proofs.YtoafcnecjgnbmaaGreatDoor.E

set_option linter.constructorNameAsVariable false
set_option linter.unusedVariables false
namespace Go.Proofs.YtoafcnecjgnbmaaGreatDoor.E
open Go Go.RowKit H
section
variable {S : Nat → Prop} {w0 : World} {fl : Nat} {r : Ren} {h : Hp} {w : World}
end
structure CutE where
  vs : List AV
  nx : Nat
  l : List (Nat × Blk)
  v : AV
  nx' : Nat
  l' : List (Nat × Blk)
def CutOk (P : Program) (fl : Nat) (f : FuncId) (c : CutE) : Prop := ∀ S w0 r w xs h, Rel S w0 fl r h w → h.next = c.nx → (∀ x ∈ c.l, h.at x.1 = some x.2) → reals r c.vs = some xs → Calls P f xs.toArray w fun e w' => ∃ r' x h', e = .returned x ∧ Ext r r' ∧ Rel S w0 fl r' h' w' ∧ h'.next = c.nx' ∧ (∀ x ∈ c.l', h'.at x.1 = some x.2) ∧ real r' c.v = some x
/-- A state of so many names, of which these are known. -/
noncomputable def litH (nx : Nat) (l : List (Nat × Blk)) (k : Hp → Bool) : Bool := ask (Nat.ble nx LIM) (ask (rngB 0 nx l) (putsH l ⟨nx, .e⟩ k))
noncomputable def litR (nx : Nat) (l : List (Nat × Blk)) (h : Hp) : Bool := Hp.rec (motive := fun _ => Bool) (fun n t => ask (Nat.beq n nx) (agr ⟨n, t⟩ l)) h
noncomputable def cutK (call : CallF) (f : FuncId) (c : CutE) : Bool := CutE.rec (motive := fun _ => Bool) (fun vs nx l v nx' l' => litH nx l fun h => call f vs h (fun u h' => ask (avEq u v) (litR nx' l' h')) (fun _ _ => false)) c
noncomputable def cutP (T : List CutE) : Prim := fun _ vs h kr _ => List.rec (motive := fun _ => Bool) false (fun c _ ih => CutE.rec (motive := fun _ => Bool) (fun vs0 nx l v nx' l' => ife (Nat.beq h.next nx) (ask (avEq (.agg vs) (.agg vs0)) (ask (litR nx l h) (litH nx' l' fun g => kr v g))) ih) c) T
end Go.Proofs.YtoafcnecjgnbmaaGreatDoor.E

namespace Go.Proofs.YtoafcnecjgnbmaaGreatDoor.E
open Go
noncomputable def c6 (n : Nat) : AV := .int .i64 (.ofNat n)
noncomputable def c8 (n : Nat) : AV := .int .u8 (.ofNat n)
/-- Sectors, one behind the other. -/
noncomputable def sR (i k : Nat) : List AV := Nat.rec (motive := fun _ => Nat → List AV) (fun _ => []) (fun _ ih i => .sl i 0 1024 1024 :: ih (Nat.succ i)) k i
/-- Bytes, and zeros behind them. -/
noncomputable def bZ (l : List Nat) (n : Nat) : List AV := ints l ++ List.replicate n (.int .u8 (.ofNat 0))
end Go.Proofs.YtoafcnecjgnbmaaGreatDoor.E

set_option linter.constructorNameAsVariable false
set_option linter.unusedVariables false
namespace Go.Proofs.YtoafcnecjgnbmaaGreatDoor.E
open Go Go.RowKit H
attribute [local irreducible] H.CL H.RW H.CW H.Yd H.thenK H.blockQ Go.Calls
/-- Bytes alone. -/
noncomputable def bldH (t2 : TypeId) (s : List Nat) : Hp := (⟨101, .e⟩ : Hp).put 100 (some (.cells t2 true true (ints s)))
theorem bldH_at {t2 : TypeId} {s : List Nat} {i : Nat} (hi : i < LIM) : (bldH t2 s).at i = if 100 = i then some (.cells t2 true true (ints s)) else none := by
  unfold bldH
  rw [Hp.at_put (by decide) hi]
  simp only [Hp.at, Tr.get_e]
def bldR (q : Nat × Nat) : Ren := ⟨fun i => if i = 100 then some q else none, fun i => i < 100, fun _ => 0⟩
theorem bldR_rel {S : Nat → Prop} {w0 w : World} {fl : Nat} {r : Ren} {h : Hp} (hR : Rel S w0 fl r h w) {j : Nat} {q : Nat × Nat} {t2 : TypeId} {op ro : Bool} {s : List Nat} (hq : r j = some q) (hb : h.at j = some (.cells t2 op ro (ints s))) (hs : Bytes s) : Rel (fun _ => False) w 101 (bldR q) (bldH t2 s) w := by
  obtain ⟨c, fz, us, g1, g2, g3, g4, g5, g6, g7⟩ := hR.at hq hb
  have only : ∀ i p, (bldR q) i = some p → i = 100 ∧ p = q := fun i p h => by
    replace h : (if i = 100 then some q else none) = some p := h
    split at h
    · cases h; exact ⟨by assumption, rfl⟩
    · cases h
  refine ⟨fun a b ha hab => ?_, fun a b x y x' y' ha hb hx hy hx' hy' e => ?_, fun a ha => ?_, (show 101 ≤ LIM by decide), fun a x ha hx => ?_, fun a x ha hx => ?_, fun a x hx => ?_, Kept.refl _ _, ⟨Nat.le_refl _, (show GLB ≤ 101 by decide)⟩, fun a ha => ?_, fun a ha => ?_, fun a ha hl => ?_⟩
  · have ha : a < 101 := ha
    rw [bldH_at (Nat.lt_trans ha (by decide))] at hab
    by_cases q1 : 100 = a
    · subst q1
      rw [if_pos rfl] at hab; cases hab
      exact ⟨q, rfl, c, fz, us, g1, g2, by rw [reals_ints hs g3]; exact ints_real hs, g4, g5, (fun z => by cases z), fun z => by cases z⟩
    · rw [if_neg q1] at hab; cases hab
  · rw [(only _ _ hx').1, (only _ _ hy').1]
  · have ha : 101 ≤ a := ha
    show (if a = 100 then some q else none) = none
    rw [if_neg (by omega)]
  · have := (only _ _ hx).1; have ha : a < 100 := ha; omega
  · have := (only _ _ hx).1; omega
  · rw [(only _ _ hx).2]; exact hR.dom _ _ hq
  · have ha : a < 100 := ha
    refine ⟨?_, Nat.lt_trans ha (show 100 < 101 by decide)⟩
    show (if a = 100 then some q else none) = none
    rw [if_neg (by omega)]
  · have ha : a < 101 := ha
    rcases Nat.lt_or_ge a 100 with z | z
    · exact .inl z
    · obtain rfl : a = 100 := by omega
      exact .inr ⟨q, rfl⟩
  · have ha : 101 ≤ a := ha
    rw [bldH_at hl, if_neg (by omega)]
structure BldE where
  pin : AV
  s : List Nat
  v : AV
  L : List Blk
def BldOk (P : Program) (f : FuncId) (t2 : TypeId) (x : BldE) : Prop := ∀ w r, Rel (fun _ => False) w 101 r (bldH t2 x.s) w → ∀ xs, reals r [x.pin, .slx 100 0 x.s.length 1] = some xs → Calls P f xs.toArray w fun e w' => ∃ r2 u, e = .returned u ∧ Rel (fun _ => False) w 101 r2 (x.L.foldl Hp.new (bldH t2 x.s)) w' ∧ real r2 x.v = some u
noncomputable def bldLook (pin : AV) (s : List Nat) (T : List BldE) (k : AV → List Blk → Bool) : Bool := List.rec (motive := fun _ => Bool) false (fun x _ ih => BldE.rec (motive := fun _ => Bool) (fun p s' v L => ife (ifeV (avEq pin p) (sEq s' s) false) (k v L) ih) x) T
theorem bldLook_ok {pin : AV} {s : List Nat} {k : AV → List Blk → Bool} : ∀ {T : List BldE}, bldLook pin s T k = true → ∃ x ∈ T, x.pin = pin ∧ x.s = s ∧ k x.v x.L = true
  | [], h => by cases h
  | ⟨p, s', v, L⟩ :: T, h => by
    rcases ife_ok (b := ifeV (avEq pin p) (sEq s' s) false) h with ⟨hb, h1⟩ | ⟨_, h1⟩
    · obtain ⟨h2, h3⟩ := and_ok hb
      exact ⟨_, List.mem_cons_self, (avEq_ok _ _ h2).symm, sEq_ok h3, h1⟩
    · obtain ⟨x, hx, h2⟩ := bldLook_ok (T := T) h1
      exact ⟨x, List.mem_cons_of_mem _ hx, h2⟩
noncomputable def bldP (t2 : TypeId) (T : List BldE) (vs : List AV) (h : Hp) (kr : KV) : Bool := match vs with
  | [pin, .slx j 0 n 1] => ask (flatA pin) (cellsK h j fun t op ro cs => ask (Nat.beq t t2) (intsK cs fun s => lenK s fun m => ask (Nat.beq n m) (bldLook pin s T fun v L => newsK L (bldH t2 s) fun g => Hp.rec (motive := fun _ => Bool) (fun nx t => canP 101 nx g v fun v' L' => newsK L' ⟨nx, t⟩ fun g' => kr v' g') h)))
  | _ => false
theorem bldP_ok {P : Program} {fl : Nat} {f : FuncId} {t2 : TypeId} {T : List BldE} (hT : ∀ x ∈ T, BldOk P f t2 x) : Pr1 P fl f fun _ vs h kr _ => bldP t2 T vs h kr := by
  intro call _ g vs h kr kp hk
  rcases ife_ok hk with ⟨hb, hk2⟩ | ⟨_, hk2⟩
  · obtain rfl := Nat.eq_of_beq_eq_true hb
    clear hk hb
    replace hk2 : bldP t2 T vs h kr = true := hk2
    unfold bldP at hk2
    split at hk2
    · rename_i pin j n
      obtain ⟨hpin, hk⟩ := ask_ok hk2
      obtain ⟨t, op, ro, cs, hb, hk⟩ := cellsK_ok hk
      obtain ⟨ht, hk⟩ := ask_ok hk
      have ht := Nat.eq_of_beq_eq_true ht
      rw [ht] at hb
      obtain ⟨s, rfl, hs, hk⟩ := intsK_ok hk
      replace hk : lenK s (fun m => ask (Nat.beq n m) (bldLook pin s T fun v L => newsK L (bldH t2 s) fun g => Hp.rec (motive := fun _ => Bool) (fun nx t => canP 101 nx g v fun v' L' => newsK L' ⟨nx, t⟩ fun g' => kr v' g') h)) = true := hk
      rw [lenK_eq] at hk
      obtain ⟨hn, hk⟩ := ask_ok hk
      have hn := Nat.eq_of_beq_eq_true hn
      obtain ⟨x, hx, rfl, rfl, hk⟩ := bldLook_ok hk
      obtain ⟨hk, _⟩ := newsK_ok hk
      cases h with
      | mk nx tr =>
        replace hk : canP 101 nx (x.L.foldl Hp.new (bldH t2 x.s)) x.v (fun v' L' => newsK L' ⟨nx, tr⟩ fun g' => kr v' g') = true := hk
        obtain ⟨v', L', hk, hC⟩ := canP_ok hk
        obtain ⟨hkr, hl⟩ := newsK_ok hk
        refine .inl ⟨v', _, hkr, fun S w0 r w xs hR hxs => ?_⟩
        obtain ⟨u1, us1, hu1, hu2, rfl⟩ := reals_cons.1 hxs
        obtain ⟨u2, hu3, rfl⟩ := reals1 hu2
        obtain ⟨q, hq, hz, ho, hm, rfl⟩ := real_slx hu3
        have hRb := bldR_rel hR hq hb hs
        have rq : bldR q 100 = some q := rfl
        refine (hT x hx w _ hRb _ (reals_cons.2 ⟨u1, _, flat_real _ _ hpin hu1, reals_cons.2 ⟨_, _, ?_, reals_nil, rfl⟩, rfl⟩)).mono ?_
        · rw [← hn]
          simp only [real, rq, Option.bind_some]
          rw [if_pos ⟨hz, ho, hm⟩]
        · rintro e w' ⟨r2, u, rfl, hR2, hu⟩
          obtain ⟨r3, a1, a2, a3⟩ := hC hR rfl hR2 hl hu
          exact ⟨r3, u, rfl, a1, a2, a3⟩
    · cases hk2
  · cases hk2
/-- An entry, evaluated. -/
noncomputable def bldB (x : BldE) (b : Bool) : Bool := BldE.rec (motive := fun _ => Bool) (fun pin s v L => lenK s fun n => lenK L fun m => ask (Nat.ble m 1000000) (bodyW 0 P0 101 FU (wc1 101) (dr0 101) (call1 101) 227 [pin, .slx 100 0 n 1] (bldH 5 s) fun v' h' => canP 101 101 h' v' fun v3 L3 => ask (avEq v3 v) (ask (blksEq L3 L) b))) x
theorem bldB_ok (hs : SumsOk) {x : BldE} (hk : bldB x true = true) : BldOk P0 227 5 x := by
  obtain ⟨pin, s, v, L⟩ := x
  replace hk : lenK s (fun n => lenK L fun m => ask (Nat.ble m 1000000) (bodyW 0 P0 101 FU (wc1 101) (dr0 101) (call1 101) 227 [pin, .slx 100 0 n 1] (bldH 5 s) fun v' h' => canP 101 101 h' v' fun v3 L3 => ask (avEq v3 v) (ask (blksEq L3 L) true))) = true := hk
  rw [lenK_eq, lenK_eq] at hk
  obtain ⟨hm, hk⟩ := ask_ok hk
  have hm := ble_le hm
  intro w r hR xs hxs
  refine (bodyW_ok (call1_ok hs 101) (wc1_ok hs 101) (fun n call h => .of (dr0_ok 101 n call h)) (regs0 _) hk _ _ r w xs hR hxs).mono ?_
  rintro e w' ⟨v', h', r', u, hv, rfl, hx, hR', hxv⟩
  obtain ⟨v3, L3, hv, hC⟩ := canP_ok hv
  obtain ⟨q1, hv⟩ := ask_ok hv
  obtain ⟨q2, _⟩ := ask_ok hv
  obtain rfl := avEq_ok _ _ q1
  obtain rfl := blksEq_ok q2
  obtain ⟨r2, a1, a2, a3⟩ := hC hR rfl hR' (fun i hi => by have : LIM = 1099511627776 := rfl; omega) hxv
  exact ⟨r2, u, rfl, a2, a3⟩
/-- A law's first words: they are true wherever the library's variables are what they are. -/
def KnOk : Prop := ∀ (w : World), (∃ m, w.cell? ⟨0, 0, none⟩ = some (.int .i64 m)) → (∃ fz, w.heap[1]? = some (.cells #[rT 201] 441 fz)) → 9 < w.heap.size → Calls P0 5 #[] w fun e w' => K0 w w' ∧ e = .returned (.bool true)
noncomputable def knP (vs : List AV) (h : Hp) (k : AV → Bool) : Bool := match vs with
  | [] => ask (agr h [(0, .ints), (1, .cells 441 false true [.ifc 512 (.agg [.ptr 9 201])])]) (k (.bool true))
  | _ => false
theorem knP_ok {fl : Nat} (hK : KnOk) : Pr1 P0 fl 5 fun _ vs h kr _ => knP vs h fun v => kr v h := by
  refine Pr1.val fun vs h k hk => ?_
  unfold knP at hk
  split at hk
  · obtain ⟨h1, hk⟩ := ask_ok hk
    have hA := agr_ok h1
    have a0 := hA _ List.mem_cons_self
    have a1 := hA _ (List.mem_cons_of_mem _ List.mem_cons_self)
    refine ⟨_, hk, fun S w0 r w xs hR hxs => ?_⟩
    rw [reals_nil] at hxs; cases hxs
    have big := hR.base.2
    obtain ⟨p, hp, m, hm⟩ := hR.live 0 _ (by have : GLB = 100 := rfl; omega) a0
    obtain ⟨q, hq, c, fz, us, g1, g2, g3, g4, g5, g6, g7⟩ := hR.live 1 _ (by have : GLB = 100 := rfl; omega) a1
    have p0 := hR.glob 0 p (by decide) hp
    have q0 := hR.glob 1 q (by decide) hq
    obtain ⟨u, hu, rfl⟩ := reals1 g3
    obtain ⟨x, hx, rfl⟩ := real_ifc hu
    simp only [real, Option.map_eq_some_iff] at hx
    obtain ⟨ys, hys, rfl⟩ := hx
    obtain ⟨y, hy, rfl⟩ := reals1 hys
    obtain ⟨z, hz, rfl⟩ := real_ptr hy
    have z0 := hR.glob 9 z (by decide) hz
    have hd := hR.dom _ _ hz
    rw [p0] at hm
    rw [q0] at g1
    refine (hK w ⟨m, hm⟩ ⟨fz, ?_⟩ (by omega)).mono ?_
    · rw [g1]
      have e1 : c.toList = [.iface 512 (.agg #[.pointer (some ⟨z.1, 201, none⟩)])] := by
        have h5 : c.size = 1 := by
          have := g6 rfl
          rw [g2, ← this]; rfl
        have : c.toList.take 1 = c.toList := List.take_of_length_le (by simp [h5])
        rw [← this]
        exact g4.symm
      have e2 : c = #[rT 201] := by
        apply Array.ext'
        rw [e1, z0]
        rfl
      rw [e2]
    · rintro e w' ⟨k, rfl⟩
      exact ⟨_, rfl, k, rfl⟩
  · cases hk
end Go.Proofs.YtoafcnecjgnbmaaGreatDoor.E

