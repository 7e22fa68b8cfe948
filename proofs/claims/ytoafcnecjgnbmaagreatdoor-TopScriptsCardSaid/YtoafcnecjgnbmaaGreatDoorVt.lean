/-
  vm.Run at a build script that never ends: its fuel is spent.
-/
import Derived.Test.YtoafcnecjgnbmaaGreatDoorVs
import Derived.Test.YtoafcnecjgnbmaaGreatDoorVg
import Derived.Test.YtoafcnecjgnbmaaGreatDoorVf
set_option linter.unusedVariables false
set_option linter.unusedSimpArgs false
set_option linter.constructorNameAsVariable false
set_option linter.unusedVariables false
namespace Go.Proofs.YtoafcnecjgnbmaaGreatDoor.E
open Go Go.RowKit H
attribute [local irreducible] H.CL H.RW H.CW H.Yd H.thenK H.blockQ Go.Calls
/-- Where the script stands when so much fuel is left: its line, how often each repeat is to go. -/
def St7 (fu at' : Nat) (m0 m1 : Int) : Prop := ∃ s q r : Nat, fu + s = 65536 ∧ ((s = 0 ∧ at' = 0 ∧ m0 = 0 ∧ m1 = 0) ∨ (s = 1 + 1002 * q + r ∧ m0 = 1000 - (q : Int) ∧ ((r = 0 ∧ at' = 1 ∧ m1 = 0) ∨ (1 ≤ r ∧ r ≤ 1000 ∧ at' = 2 ∧ m1 = 1001 - (r : Int)) ∨ (r = 1001 ∧ at' = 3 ∧ m1 = 0))))
theorem St7.lt {fu at' : Nat} {m0 m1 : Int} (h : St7 fu at' m0 m1) : at' < 4 := by
  obtain ⟨s, q, r, h1, h2⟩ := h
  omega
theorem St7.zero {at' : Nat} {m0 m1 : Int} (h : St7 0 at' m0 m1) : at' = 2 := by
  obtain ⟨s, q, r, h1, h2⟩ := h
  omega
theorem ret2 {a b : Int} (h : a = b) : Ending.returned (.tuple #[.int .i64 a, .int .i64 0]) = .returned (.tuple #[.int .i64 b, .int .i64 0]) := by rw [h]
theorem doAny {w : World} {g ob oc : Nat} {oa lv tv vv : Value} {fu at' : Nat} {m0 m1 fv : Int} (hM : Mc w g ob oc oa lv tv vv [iv m0, iv m1, iv 0, iv 0] fv) (hgo : g ≠ oc) (hs : St7 (fu + 1) at' m0 m1) : Calls Tryz.prog 429 #[.pointer (some ⟨g, 0, none⟩), .int .i64 (at' : Int)] w fun e w' => ∃ (a2 : Nat) (n0 n1 : Int), e = .returned (.tuple #[.int .i64 (a2 : Int), .int .i64 0]) ∧ St7 fu a2 n0 n1 ∧ Kept (fun k => k = oc) w w' ∧ w'.heap[oc]? = some (.cells [iv n0, iv n1, iv 0, iv 0].toArray 3 (0, 0)) := by
  obtain ⟨s, q, r, h1, h2⟩ := hs
  rcases h2 with ⟨h2, rfl, rfl, rfl⟩ | ⟨h2, h3, ⟨h4, rfl, rfl⟩ | ⟨h4, h5, rfl, h6⟩ | ⟨h4, rfl, rfl⟩⟩
  · refine (doRep hM hgo (.inl rfl)).mono ?_
    rintro e w' ⟨rfl, hk, hh⟩
    exact ⟨1, 1000, 0, ret2 (by omega), ⟨1, 0, 0, by omega, .inr ⟨by omega, by omega, .inl ⟨rfl, rfl, rfl⟩⟩⟩, hk, hh⟩
  · refine (doRep hM hgo (.inr rfl)).mono ?_
    rintro e w' ⟨rfl, hk, hh⟩
    exact ⟨2, m0, 1000, ret2 (by omega), ⟨s + 1, q, 1, by omega, .inr ⟨by omega, h3, .inr (.inl ⟨by omega, by omega, rfl, by omega⟩)⟩⟩, hk, hh⟩
  · refine (doEnd hM hgo (h := 1) (.inl ⟨rfl, rfl⟩) (m := m1) rfl (by omega) (by omega)).mono ?_
    rintro e w' ⟨rfl, hk, hh⟩
    by_cases c : 1 < m1
    · exact ⟨2, m0, m1 - 1, ret2 (by rw [if_pos c]; omega), ⟨s + 1, q, r + 1, by omega, .inr ⟨by omega, h3, .inr (.inl ⟨by omega, by omega, rfl, by omega⟩)⟩⟩, hk, hh⟩
    · exact ⟨3, m0, m1 - 1, ret2 (by rw [if_neg c]; omega), ⟨s + 1, q, r + 1, by omega, .inr ⟨by omega, h3, .inr (.inr ⟨by omega, rfl, by omega⟩)⟩⟩, hk, hh⟩
  · refine (doEnd hM hgo (h := 0) (.inr ⟨rfl, rfl⟩) (m := m0) rfl (by omega) (by omega)).mono ?_
    rintro e w' ⟨rfl, hk, hh⟩
    have c : 1 < m0 := by omega
    exact ⟨1, m0 - 1, 0, ret2 (by rw [if_pos c]; omega), ⟨s + 1, q + 1, 0, by omega, .inr ⟨by omega, by omega, .inl ⟨rfl, rfl, rfl⟩⟩⟩, hk, hh⟩
set_option maxHeartbeats 2000000 in
theorem vmRun7 (w : World) {lv : Value} {tp : Option Addr} {vm : Option Nat} (hl : LnAt w lv) : Calls Tryz.prog 369 #[lv, .pointer tp, .map vm, .int .i64 65536] w fun e w' => K0 w w' ∧ ∃ fp fz, e = .returned (.tuple #[.int .i64 65536, .int .i64 2, .iface 351 (.pointer (some ⟨fp, 0, none⟩))]) ∧ w'.heap[fp]? = some (.cells #[.string (B lineB), .string (B twoB), fuelE] 353 fz) ∧ (fz.1 = fz.2 ∨ 3 ≤ fz.1) ∧ w.heap.size ≤ fp := by
  have hln := hl
  obtain ⟨ql, cl, fzl, hlv, hlq, _⟩ := hl
  subst hlv
  refine H.enter Tryz.func369 Tryz.ntmps369 rfl rfl ?_; dsimp only [H.args]
  repeat' (first | (refine CL.seq ?_) | (refine CL.region ?_) | (refine Gt.nil ?_; refine RW.nilw [0, 1, 2, 3, 8, 9, 10, 11, 12, 13, 14, 15, 36, 42, 57] ?_; dsimp only [H.keep, H.look, H.Fr.put, Nat.beq]) | (refine Gt.assign ?_; refine RW.y (Y.assign rfl) rfl ?_))
  refine CL.cutS [0, 11] (fun vals wr => ∃ (g ob oc : Nat) (oa : Value), vals = [.slice (some ⟨ql, 0, none⟩) 4 (cl.size / 6), .pointer (some ⟨g, 0, none⟩)] ∧ Mc wr g ob oc oa (.slice (some ⟨ql, 0, none⟩) 4 (cl.size / 6)) (.pointer tp) (.map vm) [iv 0, iv 0, iv 0, iv 0] 65536 ∧ g ≠ oc ∧ w.heap.size ≤ g ∧ w.heap.size ≤ oc ∧ w.heap.size ≤ ob ∧ g ≠ ob ∧ ob ≠ oc ∧ K0 w wr) (by simp) ?_ ?_
  · refine CL.draw (fun w' => K0 w w') (by kernel_rfl) (fun wd hheap hS => ?_)
    skip
    refine AW.take 0 rfl (by kernel_rfl) (by kernel_rfl) (by kernel_rfl) rfl (by assumption) (fun w hS => Y.move rfl) ?_
    refine AW.take 2 rfl (by kernel_rfl) (by kernel_rfl) (by kernel_rfl) rfl (by assumption) (fun w hS => Y.move rfl) ?_
    refine AW.take 3 rfl (by kernel_rfl) (by kernel_rfl) (by kernel_rfl) rfl (by assumption) (fun w hS => Y.move rfl) ?_
    refine AW.take 4 rfl (by kernel_rfl) (by kernel_rfl) (by kernel_rfl) rfl (by assumption) (fun w hS => Y.move rfl) ?_
    refine AW.take 5 rfl (by kernel_rfl) (by kernel_rfl) (by kernel_rfl) rfl (by assumption) (fun w hS => Y.move rfl) ?_
    refine AW.take 6 rfl (by kernel_rfl) (by kernel_rfl) (by kernel_rfl) rfl (by assumption) (fun w hS => Y.lenv rfl) ?_
    refine AW.take 8 rfl (by kernel_rfl) (by kernel_rfl) (by kernel_rfl) rfl (by assumption) (fun w hS => Y.move rfl) ?_
    refine AW.take 9 rfl (by kernel_rfl) (by kernel_rfl) (by kernel_rfl) rfl (by assumption) (fun w hS => Y.max2 rfl rfl) ?_
    refine AW.take 10 rfl (by kernel_rfl) (by kernel_rfl) (by kernel_rfl) rfl (by assumption) (fun w hS => Y.min2 rfl rfl) ?_
    refine AW.two 1 7 rfl rfl (by kernel_rfl) ?_ ?_
    · have hs0 := hS.size
      refine RW.fn rfl rfl ((findOk wd (hln.keep0 hS)).mono ?_)
      rintro e wd ⟨hk5, op, on, oc', ob, rfl, hsb, hob⟩
      have hS := hS.trans0 hk5
      try have hoc := hk5.at0 hoc
      have hobl := hsb.lt (g := ob) rfl
      have hz5 := hk5.size
      refine RW.nil (Nm.then ⟨hS, ?_⟩)
      refine AW.next 7 rfl (by kernel_rfl) ?_
      have hs0 := hS.size
      refine RW.makeE (n := 4) rfl rfl rfl rfl (by omega) (by omega) (fun wd hoc hk6 => ?_)
      have hS := hS.trans0 hk6
      try have hsb := hsb.keep0 hk6
      have hocl := lt_of_at hoc
      have hz6 := hk6.size
      refine RW.nil (Nm.then ⟨hS, ?_⟩)
      refine AW.take 11 rfl (by kernel_rfl) (by kernel_rfl) (by kernel_rfl) rfl (by assumption) (fun w hS => Y.build (ps := [(0, _), (1, _), (2, _), (3, _), (4, _), (5, _)]) (l := [_, _, _, _, _, _]) (c := #[.slice op on oc', .slice (some ⟨ob, 0, none⟩) 4 4, .slice (some ⟨ql, 0, none⟩) 4 (cl.size / 6), .pointer tp, .map vm, .slice _ 4 4, .int .i64 65536]) rfl rfl) ?_
      refine AW.next 12 rfl (by kernel_rfl) ?_
      have hs0 := hS.size
      refine RW.box rfl rfl (fun wd hg hk7 hl7 => ?_)
      have hS := hS.trans0 hk7
      have hoc := hk7.at0 hoc
      have hsb := hsb.keep0 hk7
      refine RW.nil (Nm.then ⟨hS, ?_⟩)
      refine AW.take 13 rfl (by kernel_rfl) (by kernel_rfl) (by kernel_rfl) rfl (by assumption) (fun w hS => Y.assign rfl) ?_
      refine AW.donew [0, 11] (by kernel_rfl) ?_
      dsimp only [H.keep, H.look, H.Fr.put, Nat.beq]
      repeat' (first | (refine CL.done ?_) | (refine Nm.then ?_))
      exact ⟨_, rfl, rfl, rfl, _, ob, _, .slice op on oc', rfl, ⟨hg, hsb, hoc, rfl, (hln.keep0 hS).sl⟩, by omega, by omega, by omega, by omega, by omega, by omega, hS⟩
    · have hs0 := hS.size
      refine RW.makeE (n := 4) rfl rfl rfl rfl (by omega) (by omega) (fun wd hoc hk6 => ?_)
      have hS := hS.trans0 hk6
      try have hsb := hsb.keep0 hk6
      have hocl := lt_of_at hoc
      have hz6 := hk6.size
      refine RW.nil (Nm.then ⟨hS, ?_⟩)
      refine AW.next 1 rfl (by kernel_rfl) ?_
      have hs0 := hS.size
      refine RW.fn rfl rfl ((findOk wd (hln.keep0 hS)).mono ?_)
      rintro e wd ⟨hk5, op, on, oc', ob, rfl, hsb, hob⟩
      have hS := hS.trans0 hk5
      try have hoc := hk5.at0 hoc
      have hobl := hsb.lt (g := ob) rfl
      have hz5 := hk5.size
      refine RW.nil (Nm.then ⟨hS, ?_⟩)
      refine AW.take 11 rfl (by kernel_rfl) (by kernel_rfl) (by kernel_rfl) rfl (by assumption) (fun w hS => Y.build (ps := [(0, _), (1, _), (2, _), (3, _), (4, _), (5, _)]) (l := [_, _, _, _, _, _]) (c := #[.slice op on oc', .slice (some ⟨ob, 0, none⟩) 4 4, .slice (some ⟨ql, 0, none⟩) 4 (cl.size / 6), .pointer tp, .map vm, .slice _ 4 4, .int .i64 65536]) rfl rfl) ?_
      refine AW.next 12 rfl (by kernel_rfl) ?_
      have hs0 := hS.size
      refine RW.box rfl rfl (fun wd hg hk7 hl7 => ?_)
      have hS := hS.trans0 hk7
      have hoc := hk7.at0 hoc
      have hsb := hsb.keep0 hk7
      refine RW.nil (Nm.then ⟨hS, ?_⟩)
      refine AW.take 13 rfl (by kernel_rfl) (by kernel_rfl) (by kernel_rfl) rfl (by assumption) (fun w hS => Y.assign rfl) ?_
      refine AW.donew [0, 11] (by kernel_rfl) ?_
      dsimp only [H.keep, H.look, H.Fr.put, Nat.beq]
      repeat' (first | (refine CL.done ?_) | (refine Nm.then ?_))
      exact ⟨_, rfl, rfl, rfl, _, ob, _, .slice op on oc', rfl, ⟨hg, hsb, hoc, rfl, (hln.keep0 hS).sl⟩, by omega, by omega, by omega, by omega, by omega, by omega, hS⟩
  · rintro vals wr ⟨g, ob, oc, oa, rfl, hM, hgo, hg0, hoc0, hob0, hgb, hboc, hkr⟩
    dsimp only [List.zip, List.zipWith]
    have hmm := hM.m
    repeat' (first | (refine CL.seq ?_) | (refine CL.region ?_) | (refine CL.block ?_) | (refine Gt.nil ?_; refine RW.nilw [0, 1, 2, 3, 8, 9, 10, 11, 12, 13, 14, 15, 36, 42, 57] ?_; dsimp only [H.keep, H.look, H.Fr.put, Nat.beq]) | (refine Gt.move ?_; refine RW.y (Y.move rfl) rfl ?_) | (refine Gt.assign ?_; refine RW.y (Y.assign rfl) rfl ?_) | (refine Gt.nilck ?_; refine RW.y (Y.nilck rfl) rfl ?_) | (refine Gt.fieldAddr ?_; refine RW.y (Y.fieldAddr rfl (by rfl)) rfl ?_) | (refine Gt.load ?_; refine RW.y (Y.loadB rfl (by assumption) rfl) rfl ?_))
    refine CL.loopS [0, 11, 12, 13] (fun k vals wr => ∃ (at' : Nat) (m0 m1 : Int), vals = [.slice (some ⟨ql, 0, none⟩) 4 (cl.size / 6), .pointer (some ⟨g, 0, none⟩), .int .i64 65536, .int .i64 (at' : Int)] ∧ St7 k at' m0 m1 ∧ Mc wr g ob oc oa (.slice (some ⟨ql, 0, none⟩) 4 (cl.size / 6)) (.pointer tp) (.map vm) [iv m0, iv m1, iv 0, iv 0] (k : Int) ∧ K0 w wr) 65536 ⟨_, rfl, 0, 0, 0, rfl, ⟨0, 0, 0, rfl, .inl ⟨rfl, rfl, rfl, rfl⟩⟩, hM, hkr⟩ ?_
    clear hmm hM hkr
    rintro k vals wr ⟨at', m0, m1, rfl, hst, hM, hkr⟩
    dsimp only [List.zip, List.zipWith]
    have hmm := hM.m
    have hat := hst.lt
    have hgl := lt_of_at hmm
    cases k with
    | zero =>
      have ha2 := hst.zero
      subst ha2
      repeat' (first | (refine CL.seq ?_) | (refine CL.region ?_) | (refine CL.skip ?_) | (refine CL.condP rfl (fun _ => ?_) (fun _ => ?_) <;> try (exfalso; omega)) | (refine CL.block ?_) | (refine Gt.nil ?_; refine RW.nilw [0, 1, 2, 3, 8, 9, 10, 11, 12, 13, 14, 15, 36, 42, 57] ?_; dsimp only [H.keep, H.look, H.Fr.put, Nat.beq]) | (refine Gt.move ?_; refine RW.y (Y.move rfl) rfl ?_) | (refine Gt.assign ?_; refine RW.y (Y.assign rfl) rfl ?_) | (refine Gt.nilck ?_; refine RW.y (Y.nilck rfl) rfl ?_) | (refine Gt.fieldAddr ?_; refine RW.y (Y.fieldAddr rfl (by rfl)) rfl ?_) | (refine Gt.load ?_; refine RW.y (Y.loadB rfl (by assumption) rfl) rfl ?_) | (refine Gt.len ?_; (refine RW.y (Y.lenv rfl) rfl ?_)) | (refine Gt.lss ?_; refine RW.y (Y.lss rfl rfl) rfl ?_) | (refine Gt.gtr ?_; refine RW.y (Y.gtr rfl rfl) rfl ?_) | (refine Gt.neq ?_; refine RW.y (Y.nei rfl rfl) rfl ?_))
      refine CL.draw (fun w' => K0 wr w') (by kernel_rfl) (fun wd hheap hS => ?_)
      skip
      refine AW.take 0 rfl (by kernel_rfl) (by kernel_rfl) (by kernel_rfl) rfl (by assumption) (fun w hS => Y.move rfl) ?_
      refine AW.take 1 rfl (by kernel_rfl) (by kernel_rfl) (by kernel_rfl) rfl (by assumption) (fun w hS => Y.move rfl) ?_
      refine AW.take 2 rfl (by kernel_rfl) (by kernel_rfl) (by kernel_rfl) rfl (by assumption) (fun w hS => Y.nilck rfl) ?_
      refine AW.take 3 rfl (by kernel_rfl) (by kernel_rfl) (by kernel_rfl) rfl (by assumption) (fun w hS => Y.fieldAddr rfl (by rfl)) ?_
      refine AW.take 4 rfl (by kernel_rfl) (by kernel_rfl) (by kernel_rfl) rfl (by assumption) (fun w hS => Y.loadB rfl (hS.at0 hmm) rfl) ?_
      refine AW.take 5 rfl (by kernel_rfl) (by kernel_rfl) (by kernel_rfl) rfl (by assumption) (fun w hS => by exact Y.sub64 rfl rfl (by omega) (by omega)) ?_
      refine AW.take 6 rfl (by kernel_rfl) (by kernel_rfl) (by kernel_rfl) rfl (by assumption) (fun w hS => Y.move rfl) ?_
      refine AW.take 7 rfl (by kernel_rfl) (by kernel_rfl) (by kernel_rfl) rfl (by assumption) (fun w hS => Y.move rfl) ?_
      refine AW.take 9 rfl (by kernel_rfl) (by kernel_rfl) (by kernel_rfl) rfl (by assumption) (fun w hS => Y.move rfl) ?_
      refine AW.take 10 rfl (by kernel_rfl) (by kernel_rfl) (by kernel_rfl) rfl (by assumption) (fun w hS => Y.iface rfl) ?_
      refine AW.next 8 rfl (by kernel_rfl) ?_
      refine RW.fn rfl rfl ((itoaOk wd).mono ?_)
      rintro e wd ⟨hk5, rfl⟩
      have hS := hS.trans0 hk5
      have hS5 := hS
      refine RW.nil (Nm.then ⟨hS, ?_⟩)
      skip
      refine AW.next 11 rfl (by kernel_rfl) ?_
      refine RW.fn rfl rfl ((wrapOk wd).mono ?_)
      rintro e wd ⟨hk6, fp, fz, rfl, hf1, hf2, hf3⟩
      have hS := hS.trans0 hk6
      refine RW.nil (Nm.then ⟨hS, ?_⟩)
      refine AW.take 12 rfl (by kernel_rfl) (by kernel_rfl) (by kernel_rfl) rfl (by assumption) (fun w hS => Y.assign rfl) ?_
      refine AW.take 13 rfl (by kernel_rfl) (by kernel_rfl) (by kernel_rfl) rfl (by assumption) (fun w hS => Y.assign rfl) ?_
      refine AW.take 14 rfl (by kernel_rfl) (by kernel_rfl) (by kernel_rfl) rfl (by assumption) (fun w hS => Y.assign rfl) ?_
      refine AW.donew [8, 9, 10] (by kernel_rfl) ?_
      dsimp only [H.keep, H.look, H.Fr.put, Nat.beq]
      repeat' (first | (refine CL.ret ?_) | (refine Rt.then ?_) | (refine Rt.block ?_))
      exact FQ.res (rs := [.tmp 8, .tmp 9, .tmp 10]) (vs := [_, _, _]) rfl rfl ⟨rfl, rfl, rfl, trivial⟩ rfl ⟨hkr.trans0 hS, fp, fz, rfl, hf1, hf2, by have := hkr.size; have := hS5.size; omega⟩
    | succ k =>
      have hk6 : (k : Int) + 1 ≤ 65536 := by
        obtain ⟨s, q, r, h1, _⟩ := hst
        omega
      repeat' (first | (refine CL.seq ?_) | (refine CL.region ?_) | (refine CL.skip ?_) | (refine CL.condP rfl (fun _ => ?_) (fun _ => ?_) <;> try (exfalso; omega)) | (refine CL.block ?_) | (refine Gt.nil ?_; refine RW.nilw [0, 1, 2, 3, 8, 9, 10, 11, 12, 13, 14, 15, 36, 42, 57] ?_; dsimp only [H.keep, H.look, H.Fr.put, Nat.beq]) | (refine Gt.move ?_; refine RW.y (Y.move rfl) rfl ?_) | (refine Gt.assign ?_; refine RW.y (Y.assign rfl) rfl ?_) | (refine Gt.nilck ?_; refine RW.y (Y.nilck rfl) rfl ?_) | (refine Gt.fieldAddr ?_; refine RW.y (Y.fieldAddr rfl (by rfl)) rfl ?_) | (refine Gt.load ?_; refine RW.y (Y.loadB rfl (by assumption) rfl) rfl ?_) | (refine Gt.len ?_; (refine RW.y (Y.lenv rfl) rfl ?_)) | (refine Gt.sub ?_; refine RW.y (Y.sub64 rfl rfl (by omega) (by omega)) rfl ?_) | (refine Gt.lss ?_; refine RW.y (Y.lss rfl rfl) rfl ?_) | (refine Gt.gtr ?_; refine RW.y (Y.gtr rfl rfl) rfl ?_))
      refine RW.storeB (g := g) (j := 6) rfl rfl rfl hmm (by simp) (fun w4 hg4 hk4 => ?_)
      have hql := lt_of_at hlq
      have hobl := hM.hd.lt (g := ob) rfl
      have ef : ((k + 1 : Nat) : Int) - 1 = (k : Int) := by omega
      rw [ef] at hg4
      have hobx : ∀ x, live (Value.slice (some ⟨ob, 0, none⟩) 4 4) = some x → ob = x := fun x hx => by simpa [live] using hx
      have hob4 : ∀ x, live (Value.slice (some ⟨ob, 0, none⟩) 4 4) = some x → ¬ (x = g) := fun x hx c => by have := hobx x hx; omega
      have hob5 : ∀ x, live (Value.slice (some ⟨ob, 0, none⟩) 4 4) = some x → ¬ (x = oc) := fun x hx c => by have := hobx x hx; omega
      have M4 : Mc w4 g ob oc oa (.slice (some ⟨ql, 0, none⟩) 4 (cl.size / 6)) (.pointer tp) (.map vm) [iv m0, iv m1, iv 0, iv 0] (k : Int) := ⟨by simpa using hg4, hM.hd.keep hk4 hob4, hk4.at hM.mo (fun c => hgo c.symm), rfl, hM.ls.keep hk4 (fun x hx c => by have := hln.sl.lt hx; omega)⟩
      have K4 : K0 w w4 := hkr.trans hk4 fun x h => .inr (by omega)
      repeat' (first | (refine CL.region ?_) | (refine Gt.nil ?_; refine RW.nilw [0, 1, 2, 3, 8, 9, 10, 11, 12, 13, 14, 15, 36, 42, 57] ?_; dsimp only [H.keep, H.look, H.Fr.put, Nat.beq]) | (refine Gt.move ?_; refine RW.y (Y.move rfl) rfl ?_))
      refine RW.fn rfl rfl ((doAny M4 hgo hst).mono ?_)
      rintro e w5 ⟨a2, n0, n1, rfl, hst5, hk5, ho5⟩
      have K5 : K0 w w5 := K4.trans hk5 fun x h => .inr (by omega)
      have M5 : Mc w5 g ob oc oa (.slice (some ⟨ql, 0, none⟩) 4 (cl.size / 6)) (.pointer tp) (.map vm) [iv n0, iv n1, iv 0, iv 0] (k : Int) := ⟨hk5.at M4.m hgo, M4.hd.keep hk5 hob5, ho5, rfl, M4.ls.keep hk5 (fun x hx c => by have := hln.sl.lt hx; omega)⟩
      repeat' (first | (refine CL.seq ?_) | (refine CL.region ?_) | (refine CL.skip ?_) | (refine CL.condP rfl (fun _ => ?_) (fun _ => ?_) <;> try (exfalso; omega)) | (refine CL.done ?_) | (refine Nm.block ?_) | (refine Nm.then ?_) | (refine Gt.nil ?_; refine RW.nilw [0, 1, 2, 3, 8, 9, 10, 11, 12, 13, 14, 15, 36, 42, 57] ?_; dsimp only [H.keep, H.look, H.Fr.put, Nat.beq]) | (refine Gt.move ?_; refine RW.y (Y.move rfl) rfl ?_) | (refine Gt.assign ?_; refine RW.y (Y.assign rfl) rfl ?_) | (refine Gt.extract ?_; refine RW.y (Y.extract rfl rfl) rfl ?_) | (refine Gt.neq ?_; refine RW.y (Y.nei rfl rfl) rfl ?_))
      exact ⟨k, _, rfl, rfl, rfl, Nat.lt_succ_self _, a2, n0, n1, rfl, hst5, M5, K5⟩
end Go.Proofs.YtoafcnecjgnbmaaGreatDoor.E

