/-
  What the law's text leans on.
-/
import Derived.Test.YtoafcnecjgnbmaaGreatDoorVt
import Derived.Test.YtoafcnecjgnbmaaGreatDoorVh
import Derived.Test.YtoafcnecjgnbmaaGreatDoorVi
import Derived.Test.YtoafcnecjgnbmaaGreatDoorVr
import Derived.Test.YtoafcnecjgnbmaaGreatDoorVe
import Derived.WalkKit
import Derived.ProofKit
import Derived.OpenShut
import Derived.Carry
import Derived.ChangeArms
import Derived.Deep.Slices
set_option linter.unusedVariables false
set_option linter.unusedSimpArgs false
set_option linter.constructorNameAsVariable false
set_option linter.unusedVariables false
namespace Go.Proofs.YtoafcnecjgnbmaaGreatDoor.E
open Go Go.RowKit H
attribute [local irreducible] H.CL H.RW H.CW H.Yd H.thenK H.blockQ Go.Calls
noncomputable def run7P (vs : List AV) (h : Hp) (kr : KV) : Bool := match vs with
  | [.slx j 0 4 6, .ptr _ _, .map _, .int .i64 (.ofNat 65536)] => cellsK h j fun t _ _ cs => ask (Nat.beq t 567) (ask (avEq (.agg cs) (.agg lnA)) (newH h (.cells 353 false false [.str [108, 105, 110, 101], .str [50], .ifc 51 (.int .i64 (.ofNat 73))]) fun i h => kr (.tup [.int .i64 (.ofNat 65536), .int .i64 (.ofNat 2), .ifc 351 (.ptr i 0)]) h))
  | _ => false
theorem pr_run7 {fl : Nat} : Pr1 Tryz.prog fl 369 fun _ vs h kr _ => run7P vs h kr := by
  refine Pr1.mem fun vs h k hk => ?_
  unfold run7P at hk
  split at hk
  · rename_i j i o m hvv
    obtain ⟨t, op, ro, cs, hb, hk⟩ := cellsK_ok hk
    obtain ⟨ht, hk2⟩ := ask_ok hk
    clear hk
    have ht := Nat.eq_of_beq_eq_true ht
    obtain ⟨hcs, hk3⟩ := ask_ok hk2
    clear hk2
    have hcs := avEq_ok _ _ hcs
    injection hcs with hcs
    rw [hcs, ht] at hb
    obtain ⟨hlim, hk⟩ := newH_ok hk3
    refine ⟨_, _, hk, fun S w0 r w xs hR hxs => ?_⟩
    obtain ⟨u1, us1, hu1, ht1, rfl⟩ := reals_cons.1 hxs
    obtain ⟨u2, us2, hu2, ht2, rfl⟩ := reals_cons.1 ht1
    obtain ⟨u3, us3, hu3, ht3, rfl⟩ := reals_cons.1 ht2
    obtain ⟨u4, hu4, rfl⟩ := reals1 ht3
    obtain ⟨q, hq, hz, ho, hm, rfl⟩ := real_slx hu1
    obtain ⟨p2, hp2, rfl⟩ := real_ptr hu2
    obtain ⟨p3, hp3, rfl⟩ := real_map hu3
    rw [real_int hu4]
    obtain ⟨c, fz, us, g1, g2, g3, g4, g5, _⟩ := hR.at hq hb
    have e1 : us = LN := Option.some.inj (g3.symm.trans (lnA_real r))
    have hl : LnAt w (.slice (some ⟨q.1, 0, none⟩) 4 ((q.2 - 0) / 6)) := ⟨q.1, c, fz, by rw [g2, Nat.sub_zero], g1, by rw [← e1, g4]; rfl, by rw [g2]; exact g5, by rw [g2]; simpa using hm⟩
    refine (vmRun7 w hl).mono ?_
    rintro e w' ⟨hK, fp, fz, rfl, hf1, hf2, hf3⟩
    have H0 := hR.same hK
    have R1 := H0.adopt (b := .cells 353 false false [.str [108, 105, 110, 101], .str [50], .ifc 51 (.int .i64 (.ofNat 73))]) hlim (p := (fp, 3)) (fun i q hq e => by have := hR.dom i q hq; omega) (.inr (by have := hR.kept.size; show w0.heap.size ≤ fp; omega)) ⟨_, fz, [.string (B lineB), .string (B twoB), fuelE], hf1, rfl, reals_cons.2 ⟨_, _, str_real rfl, reals_cons.2 ⟨_, _, str_real rfl, reals_cons.2 ⟨fuelE, _, rfl, reals_nil, rfl⟩, rfl⟩, rfl⟩, rfl, Nat.le_refl _, (fun _ => rfl), fun _ => hf2⟩
    refine ⟨_, _, rfl, upd_ext H0 _, R1, ?_⟩
    have hp : real (upd r h.next (fp, 3)) (.ifc 351 (.ptr h.next 0)) = some (.iface 351 (.pointer (some ⟨fp, 0, none⟩))) := by
      simp only [real, upd_same, Option.map_some]
    have := reals_cons.2 ⟨Value.int .i64 65536, _, (rfl : real (upd r h.next (fp, 3)) (.int .i64 (.ofNat 65536)) = some (.int .i64 65536)), reals_cons.2 ⟨Value.int .i64 2, _, (rfl : real (upd r h.next (fp, 3)) (.int .i64 (.ofNat 2)) = some (.int .i64 2)), reals_cons.2 ⟨_, _, hp, reals_nil, rfl⟩, rfl⟩, rfl⟩
    simp only [real, Option.map_eq_some_iff]
    exact ⟨_, this, rfl⟩
  · cases hk
end Go.Proofs.YtoafcnecjgnbmaaGreatDoor.E

set_option linter.constructorNameAsVariable false
set_option linter.unusedVariables false
namespace Go.Proofs.YtoafcnecjgnbmaaGreatDoor.E
open Go Go.RowKit H
attribute [local irreducible] H.CL H.RW H.CW H.Yd H.thenK H.blockQ Go.Calls
section
variable {S : Nat → Prop} {w0 : World} {fl : Nat} {r : Ren} {h : Hp} {w : World}
/-- Cells: what has addresses gets other names. -/
noncomputable def canL2 (base : Nat) (h : Hp) (cs : List AV) : Nat → List Nat → (List AV → Nat → List Nat → List Blk → Bool) → Bool := List.rec (motive := fun _ => Nat → List Nat → (List AV → Nat → List Nat → List Blk → Bool) → Bool) (fun nx ad k => k [] nx ad [])
  (fun c _ ih nx ad k => ife (flatA c) (ih nx ad fun cs nx ad L => k (c :: cs) nx ad L) (match c with
    | .slx j 0 m z => ask (Nat.ble base j) (ife (memN j ad) false (cellsK h j fun ty op ro cs => ask (flats cs) (natK (Nat.succ nx) fun nx1 => ih nx1 (j :: ad) fun cs' nx2 ad L => k (.slx nx 0 m z :: cs') nx2 ad (.cells ty op ro cs :: L))))
    | .ifc t (.ptr j 0) => ask (Nat.ble base j) (ife (memN j ad) false (cellsK h j fun ty op ro cs => ask (flats cs) (natK (Nat.succ nx) fun nx1 => ih nx1 (j :: ad) fun cs' nx2 ad L => k (.ifc t (.ptr nx 0) :: cs') nx2 ad (.cells ty op ro cs :: L))))
    | _ => false)) cs
noncomputable def canT2 (base nx0 : Nat) (h : Hp) (v : AV) (k : AV → List Blk → Bool) : Bool := ife (flatA v) (k v []) (match v with
  | .slx i 0 n z => ask (Nat.ble base i) (cellsK h i fun ty op ro cs => canL2 base h cs nx0 [i] fun cs' nx _ L => k (.slx nx 0 n z) (L ++ [.cells ty op ro cs']))
  | .ifc t (.ptr i 0) => ask (Nat.ble base i) (cellsK h i fun ty op ro cs => canL2 base h cs nx0 [i] fun cs' nx _ L => k (.ifc t (.ptr nx 0)) (L ++ [.cells ty op ro cs']))
  | _ => false)
section
variable {S : Nat → Prop} {w0 wb : World} {fl base i0 : Nat} {r0 r' : Ren} {h0 h : Hp} {w : World}
theorem canL2_ok : ∀ {cs : List AV} {nx : Nat} {ad : List Nat} {k : List AV → Nat → List Nat → List Blk → Bool}, canL2 base h cs nx ad k = true → ∃ cs' nx' ad' L, k cs' nx' ad' L = true ∧ nx' = nx + L.length ∧
    ∀ {S : Nat → Prop} {w0 wb : World} {fl i0 : Nat} {r0 r' : Ren} {h0 : Hp} {w : World} (rc : Ren) (hc : Hp) (us : List Value), Rel S w0 fl r0 h0 wb → Rel (fun _ => False) wb base r' h w → CanS S w0 fl base i0 r0 r' h w rc hc ad → hc.next = nx → (∀ i, i < L.length → nx + i < LIM) → reals r' cs = some us →
      ∃ r2, Ext rc r2 ∧ CanS S w0 fl base i0 r0 r' h w r2 (L.foldl Hp.new hc) ad' ∧ (L.foldl Hp.new hc).next = nx' ∧ reals r2 cs' = some us
  | [], nx, ad, k, hk => ⟨[], nx, ad, [], hk, rfl, fun rc hc us R0 R' C hn _ hu => ⟨rc, Ext.refl rc, C, hn, by rw [reals_nil] at hu ⊢; exact hu⟩⟩
  | c :: cs, nx, ad, k, hk => by
    rcases ife_ok (b := flatA c) hk with ⟨hf, hk⟩ | ⟨hf, hk⟩
    · obtain ⟨cs', nx', ad', L, hk, e, hC⟩ := canL2_ok (cs := cs) hk
      refine ⟨_, nx', ad', L, hk, e, fun rc hc us R0 R' C hn hl hu => ?_⟩
      obtain ⟨u, t, hu1, hu2, rfl⟩ := reals_cons.1 hu
      obtain ⟨r2, a1, a2, a3, a4⟩ := hC rc hc t R0 R' C hn hl hu2
      exact ⟨r2, a1, a2, a3, reals_cons.2 ⟨u, t, flat_real c u hf hu1, a4, rfl⟩⟩
    · split at hk
      · rename_i j m z
        obtain ⟨hj, hk⟩ := ask_ok hk
        have hj := ble_le hj
        rcases ife_ok hk with ⟨_, hk⟩ | ⟨hm, hk⟩
        · cases hk
        have hm := memN_no (by simpa using hm)
        obtain ⟨ty, op, ro, bs, hb, hk⟩ := cellsK_ok hk
        obtain ⟨hfl, hk⟩ := ask_ok hk
        rw [natK_eq] at hk
        obtain ⟨cs', nx', ad', L, hk, e, hC⟩ := canL2_ok (cs := cs) hk
        refine ⟨_, nx', ad', _, hk, by rw [e, List.length_cons]; omega, fun rc hc us R0 R' C hn hl hu => ?_⟩
        obtain ⟨u, t, hu1, hu2, rfl⟩ := reals_cons.1 hu
        obtain ⟨p, hp, hq1, hq2, hq3, rfl⟩ := real_slx hu1
        obtain ⟨cc, fz, us, g1, g2, g3, g4, g5, g6, g7⟩ := R'.at hp hb
        have hlim : hc.next < LIM := by have := hl 0 (by simp); omega
        have C1 := C.put R0 R' hj hb hp hm hlim (c := .cells ty op ro bs) ⟨cc, fz, us, g1, g2, flats_real bs us hfl g3, g4, g5, g6, g7⟩
        obtain ⟨r2, a1, a2, a3, a4⟩ := hC _ _ t R0 R' C1 (by show hc.next + 1 = nx.succ; rw [hn]) (fun i hi => by have := hl (i + 1) (by simpa using hi); omega) hu2
        refine ⟨r2, (upd_ext C.rel p).trans a1, a2, a3, reals_cons.2 ⟨_, t, ?_, a4, rfl⟩⟩
        have e2 : r2 nx = some p := a1.v nx p (by rw [← hn]; exact upd_same _ _ _)
        simp only [real, e2, Option.bind_some]
        rw [if_pos ⟨hq1, hq2, hq3⟩]
      · rename_i t0 j
        obtain ⟨hj, hk⟩ := ask_ok hk
        have hj := ble_le hj
        rcases ife_ok hk with ⟨_, hk⟩ | ⟨hm, hk⟩
        · cases hk
        have hm := memN_no (by simpa using hm)
        obtain ⟨ty, op, ro, bs, hb, hk⟩ := cellsK_ok hk
        obtain ⟨hfl, hk⟩ := ask_ok hk
        rw [natK_eq] at hk
        obtain ⟨cs', nx', ad', L, hk, e, hC⟩ := canL2_ok (cs := cs) hk
        refine ⟨_, nx', ad', _, hk, by rw [e, List.length_cons]; omega, fun rc hc us R0 R' C hn hl hu => ?_⟩
        obtain ⟨u, t, hu1, hu2, rfl⟩ := reals_cons.1 hu
        simp only [real, Option.map_eq_some_iff] at hu1
        obtain ⟨_, ⟨p, hp, rfl⟩, rfl⟩ := hu1
        obtain ⟨cc, fz, us, g1, g2, g3, g4, g5, g6, g7⟩ := R'.at hp hb
        have hlim : hc.next < LIM := by have := hl 0 (by simp); omega
        have C1 := C.put R0 R' hj hb hp hm hlim (c := .cells ty op ro bs) ⟨cc, fz, us, g1, g2, flats_real bs us hfl g3, g4, g5, g6, g7⟩
        obtain ⟨r2, a1, a2, a3, a4⟩ := hC _ _ t R0 R' C1 (by show hc.next + 1 = nx.succ; rw [hn]) (fun i hi => by have := hl (i + 1) (by simpa using hi); omega) hu2
        refine ⟨r2, (upd_ext C.rel p).trans a1, a2, a3, reals_cons.2 ⟨_, t, ?_, a4, rfl⟩⟩
        have e2 : r2 nx = some p := a1.v nx p (by rw [← hn]; exact upd_same _ _ _)
        simp only [real, e2, Option.map_some]
      · cases hk
theorem canT2_ok {nx0 : Nat} {v : AV} {k : AV → List Blk → Bool} (hk : canT2 base nx0 h v k = true) : ∃ v' L, k v' L = true ∧
    ∀ {S : Nat → Prop} {w0 wb : World} {fl : Nat} {r0 r' : Ren} {h0 : Hp} {w : World} {u : Value}, Rel S w0 fl r0 h0 wb → h0.next = nx0 → Rel (fun _ => False) wb base r' h w → (∀ i, i < L.length → nx0 + i < LIM) → real r' v = some u →
      ∃ r2, Ext r0 r2 ∧ Rel S w0 fl r2 (L.foldl Hp.new h0) w ∧ real r2 v' = some u := by
  rcases ife_ok (b := flatA v) hk with ⟨hf, hk⟩ | ⟨hf, hk⟩
  · exact ⟨v, [], hk, fun R0 _ R' _ hu => ⟨_, Ext.refl _, R0.same R'.kept, flat_real v _ hf hu⟩⟩
  · split at hk
    · rename_i i n z _
      obtain ⟨hj, hk⟩ := ask_ok hk
      have hj := ble_le hj
      obtain ⟨ty, op, ro, cs, hb, hk⟩ := cellsK_ok hk
      obtain ⟨cs', nx', ad', L, hk, e, hC⟩ := canL2_ok hk
      refine ⟨_, _, hk, fun {S w0 wb fl r0 r' h0 w u} R0 hn R' hl hu => ?_⟩
      obtain ⟨p, hp, hq1, hq2, hq3, rfl⟩ := real_slx hu
      obtain ⟨cc, fz, us, g1, g2, g3, g4, g5, g6, g7⟩ := R'.at hp hb
      have C0 : CanS S w0 fl base i r0 r' h w r0 h0 [i] := ⟨R0.same R'.kept, fun _ q h => .inl h, Ext.refl r0, List.mem_singleton.2 rfl, fun x hx => by
        rw [List.mem_singleton.1 hx]; exact ⟨hj, _, hb⟩⟩
      obtain ⟨r2, a1, a2, a3, a4⟩ := hC r0 h0 us R0 R' C0 hn (fun i hi => hl i (by rw [List.length_append]; omega)) g3
      have hlim : (L.foldl Hp.new h0).next < LIM := by rw [a3, e]; exact hl L.length (by simp)
      have hx2 := upd_ext a2.rel p
      have hlen : cs'.length = cs.length := by rw [← reals_len a4, ← reals_len g3]
      have hm : S p.1 ∨ w0.heap.size ≤ p.1 := by
        rcases R'.may i p hj hp with z | z
        · exact z.elim
        · exact .inr (Nat.le_trans R0.kept.size z)
      refine ⟨_, a2.ext.trans hx2, ?_, ?_⟩
      · rw [List.foldl_append]
        exact a2.rel.adopt hlim (a2.far R0 R' hj hb hp (.inl rfl)) hm ⟨cc, fz, us, g1, g2, reals_mono hx2 _ _ a4, by rw [hlen]; exact g4, by rw [hlen]; exact g5, by rw [hlen]; exact g6, g7⟩
      · have e2 : upd r2 (L.foldl Hp.new h0).next p nx' = some p := by rw [← a3]; exact upd_same _ _ _
        simp only [real, e2, Option.bind_some]
        rw [if_pos ⟨hq1, hq2, hq3⟩]
    · rename_i t0 i _
      obtain ⟨hj, hk⟩ := ask_ok hk
      have hj := ble_le hj
      obtain ⟨ty, op, ro, cs, hb, hk⟩ := cellsK_ok hk
      obtain ⟨cs', nx', ad', L, hk, e, hC⟩ := canL2_ok hk
      refine ⟨_, _, hk, fun {S w0 wb fl r0 r' h0 w u} R0 hn R' hl hu => ?_⟩
      simp only [real, Option.map_eq_some_iff] at hu
      obtain ⟨_, ⟨p, hp, rfl⟩, rfl⟩ := hu
      obtain ⟨cc, fz, us, g1, g2, g3, g4, g5, g6, g7⟩ := R'.at hp hb
      have C0 : CanS S w0 fl base i r0 r' h w r0 h0 [i] := ⟨R0.same R'.kept, fun _ q h => .inl h, Ext.refl r0, List.mem_singleton.2 rfl, fun x hx => by
        rw [List.mem_singleton.1 hx]; exact ⟨hj, _, hb⟩⟩
      obtain ⟨r2, a1, a2, a3, a4⟩ := hC r0 h0 us R0 R' C0 hn (fun i hi => hl i (by rw [List.length_append]; omega)) g3
      have hlim : (L.foldl Hp.new h0).next < LIM := by rw [a3, e]; exact hl L.length (by simp)
      have hx2 := upd_ext a2.rel p
      have hlen : cs'.length = cs.length := by rw [← reals_len a4, ← reals_len g3]
      have hm : S p.1 ∨ w0.heap.size ≤ p.1 := by
        rcases R'.may i p hj hp with z | z
        · exact z.elim
        · exact .inr (Nat.le_trans R0.kept.size z)
      refine ⟨_, a2.ext.trans hx2, ?_, ?_⟩
      · rw [List.foldl_append]
        exact a2.rel.adopt hlim (a2.far R0 R' hj hb hp (.inl rfl)) hm ⟨cc, fz, us, g1, g2, reals_mono hx2 _ _ a4, by rw [hlen]; exact g4, by rw [hlen]; exact g5, by rw [hlen]; exact g6, g7⟩
      · have e2 : upd r2 (L.foldl Hp.new h0).next p nx' = some p := by rw [← a3]; exact upd_same _ _ _
        simp only [real, e2, Option.map_some]
    · cases hk
/-- A value, or two of which one has no address. -/
noncomputable def canP2 (base nx0 : Nat) (h : Hp) (v : AV) (k : AV → List Blk → Bool) : Bool := match v with
  | .tup [a, b] => ife (flatA b) (canT2 base nx0 h a fun a L => k (.tup [a, b]) L) (ask (flatA a) (canT2 base nx0 h b fun b L => k (.tup [a, b]) L))
  | v => canT2 base nx0 h v k
theorem canP2_ok {nx0 : Nat} {v : AV} {k : AV → List Blk → Bool} (hk : canP2 base nx0 h v k = true) : ∃ v' L, k v' L = true ∧
    ∀ {S : Nat → Prop} {w0 wb : World} {fl : Nat} {r0 r' : Ren} {h0 : Hp} {w : World} {u : Value}, Rel S w0 fl r0 h0 wb → h0.next = nx0 → Rel (fun _ => False) wb base r' h w → (∀ i, i < L.length → nx0 + i < LIM) → real r' v = some u →
      ∃ r2, Ext r0 r2 ∧ Rel S w0 fl r2 (L.foldl Hp.new h0) w ∧ real r2 v' = some u := by
  unfold canP2 at hk
  split at hk
  · rename_i a b
    rcases ife_ok hk with ⟨hf, hk⟩ | ⟨_, hk⟩
    · obtain ⟨v', L, hk, hC⟩ := canT2_ok hk
      refine ⟨_, L, hk, fun {S w0 wb fl r0 r' h0 w u} R0 hn R' hl hu => ?_⟩
      simp only [real, Option.map_eq_some_iff] at hu
      obtain ⟨us, hu, rfl⟩ := hu
      obtain ⟨x, t, hx1, ht, rfl⟩ := reals_cons.1 hu
      obtain ⟨y, hy, rfl⟩ := reals1 ht
      obtain ⟨r2, a1, a2, a3⟩ := hC R0 hn R' hl hx1
      refine ⟨r2, a1, a2, ?_⟩
      simp only [real]
      rw [reals_cons.2 ⟨x, [y], a3, reals_cons.2 ⟨y, [], flat_real b y hf hy, reals_nil, rfl⟩, rfl⟩]
      rfl
    · obtain ⟨hf, hk⟩ := ask_ok hk
      obtain ⟨v', L, hk, hC⟩ := canT2_ok hk
      refine ⟨_, L, hk, fun {S w0 wb fl r0 r' h0 w u} R0 hn R' hl hu => ?_⟩
      simp only [real, Option.map_eq_some_iff] at hu
      obtain ⟨us, hu, rfl⟩ := hu
      obtain ⟨x, t, hx1, ht, rfl⟩ := reals_cons.1 hu
      obtain ⟨y, hy, rfl⟩ := reals1 ht
      obtain ⟨r2, a1, a2, a3⟩ := hC R0 hn R' hl hy
      refine ⟨r2, a1, a2, ?_⟩
      simp only [real]
      rw [reals_cons.2 ⟨x, [y], flat_real a x hf hx1, reals_cons.2 ⟨y, [], a3, reals_nil, rfl⟩, rfl⟩]
      rfl
  · exact canT2_ok hk
end
end
noncomputable def bldP2 (t2 : TypeId) (T : List BldE) (vs : List AV) (h : Hp) (kr : KV) : Bool := match vs with
  | [pin, .slx j 0 n 1] => ask (flatA pin) (cellsK h j fun t op ro cs => ask (Nat.beq t t2) (intsK cs fun s => lenK s fun m => ask (Nat.beq n m) (bldLook pin s T fun v L => newsK L (bldH t2 s) fun g => Hp.rec (motive := fun _ => Bool) (fun nx t => canP2 101 nx g v fun v' L' => newsK L' ⟨nx, t⟩ fun g' => kr v' g') h)))
  | _ => false
theorem bldP2_ok {P : Program} {fl : Nat} {f : FuncId} {t2 : TypeId} {T : List BldE} (hT : ∀ x ∈ T, BldOk P f t2 x) : Pr1 P fl f fun _ vs h kr _ => bldP2 t2 T vs h kr := by
  intro call _ g vs h kr kp hk
  rcases ife_ok hk with ⟨hb, hk2⟩ | ⟨_, hk2⟩
  · obtain rfl := Nat.eq_of_beq_eq_true hb
    clear hk hb
    replace hk2 : bldP2 t2 T vs h kr = true := hk2
    unfold bldP2 at hk2
    split at hk2
    · rename_i pin j n
      obtain ⟨hpin, hk⟩ := ask_ok hk2
      obtain ⟨t, op, ro, cs, hb, hk⟩ := cellsK_ok hk
      obtain ⟨ht, hk⟩ := ask_ok hk
      have ht := Nat.eq_of_beq_eq_true ht
      rw [ht] at hb
      obtain ⟨s, rfl, hs, hk⟩ := intsK_ok hk
      replace hk : lenK s (fun m => ask (Nat.beq n m) (bldLook pin s T fun v L => newsK L (bldH t2 s) fun g => Hp.rec (motive := fun _ => Bool) (fun nx t => canP2 101 nx g v fun v' L' => newsK L' ⟨nx, t⟩ fun g' => kr v' g') h)) = true := hk
      rw [lenK_eq] at hk
      obtain ⟨hn, hk⟩ := ask_ok hk
      have hn := Nat.eq_of_beq_eq_true hn
      obtain ⟨x, hx, rfl, rfl, hk⟩ := bldLook_ok hk
      obtain ⟨hk, _⟩ := newsK_ok hk
      cases h with
      | mk nx tr =>
        replace hk : canP2 101 nx (x.L.foldl Hp.new (bldH t2 x.s)) x.v (fun v' L' => newsK L' ⟨nx, tr⟩ fun g' => kr v' g') = true := hk
        obtain ⟨v', L', hk, hC⟩ := canP2_ok hk
        obtain ⟨hkr, hl⟩ := newsK_ok hk
        refine .inl ⟨v', _, hkr, fun S w0 r w xs hR hxs => ?_⟩
        obtain ⟨u1, us1, hu1, hu2, rfl⟩ := reals_cons.1 hxs
        obtain ⟨u2, hu3, rfl⟩ := reals1 hu2
        obtain ⟨q, hq, hz, ho, hm, rfl⟩ := real_slx hu3
        have hRb := bldR_rel hR hq hb hs
        have rq : bldR q 100 = some q := rfl
        refine (hT x hx w _ hRb _ (reals_cons.2 ⟨u1, _, flat_real _ _ hpin hu1, reals_cons.2 ⟨_, _, ?_, reals_nil, rfl⟩, rfl⟩)).mono ?_
        · rw [← hn]
          simp only [real, rq, Option.bind_some]
          rw [if_pos ⟨hz, ho, hm⟩]
        · rintro e w' ⟨r2, u, rfl, hR2, hu⟩
          obtain ⟨r3, a1, a2, a3⟩ := hC hR rfl hR2 hl hu
          exact ⟨r3, u, rfl, a1, a2, a3⟩
    · cases hk2
  · cases hk2
end Go.Proofs.YtoafcnecjgnbmaaGreatDoor.E

set_option linter.constructorNameAsVariable false
set_option linter.unusedVariables false
namespace Go.Proofs.YtoafcnecjgnbmaaGreatDoor.E
open Go Go.RowKit H
set_option maxRecDepth 100000
section
variable {T : Nat → List (FuncId × Prim)}
noncomputable def callT (T : Nat → List (FuncId × Prim)) (fl : Nat) : CallF := callK P0 fl FU (tab (T fl)) (dr0 fl) 100
theorem callT_ok (hT : ∀ fl, ∀ x ∈ T fl, Pr1 P0 fl x.1 x.2) (fl : Nat) : CallOk P0 fl (callT T fl) := callK_ok (tab_ok (hT fl)) (dr0_ok fl) regs0 100
noncomputable def runT (T : Nat → List (FuncId × Prim)) (fl : Nat) (vs : List AV) (h : Hp) (k : KV) : Bool := bodyW 0 P0 fl FU noWc (fun n call => drX (callT T) n call) (callT T fl) 304 vs h k
noncomputable def wcT (T : Nat → List (FuncId × Prim)) (fl : Nat) : WcF := fun f => ifeV (Nat.beq f 304) (some (runT T fl)) none
theorem wcT_ok (hT : ∀ fl, ∀ x ∈ T fl, Pr1 P0 fl x.1 x.2) (fl : Nat) : WcOk P0 fl (wcT T fl) := by
  intro f g vs h k hg hk
  cases e : Nat.beq f 304 with
  | true =>
    replace hg : ifeV (Nat.beq f 304) (some (runT T fl)) none = some g := hg
    rw [e] at hg
    replace hg : some (runT T fl) = some g := hg
    cases hg
    have e := Nat.eq_of_beq_eq_true e
    subst e
    replace hk : bodyW 0 P0 fl FU noWc (fun n call => drX (callT T) n call) (callT T fl) 304 vs h k = true := hk
    have hd : ∀ n call, CallOk P0 fl call → DrawWk P0 fl n (fun ops => ops = R8) (drX (callT T) n call) := fun n call hc => drX_ok (callT_ok hT) hc
    exact ⟨bodyW_ex (callT_ok hT fl) (noWc_ok (P := P0) (fl := fl)).ex (fun n call hc => (hd n call hc).ex) regs8 hk, bodyW_ok (callT_ok hT fl) noWc_ok hd regs8 hk⟩
  | false =>
    replace hg : ifeV (Nat.beq f 304) (some (runT T fl)) none = some g := hg
    rw [e] at hg
    cases hg
/-- An archive that is built, evaluated. -/
noncomputable def bldT (T : Nat → List (FuncId × Prim)) (x : BldE) (b : Bool) : Bool := BldE.rec (motive := fun _ => Bool) (fun pin s v L => lenK s fun n => lenK L fun m => ask (Nat.ble m 1000000) (bodyW 0 P0 101 FU (wcT T 101) (dr0 101) (callT T 101) 227 [pin, .slx 100 0 n 1] (bldH 5 s) fun v' h' => canP2 101 101 h' v' fun v3 L3 => ask (avEq v3 v) (ask (blksEq L3 L) b))) x
theorem bldT_ok (hT : ∀ fl, ∀ x ∈ T fl, Pr1 P0 fl x.1 x.2) {x : BldE} (hk : bldT T x true = true) : BldOk P0 227 5 x := by
  obtain ⟨pin, s, v, L⟩ := x
  replace hk : lenK s (fun n => lenK L fun m => ask (Nat.ble m 1000000) (bodyW 0 P0 101 FU (wcT T 101) (dr0 101) (callT T 101) 227 [pin, .slx 100 0 n 1] (bldH 5 s) fun v' h' => canP2 101 101 h' v' fun v3 L3 => ask (avEq v3 v) (ask (blksEq L3 L) true))) = true := hk
  rw [lenK_eq, lenK_eq] at hk
  obtain ⟨hm, hk⟩ := ask_ok hk
  have hm := ble_le hm
  intro w r hR xs hxs
  refine (bodyW_ok (callT_ok hT 101) (wcT_ok hT 101) (fun n call h => .of (dr0_ok 101 n call h)) (regs0 _) hk _ _ r w xs hR hxs).mono ?_
  rintro e w' ⟨v', h', r', u, hv, rfl, hx, hR', hxv⟩
  obtain ⟨v3, L3, hv, hC⟩ := canP2_ok hv
  obtain ⟨q1, hv⟩ := ask_ok hv
  obtain ⟨q2, _⟩ := ask_ok hv
  obtain rfl := avEq_ok _ _ q1
  obtain rfl := blksEq_ok q2
  obtain ⟨r2, a1, a2, a3⟩ := hC hR rfl hR' (fun i hi => by have : LIM = 1099511627776 := rfl; omega) hxv
  exact ⟨r2, u, rfl, a2, a3⟩
end
/-- One archive and its sum. -/
abbrev SumX (x : List Nat × List Nat) : Prop := (Bytes x.2 ∧ SumOk P0 106 60 5 x.1 x.2) ∧ (Bytes x.2 ∧ SumOk P0 25 60 5 x.1 x.2)
noncomputable def tbS (x : List Nat × List Nat) (fl : Nat) : List (FuncId × Prim) := (106, fun _ vs h kr _ => sumP 60 5 [x] vs h fun v => kr v h) :: (25, fun _ vs h kr _ => sumP 60 5 [x] vs h fun v => kr v h) :: (239, fun _ vs h kr _ => growP vs h kr) :: tb1 fl
theorem tbS_ok {x : List Nat × List Nat} (hx : SumX x) (fl : Nat) : ∀ y ∈ tbS x fl, Pr1 P0 fl y.1 y.2 :=
  List.forall_mem_cons.2 ⟨sumP_ok (fun y hy => by rw [List.mem_singleton.1 hy]; exact hx.1), List.forall_mem_cons.2 ⟨sumP_ok (fun y hy => by rw [List.mem_singleton.1 hy]; exact hx.2), List.forall_mem_cons.2 ⟨pr_grow, tb1_ok sumsOk fl⟩⟩⟩
/-- The script that never ends told by itself. -/
noncomputable def tb7 (x : List Nat × List Nat) (fl : Nat) : List (FuncId × Prim) := (369, fun _ vs h kr _ => run7P vs h kr) :: tbS x fl
theorem tb7_ok {x : List Nat × List Nat} (hx : SumX x) (fl : Nat) : ∀ y ∈ tb7 x fl, Pr1 P0 fl y.1 y.2 := List.forall_mem_cons.2 ⟨pr_run7, tbS_ok hx fl⟩
noncomputable def agU (d : List Nat) : List AV := List.rec (motive := fun _ => List AV) [] (fun b _ ih => .int .u8 (.ofNat b) :: ih) d
noncomputable def nib (n : Nat) : Nat := ifeV (Nat.blt n 10) (Nat.add 48 n) (Nat.add 87 n)
noncomputable def hexL (d : List Nat) : List Nat := List.rec (motive := fun _ => List Nat) [] (fun b _ ih => nib (Nat.div b 16) :: nib (Nat.mod b 16) :: ih) d
/-- A sum's text, and a text's sum. -/
noncomputable def hxE (d : List Nat) : List AV × AV := ([.agg (agU d)], .str (hexL d))
noncomputable def paE (d : List Nat) : List AV × AV := ([.str (hexL d)], .tup [.agg (agU d), .bool true])
noncomputable def pinE (c : Nat) (d : List Nat) : AV := .agg (.str [c] :: .int .i64 (.ofNat 1) :: .int .i64 (.ofNat 0) :: .int .i64 (.ofNat 0) :: .nils :: agU d)
/-- The table of a run. -/
noncomputable def tbZ (x : List Nat × List Nat) (be : BldE) : List (FuncId × Prim) := (5, fun _ vs h kr _ => knP vs h fun v => kr v h) :: (227, fun _ vs h kr _ => bldP2 5 [be] vs h kr) :: (105, fun _ vs h kr _ => valP [hxE x.2] vs h fun v => kr v h) :: (70, fun _ vs h kr _ => valP [paE x.2] vs h fun v => kr v h) :: tbS x 100
theorem tbZ_ok {x : List Nat × List Nat} {be : BldE} (hx : SumX x) (hb : BldOk P0 227 5 be) (hh : ValOk P0 105 (hxE x.2)) (hp : ValOk P0 70 (paE x.2)) : ∀ y ∈ tbZ x be, Pr1 P0 100 y.1 y.2 :=
  List.forall_mem_cons.2 ⟨knP_ok knOk, List.forall_mem_cons.2 ⟨bldP2_ok (fun y hy => by rw [List.mem_singleton.1 hy]; exact hb), List.forall_mem_cons.2 ⟨valP_ok (fun y hy => by rw [List.mem_singleton.1 hy]; exact hh), List.forall_mem_cons.2 ⟨valP_ok (fun y hy => by rw [List.mem_singleton.1 hy]; exact hp), tbS_ok hx 100⟩⟩⟩⟩
/-- What an archive's facts are, evaluated. -/
noncomputable def sumA1 (x : List Nat × List Nat) (b : Bool) : Bool := sumB 106 x b
noncomputable def sumO1 (x : List Nat × List Nat) (b : Bool) : Bool := sumB 25 x b
noncomputable def hxB (d : List Nat) (b : Bool) : Bool := valB (call0 100) 105 (hxE d) b
noncomputable def paB (d : List Nat) (b : Bool) : Bool := valB (call0 100) 70 (paE d) b
noncomputable def scrB (x : List Nat × List Nat) (be : BldE) (i j : Nat) (b : Bool) : Bool := callK P0 100 FU (tab (tbZ x be)) (dr0 100) 200 3 [.sym .u8 0 6 i, .sym .u8 1 10 j] h00 (fun v _ => qBool v fun x => ask x b) (fun _ _ => false)
theorem sumX_of {x : List Nat × List Nat} (hb : (x.2.all fun b => Nat.blt b 256) = true) (h1 : sumA1 x true = true) (h2 : sumO1 x true = true) : SumX x := ⟨sumB_ok hb h1, sumB_ok hb h2⟩
/-- What a case's facts are. -/
structure CaseOk (x : List Nat × List Nat) (be : BldE) (i j : Nat) : Prop where
  by' : (x.2.all fun b => Nat.blt b 256) = true
  s1 : sumA1 x true = true
  s2 : sumO1 x true = true
  hx : hxB x.2 true = true
  pa : paB x.2 true = true
  bl : SumX x → BldOk P0 227 5 be
  rn : scrB x be i j true = true
theorem CaseOk.run {x : List Nat × List Nat} {be : BldE} {i j : Nat} (h : CaseOk x be i j) {w : World} (hw : Wf w) {sg : Nat → Nat} {xs : List Value} (hxs : reals (r00 sg) [.sym .u8 0 6 i, .sym .u8 1 10 j] = some xs) : Calls P0 3 xs.toArray w fun e w' => K0 w w' ∧ e = .returned (.bool true) :=
  have hs := sumX_of h.by' h.s1 h.s2
  law_of (tbZ_ok hs (h.bl hs) (valB_ok (call0_ok sumsOk 100) h.hx) (valB_ok (call0_ok sumsOk 100) h.pa)) h.rn hw hxs
end Go.Proofs.YtoafcnecjgnbmaaGreatDoor.E

namespace Go.Proofs.YtoafcnecjgnbmaaGreatDoor.E
open Go
noncomputable def dgL (k : Nat) : Nat → List Nat → List Nat := Nat.rec (motive := fun _ => Nat → List Nat → List Nat) (fun _ a => a) (fun _ ih n a => ih (Nat.div n 256) (Nat.mod n 256 :: a)) k
/-- A sum out of its number. -/
noncomputable def sumN (n : Nat) : List Nat := dgL 32 n []
noncomputable def arcP (c : Nat) (l : List Nat) : List Nat := 80 :: 65 :: 75 :: 49 :: 1 :: 0 :: 3 :: 108 :: 105 :: 98 :: 0 :: 0 :: 5 :: 108 :: 105 :: 98 :: 47 :: c :: 0 :: 0 :: 0 :: 0 :: 0 :: 0 :: 0 :: 7 :: c :: 32 :: 49 :: 46 :: 48 :: 46 :: 48 :: l
noncomputable def arcS (c n : Nat) (s : List Nat) : List Nat := arcP c (0 :: 0 :: 8 :: 98 :: 117 :: 105 :: 108 :: 100 :: 46 :: 104 :: 115 :: 0 :: 0 :: 0 :: 0 :: 0 :: 0 :: 0 :: n :: s)
noncomputable def ar0 (c : Nat) : List Nat := arcP c [255]
noncomputable def ar1 (c : Nat) : List Nat := arcS c 33 [119, 114, 105, 116, 101, 32, 111, 117, 116, 32, 34, 98, 117, 105, 108, 116, 32, 36, 110, 97, 109, 101, 32, 36, 118, 101, 114, 115, 105, 111, 110, 34, 10, 255]
noncomputable def ar2 (c : Nat) : List Nat := arcS c 57 [109, 107, 100, 105, 114, 32, 98, 105, 110, 10, 114, 101, 112, 101, 97, 116, 32, 51, 10, 97, 112, 112, 101, 110, 100, 32, 98, 105, 110, 47, 114, 117, 110, 32, 34, 36, 110, 97, 109, 101, 34, 10, 101, 110, 100, 10, 114, 101, 109, 111, 118, 101, 32, 108, 105, 98, 10, 255]
noncomputable def ar3 (c : Nat) : List Nat := arcS c 48 [105, 102, 32, 101, 120, 105, 115, 116, 115, 32, 108, 105, 98, 10, 114, 101, 110, 97, 109, 101, 32, 108, 105, 98, 32, 115, 114, 99, 10, 101, 108, 115, 101, 10, 102, 97, 105, 108, 32, 34, 110, 111, 34, 10, 101, 110, 100, 10, 255]
noncomputable def ar4 (c : Nat) : List Nat := arcS c 13 [102, 97, 105, 108, 32, 34, 110, 101, 118, 101, 114, 34, 10, 255]
noncomputable def ar5 (c : Nat) : List Nat := arcS c 17 [119, 114, 105, 116, 101, 32, 46, 46, 47, 111, 117, 116, 32, 34, 120, 34, 10, 255]
noncomputable def ar6 (c : Nat) : List Nat := arcS c 9 [99, 111, 112, 121, 32, 108, 105, 98, 10, 255]
noncomputable def ar7 (c : Nat) : List Nat := arcS c 32 [114, 101, 112, 101, 97, 116, 32, 49, 48, 48, 48, 10, 114, 101, 112, 101, 97, 116, 32, 49, 48, 48, 48, 10, 101, 110, 100, 10, 101, 110, 100, 10, 255]
noncomputable def big8 : List Nat := [0, 1, 2, 3, 4, 5, 6, 7, 8, 9, 10, 11, 12, 13, 14, 15, 16, 17, 18, 19, 20, 21, 22, 23, 24, 25, 26, 27, 28, 29, 30, 31, 32, 33, 34, 35, 36, 37, 38, 39, 40, 41, 42, 43, 44, 45, 46, 47, 48, 49, 50, 51, 52, 53, 54, 55, 56, 57, 58, 59, 60, 61, 62, 63, 64, 65, 66, 67, 68, 69, 70, 71, 72, 73, 74, 75, 76, 77, 78, 79, 80, 81, 82, 83, 84, 85, 86, 87, 88, 89, 90, 91, 92, 93, 94, 95, 96, 97, 98, 99, 100, 101, 102, 103, 104, 105, 106, 107, 108, 109, 110, 111, 112, 113, 114, 115, 116, 117, 118, 119, 120, 121, 122, 123, 124, 125, 126, 127, 128, 129, 130, 131, 132, 133, 134, 135, 136, 137, 138, 139, 140, 141, 142, 143, 144, 145, 146, 147, 148, 149, 150, 151, 152, 153, 154, 155, 156, 157, 158, 159, 160, 161, 162, 163, 164, 165, 166, 167, 168, 169, 170, 171, 172, 173, 174, 175, 176, 177, 178, 179, 180, 181, 182, 183, 184, 185, 186, 187, 188, 189, 190, 191, 192, 193, 194, 195, 196, 197, 198, 199]
noncomputable def ar8 (c : Nat) : List Nat := arcP c (0 :: 0 :: 3 :: 98 :: 105 :: 103 :: 0 :: 0 :: 0 :: 0 :: 0 :: 0 :: 0 :: 200 :: List.append big8 [255])
noncomputable def ar9 (c : Nat) : List Nat := arcP c [255, 7]
noncomputable def be0 (c : Nat) (d : List Nat) : BldE := ⟨pinE c d, ar0 c, .tup [.slx 102 0 3 3, .nili], [.cells 5 true false (ints [c, 32, 49, 46, 48, 46, 48]), .cells 62 true false [.str [c], .bool true, .nils, .str [c, 47, 108, 105, 98], .bool true, .nils, .str [c, 47, 108, 105, 98, 47, c], .bool false, .slx 101 0 7 1]]⟩
noncomputable def be1 (c : Nat) (d : List Nat) : BldE := ⟨pinE c d, ar1 c, .tup [.slx 103 0 4 3, .nili], [.cells 5 true false (ints [c, 32, 49, 46, 48, 46, 48]), .cells 5 true false (ints [98, 117, 105, 108, 116, 32, c, 32, 49, 46, 48, 46, 48]), .cells 62 true false [.str [c], .bool true, .nils, .str [c, 47, 108, 105, 98], .bool true, .nils, .str [c, 47, 108, 105, 98, 47, c], .bool false, .slx 101 0 7 1, .str [c, 47, 111, 117, 116], .bool false, .slx 102 0 13 1]]⟩
noncomputable def be2 (c : Nat) (d : List Nat) : BldE := ⟨pinE c d, ar2 c, .tup [.slx 102 0 3 3, .nili], [.cells 5 true false (ints [c, c, c]), .cells 62 true false [.str [c], .bool true, .nils, .str [c, 47, 98, 105, 110], .bool true, .nils, .str [c, 47, 98, 105, 110, 47, 114, 117, 110], .bool false, .slx 101 0 3 1]]⟩
noncomputable def be3 (c : Nat) (d : List Nat) : BldE := ⟨pinE c d, ar3 c, .tup [.slx 102 0 3 3, .nili], [.cells 5 true false (ints [c, 32, 49, 46, 48, 46, 48]), .cells 62 true false [.str [c], .bool true, .nils, .str [c, 47, 115, 114, 99], .bool true, .nils, .str [c, 47, 115, 114, 99, 47, c], .bool false, .slx 101 0 7 1]]⟩
noncomputable def be4 (c : Nat) (d : List Nat) : BldE := ⟨pinE c d, ar4 c, .tup [.nils, .ifc 351 (.ptr 102 0)], [.cells 353 false false [.str [108, 105, 110, 101], .str [48], .ifc 51 (.int .i64 (.ofNat 72))], .cells 353 false false [.str [98, 117, 105, 108, 100], .str [c], .ifc 351 (.ptr 101 0)]]⟩
noncomputable def be5 (c : Nat) (d : List Nat) : BldE := ⟨pinE c d, ar5 c, .tup [.nils, .ifc 351 (.ptr 102 0)], [.cells 353 false false [.str [108, 105, 110, 101], .str [48], .ifc 51 (.int .i64 (.ofNat 51))], .cells 353 false false [.str [98, 117, 105, 108, 100], .str [c], .ifc 351 (.ptr 101 0)]]⟩
noncomputable def be6 (c : Nat) (d : List Nat) : BldE := ⟨pinE c d, ar6 c, .tup [.nils, .ifc 351 (.ptr 101 0)], [.cells 353 false false [.str [98, 117, 105, 108, 100], .str [c], .ifc 51 (.int .i64 (.ofNat 66))]]⟩
noncomputable def be7 (c : Nat) (d : List Nat) : BldE := ⟨pinE c d, ar7 c, .tup [.nils, .ifc 351 (.ptr 102 0)], [.cells 353 false false [.str [108, 105, 110, 101], .str [50], .ifc 51 (.int .i64 (.ofNat 73))], .cells 353 false false [.str [98, 117, 105, 108, 100], .str [c], .ifc 351 (.ptr 101 0)]]⟩
noncomputable def be8 (c : Nat) (d : List Nat) : BldE := ⟨pinE c d, ar8 c, .tup [.slx 103 0 4 3, .nili], [.cells 5 true false (ints big8), .cells 5 true false (ints [c, 32, 49, 46, 48, 46, 48]), .cells 62 true false [.str [c], .bool true, .nils, .str [c, 47, 98, 105, 103], .bool false, .slx 101 0 200 1, .str [c, 47, 108, 105, 98], .bool true, .nils, .str [c, 47, 108, 105, 98, 47, c], .bool false, .slx 102 0 7 1]]⟩
noncomputable def be9 (c : Nat) (d : List Nat) : BldE := ⟨pinE c d, ar9 c, .tup [.nils, .ifc 351 (.ptr 101 0)], [.cells 353 false false [.str [98, 117, 105, 108, 100], .str [c], .ifc 51 (.int .i64 (.ofNat 64))]]⟩
end Go.Proofs.YtoafcnecjgnbmaaGreatDoor.E

namespace Go.Proofs.YtoafcnecjgnbmaaGreatDoor.H
open Go.ChangeShapes Go.WideShapes Go.RowKit

/-- What a reading of a type's cells tells. -/
class Opn (P : Program) (t : TypeId) (α : outParam Type) (en : outParam (α → List Value)) (ok : outParam (World → α → Prop)) : Prop where
  out : ∀ (H : Type) (enc : TypeId × Value → H) (W : World) (fuel : Nat) (cs : List Value) (x : DataW H × List MemPlace), DataW.trod enc P W 0 (fun _ => true) true fuel t cs = some x → ∃ a, cs = en a ∧ ok W a
class Cel (P : Program) (t : TypeId) (n : outParam Nat) : Prop where out : P.cellsOf t = n
theorem Cel.of {P : Program} {t : TypeId} {z : Value} {s b : Nat} [h : Inf P t z s b] : Cel P t s := ⟨by
  have h := h.out
  cases hi : P.info? t with
  | none => simp [hi] at h
  | some i =>
    simp only [hi, Option.map_some, Option.some.injEq, Prod.mk.injEq] at h
    simp [Program.cellsOf, hi, h.2.1]⟩
instance {P : Program} {t : TypeId} {z : Value} {s b : Nat} [h : Inf P t z s b] : Cel P t s := Cel.of
class CelS (P : Program) (t : TypeId) (n : outParam Nat) : Prop where
  out : P.cellsOf t = n
  pos : 0 < n

theorem wf_of {k : IntKind} {n : Int} (h : (Lit.int k n).wf = true) : k.min ≤ n ∧ n ≤ k.max := by
  simpa [Lit.wf] using h

instance (priority := low) {P : Program} {t : TypeId} {k : IntKind} [h : Und P t (.int k)] : Opn P t Int (fun n => [.int k n]) (fun _ n => k.min ≤ n ∧ n ≤ k.max) := ⟨fun _ _ _ _ _ _ hx => by
  obtain ⟨n, rfl, rfl, hw⟩ := DataW.trod_int h.out hx
  exact ⟨n, rfl, wf_of hw⟩⟩
instance {P : Program} {t : TypeId} [h : Und P t (.int .i64)] : Opn P t Int (fun n => [.int .i64 n]) (fun _ n => -9223372036854775808 ≤ n ∧ n ≤ 9223372036854775807) := ⟨fun _ _ _ _ _ _ hx => by
  obtain ⟨n, rfl, rfl, hw⟩ := DataW.trod_int h.out hx
  exact ⟨n, rfl, bounds_i64 hw⟩⟩
instance {P : Program} {t : TypeId} [h : Und P t (.int .u64)] : Opn P t Nat (fun n => [.int .u64 (n : Int)]) (fun _ n => n < 18446744073709551616) := ⟨fun _ _ _ _ _ _ hx => by
  obtain ⟨n, rfl, rfl, hw⟩ := DataW.trod_int h.out hx
  have := bounds_u64 hw
  exact ⟨n.toNat, by rw [Int.toNat_of_nonneg this.1], by omega⟩⟩
instance {P : Program} {t : TypeId} [h : Und P t (.int .u8)] : Opn P t UInt8 (fun n => [vb n]) (fun _ _ => True) := ⟨fun _ _ _ _ _ _ hx => by
  obtain ⟨n, rfl, rfl, hw⟩ := DataW.trod_int h.out hx
  have := bounds_u8 hw
  refine ⟨UInt8.ofNat n.toNat, ?_, trivial⟩
  simp only [vb, UInt8.toNat_ofNat']
  congr 2
  omega⟩
instance {P : Program} {t : TypeId} [h : Und P t .bool] : Opn P t Bool (fun b => [.bool b]) (fun _ _ => True) := ⟨fun _ _ _ _ _ _ hx => by
  obtain ⟨n, rfl, rfl⟩ := DataW.trod_bool h.out hx
  exact ⟨n, rfl, trivial⟩⟩
instance {P : Program} {t : TypeId} [h : Und P t .string] : Opn P t (List UInt8) (fun s => [vs s]) (fun _ s => s.length ≤ 9223372036854775807) := ⟨fun _ _ _ _ _ _ hx => by
  obtain ⟨s, rfl, rfl, hw⟩ := DataW.trod_string h.out hx
  refine ⟨s.data.toList, rfl, ?_⟩
  simpa [maxLen] using hw⟩

theorem addr_none {w : World} {a : Addr} {v : Value} (h : w.cell? a = some v) : ∃ c e fz, w.heap[a.block]? = some (.cells c e fz) ∧ a.spot = none ∧ c[a.off]? = some v := by
  unfold World.cell? at h
  split at h
  · rename_i c e fz hc
    split at h
    · cases h
    · rename_i hs
      exact ⟨c, e, fz, hc, by simpa using hs, h⟩
  · cases h

theorem list_grow {L cs : List Value} {off k sz : Nat} (hl : cs.length = sz) (h : ∀ j, j < sz → L[off + k * sz + j]? = cs[j]?) : (L.drop off).take ((k + 1) * sz) = (L.drop off).take (k * sz) ++ cs := by
  rw [Nat.succ_mul, List.take_add]
  congr 1
  apply List.ext_getElem?
  intro j
  rw [List.getElem?_take]
  split
  · rename_i hj
    rw [List.drop_drop, List.getElem?_drop]
    exact h j hj
  · rename_i hj
    rw [List.getElem?_eq_none (by omega)]

/-- A slice's reading. -/
instance {P : Program} {t e : TypeId} {sz : Nat} [h : Und P t (.slice e)] [hc : CelS P e sz] {β : Type} {en : β → List Value} {ok : World → β → Prop} [ho : Opn P e β en ok] :
    Opn P t (Value × List β) (fun p => [p.1]) (fun W p => Sl W sz p.1 p.2.length (p.2.flatMap en) ∧ ∀ x ∈ p.2, ok W x) := ⟨fun H enc W fuel cs x hx => by
  have hpos := hc.pos
  rcases Go.Deep.open_slice h.out hx with ⟨rfl, _⟩ | ⟨a, len, cap, m, n, D, Pl, rfl, _, hl, hm, hmm, _, hel⟩
  · exact ⟨(_, []), rfl, by simpa using Sl.nil W sz, by simp⟩
  have hel : ∀ i, i < cap → ∃ cs', W.cells? 0 (a.add (i * sz)) sz = some cs' ∧ DataW.trod enc P W 0 (fun _ => true) true n e cs' = some (D i, Pl i) := fun i hi => by
    have := hel i (by rw [hmm]; simpa using hi)
    rw [hc.out] at this
    exact this
  by_cases h0 : cap = 0
  · subst h0
    have : len = 0 := by omega
    subst this
    exact ⟨(_, []), rfl, ⟨by simp, by simp, .inl ⟨_, rfl, rfl⟩⟩, by simp⟩
  obtain ⟨cs0, hcs0, _⟩ := hel 0 (by omega)
  obtain ⟨_, hlen0, hat0⟩ := World.cells?_some hcs0
  have h00 := hat0 0 (by omega)
  rw [List.getElem?_eq_getElem (by omega)] at h00
  have hz : (a.add (0 * sz)).add 0 = a := by unfold Addr.add; simp
  rw [hz] at h00
  obtain ⟨c, e', fz, hb, hsp, _⟩ := addr_none h00
  obtain ⟨g, off, sp⟩ := a
  simp only at hsp
  subst hsp
  have hcell : ∀ i, i < cap → ∃ cs', cs'.length = sz ∧ (∃ b, cs' = en b ∧ ok W b) ∧ ∀ j, j < sz → c.toList[off + i * sz + j]? = cs'[j]? := by
    intro i hi
    obtain ⟨cs', h1, h2⟩ := hel i hi
    obtain ⟨_, h4, h5⟩ := World.cells?_some h1
    refine ⟨cs', h4, ho.out H enc W n cs' _ h2, fun j hj => ?_⟩
    have := h5 j hj
    rw [addr_add, addr_add, cell_row (off := 0) hb] at this
    rw [← this, Array.getElem?_toList]
  have grow : ∀ k, k ≤ cap → ∃ xs : List β, xs.length = k ∧ (c.toList.drop off).take (k * sz) = xs.flatMap en ∧ (∀ x ∈ xs, ok W x) ∧ (xs.flatMap en).length = k * sz := by
    intro k
    induction k with
    | zero => intro _; exact ⟨[], rfl, by simp, by simp, by simp⟩
    | succ k ih =>
      intro hk
      obtain ⟨xs, h1, h2, h3, h6⟩ := ih (by omega)
      obtain ⟨cs', h4, ⟨b, rfl, hb'⟩, h5⟩ := hcell k (by omega)
      refine ⟨xs ++ [b], by simp [h1], ?_, ?_, ?_⟩
      · rw [list_grow h4 h5, h2]; simp
      · intro x hx
        rcases List.mem_append.1 hx with hx | hx
        · exact h3 x hx
        · simp only [List.mem_singleton] at hx; subst hx; exact hb'
      · rw [List.flatMap_append, List.length_append, h6]; simp [h4, Nat.succ_mul]
  have hsize : off + cap * sz ≤ c.size := by
    obtain ⟨cs', h4, _, h5⟩ := hcell (cap - 1) (by omega)
    have h6 := h5 (sz - 1) (by omega)
    rw [show cs'[sz - 1]? = some (cs'[sz - 1]'(by omega)) from List.getElem?_eq_getElem (by omega)] at h6
    have h7 := (List.getElem?_eq_some_iff.1 h6).1
    have : (cap - 1) * sz + sz = cap * sz := by
      have : cap = (cap - 1) + 1 := by omega
      conv => rhs; rw [this, Nat.succ_mul]
    simp only [Array.length_toList] at h7
    omega
  obtain ⟨xs, h1, h2, h3, h6⟩ := grow len hl
  subst h1
  exact ⟨(_, xs), rfl, ⟨h6, Nat.le_trans hl hm, .inr ⟨g, off, cap, c, e', fz, rfl, hb, hl, hm, hsize, h2⟩⟩, h3⟩⟩

/-- Fields, one behind the other. -/
class OpnF (P : Program) (ts : List TypeId) (α : outParam Type) (en : outParam (α → List Value)) (ok : outParam (World → α → Prop)) (len : outParam Nat) : Prop where
  out : ∀ (H : Type) (enc : TypeId × Value → H) (W : World) (n off : Nat) (cs : List Value), off + len ≤ cs.length →
    (∀ (pre : List TypeId) (t : TypeId) (post : List TypeId), ts = pre ++ t :: post → ∃ x, DataW.trod enc P W 0 (fun _ => true) true n t ((cs.drop (off + (pre.map P.cellsOf).sum)).take (P.cellsOf t)) = some x) →
    ∃ a, (cs.drop off).take len = en a ∧ ok W a
  sum : (ts.map P.cellsOf).sum = len
instance {P : Program} : OpnF P [] Unit (fun _ => []) (fun _ _ => True) 0 := ⟨fun _ _ _ _ _ _ _ _ => ⟨(), by simp, trivial⟩, rfl⟩
instance {P : Program} {t : TypeId} {ts : List TypeId} {α β : Type} {en : α → List Value} {ok : World → α → Prop} {en' : β → List Value} {ok' : World → β → Prop} {c l : Nat} [hc : Cel P t c] [h1 : Opn P t α en ok] [h2 : OpnF P ts β en' ok' l] :
    OpnF P (t :: ts) (α × β) (fun p => en p.1 ++ en' p.2) (fun W p => ok W p.1 ∧ ok' W p.2) (c + l) := ⟨fun H enc W n off cs hl hf => by
  obtain ⟨x, hx⟩ := hf [] t ts rfl
  simp only [List.map_nil, List.sum_nil, Nat.add_zero] at hx
  rw [hc.out] at hx
  obtain ⟨a, ha, hok⟩ := h1.out H enc W n _ x hx
  obtain ⟨b, hb, hok'⟩ := h2.out H enc W n (off + c) cs (by omega) (fun pre u post he => by
    obtain ⟨y, hy⟩ := hf (t :: pre) u post (by rw [he]; rfl)
    refine ⟨y, ?_⟩
    simp only [List.map_cons, List.sum_cons, hc.out] at hy
    rw [Nat.add_assoc]; exact hy)
  refine ⟨(a, b), ?_, hok, hok'⟩
  rw [List.take_add, ha, List.drop_drop, hb], by rw [List.map_cons, List.sum_cons, hc.out, h2.sum]⟩

def offsOk (P : Program) : Nat → List Field → Bool
  | _, [] => true
  | o, f :: r => f.offset == o && offsOk P (o + P.cellsOf f.type) r

theorem offs_at {P : Program} : ∀ (fs : List Field) (o : Nat), offsOk P o fs = true → ∀ (pre : List Field) (f : Field) (post : List Field), fs = pre ++ f :: post → f.offset = o + ((pre.map (·.type)).map P.cellsOf).sum := by
  intro fs
  induction fs with
  | nil => intro o _ pre f post h; cases pre <;> cases h
  | cons a r ih =>
    intro o h pre f post he
    simp only [offsOk, Bool.and_eq_true, beq_iff_eq] at h
    cases pre with
    | nil => simp only [List.nil_append, List.cons.injEq] at he; obtain ⟨rfl, _⟩ := he; simp [h.1]
    | cons b pre =>
      simp only [List.cons_append, List.cons.injEq] at he
      obtain ⟨rfl, he⟩ := he
      rw [ih _ h.2 pre f post he]
      simp [Nat.add_assoc]

/-- A struct's reading. -/
class StrT (P : Program) (t : TypeId) (ts : outParam (List TypeId)) : Prop where
  out : ∃ fs, P.underlying t = some (.struct fs) ∧ fs.toList.map (·.type) = ts ∧ offsOk P 0 fs.toList = true ∧ P.cellsOf t = (ts.map P.cellsOf).sum
instance {P : Program} {t : TypeId} {ts : List TypeId} [hS : StrT P t ts] {α : Type} {en : α → List Value} {ok : World → α → Prop} {len : Nat} [h : OpnF P ts α en ok len] : Opn P t α en ok := ⟨fun H enc W fuel cs x hx => by
  obtain ⟨fs, hu, hts, hof, hlen⟩ := hS.out
  obtain ⟨xs, n, rfl, rfl, hl, hxl, hf⟩ := DataW.trod_struct hu hx
  rw [hlen, h.sum] at hl
  subst hts
  obtain ⟨a, ha, hok⟩ := h.out H enc W n 0 cs (by omega) (fun pre u post he => by
    obtain ⟨i, hi⟩ : ∃ i, pre.length = i := ⟨_, rfl⟩
    have hlen2 : pre.length < fs.toList.length := by
      have := congrArg List.length he
      simp at this
      simp; omega
    have hpre : (fs.toList.take pre.length).map (·.type) = pre := by rw [List.map_take, he]; simp
    have hget : (fs.toList.map (·.type))[pre.length]? = some u := by rw [he]; simp
    rw [List.getElem?_map, List.getElem?_eq_getElem hlen2] at hget
    simp only [Option.map_some, Option.some.injEq] at hget
    have hfi : fs[pre.length]? = some (fs.toList[pre.length]) := by rw [← Array.getElem?_toList, List.getElem?_eq_getElem hlen2]
    have hoff := offs_at fs.toList 0 hof (fs.toList.take pre.length) (fs.toList[pre.length]) (fs.toList.drop (pre.length + 1)) (by rw [← List.drop_eq_getElem_cons hlen2, List.take_append_drop])
    have h2 := hf pre.length _ hfi
    rw [hget, hoff, hpre] at h2
    rw [h2]
    have : pre.length < xs.length := by rw [hxl]; simpa using hlen2
    exact ⟨_, List.getElem?_eq_getElem this⟩)
  rw [List.drop_zero, List.take_of_length_le (by omega)] at ha
  exact ⟨a, ha, hok⟩⟩

/-- A parameter. -/
class Top (P : Program) (t : TypeId) (α : outParam Type) (tv : outParam (α → Value)) (ok : outParam (World → α → Prop)) : Prop where
  out : ∀ (H : Type) (enc : TypeId × Value → H) (W : World) (base : Nat) (v : Value) (d : DataW H) (p : List MemPlace), Value.okWide P W .any base t v → DataW.Trod enc P W 0 (fun _ => true) true t v d p → ∃ a, v = tv a ∧ ok W a
theorem Top.one {P : Program} {t : TypeId} {desc : TypeDesc} (hu : P.underlying t = some desc) (hd : TypeDesc.isOne desc = true) {α : Type} {c : α → Value} {ok : World → α → Prop} (h : Opn P t α (fun a => [c a]) ok) : Top P t α c ok := ⟨fun H enc W base v d p hv hd' => by
  obtain ⟨fuel, hf⟩ := hd'
  obtain ⟨a, ha, hok⟩ := h.out H enc W fuel _ _ hf
  refine ⟨a, ?_, hok⟩
  have hna : ∀ cs, v ≠ .agg cs := by
    intro cs hcs
    subst hcs
    unfold Value.okWide at hv
    rw [hu] at hv
    cases desc <;> simp_all [TypeDesc.isOne, Cell.okWide, Cell.ok]
  have : v.cells = #[v] := by
    cases v with
    | agg cs => exact absurd rfl (hna cs)
    | _ => rfl
  rw [this] at ha
  simpa using ha⟩
instance {P : Program} {t : TypeId} {k : IntKind} [h : Und P t (.int k)] {α : Type} {c : α → Value} {ok : World → α → Prop} [ho : Opn P t α (fun a => [c a]) ok] : Top P t α c ok := Top.one h.out rfl ho
instance {P : Program} {t : TypeId} [h : Und P t .bool] {α : Type} {c : α → Value} {ok : World → α → Prop} [ho : Opn P t α (fun a => [c a]) ok] : Top P t α c ok := Top.one h.out rfl ho
instance {P : Program} {t : TypeId} [h : Und P t .string] {α : Type} {c : α → Value} {ok : World → α → Prop} [ho : Opn P t α (fun a => [c a]) ok] : Top P t α c ok := Top.one h.out rfl ho
instance {P : Program} {t e : TypeId} [h : Und P t (.slice e)] {α : Type} {c : α → Value} {ok : World → α → Prop} [ho : Opn P t α (fun a => [c a]) ok] : Top P t α c ok := Top.one h.out rfl ho
instance {P : Program} {t : TypeId} {ts : List TypeId} [hS : StrT P t ts] {α : Type} {en : α → List Value} {ok : World → α → Prop} [h : Opn P t α en ok] : Top P t α (fun a => .agg (en a).toArray) ok := ⟨fun H enc W base v d p hv hd' => by
  obtain ⟨fuel, hf⟩ := hd'
  obtain ⟨fs, hu, _⟩ := hS.out
  obtain ⟨cs, rfl, _⟩ := okWide_struct hu hv
  obtain ⟨a, ha, hok⟩ := h.out H enc W fuel _ _ hf
  refine ⟨a, ?_, hok⟩
  have : cs = (en a).toArray := by
    apply Array.ext'
    simpa [Value.cells] using ha
  rw [this]⟩

/-- The parameters, one behind the other. -/
class Tops (P : Program) (ts : List TypeId) (α : outParam Type) (tv : outParam (α → List Value)) (ok : outParam (World → α → Prop)) : Prop where
  out : ∀ (H : Type) (enc : TypeId × Value → H) (W : World) (base : Nat) (l : List Value) (ds : List (DataW H)) (p : List MemPlace), (∀ (j : Nat) t v, ts[j]? = some t → l[j]? = some v → Value.okWide P W .any base t v) →
    DataW.TrodAll enc P W 0 (fun _ => true) true ts l ds p → ∃ a, l = tv a ∧ ok W a
instance {P : Program} : Tops P [] Unit (fun _ => []) (fun _ _ => True) := ⟨fun _ _ _ _ l ds p _ h => by
  obtain ⟨rfl, _⟩ := trodAll_nil h
  exact ⟨(), rfl, trivial⟩⟩
instance {P : Program} {t : TypeId} {ts : List TypeId} {α β : Type} {tv : α → Value} {ok : World → α → Prop} {tv' : β → List Value} {ok' : World → β → Prop} [h1 : Top P t α tv ok] [h2 : Tops P ts β tv' ok'] :
    Tops P (t :: ts) (α × β) (fun p => tv p.1 :: tv' p.2) (fun W p => ok W p.1 ∧ ok' W p.2) := ⟨fun H enc W base l ds p hv h => by
  obtain ⟨v, vs, d, ds', p', q, rfl, rfl, rfl, hd, hr⟩ := trodAll_cons h
  obtain ⟨a, rfl, ha⟩ := h1.out H enc W base v d p' (hv 0 t v rfl rfl) hd
  obtain ⟨b, rfl, hb⟩ := h2.out H enc W base vs ds' q (fun j t' v' h1 h2 => hv (j + 1) t' v' h1 h2) hr
  exact ⟨(a, b), rfl, ha, hb⟩⟩

theorem trodAll_stays {H : Type} {enc : TypeId × Value → H} {P : Program} (hl : laidOutB P = true) {W W' : World} (hb : Below W.heap.size W W') : ∀ (ts : List TypeId) (l : List Value) (ds : List (DataW H)) (p : List MemPlace), (∀ t ∈ ts, P.readableRec t = true ∧ t < P.types.size) → (∀ x ∈ p, x.block < W.heap.size) →
    DataW.TrodAll enc P W 0 (fun _ => true) true ts l ds p → DataW.TrodAll enc P W' 0 (fun b => decide (b < W.heap.size)) true ts l ds p := by
  intro ts
  induction ts with
  | nil =>
    intro l ds p _ _ h
    obtain ⟨rfl, rfl, rfl⟩ := trodAll_nil h
    exact trodAll_mk0
  | cons t ts ih =>
    intro l ds p hts hp h
    obtain ⟨v, vs, d, ds', p', q, rfl, rfl, rfl, hd, hr⟩ := trodAll_cons h
    have h1 := hts t (by simp)
    exact trodAll_cons_mk (Below.trod hl h1.1 h1.2 hd hb fun x hx => hp x (by simp [hx])) (ih vs ds' q (fun u hu => hts u (by simp [hu])) (fun x hx => hp x (by simp [hx])) hr)

theorem trodAll_length {H : Type} {enc : TypeId × Value → H} {P : Program} {W : World} {sp : Nat → Bool} {hd : Bool} : ∀ (ts : List TypeId) (l : List Value) (ds : List (DataW H)) (p : List MemPlace), DataW.TrodAll enc P W 0 sp hd ts l ds p → ds.length = ts.length := by
  intro ts
  induction ts with
  | nil => intro l ds p h; obtain ⟨_, rfl, _⟩ := trodAll_nil h; rfl
  | cons t ts ih =>
    intro l ds p h
    obtain ⟨v, vs, d, ds', p', q, rfl, rfl, rfl, _, hr⟩ := trodAll_cons h
    simp [ih _ _ _ hr]

end Go.Proofs.YtoafcnecjgnbmaaGreatDoor.H

namespace Go.Proofs.YtoafcnecjgnbmaaGreatDoor.H
open Go.ChangeShapes Go.WideShapes Go.RowKit
/-- An array's type: how many, of what, how many cells each. -/
class ArrT (P : Program) (t : TypeId) (n : outParam Nat) (e : outParam TypeId) (sz : outParam Nat) : Prop where
  out : P.underlying t = some (.array n e)
  el : P.cellsOf e = sz
  all : P.cellsOf t = n * sz
theorem rows_cat {β : Type} {en : β → List Value} {W : World} {ok : World → β → Prop} {sz : Nat} : ∀ (n : Nat) (cs : List Value), cs.length = n * sz → (∀ i, i < n → ∃ b, (cs.drop (i * sz)).take sz = en b ∧ ok W b) → ∃ l : List β, cs = l.flatMap en ∧ l.length = n ∧ ∀ x ∈ l, ok W x
  | 0, cs, h, _ => ⟨[], by rw [Nat.zero_mul] at h; rw [List.length_eq_zero_iff.1 h]; rfl, rfl, by simp⟩
  | n + 1, cs, h, hf => by
    obtain ⟨b, hb, hok⟩ := hf 0 (by omega)
    obtain ⟨l, h1, h2, h3⟩ := rows_cat (en := en) (ok := ok) (W := W) (sz := sz) n (cs.drop sz) (by rw [List.length_drop, h, Nat.succ_mul, Nat.add_sub_cancel]) (fun i hi => by
      obtain ⟨b', h1, h2⟩ := hf (i + 1) (by omega)
      refine ⟨b', ?_, h2⟩
      rw [List.drop_drop, ← h1, Nat.succ_mul, Nat.add_comm])
    refine ⟨b :: l, ?_, by simp [h2], fun x hx => ?_⟩
    · rw [List.flatMap_cons, ← h1, ← hb, Nat.zero_mul, List.drop_zero, List.take_append_drop]
    · rcases List.mem_cons.1 hx with rfl | hx
      · exact hok
      · exact h3 x hx
instance {P : Program} {t e : TypeId} {n sz : Nat} [h : ArrT P t n e sz] {β : Type} {en : β → List Value} {ok : World → β → Prop} [ho : Opn P e β en ok] :
    Opn P t (List β) (fun l => l.flatMap en) (fun W l => l.length = n ∧ ∀ x ∈ l, ok W x) := ⟨fun H enc W fuel cs x hx => by
  obtain ⟨xs, m, rfl, rfl, hl, hxl, hel⟩ := DataW.trod_array h.out hx
  rw [h.all] at hl
  obtain ⟨l, h1, h2, h3⟩ := rows_cat (en := en) (ok := ok) (W := W) n cs hl (fun i hi => by
    have := hel i hi
    rw [h.el, List.getElem?_eq_getElem (by omega)] at this
    obtain ⟨b, hb, hok⟩ := ho.out H enc W m _ _ this
    exact ⟨b, hb, hok⟩)
  exact ⟨l, h1, h2, h3⟩⟩
theorem okWide_arr {P : Program} {w : World} {base : Nat} {t : TypeId} {v : Value} {n : Nat} {e : TypeId} (ht : P.underlying t = some (.array n e)) (h : Value.okWide P w .any base t v) : ∃ cs, v = .agg cs ∧ cs.size = P.cellsOf t := by
  simp only [Value.okWide, ht] at h
  obtain ⟨cs, h1, h2, _⟩ := h
  exact ⟨cs, h1, h2⟩
instance {P : Program} {t e : TypeId} {n sz : Nat} [h : ArrT P t n e sz] {α : Type} {en : α → List Value} {ok : World → α → Prop} [ho : Opn P t α en ok] : Top P t α (fun a => .agg (en a).toArray) ok := ⟨fun H enc W base v d p hv hd' => by
  obtain ⟨fuel, hf⟩ := hd'
  obtain ⟨cs, rfl, _⟩ := okWide_arr h.out hv
  obtain ⟨a, ha, hok⟩ := ho.out H enc W fuel _ _ hf
  refine ⟨a, ?_, hok⟩
  have : cs = (en a).toArray := by
    apply Array.ext'
    simpa [Value.cells] using ha
  rw [this]⟩
/-- The same, of one world. -/
theorem law_contractW {P : Program} (hlo : laidOutB P = true) {k : FuncId} {f : Func} {s : ChangeSpec} {tb : TypeId} (hb : P.underlying tb = some .bool) (hr : f.resultTypes = #[tb]) (hv : s.vars = [])
    {ts : List TypeId} (hts : f.params.toList = ts) (hps : ∀ t ∈ ts, P.readableRec t = true ∧ t < P.types.size) {α : Type} {tv : α → List Value} {ok : World → α → Prop} [ho : Tops P ts α tv ok]
    (hs : ∀ (H : Type) (ds : List (DataW H)), ds.length = ts.length → s.fn H ds = { results := [.lit (.bool true)], args := ds })
    (W : World) (walk : ∀ (a : α), ok W a → Calls P k (tv a).toArray W fun e W' => e = .returned (.bool true) ∧ K0 W W')
    (H : Type) (enc : TypeId × Value → H) (base : Nat) (args : Array Value) (ds gs : List (DataW H)) (before : List MemPlace)
    (hval : ∀ (j : Nat) t v, f.params[j]? = some t → args[j]? = some v → Value.okWide P W .any base t v)
    (hW : DataW.Whole enc P f.params.toList s.vars false W args.toList ds gs before) :
    Calls P k args W fun e W' => ∃ v, e = .returned v ∧ s.post enc P f false true false false W args v W' := by
  have hW' := hW
  rw [hv] at hW
  obtain ⟨p, q, hA, hV, rfl, hfz, hnd⟩ := hW
  obtain ⟨rfl, rfl⟩ := trodVars_none hV
  have hlt : ∀ x ∈ p, x.block < W.heap.size := fun x hx => by have := hW'.lt x (by simp [hx]); simpa using this
  rw [hts] at hA
  obtain ⟨a, ha, hok⟩ := ho.out H enc W base args.toList ds p (fun j t v h1 h2 => hval j t v (by rw [← Array.getElem?_toList, hts]; exact h1) (by rw [← Array.getElem?_toList]; exact h2)) hA
  have hargs : args = (tv a).toArray := by apply Array.ext'; simpa using ha
  subst hargs
  refine (walk a hok).mono fun e W' ⟨he, hk⟩ => ?_
  have hbel := hk.below
  have hfn := hs H (ds ++ []) (by simpa using trodAll_length _ _ _ _ hA)
  refine ⟨_, he, ds, [], p ++ [], [], p, [], hW', ?_, ?_, ?_, hbel.frame _, fun h => by cases h⟩
  · rw [hfn, hr]; exact trodAll_cons_mk (shut_bool hb _) trodAll_mk0
  · rw [hfn, hts]; simpa using trodAll_stays hlo hbel ts _ ds p hps hlt hA
  · rw [hfn, hv]; exact rfl
end Go.Proofs.YtoafcnecjgnbmaaGreatDoor.H

set_option maxRecDepth 100000
namespace Go.Proofs.YtoafcnecjgnbmaaGreatDoor.H
end Go.Proofs.YtoafcnecjgnbmaaGreatDoor.H



