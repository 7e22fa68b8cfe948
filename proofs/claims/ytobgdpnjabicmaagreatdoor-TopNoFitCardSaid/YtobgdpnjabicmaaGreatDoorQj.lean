/-
  A law out of its run: where it begins, what it comes to. Calls that are told by a table: what is known before, what is known behind. Short words for states. stage.Build by a table: what comes of a pin and an archive's bytes, told under names of its own.
-/
import Derived.Test.YtobgdpnjabicmaaGreatDoorQi
import Derived.Test.YtobgdpnjabicmaaGreatDoorQe
set_option linter.unusedVariables false
set_option linter.unusedSimpArgs false
set_option linter.constructorNameAsVariable false
set_option linter.unusedVariables false
namespace Go.Proofs.YtobgdpnjabicmaaGreatDoor.E
open Go Go.RowKit H
set_option maxRecDepth 100000
/-- What the library's variables hold where a law begins. -/
structure Wf (w : World) : Prop where
  m0 : ∃ m, w.cell? ⟨0, 0, none⟩ = some (.int .i64 m)
  e1 : ∃ fz, w.heap[1]? = some (.cells #[rT 202] 442 fz)
  sz : 9 < w.heap.size
theorem h00_at {i : Nat} (hi : i < LIM) : h00.at i = if 1 = i then some (.cells 442 false true [.ifc 513 (.agg [.ptr 9 202])]) else if 0 = i then some .ints else none := by
  unfold h00
  rw [Hp.at_put (by decide) hi, Hp.at_put (by decide) hi]
  simp only [Hp.at, Tr.get_e]
def r00f (i : Nat) : Option (Nat × Nat) := match i with
  | 0 => some (0, 1)
  | 1 => some (1, 1)
  | 9 => some (9, 0)
  | _ => none
def r00 (sg : Nat → Nat) : Ren := ⟨r00f, fun i => i < 100 ∧ r00f i = none, sg⟩
theorem r00_some {sg : Nat → Nat} {i : Nat} {p : Nat × Nat} (h : r00 sg i = some p) : (i = 0 ∨ i = 1 ∨ i = 9) ∧ p.1 = i := by
  have h : r00f i = some p := h
  unfold r00f at h
  split at h
  · cases h; exact ⟨.inl rfl, rfl⟩
  · cases h; exact ⟨.inr (.inl rfl), rfl⟩
  · cases h; exact ⟨.inr (.inr rfl), rfl⟩
  · cases h
theorem rel00 (sg : Nat → Nat) {w : World} (h : Wf w) : Rel (fun _ => False) w 100 (r00 sg) h00 w := by
  have hn : h00.next = 100 := rfl
  obtain ⟨fz1, he1⟩ := h.e1
  have hl1 := lt_of_at he1
  refine ⟨fun i b hi hb => ?_, fun i j b c p q hi hj hb hc hp hq e => ?_, fun i hi => ?_, by rw [hn]; decide, fun i p _ hp => (r00_some hp).2, fun i p hi hp => ?_, fun i p hp => ?_, Kept.refl _ _, by rw [hn]; exact ⟨Nat.le_refl _, Nat.le_refl _⟩, fun i hi => ⟨hi.2, by rw [hn]; exact hi.1⟩, fun i hi => ?_, fun i hi hL => ?_⟩
  · rw [hn] at hi
    rw [h00_at (Nat.lt_trans hi (by decide))] at hb
    by_cases e1 : 1 = i
    · subst e1
      rw [if_pos rfl] at hb; cases hb
      refine ⟨(1, 1), rfl, _, fz1, _, he1, rfl, reals_cons.2 ⟨rT 202, [], rfl, reals_nil, rfl⟩, rfl, Nat.le_refl _, fun _ => rfl, fun z => by cases z⟩
    · rw [if_neg e1] at hb
      by_cases e0 : 0 = i
      · subst e0
        rw [if_pos rfl] at hb; cases hb
        exact ⟨(0, 1), rfl, h.m0⟩
      · rw [if_neg e0] at hb; cases hb
  · have h1 := (r00_some hp).2
    have h2 := (r00_some hq).2
    omega
  · rw [hn] at hi
    cases e : r00 sg i with
    | none => rfl
    | some p => have := (r00_some e).1; omega
  · have := (r00_some hp).1; omega
  · have h1 := (r00_some hp).1
    have h2 := (r00_some hp).2
    have := h.sz
    omega
  · rw [hn] at hi
    cases e : r00 sg i with
    | none => exact .inl ⟨hi, e⟩
    | some p => exact .inr ⟨p, rfl⟩
  · rw [hn] at hi
    rw [h00_at hL, if_neg (by omega), if_neg (by omega)]
/-- A law's run, with calls told by a table. -/
theorem law_of {T : List (FuncId × Prim)} (hT : ∀ x ∈ T, Pr1 P0 100 x.1 x.2) {f : FuncId} {vs : List AV}
    (hk : callK P0 100 FU (tab T) (dr0 100) 200 f vs h00 (fun v _ => qBool v fun x => ask x true) (fun _ _ => false) = true) {w : World} (hw : Wf w) {sg : Nat → Nat} {xs : List Value} (hxs : reals (r00 sg) vs = some xs) : Calls P0 f xs.toArray w fun e w' => K0 w w' ∧ e = .returned (.bool true) := by
  have hc := callK_ok (P := P0) (fl := 100) (m := FU) (tab_ok hT) (dr0_ok 100) regs0 200
  rcases hc _ _ _ _ _ hk with ⟨v, h', hv, hC⟩ | ⟨_, _, hk, _⟩
  · obtain ⟨b, rfl, hb⟩ := qBool_ok (x := v) hv
    have hb : b = true := (ask_ok (b := b) hb).1
    subst hb
    refine (hC _ w (r00 sg) w xs (rel00 sg hw) hxs).mono ?_
    rintro e w' ⟨r', x, rfl, _, hR', hx⟩
    have := real_bool hx
    subst this
    exact ⟨hR'.kept, rfl⟩
  · cases hk
end Go.Proofs.YtobgdpnjabicmaaGreatDoor.E

set_option linter.constructorNameAsVariable false
set_option linter.unusedVariables false
namespace Go.Proofs.YtobgdpnjabicmaaGreatDoor.E
open Go Go.RowKit H
section
variable {S : Nat → Prop} {w0 : World} {fl : Nat} {r : Ren} {h : Hp} {w : World}
end
structure CutE where
  vs : List AV
  nx : Nat
  l : List (Nat × Blk)
  v : AV
  nx' : Nat
  l' : List (Nat × Blk)
def CutOk (P : Program) (fl : Nat) (f : FuncId) (c : CutE) : Prop := ∀ S w0 r w xs h, Rel S w0 fl r h w → h.next = c.nx → (∀ x ∈ c.l, h.at x.1 = some x.2) → reals r c.vs = some xs → Calls P f xs.toArray w fun e w' => ∃ r' x h', e = .returned x ∧ Ext r r' ∧ Rel S w0 fl r' h' w' ∧ h'.next = c.nx' ∧ (∀ x ∈ c.l', h'.at x.1 = some x.2) ∧ real r' c.v = some x
/-- A state of so many names, of which these are known. -/
noncomputable def litH (nx : Nat) (l : List (Nat × Blk)) (k : Hp → Bool) : Bool := ask (Nat.ble nx LIM) (ask (rngB 0 nx l) (putsH l ⟨nx, .e⟩ k))
noncomputable def litR (nx : Nat) (l : List (Nat × Blk)) (h : Hp) : Bool := Hp.rec (motive := fun _ => Bool) (fun n t => ask (Nat.beq n nx) (agr ⟨n, t⟩ l)) h
noncomputable def cutK (call : CallF) (f : FuncId) (c : CutE) : Bool := CutE.rec (motive := fun _ => Bool) (fun vs nx l v nx' l' => litH nx l fun h => call f vs h (fun u h' => ask (avEq u v) (litR nx' l' h')) (fun _ _ => false)) c
noncomputable def cutP (T : List CutE) : Prim := fun _ vs h kr _ => List.rec (motive := fun _ => Bool) false (fun c _ ih => CutE.rec (motive := fun _ => Bool) (fun vs0 nx l v nx' l' => ife (Nat.beq h.next nx) (ask (avEq (.agg vs) (.agg vs0)) (ask (litR nx l h) (litH nx' l' fun g => kr v g))) ih) c) T
end Go.Proofs.YtobgdpnjabicmaaGreatDoor.E

namespace Go.Proofs.YtobgdpnjabicmaaGreatDoor.E
open Go
noncomputable def c6 (n : Nat) : AV := .int .i64 (.ofNat n)
noncomputable def c8 (n : Nat) : AV := .int .u8 (.ofNat n)
/-- Sectors, one behind the other. -/
noncomputable def sR (i k : Nat) : List AV := Nat.rec (motive := fun _ => Nat → List AV) (fun _ => []) (fun _ ih i => .sl i 0 1024 1024 :: ih (Nat.succ i)) k i
/-- Bytes, and zeros behind them. -/
noncomputable def bZ (l : List Nat) (n : Nat) : List AV := ints l ++ List.replicate n (.int .u8 (.ofNat 0))
end Go.Proofs.YtobgdpnjabicmaaGreatDoor.E

set_option linter.constructorNameAsVariable false
set_option linter.unusedVariables false
namespace Go.Proofs.YtobgdpnjabicmaaGreatDoor.E
open Go Go.RowKit H
attribute [local irreducible] H.CL H.RW H.CW H.Yd H.thenK H.blockQ Go.Calls
/-- Bytes alone. -/
noncomputable def bldH (t2 : TypeId) (s : List Nat) : Hp := (⟨101, .e⟩ : Hp).put 100 (some (.cells t2 true true (ints s)))
theorem bldH_at {t2 : TypeId} {s : List Nat} {i : Nat} (hi : i < LIM) : (bldH t2 s).at i = if 100 = i then some (.cells t2 true true (ints s)) else none := by
  unfold bldH
  rw [Hp.at_put (by decide) hi]
  simp only [Hp.at, Tr.get_e]
def bldR (q : Nat × Nat) : Ren := ⟨fun i => if i = 100 then some q else none, fun i => i < 100, fun _ => 0⟩
theorem bldR_rel {S : Nat → Prop} {w0 w : World} {fl : Nat} {r : Ren} {h : Hp} (hR : Rel S w0 fl r h w) {j : Nat} {q : Nat × Nat} {t2 : TypeId} {op ro : Bool} {s : List Nat} (hq : r j = some q) (hb : h.at j = some (.cells t2 op ro (ints s))) (hs : Bytes s) : Rel (fun _ => False) w 101 (bldR q) (bldH t2 s) w := by
  obtain ⟨c, fz, us, g1, g2, g3, g4, g5, g6, g7⟩ := hR.at hq hb
  have only : ∀ i p, (bldR q) i = some p → i = 100 ∧ p = q := fun i p h => by
    replace h : (if i = 100 then some q else none) = some p := h
    split at h
    · cases h; exact ⟨by assumption, rfl⟩
    · cases h
  refine ⟨fun a b ha hab => ?_, fun a b x y x' y' ha hb hx hy hx' hy' e => ?_, fun a ha => ?_, (show 101 ≤ LIM by decide), fun a x ha hx => ?_, fun a x ha hx => ?_, fun a x hx => ?_, Kept.refl _ _, ⟨Nat.le_refl _, (show GLB ≤ 101 by decide)⟩, fun a ha => ?_, fun a ha => ?_, fun a ha hl => ?_⟩
  · have ha : a < 101 := ha
    rw [bldH_at (Nat.lt_trans ha (by decide))] at hab
    by_cases q1 : 100 = a
    · subst q1
      rw [if_pos rfl] at hab; cases hab
      exact ⟨q, rfl, c, fz, us, g1, g2, by rw [reals_ints hs g3]; exact ints_real hs, g4, g5, (fun z => by cases z), fun z => by cases z⟩
    · rw [if_neg q1] at hab; cases hab
  · rw [(only _ _ hx').1, (only _ _ hy').1]
  · have ha : 101 ≤ a := ha
    show (if a = 100 then some q else none) = none
    rw [if_neg (by omega)]
  · have := (only _ _ hx).1; have ha : a < 100 := ha; omega
  · have := (only _ _ hx).1; omega
  · rw [(only _ _ hx).2]; exact hR.dom _ _ hq
  · have ha : a < 100 := ha
    refine ⟨?_, Nat.lt_trans ha (show 100 < 101 by decide)⟩
    show (if a = 100 then some q else none) = none
    rw [if_neg (by omega)]
  · have ha : a < 101 := ha
    rcases Nat.lt_or_ge a 100 with z | z
    · exact .inl z
    · obtain rfl : a = 100 := by omega
      exact .inr ⟨q, rfl⟩
  · have ha : 101 ≤ a := ha
    rw [bldH_at hl, if_neg (by omega)]
structure BldE where
  pin : AV
  s : List Nat
  v : AV
  L : List Blk
def BldOk (P : Program) (f : FuncId) (t2 : TypeId) (x : BldE) : Prop := ∀ w r, Rel (fun _ => False) w 101 r (bldH t2 x.s) w → ∀ xs, reals r [x.pin, .slx 100 0 x.s.length 1] = some xs → Calls P f xs.toArray w fun e w' => ∃ r2 u, e = .returned u ∧ Rel (fun _ => False) w 101 r2 (x.L.foldl Hp.new (bldH t2 x.s)) w' ∧ real r2 x.v = some u
noncomputable def bldLook (pin : AV) (s : List Nat) (T : List BldE) (k : AV → List Blk → Bool) : Bool := List.rec (motive := fun _ => Bool) false (fun x _ ih => BldE.rec (motive := fun _ => Bool) (fun p s' v L => ife (ifeV (avEq pin p) (sEq s' s) false) (k v L) ih) x) T
theorem bldLook_ok {pin : AV} {s : List Nat} {k : AV → List Blk → Bool} : ∀ {T : List BldE}, bldLook pin s T k = true → ∃ x ∈ T, x.pin = pin ∧ x.s = s ∧ k x.v x.L = true
  | [], h => by cases h
  | ⟨p, s', v, L⟩ :: T, h => by
    rcases ife_ok (b := ifeV (avEq pin p) (sEq s' s) false) h with ⟨hb, h1⟩ | ⟨_, h1⟩
    · obtain ⟨h2, h3⟩ := and_ok hb
      exact ⟨_, List.mem_cons_self, (avEq_ok _ _ h2).symm, sEq_ok h3, h1⟩
    · obtain ⟨x, hx, h2⟩ := bldLook_ok (T := T) h1
      exact ⟨x, List.mem_cons_of_mem _ hx, h2⟩
noncomputable def bldP (t2 : TypeId) (T : List BldE) (vs : List AV) (h : Hp) (kr : KV) : Bool := match vs with
  | [pin, .slx j 0 n 1] => ask (flatA pin) (cellsK h j fun t op ro cs => ask (Nat.beq t t2) (intsK cs fun s => lenK s fun m => ask (Nat.beq n m) (bldLook pin s T fun v L => newsK L (bldH t2 s) fun g => Hp.rec (motive := fun _ => Bool) (fun nx t => canP 101 nx g v fun v' L' => newsK L' ⟨nx, t⟩ fun g' => kr v' g') h)))
  | _ => false
theorem bldP_ok {P : Program} {fl : Nat} {f : FuncId} {t2 : TypeId} {T : List BldE} (hT : ∀ x ∈ T, BldOk P f t2 x) : Pr1 P fl f fun _ vs h kr _ => bldP t2 T vs h kr := by
  intro call _ g vs h kr kp hk
  rcases ife_ok hk with ⟨hb, hk2⟩ | ⟨_, hk2⟩
  · obtain rfl := Nat.eq_of_beq_eq_true hb
    clear hk hb
    replace hk2 : bldP t2 T vs h kr = true := hk2
    unfold bldP at hk2
    split at hk2
    · rename_i pin j n
      obtain ⟨hpin, hk⟩ := ask_ok hk2
      obtain ⟨t, op, ro, cs, hb, hk⟩ := cellsK_ok hk
      obtain ⟨ht, hk⟩ := ask_ok hk
      have ht := Nat.eq_of_beq_eq_true ht
      rw [ht] at hb
      obtain ⟨s, rfl, hs, hk⟩ := intsK_ok hk
      replace hk : lenK s (fun m => ask (Nat.beq n m) (bldLook pin s T fun v L => newsK L (bldH t2 s) fun g => Hp.rec (motive := fun _ => Bool) (fun nx t => canP 101 nx g v fun v' L' => newsK L' ⟨nx, t⟩ fun g' => kr v' g') h)) = true := hk
      rw [lenK_eq] at hk
      obtain ⟨hn, hk⟩ := ask_ok hk
      have hn := Nat.eq_of_beq_eq_true hn
      obtain ⟨x, hx, rfl, rfl, hk⟩ := bldLook_ok hk
      obtain ⟨hk, _⟩ := newsK_ok hk
      cases h with
      | mk nx tr =>
        replace hk : canP 101 nx (x.L.foldl Hp.new (bldH t2 x.s)) x.v (fun v' L' => newsK L' ⟨nx, tr⟩ fun g' => kr v' g') = true := hk
        obtain ⟨v', L', hk, hC⟩ := canP_ok hk
        obtain ⟨hkr, hl⟩ := newsK_ok hk
        refine .inl ⟨v', _, hkr, fun S w0 r w xs hR hxs => ?_⟩
        obtain ⟨u1, us1, hu1, hu2, rfl⟩ := reals_cons.1 hxs
        obtain ⟨u2, hu3, rfl⟩ := reals1 hu2
        obtain ⟨q, hq, hz, ho, hm, rfl⟩ := real_slx hu3
        have hRb := bldR_rel hR hq hb hs
        have rq : bldR q 100 = some q := rfl
        refine (hT x hx w _ hRb _ (reals_cons.2 ⟨u1, _, flat_real _ _ hpin hu1, reals_cons.2 ⟨_, _, ?_, reals_nil, rfl⟩, rfl⟩)).mono ?_
        · rw [← hn]
          simp only [real, rq, Option.bind_some]
          rw [if_pos ⟨hz, ho, hm⟩]
        · rintro e w' ⟨r2, u, rfl, hR2, hu⟩
          obtain ⟨r3, a1, a2, a3⟩ := hC hR rfl hR2 hl hu
          exact ⟨r3, u, rfl, a1, a2, a3⟩
    · cases hk2
  · cases hk2
/-- An entry, evaluated. -/
noncomputable def bldB (x : BldE) (b : Bool) : Bool := BldE.rec (motive := fun _ => Bool) (fun pin s v L => lenK s fun n => lenK L fun m => ask (Nat.ble m 1000000) (bodyW 0 P0 101 FU (wc1 101) (dr0 101) (call1 101) 229 [pin, .slx 100 0 n 1] (bldH 5 s) fun v' h' => canP 101 101 h' v' fun v3 L3 => ask (avEq v3 v) (ask (blksEq L3 L) b))) x
theorem bldB_ok (hs : SumsOk) {x : BldE} (hk : bldB x true = true) : BldOk P0 229 5 x := by
  obtain ⟨pin, s, v, L⟩ := x
  replace hk : lenK s (fun n => lenK L fun m => ask (Nat.ble m 1000000) (bodyW 0 P0 101 FU (wc1 101) (dr0 101) (call1 101) 229 [pin, .slx 100 0 n 1] (bldH 5 s) fun v' h' => canP 101 101 h' v' fun v3 L3 => ask (avEq v3 v) (ask (blksEq L3 L) true))) = true := hk
  rw [lenK_eq, lenK_eq] at hk
  obtain ⟨hm, hk⟩ := ask_ok hk
  have hm := ble_le hm
  intro w r hR xs hxs
  refine (bodyW_ok (call1_ok hs 101) (wc1_ok hs 101) (fun n call h => .of (dr0_ok 101 n call h)) (regs0 _) hk _ _ r w xs hR hxs).mono ?_
  rintro e w' ⟨v', h', r', u, hv, rfl, hx, hR', hxv⟩
  obtain ⟨v3, L3, hv, hC⟩ := canP_ok hv
  obtain ⟨q1, hv⟩ := ask_ok hv
  obtain ⟨q2, _⟩ := ask_ok hv
  obtain rfl := avEq_ok _ _ q1
  obtain rfl := blksEq_ok q2
  obtain ⟨r2, a1, a2, a3⟩ := hC hR rfl hR' (fun i hi => by have : LIM = 1099511627776 := rfl; omega) hxv
  exact ⟨r2, u, rfl, a2, a3⟩
/-- A law's first words: they are true wherever the library's variables are what they are. -/
def KnOk : Prop := ∀ (w : World), (∃ m, w.cell? ⟨0, 0, none⟩ = some (.int .i64 m)) → (∃ fz, w.heap[1]? = some (.cells #[rT 202] 442 fz)) → 9 < w.heap.size → Calls P0 5 #[] w fun e w' => K0 w w' ∧ e = .returned (.bool true)
noncomputable def knP (vs : List AV) (h : Hp) (k : AV → Bool) : Bool := match vs with
  | [] => ask (agr h [(0, .ints), (1, .cells 442 false true [.ifc 513 (.agg [.ptr 9 202])])]) (k (.bool true))
  | _ => false
theorem knP_ok {fl : Nat} (hK : KnOk) : Pr1 P0 fl 5 fun _ vs h kr _ => knP vs h fun v => kr v h := by
  refine Pr1.val fun vs h k hk => ?_
  unfold knP at hk
  split at hk
  · obtain ⟨h1, hk⟩ := ask_ok hk
    have hA := agr_ok h1
    have a0 := hA _ List.mem_cons_self
    have a1 := hA _ (List.mem_cons_of_mem _ List.mem_cons_self)
    refine ⟨_, hk, fun S w0 r w xs hR hxs => ?_⟩
    rw [reals_nil] at hxs; cases hxs
    have big := hR.base.2
    obtain ⟨p, hp, m, hm⟩ := hR.live 0 _ (by have : GLB = 100 := rfl; omega) a0
    obtain ⟨q, hq, c, fz, us, g1, g2, g3, g4, g5, g6, g7⟩ := hR.live 1 _ (by have : GLB = 100 := rfl; omega) a1
    have p0 := hR.glob 0 p (by decide) hp
    have q0 := hR.glob 1 q (by decide) hq
    obtain ⟨u, hu, rfl⟩ := reals1 g3
    obtain ⟨x, hx, rfl⟩ := real_ifc hu
    simp only [real, Option.map_eq_some_iff] at hx
    obtain ⟨ys, hys, rfl⟩ := hx
    obtain ⟨y, hy, rfl⟩ := reals1 hys
    obtain ⟨z, hz, rfl⟩ := real_ptr hy
    have z0 := hR.glob 9 z (by decide) hz
    have hd := hR.dom _ _ hz
    rw [p0] at hm
    rw [q0] at g1
    refine (hK w ⟨m, hm⟩ ⟨fz, ?_⟩ (by omega)).mono ?_
    · rw [g1]
      have e1 : c.toList = [.iface 513 (.agg #[.pointer (some ⟨z.1, 202, none⟩)])] := by
        have h5 : c.size = 1 := by
          have := g6 rfl
          rw [g2, ← this]; rfl
        have : c.toList.take 1 = c.toList := List.take_of_length_le (by simp [h5])
        rw [← this]
        exact g4.symm
      have e2 : c = #[rT 202] := by
        apply Array.ext'
        rw [e1, z0]
        rfl
      rw [e2]
    · rintro e w' ⟨k, rfl⟩
      exact ⟨_, rfl, k, rfl⟩
  · cases hk
end Go.Proofs.YtobgdpnjabicmaaGreatDoor.E

