/-
  slices.Sorted(maps.Keys(m)), as an evaluator sees it. slices.Sorted(maps.Keys(m)) among the functions that are told by themselves. slices.Sorted(maps.Keys(m)) where the keys are integers; the closures over keys that are laid. Functions that yield a row they have made, in whatever order the parts of it came: its blocks are given names in one order. Regions that draw their order and end in writes: what is read before the writes yields what it yields in every world before them. Rows whose beginning was cut off, and that go on growing. disk.New: a disk of many sectors, as an evaluator sees it. disk.New among the functions that are told by themselves. maps.Clone. errors.As, errors.Is at the errors of this program. errors.As, errors.Is: the walks. errors.As: the walk of the outer function. errors.As: the walk of the outer function, in whole. errors.Is: the walk. errors.As, errors.Is among the functions that are told by themselves. stage.run: a region that fills a map literal in either order.
-/
import Derived.Test.YtoafcnecjgnbmaaGreatDoorVf
import Derived.Sort.Walk0
import Derived.Test.YtoafcnecjgnbmaaGreatDoorVe
import Derived.Laws.Externs
import Derived.MapKept
import Derived.Shelf.SlMaps.Clone
import Derived.Stop.Asserts
import Derived.Stop.IfaceNil
import Derived.Lib.IfaceEq
set_option linter.unusedVariables false
set_option linter.unusedSimpArgs false
set_option linter.constructorNameAsVariable false
set_option linter.unusedVariables false
namespace Go.Proofs.YtoafcnecjgnbmaaGreatDoor.E
open Go Go.RowKit Go.Maps Go.Sort Go.Shelf H
attribute [local irreducible] H.CL H.RW H.CW H.Yd H.thenK H.blockQ Go.Calls
/-! Lists in order. -/
section
variable {α : Type}
noncomputable def insL (lt : α → α → Bool) (x : α) (l : List α) : (List α → Bool) → Bool := List.rec (motive := fun _ => (List α → Bool) → Bool) (fun k => k [x]) (fun y t ih k => ife (lt y x) (ih fun r => k (y :: r)) (k (x :: y :: t))) l
theorem insL_ok {lt : α → α → Bool} {x : α} : ∀ {l : List α} {k : List α → Bool}, insL lt x l k = true → ∃ r, k r = true ∧ r.Perm (x :: l)
  | [], k, h => ⟨[x], h, .refl _⟩
  | y :: t, k, h => by
    rcases ife_ok (b := lt y x) h with ⟨_, h⟩ | ⟨_, h⟩
    · obtain ⟨r, h1, h2⟩ := insL_ok (l := t) h
      exact ⟨_, h1, (h2.cons y).trans (.swap x y t)⟩
    · exact ⟨_, h, .refl _⟩
noncomputable def srtL (lt : α → α → Bool) (l : List α) : (List α → Bool) → Bool := List.rec (motive := fun _ => (List α → Bool) → Bool) (fun k => k []) (fun x _ ih k => ih fun r => insL lt x r k) l
theorem srtL_ok {lt : α → α → Bool} : ∀ {l : List α} {k : List α → Bool}, srtL lt l k = true → ∃ r, k r = true ∧ r.Perm l
  | [], k, h => ⟨[], h, .refl _⟩
  | x :: l, k, h => by
    obtain ⟨r, h1, h2⟩ := srtL_ok (l := l) (k := fun r => insL lt x r k) h
    obtain ⟨q, h3, h4⟩ := insL_ok h1
    exact ⟨q, h3, h4.trans (h2.cons x)⟩
noncomputable def ascL (lt : α → α → Bool) (l : List α) : Bool := List.rec (motive := fun _ => Bool) true (fun x t ih => List.rec (motive := fun _ => Bool) true (fun y _ _ => ask (lt x y) ih) t) l
theorem ascL_ok {lt : α → α → Bool} {R : α → α → Prop} (tr : ∀ x y z, R x y → R y z → R x z) : ∀ {l : List α}, (∀ x ∈ l, ∀ y ∈ l, lt x y = true → R x y) → ascL lt l = true → l.Pairwise R
  | [], _, _ => .nil
  | [x], _, _ => by simp
  | x :: y :: t, hR, h => by
    obtain ⟨h1, h2⟩ := ask_ok (b := lt x y) h
    have ih := ascL_ok tr (l := y :: t) (fun a ha b hb => hR a (List.mem_cons_of_mem _ ha) b (List.mem_cons_of_mem _ hb)) h2
    have hxy := hR x List.mem_cons_self y (List.mem_cons_of_mem _ List.mem_cons_self) h1
    refine List.pairwise_cons.2 ⟨fun z hz => ?_, ih⟩
    rcases List.mem_cons.1 hz with rfl | hz
    · exact hxy
    · exact tr _ _ _ hxy ((List.pairwise_cons.1 ih).1 z hz)
end
noncomputable def strsK (x : List AV) : (List (List Nat) → Bool) → Bool := List.rec (motive := fun _ => (List (List Nat) → Bool) → Bool) (fun k => k []) (fun a _ ih k => qStr a fun s => lenK s fun n => ask (Nat.ble n 1000000) (ih fun l => k (s :: l))) x
theorem strsK_ok : ∀ {x : List AV} {k : List (List Nat) → Bool}, strsK x k = true → ∃ l, x = l.map AV.str ∧ (∀ s ∈ l, s.length ≤ 1000000) ∧ k l = true
  | [], k, h => ⟨[], rfl, (fun s hs => by cases hs), h⟩
  | a :: x, k, h => by
    obtain ⟨s, rfl, h⟩ := qStr_ok (x := a) h
    replace h : lenK s (fun n => ask (Nat.ble n 1000000) (strsK x fun l => k (s :: l))) = true := h
    rw [lenK_eq] at h
    obtain ⟨hn, h⟩ := ask_ok h
    obtain ⟨l, rfl, hl, h⟩ := strsK_ok (x := x) h
    refine ⟨s :: l, rfl, fun y hy => ?_, h⟩
    rcases List.mem_cons.1 hy with rfl | hy
    · exact ble_le hn
    · exact hl y hy
theorem reals_strs {r : Ren} : ∀ {l : List (List Nat)} {us : List Value}, reals r (l.map AV.str) = some us → us = (l.map textOf).map encStr ∧ ∀ s ∈ l, Bytes s
  | [], us, h => by
    rw [List.map_nil, reals_nil] at h; cases h
    exact ⟨rfl, fun s hs => by cases hs⟩
  | s :: l, us, h => by
    obtain ⟨u, t, hu, ht, rfl⟩ := reals_cons.1 h
    obtain ⟨hb, rfl⟩ := real_str hu
    obtain ⟨rfl, h2⟩ := reals_strs ht
    refine ⟨rfl, fun x hx => ?_⟩
    rcases List.mem_cons.1 hx with rfl | hx
    · exact hb
    · exact h2 x hx
theorem strs_real {r : Ren} : ∀ {l : List (List Nat)}, (∀ s ∈ l, Bytes s) → reals r (l.map AV.str) = some ((l.map textOf).map encStr)
  | [], _ => reals_nil
  | s :: l, h => reals_cons.2 ⟨_, _, str_real (h s List.mem_cons_self), strs_real fun x hx => h x (List.mem_cons_of_mem _ hx), rfl⟩
/-- The map that an iterator over keys holds in its box. -/
noncomputable def keysOf (gs : List FuncId) (h : Hp) (v : AV) (k : AV → Bool) : Bool := match v with
  | .fn (.func g) [] [.ptr i 0] => ask (memN g gs) (cellsK h i fun _ _ _ cs => nthK cs 0 k)
  | _ => false
theorem memN_in {j : Nat} {l : List Nat} (h : memN j l = true) : j ∈ l := by
  rw [memN_eq] at h; simpa using h
noncomputable def sortedS (ty : TypeId) (gs : List FuncId) (vs : List AV) (h : Hp) (k : KV) : Bool := one1 vs fun v => keysOf gs h v fun m => match m with
  | .nilm => k .nils h
  | .map j => mapK h j fun ks _ _ _ => strsK ks fun l => srtL sLt l fun r => ask (ascL sLt r) (lenK r fun n => ask (Nat.ble n 1000000) (ife (Nat.beq n 0) (k .nils h) (newH h (.cells ty true false (r.map AV.str)) fun i h => k (.slx i 0 n 1) h)))
  | _ => false
theorem map_both {α β γ δ : Type} {f : α → β} {g : α → γ} {enc : δ → β} {lt : δ → γ} : ∀ {l : List α} {ks : List δ}, l.map f = ks.map enc → (∀ e ∈ l, ∀ x ∈ ks, f e = enc x → g e = lt x) → l.map g = ks.map lt
  | [], [], _, _ => rfl
  | [], _ :: _, h, _ => by cases h
  | _ :: _, [], h, _ => by cases h
  | e :: l, x :: ks, h, hg => by
    rw [List.map_cons, List.map_cons] at h
    injection h with h1 h2
    rw [List.map_cons, List.map_cons, hg e List.mem_cons_self x List.mem_cons_self h1, map_both h2 fun e he x hx => hg e (List.mem_cons_of_mem _ he) x (List.mem_cons_of_mem _ hx)]
abbrev RN : Value → Option (DataW Unit × List MemPlace) := fun _ => some (.nil, [])
theorem own_of {α : Type} {enc : α → Value} {lt : α → Lit} {K : TypeId} {w : World} {b : Nat} {en : Array MapEntry} {ck : Nat} {ks : List α} (hk : ∀ x ∈ ks, keyOf Tryz.prog K (enc x) = some (lt x)) (hb : w.heap[b]? = some (.map en ck)) (hks : en.toList.map (·.key) = ks.map enc) (hnd : (ks.map enc).Nodup) (h1 : (en.toList.map (·.born)).Pairwise (· < ·)) (h2 : ∀ e ∈ en.toList, e.born < ck) (hl : ks.length ≤ 1000000) :
    ∃ D : List (Lit × DataW Unit), w.ownsMap Tryz.prog K RN b en.size (.map D) ∧ (D.map (·.1)).Perm (ks.map lt) ∧ D.length = ks.length := by
  have hsz : en.size = ks.length := by have := congrArg List.length hks; simpa using this
  have hkey : ∀ e ∈ en.toList, ∃ x ∈ ks, e.key = enc x := fun e he => by
    have : e.key ∈ ks.map enc := hks ▸ List.mem_map.2 ⟨e, he, rfl⟩
    obtain ⟨x, hx, q⟩ := List.mem_map.1 this
    exact ⟨x, hx, q.symm⟩
  have hrd : ∀ e ∈ en.toList, ∀ x ∈ ks, e.key = enc x → WideElems.rd Tryz.prog K RN e = some (lt x, .nil) := fun e he x hx q => by
    simp only [WideElems.rd, q, hk x hx, Option.bind_some, Option.map_some]
  refine ⟨_, ⟨en, ck, hb, ⟨by rw [hsz]; exact Nat.le_trans hl (by simp [maxLen]), ⟨h2, h1.imp (fun h => Nat.ne_of_lt h), by rw [hks]; exact hnd⟩, fun e he => ?_⟩, Nat.le_refl _, rfl⟩, ?_, ?_⟩
  · obtain ⟨x, hx, q⟩ := hkey e he
    exact ⟨_, hrd e he x hx q⟩
  · refine ((WideShapes.sorted_perm _).map _).trans ?_
    rw [List.map_map]
    rw [map_both hks fun e he x hx q => by
      show (WideElems.rg Tryz.prog K RN e).1 = lt x
      rw [WideElems.rg_of (hrd e he x hx q)]]
  · rw [length_sorted, List.length_map, Array.length_toList, hsz]
/-- What is asked of slices.Sorted at an iterator over keys. -/
def SrtA {α : Type} (P : Program) (enc : α → Value) (le : α → α → Bool) (ok : α → Prop) (f g : FuncId) (ty : TypeId) : Prop := (∀ (w : World) (Bm : Nat), w.cell? ⟨Bm, 0, none⟩ = some (.map none) → Calls P f #[.func (.func g) #[] #[.pointer (some ⟨Bm, 0, none⟩)]] w fun e w' => e = .returned (.slice none 0 0) ∧ K0 w w') ∧
  ∀ (w : World) (Bm b : Nat) (en : Array MapEntry) (ck : Nat) (ks : List α), w.cell? ⟨Bm, 0, none⟩ = some (.map (some b)) → w.heap[b]? = some (.map en ck) → en.toList.map (·.key) = ks.map enc → (ks.map enc).Nodup → (en.toList.map (·.born)).Pairwise (· < ·) → (∀ e ∈ en.toList, e.born < ck) → ks.length ≤ 1000000 → (∀ s ∈ ks, ok s) →
    Calls P f #[.func (.func g) #[] #[.pointer (some ⟨Bm, 0, none⟩)]] w fun e w' => ∃ (v : Value) (ss : List α), e = .returned v ∧ ss.Perm ks ∧ w'.ownsRow w.heap.size ty 1 v ss.length ((ss.mergeSort le).map enc) ∧ (v = .slice none 0 0 ↔ ss = []) ∧ K0 w w'
abbrev leS : List UInt8 → List UInt8 → Bool := fun x y => decide (x ≤ y)
abbrev leZ : Int → Int → Bool := fun x y => decide (x ≤ y)
theorem cell_lt {w : World} {p : Nat} {v : Value} (h : w.cell? ⟨p, 0, none⟩ = some v) : p < w.heap.size := by
  rcases Nat.lt_or_ge p w.heap.size with c | c
  · exact c
  · simp [World.cell?, Array.getElem?_eq_none c] at h
theorem sorts103 (m : Nat) : AnyZ.SortsIn Tryz.prog Tryz.sorted101_ren Fence.wide m :=
  ⟨fun blk off cap ss W hH hblk hsz => callsIn_wide.2 (AnyM.slices_Sort_string Tryz.sort157 blk off cap ss W hH hblk hsz),
   fun p cap W => callsIn_wide.2 (AnyM.slices_Sort_string_none Tryz.sort157 p cap W)⟩
theorem sorts239 (m : Nat) : AnyZI.SortsIn Tryz.prog Tryz.sorted237_ren Fence.wide m :=
  ⟨fun blk off cap ss W hH hblk hsz => callsIn_wide.2 (AnyM.slices_Sort_int Tryz.sort320 blk off cap ss W hH hblk hsz),
   fun p cap W => callsIn_wide.2 (AnyM.slices_Sort_int_none Tryz.sort320 p cap W)⟩
set_option maxHeartbeats 1000000 in
theorem srtS {ρ : Shelf.Ren} (L : SlLaysZ.n10 Tryz.prog ρ) (hK : ρ.t 26 = 9) {g : FuncId} (hg : ρ.f 10 = g) (eg : ∀ args w, (callFunc g args).run Tryz.prog w = .ok (.enter g args) w) : SrtA Tryz.prog encStr leS (fun s => s.length ≤ maxLen) 101 g 9 := by
  subst hg
  refine ⟨fun w Bm hm => ?_, fun w Bm b en ck ks hm hb hks hnd h1 h2 hl hs => ?_⟩
  · have hseq := AnyZ.keys_gives_nil L Fence.wide 2 trivial rfl Bm w (cell_lt hm) hm
    refine (callsIn_wide.1 (AnyZ.sorted_in Tryz.sorted101 Fence.wide 5 trivial trivial trivial trivial rfl (by omega) (sorts103 _) (enters_of Tryz.func157 (by kernel_rfl) rfl) _ _ trivial eg _ 0 (Nat.zero_le _) (by omega) _ hseq)).mono ?_
    rintro e w' ⟨v, ss, rfl, hss, hrow, hnil, hB⟩
    exact ⟨by rw [hnil.2 hss], Kept.of_below hB⟩
  · obtain ⟨D, hown, hD, hDl⟩ := own_of (lt := fun s => .string s) (K := 9) (fun x hx => WideMaps.keyOf_string_mk (s := ⟨x.toArray⟩) (by kernel_rfl) (hs x hx)) hb hks hnd h1 h2 hl
    have hseq := AnyZ.keys_gives L Fence.wide 2 trivial rfl (by omega) Bm b en.size _ w (cell_lt hm) hm (by rw [hK]; exact hown)
    have hszD : Maps.size (.map D : DataW Unit) = ks.length := hDl
    refine (callsIn_wide.1 (AnyZ.sorted_in Tryz.sorted101 Fence.wide 5 trivial trivial trivial trivial rfl (by omega) (sorts103 _) (enters_of Tryz.func157 (by kernel_rfl) rfl) _ _ trivial eg _ _ (by rw [hszD]; exact Nat.le_trans hl (by simp [maxLen])) (by rw [hszD]; omega) _ hseq)).mono ?_
    rintro e w' ⟨v, ss, rfl, hss, hrow, hnil, hB⟩
    refine ⟨v, ss, rfl, hss.trans ?_, hrow, hnil, Kept.of_below hB⟩
    have := hD.map _root_.Go.strOf
    simp only [List.map_map] at this
    refine List.Perm.trans (List.Perm.of_eq ?_) (this.trans (List.Perm.of_eq ?_))
    · rfl
    · rw [show (_root_.Go.strOf ∘ fun s => Lit.string s) = id from rfl, List.map_id]
set_option maxHeartbeats 1000000 in
theorem srtZ {ρ : Shelf.Ren} (L : SlLaysZI.n10 Tryz.prog ρ) (hK : ρ.t 26 = 3) {g : FuncId} (hg : ρ.f 10 = g) (eg : ∀ args w, (callFunc g args).run Tryz.prog w = .ok (.enter g args) w) : SrtA Tryz.prog encZ leZ (fun n => 0 ≤ n ∧ n ≤ 1000000) 237 g 3 := by
  subst hg
  refine ⟨fun w Bm hm => ?_, fun w Bm b en ck ks hm hb hks hnd h1 h2 hl hs => ?_⟩
  · have hseq := AnyZI.keys_gives_nil L Fence.wide 2 trivial rfl Bm w (cell_lt hm) hm
    refine (callsIn_wide.1 (AnyZI.sorted_in Tryz.sorted237 Fence.wide 5 trivial trivial trivial trivial rfl (by omega) (sorts239 _) (enters_of Tryz.func320 (by kernel_rfl) rfl) _ _ trivial eg _ 0 (Nat.zero_le _) (by omega) _ hseq)).mono ?_
    rintro e w' ⟨v, ss, rfl, hss, hrow, hnil, hB⟩
    exact ⟨by rw [hnil.2 hss], Kept.of_below hB⟩
  · obtain ⟨D, hown, hD, hDl⟩ := own_of (lt := fun s => .int .i64 s) (K := 3) (fun x hx => keyOf_int_mk (by kernel_rfl) (by have := hs x hx; simp [Lit.wf, IntKind.min, IntKind.max, IntKind.signed, IntKind.bits]; omega)) hb hks hnd h1 h2 hl
    have hseq := AnyZI.keys_gives L Fence.wide 2 trivial rfl (by omega) Bm b en.size _ w (cell_lt hm) hm (by rw [hK]; exact hown)
    have hszD : Maps.size (.map D : DataW Unit) = ks.length := hDl
    refine (callsIn_wide.1 (AnyZI.sorted_in Tryz.sorted237 Fence.wide 5 trivial trivial trivial trivial rfl (by omega) (sorts239 _) (enters_of Tryz.func320 (by kernel_rfl) rfl) _ _ trivial eg _ _ (by rw [hszD]; exact Nat.le_trans hl (by simp [maxLen])) (by rw [hszD]; omega) _ hseq)).mono ?_
    rintro e w' ⟨v, ss, rfl, hss, hrow, hnil, hB⟩
    refine ⟨v, ss, rfl, hss.trans ?_, hrow, hnil, Kept.of_below hB⟩
    have := hD.map _root_.Go.intOf
    simp only [List.map_map] at this
    refine List.Perm.trans (List.Perm.of_eq ?_) (this.trans (List.Perm.of_eq ?_))
    · rfl
    · rw [show (_root_.Go.intOf ∘ fun s => Lit.int .i64 s) = id from rfl, List.map_id]
end Go.Proofs.YtoafcnecjgnbmaaGreatDoor.E

set_option linter.constructorNameAsVariable false
set_option linter.unusedVariables false
namespace Go.Proofs.YtoafcnecjgnbmaaGreatDoor.E
open Go Go.RowKit Go.Maps Go.Sort Go.Shelf H
attribute [local irreducible] H.CL H.RW H.CW H.Yd H.thenK H.blockQ Go.Calls
theorem keysOf_ok {gs : List FuncId} {h : Hp} {v : AV} {k : AV → Bool} (hk : keysOf gs h v k = true) : ∃ g i m, v = .fn (.func g) [] [.ptr i 0] ∧ g ∈ gs ∧ k m = true ∧ ∃ t o ro cs, h.at i = some (.cells t o ro cs) ∧ cs[0]? = some m := by
  unfold keysOf at hk
  split at hk
  · rename_i g i
    obtain ⟨hg, hk⟩ := ask_ok hk
    obtain ⟨t, o, ro, cs, hb, hk⟩ := cellsK_ok hk
    obtain ⟨m, hm, hk⟩ := nthK_ok hk
    exact ⟨g, i, m, rfl, memN_in hg, hk, t, o, ro, cs, hb, hm⟩
  · cases hk
theorem row_new {S : Nat → Prop} {w0 : World} {fl : Nat} {r : Ren} {h : Hp} {w w' : World} {ty : TypeId} {v : Value} {n : Nat} {us : List Value} {l : List AV} (hR : Rel S w0 fl r h w) (hl : h.next < LIM) (hk : K0 w w') (ho : w'.ownsRow w.heap.size ty 1 v n us) (hn : n ≠ 0) (hln : l.length = n) (hus : ∀ r', reals r' l = some us) :
    ∃ r', Ext r r' ∧ Rel S w0 fl r' (h.new (.cells ty true false l)) w' ∧ real r' (.slx h.next 0 n 1) = some v := by
  rcases ho.2 with ⟨_, z⟩ | ⟨g, cap, cur, rfl, hbase, hg, r1, r2, r3, r4⟩
  · exact absurd z hn
  · rw [Nat.mul_one] at r3 r4
    have hx := upd_ext hR (g, cap)
    refine ⟨upd r h.next (g, cap), hx, hR.new hl hk hbase ⟨cur, (0, 0), us, hg, r3, hus _, by rw [hln]; exact r4.symm, by rw [hln]; exact r1, (fun z => by cases z), fun _ => .inl rfl⟩, ?_⟩
    simp only [real, upd_same, Option.bind_some, Nat.zero_add, Nat.mul_one, Nat.sub_zero, Nat.div_one]
    rw [if_pos ⟨Nat.one_pos, r1, r2⟩]
theorem sorted_eq {l r : List (List UInt8)} (hp : l.Perm r) (hr : r.Pairwise (· < ·)) : l.mergeSort leS = r := by
  rw [show l.mergeSort leS = r.mergeSort leS from _root_.Go.mergeSort_of_perm hp]
  refine List.mergeSort_of_pairwise (hr.imp fun {a b} hab => ?_)
  simpa [leS] using List.le_of_lt hab
theorem sortedS_ok {fl : Nat} {gs : List FuncId} (hg : ∀ g ∈ gs, SrtA Tryz.prog encStr leS (fun s => s.length ≤ maxLen) 101 g 9) : Pr1 Tryz.prog fl 101 fun _ vs h kr _ => sortedS 9 gs vs h kr := by
  refine Pr1.mem fun ps h k hk => ?_
  obtain ⟨v, rfl, hk1⟩ := one1_ok hk
  clear hk
  obtain ⟨g, i, m, rfl, hgm, hk2, t, o, ro, cs, hb, hm⟩ := keysOf_ok hk1
  clear hk1
  obtain ⟨hnil, hmap⟩ := hg g hgm
  have arg : ∀ {S : Nat → Prop} {w0 : World} {r : Ren} {w : World} {xs : List Value}, Rel S w0 fl r h w → reals r [.fn (.func g) [] [.ptr i 0]] = some xs → ∃ p, r i = some p ∧ xs = [.func (.func g) #[] #[.pointer (some ⟨p.1, 0, none⟩)]] ∧ ∃ u, real r m = some u ∧ w.cell? ⟨p.1, 0, none⟩ = some u := by
    intro S w0 r w xs hR hxs
    obtain ⟨x, hx, rfl⟩ := reals1 hxs
    obtain ⟨a, b, ha, hb2, rfl⟩ := real_fn hx
    rw [reals_nil] at ha; cases ha
    obtain ⟨y, hy, rfl⟩ := reals1 hb2
    obtain ⟨p, hp, rfl⟩ := real_ptr hy
    obtain ⟨c, fz, us, e1, e2, e3, _⟩ := hR.at hp hb
    obtain ⟨u, hu, hur⟩ := reals_at e3 hm
    exact ⟨p, hp, rfl, u, hur, cell_of (hR.at hp hb) e3 hu⟩
  split at hk2
  · refine ⟨_, _, hk2, fun S' w0 r w xs hR hxs => ?_⟩
    obtain ⟨p, hp, rfl, u, hu, hc⟩ := arg hR hxs
    cases hu
    refine (hnil w p.1 hc).mono ?_
    rintro e w' ⟨rfl, k'⟩
    exact ⟨r, _, rfl, Ext.refl r, hR.same k', rfl⟩
  · rename_i j
    obtain ⟨ks, vs, bs, ck, hbj, hk3⟩ := mapK_ok hk2
    obtain ⟨l, rfl, hll, hk4⟩ := strsK_ok hk3
    obtain ⟨q, hk5, hperm⟩ := srtL_ok hk4
    obtain ⟨hasc, hk6⟩ := ask_ok hk5
    replace hk6 : lenK q (fun n => ask (Nat.ble n 1000000) (ife (Nat.beq n 0) (k .nils h) (newH h (.cells 9 true false (q.map AV.str)) fun i h => k (.slx i 0 n 1) h))) = true := hk6
    rw [lenK_eq] at hk6
    obtain ⟨hlen, hk7⟩ := ask_ok hk6
    have hlen := ble_le hlen
    have main : ∀ {S : Nat → Prop} {w0 : World} {r : Ren} {w : World} {xs : List Value}, Rel S w0 fl r h w → reals r [.fn (.func g) [] [.ptr i 0]] = some xs → (∀ r', reals r' (q.map AV.str) = some ((q.map textOf).map encStr)) ∧ Calls Tryz.prog 101 xs.toArray w fun e w' => ∃ v, e = .returned v ∧ K0 w w' ∧ w'.ownsRow w.heap.size 9 1 v q.length ((q.map textOf).map encStr) ∧ (q.length = 0 → v = .slice none 0 0) := by
      intro S w0 r w xs hR hxs
      obtain ⟨p, hp, rfl, u, hu, hc⟩ := arg hR hxs
      obtain ⟨p2, hp2, rfl⟩ := real_map hu
      obtain ⟨en, c, e1, e2, e3, e4, e5, e6, rfl⟩ := hR.at hp2 hbj
      obtain ⟨hks, hbl⟩ := reals_strs e2
      have hbq : ∀ s ∈ q, Bytes s := fun s hs => hbl s (hperm.mem_iff.1 hs)
      have hpw : (q.map textOf).Pairwise (· < ·) := List.pairwise_map.2 (ascL_ok (R := fun x y => textOf x < textOf y) (fun x y z => List.lt_trans) (fun x hx y hy hxy => by
        rw [sLt_eq (hbq x hx) (hbq y hy), bytesLess_eq] at hxy
        simpa using hxy) hasc)
      have hpt : (l.map textOf).Perm (q.map textOf) := (hperm.symm).map _
      have hnd : (l.map textOf).Nodup := hpt.nodup_iff.2 (hpw.imp fun {a b} (hab : a < b) (e : a = b) => List.lt_irrefl a (by rw [← e] at hab; exact hab))
      have hlq : q.length = l.length := hperm.length_eq
      refine ⟨fun r' => strs_real hbq, (hmap w p.1 p2.1 en c (l.map textOf) hc e1 hks (List.pairwise_map.2 (hnd.imp fun {a b} (hab : a ≠ b) e => hab (_root_.Go.encStr_inj e))) e4 e5 (by rw [List.length_map]; omega) ?_).mono ?_⟩
      · intro x hx
        obtain ⟨y, hy, rfl⟩ := List.mem_map.1 hx
        rw [text_len]
        exact Nat.le_trans (hll y hy) (by simp [maxLen])
      · rintro e w' ⟨v, ss, rfl, hss, hrow, hn, hK⟩
        rw [sorted_eq (hss.trans hpt) hpw] at hrow
        have hsl : ss.length = q.length := by rw [hss.length_eq, List.length_map, hlq]
        rw [hsl] at hrow
        exact ⟨v, rfl, hK, hrow, fun z => hn.2 (List.eq_nil_of_length_eq_zero (hsl.trans z))⟩
    rcases ife_ok hk7 with ⟨h0, hk8⟩ | ⟨h0, hk8⟩
    · refine ⟨_, _, hk8, fun S' w0 r w xs hR hxs => (main hR hxs).2.mono ?_⟩
      rintro e w' ⟨v, rfl, hK, _, hn⟩
      exact ⟨r, _, rfl, Ext.refl r, hR.same hK, by rw [hn (Nat.eq_of_beq_eq_true h0)]; rfl⟩
    · obtain ⟨hl, hk9⟩ := newH_ok hk8
      refine ⟨_, _, hk9, fun S' w0 r w xs hR hxs => (main hR hxs).2.mono ?_⟩
      rintro e w' ⟨v, rfl, hK, hrow, _⟩
      obtain ⟨r', a1, a2, a3⟩ := row_new hR hl hK hrow (fun z => by rw [z] at h0; simp at h0) (by simp) (main hR hxs).1
      exact ⟨r', v, rfl, a1, a2, a3⟩
  · cases hk2
end Go.Proofs.YtoafcnecjgnbmaaGreatDoor.E

set_option linter.constructorNameAsVariable false
set_option linter.unusedVariables false
namespace Go.Proofs.YtoafcnecjgnbmaaGreatDoor.E
open Go Go.RowKit Go.Maps Go.Sort Go.Shelf H
attribute [local irreducible] H.CL H.RW H.CW H.Yd H.thenK H.blockQ Go.Calls
noncomputable def intsZ (x : List AV) : (List Int → Bool) → Bool := List.rec (motive := fun _ => (List Int → Bool) → Bool) (fun k => k []) (fun a _ ih k => qInt a fun i n => ask (kEq i .i64) (ask (not (iLt n 0)) (ask (not (iLt 1000000 n)) (ih fun l => k (n :: l))))) x
theorem intsZ_ok : ∀ {x : List AV} {k : List Int → Bool}, intsZ x k = true → ∃ l, x = l.map (AV.int .i64) ∧ (∀ n ∈ l, 0 ≤ n ∧ n ≤ 1000000) ∧ k l = true
  | [], k, h => ⟨[], rfl, (fun s hs => by cases hs), h⟩
  | a :: x, k, h => by
    obtain ⟨i, n, rfl, h1⟩ := qInt_ok (x := a) h
    obtain ⟨hi, h2⟩ := ask_ok h1
    obtain rfl := kEq_ok hi
    obtain ⟨g1, h3⟩ := ask_ok h2
    obtain ⟨g2, h4⟩ := ask_ok h3
    rw [iLt_eq] at g1 g2
    obtain ⟨l, rfl, hl, h5⟩ := intsZ_ok (x := x) h4
    refine ⟨n :: l, rfl, fun y hy => ?_, h5⟩
    rcases List.mem_cons.1 hy with rfl | hy
    · simp at g1 g2; exact ⟨by omega, by omega⟩
    · exact hl y hy
theorem reals_ints64 {r : Ren} : ∀ {l : List Int}, reals r (l.map (AV.int .i64)) = some (l.map encZ)
  | [] => reals_nil
  | n :: l => reals_cons.2 ⟨_, _, rfl, reals_ints64, rfl⟩
noncomputable def sortedI (ty : TypeId) (gs : List FuncId) (vs : List AV) (h : Hp) (k : KV) : Bool := one1 vs fun v => keysOf gs h v fun m => match m with
  | .nilm => k .nils h
  | .map j => mapK h j fun ks _ _ _ => intsZ ks fun l => srtL iLt l fun r => ask (ascL iLt r) (lenK r fun n => ask (Nat.ble n 1000000) (ife (Nat.beq n 0) (k .nils h) (newH h (.cells ty true false (r.map (AV.int .i64))) fun i h => k (.slx i 0 n 1) h)))
  | _ => false
theorem sorted_eqZ {l r : List Int} (hp : l.Perm r) (hr : r.Pairwise (· < ·)) : l.mergeSort leZ = r := by
  rw [show l.mergeSort leZ = r.mergeSort leZ from _root_.Go.mergeSort_of_perm_i hp]
  refine List.mergeSort_of_pairwise (hr.imp fun {a b} hab => ?_)
  have hab : a < b := hab
  simp only [leZ, decide_eq_true_eq]; omega
theorem sortedI_ok {fl : Nat} {gs : List FuncId} (hg : ∀ g ∈ gs, SrtA Tryz.prog encZ leZ (fun n => 0 ≤ n ∧ n ≤ 1000000) 237 g 3) : Pr1 Tryz.prog fl 237 fun _ vs h kr _ => sortedI 3 gs vs h kr := by
  refine Pr1.mem fun ps h k hk => ?_
  obtain ⟨v, rfl, hk1⟩ := one1_ok hk
  clear hk
  obtain ⟨g, i, m, rfl, hgm, hk2, t, o, ro, cs, hb, hm⟩ := keysOf_ok hk1
  clear hk1
  obtain ⟨hnil, hmap⟩ := hg g hgm
  have arg : ∀ {S : Nat → Prop} {w0 : World} {r : Ren} {w : World} {xs : List Value}, Rel S w0 fl r h w → reals r [.fn (.func g) [] [.ptr i 0]] = some xs → ∃ p, r i = some p ∧ xs = [.func (.func g) #[] #[.pointer (some ⟨p.1, 0, none⟩)]] ∧ ∃ u, real r m = some u ∧ w.cell? ⟨p.1, 0, none⟩ = some u := by
    intro S w0 r w xs hR hxs
    obtain ⟨x, hx, rfl⟩ := reals1 hxs
    obtain ⟨a, b, ha, hb2, rfl⟩ := real_fn hx
    rw [reals_nil] at ha; cases ha
    obtain ⟨y, hy, rfl⟩ := reals1 hb2
    obtain ⟨p, hp, rfl⟩ := real_ptr hy
    obtain ⟨c, fz, us, e1, e2, e3, _⟩ := hR.at hp hb
    obtain ⟨u, hu, hur⟩ := reals_at e3 hm
    exact ⟨p, hp, rfl, u, hur, cell_of (hR.at hp hb) e3 hu⟩
  split at hk2
  · refine ⟨_, _, hk2, fun S' w0 r w xs hR hxs => ?_⟩
    obtain ⟨p, hp, rfl, u, hu, hc⟩ := arg hR hxs
    cases hu
    refine (hnil w p.1 hc).mono ?_
    rintro e w' ⟨rfl, k'⟩
    exact ⟨r, _, rfl, Ext.refl r, hR.same k', rfl⟩
  · rename_i j
    obtain ⟨ks, vs, bs, ck, hbj, hk3⟩ := mapK_ok hk2
    obtain ⟨l, rfl, hll, hk4⟩ := intsZ_ok hk3
    obtain ⟨q, hk5, hperm⟩ := srtL_ok hk4
    obtain ⟨hasc, hk6⟩ := ask_ok hk5
    replace hk6 : lenK q (fun n => ask (Nat.ble n 1000000) (ife (Nat.beq n 0) (k .nils h) (newH h (.cells 3 true false (q.map (AV.int .i64))) fun i h => k (.slx i 0 n 1) h))) = true := hk6
    rw [lenK_eq] at hk6
    obtain ⟨hlen, hk7⟩ := ask_ok hk6
    have hlen := ble_le hlen
    have main : ∀ {S : Nat → Prop} {w0 : World} {r : Ren} {w : World} {xs : List Value}, Rel S w0 fl r h w → reals r [.fn (.func g) [] [.ptr i 0]] = some xs → (∀ r', reals r' (q.map (AV.int .i64)) = some (q.map encZ)) ∧ Calls Tryz.prog 237 xs.toArray w fun e w' => ∃ v, e = .returned v ∧ K0 w w' ∧ w'.ownsRow w.heap.size 3 1 v q.length (q.map encZ) ∧ (q.length = 0 → v = .slice none 0 0) := by
      intro S w0 r w xs hR hxs
      obtain ⟨p, hp, rfl, u, hu, hc⟩ := arg hR hxs
      obtain ⟨p2, hp2, rfl⟩ := real_map hu
      obtain ⟨en, c, e1, e2, e3, e4, e5, e6, rfl⟩ := hR.at hp2 hbj
      have hks : en.toList.map (·.key) = l.map encZ := by rw [reals_ints64] at e2; injection e2 with e2; exact e2.symm
      have hpw : q.Pairwise (· < ·) := ascL_ok (R := fun x y => x < y) (fun x y z h1 h2 => Int.lt_trans h1 h2) (fun x hx y hy hxy => by
        rw [iLt_eq] at hxy
        simpa using hxy) hasc
      have hpt : l.Perm q := hperm.symm
      have hnd : l.Nodup := hpt.nodup_iff.2 (hpw.imp fun {a b} (hab : a < b) (e : a = b) => Int.lt_irrefl a (by rw [← e] at hab; exact hab))
      have hlq : q.length = l.length := hperm.length_eq
      refine ⟨fun r' => reals_ints64, (hmap w p.1 p2.1 en c l hc e1 hks (List.pairwise_map.2 (hnd.imp fun {a b} (hab : a ≠ b) (e : Value.int .i64 a = Value.int .i64 b) => hab (by injection e))) e4 e5 (by omega) ?_).mono ?_⟩
      · exact hll
      · rintro e w' ⟨v, ss, rfl, hss, hrow, hn, hK⟩
        rw [sorted_eqZ (hss.trans hpt) hpw] at hrow
        have hsl : ss.length = q.length := by rw [hss.length_eq, hlq]
        rw [hsl] at hrow
        exact ⟨v, rfl, hK, hrow, fun z => hn.2 (List.eq_nil_of_length_eq_zero (hsl.trans z))⟩
    rcases ife_ok hk7 with ⟨h0, hk8⟩ | ⟨h0, hk8⟩
    · refine ⟨_, _, hk8, fun S' w0 r w xs hR hxs => (main hR hxs).2.mono ?_⟩
      rintro e w' ⟨v, rfl, hK, _, hn⟩
      exact ⟨r, _, rfl, Ext.refl r, hR.same hK, by rw [hn (Nat.eq_of_beq_eq_true h0)]; rfl⟩
    · obtain ⟨hl, hk9⟩ := newH_ok hk8
      refine ⟨_, _, hk9, fun S' w0 r w xs hR hxs => (main hR hxs).2.mono ?_⟩
      rintro e w' ⟨v, rfl, hK, hrow, _⟩
      obtain ⟨r', a1, a2, a3⟩ := row_new hR hl hK hrow (fun z => by rw [z] at h0; simp at h0) (by simp) (main hR hxs).1
      exact ⟨r', v, rfl, a1, a2, a3⟩
  · cases hk2
theorem gs103 : ∀ g ∈ [158, 519, 558], SrtA Tryz.prog encStr leS (fun s => s.length ≤ maxLen) 101 g 9 := by
  intro g hg
  rcases List.mem_cons.1 hg with rfl | hg
  · exact srtS (ρ := Tryz.keys102_ren) { Tryz.keys102 with } rfl rfl (enters_of Tryz.func158 (by kernel_rfl) rfl)
  rcases List.mem_cons.1 hg with rfl | hg
  · exact srtS (ρ := Tryz.keys471_ren) { Tryz.keys471 with } rfl rfl (enters_of Tryz.func519 (by kernel_rfl) rfl)
  rcases List.mem_cons.1 hg with rfl | hg
  · exact srtS (ρ := Tryz.keys550_ren) { Tryz.keys550 with } rfl rfl (enters_of Tryz.func558 (by kernel_rfl) rfl)
  · cases hg
theorem gs239 : ∀ g ∈ [321], SrtA Tryz.prog encZ leZ (fun n => 0 ≤ n ∧ n ≤ 1000000) 237 g 3 := by
  intro g hg
  rw [List.mem_singleton.1 hg]
  exact srtZ (ρ := Tryz.keys238_ren) { Tryz.keys238 with } rfl rfl (enters_of Tryz.func321 (by kernel_rfl) rfl)
theorem pr_103 {fl : Nat} : Pr1 Tryz.prog fl 101 fun _ vs h kr _ => sortedS 9 [158, 519, 558] vs h kr := sortedS_ok gs103
theorem pr_239 {fl : Nat} : Pr1 Tryz.prog fl 237 fun _ vs h kr _ => sortedI 3 [321] vs h kr := sortedI_ok gs239
end Go.Proofs.YtoafcnecjgnbmaaGreatDoor.E

set_option linter.constructorNameAsVariable false
set_option linter.unusedVariables false
namespace Go.Proofs.YtoafcnecjgnbmaaGreatDoor.E
open Go Go.RowKit H
section
variable {S : Nat → Prop} {w0 : World} {fl : Nat} {r : Ren} {h : Hp} {w : World}
/-- A block that has no name gets one. -/
theorem Rel.adopt (H : Rel S w0 fl r h w) {b : Blk} {p : Nat × Nat} (hn : h.next < LIM) (hp : ∀ i q, r i = some q → q.1 ≠ p.1) (hm : S p.1 ∨ w0.heap.size ≤ p.1) (hB : BRel (upd r h.next p) p w b) : Rel S w0 fl (upd r h.next p) (h.new b) w := by
  have hx := upd_ext H p
  have hl := H.lim
  refine ⟨fun i c hi hc => ?_, fun i j c d q q' hi hj hc hd hq hq' e => ?_, fun i hi => ?_, hn, fun i q hi hq => ?_, fun i q hi hq => ?_, fun i q hq => ?_, H.kept, ⟨Nat.le_succ_of_le H.base.1, Nat.le_succ_of_le H.base.2⟩, upd_hol H p, upd_full H p, fun i hi hL => ?_⟩
  · have hi' : i < h.next + 1 := hi
    rw [Hp.at_new hn (by omega)] at hc
    by_cases e : h.next = i
    · subst e; rw [if_pos rfl] at hc; cases hc; exact ⟨p, upd_same _ _ _, hB⟩
    · rw [if_neg e] at hc
      obtain ⟨q, hq, hb⟩ := H.live i c (by omega) hc
      exact ⟨q, hx.v i q hq, hb.mono hx⟩
  · have hi' : i < h.next + 1 := hi
    have hj' : j < h.next + 1 := hj
    rw [Hp.at_new hn (by omega)] at hc hd
    rw [upd_eq] at hq hq'
    by_cases e1 : i = h.next
    · by_cases e2 : j = h.next
      · omega
      · rw [if_pos e1] at hq
        rw [if_neg e2] at hq'
        cases hq
        exact absurd e.symm (hp j q' hq')
    · by_cases e2 : j = h.next
      · rw [if_neg e1] at hq
        rw [if_pos e2] at hq'
        cases hq'
        exact absurd e (hp i q hq)
      · rw [if_neg (by omega)] at hc hd
        rw [if_neg e1] at hq
        rw [if_neg e2] at hq'
        exact H.inj i j c d q q' (by omega) (by omega) hc hd hq hq' e
  · have : h.next + 1 ≤ i := hi
    rw [upd_eq, if_neg (by omega)]; exact H.fresh i (by omega)
  · rw [upd_eq] at hq
    by_cases e : i = h.next
    · have := H.base; omega
    · rw [if_neg e] at hq; exact H.glob i q hi hq
  · rw [upd_eq] at hq
    by_cases e : i = h.next
    · rw [if_pos e] at hq; cases hq; exact hm
    · rw [if_neg e] at hq; exact H.may i q hi hq
  · rw [upd_eq] at hq
    by_cases e : i = h.next
    · rw [if_pos e] at hq; cases hq; exact hB.lt
    · rw [if_neg e] at hq; exact H.dom i q hq
  · have : h.next + 1 ≤ i := hi
    rw [Hp.at_new hn hL, if_neg (by omega)]; exact H.top i (by omega) hL
end
theorem memN_no {j : Nat} {l : List Nat} (h : memN j l = false) : j ∉ l := by
  rw [memN_eq] at h; simpa using h
noncomputable def newsK (L : List Blk) : Hp → (Hp → Bool) → Bool := List.rec (motive := fun _ => Hp → (Hp → Bool) → Bool) (fun h k => k h) (fun b _ ih h k => newH h b fun _ h => ih h k) L
theorem newsK_ok : ∀ {L : List Blk} {h : Hp} {k : Hp → Bool}, newsK L h k = true → k (L.foldl Hp.new h) = true ∧ ∀ i, i < L.length → h.next + i < LIM
  | [], h, k, hk => ⟨hk, fun i hi => by simp at hi⟩
  | b :: L, h, k, hk => by
    obtain ⟨hl, hk⟩ := newH_ok (show newH h b (fun _ h => newsK L h k) = true from hk)
    obtain ⟨h1, h2⟩ := newsK_ok hk
    refine ⟨h1, fun i hi => ?_⟩
    cases i with
    | zero => exact hl
    | succ i =>
      have := h2 i (by simpa using hi)
      have e : (h.new b).next = h.next + 1 := rfl
      rw [e] at this
      omega
noncomputable def blksEq (a : List Blk) : List Blk → Bool := List.rec (motive := fun _ => List Blk → Bool) (fun l => List.rec (motive := fun _ => Bool) true (fun _ _ _ => false) l) (fun x _ ih l => List.rec (motive := fun _ => Bool) false (fun y t _ => ask (blkEq x y) (ih t)) l) a
theorem blksEq_ok : ∀ {a b : List Blk}, blksEq a b = true → a = b
  | [], [], _ => rfl
  | [], _ :: _, h => by cases h
  | _ :: _, [], h => by cases h
  | x :: a, y :: b, h => by
    obtain ⟨h1, h2⟩ := ask_ok (b := blkEq x y) h
    rw [blkEq_ok h1, blksEq_ok h2]
/-- Cells: what has addresses gets other names. -/
noncomputable def canL (base : Nat) (h : Hp) (cs : List AV) : Nat → List Nat → (List AV → Nat → List Nat → List Blk → Bool) → Bool := List.rec (motive := fun _ => Nat → List Nat → (List AV → Nat → List Nat → List Blk → Bool) → Bool) (fun nx ad k => k [] nx ad [])
  (fun c _ ih nx ad k => ife (flatA c) (ih nx ad fun cs nx ad L => k (c :: cs) nx ad L) (match c with
    | .slx j 0 m z => ask (Nat.ble base j) (ife (memN j ad) false (cellsK h j fun ty op ro cs => ask (flats cs) (natK (Nat.succ nx) fun nx1 => ih nx1 (j :: ad) fun cs' nx2 ad L => k (.slx nx 0 m z :: cs') nx2 ad (.cells ty op ro cs :: L))))
    | _ => false)) cs
noncomputable def canT (base nx0 : Nat) (h : Hp) (v : AV) (k : AV → List Blk → Bool) : Bool := ife (flatA v) (k v []) (match v with
  | .slx i 0 n z => ask (Nat.ble base i) (cellsK h i fun ty op ro cs => canL base h cs nx0 [i] fun cs' nx _ L => k (.slx nx 0 n z) (L ++ [.cells ty op ro cs']))
  | _ => false)
section
variable {S : Nat → Prop} {w0 wb : World} {fl base i0 : Nat} {r0 r' : Ren} {h0 h : Hp} {w : World}
structure CanS (S : Nat → Prop) (w0 : World) (fl base i0 : Nat) (r0 r' : Ren) (h : Hp) (w : World) (rc : Ren) (hc : Hp) (ad : List Nat) : Prop where
  rel : Rel S w0 fl rc hc w
  img : ∀ i q, rc i = some q → r0 i = some q ∨ ∃ j ∈ ad, j ≠ i0 ∧ r' j = some q
  ext : Ext r0 rc
  top : i0 ∈ ad
  old : ∀ j ∈ ad, base ≤ j ∧ ∃ b, h.at j = some b
theorem CanS.far {rc : Ren} {hc : Hp} {ad : List Nat} (C : CanS S w0 fl base i0 r0 r' h w rc hc ad) (R0 : Rel S w0 fl r0 h0 wb) (R' : Rel (fun _ => False) wb base r' h w) {j : Nat} {p : Nat × Nat} {b : Blk} (hj : base ≤ j) (hb : h.at j = some b) (hp : r' j = some p) (hn : j = i0 ∨ j ∉ ad) : ∀ i q, rc i = some q → q.1 ≠ p.1 := fun i q hq e => by
  rcases C.img i q hq with z | ⟨j', hj', hne, z⟩
  · have h1 := R0.dom i q z
    rcases R'.may j p hj hp with c | c
    · exact c
    · omega
  · obtain ⟨hb1, b', hb'⟩ := C.old j' hj'
    have := R'.inj j' j b' b q p (R'.lt z) (R'.lt hp) hb' hb z hp e
    rcases hn with rfl | hn
    · exact hne this
    · exact hn (this ▸ hj')
theorem CanS.put {rc : Ren} {hc : Hp} {ad : List Nat} (C : CanS S w0 fl base i0 r0 r' h w rc hc ad) (R0 : Rel S w0 fl r0 h0 wb) (R' : Rel (fun _ => False) wb base r' h w) {j : Nat} {p : Nat × Nat} {b c : Blk} (hj : base ≤ j) (hb : h.at j = some b) (hp : r' j = some p) (hn : j ∉ ad) (hlim : hc.next < LIM) (hB : BRel (upd rc hc.next p) p w c) : CanS S w0 fl base i0 r0 r' h w (upd rc hc.next p) (hc.new c) (j :: ad) := by
  have hx := upd_ext C.rel p
  have hm : S p.1 ∨ w0.heap.size ≤ p.1 := by
    rcases R'.may j p hj hp with z | z
    · exact z.elim
    · exact .inr (Nat.le_trans R0.kept.size z)
  refine ⟨C.rel.adopt hlim (C.far R0 R' hj hb hp (.inr hn)) hm hB, fun i q hq => ?_, C.ext.trans hx, List.mem_cons_of_mem _ C.top, fun x hx => ?_⟩
  · rw [upd_eq] at hq
    by_cases e : i = hc.next
    · rw [if_pos e] at hq; cases hq
      exact .inr ⟨j, List.mem_cons_self, fun e => hn (e ▸ C.top), hp⟩
    · rw [if_neg e] at hq
      rcases C.img i q hq with z | ⟨j', a, b, c⟩
      · exact .inl z
      · exact .inr ⟨j', List.mem_cons_of_mem _ a, b, c⟩
  · rcases List.mem_cons.1 hx with rfl | hx
    · exact ⟨hj, b, hb⟩
    · exact C.old x hx
theorem canL_ok : ∀ {cs : List AV} {nx : Nat} {ad : List Nat} {k : List AV → Nat → List Nat → List Blk → Bool}, canL base h cs nx ad k = true → ∃ cs' nx' ad' L, k cs' nx' ad' L = true ∧ nx' = nx + L.length ∧
    ∀ {S : Nat → Prop} {w0 wb : World} {fl i0 : Nat} {r0 r' : Ren} {h0 : Hp} {w : World} (rc : Ren) (hc : Hp) (us : List Value), Rel S w0 fl r0 h0 wb → Rel (fun _ => False) wb base r' h w → CanS S w0 fl base i0 r0 r' h w rc hc ad → hc.next = nx → (∀ i, i < L.length → nx + i < LIM) → reals r' cs = some us →
      ∃ r2, Ext rc r2 ∧ CanS S w0 fl base i0 r0 r' h w r2 (L.foldl Hp.new hc) ad' ∧ (L.foldl Hp.new hc).next = nx' ∧ reals r2 cs' = some us
  | [], nx, ad, k, hk => ⟨[], nx, ad, [], hk, rfl, fun rc hc us R0 R' C hn _ hu => ⟨rc, Ext.refl rc, C, hn, by rw [reals_nil] at hu ⊢; exact hu⟩⟩
  | c :: cs, nx, ad, k, hk => by
    rcases ife_ok (b := flatA c) hk with ⟨hf, hk⟩ | ⟨hf, hk⟩
    · obtain ⟨cs', nx', ad', L, hk, e, hC⟩ := canL_ok (cs := cs) hk
      refine ⟨_, nx', ad', L, hk, e, fun rc hc us R0 R' C hn hl hu => ?_⟩
      obtain ⟨u, t, hu1, hu2, rfl⟩ := reals_cons.1 hu
      obtain ⟨r2, a1, a2, a3, a4⟩ := hC rc hc t R0 R' C hn hl hu2
      exact ⟨r2, a1, a2, a3, reals_cons.2 ⟨u, t, flat_real c u hf hu1, a4, rfl⟩⟩
    · split at hk
      · rename_i j m z
        obtain ⟨hj, hk⟩ := ask_ok hk
        have hj := ble_le hj
        rcases ife_ok hk with ⟨_, hk⟩ | ⟨hm, hk⟩
        · cases hk
        have hm := memN_no (by simpa using hm)
        obtain ⟨ty, op, ro, bs, hb, hk⟩ := cellsK_ok hk
        obtain ⟨hfl, hk⟩ := ask_ok hk
        rw [natK_eq] at hk
        obtain ⟨cs', nx', ad', L, hk, e, hC⟩ := canL_ok (cs := cs) hk
        refine ⟨_, nx', ad', _, hk, by rw [e, List.length_cons]; omega, fun rc hc us R0 R' C hn hl hu => ?_⟩
        obtain ⟨u, t, hu1, hu2, rfl⟩ := reals_cons.1 hu
        obtain ⟨p, hp, hq1, hq2, hq3, rfl⟩ := real_slx hu1
        obtain ⟨cc, fz, us, g1, g2, g3, g4, g5, g6, g7⟩ := R'.at hp hb
        have hlim : hc.next < LIM := by have := hl 0 (by simp); omega
        have C1 := C.put R0 R' hj hb hp hm hlim (c := .cells ty op ro bs) ⟨cc, fz, us, g1, g2, flats_real bs us hfl g3, g4, g5, g6, g7⟩
        obtain ⟨r2, a1, a2, a3, a4⟩ := hC _ _ t R0 R' C1 (by show hc.next + 1 = nx.succ; rw [hn]) (fun i hi => by have := hl (i + 1) (by simpa using hi); omega) hu2
        refine ⟨r2, (upd_ext C.rel p).trans a1, a2, a3, reals_cons.2 ⟨_, t, ?_, a4, rfl⟩⟩
        have e2 : r2 nx = some p := a1.v nx p (by rw [← hn]; exact upd_same _ _ _)
        simp only [real, e2, Option.bind_some]
        rw [if_pos ⟨hq1, hq2, hq3⟩]
      · cases hk
theorem canT_ok {nx0 : Nat} {v : AV} {k : AV → List Blk → Bool} (hk : canT base nx0 h v k = true) : ∃ v' L, k v' L = true ∧
    ∀ {S : Nat → Prop} {w0 wb : World} {fl : Nat} {r0 r' : Ren} {h0 : Hp} {w : World} {u : Value}, Rel S w0 fl r0 h0 wb → h0.next = nx0 → Rel (fun _ => False) wb base r' h w → (∀ i, i < L.length → nx0 + i < LIM) → real r' v = some u →
      ∃ r2, Ext r0 r2 ∧ Rel S w0 fl r2 (L.foldl Hp.new h0) w ∧ real r2 v' = some u := by
  rcases ife_ok (b := flatA v) hk with ⟨hf, hk⟩ | ⟨hf, hk⟩
  · exact ⟨v, [], hk, fun R0 _ R' _ hu => ⟨_, Ext.refl _, R0.same R'.kept, flat_real v _ hf hu⟩⟩
  · split at hk
    · rename_i i n z _
      obtain ⟨hj, hk⟩ := ask_ok hk
      have hj := ble_le hj
      obtain ⟨ty, op, ro, cs, hb, hk⟩ := cellsK_ok hk
      obtain ⟨cs', nx', ad', L, hk, e, hC⟩ := canL_ok hk
      refine ⟨_, _, hk, fun {S w0 wb fl r0 r' h0 w u} R0 hn R' hl hu => ?_⟩
      obtain ⟨p, hp, hq1, hq2, hq3, rfl⟩ := real_slx hu
      obtain ⟨cc, fz, us, g1, g2, g3, g4, g5, g6, g7⟩ := R'.at hp hb
      have C0 : CanS S w0 fl base i r0 r' h w r0 h0 [i] := ⟨R0.same R'.kept, fun _ q h => .inl h, Ext.refl r0, List.mem_singleton.2 rfl, fun x hx => by
        rw [List.mem_singleton.1 hx]; exact ⟨hj, _, hb⟩⟩
      obtain ⟨r2, a1, a2, a3, a4⟩ := hC r0 h0 us R0 R' C0 hn (fun i hi => hl i (by rw [List.length_append]; omega)) g3
      have hlim : (L.foldl Hp.new h0).next < LIM := by rw [a3, e]; exact hl L.length (by simp)
      have hx2 := upd_ext a2.rel p
      have hlen : cs'.length = cs.length := by rw [← reals_len a4, ← reals_len g3]
      have hm : S p.1 ∨ w0.heap.size ≤ p.1 := by
        rcases R'.may i p hj hp with z | z
        · exact z.elim
        · exact .inr (Nat.le_trans R0.kept.size z)
      refine ⟨_, a2.ext.trans hx2, ?_, ?_⟩
      · rw [List.foldl_append]
        exact a2.rel.adopt hlim (a2.far R0 R' hj hb hp (.inl rfl)) hm ⟨cc, fz, us, g1, g2, reals_mono hx2 _ _ a4, by rw [hlen]; exact g4, by rw [hlen]; exact g5, by rw [hlen]; exact g6, g7⟩
      · have e2 : upd r2 (L.foldl Hp.new h0).next p nx' = some p := by rw [← a3]; exact upd_same _ _ _
        simp only [real, e2, Option.bind_some]
        rw [if_pos ⟨hq1, hq2, hq3⟩]
    · cases hk
/-- A value, or two of which the second has no address. -/
noncomputable def canP (base nx0 : Nat) (h : Hp) (v : AV) (k : AV → List Blk → Bool) : Bool := match v with
  | .tup [a, b] => ask (flatA b) (canT base nx0 h a fun a L => k (.tup [a, b]) L)
  | v => canT base nx0 h v k
theorem canP_ok {nx0 : Nat} {v : AV} {k : AV → List Blk → Bool} (hk : canP base nx0 h v k = true) : ∃ v' L, k v' L = true ∧
    ∀ {S : Nat → Prop} {w0 wb : World} {fl : Nat} {r0 r' : Ren} {h0 : Hp} {w : World} {u : Value}, Rel S w0 fl r0 h0 wb → h0.next = nx0 → Rel (fun _ => False) wb base r' h w → (∀ i, i < L.length → nx0 + i < LIM) → real r' v = some u →
      ∃ r2, Ext r0 r2 ∧ Rel S w0 fl r2 (L.foldl Hp.new h0) w ∧ real r2 v' = some u := by
  unfold canP at hk
  split at hk
  · rename_i a b
    obtain ⟨hf, hk⟩ := ask_ok hk
    obtain ⟨v', L, hk, hC⟩ := canT_ok hk
    refine ⟨_, L, hk, fun {S w0 wb fl r0 r' h0 w u} R0 hn R' hl hu => ?_⟩
    simp only [real, Option.map_eq_some_iff] at hu
    obtain ⟨us, hu, rfl⟩ := hu
    obtain ⟨x, t, hx1, ht, rfl⟩ := reals_cons.1 hu
    obtain ⟨y, hy, rfl⟩ := reals1 ht
    obtain ⟨r2, a1, a2, a3⟩ := hC R0 hn R' hl hx1
    refine ⟨r2, a1, a2, ?_⟩
    simp only [real]
    rw [reals_cons.2 ⟨x, [y], a3, reals_cons.2 ⟨y, [], flat_real b y hf hy, reals_nil, rfl⟩, rfl⟩]
    rfl
  · exact canT_ok hk
end
section
variable {P : Program}
/-- A function that yields a row it has made. -/
noncomputable def pureD (P : Program) (m : Nat) (wcC wc : Nat → WcF) (dr : Nat → Nat → CallF → DrawF) (callF : Nat → CallF) (f : FuncId) : Prim := fun _ vs h kr _ => Hp.rec (motive := fun _ => Bool) (fun nx t =>
  bodyW 1 P nx m (wcC nx) (dr nx) (callF nx) f vs ⟨nx, t⟩ fun v1 h1 => canP nx nx h1 v1 fun v2 L => ask (bodyW 0 P nx m (wc nx) (dr nx) (callF nx) f vs ⟨nx, t⟩ fun v h' => canP nx nx h' v fun v3 L3 => ask (avEq v3 v2) (blksEq L3 L)) (newsK L ⟨nx, t⟩ fun g => kr v2 g)) h
end
end Go.Proofs.YtoafcnecjgnbmaaGreatDoor.E

namespace Go.Proofs.YtoafcnecjgnbmaaGreatDoor.H
open Go.RowKit
section
variable {P : Program} {ops : Array Oper} {Q : Exit → Act → World → Prop} {md : Region.Mode} {S : World → Prop} {Z : Nat → Bool}
/-- Whatever order is picked: S holds behind every operation that is none of Z. -/
def wpAnyL (P : Program) (md : Region.Mode) (ops : Array Oper) (Q : Exit → Act → World → Prop) (S : World → Prop) (Z : Nat → Bool) : Nat → Array Bool → Act → World → Prop
  | 0, listed, a, w => Region.ready md ops listed = [] ∧ Q .normal a w
  | fuel + 1, listed, a, w =>
    (Region.ready md ops listed = [] → Q .normal a w) ∧
    ∀ i ∈ Region.ready md ops listed, wpOp P ops Q i (fun a' w' => (Z i = false → S w') ∧ wpAnyL P md ops Q S Z fuel (listed.setIfInBounds i true) a' w') a w
theorem wpAny_of_L : ∀ (fuel : Nat) (listed : Array Bool) (a : Act) (w : World), wpAnyL P md ops Q S Z fuel listed a w → wpAny P md ops Q fuel listed a w
  | 0, _, _, _, h => h
  | fuel + 1, _, _, _, h => ⟨h.1, fun i hi => wpOp_mono (fun a' w' h' => wpAny_of_L fuel _ a' w' h'.2) (h.2 i hi)⟩
theorem wpAnyL_first {C : Nat → Prop} {i : Nat} {oi : Oper} {v : Value} (hi : ops[i]? = some oi) (hsel : ∀ (j : Nat) (o : Oper) cs b, ops[j]? = some o → o.op ≠ .select cs b)
    (hQ : ∀ c a w, Q (.panic c) (a.put oi.dst v) w → Q (.panic c) a w) :
    ∀ (fuel : Nat) (listed : Array Bool) (a : Act) (w : World),
      (∀ j oj, ops[j]? = some oj → j ≠ i → listed.getD j true = false → (∀ e ∈ oj.after, Region.binds md e = true → e.on ≠ i) → oi.apart ops oj = true) →
      (∀ j, C j → j ≠ i ∧ listed.getD j true = false ∧ ∃ oj, ops[j]? = some oj ∧ ∃ e ∈ oj.after, Region.binds md e = true ∧ (e.on = i ∨ C e.on)) →
      (∀ j oj, ops[j]? = some oj → Z j = true → j ≠ i → C j) →
      i ∈ Region.ready md ops listed → YieldsIf P ops S oi v a → S w →
      wpAnyL P md ops Q S Z fuel (listed.setIfInBounds i true) (a.put oi.dst v) w → wpAnyL P md ops Q S Z (fuel + 1) listed a w := by
  intro fuel
  induction fuel with
  | zero =>
    intro listed a w _ _ _ hr hy hS H
    refine ⟨fun h => (by rw [h] at hr; cases hr), fun j hj => ?_⟩
    by_cases hji : j = i
    · subst hji; exact hy.wpOp hi hS ⟨fun _ => hS, H⟩
    · have := ready_mono hj hji
      rw [H.1] at this
      cases this
  | succ fuel ih =>
    intro listed a w hfree hwait hzc hr hy hS H
    refine ⟨fun h => (by rw [h] at hr; cases hr), fun j hj => ?_⟩
    by_cases hji : j = i
    · subst hji; exact hy.wpOp hi hS ⟨fun _ => hS, H⟩
    · have h1 := H.2 j (ready_mono hj hji)
      obtain ⟨hjun, oj, hoj, hall⟩ := mem_ready.1 hj
      have hnot : ∀ e ∈ oj.after, Region.binds md e = true → e.on ≠ i := fun e he hb heq => by
        have h1 := hall e he hb
        have h0 := (mem_ready.1 hr).1
        rw [heq] at h1
        rcases Nat.lt_or_ge i listed.size with h' | h'
        · simp [h'] at h0 h1; rw [h0] at h1; cases h1
        · simp [Array.getElem?_eq_none h'] at h1
      have hlisted : ∀ e ∈ oj.after, Region.binds md e = true → listed.getD e.on true = true := fun e he hb => by
        have h1 := hall e he hb
        rcases Nat.lt_or_ge e.on listed.size with h' | h'
        · simp [h'] at h1 ⊢; exact h1
        · simp [Array.getD, Nat.not_lt.2 h']
      have hcj : ¬ C j := fun hc => by
        obtain ⟨_, _, oj', hoj', e, he, hb, ho⟩ := hwait j hc
        rw [hoj] at hoj'
        cases hoj'
        rcases ho with ho | ho
        · exact hnot e he hb ho
        · have := (hwait e.on ho).2.1
          rw [hlisted e he hb] at this
          cases this
      have hz : Z j = false := by
        cases hzj : Z j with
        | false => rfl
        | true => exact absurd (hzc j oj hoj hzj hji) hcj
      have h2 := wpOp_putIf hoj (hfree j oj hoj hji hjun hnot) (fun cs b => hsel i oi cs b hi) (fun cs b => hsel j oj cs b hoj) hQ hy h1
      have hun' : ∀ k, (listed.setIfInBounds j true).getD k true = false → listed.getD k true = false := fun k hun => by
        by_cases hjk : j = k
        · subst hjk; exact hjun
        · rw [getD_set_ne true hjk] at hun; exact hun
      refine wpOp_mono (fun a' w' h3 => ⟨h3.2.1, ih (listed.setIfInBounds j true) a' w' (fun k ok hk hki hun => hfree k ok hk hki (hun' k hun)) (fun k hk => ⟨(hwait k hk).1, by rw [getD_set_ne true (fun (h : j = k) => hcj (by rw [h]; exact hk))]; exact (hwait k hk).2.1, (hwait k hk).2.2⟩) hzc (ready_mono hr (Ne.symm hji)) h3.1 (h3.2.1 hz) ?_⟩) h2
      rw [Array.setIfInBounds_comm _ _ hji]
      exact h3.2.2
theorem wpAnyL_all {rs : List Nat} {fuel : Nat} {listed : Array Bool} {a : Act} {w : World} (hr : Region.ready md ops listed = rs) (hne : rs ≠ [])
    (h : ∀ i ∈ rs, wpOp P ops Q i (fun a' w' => (Z i = false → S w') ∧ wpAnyL P md ops Q S Z fuel (listed.setIfInBounds i true) a' w') a w) : wpAnyL P md ops Q S Z (fuel + 1) listed a w :=
  ⟨fun h0 => absurd (hr ▸ h0) hne, hr ▸ h⟩
theorem wpAnyL_done {listed : Array Bool} {a : Act} {w : World} (hr : Region.ready md ops listed = []) (h : Q .normal a w) :
    ∀ fuel, wpAnyL P md ops Q S Z fuel listed a w
  | 0 => ⟨hr, h⟩
  | _ + 1 => ⟨fun _ => h, by rw [hr]; simp⟩
/-- The writes that are left wait for number i, each one or by others of C. -/
def waits (ops : Array Oper) (Z : Nat → Bool) (l : Array Bool) (C : List Nat) (i : Nat) : Bool :=
  C.all (fun j => !(Nat.beq j i) && !(l.getD j true) && (match ops[j]? with | some o => o.after.any (fun e => Region.binds .any e && (Nat.beq e.on i || C.any (Nat.beq e.on))) | none => false)) && (List.range ops.size).all (fun j => !Z j || Nat.beq j i || C.any (Nat.beq j))
theorem any_beq {C : List Nat} {j : Nat} (h : C.any (Nat.beq j) = true) : j ∈ C := by
  obtain ⟨k, hk, e⟩ := List.any_eq_true.1 h
  rw [Nat.eq_of_beq_eq_true e]; exact hk
theorem waits_spec {l : Array Bool} {C : List Nat} {i : Nat} (h : waits ops Z l C i = true) : (∀ j, j ∈ C → j ≠ i ∧ l.getD j true = false ∧ ∃ oj, ops[j]? = some oj ∧ ∃ e ∈ oj.after, Region.binds .any e = true ∧ (e.on = i ∨ e.on ∈ C)) ∧ (∀ j oj, ops[j]? = some oj → Z j = true → j ≠ i → j ∈ C) := by
  rw [waits, Bool.and_eq_true] at h
  obtain ⟨h1, h2⟩ := h
  refine ⟨fun j hj => ?_, fun j oj ho hz hne => ?_⟩
  · have h3 := List.all_eq_true.1 h1 j hj
    rw [Bool.and_eq_true, Bool.and_eq_true] at h3
    obtain ⟨⟨h3, h4⟩, h5⟩ := h3
    refine ⟨(fun c => by subst c; rw [beq_self] at h3; cases h3), by simpa using h4, ?_⟩
    cases ho : ops[j]? with
    | none => rw [ho] at h5; cases h5
    | some oj =>
      rw [ho] at h5
      simp only [Array.any_eq_true'] at h5
      obtain ⟨e, he, h6⟩ := h5
      rw [Bool.and_eq_true, Bool.or_eq_true] at h6
      exact ⟨oj, rfl, e, he, h6.1, h6.2.imp Nat.eq_of_beq_eq_true any_beq⟩
  · have h3 := List.all_eq_true.1 h2 j (List.mem_range.2 (Array.getElem?_eq_some_iff.1 ho).1)
    rw [Bool.or_eq_true, Bool.or_eq_true] at h3
    rcases h3 with (h3 | h3) | h3
    · rw [hz] at h3; cases h3
    · exact absurd (Nat.eq_of_beq_eq_true h3) hne
    · exact any_beq h3
end
section
variable {P : Program} {ops : Array Oper} {Q : Post} {f : Fr} {w : World} {S : World → Prop} {Z : Nat → Bool}
def AL (P : Program) (ops : Array Oper) (Q : Post) (S : World → Prop) (Z : Nat → Bool) (n : Nat) (l : Array Bool) (f : Fr) (w : World) : Prop := ∀ a, Ag f a → wpAnyL P .any ops (lift Q) S Z n l a w
theorem CL.drawz {cs : List Code} {id : Nat} (S : World → Prop) (Z : Nat → Bool) (hm : P.follows .mixedOrders = true) (h : ∀ w', w'.heap = w.heap → K0 w w' → AL P ops (thenK (CL none P Q cs) Q) S Z ops.size (Array.replicate ops.size false) f w') : CL none P Q (.region id ops true :: cs) f w :=
  fun a ha => wp_region_any hm (wpAny_of_L _ _ _ _ (h { w with drawn := w.drawn + 1 } rfl (Kept.drew w) a ha))
theorem AL.takeY (i : Nat) (C : List Nat) {o : Oper} {d : Option Nat} {v : Value} {n : Nat} {l : Array Bool} (hi : ops[i]? = some o) (hz : waits ops Z l C i = true) (hs : Region.noSelect ops = true) (hf : Region.free .any ops l i = true) (hr : (Region.ready .any ops l).contains i = true)
    [PI Q] (hS : S w) {a : Act} (hy : YieldsIf P ops S o v a) (k : wpAnyL P .any ops (lift Q) S Z n (l.setIfInBounds i true) (a.put o.dst v) w) : wpAnyL P .any ops (lift Q) S Z (n + 1) l a w :=
  wpAnyL_first (C := (· ∈ C)) hi (Region.noSelect_spec hs) (PI.lift _ _) n l a w (Region.free_spec hi hf) (waits_spec hz).1 (waits_spec hz).2 (by simpa using hr) hy hS k
theorem AL.take (i : Nat) (C : List Nat) {op : Op} {ty : TypeId} {pos : String} {af : Array Edge} {d : Nat} {v : Value} {n : Nat} {l : Array Bool} (hi : ops[i]? = some { dst := some d, op := op, type := ty, pos := pos, after := af, guard := none }) (hs : Region.noSelect ops = true) (hf : Region.free .any ops l i = true) (hr : (Region.ready .any ops l).contains i = true) (hz : waits ops Z l C i = true)
    [PI Q] (hd : Nat.blt d f.n = true) (hS : S w) (hy : ∀ w, S w → Yd P f { dst := some d, op := op, type := ty, pos := pos, after := af, guard := none } v w) (k : AL P ops Q S Z n (l.setIfInBounds i true) (f.put d v) w) : AL P ops Q S Z (n + 1) l f w := by
  intro a ha
  exact AL.takeY (d := some d) i C hi hz hs hf hr hS (.inl ⟨by simp [Region.wanted], fun w' hw' => hy w' hw' a ha⟩) (k _ (ha.put v hd))
theorem AL.donew {cs : List Code} {n : Nat} {l : Array Bool} (g : List Nat) (hr : Region.ready .any ops l = []) (h : CL none P Q cs ⟨f.n, f.ds, keep g f.e⟩ w) : AL P ops (thenK (CL none P Q cs) Q) S Z n l f w := by
  intro a ha
  have hc := RW.nilw (ops := ops) (M := none) g h a ha
  exact wpAnyL_done hr hc n
theorem AL.one (C : World → Prop) (i : Nat) {o : Oper} {n : Nat} {l : Array Bool} (hC : ∀ w, C w → Z i = false → S w) (hi : ops[i]? = some o) (k : RW none P ops (thenK (fun f w => C w ∧ AL P ops Q S Z n (l.setIfInBounds i true) f w) Q) [o] f w) {a : Act} (ha : Ag f a) : wpOp P ops (lift Q) i (fun a' w' => (Z i = false → S w') ∧ wpAnyL P .any ops (lift Q) S Z n (l.setIfInBounds i true) a' w') a w := by
  have h : wpList P ops _ [o] a w := k a ha
  unfold wpList at h
  unfold wpOp
  simp only [hi]
  have hq : ∀ x a w, lift (thenK (fun f w => C w ∧ AL P ops Q S Z n (l.setIfInBounds i true) f w) Q) x a w → match x with
      | .normal => (Z i = false → S w) ∧ wpAnyL P .any ops (lift Q) S Z n (l.setIfInBounds i true) a w
      | x => lift Q x a w := by
    intro x a w ⟨g, hg, q⟩
    cases x with
    | normal => exact ⟨hC w q.1, q.2 a hg⟩
    | _ => exact ⟨g, hg, q⟩
  by_cases hw : Region.wanted o (yielded ops a.tmps) = true
  · rw [if_pos hw] at h
    simp only [hw, if_true]
    rcases h with h | ⟨h1, a0, w0, h2⟩
    · left
      exact oper_mono (fun a w hk => hq .normal a w hk) (fun c a w hk => hq (.panic c) a w hk) (fun a w hk => hq .outgrown a w hk) h
    · exact .inr ⟨h1, a0, w0, hq .outgrown a0 w0 h2⟩
  · rw [if_neg hw] at h
    simp only [hw, if_false, Bool.false_eq_true]
    exact hq .normal _ _ h
/-- The one that may come next; it is none of the last writes. -/
theorem AL.next (i : Nat) {o : Oper} {n : Nat} {l : Array Bool} (hi : ops[i]? = some o) (hr : Region.ready .any ops l = [i]) (k : RW none P ops (thenK (fun f w => S w ∧ AL P ops Q S Z n (l.setIfInBounds i true) f w) Q) [o] f w) : AL P ops Q S Z (n + 1) l f w := by
  intro a ha
  refine wpAnyL_all hr (by simp) fun j hj => ?_
  rw [List.mem_singleton.1 hj]
  exact AL.one S i (fun _ h _ => h) hi k ha
/-- One of the last writes. -/
theorem AL.last (i : Nat) {o : Oper} {n : Nat} {l : Array Bool} (hi : ops[i]? = some o) (hr : Region.ready .any ops l = [i]) (hz : Z i = true) (k : RW none P ops (thenK (fun f w => True ∧ AL P ops Q S Z n (l.setIfInBounds i true) f w) Q) [o] f w) : AL P ops Q S Z (n + 1) l f w := by
  intro a ha
  refine wpAnyL_all hr (by simp) fun j hj => ?_
  rw [List.mem_singleton.1 hj]
  exact AL.one (fun _ => True) i (fun _ _ h => by rw [hz] at h; cases h) hi k ha
end
end Go.Proofs.YtoafcnecjgnbmaaGreatDoor.H

namespace Go.Proofs.YtoafcnecjgnbmaaGreatDoor.H
open Go.RowKit
section
variable {M : Option (Option Nat)} {P : Program} {ops : Array Oper} {Q : Post} {rest : List Oper} {f : Fr} {w : World} {d : Nat} {ty : TypeId} {pos : String} {af : Array Edge}
/-- A slice into a block of the call's own, at any place of it. -/
def Tl (w : World) (base : Nat) (e : TypeId) (sz : Nat) (v : Value) (n : Nat) (xs : List Value) : Prop :=
  xs.length = n * sz ∧ ((v = .slice none 0 0 ∧ n = 0) ∨
   ∃ g off cap cur, v = .slice (some ⟨g, off, none⟩) n cap ∧ base ≤ g ∧ w.heap[g]? = some (.cells cur e (0, 0)) ∧ n ≤ cap ∧ cap ≤ maxLen ∧ off + cap * sz ≤ cur.size ∧ (cur.toList.drop off).take (n * sz) = xs)
end
end Go.Proofs.YtoafcnecjgnbmaaGreatDoor.H

set_option linter.constructorNameAsVariable false
set_option linter.unusedVariables false
namespace Go.Proofs.YtoafcnecjgnbmaaGreatDoor.E
open Go Go.RowKit H
section
variable {M : Option (Option Nat)} {P : Program} {ops : Array Oper} {Q : Post} {rest : List Oper} {f : Fr} {w : World} {d ty : Nat} {pos : String} {af : Array Edge}
theorem RW.mkmap {t : TypeId} (hd : Nat.blt d f.n = true) (k : ∀ w', w'.heap[w.heap.size]? = some (.map #[] 0) → K0 w w' → w.heap.size < w'.heap.size → RW M P ops Q rest (f.put d (.map (some w.heap.size))) w') : RW M P ops Q (op1 d (.makeMap t none) ty pos af :: rest) f w :=
  RW.val rfl rfl hd (fun a ha => by simp [execOp, Instr.makeMap, newObj, Sem.run]) (k (w.alloc (.map #[] 0)) (heap_alloc_new w _) (Kept.alloc w _) (lt_of_at (heap_alloc_new w (.map #[] 0))))
/-- A row of zeros: its block. -/
theorem RW.makeE {t e : TypeId} {z : Value} {b : Nat} [ht : Und P t (.slice e)] [hi : Inf P e z 1 b] {x y : Operand} {k k2 : IntKind} {n : Nat} (hx : f.ev x = some (.int k (n : Int))) (hy : f.ev y = some (.int k2 (n : Int))) (hd : Nat.blt d f.n = true) (hz : z.cells = #[z]) (hn : n ≤ 16777216) (hb : b * n ≤ 281474976710656)
    (kk : ∀ w', w'.heap[w.heap.size]? = some (.cells (List.replicate n z).toArray e (0, 0)) → K0 w w' → RW M P ops Q rest (f.put d (.slice (some ⟨w.heap.size, 0, none⟩) n n)) w') : RW M P ops Q (op1 d (.makeSlice t x y) ty pos af :: rest) f w := by
  have hi' := hi.out
  cases hinf : P.info? e with
  | none => simp [hinf] at hi'
  | some i =>
    simp only [hinf, Option.map_some, Option.some.injEq, Prod.mk.injEq] at hi'
    obtain ⟨hz', hs', hb'⟩ := hi'
    obtain ⟨w', hr, ho, hg⟩ := run_makeSlice_full (P := P) w w.heap.size t e i z 1 ht.out hinf hz' hs' k k2 n (by omega) (by rw [hb']; exact hb) (by simp only [maxLen]; omega) (Nat.le_refl _)
    rw [hz, Nat.mul_one, madeCells_one] at ho
    have hK := (Kept.of_grown hg).mono (T := fun _ => False) fun k hk => by cases hk
    refine RW.val rfl rfl hd (fun a ha => ?_) (kk w' ?_ hK)
    · simp [execOp, ha.eval hx, ha.eval hy, hr]
    · rcases ho.2 with ⟨q, _⟩ | ⟨g, cap, cur, q, _, hgb, _, _, hs, hcur⟩
      · cases q
      · injection q with q1 q2 q3
        injection q1 with q1
        injection q1 with q1
        subst q1; subst q3
        rw [hgb]
        rw [Nat.mul_one] at hcur hs
        rw [List.take_of_length_le (by simp [hs])] at hcur
        rw [← hcur]
end
attribute [local irreducible] H.CL H.RW H.CW H.Yd H.thenK H.blockQ Go.Calls
def secB : Obj := .cells (List.replicate 1024 (Value.int .u8 0)).toArray 5 (0, 0)
def secV (s : Nat) : Value := .slice (some ⟨s, 0, none⟩) 1024 1024
def Secs (b : Nat) (w : World) (v : Value) (ss : List Nat) : Prop := ss.Nodup ∧ ∀ s ∈ ss, b ≤ s ∧ w.heap[s]? = some secB ∧ v.ownBlock ≠ some s
theorem within_ok (n : Nat) (lo hi : Int) (h1 : lo ≤ n) (h2 : (n : Int) ≤ hi) (w : World) : Calls Tryz.prog 58 #[.int .i64 n, .int .i64 lo, .int .i64 hi] w fun e w' => e = .returned (.int .i64 n) ∧ w' = w := by
  refine H.enter Tryz.func58 Tryz.ntmps58 rfl rfl ?_; dsimp only [H.args]
  repeat' (first | (refine CL.seq ?_) | (refine CL.region ?_) | (refine CL.ret ?_) | (refine Gt.nil ?_; refine RW.nilw [0, 1, 2, 6] ?_; dsimp only [H.keep, H.look, H.Fr.put, Nat.beq]) | (refine Gt.move ?_; refine RW.y (Y.move rfl) rfl ?_) | (refine Gt.assign ?_; refine RW.y (Y.assign rfl) rfl ?_) | (refine Gt.call ?_; first | (refine RW.y (Y.max2 rfl rfl) rfl ?_) | (refine RW.y (Y.min2 rfl rfl) rfl ?_)))
  have e1 : max (n : Int) lo = n := by omega
  have e2 : min (n : Int) hi = n := by omega
  exact FQ.one rfl rfl rfl ⟨by simp [e1, e2], rfl⟩
set_option maxHeartbeats 1000000 in
theorem newDisk (n : Nat) (h1 : 1 ≤ n) (h2 : n ≤ 4096) (w : World) : Calls Tryz.prog 30 #[.int .i64 n, .int .i64 1024] w fun e w' => K0 w w' ∧ ∃ ss v bm bd, e = .returned (.pointer (some ⟨bd, 0, none⟩)) ∧ ss.length = n ∧ w.heap.size ≤ bm ∧ w.heap.size ≤ bd ∧ bm ≠ bd ∧ v.ownBlock ≠ some bm ∧ v.ownBlock ≠ some bd ∧ bm ∉ ss ∧ bd ∉ ss ∧
    w'.heap[bd]? = some (.cells #[v, .map (some bm), .int .i64 (-1), .bool false] 139 (0, 0)) ∧ w'.heap[bm]? = some (.map #[] 0) ∧ w'.ownsRow w.heap.size 60 1 v n (ss.map secV) ∧ Secs w.heap.size w' v ss := by
  refine H.enter Tryz.func30 Tryz.ntmps30 rfl rfl ?_; dsimp only [H.args]
  repeat' (first | (refine CL.seq ?_) | (refine CL.region ?_) | (refine Gt.nil ?_; refine RW.nilw [0, 1, 4, 5, 11, 12, 13] ?_; dsimp only [H.keep, H.look, H.Fr.put, Nat.beq]) | (refine Gt.assign ?_; refine RW.y (Y.assign rfl) rfl ?_))
  refine RW.mkmap rfl fun w1 hm1 hk1 hl1 => ?_
  repeat' ((refine RW.y (Y.build (ps := [(1, _)]) (l := [_]) (c := #[.slice none 0 0, .map (some w.heap.size)]) rfl rfl) rfl ?_))
  repeat' ((refine RW.y (Y.build (ps := [(0, _), (1, _)]) (l := [_, _]) (c := #[.slice none 0 0, .map (some w.heap.size), .int .i64 (-1), .bool false]) rfl rfl) rfl ?_))
  refine RW.box rfl rfl (fun w2 hb2 hk2 hl2 => ?_)
  repeat' (first | (refine CL.seq ?_) | (refine CL.region ?_) | (refine Gt.nil ?_; refine RW.nilw [0, 1, 4, 5, 11, 12, 13] ?_; dsimp only [H.keep, H.look, H.Fr.put, Nat.beq]) | (refine Gt.move ?_; refine RW.y (Y.move rfl) rfl ?_) | (refine Gt.assign ?_; refine RW.y (Y.assign rfl) rfl ?_))
  refine RW.fn rfl rfl ((within_ok n 1 4096 (by omega) (by omega) _).mono ?_)
  rintro e w3 ⟨rfl, rfl⟩
  have hz1 := hk1.size
  repeat' (first | (refine CL.block ?_) | (refine Gt.nil ?_; refine RW.nilw [0, 1, 4, 5, 11, 12, 13] ?_; dsimp only [H.keep, H.look, H.Fr.put, Nat.beq]) | (refine Gt.move ?_; refine RW.y (Y.move rfl) rfl ?_))
  refine CL.loopS [1, 5, 11, 12] (fun m vals wr => ∃ (i : Nat) (ss : List Nat) (v : Value), vals = [.int .i64 1024, .pointer (some ⟨w1.heap.size, 0, none⟩), .int .i64 n, .int .i64 i] ∧ m = n - i ∧ i ≤ n ∧ ss.length = i ∧ K0 w wr ∧ w1.heap.size < wr.heap.size ∧ v.ownBlock ≠ some w.heap.size ∧ v.ownBlock ≠ some w1.heap.size ∧ w.heap.size ∉ ss ∧ w1.heap.size ∉ ss ∧
    wr.heap[w1.heap.size]? = some (.cells #[v, .map (some w.heap.size), .int .i64 (-1), .bool false] 139 (0, 0)) ∧ wr.heap[w.heap.size]? = some (.map #[] 0) ∧ wr.ownsRow w.heap.size 60 1 v i (ss.map secV) ∧ Secs w.heap.size wr v ss) n
    ⟨_, rfl, 0, [], .slice none 0 0, rfl, rfl, Nat.zero_le _, rfl, hk1.trans0 hk2, hl2, by simp [Value.ownBlock], by simp [Value.ownBlock], by simp, by simp, hb2, hk2.at0 hm1, World.ownsRow_nil _ _ _ _, List.nodup_nil, fun s hs => by cases hs⟩ ?_
  rintro m vals wr ⟨i, ss, v, rfl, rfl, hi, hss, hkr, hlr, hv1, hv2, hs1, hs2, hbdr, hbmr, hown, hN, hS0⟩
  dsimp only [List.zip, List.zipWith]
  rcases Nat.lt_or_ge i n with hlt | hge
  · repeat' (first | (refine CL.seq ?_) | (refine CL.region ?_) | (refine CL.skip ?_) | (refine CL.condP rfl (fun _ => ?_) (fun _ => ?_) <;> try (exfalso; omega)) | (refine CL.block ?_) | (refine Gt.nil ?_; refine RW.nilw [0, 1, 4, 5, 11, 12, 13] ?_; dsimp only [H.keep, H.look, H.Fr.put, Nat.beq]) | (refine Gt.lss ?_; refine RW.y (Y.lss rfl rfl) rfl ?_))
    refine CL.drawz (fun w' => Kept (fun k => v.ownBlock = some k) wr w') (fun j => Nat.beq j 14) (by kernel_rfl) (fun w4 hheap hk4 => ?_)
    have hS : Kept (fun k => v.ownBlock = some k) wr w4 := hk4.mono fun k c => c.elim
    skip
    refine AL.take 0 [11, 12, 13, 14] rfl (by kernel_rfl) (by kernel_rfl) (by kernel_rfl) (by kernel_rfl) rfl (by assumption) (fun w hS => Y.move rfl) ?_
    refine AL.take 1 [2, 3, 4, 5, 10, 11, 12, 13, 14] rfl (by kernel_rfl) (by kernel_rfl) (by kernel_rfl) (by kernel_rfl) rfl (by assumption) (fun w hS => Y.move rfl) ?_
    refine AL.take 2 [3, 4, 5, 10, 11, 12, 13, 14] rfl (by kernel_rfl) (by kernel_rfl) (by kernel_rfl) (by kernel_rfl) rfl (by assumption) (fun w hS => Y.nilck rfl) ?_
    refine AL.take 3 [4, 5, 10, 11, 12, 13, 14] rfl (by kernel_rfl) (by kernel_rfl) (by kernel_rfl) (by kernel_rfl) rfl (by assumption) (fun w hS => Y.fieldAddr rfl (by rfl)) ?_
    refine AL.take 4 [5, 10, 11, 12, 13, 14] rfl (by kernel_rfl) (by kernel_rfl) (by kernel_rfl) (by kernel_rfl) rfl (by assumption) (fun w hS => Y.fieldAddr rfl (by rfl)) ?_
    refine AL.take 5 [10, 11, 12, 13, 14] rfl (by kernel_rfl) (by kernel_rfl) (by kernel_rfl) (by kernel_rfl) rfl (by assumption) (fun w hS => Y.loadB rfl (hS.at hbdr hv2) rfl) ?_
    refine AL.take 6 [7, 8, 9, 10, 11, 12, 13, 14] rfl (by kernel_rfl) (by kernel_rfl) (by kernel_rfl) (by kernel_rfl) rfl (by assumption) (fun w hS => Y.move rfl) ?_
    refine AL.next 7 rfl (by kernel_rfl) ?_
    refine RW.fn rfl rfl ((within_ok 1024 64 4096 (by omega) (by omega) _).mono ?_)
    rintro e w5' ⟨rfl, he5⟩
    rw [he5]
    refine RW.nil (Nm.then ⟨hS, ?_⟩)
    skip
    refine AL.next 8 rfl (by kernel_rfl) ?_
    refine RW.makeE (n := 1024) rfl rfl rfl rfl (by omega) (by omega) (fun w5 hb5 hk5 => ?_)
    have hl4 := hS.size
    have hl5 := lt_of_at hb5
    have hS := hS.trans0 hk5
    refine RW.nil (Nm.then ⟨hS, ?_⟩)
    skip
    refine AL.next 9 rfl (by kernel_rfl) ?_
    refine RW.build1 rfl rfl rfl rfl (fun w6 hb6 hk6 hl6 => ?_)
    have hS := hS.trans0 hk6
    refine RW.nil (Nm.then ⟨hS, ?_⟩)
    skip
    refine AL.next 10 rfl (by kernel_rfl) ?_
    have hK6 : K0 wr w6 := (hk4.trans0 hk5).trans0 hk6
    have hz6 := hK6.size
    have hz5 := hk5.size
    have hz66 := hk6.size
    have ho6 := own_kept0 hown hK6
    have hsl : Sl w6 1 (.slice (some ⟨w5.heap.size, 0, none⟩) 1 1) 1 [secV w4.heap.size] := Sl.of_own (own_new (base := 0) (sz := 1) hb6 (Nat.zero_le _) (n := 1) rfl (by simp [maxLen]))
    have hkz := hkr.size
    refine H.RW.app (z := .slice none 0 0) (sz := 1) (m := 1) (news := [secV w4.heap.size]) rfl rfl rfl rfl rfl ho6 hsl (fun u hu => by rw [List.mem_singleton.1 hu]; rfl) (by omega) (by omega) (by omega) (fun v7 w7 ho7 hk7 hlies => ?_)
    have hS := hS.trans hk7 (fun k h => .inl h)
    refine RW.nil (Nm.then ⟨hS, ?_⟩)
    refine AL.take 11 [12, 13, 14] rfl (by kernel_rfl) (by kernel_rfl) (by kernel_rfl) (by kernel_rfl) rfl (by assumption) (fun w hS => Y.nilck rfl) ?_
    refine AL.take 12 [13, 14] rfl (by kernel_rfl) (by kernel_rfl) (by kernel_rfl) (by kernel_rfl) rfl (by assumption) (fun w hS => Y.fieldAddr rfl (by rfl)) ?_
    refine AL.take 13 [14] rfl (by kernel_rfl) (by kernel_rfl) (by kernel_rfl) (by kernel_rfl) rfl (by assumption) (fun w hS => Y.fieldAddr rfl (by rfl)) ?_
    refine AL.last 14 rfl (by kernel_rfl) rfl ?_
    have h1v : v7.oneCell' = true := by rcases ho7.2 with ⟨rfl, _⟩ | ⟨g, cap, cur, rfl, _⟩ <;> rfl
    refine RW.storeB rfl rfl h1v (hS.at hbdr hv2) (by simp) (fun w8 hbd8 hk8 => ?_)
    refine RW.nil (Nm.then ⟨trivial, ?_⟩)
    skip
    refine AL.donew [1, 5, 11, 12] (by kernel_rfl) ?_
    dsimp only [H.keep, H.look, H.Fr.put, Nat.beq]
    repeat' (first | (refine CL.region ?_) | (refine CL.done ?_) | (refine Nm.block ?_) | (refine Nm.then ?_) | (refine Gt.nil ?_; refine RW.nilw [0, 1, 4, 5, 11, 12, 13] ?_; dsimp only [H.keep, H.look, H.Fr.put, Nat.beq]) | (refine Gt.move ?_; refine RW.y (Y.move rfl) rfl ?_) | (refine Gt.add ?_; refine RW.y (Y.add64 rfl rfl (by omega) (by omega)) rfl ?_))
    have hvl := hown.lt
    have hww : w.heap.size < wr.heap.size := by omega
    have K7 : K0 w w7 := hkr.trans hS fun k h => .inr (hvl k h).1
    have hz7 := hk7.size
    have hz8 := hk8.size
    have h5l : w4.heap.size < w5.heap.size := hl5
    have hne7 : ∀ k, v.ownBlock ≠ some k → k < w6.heap.size → v7.ownBlock ≠ some k := fun k h1 h2 e => by
      rcases hlies k e with q | q
      · exact h1 q
      · omega
    refine ⟨n - (i + 1), _, rfl, rfl, rfl, by omega, i + 1, ss ++ [w4.heap.size], v7, rfl, rfl, hlt, by simp [hss], K7.trans hk8 fun k h => .inr (by have h : k = w1.heap.size := h; omega), by omega, hne7 _ hv1 (by omega), hne7 _ hv2 (by omega), ?_, ?_, by simpa using hbd8, hk8.at (hS.at hbmr hv1) (by show ¬ (w.heap.size = w1.heap.size); omega), ?_, ?_⟩
    · intro h
      rcases List.mem_append.1 h with h | h
      · exact hs1 h
      · have := List.mem_singleton.1 h; omega
    · intro h
      rcases List.mem_append.1 h with h | h
      · exact hs2 h
      · have := List.mem_singleton.1 h; omega
    · have := own_kept ho7 hk8 fun g hg c => hne7 _ hv2 (by omega) (by rw [hg]; exact congrArg some c)
      simpa using this
    · refine ⟨?_, fun s hs => ?_⟩
      · refine List.nodup_append.2 ⟨hN, by simp, fun a ha b hb e => ?_⟩
        have hb := List.mem_singleton.1 hb
        have := lt_of_at (hS0 a ha).2.1
        omega
      · rcases List.mem_append.1 hs with h | h
        · obtain ⟨q1, q2, q3⟩ := hS0 s h
          have hsl := lt_of_at q2
          exact ⟨q1, hk8.at (hS.at q2 q3) (fun c => hs2 (by have c : s = w1.heap.size := c; rw [← c]; exact h)), hne7 _ q3 (by omega)⟩
        · have h := List.mem_singleton.1 h
          subst h
          have hvn : v.ownBlock ≠ some w4.heap.size := fun e => by have := (hvl _ e).2; omega
          exact ⟨by omega, hk8.at (hk7.at (hk6.at0 hb5) hvn) (by show ¬ (w4.heap.size = w1.heap.size); omega), hne7 _ hvn (by omega)⟩
  · have hin : i = n := by omega
    subst hin
    repeat' (first | (refine CL.seq ?_) | (refine CL.region ?_) | (refine CL.condP rfl (fun _ => ?_) (fun _ => ?_) <;> try (exfalso; omega)) | (refine CL.exit ?_) | (refine Ex.then ?_) | (refine Ex.hit ?_) | (refine CL.ret ?_) | (refine Gt.nil ?_; refine RW.nilw [0, 1, 4, 5, 11, 12, 13] ?_; dsimp only [H.keep, H.look, H.Fr.put, Nat.beq]) | (refine Gt.move ?_; refine RW.y (Y.move rfl) rfl ?_) | (refine Gt.assign ?_; refine RW.y (Y.assign rfl) rfl ?_) | (refine Gt.lss ?_; refine RW.y (Y.lss rfl rfl) rfl ?_))
    exact FQ.one rfl rfl rfl ⟨hkr, ss, v, w.heap.size, w1.heap.size, rfl, hss, Nat.le_refl _, by omega, by omega, hv1, hv2, hs1, hs2, hbdr, hbmr, hown, hN, hS0⟩
end Go.Proofs.YtoafcnecjgnbmaaGreatDoor.E

set_option linter.constructorNameAsVariable false
set_option linter.unusedVariables false
namespace Go.Proofs.YtoafcnecjgnbmaaGreatDoor.E
open Go Go.RowKit H
attribute [local irreducible] H.CL H.RW H.CW H.Yd H.thenK H.blockQ Go.Calls
noncomputable def secs (zs : List AV) (n : Nat) : Hp → (List AV → Hp → Bool) → Bool := Nat.rec (motive := fun _ => Hp → (List AV → Hp → Bool) → Bool) (fun h k => k [] h) (fun _ ih h k => newH h (.cells 5 false false zs) fun i h => ih h fun l h => k (.sl i 0 1024 1024 :: l) h) n
theorem secs_ok {zs : List AV} {fl : Nat} (hz : ∀ r, reals r zs = some (List.replicate 1024 (Value.int .u8 0))) : ∀ {n : Nat} {h : Hp} {k : List AV → Hp → Bool}, secs zs n h k = true → ∃ l h', k l h' = true ∧ l.length = n ∧
    ∀ {S : Nat → Prop} {w0 : World} {r : Ren} {w : World} {ss : List Nat}, Rel S w0 fl r h w → ss.length = n → ss.Nodup → (∀ s ∈ ss, (S s ∨ w0.heap.size ≤ s) ∧ (∀ i q, r i = some q → q.1 ≠ s) ∧ w.heap[s]? = some secB) →
      ∃ r', Ext r r' ∧ Rel S w0 fl r' h' w ∧ reals r' l = some (ss.map secV) ∧ ∀ i q, r' i = some q → r i = some q ∨ q.1 ∈ ss
  | 0, h, k, hk => ⟨[], h, hk, rfl, fun {S w0 r w ss} hR hl _ _ => by
      rw [List.eq_nil_of_length_eq_zero hl]
      exact ⟨r, Ext.refl r, hR, reals_nil, fun i q h => .inl h⟩⟩
  | n + 1, h, k, hk => by
    obtain ⟨hl, hk⟩ := newH_ok (show newH h (.cells 5 false false zs) (fun i h => secs zs n h fun l h => k (.sl i 0 1024 1024 :: l) h) = true from hk)
    obtain ⟨l, h', hk, hln, hC⟩ := secs_ok hz (n := n) hk
    refine ⟨_, h', hk, by simp [hln], fun {S w0 r w ss} hR hss hN hS => ?_⟩
    cases ss with
    | nil => cases hss
    | cons s ss =>
      obtain ⟨a1, a2, a3⟩ := hS s List.mem_cons_self
      have hx := upd_ext hR (s, 1024)
      have hzl : zs.length = 1024 := by
        have := reals_len (hz r)
        rw [List.length_replicate] at this
        exact this.symm
      have hR1 := hR.adopt (b := .cells 5 false false zs) hl (p := (s, 1024)) a2 a1 ⟨_, (0, 0), _, a3, by rw [List.size_toArray, List.length_replicate], hz _, by
        rw [hzl]
        exact (List.take_of_length_le (by rw [List.length_replicate]; exact Nat.le_refl _)).symm, by rw [hzl]; exact Nat.le_refl _, (fun _ => hzl), fun _ => .inl rfl⟩
      obtain ⟨hs1, hN'⟩ := List.nodup_cons.1 hN
      obtain ⟨r', b1, b2, b3, b4⟩ := hC (ss := ss) hR1 (by simpa using hss) hN' fun x hx' => by
        obtain ⟨c1, c2, c3⟩ := hS x (List.mem_cons_of_mem _ hx')
        refine ⟨c1, fun i q hq e => ?_, c3⟩
        rw [upd_eq] at hq
        by_cases z : i = h.next
        · rw [if_pos z] at hq; cases hq
          exact hs1 (by have e : s = x := e; rw [e]; exact hx')
        · rw [if_neg z] at hq
          exact c2 i q hq e
      have e0 : r' h.next = some (s, 1024) := b1.v _ _ (upd_same _ _ _)
      refine ⟨r', hx.trans b1, b2, reals_cons.2 ⟨secV s, _, by simp [real, e0, secV], b3, rfl⟩, fun i q hq => ?_⟩
      rcases b4 i q hq with z | z
      · rw [upd_eq] at z
        by_cases y : i = h.next
        · rw [if_pos y] at z; cases z
          exact .inr List.mem_cons_self
        · rw [if_neg y] at z; exact .inl z
      · exact .inr (List.mem_cons_of_mem _ z)
noncomputable def diskP (vs : List AV) (h : Hp) (k : KV) : Bool := match vs with
  | [.int .i64 (.ofNat n), .int .i64 (.ofNat z)] => ask (Nat.beq z 1024) (natK n fun n => ask (Nat.ble 1 n) (ask (Nat.ble n 4096) (timesK [.int .u8 0] 1024 [] fun zs => secs zs n h fun l h => newH h (.mp [] [] [] 0) fun m h => newH h (.cells 60 true false l) fun b h => newH h (.cells 139 false false [.slx b 0 n 1, .map m, .int .i64 (-1), .bool false]) fun p h => k (.ptr p 0) h)))
  | _ => false
theorem pr_37 {fl : Nat} : Pr1 Tryz.prog fl 30 fun _ vs h kr _ => diskP vs h kr := by
  refine Pr1.mem fun vs h k hk => ?_
  unfold diskP at hk
  split at hk
  · rename_i n z
    obtain ⟨hz, hk⟩ := ask_ok hk
    have hz := Nat.eq_of_beq_eq_true hz
    rw [natK_eq] at hk
    obtain ⟨h1, hk⟩ := ask_ok hk
    obtain ⟨h2, hk⟩ := ask_ok hk
    have h1 := ble_le h1
    have h2 := ble_le h2
    rw [timesK_eq] at hk
    have hzs : ∀ r, reals r ((List.replicate 1024 [AV.int .u8 0]).flatten ++ []) = some (List.replicate 1024 (Value.int .u8 0)) := by
      intro r
      have : ∀ m, reals r ((List.replicate m [AV.int .u8 0]).flatten ++ []) = some (List.replicate m (Value.int .u8 0)) := by
        intro m
        induction m with
        | zero => exact reals_nil
        | succ m ih => exact reals_cons.2 ⟨_, _, rfl, ih, rfl⟩
      exact this 1024
    obtain ⟨l, h3, hk, hln, hC⟩ := secs_ok (fl := fl) hzs hk
    obtain ⟨g1, hk⟩ := newH_ok hk
    obtain ⟨g2, hk⟩ := newH_ok hk
    obtain ⟨g3, hk⟩ := newH_ok hk
    refine ⟨_, _, hk, fun S w0 r w xs hR hxs => ?_⟩
    obtain ⟨x, y, hx, hy, rfl⟩ := reals2 hxs
    cases hx; cases hy
    rw [hz]
    refine (newDisk n h1 h2 w).mono ?_
    rintro e w' ⟨hK, ss, v, bm, bd, rfl, hss, b1, b2, hne, hv1, hv2, n1, n2, hbd, hbm, hown, hN, hS⟩
    have hsz := hR.kept.size
    have H0 := hR.same hK
    obtain ⟨r1, x1, R1, re1, i1⟩ := hC H0 hss hN fun s hs => by
      obtain ⟨a, b, c⟩ := hS s hs
      exact ⟨.inr (by omega), fun i q hq => by have := hR.dom i q hq; omega, b⟩
    have im1 : ∀ x, w.heap.size ≤ x → x ∉ ss → ∀ i q, r1 i = some q → q.1 ≠ x := fun x hx hn i q hq e => by
      rcases i1 i q hq with z | z
      · have := hR.dom i q z; omega
      · exact hn (e ▸ z)
    have R2 := R1.adopt (b := .mp [] [] [] 0) (p := (bm, 0)) g1 (im1 bm b1 n1) (.inr (by show w0.heap.size ≤ bm; omega)) ⟨#[], 0, hbm, reals_nil, reals_nil, List.Pairwise.nil, (fun e he => by simp at he), rfl, rfl⟩
    have x2 := upd_ext R1 (bm, 0)
    rcases hown.2 with ⟨_, q⟩ | ⟨g, cap, cur, rfl, hbase, hg, r1', r2', r3', r4'⟩
    · omega
    rw [Nat.mul_one] at r3' r4'
    have hgs : g ∉ ss := fun c => (hS g c).2.2 rfl
    have hgm : g ≠ bm := fun c => hv1 (by simp [Value.ownBlock, c])
    have hgd : g ≠ bd := fun c => hv2 (by simp [Value.ownBlock, c])
    have im2 : ∀ x, w.heap.size ≤ x → x ∉ ss → x ≠ bm → ∀ i q, upd r1 h3.next (bm, 0) i = some q → q.1 ≠ x := fun x hx hn hm i q hq => by
      rw [upd_eq] at hq
      split at hq
      · cases hq; exact fun c => hm c.symm
      · exact im1 x hx hn i q hq
    have re2 := reals_mono x2 _ _ re1
    have x3 := upd_ext R2 (g, cap)
    have R3 := R2.adopt (b := .cells 60 true false l) (p := (g, cap)) g2 (im2 g hbase hgs hgm) (.inr (by show w0.heap.size ≤ g; omega)) ⟨cur, (0, 0), _, hg, r3', reals_mono x3 _ _ re2, by rw [hln]; exact r4'.symm, by rw [hln]; exact r1', (fun z => by cases z), fun _ => .inl rfl⟩
    have im3 : ∀ i q, upd (upd r1 h3.next (bm, 0)) (h3.new (.mp [] [] [] 0)).next (g, cap) i = some q → q.1 ≠ bd := fun i q hq => by
      rw [upd_eq] at hq
      split at hq
      · cases hq; exact hgd
      · exact im2 bd b2 n2 (fun c => hne c.symm) i q hq
    have x4 := upd_ext R3 (bd, 4)
    have em : upd r1 h3.next (bm, 0) h3.next = some (bm, 0) := upd_same _ _ _
    have eg := upd_same (upd r1 h3.next (bm, 0)) (h3.new (.mp [] [] [] 0)).next (g, cap)
    have em3 := x3.v _ _ em
    have R4 := R3.adopt (b := .cells 139 false false [.slx (h3.new (.mp [] [] [] 0)).next 0 n 1, .map h3.next, .int .i64 (-1), .bool false]) (p := (bd, 4)) g3 im3 (.inr (by show w0.heap.size ≤ bd; omega)) ⟨_, (0, 0), _, hbd, rfl, reals_mono x4 _ _ (reals_cons.2 ⟨.slice (some ⟨g, 0, none⟩) n cap, _, by
        simp only [real, eg, Option.bind_some, Nat.zero_add, Nat.mul_one, Nat.sub_zero, Nat.div_one]
        rw [if_pos ⟨Nat.one_pos, r1', r2'⟩], reals_cons.2 ⟨.map (some bm), _, by simp [real, em3], reals_cons.2 ⟨_, _, rfl, reals_cons.2 ⟨_, _, rfl, reals_nil, rfl⟩, rfl⟩, rfl⟩, rfl⟩), rfl, Nat.le_refl _, fun _ => rfl, fun _ => .inl rfl⟩
    exact ⟨_, _, rfl, ((x1.trans x2).trans x3).trans x4, R4, by simp [real, upd_same]⟩
  · cases hk
end Go.Proofs.YtoafcnecjgnbmaaGreatDoor.E

set_option linter.constructorNameAsVariable false
set_option linter.unusedVariables false
namespace Go.Proofs.YtoafcnecjgnbmaaGreatDoor.E
open Go Go.RowKit H
section
variable {P : Program} {f : Fr} {w : World} {d ty : Nat} {pos : String} {af : Array Edge}
theorem Y.eqMapNil {t yt k e : TypeId} (ht : P.underlying t = some (.map k e)) {x y : Operand} {p : Option Nat} (hx : f.ev x = some (.map p)) (hy : f.ev y = some (.map none)) : Yd P f (op1 d (.binOp .eql t x y yt) ty pos af) (.bool p.isNone) w := fun a ha => by
  simp [execOp, ha.eval hx, ha.eval hy, noGuard (P := P) .eql t x y (.map p) (.map none) (by simp) (by simp), run_eql_map_nil_sl (P := P) w t k e p ht]
theorem Y.assertMap {x : Operand} {xt t k e : TypeId} {v : Value} (ht : P.underlying t = some (.map k e)) (hx : f.ev x = some (.iface t v)) : Yd P f (op1 d (.typeAssert x xt t false) ty pos af) v w := fun a ha => by
  simp [execOp, ha.eval hx, run_typeAssert_map_sl (P := P) w t xt k e v ht]
/-- A function that the model itself gives, and that changes memory. -/
theorem RW.extW {M : Option (Option Nat)} {ops : Array Oper} {Q : Post} {rest : List Oper} {w' : World} {k : FuncId} {xs : List Operand} {l : List Value} {at' : Array TypeId} {v : Value} (hv : f.evs xs = some l) (hc : (callFunc k l.toArray).run P w = .ok (.value v) w') (hd : Nat.blt d f.n = true) (k' : RW M P ops Q rest (f.put d v) w') : RW M P ops Q (op1 d (.call { callee := .value (.func k), args := xs.toArray, argTypes := at' }) ty pos af :: rest) f w :=
  RW.val rfl rfl hd (fun a ha => by simp [execOp, resolve, Act.eval, Deferred.ofValue, invoke, ha.evs xs l hv, hc]) k'
end
attribute [local irreducible] H.CL H.RW H.CW H.Yd H.thenK H.blockQ Go.Calls
theorem run_clone (P : Program) {w : World} {t : TypeId} {r : Nat} {es : Array MapEntry} {ck : Nat} (hb : w.heap[r]? = some (.map es ck)) :
    (Extern.MapsClone.clone #[.iface t (.map (some r))]).run P w = .ok (.iface t (.map (some w.heap.size))) (w.alloc (.map es ck)) := by
  have e : Extern.MapsClone.clone #[.iface t (.map (some r))] = (getObj r >>= fun o => match o with
    | .map entries clock => (do pure (.iface t (.map (some (← newObj (.map entries clock))))))
    | _ => stuck "maps.clone: a map expected") := rfl
  rw [e]
  simp [MapKept.run_getObj_map hb, Result.andThen, go_sem]
theorem ext_clone (t : TypeId) {w : World} {r : Nat} {es : Array MapEntry} {ck : Nat} (hb : w.heap[r]? = some (.map es ck)) : (callFunc 284 #[.iface t (.map (some r))]).run Tryz.prog w = .ok (.value (.iface t (.map (some w.heap.size)))) (w.alloc (.map es ck)) := by
  rw [run_callFunc_extern Tryz.func284 (by kernel_rfl) (by kernel_rfl) (by kernel_rfl) (e := Extern.MapsClone.clone) (by kernel_rfl), run_clone _ hb]
  rfl
noncomputable def cloneP (vs : List AV) (h : Hp) (k : KV) : Bool := one1 vs fun v => match v with
  | .nilm => k .nilm h
  | .map j => mapK h j fun ks vs bs ck => newH h (.mp ks vs bs ck) fun i h => k (.map i) h
  | _ => false
theorem cloneP_ok {f : FuncId} (hn : ∀ w, Calls Tryz.prog f #[.map none] w fun e w' => e = .returned (.map none) ∧ K0 w w')
    (hm : ∀ w r es ck, w.heap[r]? = some (.map es ck) → Calls Tryz.prog f #[.map (some r)] w fun e w' => e = .returned (.map (some w.heap.size)) ∧ w' = w.alloc (.map es ck)) {fl : Nat} : Pr1 Tryz.prog fl f fun _ vs h kr _ => cloneP vs h kr := by
  refine Pr1.mem fun ps h k hk => ?_
  obtain ⟨v, rfl, hk⟩ := one1_ok hk
  cases v with
  | nilm =>
    refine ⟨_, _, hk, fun S' w0 r w xs hR hxs => ?_⟩
    obtain ⟨x, hx, rfl⟩ := reals1 hxs
    cases hx
    refine (hn w).mono ?_
    rintro e w' ⟨rfl, k'⟩
    exact ⟨r, _, rfl, Ext.refl r, hR.same k', rfl⟩
  | map j =>
    obtain ⟨ks, vs, bs, ck, hb, hk⟩ := mapK_ok hk
    obtain ⟨hl, hk⟩ := newH_ok hk
    refine ⟨_, _, hk, fun S' w0 r w xs hR hxs => ?_⟩
    obtain ⟨x, hx, rfl⟩ := reals1 hxs
    obtain ⟨p, hp, rfl⟩ := real_map hx
    obtain ⟨en, c, e1, e2, e3, e4, e5, e6, rfl⟩ := hR.at hp hb
    refine (hm w p.1 en c e1).mono ?_
    rintro e w' ⟨rfl, rfl⟩
    have hx' := upd_ext hR (w.heap.size, 0)
    refine ⟨upd r h.next (w.heap.size, 0), _, rfl, hx', hR.new hl (Kept.alloc w _) (Nat.le_refl _) ⟨en, c, heap_alloc_new w _, reals_mono hx' _ _ e2, reals_mono hx' _ _ e3, e4, e5, e6, rfl⟩, by simp only [real, upd_same, Option.map_some]⟩
  | _ => cases hk
theorem pr_206 {fl : Nat} : Pr1 Tryz.prog fl 204 fun _ vs h kr _ => cloneP vs h kr := by
  refine cloneP_ok (fun w => ?_) fun w r es ck hb => ?_
  · refine H.enter Tryz.func204 Tryz.ntmps204 rfl rfl ?_; dsimp only [H.args]
    repeat' (first | (refine CL.seq ?_) | (refine CL.region ?_) | (refine Gt.nil ?_; refine RW.nilw [0, 2, 4] ?_; dsimp only [H.keep, H.look, H.Fr.put, Nat.beq]) | (refine Gt.assign ?_; refine RW.y (Y.assign rfl) rfl ?_) | (refine Gt.move ?_; refine RW.y (Y.move rfl) rfl ?_))
    refine RW.y (Y.eqMapNil (k := 9) (e := 9) (by kernel_rfl) rfl rfl) rfl ?_
    repeat' (first | (refine CL.seq ?_) | (refine CL.region ?_) | (refine CL.condT rfl ?_) | (refine CL.ret ?_) | (refine Gt.nil ?_; refine RW.nilw [0, 2, 4] ?_; dsimp only [H.keep, H.look, H.Fr.put, Nat.beq]) | (refine Gt.assign ?_; refine RW.y (Y.assign rfl) rfl ?_))
    exact FQ.one rfl rfl rfl ⟨rfl, Kept.refl _ _⟩
  · refine H.enter Tryz.func204 Tryz.ntmps204 rfl rfl ?_; dsimp only [H.args]
    repeat' (first | (refine CL.seq ?_) | (refine CL.region ?_) | (refine Gt.nil ?_; refine RW.nilw [0, 2, 4] ?_; dsimp only [H.keep, H.look, H.Fr.put, Nat.beq]) | (refine Gt.assign ?_; refine RW.y (Y.assign rfl) rfl ?_) | (refine Gt.move ?_; refine RW.y (Y.move rfl) rfl ?_))
    refine RW.y (Y.eqMapNil (k := 9) (e := 9) (by kernel_rfl) rfl rfl) rfl ?_
    repeat' (first | (refine CL.seq ?_) | (refine CL.region ?_) | (refine CL.skip ?_) | (refine CL.condF rfl ?_) | (refine Gt.nil ?_; refine RW.nilw [0, 2, 4] ?_; dsimp only [H.keep, H.look, H.Fr.put, Nat.beq]) | (refine Gt.move ?_; refine RW.y (Y.move rfl) rfl ?_) | (refine Gt.iface ?_; refine RW.y (Y.iface rfl) rfl ?_))
    refine RW.extW rfl (ext_clone _ hb) rfl ?_
    refine RW.y (Y.assertMap (k := 9) (e := 9) (by kernel_rfl) rfl) rfl ?_
    repeat' (first | (refine CL.ret ?_) | (refine Gt.nil ?_; refine RW.nilw [0, 2, 4] ?_; dsimp only [H.keep, H.look, H.Fr.put, Nat.beq]) | (refine Gt.assign ?_; refine RW.y (Y.assign rfl) rfl ?_))
    exact FQ.one rfl rfl rfl ⟨rfl, rfl⟩
theorem pr_518 {fl : Nat} : Pr1 Tryz.prog fl 516 fun _ vs h kr _ => cloneP vs h kr := by
  refine cloneP_ok (fun w => ?_) fun w r es ck hb => ?_
  · refine H.enter Tryz.func516 Tryz.ntmps516 rfl rfl ?_; dsimp only [H.args]
    repeat' (first | (refine CL.seq ?_) | (refine CL.region ?_) | (refine Gt.nil ?_; refine RW.nilw [0, 2, 4] ?_; dsimp only [H.keep, H.look, H.Fr.put, Nat.beq]) | (refine Gt.assign ?_; refine RW.y (Y.assign rfl) rfl ?_) | (refine Gt.move ?_; refine RW.y (Y.move rfl) rfl ?_))
    refine RW.y (Y.eqMapNil (k := 9) (e := 3) (by kernel_rfl) rfl rfl) rfl ?_
    repeat' (first | (refine CL.seq ?_) | (refine CL.region ?_) | (refine CL.condT rfl ?_) | (refine CL.ret ?_) | (refine Gt.nil ?_; refine RW.nilw [0, 2, 4] ?_; dsimp only [H.keep, H.look, H.Fr.put, Nat.beq]) | (refine Gt.assign ?_; refine RW.y (Y.assign rfl) rfl ?_))
    exact FQ.one rfl rfl rfl ⟨rfl, Kept.refl _ _⟩
  · refine H.enter Tryz.func516 Tryz.ntmps516 rfl rfl ?_; dsimp only [H.args]
    repeat' (first | (refine CL.seq ?_) | (refine CL.region ?_) | (refine Gt.nil ?_; refine RW.nilw [0, 2, 4] ?_; dsimp only [H.keep, H.look, H.Fr.put, Nat.beq]) | (refine Gt.assign ?_; refine RW.y (Y.assign rfl) rfl ?_) | (refine Gt.move ?_; refine RW.y (Y.move rfl) rfl ?_))
    refine RW.y (Y.eqMapNil (k := 9) (e := 3) (by kernel_rfl) rfl rfl) rfl ?_
    repeat' (first | (refine CL.seq ?_) | (refine CL.region ?_) | (refine CL.skip ?_) | (refine CL.condF rfl ?_) | (refine Gt.nil ?_; refine RW.nilw [0, 2, 4] ?_; dsimp only [H.keep, H.look, H.Fr.put, Nat.beq]) | (refine Gt.move ?_; refine RW.y (Y.move rfl) rfl ?_) | (refine Gt.iface ?_; refine RW.y (Y.iface rfl) rfl ?_))
    refine RW.extW rfl (ext_clone _ hb) rfl ?_
    refine RW.y (Y.assertMap (k := 9) (e := 3) (by kernel_rfl) rfl) rfl ?_
    repeat' (first | (refine CL.ret ?_) | (refine Gt.nil ?_; refine RW.nilw [0, 2, 4] ?_; dsimp only [H.keep, H.look, H.Fr.put, Nat.beq]) | (refine Gt.assign ?_; refine RW.y (Y.assign rfl) rfl ?_))
    exact FQ.one rfl rfl rfl ⟨rfl, rfl⟩
end Go.Proofs.YtoafcnecjgnbmaaGreatDoor.E

set_option linter.constructorNameAsVariable false
set_option linter.unusedVariables false
namespace Go.Proofs.YtoafcnecjgnbmaaGreatDoor.E
open Go Go.RowKit H Go.Extern
section
variable {M : Option (Option Nat)} {P : Program} {ops : Array Oper} {Q : Post} {rest : List Oper} {f : Fr} {w w' : World} {d ty : Nat} {pos : String} {af : Array Edge}
theorem RW.inv {x : Operand} {m : String} {xs : List Operand} {rv u : Value} {l : List Value} {at' : Array TypeId} (hx : f.ev x = some rv) (hv : f.evs xs = some l) (hd : Nat.blt d f.n = true) (hr : (callMethod rv m l.toArray).run P w = .ok (.value u) w') (k : RW M P ops Q rest (f.put d u) w') : RW M P ops Q (op1 d (.call { callee := .invoke x m, args := xs.toArray, argTypes := at' }) ty pos af :: rest) f w :=
  RW.val rfl rfl hd (fun a ha => by simp [execOp, resolve, invoke, ha.eval hx, ha.evs xs l hv, hr]) k
theorem RW.invE {x : Operand} {m : String} {xs : List Operand} {rv : Value} {l : List Value} {at' : Array TypeId} {g : FuncId} {zs : List Value} (hx : f.ev x = some rv) (hv : f.evs xs = some l) (hd : Nat.blt d f.n = true) (hr : (callMethod rv m l.toArray).run P w = .ok (.enter g zs.toArray) w) (h : Calls P g zs.toArray w (After M P ops Q rest f d)) : RW M P ops Q (op1 d (.call { callee := .invoke x m, args := xs.toArray, argTypes := at' }) ty pos af :: rest) f w := by
  refine RW.call (args := zs.toArray) rfl hd (fun a ha => ?_) h fun e w' hR => by cases e <;> exact hR
  simp [execOp, resolve, invoke, ha.eval hx, ha.evs xs l hv, hr]
theorem Y.asrt {x : Operand} {xt t : TypeId} {v u : Value} {c : Bool} (hx : f.ev x = some v) (hr : (Instr.typeAssert v xt t c).run P w = .ok u w) : Yd P f (op1 d (.typeAssert x xt t c) ty pos af) u w := fun a ha => by
  simp [execOp, ha.eval hx, hr]
end
attribute [local irreducible] H.CL H.RW H.CW H.Yd H.thenK H.blockQ Go.Calls
def hT (t : Nat) : Value := .pointer (some ⟨9, t, none⟩)
def rT (t : Nat) : Value := .iface 512 (.agg #[hT t])
def rV (t : Nat) (a : Addr) (fl : Int) : Value := .agg #[hT t, .pointer (some a), .int .u64 fl]
structure AsT (T TP : Nat) (ok : Value → Prop) (fl1 fl2 : Int) : Prop where
  vo : ∀ w v, ok v → (callFunc 315 #[.iface T v]).run Tryz.prog w = .ok (.value (rV T ⟨w.heap.size, 0, none⟩ fl1)) (w.alloc (.cells #[v] T))
  el : ∀ W a ta, W.cell? a = some (.pointer (some ta)) → (callFunc 382 #[rV TP a 150]).run Tryz.prog W = .ok (.value (rV T ta fl2)) W
  st : ∀ W ta b old v, ok v → W.cell? b = some v → W.cell? ta = some old → W.frozen? ta = false → (callFunc 383 #[rV T ta fl2, rV T b fl1]).run Tryz.prog W = .ok (.value (.tuple #[])) (W.setCell ta v)
  hit : ∀ w, (callMethod (rT T) "AssignableTo" #[rT T]).run Tryz.prog w = .ok (.value (.bool true)) w
  fau : T ≠ 351 ∧ ∀ w, (callMethod (rT 351) "AssignableTo" #[rT T]).run Tryz.prog w = .ok (.value (.bool false)) w
  con : T ≠ 639 → ∀ w, (callMethod (rT 639) "AssignableTo" #[rT T]).run Tryz.prog w = .ok (.value (.bool false)) w
  ty : ∀ w v, ok v → (callFunc 374 #[.iface T v]).run Tryz.prog w = .ok (.value (rT T)) w
theorem rlm (z : Sem Value) (f : TypeId → Addr → Nat → Nat → Sem Value) (v : Value) :
    ReflectliteValue.method z f #[v] = (do match ← ReflectliteValue.parts v with | none => z | some (t, a, fl) => f t a fl (fl % 32)) := rfl
theorem rls (v x : Value) : ReflectliteValue.set #[v, x] = (do
    let (some (dst, a, fl), some (src, b, _)) := (← ReflectliteValue.parts v, ← ReflectliteValue.parts x)
      | unsupported (.noEntry "extern/(internal/reflectlite.Value).Set.zeroValue")
    if fl / ReflectliteValue.flagAddr % 2 == 0 then unsupported (.noEntry "extern/(internal/reflectlite.Value).Set.unaddressable")
    let val ← loadVar src b
    if ← Rtype.directlyAssignable dst src then storeVar dst a val
    else if ← Rtype.implements dst src then
      if (← Rtype.kind src) == 20 then
        match val with
        | .nilIface => unsupported (.noEntry "extern/reflectlite: a nil value of one interface type handed on as a value of another")
        | _ => storeVar dst a val
      else storeVar dst a (.iface src val)
    else panicString ("reflectlite.Set: value of type " ++ (← Rtype.spelt src) ++ " is not assignable to type " ++ (← Rtype.spelt dst))
    pure (.tuple #[])) := rfl
theorem parts351 (a : Addr) (w : World) : (ReflectliteValue.parts (rV 350 a 150)).run Tryz.prog w = .ok (some (350, a, 150)) w := by kernel_rfl
theorem parts59a (a : Addr) (w : World) : (ReflectliteValue.parts (rV 51 a 386)).run Tryz.prog w = .ok (some (51, a, 386)) w := by kernel_rfl
theorem parts59 (a : Addr) (w : World) : (ReflectliteValue.parts (rV 51 a 130)).run Tryz.prog w = .ok (some (51, a, 130)) w := by kernel_rfl
theorem elemOf351 (w : World) : (Rtype.elem? 350).run Tryz.prog w = .ok (some 51) w := by kernel_rfl
theorem mk59 (p : Addr) (w : World) : (ReflectliteValue.mk 51 p ReflectliteValue.flagAddr).run Tryz.prog w = .ok (rV 51 p 386) w := by kernel_rfl
theorem direct59 (w : World) : (Rtype.directlyAssignable 51 51).run Tryz.prog w = .ok true w := by kernel_rfl
theorem el59 (W : World) (a ta : Addr) (ha : W.cell? a = some (.pointer (some ta))) : (callFunc 382 #[rV 350 a 150]).run Tryz.prog W = .ok (.value (rV 51 ta 386)) W := by
  rw [@run_callFunc_extern Tryz.prog 382 _ (ReflectliteValue.method (ReflectliteValue.valueError "reflectlite.Value.Elem" 0) ReflectliteValue.elem) Tryz.func382 (by kernel_rfl) (by kernel_rfl) (by kernel_rfl) (by kernel_rfl), rlm]
  simp only [Sem.run_bind, parts351, Result.andThen]
  simp [ReflectliteValue.elem, loadVar, isAgg, underlying, Tryz.underlying350, ha, Result.andThen, elemOf351, mk59]
theorem st59 (W : World) (ta b : Addr) (old v : Value) (h1 : v.oneCell' = true) (hb : W.cell? b = some v) (ht : W.cell? ta = some old) (hf : W.frozen? ta = false) : (callFunc 383 #[rV 51 ta 386, rV 51 b 130]).run Tryz.prog W = .ok (.value (.tuple #[])) (W.setCell ta v) := by
  rw [@run_callFunc_extern Tryz.prog 383 _ ReflectliteValue.set Tryz.func383 (by kernel_rfl) (by kernel_rfl) (by kernel_rfl) (by kernel_rfl), rls]
  simp only [Sem.run_bind, parts59a, parts59, Result.andThen]
  have hcs : v.cells = #[v] := by cases v <;> first | rfl | cases h1
  simp [ReflectliteValue.flagAddr, loadVar, isAgg, underlying, Tryz.underlying51, hb, Result.andThen, direct59, storeVar, hcs, storeCells, Addr.add]
  rw [run_store Tryz.prog W ta _ _ h1]
  simp [ht, hf]
theorem parts641 (a : Addr) (w : World) : (ReflectliteValue.parts (rV 640 a 150)).run Tryz.prog w = .ok (some (640, a, 150)) w := by kernel_rfl
theorem parts640a (a : Addr) (w : World) : (ReflectliteValue.parts (rV 639 a 406)).run Tryz.prog w = .ok (some (639, a, 406)) w := by kernel_rfl
theorem parts640 (a : Addr) (w : World) : (ReflectliteValue.parts (rV 639 a 150)).run Tryz.prog w = .ok (some (639, a, 150)) w := by kernel_rfl
theorem elemOf641 (w : World) : (Rtype.elem? 640).run Tryz.prog w = .ok (some 639) w := by kernel_rfl
theorem mk640 (p : Addr) (w : World) : (ReflectliteValue.mk 639 p ReflectliteValue.flagAddr).run Tryz.prog w = .ok (rV 639 p 406) w := by kernel_rfl
theorem direct640 (w : World) : (Rtype.directlyAssignable 639 639).run Tryz.prog w = .ok true w := by kernel_rfl
theorem el640 (W : World) (a ta : Addr) (ha : W.cell? a = some (.pointer (some ta))) : (callFunc 382 #[rV 640 a 150]).run Tryz.prog W = .ok (.value (rV 639 ta 406)) W := by
  rw [@run_callFunc_extern Tryz.prog 382 _ (ReflectliteValue.method (ReflectliteValue.valueError "reflectlite.Value.Elem" 0) ReflectliteValue.elem) Tryz.func382 (by kernel_rfl) (by kernel_rfl) (by kernel_rfl) (by kernel_rfl), rlm]
  simp only [Sem.run_bind, parts641, Result.andThen]
  simp [ReflectliteValue.elem, loadVar, isAgg, underlying, Tryz.underlying640, ha, Result.andThen, elemOf641, mk640]
theorem st640 (W : World) (ta b : Addr) (old v : Value) (h1 : v.oneCell' = true) (hb : W.cell? b = some v) (ht : W.cell? ta = some old) (hf : W.frozen? ta = false) : (callFunc 383 #[rV 639 ta 406, rV 639 b 150]).run Tryz.prog W = .ok (.value (.tuple #[])) (W.setCell ta v) := by
  rw [@run_callFunc_extern Tryz.prog 383 _ ReflectliteValue.set Tryz.func383 (by kernel_rfl) (by kernel_rfl) (by kernel_rfl) (by kernel_rfl), rls]
  simp only [Sem.run_bind, parts640a, parts640, Result.andThen]
  have hcs : v.cells = #[v] := by cases v <;> first | rfl | cases h1
  simp [ReflectliteValue.flagAddr, loadVar, isAgg, underlying, Tryz.underlying639, hb, Result.andThen, direct640, storeVar, hcs, storeCells, Addr.add]
  rw [run_store Tryz.prog W ta _ _ h1]
  simp [ht, hf]
theorem as59 : AsT 51 350 (fun v => ∃ n, v = .int .i64 n) 130 386 := {
  vo := fun w v ⟨n, hv⟩ => by subst hv; kernel_rfl
  el := el59
  st := fun W ta b old v ⟨n, hv⟩ hb ht hf => st59 W ta b old v (by subst hv; rfl) hb ht hf
  hit := fun w => by kernel_rfl
  fau := ⟨by decide, fun w => by kernel_rfl⟩
  con := fun _ w => by kernel_rfl
  ty := fun w v _ => by kernel_rfl }
theorem as640 : AsT 639 640 (fun v => ∃ p, v = .pointer (some p)) 150 406 := {
  vo := fun w v ⟨n, hv⟩ => by subst hv; kernel_rfl
  el := el640
  st := fun W ta b old v ⟨n, hv⟩ hb ht hf => st640 W ta b old v (by subst hv; rfl) hb ht hf
  hit := fun w => by kernel_rfl
  fau := ⟨by decide, fun w => by kernel_rfl⟩
  con := fun c => (c rfl).elim
  ty := fun w v _ => by kernel_rfl }
end Go.Proofs.YtoafcnecjgnbmaaGreatDoor.E

set_option linter.constructorNameAsVariable false
set_option linter.unusedVariables false
namespace Go.Proofs.YtoafcnecjgnbmaaGreatDoor.E
open Go Go.RowKit H Go.Extern Go.Extern.Stop
section
variable {P : Program} {f : Fr} {w : World} {d ty : Nat} {pos : String} {af : Array Edge}
theorem Y.ifcNil {t yt : TypeId} (ht : P.isIface t = true) {x y : Operand} {s : TypeId} {v : Value} (hx : f.ev x = some (.iface s v)) (hy : f.ev y = some .nilIface) : Yd P f (op1 d (.binOp .eql t x y yt) ty pos af) (.bool false) w := fun a ha => by
  simp [execOp, ha.eval hx, ha.eval hy, noGuard (P := P) .eql t x y (.iface s v) .nilIface (by simp) (by simp), run_eql_iface_nil (w := w) t ht s v]
theorem Y.ifcNN {t yt : TypeId} (ht : P.isIface t = true) {n : Nat} (hx : f.ev (.tmp n) = some .nilIface) : Yd P f (op1 d (.binOp .eql t (.tmp n) (.const .nilIface) yt) ty pos af) (.bool true) w := fun a ha => by
  have e : a.eval (.const .nilIface) = .nilIface := rfl
  have g : (eqGuard .eql t (.tmp n) (.const .nilIface) .nilIface .nilIface).run P w = .ok () w := by rfl
  simp [execOp, ha.eval hx, e, g, run_eql_nil_nil_at (w := w) t ht]
theorem Y.ifcEq {t yt : TypeId} {x y : Operand} {s : TypeId} {u v : Value} {b : Bool} (hr : (binOp .eql t (.iface s u) v).run P w = .ok (.bool b) w) (hx : f.ev x = some (.iface s u)) (hy : f.ev y = some v) : Yd P f (op1 d (.binOp .eql t x y yt) ty pos af) (.bool b) w := fun a ha => by
  simp [execOp, ha.eval hx, ha.eval hy, noGuard (P := P) .eql t x y (.iface s u) v (by simp) (by simp), hr]
end
attribute [local irreducible] H.CL H.RW H.CW H.Yd H.thenK H.blockQ Go.Calls
theorem unwF {w : World} {g o : Nat} {e : Value} (h : w.cell? ⟨g, o + 2, none⟩ = some e) : Calls Tryz.prog 590 #[.pointer (some ⟨g, o, none⟩)] w fun e' w' => e' = .returned e ∧ w' = w := by
  refine H.enter Tryz.func590 Tryz.ntmps590 rfl rfl ?_; dsimp only [H.args]
  repeat' (first | (refine CL.seq ?_) | (refine CL.region ?_) | (refine CL.ret ?_) | (refine Gt.nil ?_; refine RW.nilw [0, 2] ?_; dsimp only [H.keep, H.look, H.Fr.put, Nat.beq]) | (refine RW.y (Y.load1 rfl h) rfl ?_) | (refine Gt.assign ?_; refine RW.y (Y.assign rfl) rfl ?_) | (refine Gt.move ?_; refine RW.y (Y.move rfl) rfl ?_) | (refine Gt.nilck ?_; refine RW.y (Y.nilck rfl) rfl ?_) | (refine Gt.fieldAddr ?_; refine RW.y (Y.fieldAddr rfl (by rfl)) rfl ?_))
  exact FQ.one rfl rfl rfl ⟨rfl, rfl⟩
theorem unwC {w : World} {g o : Nat} {e : Value} (h : w.cell? ⟨g, o + 1, none⟩ = some e) : Calls Tryz.prog 614 #[.pointer (some ⟨g, o, none⟩)] w fun e' w' => e' = .returned e ∧ w' = w := by
  refine H.enter Tryz.func614 Tryz.ntmps614 rfl rfl ?_; dsimp only [H.args]
  repeat' (first | (refine CL.seq ?_) | (refine CL.region ?_) | (refine CL.ret ?_) | (refine Gt.nil ?_; refine RW.nilw [0, 2] ?_; dsimp only [H.keep, H.look, H.Fr.put, Nat.beq]) | (refine RW.y (Y.load1 rfl h) rfl ?_) | (refine Gt.assign ?_; refine RW.y (Y.assign rfl) rfl ?_) | (refine Gt.move ?_; refine RW.y (Y.move rfl) rfl ?_) | (refine Gt.nilck ?_; refine RW.y (Y.nilck rfl) rfl ?_) | (refine Gt.fieldAddr ?_; refine RW.y (Y.fieldAddr rfl (by rfl)) rfl ?_))
  exact FQ.one rfl rfl rfl ⟨rfl, rfl⟩
/-- An error that leads to one of type T. -/
inductive Ch (w : World) (T : Nat) (v : Value) : Nat → Value → Prop where
  | hit : Ch w T v 0 (.iface T v)
  | fau {g o e n} : w.cell? ⟨g, o + 2, none⟩ = some e → Ch w T v n e → Ch w T v (n + 1) (.iface 351 (.pointer (some ⟨g, o, none⟩)))
  | con {g o e n} : T ≠ 639 → w.cell? ⟨g, o + 1, none⟩ = some e → Ch w T v n e → Ch w T v (n + 1) (.iface 639 (.pointer (some ⟨g, o, none⟩)))
theorem Ch.shape {w : World} {T : Nat} {v : Value} {n : Nat} {e : Value} (h : Ch w T v n e) : ∃ t u, e = .iface t u := by cases h <;> exact ⟨_, _, rfl⟩
theorem tyF (w : World) (v : Value) : (callFunc 374 #[.iface 351 v]).run Tryz.prog w = .ok (.value (rT 351)) w := by kernel_rfl
theorem tyC (w : World) (v : Value) : (callFunc 374 #[.iface 639 v]).run Tryz.prog w = .ok (.value (rT 639)) w := by kernel_rfl
theorem mF (w : World) (p : Addr) : (callMethod (.iface 351 (.pointer (some p))) "Unwrap" #[]).run Tryz.prog w = .ok (.enter 590 #[.pointer (some p)]) w := by kernel_rfl
theorem mC (w : World) (p : Addr) : (callMethod (.iface 639 (.pointer (some p))) "Unwrap" #[]).run Tryz.prog w = .ok (.enter 614 #[.pointer (some p)]) w := by kernel_rfl
theorem asF (w : World) (v : Value) : (Instr.typeAssert (.iface 351 v) 201 516 true).run Tryz.prog w = .ok (.tuple #[.nilIface, .bool false]) w := run_typeAssert_lacksB Tryz.underlying516 (by kernel_rfl) (by kernel_rfl) v _ w
theorem asC (w : World) (v : Value) : (Instr.typeAssert (.iface 639 v) 201 516 true).run Tryz.prog w = .ok (.tuple #[.nilIface, .bool false]) w := run_typeAssert_lacksB Tryz.underlying516 (by kernel_rfl) (by kernel_rfl) v _ w
theorem unF (w : World) (v : Value) : (Instr.typeAssert (.iface 351 v) 201 519 true).run Tryz.prog w = .ok (.tuple #[.iface 351 v, .bool true]) w := run_typeAssert_hasB Tryz.underlying519 (by kernel_rfl) v _ w
theorem unC (w : World) (v : Value) : (Instr.typeAssert (.iface 639 v) 201 519 true).run Tryz.prog w = .ok (.tuple #[.iface 639 v, .bool true]) w := run_typeAssert_hasB Tryz.underlying519 (by kernel_rfl) v _ w
theorem cell_lt2 {w : World} {a : Addr} {v : Value} (h : w.cell? a = some v) : a.block < w.heap.size := by
  rcases Nat.lt_or_ge a.block w.heap.size with c | c
  · exact c
  · simp [World.cell?, Array.getElem?_eq_none c] at h
theorem cell2 {S : Nat → Prop} {w w' : World} (k : Kept S w w') {a : Addr} {v : Value} (h : w.cell? a = some v) (hS : ¬ S a.block) : w'.cell? a = some v := by
  rw [← h]; simp only [World.cell?]; rw [k.block _ (cell_lt2 h) hS]
theorem frozen2 {S : Nat → Prop} {w w' : World} (k : Kept S w w') {a : Addr} (h : a.block < w.heap.size) (hS : ¬ S a.block) : w'.frozen? a = w.frozen? a := by
  simp only [World.frozen?]; rw [k.block _ h hS]
set_option maxHeartbeats 2000000 in
theorem asLoop {T TP : Nat} {ok : Value → Prop} {fl1 fl2 : Int} (A : AsT T TP ok fl1 fl2) {err v old : Value} {n : Nat} (hv : ok v) {w : World} (hC : Ch w T v n err) (ta a : Addr) (ht : w.cell? ta = some old) (hf : w.frozen? ta = false) (ha : w.cell? a = some (.pointer (some ta))) :
    Calls Tryz.prog 318 #[err, .iface TP (.pointer (some ta)), rV TP a 150, rT T] w fun e w' => e = .returned (.bool true) ∧ ∃ W, K0 w W ∧ w' = W.setCell ta v := by
  refine H.enter Tryz.func318 Tryz.ntmps318 rfl rfl ?_; dsimp only [H.args]
  repeat' (first | (refine CL.seq ?_) | (refine CL.region ?_))
  refine RW.box rfl rfl (fun w1 hb1 hk1 hl1 => ?_)
  repeat' (first | (refine CL.block ?_) | (refine Gt.nil ?_; refine RW.nilw [0, 1, 2, 3, 6, 8, 9, 10, 11, 12, 14, 19, 35, 36, 38, 39, 43, 45, 46, 48, 49, 50, 51, 55, 60] ?_; dsimp only [H.keep, H.look, H.Fr.put, Nat.beq]) | (refine Gt.assign ?_; refine RW.y (Y.assign rfl) rfl ?_))
  refine CL.loopS [0, 1, 3, 6] (fun m vals wr => ∃ err, vals = [err, .iface TP (.pointer (some ta)), rT T, .pointer (some ⟨w.heap.size, 0, none⟩)] ∧ Ch w T v m err ∧ K0 w wr ∧ wr.heap[w.heap.size]? = some (.cells #[hT TP, .pointer (some a), .int .u64 150] 438 (0, 0))) n ⟨_, rfl, err, rfl, hC, hk1, hb1⟩ ?_
  rintro m vals wr ⟨er, rfl, hCr, hkr, hbr⟩
  dsimp only [List.zip, List.zipWith]
  cases hCr with
  | hit =>
    repeat' (first | (refine CL.seq ?_) | (refine CL.region ?_) | (refine CL.block ?_) | (refine Gt.move ?_; refine RW.y (Y.move rfl) rfl ?_))
    refine RW.extW rfl (A.ty _ v hv) rfl ?_
    repeat' ((refine Gt.move ?_; refine RW.y (Y.move rfl) rfl ?_))
    refine RW.inv rfl rfl rfl (A.hit _) ?_
    repeat' (first | (refine CL.seq ?_) | (refine CL.region ?_) | (refine CL.condT rfl ?_) | (refine Gt.nil ?_; refine RW.nilw [0, 1, 2, 3, 6, 8, 9, 10, 11, 12, 14, 19, 35, 36, 38, 39, 43, 45, 46, 48, 49, 50, 51, 55, 60] ?_; dsimp only [H.keep, H.look, H.Fr.put, Nat.beq]))
    have htl := cell_lt2 ht
    have hal := cell_lt2 ha
    refine RW.y (Y.loadBlock rfl hbr rfl) rfl ?_
    refine RW.extW rfl (A.el wr a ta (cell2 hkr ha id)) rfl ?_
    repeat' ((refine Gt.move ?_; refine RW.y (Y.move rfl) rfl ?_))
    refine RW.extW rfl (A.vo wr v hv) rfl ?_
    refine RW.extW rfl (A.st _ ta _ old v hv (by rw [World.cell?_alloc_at _ _ _ _ (by simp)]; rfl) (cell2 (hkr.trans0 (Kept.alloc wr _)) ht id) (by rw [frozen2 (hkr.trans0 (Kept.alloc wr _)) htl id]; exact hf)) rfl ?_
    repeat' (first | (refine CL.seq ?_) | (refine CL.region ?_) | (refine CL.ret ?_) | (refine Rt.then ?_) | (refine Rt.block ?_) | (refine Gt.nil ?_; refine RW.nilw [0, 1, 2, 3, 6, 8, 9, 10, 11, 12, 14, 19, 35, 36, 38, 39, 43, 45, 46, 48, 49, 50, 51, 55, 60] ?_; dsimp only [H.keep, H.look, H.Fr.put, Nat.beq]) | (refine Gt.assign ?_; refine RW.y (Y.assign rfl) rfl ?_))
    exact FQ.one rfl rfl rfl ⟨rfl, _, hkr.trans0 (Kept.alloc wr _), rfl⟩
  | fau hc hC2 =>
    obtain ⟨t5, u5, he5⟩ := hC2.shape
    subst he5
    repeat' (first | (refine CL.seq ?_) | (refine CL.region ?_) | (refine CL.block ?_) | (refine Gt.move ?_; refine RW.y (Y.move rfl) rfl ?_))
    refine RW.extW rfl (tyF _ _) rfl ?_
    repeat' ((refine Gt.move ?_; refine RW.y (Y.move rfl) rfl ?_))
    refine RW.inv rfl rfl rfl (A.fau.2 _) ?_
    repeat' (first | (refine CL.seq ?_) | (refine CL.region ?_) | (refine CL.skip ?_) | (refine CL.condF rfl ?_) | (refine Gt.nil ?_; refine RW.nilw [0, 1, 2, 3, 6, 8, 9, 10, 11, 12, 14, 19, 35, 36, 38, 39, 43, 45, 46, 48, 49, 50, 51, 55, 60] ?_; dsimp only [H.keep, H.look, H.Fr.put, Nat.beq]) | (refine Gt.move ?_; refine RW.y (Y.move rfl) rfl ?_))
    refine RW.y (Y.asrt rfl (asF _ _)) rfl ?_
    repeat' (first | (refine CL.seq ?_) | (refine CL.region ?_) | (refine CL.skip ?_) | (refine CL.condF rfl ?_) | (refine CL.block ?_) | (refine Gt.nil ?_; refine RW.nilw [0, 1, 2, 3, 6, 8, 9, 10, 11, 12, 14, 19, 35, 36, 38, 39, 43, 45, 46, 48, 49, 50, 51, 55, 60] ?_; dsimp only [H.keep, H.look, H.Fr.put, Nat.beq]) | (refine Gt.move ?_; refine RW.y (Y.move rfl) rfl ?_) | (refine Gt.guard ?_; (refine RW.off1 rfl rfl rfl rfl rfl ?_)) | (refine Gt.assign ?_; refine RW.y (Y.assign rfl) rfl ?_) | (refine Gt.extract ?_; refine RW.y (Y.extract rfl rfl) rfl ?_) | (refine Gt.pick ?_; (refine RW.y (Y.pickF rfl rfl) rfl ?_)))
    refine RW.y (Y.asrt rfl (unF _ _)) rfl ?_
    repeat' (first | (refine CL.seq ?_) | (refine CL.region ?_) | (refine CL.condT rfl ?_) | (refine Gt.nil ?_; refine RW.nilw [0, 1, 2, 3, 6, 8, 9, 10, 11, 12, 14, 19, 35, 36, 38, 39, 43, 45, 46, 48, 49, 50, 51, 55, 60] ?_; dsimp only [H.keep, H.look, H.Fr.put, Nat.beq]) | (refine Gt.move ?_; refine RW.y (Y.move rfl) rfl ?_) | (refine Gt.assign ?_; refine RW.y (Y.assign rfl) rfl ?_) | (refine Gt.extract ?_; refine RW.y (Y.extract rfl rfl) rfl ?_))
    refine RW.invE rfl rfl rfl (mF _ _) ((unwF (cell2 hkr hc id)).mono ?_)
    rintro e w5 ⟨rfl, rfl⟩
    repeat' (first | (refine CL.seq ?_) | (refine CL.region ?_) | (refine Gt.nil ?_; refine RW.nilw [0, 1, 2, 3, 6, 8, 9, 10, 11, 12, 14, 19, 35, 36, 38, 39, 43, 45, 46, 48, 49, 50, 51, 55, 60] ?_; dsimp only [H.keep, H.look, H.Fr.put, Nat.beq]) | (refine Gt.move ?_; refine RW.y (Y.move rfl) rfl ?_) | (refine Gt.assign ?_; refine RW.y (Y.assign rfl) rfl ?_))
    refine RW.y (Y.ifcNil (by kernel_rfl) rfl rfl) rfl ?_
    repeat' (first | (refine CL.skip ?_) | (refine CL.condF rfl ?_) | (refine CL.done ?_) | (refine Nm.block ?_) | (refine Nm.then ?_) | (refine Gt.nil ?_; refine RW.nilw [0, 1, 2, 3, 6, 8, 9, 10, 11, 12, 14, 19, 35, 36, 38, 39, 43, 45, 46, 48, 49, 50, 51, 55, 60] ?_; dsimp only [H.keep, H.look, H.Fr.put, Nat.beq]))
    exact ⟨_, _, rfl, rfl, rfl, Nat.lt_succ_self _, _, rfl, hC2, hkr, hbr⟩
  | con hT2 hc hC2 =>
    obtain ⟨t5, u5, he5⟩ := hC2.shape
    subst he5
    repeat' (first | (refine CL.seq ?_) | (refine CL.region ?_) | (refine CL.block ?_) | (refine Gt.move ?_; refine RW.y (Y.move rfl) rfl ?_))
    refine RW.extW rfl (tyC _ _) rfl ?_
    repeat' ((refine Gt.move ?_; refine RW.y (Y.move rfl) rfl ?_))
    refine RW.inv rfl rfl rfl (A.con hT2 _) ?_
    repeat' (first | (refine CL.seq ?_) | (refine CL.region ?_) | (refine CL.skip ?_) | (refine CL.condF rfl ?_) | (refine Gt.nil ?_; refine RW.nilw [0, 1, 2, 3, 6, 8, 9, 10, 11, 12, 14, 19, 35, 36, 38, 39, 43, 45, 46, 48, 49, 50, 51, 55, 60] ?_; dsimp only [H.keep, H.look, H.Fr.put, Nat.beq]) | (refine Gt.move ?_; refine RW.y (Y.move rfl) rfl ?_))
    refine RW.y (Y.asrt rfl (asC _ _)) rfl ?_
    repeat' (first | (refine CL.seq ?_) | (refine CL.region ?_) | (refine CL.skip ?_) | (refine CL.condF rfl ?_) | (refine CL.block ?_) | (refine Gt.nil ?_; refine RW.nilw [0, 1, 2, 3, 6, 8, 9, 10, 11, 12, 14, 19, 35, 36, 38, 39, 43, 45, 46, 48, 49, 50, 51, 55, 60] ?_; dsimp only [H.keep, H.look, H.Fr.put, Nat.beq]) | (refine Gt.move ?_; refine RW.y (Y.move rfl) rfl ?_) | (refine Gt.guard ?_; (refine RW.off1 rfl rfl rfl rfl rfl ?_)) | (refine Gt.assign ?_; refine RW.y (Y.assign rfl) rfl ?_) | (refine Gt.extract ?_; refine RW.y (Y.extract rfl rfl) rfl ?_) | (refine Gt.pick ?_; (refine RW.y (Y.pickF rfl rfl) rfl ?_)))
    refine RW.y (Y.asrt rfl (unC _ _)) rfl ?_
    repeat' (first | (refine CL.seq ?_) | (refine CL.region ?_) | (refine CL.condT rfl ?_) | (refine Gt.nil ?_; refine RW.nilw [0, 1, 2, 3, 6, 8, 9, 10, 11, 12, 14, 19, 35, 36, 38, 39, 43, 45, 46, 48, 49, 50, 51, 55, 60] ?_; dsimp only [H.keep, H.look, H.Fr.put, Nat.beq]) | (refine Gt.move ?_; refine RW.y (Y.move rfl) rfl ?_) | (refine Gt.assign ?_; refine RW.y (Y.assign rfl) rfl ?_) | (refine Gt.extract ?_; refine RW.y (Y.extract rfl rfl) rfl ?_))
    refine RW.invE rfl rfl rfl (mC _ _) ((unwC (cell2 hkr hc id)).mono ?_)
    rintro e w5 ⟨rfl, rfl⟩
    repeat' (first | (refine CL.seq ?_) | (refine CL.region ?_) | (refine Gt.nil ?_; refine RW.nilw [0, 1, 2, 3, 6, 8, 9, 10, 11, 12, 14, 19, 35, 36, 38, 39, 43, 45, 46, 48, 49, 50, 51, 55, 60] ?_; dsimp only [H.keep, H.look, H.Fr.put, Nat.beq]) | (refine Gt.move ?_; refine RW.y (Y.move rfl) rfl ?_) | (refine Gt.assign ?_; refine RW.y (Y.assign rfl) rfl ?_))
    refine RW.y (Y.ifcNil (by kernel_rfl) rfl rfl) rfl ?_
    repeat' (first | (refine CL.skip ?_) | (refine CL.condF rfl ?_) | (refine CL.done ?_) | (refine Nm.block ?_) | (refine Nm.then ?_) | (refine Gt.nil ?_; refine RW.nilw [0, 1, 2, 3, 6, 8, 9, 10, 11, 12, 14, 19, 35, 36, 38, 39, 43, 45, 46, 48, 49, 50, 51, 55, 60] ?_; dsimp only [H.keep, H.look, H.Fr.put, Nat.beq]))
    exact ⟨_, _, rfl, rfl, rfl, Nat.lt_succ_self _, _, rfl, hC2, hkr, hbr⟩
end Go.Proofs.YtoafcnecjgnbmaaGreatDoor.E

set_option linter.constructorNameAsVariable false
set_option linter.unusedVariables false
namespace Go.Proofs.YtoafcnecjgnbmaaGreatDoor.E
open Go Go.RowKit H Go.Extern Go.Extern.Stop
attribute [local irreducible] H.CL H.RW H.CW H.Yd H.thenK H.blockQ Go.Calls
theorem isNil351 (W : World) (a p : Addr) (ha : W.cell? a = some (.pointer (some p))) : (callFunc 317 #[rV 350 a 150]).run Tryz.prog W = .ok (.value (.bool false)) W := by
  rw [@run_callFunc_extern Tryz.prog 317 _ (ReflectliteValue.method (ReflectliteValue.valueError "reflectlite.Value.IsNil" 0) ReflectliteValue.isNil) Tryz.func317 (by kernel_rfl) (by kernel_rfl) (by kernel_rfl) (by kernel_rfl), rlm]
  simp only [Sem.run_bind, parts351, Result.andThen]
  simp [ReflectliteValue.isNil, loadVar, isAgg, underlying, Tryz.underlying350, ha, Result.andThen]
theorem isNil641 (W : World) (a p : Addr) (ha : W.cell? a = some (.pointer (some p))) : (callFunc 317 #[rV 640 a 150]).run Tryz.prog W = .ok (.value (.bool false)) W := by
  rw [@run_callFunc_extern Tryz.prog 317 _ (ReflectliteValue.method (ReflectliteValue.valueError "reflectlite.Value.IsNil" 0) ReflectliteValue.isNil) Tryz.func317 (by kernel_rfl) (by kernel_rfl) (by kernel_rfl) (by kernel_rfl), rlm]
  simp only [Sem.run_bind, parts641, Result.andThen]
  simp [ReflectliteValue.isNil, loadVar, isAgg, underlying, Tryz.underlying640, ha, Result.andThen]
structure AsT2 (T TP : Nat) (kd : Int) : Prop where
  tv : ∀ w p, (callFunc 315 #[.iface TP (.pointer (some p))]).run Tryz.prog w = .ok (.value (rV TP ⟨w.heap.size, 0, none⟩ 150)) (w.alloc (.cells #[.pointer (some p)] TP))
  tt : ∀ w a, (callFunc 316 #[rV TP a 150]).run Tryz.prog w = .ok (.value (rT TP)) w
  kn : ∀ w, (callMethod (rT TP) "Kind" #[]).run Tryz.prog w = .ok (.value (.int .u8 22)) w
  nn : ∀ W a p, W.cell? a = some (.pointer (some p)) → (callFunc 317 #[rV TP a 150]).run Tryz.prog W = .ok (.value (.bool false)) W
  el : ∀ w, (callMethod (rT TP) "Elem" #[]).run Tryz.prog w = .ok (.value (rT T)) w
  ek : ∀ w, (callMethod (rT T) "Kind" #[]).run Tryz.prog w = .ok (.value (.int .u8 kd)) w
  im : ∀ w, (callMethod (rT T) "Implements" #[rT 201]).run Tryz.prog w = .ok (.value (.bool true)) w
  ne : kd ≠ 20
theorem as59b : AsT2 51 350 2 := {
  tv := fun w p => by kernel_rfl
  tt := fun w a => by kernel_rfl
  kn := fun w => by kernel_rfl
  nn := isNil351
  el := fun w => by kernel_rfl
  ek := fun w => by kernel_rfl
  im := fun w => by kernel_rfl
  ne := by decide }
theorem as640b : AsT2 639 640 22 := {
  tv := fun w p => by kernel_rfl
  tt := fun w a => by kernel_rfl
  kn := fun w => by kernel_rfl
  nn := isNil641
  el := fun w => by kernel_rfl
  ek := fun w => by kernel_rfl
  im := fun w => by kernel_rfl
  ne := by decide }
end Go.Proofs.YtoafcnecjgnbmaaGreatDoor.E

set_option linter.constructorNameAsVariable false
set_option linter.unusedVariables false
namespace Go.Proofs.YtoafcnecjgnbmaaGreatDoor.E
open Go Go.RowKit H Go.Extern Go.Extern.Stop
attribute [local irreducible] H.CL H.RW H.CW H.Yd H.thenK H.blockQ Go.Calls
theorem Ch.keep {w w' : World} {T : Nat} {v : Value} {n : Nat} {e : Value} (h : Ch w T v n e) (k : K0 w w') : Ch w' T v n e := by
  induction h with
  | hit => exact .hit
  | fau h1 _ ih => exact .fau (cell2 k h1 id) ih
  | con h0 h1 _ ih => exact .con h0 (cell2 k h1 id) ih
theorem asNil (t : Value) (w : World) : Calls Tryz.prog 236 #[.nilIface, t] w fun e w' => e = .returned (.bool false) ∧ w' = w := by
  refine H.enter Tryz.func236 Tryz.ntmps236 rfl rfl ?_; dsimp only [H.args]
  repeat' (first | (refine CL.seq ?_) | (refine CL.region ?_) | (refine Gt.nil ?_; refine RW.nilw [0, 1, 4, 5, 6, 7, 9, 11, 23, 35] ?_; dsimp only [H.keep, H.look, H.Fr.put, Nat.beq]) | (refine Gt.move ?_; refine RW.y (Y.move rfl) rfl ?_) | (refine Gt.assign ?_; refine RW.y (Y.assign rfl) rfl ?_))
  refine RW.y (Y.ifcNN (by kernel_rfl) rfl) rfl ?_
  repeat' (first | (refine CL.seq ?_) | (refine CL.region ?_) | (refine CL.condT rfl ?_) | (refine CL.ret ?_) | (refine Gt.nil ?_; refine RW.nilw [0, 1, 4, 5, 6, 7, 9, 11, 23, 35] ?_; dsimp only [H.keep, H.look, H.Fr.put, Nat.beq]) | (refine Gt.assign ?_; refine RW.y (Y.assign rfl) rfl ?_))
  exact FQ.one rfl rfl rfl ⟨rfl, rfl⟩
set_option maxHeartbeats 2000000 in
theorem asTop {T TP : Nat} {ok : Value → Prop} {fl1 fl2 kd : Int} (A : AsT T TP ok fl1 fl2) (B : AsT2 T TP kd) {err v old : Value} {n : Nat} (hv : ok v) {w : World} (hC : Ch w T v n err) (ta : Addr) (ht : w.cell? ta = some old) (hf : w.frozen? ta = false) (hg : w.cell? ⟨1, 0, none⟩ = some (rT 201)) :
    Calls Tryz.prog 236 #[err, .iface TP (.pointer (some ta))] w fun e w' => e = .returned (.bool true) ∧ ∃ W, K0 w W ∧ w' = W.setCell ta v := by
  obtain ⟨t5, u5, he5⟩ := hC.shape
  subst he5
  refine H.enter Tryz.func236 Tryz.ntmps236 rfl rfl ?_; dsimp only [H.args]
  repeat' (first | (refine CL.seq ?_) | (refine CL.region ?_) | (refine Gt.nil ?_; refine RW.nilw [0, 1, 4, 5, 6, 7, 9, 11, 23, 35] ?_; dsimp only [H.keep, H.look, H.Fr.put, Nat.beq]) | (refine Gt.move ?_; refine RW.y (Y.move rfl) rfl ?_) | (refine Gt.assign ?_; refine RW.y (Y.assign rfl) rfl ?_))
  refine RW.y (Y.ifcNil (by kernel_rfl) rfl rfl) rfl ?_
  repeat' (first | (refine CL.seq ?_) | (refine CL.region ?_) | (refine CL.skip ?_) | (refine CL.condF rfl ?_) | (refine Gt.nil ?_; refine RW.nilw [0, 1, 4, 5, 6, 7, 9, 11, 23, 35] ?_; dsimp only [H.keep, H.look, H.Fr.put, Nat.beq]) | (refine Gt.move ?_; refine RW.y (Y.move rfl) rfl ?_))
  refine RW.y (Y.ifcNil (by kernel_rfl) rfl rfl) rfl ?_
  repeat' (first | (refine CL.seq ?_) | (refine CL.region ?_) | (refine CL.skip ?_) | (refine CL.condF rfl ?_) | (refine Gt.nil ?_; refine RW.nilw [0, 1, 4, 5, 6, 7, 9, 11, 23, 35] ?_; dsimp only [H.keep, H.look, H.Fr.put, Nat.beq]) | (refine Gt.move ?_; refine RW.y (Y.move rfl) rfl ?_))
  refine RW.extW rfl (B.tv _ ta) rfl ?_
  have hkv : K0 w (w.alloc (.cells #[.pointer (some ta)] TP)) := Kept.alloc w _
  have hcv : (w.alloc (.cells #[.pointer (some ta)] TP)).cell? ⟨w.heap.size, 0, none⟩ = some (.pointer (some ta)) := by rw [World.cell?_alloc_at _ _ _ _ (by simp)]; rfl
  generalize w.alloc (.cells #[.pointer (some ta)] TP) = w1 at *
  skip
  refine RW.alloc rfl (fun w2 hb2 hk2 hl2 => ?_)
  refine RW.storeBlock rfl rfl rfl (fun z hz => by simp [rV, hT] at hz; rcases hz with rfl | rfl | rfl <;> rfl) hb2 rfl (fun w3 hb3 hk3 => ?_)
  repeat' (first | (refine CL.seq ?_) | (refine CL.region ?_) | (refine Gt.nil ?_; refine RW.nilw [0, 1, 4, 5, 6, 7, 9, 11, 23, 35] ?_; dsimp only [H.keep, H.look, H.Fr.put, Nat.beq]))
  refine RW.y (Y.loadBlock rfl hb3 rfl) rfl ?_
  refine RW.extW rfl (B.tt _ _) rfl ?_
  repeat' (first | (refine CL.seq ?_) | (refine CL.region ?_) | (refine Gt.nil ?_; refine RW.nilw [0, 1, 4, 5, 6, 7, 9, 11, 23, 35] ?_; dsimp only [H.keep, H.look, H.Fr.put, Nat.beq]) | (refine Gt.move ?_; refine RW.y (Y.move rfl) rfl ?_) | (refine Gt.assign ?_; refine RW.y (Y.assign rfl) rfl ?_))
  refine RW.inv rfl rfl rfl (B.kn _) ?_
  repeat' (first | (refine Gt.move ?_; refine RW.y (Y.move rfl) rfl ?_) | (refine Gt.guard ?_; first | (refine RW.part rfl rfl rfl (fun _ => ?_) (fun _ => ?_) <;> try (exfalso; omega)) | (refine RW.on rfl rfl rfl ?_)) | (refine Gt.neq ?_; refine RW.y (Y.nei rfl rfl) rfl ?_))
  have hl1 := cell_lt2 hcv
  have hc3 := cell2 hk3 (cell2 hk2 hcv id) (by show ¬ (w.heap.size = w1.heap.size); exact Nat.ne_of_lt hl1)
  refine RW.y (Y.loadBlock rfl hb3 rfl) rfl ?_
  repeat' ((refine Gt.guard ?_; (refine RW.on rfl rfl rfl ?_)))
  refine RW.extW rfl (B.nn w3 _ ta hc3) rfl ?_
  repeat' (first | (refine CL.seq ?_) | (refine CL.region ?_) | (refine CL.skip ?_) | (refine CL.condF rfl ?_) | (refine Gt.nil ?_; refine RW.nilw [0, 1, 4, 5, 6, 7, 9, 11, 23, 35] ?_; dsimp only [H.keep, H.look, H.Fr.put, Nat.beq]) | (refine Gt.move ?_; refine RW.y (Y.move rfl) rfl ?_) | (refine Gt.pick ?_; (refine RW.y (Y.pickF rfl rfl) rfl ?_)))
  refine RW.inv rfl rfl rfl (B.el _) ?_
  repeat' (first | (refine CL.seq ?_) | (refine CL.region ?_) | (refine Gt.nil ?_; refine RW.nilw [0, 1, 4, 5, 6, 7, 9, 11, 23, 35] ?_; dsimp only [H.keep, H.look, H.Fr.put, Nat.beq]) | (refine Gt.move ?_; refine RW.y (Y.move rfl) rfl ?_) | (refine Gt.assign ?_; refine RW.y (Y.assign rfl) rfl ?_))
  refine RW.inv rfl rfl rfl (B.ek _) ?_
  repeat' (first | (refine CL.seq ?_) | (refine CL.region ?_) | (refine CL.skip ?_) | (refine CL.condF rfl ?_) | (refine Gt.nil ?_; refine RW.nilw [0, 1, 4, 5, 6, 7, 9, 11, 23, 35] ?_; dsimp only [H.keep, H.look, H.Fr.put, Nat.beq]) | (refine Gt.move ?_; refine RW.y (Y.move rfl) rfl ?_) | (refine Gt.guard ?_; first | (refine RW.part rfl rfl rfl (fun _ => ?_) (fun _ => ?_) <;> try (exfalso; omega)) | (refine RW.on rfl rfl rfl ?_) | (refine RW.off1 rfl rfl rfl rfl rfl ?_)) | (refine Gt.neq ?_; refine RW.y (Y.nei rfl rfl) rfl ?_) | (refine Gt.pick ?_; (refine RW.y (Y.pickF rfl rfl) rfl ?_)))
  · have K3 : K0 w w3 := (hkv.trans0 hk2).trans hk3 fun k h => .inr (by have h : k = w1.heap.size := h; have := hkv.size; omega)
    refine RW.y (Y.load1 rfl (cell2 K3 hg id)) rfl ?_
    repeat' ((refine Gt.guard ?_; (refine RW.on rfl rfl rfl ?_)))
    refine RW.inv rfl rfl rfl (B.im _) ?_
    repeat' (first | (refine CL.seq ?_) | (refine CL.region ?_) | (refine CL.skip ?_) | (refine CL.condF rfl ?_) | (refine Gt.nil ?_; refine RW.nilw [0, 1, 4, 5, 6, 7, 9, 11, 23, 35] ?_; dsimp only [H.keep, H.look, H.Fr.put, Nat.beq]) | (refine Gt.move ?_; refine RW.y (Y.move rfl) rfl ?_) | (refine Gt.guard ?_; (refine RW.on rfl rfl rfl ?_)) | (refine Gt.pick ?_; (refine RW.y (Y.pickT rfl rfl) rfl ?_)) | (refine Gt.not ?_; (refine RW.y (Y.notb rfl) rfl ?_)))
    refine RW.y (Y.loadBlock rfl hb3 rfl) rfl ?_
    repeat' ((refine Gt.move ?_; refine RW.y (Y.move rfl) rfl ?_))
    refine RW.fn rfl rfl ((asLoop A hv (hC.keep K3) ta ⟨w.heap.size, 0, none⟩ (cell2 K3 ht id) (by rw [frozen2 K3 (cell_lt2 ht) id]; exact hf) hc3).mono ?_)
    rintro e w5 ⟨rfl, W, hW, rfl⟩
    repeat' (first | (refine CL.ret ?_) | (refine Gt.nil ?_; refine RW.nilw [0, 1, 4, 5, 6, 7, 9, 11, 23, 35] ?_; dsimp only [H.keep, H.look, H.Fr.put, Nat.beq]) | (refine Gt.assign ?_; refine RW.y (Y.assign rfl) rfl ?_))
    exact FQ.one rfl rfl rfl ⟨rfl, W, K3.trans0 hW, rfl⟩
  · have := B.ne
    simp_all
end Go.Proofs.YtoafcnecjgnbmaaGreatDoor.E

set_option linter.constructorNameAsVariable false
set_option linter.unusedVariables false
namespace Go.Proofs.YtoafcnecjgnbmaaGreatDoor.E
open Go Go.RowKit H Go.Extern Go.Extern.Stop
attribute [local irreducible] H.CL H.RW H.CW H.Yd H.thenK H.blockQ Go.Calls
theorem isA (t : Nat) (h : t = 51 ∨ t = 351 ∨ t = 639) (w : World) (v : Value) : (Instr.typeAssert (.iface t v) 201 578 true).run Tryz.prog w = .ok (.tuple #[.nilIface, .bool false]) w := by
  rcases h with rfl | rfl | rfl <;> exact run_typeAssert_lacksB Tryz.underlying578 (by kernel_rfl) (by kernel_rfl) v _ w
theorem unE (w : World) (v : Value) : (Instr.typeAssert (.iface 51 v) 201 519 true).run Tryz.prog w = .ok (.tuple #[.nilIface, .bool false]) w := run_typeAssert_lacksB Tryz.underlying519 (by kernel_rfl) (by kernel_rfl) v _ w
theorem unsE (w : World) (v : Value) : (Instr.typeAssert (.iface 51 v) 201 521 true).run Tryz.prog w = .ok (.tuple #[.nilIface, .bool false]) w := run_typeAssert_lacksB Tryz.underlying521 (by kernel_rfl) (by kernel_rfl) v _ w
theorem ty59 (w : World) (n : Int) : (callFunc 374 #[.iface 51 (.int .i64 n)]).run Tryz.prog w = .ok (.value (rT 51)) w := by kernel_rfl
theorem cmp59 (w : World) : (callMethod (rT 51) "Comparable" #[]).run Tryz.prog w = .ok (.value (.bool true)) w := by kernel_rfl
theorem eqF (t : Nat) (h : t ≠ 51) (v u : Value) (w : World) : (binOp .eql 201 (.iface t v) (.iface 51 u)).run Tryz.prog w = .ok (.bool false) w := run_eql_iface_types t 51 v u Tryz.underlying201 h w
theorem eqE (a b : Int) (w : World) : (binOp .eql 201 (.iface 51 (.int .i64 a)) (.iface 51 (.int .i64 b))).run Tryz.prog w = .ok (.bool (a == b)) w := Lib.run_eql_iface_int w a b Tryz.underlying201 (by kernel_rfl) Tryz.underlying51
set_option maxHeartbeats 2000000 in
theorem isLoop {m k : Int} {err : Value} {n : Nat} {w : World} (hC : Ch w 51 (.int .i64 m) n err) : Calls Tryz.prog 375 #[err, .iface 51 (.int .i64 k), .bool true] w fun e w' => e = .returned (.bool (m == k)) ∧ K0 w w' := by
  refine H.enter Tryz.func375 Tryz.ntmps375 rfl rfl ?_; dsimp only [H.args]
  repeat' (first | (refine CL.seq ?_) | (refine CL.region ?_) | (refine CL.block ?_) | (refine Gt.nil ?_; refine RW.nilw [0, 1, 2, 6, 7, 8, 9, 10, 12, 19, 30, 31, 33, 34, 38, 40, 41, 43, 44, 45, 46, 52] ?_; dsimp only [H.keep, H.look, H.Fr.put, Nat.beq]) | (refine Gt.assign ?_; refine RW.y (Y.assign rfl) rfl ?_))
  refine CL.loopS [0, 1, 2] (fun j vals wr => ∃ err, vals = [err, .iface 51 (.int .i64 k), .bool true] ∧ Ch w 51 (.int .i64 m) j err ∧ K0 w wr) n ⟨_, rfl, err, rfl, hC, Kept.refl _ _⟩ ?_
  rintro j vals wr ⟨er, rfl, hCr, hkr⟩
  dsimp only [List.zip, List.zipWith]
  cases hCr with
  | hit =>
    repeat' (first | (refine CL.seq ?_) | (refine CL.region ?_) | (refine CL.block ?_) | (refine Gt.move ?_; refine RW.y (Y.move rfl) rfl ?_) | (refine Gt.guard ?_; (refine RW.on rfl rfl rfl ?_)))
    refine RW.y (Y.ifcEq (eqE m k _) rfl rfl) rfl ?_
    cases hmk : m == k with
    | true =>
      repeat' (first | (refine CL.seq ?_) | (refine CL.region ?_) | (refine CL.condT rfl ?_) | (refine CL.ret ?_) | (refine Rt.then ?_) | (refine Rt.block ?_) | (refine Gt.nil ?_; refine RW.nilw [0, 1, 2, 6, 7, 8, 9, 10, 12, 19, 30, 31, 33, 34, 38, 40, 41, 43, 44, 45, 46, 52] ?_; dsimp only [H.keep, H.look, H.Fr.put, Nat.beq]) | (refine Gt.assign ?_; refine RW.y (Y.assign rfl) rfl ?_) | (refine Gt.pick ?_; (refine RW.y (Y.pickT rfl rfl) rfl ?_)))
      exact FQ.one rfl rfl rfl ⟨rfl, hkr⟩
    | false =>
      repeat' (first | (refine CL.seq ?_) | (refine CL.region ?_) | (refine CL.skip ?_) | (refine CL.condF rfl ?_) | (refine Gt.nil ?_; refine RW.nilw [0, 1, 2, 6, 7, 8, 9, 10, 12, 19, 30, 31, 33, 34, 38, 40, 41, 43, 44, 45, 46, 52] ?_; dsimp only [H.keep, H.look, H.Fr.put, Nat.beq]) | (refine Gt.move ?_; refine RW.y (Y.move rfl) rfl ?_) | (refine Gt.pick ?_; (refine RW.y (Y.pickT rfl rfl) rfl ?_)))
      refine RW.y (Y.asrt rfl (isA 51 (.inl rfl) _ _)) rfl ?_
      repeat' (first | (refine CL.seq ?_) | (refine CL.region ?_) | (refine CL.skip ?_) | (refine CL.condF rfl ?_) | (refine CL.block ?_) | (refine Gt.nil ?_; refine RW.nilw [0, 1, 2, 6, 7, 8, 9, 10, 12, 19, 30, 31, 33, 34, 38, 40, 41, 43, 44, 45, 46, 52] ?_; dsimp only [H.keep, H.look, H.Fr.put, Nat.beq]) | (refine Gt.move ?_; refine RW.y (Y.move rfl) rfl ?_) | (refine Gt.guard ?_; (refine RW.off1 rfl rfl rfl rfl rfl ?_)) | (refine Gt.assign ?_; refine RW.y (Y.assign rfl) rfl ?_) | (refine Gt.extract ?_; refine RW.y (Y.extract rfl rfl) rfl ?_) | (refine Gt.pick ?_; (refine RW.y (Y.pickF rfl rfl) rfl ?_)))
      refine RW.y (Y.asrt rfl (unE _ _)) rfl ?_
      repeat' (first | (refine CL.seq ?_) | (refine CL.region ?_) | (refine CL.condF rfl ?_) | (refine Gt.nil ?_; refine RW.nilw [0, 1, 2, 6, 7, 8, 9, 10, 12, 19, 30, 31, 33, 34, 38, 40, 41, 43, 44, 45, 46, 52] ?_; dsimp only [H.keep, H.look, H.Fr.put, Nat.beq]) | (refine Gt.extract ?_; refine RW.y (Y.extract rfl rfl) rfl ?_))
      refine RW.y (Y.asrt rfl (unsE _ _)) rfl ?_
      repeat' (first | (refine CL.seq ?_) | (refine CL.region ?_) | (refine CL.condF rfl ?_) | (refine CL.ret ?_) | (refine Rt.then ?_) | (refine Rt.block ?_) | (refine Gt.nil ?_; refine RW.nilw [0, 1, 2, 6, 7, 8, 9, 10, 12, 19, 30, 31, 33, 34, 38, 40, 41, 43, 44, 45, 46, 52] ?_; dsimp only [H.keep, H.look, H.Fr.put, Nat.beq]) | (refine Gt.assign ?_; refine RW.y (Y.assign rfl) rfl ?_) | (refine Gt.extract ?_; refine RW.y (Y.extract rfl rfl) rfl ?_))
      exact FQ.one rfl rfl rfl ⟨rfl, hkr⟩
  | fau hc hC2 =>
    obtain ⟨t5, u5, he5⟩ := hC2.shape
    subst he5
    repeat' (first | (refine CL.seq ?_) | (refine CL.region ?_) | (refine CL.block ?_) | (refine Gt.move ?_; refine RW.y (Y.move rfl) rfl ?_) | (refine Gt.guard ?_; (refine RW.on rfl rfl rfl ?_)))
    refine RW.y (Y.ifcEq (eqF 351 (by decide) _ _ _) rfl rfl) rfl ?_
    repeat' (first | (refine CL.seq ?_) | (refine CL.region ?_) | (refine CL.skip ?_) | (refine CL.condF rfl ?_) | (refine Gt.nil ?_; refine RW.nilw [0, 1, 2, 6, 7, 8, 9, 10, 12, 19, 30, 31, 33, 34, 38, 40, 41, 43, 44, 45, 46, 52] ?_; dsimp only [H.keep, H.look, H.Fr.put, Nat.beq]) | (refine Gt.move ?_; refine RW.y (Y.move rfl) rfl ?_) | (refine Gt.pick ?_; (refine RW.y (Y.pickT rfl rfl) rfl ?_)))
    refine RW.y (Y.asrt rfl (isA 351 (.inr (.inl rfl)) _ _)) rfl ?_
    repeat' (first | (refine CL.seq ?_) | (refine CL.region ?_) | (refine CL.skip ?_) | (refine CL.condF rfl ?_) | (refine CL.block ?_) | (refine Gt.nil ?_; refine RW.nilw [0, 1, 2, 6, 7, 8, 9, 10, 12, 19, 30, 31, 33, 34, 38, 40, 41, 43, 44, 45, 46, 52] ?_; dsimp only [H.keep, H.look, H.Fr.put, Nat.beq]) | (refine Gt.move ?_; refine RW.y (Y.move rfl) rfl ?_) | (refine Gt.guard ?_; (refine RW.off1 rfl rfl rfl rfl rfl ?_)) | (refine Gt.assign ?_; refine RW.y (Y.assign rfl) rfl ?_) | (refine Gt.extract ?_; refine RW.y (Y.extract rfl rfl) rfl ?_) | (refine Gt.pick ?_; (refine RW.y (Y.pickF rfl rfl) rfl ?_)))
    refine RW.y (Y.asrt rfl (unF _ _)) rfl ?_
    repeat' (first | (refine CL.seq ?_) | (refine CL.region ?_) | (refine CL.condT rfl ?_) | (refine Gt.nil ?_; refine RW.nilw [0, 1, 2, 6, 7, 8, 9, 10, 12, 19, 30, 31, 33, 34, 38, 40, 41, 43, 44, 45, 46, 52] ?_; dsimp only [H.keep, H.look, H.Fr.put, Nat.beq]) | (refine Gt.move ?_; refine RW.y (Y.move rfl) rfl ?_) | (refine Gt.assign ?_; refine RW.y (Y.assign rfl) rfl ?_) | (refine Gt.extract ?_; refine RW.y (Y.extract rfl rfl) rfl ?_))
    refine RW.invE rfl rfl rfl (mF _ _) ((unwF (cell2 hkr hc id)).mono ?_)
    rintro e w5 ⟨rfl, rfl⟩
    repeat' (first | (refine CL.seq ?_) | (refine CL.region ?_) | (refine Gt.nil ?_; refine RW.nilw [0, 1, 2, 6, 7, 8, 9, 10, 12, 19, 30, 31, 33, 34, 38, 40, 41, 43, 44, 45, 46, 52] ?_; dsimp only [H.keep, H.look, H.Fr.put, Nat.beq]) | (refine Gt.move ?_; refine RW.y (Y.move rfl) rfl ?_) | (refine Gt.assign ?_; refine RW.y (Y.assign rfl) rfl ?_))
    refine RW.y (Y.ifcNil (by kernel_rfl) rfl rfl) rfl ?_
    repeat' (first | (refine CL.skip ?_) | (refine CL.condF rfl ?_) | (refine CL.done ?_) | (refine Nm.block ?_) | (refine Nm.then ?_) | (refine Gt.nil ?_; refine RW.nilw [0, 1, 2, 6, 7, 8, 9, 10, 12, 19, 30, 31, 33, 34, 38, 40, 41, 43, 44, 45, 46, 52] ?_; dsimp only [H.keep, H.look, H.Fr.put, Nat.beq]))
    exact ⟨_, _, rfl, rfl, rfl, Nat.lt_succ_self _, _, rfl, hC2, hkr⟩
  | con hT2 hc hC2 =>
    obtain ⟨t5, u5, he5⟩ := hC2.shape
    subst he5
    repeat' (first | (refine CL.seq ?_) | (refine CL.region ?_) | (refine CL.block ?_) | (refine Gt.move ?_; refine RW.y (Y.move rfl) rfl ?_) | (refine Gt.guard ?_; (refine RW.on rfl rfl rfl ?_)))
    refine RW.y (Y.ifcEq (eqF 639 (by decide) _ _ _) rfl rfl) rfl ?_
    repeat' (first | (refine CL.seq ?_) | (refine CL.region ?_) | (refine CL.skip ?_) | (refine CL.condF rfl ?_) | (refine Gt.nil ?_; refine RW.nilw [0, 1, 2, 6, 7, 8, 9, 10, 12, 19, 30, 31, 33, 34, 38, 40, 41, 43, 44, 45, 46, 52] ?_; dsimp only [H.keep, H.look, H.Fr.put, Nat.beq]) | (refine Gt.move ?_; refine RW.y (Y.move rfl) rfl ?_) | (refine Gt.pick ?_; (refine RW.y (Y.pickT rfl rfl) rfl ?_)))
    refine RW.y (Y.asrt rfl (isA 639 (.inr (.inr rfl)) _ _)) rfl ?_
    repeat' (first | (refine CL.seq ?_) | (refine CL.region ?_) | (refine CL.skip ?_) | (refine CL.condF rfl ?_) | (refine CL.block ?_) | (refine Gt.nil ?_; refine RW.nilw [0, 1, 2, 6, 7, 8, 9, 10, 12, 19, 30, 31, 33, 34, 38, 40, 41, 43, 44, 45, 46, 52] ?_; dsimp only [H.keep, H.look, H.Fr.put, Nat.beq]) | (refine Gt.move ?_; refine RW.y (Y.move rfl) rfl ?_) | (refine Gt.guard ?_; (refine RW.off1 rfl rfl rfl rfl rfl ?_)) | (refine Gt.assign ?_; refine RW.y (Y.assign rfl) rfl ?_) | (refine Gt.extract ?_; refine RW.y (Y.extract rfl rfl) rfl ?_) | (refine Gt.pick ?_; (refine RW.y (Y.pickF rfl rfl) rfl ?_)))
    refine RW.y (Y.asrt rfl (unC _ _)) rfl ?_
    repeat' (first | (refine CL.seq ?_) | (refine CL.region ?_) | (refine CL.condT rfl ?_) | (refine Gt.nil ?_; refine RW.nilw [0, 1, 2, 6, 7, 8, 9, 10, 12, 19, 30, 31, 33, 34, 38, 40, 41, 43, 44, 45, 46, 52] ?_; dsimp only [H.keep, H.look, H.Fr.put, Nat.beq]) | (refine Gt.move ?_; refine RW.y (Y.move rfl) rfl ?_) | (refine Gt.assign ?_; refine RW.y (Y.assign rfl) rfl ?_) | (refine Gt.extract ?_; refine RW.y (Y.extract rfl rfl) rfl ?_))
    refine RW.invE rfl rfl rfl (mC _ _) ((unwC (cell2 hkr hc id)).mono ?_)
    rintro e w5 ⟨rfl, rfl⟩
    repeat' (first | (refine CL.seq ?_) | (refine CL.region ?_) | (refine Gt.nil ?_; refine RW.nilw [0, 1, 2, 6, 7, 8, 9, 10, 12, 19, 30, 31, 33, 34, 38, 40, 41, 43, 44, 45, 46, 52] ?_; dsimp only [H.keep, H.look, H.Fr.put, Nat.beq]) | (refine Gt.move ?_; refine RW.y (Y.move rfl) rfl ?_) | (refine Gt.assign ?_; refine RW.y (Y.assign rfl) rfl ?_))
    refine RW.y (Y.ifcNil (by kernel_rfl) rfl rfl) rfl ?_
    repeat' (first | (refine CL.skip ?_) | (refine CL.condF rfl ?_) | (refine CL.done ?_) | (refine Nm.block ?_) | (refine Nm.then ?_) | (refine Gt.nil ?_; refine RW.nilw [0, 1, 2, 6, 7, 8, 9, 10, 12, 19, 30, 31, 33, 34, 38, 40, 41, 43, 44, 45, 46, 52] ?_; dsimp only [H.keep, H.look, H.Fr.put, Nat.beq]))
    exact ⟨_, _, rfl, rfl, rfl, Nat.lt_succ_self _, _, rfl, hC2, hkr⟩
theorem isTop {m k : Int} {err : Value} {n : Nat} {w : World} (hC : Ch w 51 (.int .i64 m) n err) : Calls Tryz.prog 307 #[err, .iface 51 (.int .i64 k)] w fun e w' => e = .returned (.bool (m == k)) ∧ K0 w w' := by
  obtain ⟨t5, u5, he5⟩ := hC.shape
  subst he5
  refine H.enter Tryz.func307 Tryz.ntmps307 rfl rfl ?_; dsimp only [H.args]
  repeat' (first | (refine CL.seq ?_) | (refine CL.region ?_) | (refine Gt.nil ?_; refine RW.nilw [0, 1, 4, 5, 11] ?_; dsimp only [H.keep, H.look, H.Fr.put, Nat.beq]) | (refine Gt.move ?_; refine RW.y (Y.move rfl) rfl ?_) | (refine Gt.assign ?_; refine RW.y (Y.assign rfl) rfl ?_))
  refine RW.y (Y.ifcNil (by kernel_rfl) rfl rfl) rfl ?_
  repeat' (first | (refine Gt.move ?_; refine RW.y (Y.move rfl) rfl ?_) | (refine Gt.guard ?_; (refine RW.on rfl rfl rfl ?_)))
  refine RW.y (Y.ifcNil (by kernel_rfl) rfl rfl) rfl ?_
  repeat' (first | (refine CL.seq ?_) | (refine CL.region ?_) | (refine CL.skip ?_) | (refine CL.condF rfl ?_) | (refine Gt.nil ?_; refine RW.nilw [0, 1, 4, 5, 11] ?_; dsimp only [H.keep, H.look, H.Fr.put, Nat.beq]) | (refine Gt.move ?_; refine RW.y (Y.move rfl) rfl ?_) | (refine Gt.pick ?_; (refine RW.y (Y.pickF rfl rfl) rfl ?_)))
  refine RW.extW rfl (ty59 _ _) rfl ?_
  refine RW.inv rfl rfl rfl (cmp59 _) ?_
  repeat' (first | (refine CL.seq ?_) | (refine CL.region ?_) | (refine Gt.nil ?_; refine RW.nilw [0, 1, 4, 5, 11] ?_; dsimp only [H.keep, H.look, H.Fr.put, Nat.beq]) | (refine Gt.move ?_; refine RW.y (Y.move rfl) rfl ?_) | (refine Gt.assign ?_; refine RW.y (Y.assign rfl) rfl ?_))
  refine RW.fn rfl rfl ((isLoop hC).mono ?_)
  rintro e w5 ⟨rfl, hk⟩
  repeat' (first | (refine CL.ret ?_) | (refine Gt.nil ?_; refine RW.nilw [0, 1, 4, 5, 11] ?_; dsimp only [H.keep, H.look, H.Fr.put, Nat.beq]) | (refine Gt.assign ?_; refine RW.y (Y.assign rfl) rfl ?_))
  exact FQ.one rfl rfl rfl ⟨rfl, hk⟩
end Go.Proofs.YtoafcnecjgnbmaaGreatDoor.E

set_option linter.constructorNameAsVariable false
set_option linter.unusedVariables false
namespace Go.Proofs.YtoafcnecjgnbmaaGreatDoor.E
open Go Go.RowKit H Go.Extern Go.Extern.Stop
attribute [local irreducible] H.CL H.RW H.CW H.Yd H.thenK H.blockQ Go.Calls
noncomputable def chK (T : Nat) (h : Hp) (k : AV → Bool) (n : Nat) : AV → Bool := Nat.rec (motive := fun _ => AV → Bool) (fun _ => false) (fun _ ih e => match e with
  | .ifc ty v => ife (Nat.beq ty T) (k v) (ife (Nat.beq ty 351) (qPtr v fun i o => cellsK h i fun _ _ _ cs => nthK cs (Nat.add o 2) ih) (ife (Nat.beq ty 639) (ife (Nat.beq T 639) false (qPtr v fun i o => cellsK h i fun _ _ _ cs => nthK cs (Nat.add o 1) ih)) false))
  | _ => false) n
theorem cell_at {S : Nat → Prop} {w0 w : World} {fl : Nat} {r : Ren} {h : Hp} (hR : Rel S w0 fl r h w) {i : Nat} {p : Nat × Nat} (hp : r i = some p) {t : TypeId} {o ro : Bool} {cs : List AV} (hb : h.at i = some (.cells t o ro cs)) {j : Nat} {a : AV} (hj : cs[j]? = some a) : ∃ u, real r a = some u ∧ w.cell? ⟨p.1, j, none⟩ = some u := by
  obtain ⟨c, fz, us, e1, e2, e3, _⟩ := hR.at hp hb
  obtain ⟨u, hu, hur⟩ := reals_at e3 hj
  exact ⟨u, hur, cell_of (hR.at hp hb) e3 hu⟩
theorem chK_ok {T : Nat} {h : Hp} {k : AV → Bool} (hT : T ≠ 351) : ∀ {n : Nat} {e : AV}, chK T h k n e = true → ∃ v, k v = true ∧ ∀ {S : Nat → Prop} {w0 : World} {fl : Nat} {r : Ren} {w : World} {x : Value}, Rel S w0 fl r h w → real r e = some x → ∃ u j, real r v = some u ∧ Ch w T u j x
  | 0, e, hk => by cases hk
  | n + 1, e, hk => by
    cases e with
    | ifc ty v =>
      rcases ife_ok (b := Nat.beq ty T) hk with ⟨ht, hk1⟩ | ⟨_, hk1⟩
      · refine ⟨v, hk1, fun {S w0 fl r w x} hR hx => ?_⟩
        obtain ⟨u, hu, rfl⟩ := real_ifc hx
        rw [Nat.eq_of_beq_eq_true ht]
        exact ⟨u, 0, hu, .hit⟩
      rcases ife_ok hk1 with ⟨ht, hk2⟩ | ⟨_, hk2⟩
      · obtain ⟨i, o, rfl, hk3⟩ := qPtr_ok (x := v) hk2
        obtain ⟨t, op, ro, cs, hb, hk4⟩ := cellsK_ok hk3
        obtain ⟨a, ha, hk5⟩ := nthK_ok hk4
        obtain ⟨v2, hk6, hC⟩ := chK_ok hT (n := n) hk5
        refine ⟨v2, hk6, fun {S w0 fl r w x} hR hx => ?_⟩
        obtain ⟨u, hu, rfl⟩ := real_ifc hx
        obtain ⟨p, hp, rfl⟩ := real_ptr hu
        obtain ⟨y, hy, hc⟩ := cell_at hR hp hb ha
        obtain ⟨u2, j, h1, h2⟩ := hC hR hy
        rw [Nat.eq_of_beq_eq_true ht]
        exact ⟨u2, j + 1, h1, .fau hc h2⟩
      rcases ife_ok hk2 with ⟨ht, hk3⟩ | ⟨_, hk3⟩
      · rcases ife_ok hk3 with ⟨_, hk4⟩ | ⟨hT2, hk4⟩
        · cases hk4
        obtain ⟨i, o, rfl, hk5⟩ := qPtr_ok (x := v) hk4
        obtain ⟨t, op, ro, cs, hb, hk6⟩ := cellsK_ok hk5
        obtain ⟨a, ha, hk7⟩ := nthK_ok hk6
        obtain ⟨v2, hk8, hC⟩ := chK_ok hT (n := n) hk7
        refine ⟨v2, hk8, fun {S w0 fl r w x} hR hx => ?_⟩
        obtain ⟨u, hu, rfl⟩ := real_ifc hx
        obtain ⟨p, hp, rfl⟩ := real_ptr hu
        obtain ⟨y, hy, hc⟩ := cell_at hR hp hb ha
        obtain ⟨u2, j, h1, h2⟩ := hC hR hy
        rw [Nat.eq_of_beq_eq_true ht]
        exact ⟨u2, j + 1, h1, .con (fun c => by rw [c] at hT2; simp at hT2) hc h2⟩
      · cases hk3
    | _ => cases hk
/-- The library's variable that holds the type of errors. -/
noncomputable def tkE (h : Hp) (k : Bool) : Bool := cellsK h 1 fun _ _ _ cs => nthK cs 0 fun x => ask (avEq x (.ifc 512 (.agg [.ptr 9 201]))) k
theorem tkE_ok {h : Hp} {k : Bool} (hk : tkE h k = true) : k = true ∧ ∀ {S : Nat → Prop} {w0 : World} {fl : Nat} {r : Ren} {w : World}, Rel S w0 fl r h w → w.cell? ⟨1, 0, none⟩ = some (rT 201) := by
  obtain ⟨t, op, ro, cs, hb, hk1⟩ := cellsK_ok hk
  obtain ⟨a, ha, hk2⟩ := nthK_ok hk1
  obtain ⟨he, hk3⟩ := ask_ok hk2
  obtain rfl := avEq_ok _ _ he
  refine ⟨hk3, fun {S w0 fl r w} hR => ?_⟩
  obtain ⟨p, hp, _⟩ := hR.live _ _ (Nat.lt_of_lt_of_le (by decide) hR.base.2) hb
  obtain ⟨u, hu, hc⟩ := cell_at hR hp hb ha
  have h1 := hR.glob _ p (by decide) hp
  rw [h1] at hc
  obtain ⟨y, hy, rfl⟩ := real_ifc hu
  obtain ⟨us, hus, rfl⟩ := real_agg hy
  obtain ⟨z, hz, rfl⟩ := reals1 hus
  obtain ⟨q, hq, rfl⟩ := real_ptr hz
  have h2 := hR.glob 9 q (by decide) hq
  rw [hc, h2]
  rfl
noncomputable def okA (T : Nat) (v : AV) (k : Bool) : Bool := ife (Nat.beq T 51) (qInt v fun i _ => ask (kEq i .i64) k) (qPtr v fun _ _ => k)
noncomputable def asP1 (fl : Nat) (T TP : Nat) (h : Hp) (k : KV) (e : AV) (i o : Nat) : Bool := tkE h (chK T h (fun v => okA T v (ask (Nat.ble fl i) (cellsK h i fun bt op ro cs => ife ro false (nthK cs o fun _ => setK1 v cs o fun cs => putH h i (.cells bt op ro cs) fun h => k (.bool true) h)))) 20 e)
noncomputable def asP (fl : Nat) (vs : List AV) (h : Hp) (k : KV) : Bool := two2 vs fun e t => match e with
  | .nili => k (.bool false) h
  | e => match t with
    | .ifc tt (.ptr i o) => ife (Nat.beq tt 350) (asP1 fl 51 350 h k e i o) (ife (Nat.beq tt 640) (asP1 fl 639 640 h k e i o) false)
    | _ => false
theorem asP1_ok {T TP : Nat} {ok : Value → Prop} {fl1 fl2 kd : Int} (A : AsT T TP ok fl1 fl2) (B : AsT2 T TP kd) (hok : ∀ v k, okA T v k = true → k = true ∧ ∀ r u, real r v = some u → ok u) {fl : Nat} {h : Hp} {k : KV} {e : AV} {i o : Nat} (hk : asP1 fl T TP h k e i o = true) : ∃ v h', k v h' = true ∧ ∀ S w0 r w xs, Rel S w0 fl r h w → reals r [e, .ifc TP (.ptr i o)] = some xs → Calls Tryz.prog 236 xs.toArray w fun e w' => ∃ r' x, e = .returned x ∧ Ext r r' ∧ Rel S w0 fl r' h' w' ∧ real r' v = some x := by
  obtain ⟨hk1, hg⟩ := tkE_ok hk
  obtain ⟨v, hk2, hC⟩ := chK_ok A.fau.1 hk1
  obtain ⟨hk3, ho⟩ := hok _ _ hk2
  obtain ⟨hfl, hk4⟩ := ask_ok hk3
  obtain ⟨bt, op, ro, cs, hb, hk5⟩ := cellsK_ok hk4
  rcases ife_ok hk5 with ⟨_, hk6⟩ | ⟨hro, hk6⟩
  · cases hk6
  obtain ⟨old, hold, hk7⟩ := nthK_ok hk6
  rw [setK1_eq, putH_eq] at hk7
  refine ⟨_, _, hk7, fun S w0 r w xs hR hxs => ?_⟩
  obtain ⟨x, y, hx, hy, rfl⟩ := reals2 hxs
  obtain ⟨y2, hy2, rfl⟩ := real_ifc hy
  obtain ⟨p, hp, rfl⟩ := real_ptr hy2
  obtain ⟨u, j, hu, hch⟩ := hC hR hx
  obtain ⟨u0, hu0, hc0⟩ := cell_at hR hp hb hold
  obtain ⟨c, fz, us, e1, e2, e3, e4, e5, e6, e7⟩ := hR.at hp hb
  have hol : o < cs.length := (List.getElem?_eq_some_iff.1 hold).1
  have hnf : w.frozen? ⟨p.1, o, none⟩ = false := by
    simp only [World.frozen?, e1]
    rcases e7 hro with q | q
    · simp; omega
    · simp; omega
  refine (asTop A B (ho r u hu) hch ⟨p.1, o, none⟩ hc0 hnf (hg hR)).mono ?_
  rintro e w' ⟨rfl, W, hW, rfl⟩
  have eW : W.heap[p.1]? = some (.cells c bt fz) := (hW.block _ (hR.dom i p hp) id).trans e1
  refine ⟨r, _, rfl, Ext.refl r, (hR.same hW).put (ble_of hfl) hp hb (Kept.setCell W ⟨p.1, o, none⟩ u) ⟨c.setIfInBounds o u, fz, us.set o u, H.heap_setCell_same eW u, by simpa using e2, reals_set o e3 hu, ?_, by simpa using e5, by simpa using e6, e7⟩, rfl⟩
  rw [Array.toList_setIfInBounds, List.length_set, List.take_set, ← e4]
theorem pr_238 {fl : Nat} : Pr1 Tryz.prog fl 236 fun _ vs h kr _ => asP fl vs h kr := by
  refine Pr1.mem fun vs h k hk => ?_
  obtain ⟨e, t, rfl, hk1⟩ := two2_ok hk
  clear hk
  have h59 : ∀ v k, okA 51 v k = true → k = true ∧ ∀ r u, real r v = some u → ∃ n, u = .int .i64 n := fun v k h => by
    obtain ⟨i, n, rfl, h1⟩ := qInt_ok (x := v) (show (qInt v fun i _ => ask (kEq i .i64) k) = true from h)
    obtain ⟨h2, h3⟩ := ask_ok h1
    obtain rfl := kEq_ok h2
    exact ⟨h3, fun r u hu => ⟨n, real_int hu⟩⟩
  have h640 : ∀ v k, okA 639 v k = true → k = true ∧ ∀ r u, real r v = some u → ∃ p, u = .pointer (some p) := fun v k h => by
    obtain ⟨i, n, rfl, h1⟩ := qPtr_ok (x := v) (show (qPtr v fun _ _ => k) = true from h)
    exact ⟨h1, fun r u hu => by obtain ⟨p, _, rfl⟩ := real_ptr hu; exact ⟨_, rfl⟩⟩
  have main : ∀ i o tt, (ife (Nat.beq tt 350) (asP1 fl 51 350 h k e i o) (ife (Nat.beq tt 640) (asP1 fl 639 640 h k e i o) false)) = true → ∃ v h', k v h' = true ∧ ∀ S w0 r w xs, Rel S w0 fl r h w → reals r [e, .ifc tt (.ptr i o)] = some xs → Calls Tryz.prog 236 xs.toArray w fun e w' => ∃ r' x, e = .returned x ∧ Ext r r' ∧ Rel S w0 fl r' h' w' ∧ real r' v = some x := by
    intro i o tt hk
    rcases ife_ok hk with ⟨ht, hk2⟩ | ⟨_, hk2⟩
    · rw [Nat.eq_of_beq_eq_true ht]
      exact asP1_ok as59 as59b h59 hk2
    rcases ife_ok hk2 with ⟨ht, hk3⟩ | ⟨_, hk3⟩
    · rw [Nat.eq_of_beq_eq_true ht]
      exact asP1_ok as640 as640b h640 hk3
    · cases hk3
  split at hk1
  · refine ⟨_, _, hk1, fun S w0 r w xs hR hxs => ?_⟩
    obtain ⟨x, y, hx, hy, rfl⟩ := reals2 hxs
    cases hx
    refine (asNil y w).mono ?_
    rintro e w' ⟨rfl, rfl⟩
    exact ⟨r, _, rfl, Ext.refl r, hR, rfl⟩
  · split at hk1
    · exact main _ _ _ hk1
    · cases hk1
noncomputable def isP (vs : List AV) (h : Hp) (k : AV → Bool) : Bool := match vs with
  | [e, .ifc 51 (.int .i64 b)] => chK 51 h (fun v => qInt v fun i a => ask (kEq i .i64) (boolK (iEq a b) fun z => k (.bool z))) 20 e
  | _ => false
theorem pr_309 {fl : Nat} : Pr1 Tryz.prog fl 307 fun _ vs h kr _ => isP vs h fun v => kr v h := by
  refine Pr1.val fun vs h k hk => ?_
  unfold isP at hk
  split at hk
  · rename_i e b
    obtain ⟨v, hk1, hC⟩ := chK_ok (by decide) hk
    obtain ⟨i, a, rfl, hk2⟩ := qInt_ok (x := v) hk1
    obtain ⟨hi, hk3⟩ := ask_ok hk2
    obtain rfl := kEq_ok hi
    rw [boolK_eq, iEq_eq] at hk3
    refine ⟨_, hk3, fun S w0 r w xs hR hxs => ?_⟩
    obtain ⟨x, y, hx, hy, rfl⟩ := reals2 hxs
    obtain ⟨u, j, hu, hch⟩ := hC hR hx
    have hu := real_int hu; subst hu
    obtain ⟨y2, hy2, rfl⟩ := real_ifc hy
    have hy2 := real_int hy2; subst hy2
    refine (isTop hch).mono ?_
    rintro e w' ⟨rfl, hK⟩
    exact ⟨_, rfl, hK, by simp [real, BEq.beq]⟩
  · cases hk
end Go.Proofs.YtoafcnecjgnbmaaGreatDoor.E

set_option linter.constructorNameAsVariable false
set_option linter.unusedVariables false
namespace Go.Proofs.YtoafcnecjgnbmaaGreatDoor.E
open Go Go.RowKit H
section
variable {M : Option (Option Nat)} {P : Program} {ops : Array Oper} {Q : Post} {rest : List Oper} {f f1 : Fr} {w w' : World} {d ty : Nat} {pos : String} {af : Array Edge}
/-- What is known of a frame may be less. -/
theorem Ag.less {a : Act} (h : Ag f a) (hn : f1.n = f.n) (hd : f1.ds = f.ds) (hs : ∀ t v, H.look f1.e t = some v → H.look f.e t = some v) : Ag f1 a := ⟨h.size.trans hn.symm, h.defers.trans hd.symm, fun t v hv => h.slot t v (hs t v hv)⟩
theorem RW.ins {t : TypeId} {m : Nat} {x y z : Operand} {kv v : Value} {w' : World} (hx : f.ev x = some (.map (some m))) (hy : f.ev y = some kv) (hz : f.ev z = some v) (hr : (Instr.mapUpdate t (.map (some m)) kv v).run P w = .ok () w') (k : RW M P ops Q rest f w') : RW M P ops Q (op0 (.insert t x y z) ty pos af :: rest) f w :=
  RW.gen rfl (fun t h => by cases h) (.inr ⟨rfl, rfl⟩) (fun a ha => by simp [execOp, ha.eval hx, ha.eval hy, ha.eval hz, hr]) k
end
attribute [local irreducible] H.CL H.RW H.CW H.Yd H.thenK H.blockQ Go.Calls
def bN : ByteArray := ⟨#[110, 97, 109, 101]⟩
def bV : ByteArray := ⟨#[118, 101, 114, 115, 105, 111, 110]⟩
abbrev MM : TypeId := 154
def eN (v : Value) (b : Nat) : MapEntry := { key := .string bN, val := v, born := b }
def eV (v : Value) (b : Nat) : MapEntry := { key := .string bV, val := v, born := b }
def setM (w : World) (m : Nat) (o : Obj) : World := { w with heap := w.heap.setIfInBounds m o }
theorem setM_at {w : World} {m : Nat} {o : Obj} (o' : Obj) (h : w.heap[m]? = some o) : (setM w m o').heap[m]? = some o' ∧ Kept (fun k => k = m) w (setM w m o') := by
  have hl := lt_of_at h
  refine ⟨by simp [setM, hl], rfl, rfl, rfl, by simp [setM], fun k hk hn => ?_⟩
  simp only [setM]
  rw [Array.getElem?_setIfInBounds_ne (fun c => hn c.symm)]
theorem ins_at {w : World} {m : Nat} {es : Array MapEntry} {ck : Nat} {s : ByteArray} (v : Value) (h : w.heap[m]? = some (.map es ck)) (hf : ∀ W, (Instr.findKey 9 (.string s) es.toList).run Tryz.prog W = .ok none W) : (Instr.mapUpdate MM (.map (some m)) (.string s) v).run Tryz.prog w = .ok () (setM w m (.map (es.push { key := .string s, val := v, born := ck }) (ck + 1))) := by
  have hk : (Instr.checkKey false 10000 9 (.string s)).run Tryz.prog w = .ok () w := by kernel_rfl
  have hu : Tryz.prog.underlying MM = some (.map 9 9) := by kernel_rfl
  simp only [Instr.mapUpdate, Sem.run_bind, run_underlying hu, Result.andThen_ok, MapKept.run_getObj_map h, hk, hf w]
  exact run_setMap h _
theorem fN (W : World) : (Instr.findKey 9 (.string bN) []).run Tryz.prog W = .ok none W := by kernel_rfl
theorem fV (W : World) : (Instr.findKey 9 (.string bV) []).run Tryz.prog W = .ok none W := by kernel_rfl
theorem RW.insE {M : Option (Option Nat)} {ops : Array Oper} {Q : Post} {rest : List Oper} {f : Fr} {w : World} {ty : TypeId} {pos : String} {af : Array Edge} {m : Nat} {x y z : Operand} {s : ByteArray} {v : Value} {es : Array MapEntry} {ck : Nat} (hx : f.ev x = some (.map (some m))) (hy : f.ev y = some (.string s)) (hz : f.ev z = some v) (hm : w.heap[m]? = some (.map es ck)) (hf : ∀ W, (Instr.findKey 9 (.string s) es.toList).run Tryz.prog W = .ok none W)
    (k : ∀ w', w'.heap[m]? = some (.map (es.push { key := .string s, val := v, born := ck }) (ck + 1)) → Kept (fun k => k = m) w w' → RW M Tryz.prog ops Q rest f w') : RW M Tryz.prog ops Q (op0 (.insert MM x y z) ty pos af :: rest) f w :=
  RW.ins hx hy hz (ins_at v hm hf) (k _ (setM_at _ hm).1 (setM_at _ hm).2)
end Go.Proofs.YtoafcnecjgnbmaaGreatDoor.E

