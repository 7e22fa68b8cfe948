/-
  stage.run: the region that fills a map literal, walked in every order. stage.run among the functions that come to one of several ends. Sums: what a function comes to at a slice of one slice of known bytes, told under names of its own. The table of the functions that are told by themselves. A contract of the shelf of the kit on slices.SortFunc at this translation, in plain words. Written by a program of the kit. Files in the order of their paths: two of them compared; what slices.SortFunc makes of a row of them; bytes cloned. (*tree.Tree).Files: the files of a tree, whatever order the map comes in. (*tree.Tree).Files, as an evaluator sees it. Maps with texts as keys, read and written; what a search reaches (in plain words). (*solve.search).far: the name that is fixed and not reached, whatever order the maps come in. What the search behind far comes to, step by step (in plain words).
-/
import Derived.Test.YtoafcnecjgnbmaaGreatDoorVg
import Derived.Test.YtoafcnecjgnbmaaGreatDoorVf
import Derived.Shelf.LaySoft
import Derived.Shelf.SlSortCmp.WholeK
import Derived.Shelf.SlSortCmp.Xorshift
import Derived.Ground.SlsfProg
import Derived.Test.YtoafcnecjgnbmaaGreatDoorProg
import Derived.Test.YtoafcnecjgnbmaaGreatDoorVe
set_option linter.unusedVariables false
set_option linter.unusedSimpArgs false
set_option linter.constructorNameAsVariable false
set_option linter.unusedVariables false
namespace Go.Proofs.YtoafcnecjgnbmaaGreatDoor.E
open Go Go.RowKit H
theorem CW_less {P : Program} {M : Option (Option Nat)} {Q : Post} {c : Code} {f f1 : Fr} {w : World} (hn : f1.n = f.n) (hd : f1.ds = f.ds) (hs : ∀ t v, H.look f1.e t = some v → H.look f.e t = some v) (h : CW M P Q c f1 w) : CW M P Q c f w := fun a ha => h a (Ag.less ha hn hd hs)
attribute [local irreducible] H.CL H.RW H.CW H.Yd H.thenK H.blockQ Go.Calls
noncomputable def drawn (id : Nat) (c : Code) : Array Oper := Code.rec (motive := fun _ => Array Oper) #[] (fun i ops d => ifeV d (ifeV (Nat.beq i id) ops #[]) #[]) (fun _ _ a b => ifeV (Nat.beq a.size 0) b a) (fun _ _ _ a b => ifeV (Nat.beq a.size 0) b a) (fun _ _ a => a) (fun _ a => a) (fun _ _ _ _ _ _ => #[]) (fun _ => #[]) (fun _ _ => #[]) (fun _ => #[]) (fun _ => #[]) #[] (fun _ => #[]) c
noncomputable def R8 : Array Oper := Option.rec (motive := fun _ => Array Oper) #[] (fun c => drawn 8 c) Tryz.f304.body
theorem verL {p : Nat} {c : Array Value} {e0 : TypeId} {fz : Nat × Nat} {ver : List Value} (hv : ∀ j v, ver[j]? = some v → c.toList[1 + j]? = some v) {W : World} (h : W.heap[p]? = some (.cells c e0 fz)) : ∀ j v, ver[j]? = some v → W.cell? ((⟨p, 1, none⟩ : Addr).add j) = some v := fun j v hj => by
  have := hv j v hj
  have e : W.cell? ⟨p, 1 + j, none⟩ = some v := by
    rw [cell_row (off := 1) h]
    simpa using this
  unfold Addr.add
  split
  · rename_i hj0; subst hj0; exact e
  · exact e
/-- How the region ends. -/
def Q8 (n : Nat) (ds : List Deferred) (R : Value → Value → Value → World → Prop) : Post
  | .normal, f, w => ∃ x y z, R x y z w ∧ f.n = n ∧ f.ds = ds ∧ H.look f.e 9 = some x ∧ H.look f.e 10 = some y ∧ H.look f.e 11 = some z
  | _, _, _ => False
instance {n : Nat} {ds : List Deferred} {R : Value → Value → Value → World → Prop} : PI (Q8 n ds R) := ⟨fun _ _ _ _ _ h => h⟩
set_option maxRecDepth 20000 in
set_option maxHeartbeats 2000000 in
theorem reg8 (id n : Nat) (ds : List Deferred) (w : World) (lv tv : Value) (p : Nat) (nm : Value) (vt : ByteArray) (ver : List Value) (c : Array Value) (e0 : TypeId) (fz : Nat × Nat) (hn : n = 47)
    (hb : w.heap[p]? = some (.cells c e0 fz)) (h0 : c.toList[0]? = some nm) (hv : ∀ j v, ver[j]? = some v → c.toList[1 + j]? = some v) (hvl : ver.length = 4)
    (htxt : ∀ W, K0 w W → Calls Tryz.prog 370 #[.agg ver.toArray] W fun e w' => e = .returned (.string vt) ∧ K0 W w')
    (R : Value → Value → Value → World → Prop)
    (hrun : ∀ W m es, K0 w W → w.heap.size ≤ m → W.heap[m]? = some (.map es 2) → (es = #[eN nm 0, eV (.string vt) 1] ∨ es = #[eV (.string vt) 0, eN nm 1]) → Calls Tryz.prog 369 #[lv, tv, .map (some m), .int .i64 65536] W fun e w' => ∃ x y z, e = .returned (.tuple #[x, y, z]) ∧ R x y z w' ∧ ∃ fz, w'.heap[p]? = some (.cells c e0 fz)) :
    CW none Tryz.prog (Q8 n ds R) (.region id R8 true) ⟨n, ds, [(1, tv), (2, .pointer (some ⟨p, 0, none⟩)), (7, lv)]⟩ w := by
  subst hn
  refine (fun (hR : R8 = #[_, _, _, _, _, _, _, _, _, _, _, _, _, _, _, _, _, _, _]) => ?_) rfl
  rw [hR]
  skip
  refine CL.one ?_
  refine CL.draw (fun w' => ∃ fz, w'.heap[p]? = some (.cells c e0 fz)) (by kernel_rfl) (fun wd hheap hk1 => ?_)
  have hK : K0 w wd := hk1
  have hS0 : ∃ fz, wd.heap[p]? = some (.cells c e0 fz) := ⟨fz, hK.at0 hb⟩
  skip
  refine AW.take 0 rfl (by kernel_rfl) (by kernel_rfl) (by kernel_rfl) rfl (by assumption) (fun w hS => Y.move rfl) ?_
  refine AW.take 1 rfl (by kernel_rfl) (by kernel_rfl) (by kernel_rfl) rfl (by assumption) (fun w hS => Y.move rfl) ?_
  refine AW.take 3 rfl (by kernel_rfl) (by kernel_rfl) (by kernel_rfl) rfl (by assumption) (fun w hS => Y.fieldAddr rfl (by rfl)) ?_
  refine AW.take 4 rfl (by kernel_rfl) (by kernel_rfl) (by kernel_rfl) rfl (by assumption) (fun w hS => Y.loadB rfl hS.choose_spec h0) ?_
  refine AW.take 6 rfl (by kernel_rfl) (by kernel_rfl) (by kernel_rfl) rfl (by assumption) (fun w hS => Y.fieldAddr rfl (by rfl)) ?_
  refine AW.take 7 rfl (by kernel_rfl) (by kernel_rfl) (by kernel_rfl) rfl (by assumption) (fun w hS => Y.loadN (cs := ver) rfl hvl (verL hv hS.choose_spec)) ?_
  refine AW.two 2 8 rfl rfl (by kernel_rfl) ?_ ?_
  · have hma := hK.size
    obtain ⟨m, hmm⟩ : ∃ m : Nat, wd.heap.size = m := ⟨_, rfl⟩
    refine RW.mkmap rfl (fun wd hm hkn hln => ?_)
    rw [hmm] at hm hln hma
    rw [hmm]
    have hK := hK.trans0 hkn
    have hS0 : ∃ fz, wd.heap[p]? = some (.cells c e0 fz) := ⟨fz, hK.at0 hb⟩
    refine RW.nil (Nm.then ⟨hS0, ?_⟩)
    refine AW.two 5 8 rfl rfl (by kernel_rfl) ?_ ?_
    · first
        | refine RW.insE rfl rfl rfl hm fN (fun wd hm hkn => ?_)
        | refine RW.insE rfl rfl rfl hm (fNV _ _) (fun wd hm hkn => ?_)
      have hK := hK.trans hkn fun k h => .inr (by have h : k = m := h; omega)
      have hS0 : ∃ fz, wd.heap[p]? = some (.cells c e0 fz) := ⟨fz, hK.at0 hb⟩
      refine RW.nil (Nm.then ⟨hS0, ?_⟩)
      refine AW.next 8 rfl (by kernel_rfl) ?_
      refine RW.fn rfl rfl ((htxt wd hK).mono ?_)
      rintro e wd ⟨rfl, hkd⟩
      have hK := hK.trans0 hkd
      try replace hm := hkd.at0 hm
      have hS0 : ∃ fz, wd.heap[p]? = some (.cells c e0 fz) := ⟨fz, hK.at0 hb⟩
      refine RW.nil (Nm.then ⟨hS0, ?_⟩)
      refine AW.next 9 rfl (by kernel_rfl) ?_
      first
        | refine RW.insE rfl rfl rfl hm fV (fun wd hm hkn => ?_)
        | refine RW.insE rfl rfl rfl hm (fVN _ _) (fun wd hm hkn => ?_)
      have hK := hK.trans hkn fun k h => .inr (by have h : k = m := h; omega)
      have hS0 : ∃ fz, wd.heap[p]? = some (.cells c e0 fz) := ⟨fz, hK.at0 hb⟩
      refine RW.nil (Nm.then ⟨hS0, ?_⟩)
      refine AW.take 10 rfl (by kernel_rfl) (by kernel_rfl) (by kernel_rfl) rfl (by assumption) (fun w hS => Y.move rfl) ?_
      refine AW.next 11 rfl (by kernel_rfl) ?_
      refine RW.fn rfl rfl ((hrun wd m _ hK hma hm (by first | exact .inl rfl | exact .inr rfl)).mono ?_)
      rintro e wd ⟨x, y, z, rfl, hR5, hS5⟩
      refine RW.nil (Nm.then ⟨hS5, ?_⟩)
      refine AW.take 12 rfl (by kernel_rfl) (by kernel_rfl) (by kernel_rfl) rfl (by assumption) (fun w hS => Y.move rfl) ?_
      refine AW.take 13 rfl (by kernel_rfl) (by kernel_rfl) (by kernel_rfl) rfl (by assumption) (fun w hS => Y.extract rfl rfl) ?_
      refine AW.take 14 rfl (by kernel_rfl) (by kernel_rfl) (by kernel_rfl) rfl (by assumption) (fun w hS => Y.extract rfl rfl) ?_
      refine AW.take 15 rfl (by kernel_rfl) (by kernel_rfl) (by kernel_rfl) rfl (by assumption) (fun w hS => Y.extract rfl rfl) ?_
      refine AW.take 16 rfl (by kernel_rfl) (by kernel_rfl) (by kernel_rfl) rfl (by assumption) (fun w hS => Y.assign rfl) ?_
      refine AW.take 17 rfl (by kernel_rfl) (by kernel_rfl) (by kernel_rfl) rfl (by assumption) (fun w hS => Y.assign rfl) ?_
      refine AW.take 18 rfl (by kernel_rfl) (by kernel_rfl) (by kernel_rfl) rfl (by assumption) (fun w hS => Y.assign rfl) ?_
      refine AW.donew [9, 10, 11] (by kernel_rfl) ?_
      dsimp only [H.keep, H.look, H.Fr.put, Nat.beq]
      exact cl_nil ⟨x, y, z, hR5, rfl, rfl, rfl, rfl, rfl⟩
    · refine RW.fn rfl rfl ((htxt wd hK).mono ?_)
      rintro e wd ⟨rfl, hkd⟩
      have hK := hK.trans0 hkd
      try replace hm := hkd.at0 hm
      have hS0 : ∃ fz, wd.heap[p]? = some (.cells c e0 fz) := ⟨fz, hK.at0 hb⟩
      refine RW.nil (Nm.then ⟨hS0, ?_⟩)
      refine AW.two 5 9 rfl rfl (by kernel_rfl) ?_ ?_
      · first
          | refine RW.insE rfl rfl rfl hm fN (fun wd hm hkn => ?_)
          | refine RW.insE rfl rfl rfl hm (fNV _ _) (fun wd hm hkn => ?_)
        have hK := hK.trans hkn fun k h => .inr (by have h : k = m := h; omega)
        have hS0 : ∃ fz, wd.heap[p]? = some (.cells c e0 fz) := ⟨fz, hK.at0 hb⟩
        refine RW.nil (Nm.then ⟨hS0, ?_⟩)
        refine AW.next 9 rfl (by kernel_rfl) ?_
        first
          | refine RW.insE rfl rfl rfl hm fV (fun wd hm hkn => ?_)
          | refine RW.insE rfl rfl rfl hm (fVN _ _) (fun wd hm hkn => ?_)
        have hK := hK.trans hkn fun k h => .inr (by have h : k = m := h; omega)
        have hS0 : ∃ fz, wd.heap[p]? = some (.cells c e0 fz) := ⟨fz, hK.at0 hb⟩
        refine RW.nil (Nm.then ⟨hS0, ?_⟩)
        refine AW.take 10 rfl (by kernel_rfl) (by kernel_rfl) (by kernel_rfl) rfl (by assumption) (fun w hS => Y.move rfl) ?_
        refine AW.next 11 rfl (by kernel_rfl) ?_
        refine RW.fn rfl rfl ((hrun wd m _ hK hma hm (by first | exact .inl rfl | exact .inr rfl)).mono ?_)
        rintro e wd ⟨x, y, z, rfl, hR5, hS5⟩
        refine RW.nil (Nm.then ⟨hS5, ?_⟩)
        refine AW.take 12 rfl (by kernel_rfl) (by kernel_rfl) (by kernel_rfl) rfl (by assumption) (fun w hS => Y.move rfl) ?_
        refine AW.take 13 rfl (by kernel_rfl) (by kernel_rfl) (by kernel_rfl) rfl (by assumption) (fun w hS => Y.extract rfl rfl) ?_
        refine AW.take 14 rfl (by kernel_rfl) (by kernel_rfl) (by kernel_rfl) rfl (by assumption) (fun w hS => Y.extract rfl rfl) ?_
        refine AW.take 15 rfl (by kernel_rfl) (by kernel_rfl) (by kernel_rfl) rfl (by assumption) (fun w hS => Y.extract rfl rfl) ?_
        refine AW.take 16 rfl (by kernel_rfl) (by kernel_rfl) (by kernel_rfl) rfl (by assumption) (fun w hS => Y.assign rfl) ?_
        refine AW.take 17 rfl (by kernel_rfl) (by kernel_rfl) (by kernel_rfl) rfl (by assumption) (fun w hS => Y.assign rfl) ?_
        refine AW.take 18 rfl (by kernel_rfl) (by kernel_rfl) (by kernel_rfl) rfl (by assumption) (fun w hS => Y.assign rfl) ?_
        refine AW.donew [9, 10, 11] (by kernel_rfl) ?_
        dsimp only [H.keep, H.look, H.Fr.put, Nat.beq]
        exact cl_nil ⟨x, y, z, hR5, rfl, rfl, rfl, rfl, rfl⟩
      · first
          | refine RW.insE rfl rfl rfl hm fV (fun wd hm hkn => ?_)
          | refine RW.insE rfl rfl rfl hm (fVN _ _) (fun wd hm hkn => ?_)
        have hK := hK.trans hkn fun k h => .inr (by have h : k = m := h; omega)
        have hS0 : ∃ fz, wd.heap[p]? = some (.cells c e0 fz) := ⟨fz, hK.at0 hb⟩
        refine RW.nil (Nm.then ⟨hS0, ?_⟩)
        refine AW.next 5 rfl (by kernel_rfl) ?_
        first
          | refine RW.insE rfl rfl rfl hm fN (fun wd hm hkn => ?_)
          | refine RW.insE rfl rfl rfl hm (fNV _ _) (fun wd hm hkn => ?_)
        have hK := hK.trans hkn fun k h => .inr (by have h : k = m := h; omega)
        have hS0 : ∃ fz, wd.heap[p]? = some (.cells c e0 fz) := ⟨fz, hK.at0 hb⟩
        refine RW.nil (Nm.then ⟨hS0, ?_⟩)
        refine AW.take 10 rfl (by kernel_rfl) (by kernel_rfl) (by kernel_rfl) rfl (by assumption) (fun w hS => Y.move rfl) ?_
        refine AW.next 11 rfl (by kernel_rfl) ?_
        refine RW.fn rfl rfl ((hrun wd m _ hK hma hm (by first | exact .inl rfl | exact .inr rfl)).mono ?_)
        rintro e wd ⟨x, y, z, rfl, hR5, hS5⟩
        refine RW.nil (Nm.then ⟨hS5, ?_⟩)
        refine AW.take 12 rfl (by kernel_rfl) (by kernel_rfl) (by kernel_rfl) rfl (by assumption) (fun w hS => Y.move rfl) ?_
        refine AW.take 13 rfl (by kernel_rfl) (by kernel_rfl) (by kernel_rfl) rfl (by assumption) (fun w hS => Y.extract rfl rfl) ?_
        refine AW.take 14 rfl (by kernel_rfl) (by kernel_rfl) (by kernel_rfl) rfl (by assumption) (fun w hS => Y.extract rfl rfl) ?_
        refine AW.take 15 rfl (by kernel_rfl) (by kernel_rfl) (by kernel_rfl) rfl (by assumption) (fun w hS => Y.extract rfl rfl) ?_
        refine AW.take 16 rfl (by kernel_rfl) (by kernel_rfl) (by kernel_rfl) rfl (by assumption) (fun w hS => Y.assign rfl) ?_
        refine AW.take 17 rfl (by kernel_rfl) (by kernel_rfl) (by kernel_rfl) rfl (by assumption) (fun w hS => Y.assign rfl) ?_
        refine AW.take 18 rfl (by kernel_rfl) (by kernel_rfl) (by kernel_rfl) rfl (by assumption) (fun w hS => Y.assign rfl) ?_
        refine AW.donew [9, 10, 11] (by kernel_rfl) ?_
        dsimp only [H.keep, H.look, H.Fr.put, Nat.beq]
        exact cl_nil ⟨x, y, z, hR5, rfl, rfl, rfl, rfl, rfl⟩
  · refine RW.fn rfl rfl ((htxt wd hK).mono ?_)
    rintro e wd ⟨rfl, hkd⟩
    have hK := hK.trans0 hkd
    try replace hm := hkd.at0 hm
    have hS0 : ∃ fz, wd.heap[p]? = some (.cells c e0 fz) := ⟨fz, hK.at0 hb⟩
    refine RW.nil (Nm.then ⟨hS0, ?_⟩)
    refine AW.next 2 rfl (by kernel_rfl) ?_
    have hma := hK.size
    obtain ⟨m, hmm⟩ : ∃ m : Nat, wd.heap.size = m := ⟨_, rfl⟩
    refine RW.mkmap rfl (fun wd hm hkn hln => ?_)
    rw [hmm] at hm hln hma
    rw [hmm]
    have hK := hK.trans0 hkn
    have hS0 : ∃ fz, wd.heap[p]? = some (.cells c e0 fz) := ⟨fz, hK.at0 hb⟩
    refine RW.nil (Nm.then ⟨hS0, ?_⟩)
    refine AW.two 5 9 rfl rfl (by kernel_rfl) ?_ ?_
    · first
        | refine RW.insE rfl rfl rfl hm fN (fun wd hm hkn => ?_)
        | refine RW.insE rfl rfl rfl hm (fNV _ _) (fun wd hm hkn => ?_)
      have hK := hK.trans hkn fun k h => .inr (by have h : k = m := h; omega)
      have hS0 : ∃ fz, wd.heap[p]? = some (.cells c e0 fz) := ⟨fz, hK.at0 hb⟩
      refine RW.nil (Nm.then ⟨hS0, ?_⟩)
      refine AW.next 9 rfl (by kernel_rfl) ?_
      first
        | refine RW.insE rfl rfl rfl hm fV (fun wd hm hkn => ?_)
        | refine RW.insE rfl rfl rfl hm (fVN _ _) (fun wd hm hkn => ?_)
      have hK := hK.trans hkn fun k h => .inr (by have h : k = m := h; omega)
      have hS0 : ∃ fz, wd.heap[p]? = some (.cells c e0 fz) := ⟨fz, hK.at0 hb⟩
      refine RW.nil (Nm.then ⟨hS0, ?_⟩)
      refine AW.take 10 rfl (by kernel_rfl) (by kernel_rfl) (by kernel_rfl) rfl (by assumption) (fun w hS => Y.move rfl) ?_
      refine AW.next 11 rfl (by kernel_rfl) ?_
      refine RW.fn rfl rfl ((hrun wd m _ hK hma hm (by first | exact .inl rfl | exact .inr rfl)).mono ?_)
      rintro e wd ⟨x, y, z, rfl, hR5, hS5⟩
      refine RW.nil (Nm.then ⟨hS5, ?_⟩)
      refine AW.take 12 rfl (by kernel_rfl) (by kernel_rfl) (by kernel_rfl) rfl (by assumption) (fun w hS => Y.move rfl) ?_
      refine AW.take 13 rfl (by kernel_rfl) (by kernel_rfl) (by kernel_rfl) rfl (by assumption) (fun w hS => Y.extract rfl rfl) ?_
      refine AW.take 14 rfl (by kernel_rfl) (by kernel_rfl) (by kernel_rfl) rfl (by assumption) (fun w hS => Y.extract rfl rfl) ?_
      refine AW.take 15 rfl (by kernel_rfl) (by kernel_rfl) (by kernel_rfl) rfl (by assumption) (fun w hS => Y.extract rfl rfl) ?_
      refine AW.take 16 rfl (by kernel_rfl) (by kernel_rfl) (by kernel_rfl) rfl (by assumption) (fun w hS => Y.assign rfl) ?_
      refine AW.take 17 rfl (by kernel_rfl) (by kernel_rfl) (by kernel_rfl) rfl (by assumption) (fun w hS => Y.assign rfl) ?_
      refine AW.take 18 rfl (by kernel_rfl) (by kernel_rfl) (by kernel_rfl) rfl (by assumption) (fun w hS => Y.assign rfl) ?_
      refine AW.donew [9, 10, 11] (by kernel_rfl) ?_
      dsimp only [H.keep, H.look, H.Fr.put, Nat.beq]
      exact cl_nil ⟨x, y, z, hR5, rfl, rfl, rfl, rfl, rfl⟩
    · first
        | refine RW.insE rfl rfl rfl hm fV (fun wd hm hkn => ?_)
        | refine RW.insE rfl rfl rfl hm (fVN _ _) (fun wd hm hkn => ?_)
      have hK := hK.trans hkn fun k h => .inr (by have h : k = m := h; omega)
      have hS0 : ∃ fz, wd.heap[p]? = some (.cells c e0 fz) := ⟨fz, hK.at0 hb⟩
      refine RW.nil (Nm.then ⟨hS0, ?_⟩)
      refine AW.next 5 rfl (by kernel_rfl) ?_
      first
        | refine RW.insE rfl rfl rfl hm fN (fun wd hm hkn => ?_)
        | refine RW.insE rfl rfl rfl hm (fNV _ _) (fun wd hm hkn => ?_)
      have hK := hK.trans hkn fun k h => .inr (by have h : k = m := h; omega)
      have hS0 : ∃ fz, wd.heap[p]? = some (.cells c e0 fz) := ⟨fz, hK.at0 hb⟩
      refine RW.nil (Nm.then ⟨hS0, ?_⟩)
      refine AW.take 10 rfl (by kernel_rfl) (by kernel_rfl) (by kernel_rfl) rfl (by assumption) (fun w hS => Y.move rfl) ?_
      refine AW.next 11 rfl (by kernel_rfl) ?_
      refine RW.fn rfl rfl ((hrun wd m _ hK hma hm (by first | exact .inl rfl | exact .inr rfl)).mono ?_)
      rintro e wd ⟨x, y, z, rfl, hR5, hS5⟩
      refine RW.nil (Nm.then ⟨hS5, ?_⟩)
      refine AW.take 12 rfl (by kernel_rfl) (by kernel_rfl) (by kernel_rfl) rfl (by assumption) (fun w hS => Y.move rfl) ?_
      refine AW.take 13 rfl (by kernel_rfl) (by kernel_rfl) (by kernel_rfl) rfl (by assumption) (fun w hS => Y.extract rfl rfl) ?_
      refine AW.take 14 rfl (by kernel_rfl) (by kernel_rfl) (by kernel_rfl) rfl (by assumption) (fun w hS => Y.extract rfl rfl) ?_
      refine AW.take 15 rfl (by kernel_rfl) (by kernel_rfl) (by kernel_rfl) rfl (by assumption) (fun w hS => Y.extract rfl rfl) ?_
      refine AW.take 16 rfl (by kernel_rfl) (by kernel_rfl) (by kernel_rfl) rfl (by assumption) (fun w hS => Y.assign rfl) ?_
      refine AW.take 17 rfl (by kernel_rfl) (by kernel_rfl) (by kernel_rfl) rfl (by assumption) (fun w hS => Y.assign rfl) ?_
      refine AW.take 18 rfl (by kernel_rfl) (by kernel_rfl) (by kernel_rfl) rfl (by assumption) (fun w hS => Y.assign rfl) ?_
      refine AW.donew [9, 10, 11] (by kernel_rfl) ?_
      dsimp only [H.keep, H.look, H.Fr.put, Nat.beq]
      exact cl_nil ⟨x, y, z, hR5, rfl, rfl, rfl, rfl, rfl⟩
end Go.Proofs.YtoafcnecjgnbmaaGreatDoor.E

set_option linter.constructorNameAsVariable false
set_option linter.unusedVariables false
namespace Go.Proofs.YtoafcnecjgnbmaaGreatDoor.E
open Go Go.RowKit H
attribute [local irreducible] H.CL H.RW H.CW H.Yd H.thenK H.blockQ Go.Calls
noncomputable def sN : List Nat := [110, 97, 109, 101]
noncomputable def sV : List Nat := [118, 101, 114, 115, 105, 111, 110]
noncomputable def tupK (v : AV) (k : AV → AV → AV → Bool) : Bool := match v with
  | .tup [x, y, z] => k x y z
  | _ => false
theorem tupK_ok {v : AV} {k : AV → AV → AV → Bool} (h : tupK v k = true) : ∃ x y z, v = .tup [x, y, z] ∧ k x y z = true := by
  unfold tupK at h
  split at h
  · exact ⟨_, _, _, rfl, h⟩
  · cases h
noncomputable def out8 (n : Nat) (v : AV) (h : Hp) (k : KS) : Bool := tupK v fun x y z => setE n (some 9) x .e fun e => setE n (some 10) y e fun e => setE n (some 11) z e fun e => k .nm e h
noncomputable def run8 (n : Nat) (call : CallF) (l tr : AV) (i : Nat) (ty : TypeId) (cs : List AV) (m : Nat) (h : Hp) (k : KS) : Bool := call 369 [l, tr, .map m, .int .i64 65536] h
  (fun v h' => ask (cellsK h' i fun t op _ cs' => ask (Nat.beq t ty) (ife op false (avEq (.agg cs') (.agg cs)))) (out8 n v h' k)) (fun _ _ => false)
noncomputable def pin8 (cs : List AV) (k : AV → List AV → Bool) : Bool := match cs with
  | nm :: a :: b :: c :: d :: _ => k nm [a, b, c, d]
  | _ => false
theorem pin8_ok {cs : List AV} {k : AV → List AV → Bool} (h : pin8 cs k = true) : ∃ nm a b c d t, cs = nm :: a :: b :: c :: d :: t ∧ k nm [a, b, c, d] = true := by
  unfold pin8 at h
  split at h
  · exact ⟨_, _, _, _, _, _, rfl, h⟩
  · cases h
noncomputable def drX (callF : Nat → CallF) (n : Nat) (call : CallF) : DrawF := fun ops env h k => ask (Nat.beq n 47) (getV 7 env fun l => getV 1 env fun tr => getV 2 env fun b => qPtr b fun i o => ask (Nat.beq o 0) (cellsK h i fun ty op _ cs => ife op false (pin8 cs fun nm ver =>
  callF h.next 370 [.agg ver] h (fun v _ => qStr v fun s => ask (s.all fun b => Nat.blt b 256) (newH h (.mp [.str sN, .str sV] [nm, .str s] [0, 1] 2) fun m hA => newH h (.mp [.str sV, .str sN] [.str s, nm] [0, 1] 2) fun _ hB =>
    ask (run8 n call l tr i ty cs m hA k) (run8 n call l tr i ty cs m hB k))) (fun _ _ => false))))
theorem out8_ok {n : Nat} {v : AV} {h : Hp} {k : KS} (hk : out8 n v h k = true) : ∃ x y z env', v = .tup [x, y, z] ∧ k .nm env' h = true ∧ ∀ (r : Ren) (f : Fr) X Y Z, real r x = some X → real r y = some Y → real r z = some Z → H.look f.e 9 = some X → H.look f.e 10 = some Y → H.look f.e 11 = some Z → FrOk r env' f := by
  obtain ⟨x, y, z, rfl, hk1⟩ := tupK_ok hk
  obtain ⟨e1, hk2, _, s1⟩ := setE_ok (d := some 9) hk1
  obtain ⟨e2, hk3, _, s2⟩ := setE_ok (d := some 10) hk2
  obtain ⟨e3, hk4, _, s3⟩ := setE_ok (d := some 11) hk3
  refine ⟨x, y, z, e3, rfl, hk4, fun r f X Y Z hx hy hz l1 l2 l3 => ?_⟩
  have h0 : FrOk r (.e : Tr AV) f := fun t v _ hv => by rw [Tr.get_e] at hv; cases hv
  have h3 := s3 r _ Z (s2 r _ Y (s1 r f X h0 hx) hy) hz
  intro t v ht hv
  obtain ⟨u, hu, hl⟩ := h3 t v ht hv
  refine ⟨u, hu, ?_⟩
  rw [← hl]
  show H.look f.e t = H.look ((11, Z) :: (10, Y) :: (9, X) :: f.e) t
  simp only [H.look]
  by_cases a : t = 11
  · subst a; simp [l3]
  by_cases b : t = 10
  · subst b; simp [l2]
  by_cases c : t = 9
  · subst c; simp [l1]
  · have q : ∀ {j : Nat}, ¬ t = j → Nat.beq j t = false := fun {j} hj => by cases e : Nat.beq j t with
      | false => rfl
      | true => exact absurd (Nat.eq_of_beq_eq_true e).symm hj
    simp only [q a, q b, q c]
theorem regs8 : ∀ fn c, Tryz.prog.funcs[304]? = some fn → fn.body = some c → Regs (fun ops => ops = R8) c := by
  intro fn c hf hb
  rw [Tryz.func304] at hf
  cases hf
  injection hb with hb
  subst hb
  simp only [Regs]
  repeat' (first | trivial | rfl | constructor)
theorem drX_ok {fl n : Nat} {callF : Nat → CallF} {call : CallF} (hF : ∀ fl, CallOk Tryz.prog fl (callF fl)) (hc : CallOk Tryz.prog fl call) : DrawWk Tryz.prog fl n (fun ops => ops = R8) (drX callF n call) := by
  intro ops env h k hG hk
  subst hG
  obtain ⟨hn, hk⟩ := ask_ok hk
  have hn := Nat.eq_of_beq_eq_true hn
  obtain ⟨l, hl, hk⟩ := getV_ok hk
  obtain ⟨tr, htr, hk⟩ := getV_ok hk
  obtain ⟨b, hb, hk⟩ := getV_ok hk
  obtain ⟨i, o, rfl, hk1⟩ := qPtr_ok (x := b) hk
  clear hk
  obtain ⟨ho, hk⟩ := ask_ok hk1
  have ho := Nat.eq_of_beq_eq_true ho
  obtain ⟨ty, op, ro, cs, hbk, hk⟩ := cellsK_ok hk
  rcases ife_ok hk with ⟨_, hk⟩ | ⟨hop, hk⟩
  · cases hk
  obtain ⟨nm, a, b, c, d, t, hcs, hk⟩ := pin8_ok hk
  have hF1 := hF _ _ _ _ _ _ hk
  obtain ⟨v, h1, hk3, hT⟩ := hF1.resolve_right (fun ⟨_, _, hk, _⟩ => by cases hk)
  obtain ⟨s, rfl, hk4⟩ := qStr_ok (x := v) hk3
  obtain ⟨hbs, hk2⟩ := ask_ok hk4
  replace hbs : Bytes s := hbs
  clear hk
  obtain ⟨g1, hk⟩ := newH_ok hk2
  obtain ⟨g2, hk⟩ := newH_ok hk
  obtain ⟨hA, hB⟩ := ask_ok hk
  have two : ∀ hX, run8 n call l tr i ty cs h.next hX k = true → ∃ v h', (cellsK h' i fun t op _ cs' => ask (Nat.beq t ty) (ife op false (avEq (.agg cs') (.agg cs)))) = true ∧ out8 n v h' k = true ∧ ∀ S w0 r w xs, Rel S w0 fl r hX w → reals r [l, tr, .map h.next, .int .i64 65536] = some xs → Calls Tryz.prog 369 xs.toArray w fun e w' => ∃ r' x, e = .returned x ∧ Ext r r' ∧ Rel S w0 fl r' h' w' ∧ real r' v = some x := by
    intro hX hk
    rcases hc _ _ _ _ _ hk with ⟨v, h', hk, hT⟩ | ⟨_, _, hk, _⟩
    · obtain ⟨q1, q2⟩ := ask_ok hk
      exact ⟨v, h', q1, q2, hT⟩
    · cases hk
  obtain ⟨vA, hA', cA, kA, CA⟩ := two _ hA
  obtain ⟨vB, hB', cB, kB, CB⟩ := two _ hB
  obtain ⟨xA, yA, zA, eA, rA, kA2, FA⟩ := out8_ok kA
  obtain ⟨xB, yB, zB, eB, rB, kB2, FB⟩ := out8_ok kB
  refine ⟨⟨_, _, _, kA2⟩, fun id S w0 r f w Q hfn hf hR hE => ?_⟩
  obtain ⟨lv, hlv, hl7⟩ := hf 7 l (by decide) hl
  obtain ⟨tv, htv, hl1⟩ := hf 1 tr (by decide) htr
  obtain ⟨bv, hbv, hl2⟩ := hf 2 _ (by decide) hb
  obtain ⟨p, hp, rfl⟩ := real_ptr hbv
  rw [ho] at hl2
  obtain ⟨cc, fz, us, e1, e2, e3, e4, e5, e6, e7⟩ := hR.at hp hbk
  have hfull : us = cc.toList := by
    rw [e4, List.take_of_length_le]
    rw [Array.length_toList, e2, e6 hop]
    exact Nat.le_refl _
  rw [hcs] at e3
  obtain ⟨nv, us1, hnv, h3a, hus1⟩ := reals_cons.1 e3
  have hver : ∃ ver us2, reals r [a, b, c, d] = some ver ∧ us1 = ver ++ us2 := by
    obtain ⟨a', u2, ha', h3b, q2⟩ := reals_cons.1 h3a
    obtain ⟨b', u3, hb', h3c, q3⟩ := reals_cons.1 h3b
    obtain ⟨c', u4, hc', h3d, q4⟩ := reals_cons.1 h3c
    obtain ⟨d', u5, hd', h3e, q5⟩ := reals_cons.1 h3d
    exact ⟨[a', b', c', d'], u5, reals_cons.2 ⟨_, _, ha', reals_cons.2 ⟨_, _, hb', reals_cons.2 ⟨_, _, hc', reals_cons.2 ⟨_, _, hd', reals_nil, rfl⟩, rfl⟩, rfl⟩, rfl⟩, by rw [q2, q3, q4, q5]; rfl⟩
  obtain ⟨ver, us2, hver, q2⟩ := hver
  have hcl : cc.toList = nv :: (ver ++ us2) := by rw [← hfull, hus1, q2]
  have hvl : ver.length = 4 := reals_len hver
  -- how it ends
  let R : Value → Value → Value → World → Prop := fun X Y Z w' => ∃ h' env' r' x y z, k .nm env' h' = true ∧ Ext r r' ∧ Rel S w0 fl r' h' w' ∧ real r' x = some X ∧ real r' y = some Y ∧ real r' z = some Z ∧ ∀ (f : Fr), H.look f.e 9 = some X → H.look f.e 10 = some Y → H.look f.e 11 = some Z → FrOk r' env' f
  have sbytes : ∀ {r' : Ren} {x : Value}, real r' (.str s) = some x → Bytes s ∧ x = .string (B (textOf s)) := fun hx => by
    obtain ⟨h1, h2⟩ := real_str hx
    exact ⟨h1, h2⟩
  have same : ∀ {r' : Ren} {h' : Hp} {w' : World}, Ext r r' → Rel S w0 fl r' h' w' → (cellsK h' i fun t op _ cs' => ask (Nat.beq t ty) (ife op false (avEq (.agg cs') (.agg cs)))) = true → ∃ fz, w'.heap[p.1]? = some (.cells cc ty fz) := by
    intro r' h' w' hx hR' hk
    obtain ⟨t', op', ro', cs', hb', hk1⟩ := cellsK_ok hk
    obtain ⟨ht', hk2⟩ := ask_ok hk1
    rcases ife_ok hk2 with ⟨_, hk3⟩ | ⟨hop', hk3⟩
    · cases hk3
    have hcs' := avEq_ok _ _ hk3
    injection hcs' with hcs'
    rw [hcs', Nat.eq_of_beq_eq_true ht'] at hb'
    obtain ⟨c2, fz2, us3, f1, f2, f3, f4, f5, f6, f7⟩ := hR'.at (hx.v i p hp) hb'
    rw [hcs] at f3
    have := reals_mono hx _ _ e3
    rw [f3] at this
    injection this with this
    have hc2 : c2.toList = cc.toList := by
      rw [← hfull, ← this, f4, List.take_of_length_le]
      rw [Array.length_toList, f2, f6 hop']
      exact Nat.le_refl _
    exact ⟨fz2, by rw [f1, Array.ext' hc2]⟩
  have hvt : ∀ W, K0 w W → Calls Tryz.prog 370 #[.agg ver.toArray] W fun e w' => Bytes s ∧ e = .returned (.string (B (textOf s))) ∧ K0 W w' := by
    intro W hK
    refine (hT _ W r W [.agg ver.toArray] (hR.same hK).floor (reals_cons.2 ⟨_, _, by simp only [real, hver, Option.map_some], reals_nil, rfl⟩)).mono ?_
    rintro e w' ⟨r', x, rfl, hx, hR', hxv⟩
    obtain ⟨z1, rfl⟩ := sbytes hxv
    exact ⟨z1, rfl, hR'.kept⟩
  have h8 := reg8 id n f.ds w lv tv p.1 nv (B (textOf s)) ver cc ty fz hn e1 (by rw [hcl]; rfl) (fun j v hj => by
      rw [hcl, Nat.add_comm 1 j, List.getElem?_cons_succ, List.getElem?_append_left (List.getElem?_eq_some_iff.1 hj).1]
      exact hj) hvl (fun W hK => (hvt W hK).mono fun e w' ⟨_, h2, h3⟩ => ⟨h2, h3⟩) R ?_
  · refine CW_less (f := f) (f1 := ⟨n, f.ds, [(1, tv), (2, .pointer (some ⟨p.1, 0, none⟩)), (7, lv)]⟩) hfn.symm rfl (fun t v ht => ?_) (h8.mono ?_)
    · simp only [H.look] at ht
      split at ht
      · rename_i q; rw [← Nat.eq_of_beq_eq_true q]; cases ht; exact hl1
      split at ht
      · rename_i q; rw [← Nat.eq_of_beq_eq_true q]; cases ht; exact hl2
      split at ht
      · rename_i q; rw [← Nat.eq_of_beq_eq_true q]; cases ht; exact hl7
      · cases ht
    · intro x f' w' hq
      cases x with
      | normal =>
        obtain ⟨X, Y, Z, ⟨h', env', r', x, y, z, hk, hx, hR', h1, h2, h3, hF⟩, g1, g2, g3, g4, g5⟩ := hq
        exact hE .nm env' h' hk r' f' w' g1 g2 hx (hF f' g3 g4 g5) hR'
      | _ => cases hq
  · intro W m es hK hm hbm hes
    have R0 := hR.same hK
    have im : ∀ i q, r i = some q → q.1 ≠ m := fun i q hq => by have := hR.dom i q hq; omega
    have hsz := hR.kept.size
    have fin : ∀ {hX : Hp} {vX : AV} {h' : Hp}, Rel S w0 fl (upd r h.next (m, 0)) hX W → (cellsK h' i fun t op _ cs' => ask (Nat.beq t ty) (ife op false (avEq (.agg cs') (.agg cs)))) = true → out8 n vX h' k = true → (∀ S w0 r w xs, Rel S w0 fl r hX w → reals r [l, tr, .map h.next, .int .i64 65536] = some xs → Calls Tryz.prog 369 xs.toArray w fun e w' => ∃ r' x, e = .returned x ∧ Ext r r' ∧ Rel S w0 fl r' h' w' ∧ real r' vX = some x) →
        Calls Tryz.prog 369 #[lv, tv, .map (some m), .int .i64 65536] W fun e w' => ∃ x y z, e = .returned (.tuple #[x, y, z]) ∧ R x y z w' ∧ ∃ fz, w'.heap[p.1]? = some (.cells cc ty fz) := by
      intro hX vX h' hRX hcX hoX hCX
      have hx1 := upd_ext hR (m, 0)
      refine (hCX S w0 _ W [lv, tv, .map (some m), .int .i64 65536] hRX (reals_cons.2 ⟨_, _, real_mono hx1 _ _ hlv, reals_cons.2 ⟨_, _, real_mono hx1 _ _ htv, reals_cons.2 ⟨_, _, by simp only [real, upd_same, Option.map_some], reals_cons.2 ⟨_, _, rfl, reals_nil, rfl⟩, rfl⟩, rfl⟩, rfl⟩)).mono ?_
      rintro e w' ⟨r', x, rfl, hx, hR', hxv⟩
      obtain ⟨x1, y1, z1, env', rfl, hk', hF⟩ := out8_ok hoX
      simp only [real, Option.map_eq_some_iff] at hxv
      obtain ⟨us', hus', rfl⟩ := hxv
      obtain ⟨X, t1, hX1, ht1, rfl⟩ := reals_cons.1 hus'
      obtain ⟨Y, t2, hY1, ht2, rfl⟩ := reals_cons.1 ht1
      obtain ⟨Z, hZ1, rfl⟩ := reals1 ht2
      exact ⟨X, Y, Z, rfl, ⟨h', env', r', _, _, _, hk', hx1.trans hx, hR', hX1, hY1, hZ1, fun f a b c => hF r' f X Y Z hX1 hY1 hZ1 a b c⟩, same (hx1.trans hx) hR' hcX⟩
    have hx1 := upd_ext hR (m, 0)
    have sNr : ∀ r', real r' (.str sN) = some (.string bN) := fun r' => by kernel_rfl
    have sVr : ∀ r', real r' (.str sV) = some (.string bV) := fun r' => by kernel_rfl
    have ssr : ∀ r', real r' (.str s) = some (.string (B (textOf s))) := fun r' => str_real hbs
    rcases hes with rfl | rfl
    · exact fin (R0.adopt (b := .mp [.str sN, .str sV] [nm, .str s] [0, 1] 2) (p := (m, 0)) g1 im (.inr (by show w0.heap.size ≤ m; omega)) ⟨_, 2, hbm, reals_cons.2 ⟨_, _, sNr _, reals_cons.2 ⟨_, _, sVr _, reals_nil, rfl⟩, rfl⟩, reals_cons.2 ⟨_, _, real_mono hx1 _ _ hnv, reals_cons.2 ⟨_, _, ssr _, reals_nil, rfl⟩, rfl⟩, by simp [eN, eV], by simp [eN, eV], rfl, rfl⟩) cA kA CA
    · exact fin (R0.adopt (b := .mp [.str sV, .str sN] [.str s, nm] [0, 1] 2) (p := (m, 0)) g1 im (.inr (by show w0.heap.size ≤ m; omega)) ⟨_, 2, hbm, reals_cons.2 ⟨_, _, sVr _, reals_cons.2 ⟨_, _, sNr _, reals_nil, rfl⟩, rfl⟩, reals_cons.2 ⟨_, _, ssr _, reals_cons.2 ⟨_, _, real_mono hx1 _ _ hnv, reals_nil, rfl⟩, rfl⟩, by simp [eN, eV], by simp [eN, eV], rfl, rfl⟩) cB kB CB
/-- The same, in one order alone. -/
noncomputable def drXA (callF : Nat → CallF) (n : Nat) (call : CallF) : DrawF := fun ops env h k => ask (Nat.beq n 47) (getV 7 env fun l => getV 1 env fun tr => getV 2 env fun b => qPtr b fun i o => ask (Nat.beq o 0) (cellsK h i fun ty op _ cs => ife op false (pin8 cs fun nm ver =>
  callF h.next 370 [.agg ver] h (fun v _ => qStr v fun s => newH h (.mp [.str sN, .str sV] [nm, .str s] [0, 1] 2) fun m hA => run8 n call l tr i ty cs m hA k) (fun _ _ => false))))
end Go.Proofs.YtoafcnecjgnbmaaGreatDoor.E

set_option linter.constructorNameAsVariable false
set_option linter.unusedVariables false
namespace Go.Proofs.YtoafcnecjgnbmaaGreatDoor.E
open Go Go.RowKit H
attribute [local irreducible] H.CL H.RW H.CW H.Yd H.thenK H.blockQ Go.Calls
/-- Two blocks alone: a slice of one slice, and bytes. -/
noncomputable def sumH (t1 t2 : TypeId) (n : Nat) (s : List Nat) : Hp := ((⟨102, .e⟩ : Hp).put 101 (some (.cells t2 true true (ints s)))).put 100 (some (.cells t1 false true [.slx 101 0 n 1]))
theorem sumH_at {t1 t2 : TypeId} {n : Nat} {s : List Nat} {i : Nat} (hi : i < LIM) : (sumH t1 t2 n s).at i = if 100 = i then some (.cells t1 false true [.slx 101 0 n 1]) else if 101 = i then some (.cells t2 true true (ints s)) else none := by
  unfold sumH
  rw [Hp.at_put (by decide) hi, Hp.at_put (by decide) hi]
  simp only [Hp.at, Tr.get_e]
def sumR (p q : Nat × Nat) : Ren := ⟨fun i => if i = 100 then some p else if i = 101 then some q else none, fun i => i < 100, fun _ => 0⟩
/-- The sums that are known, of these many bytes. -/
def SumOk (P : Program) (f : FuncId) (t1 t2 : TypeId) (s d : List Nat) : Prop := ∀ w r, Rel (fun _ => False) w 102 r (sumH t1 t2 s.length s) w → ∀ xs, reals r [.sl 100 0 1 1] = some xs → Calls P f xs.toArray w fun e w' => K0 w w' ∧ e = .returned (.agg (bv (textOf d)).toArray)
noncomputable def sumLook (s : List Nat) (T : List (List Nat × List Nat)) (k : List Nat → Bool) : Bool := List.rec (motive := fun _ => Bool) false (fun x _ ih => ife (sEq x.1 s) (k x.2) ih) T
theorem sumLook_ok {s : List Nat} {k : List Nat → Bool} : ∀ {T : List (List Nat × List Nat)}, sumLook s T k = true → ∃ d, (s, d) ∈ T ∧ k d = true
  | [], h => by cases h
  | x :: T, h => by
    rcases ife_ok h with ⟨hb, h1⟩ | ⟨_, h1⟩
    · have hb := sEq_ok hb
      exact ⟨x.2, by rw [← hb]; exact List.mem_cons_self, h1⟩
    · obtain ⟨d, hd, h1⟩ := sumLook_ok (T := T) h1
      exact ⟨d, List.mem_cons_of_mem _ hd, h1⟩
noncomputable def allB (l : List Nat) : Bool := List.rec (motive := fun _ => Bool) true (fun x _ ih => ask (Nat.blt x 256) ih) l
noncomputable def sum1 (t1 t2 : TypeId) (T : List (List Nat × List Nat)) (v : AV) (h : Hp) (k : AV → Bool) : Bool := match v with
  | .sl i 0 1 1 => cellsK h i fun t op ro cs => match cs with
    | [.slx j 0 n 1] => ask (Nat.beq t t1) (ife op false (ife (Nat.beq i j) false (cellsK h j fun t' op' ro' cs => ask (Nat.beq t' t2) (intsK cs fun s => lenK s fun m => ask (Nat.beq n m) (sumLook s T fun d => k (.agg (ints d)))))))
    | _ => false
  | _ => false
noncomputable def sumP (t1 t2 : TypeId) (T : List (List Nat × List Nat)) (vs : List AV) (h : Hp) (k : AV → Bool) : Bool := one1 vs fun v => sum1 t1 t2 T v h k
theorem sumP_ok {P : Program} {fl : Nat} {f : FuncId} {t1 t2 : TypeId} {T : List (List Nat × List Nat)} (hT : ∀ x ∈ T, Bytes x.2 ∧ SumOk P f t1 t2 x.1 x.2) : Pr1 P fl f fun _ vs h kr _ => sumP t1 t2 T vs h fun v => kr v h := by
  refine Pr1.val fun vs h k hk => ?_
  obtain ⟨v, rfl, hk1⟩ := one1_ok hk
  clear hk
  replace hk : sum1 t1 t2 T v h k = true := hk1
  clear hk1
  unfold sum1 at hk
  split at hk
  · rename_i i
    obtain ⟨t, op, ro, cs, hb, hk⟩ := cellsK_ok hk
    split at hk
    · rename_i j n
      obtain ⟨ht, hk⟩ := ask_ok hk
      have ht := Nat.eq_of_beq_eq_true ht
      rw [ht] at hb
      rcases ife_ok hk with ⟨_, hk⟩ | ⟨hop, hk⟩
      · cases hk
      rcases ife_ok hk with ⟨_, hk⟩ | ⟨hij, hk⟩
      · cases hk
      obtain ⟨t', op', ro', cs, hb', hk⟩ := cellsK_ok hk
      obtain ⟨ht', hk⟩ := ask_ok hk
      have ht' := Nat.eq_of_beq_eq_true ht'
      rw [ht'] at hb'
      obtain ⟨s, rfl, hs, hk⟩ := intsK_ok hk
      replace hk : lenK s (fun m => ask (Nat.beq n m) (sumLook s T fun d => k (.agg (ints d)))) = true := hk
      rw [lenK_eq] at hk
      obtain ⟨hn, hk⟩ := ask_ok hk
      have hn := Nat.eq_of_beq_eq_true hn
      rw [hn] at hb
      obtain ⟨d, hd, hk⟩ := sumLook_ok hk
      obtain ⟨hdb, hC⟩ := hT _ hd
      refine ⟨_, hk, fun S' w0 r w xs hR hxs => ?_⟩
      obtain ⟨x, hx, rfl⟩ := reals1 hxs
      obtain ⟨p, hp, rfl⟩ := real_sl hx
      obtain ⟨c, fz, us, e1, e2, e3, e4, e5, e6, e7⟩ := hR.at hp hb
      obtain ⟨u, hu, rfl⟩ := reals1 e3
      obtain ⟨q, hq, hz, ho, hm, rfl⟩ := real_slx hu
      obtain ⟨c', fz', us', g1, g2, g3, g4, g5, g6, g7⟩ := hR.at hq hb'
      have hpq : p.1 ≠ q.1 := fun e => by
        have := hR.inj i j _ _ p q (hR.lt hp) (hR.lt hq) hb hb' hp hq e
        subst this
        simp at hij
      have r100 : sumR p q 100 = some p := rfl
      have r101 : sumR p q 101 = some q := rfl
      have hC' : Rel (fun _ => False) w 102 (sumR p q) (sumH t1 t2 s.length s) w := by
        refine ⟨fun a b ha hab => ?_, fun a b x y x' y' ha hb hx hy hx' hy' e => ?_, fun a ha => ?_, (show 102 ≤ LIM by decide), fun a x ha hx => ?_, fun a x ha hx => ?_, fun a x hx => ?_, Kept.refl _ _, ⟨Nat.le_refl _, (show GLB ≤ 102 by decide)⟩, fun a ha => ?_, fun a ha => ?_, fun a ha hl => ?_⟩
        · have ha : a < 102 := ha
          rw [sumH_at (Nat.lt_trans ha (by decide))] at hab
          by_cases q1 : 100 = a
          · subst q1
            rw [if_pos rfl] at hab; cases hab
            refine ⟨p, rfl, c, fz, _, e1, e2, reals_cons.2 ⟨_, _, ?_, reals_nil, rfl⟩, e4, e5, (fun _ => e6 (by simpa using hop)), (fun z => by cases z)⟩
            simp only [real, r101, Option.bind_some]
            rw [if_pos ⟨hz, ho, hm⟩]
          · rw [if_neg q1] at hab
            by_cases q2 : 101 = a
            · subst q2
              rw [if_pos rfl] at hab; cases hab
              refine ⟨q, rfl, c', fz', us', g1, g2, ?_, g4, g5, (fun z => by cases z), (fun z => by cases z)⟩
              rw [reals_ints hs g3]
              exact ints_real hs
            · rw [if_neg q2] at hab; cases hab
        · have ha : a < 102 := ha
          have hb : b < 102 := hb
          have k1 : a = 100 ∧ p = x' ∨ a = 101 ∧ q = x' := by
            replace hx' : (if a = 100 then some p else if a = 101 then some q else none) = some x' := hx'
            split at hx'
            · exact .inl ⟨by assumption, by cases hx'; rfl⟩
            · split at hx'
              · exact .inr ⟨by assumption, by cases hx'; rfl⟩
              · cases hx'
          have k2 : b = 100 ∧ p = y' ∨ b = 101 ∧ q = y' := by
            replace hy' : (if b = 100 then some p else if b = 101 then some q else none) = some y' := hy'
            split at hy'
            · exact .inl ⟨by assumption, by cases hy'; rfl⟩
            · split at hy'
              · exact .inr ⟨by assumption, by cases hy'; rfl⟩
              · cases hy'
          rcases k1 with ⟨rfl, rfl⟩ | ⟨rfl, rfl⟩ <;> rcases k2 with ⟨rfl, rfl⟩ | ⟨rfl, rfl⟩
          · rfl
          · exact absurd e hpq
          · exact absurd e.symm hpq
          · rfl
        · have ha : 102 ≤ a := ha
          show (if a = 100 then some p else if a = 101 then some q else none) = none
          rw [if_neg (by omega), if_neg (by omega)]
        · have ha : a < 100 := ha
          replace hx : (if a = 100 then some p else if a = 101 then some q else none) = some x := hx
          rw [if_neg (by omega), if_neg (by omega)] at hx; cases hx
        · replace hx : (if a = 100 then some p else if a = 101 then some q else none) = some x := hx
          rw [if_neg (by omega), if_neg (by omega)] at hx; cases hx
        · replace hx : (if a = 100 then some p else if a = 101 then some q else none) = some x := hx
          split at hx
          · cases hx; exact hR.dom _ _ hp
          · split at hx
            · cases hx; exact hR.dom _ _ hq
            · cases hx
        · have ha : a < 100 := ha
          refine ⟨?_, Nat.lt_trans ha (show 100 < 102 by decide)⟩
          show (if a = 100 then some p else if a = 101 then some q else none) = none
          rw [if_neg (by omega), if_neg (by omega)]
        · have ha : a < 102 := ha
          rcases Nat.lt_or_ge a 100 with z | z
          · exact .inl z
          · rcases Nat.eq_or_lt_of_le z with rfl | z
            · exact .inr ⟨p, rfl⟩
            · obtain rfl : a = 101 := by omega
              exact .inr ⟨q, rfl⟩
        · have ha : 102 ≤ a := ha
          rw [sumH_at hl, if_neg (by omega), if_neg (by omega)]
      refine (hC w _ hC' [.slice (some ⟨p.1, 0, none⟩) 1 1] (reals_cons.2 ⟨_, _, by simp [real, r100], reals_nil, rfl⟩)).mono ?_
      rintro e w' ⟨hk', rfl⟩
      refine ⟨_, rfl, hk', ?_⟩
      simp only [real, ints_real hdb, Option.map_some]
    · cases hk
  · cases hk
/-- A sum that an evaluator has found. -/
noncomputable def sumK (call : CallF) (f : FuncId) (t1 t2 : TypeId) (s d : List Nat) (b : Bool) : Bool := lenK s fun n => call f [.sl 100 0 1 1] (sumH t1 t2 n s) (fun v _ => ask (avEq v (.agg (ints d))) b) (fun _ _ => false)
theorem sumK_ok {P : Program} {call : CallF} (hc : CallOk P 102 call) {f : FuncId} {t1 t2 : TypeId} {s d : List Nat} (hd : Bytes d) (hk : sumK call f t1 t2 s d true = true) : SumOk P f t1 t2 s d := by
  replace hk : lenK s (fun n => call f [.sl 100 0 1 1] (sumH t1 t2 n s) (fun v _ => ask (avEq v (.agg (ints d))) true) (fun _ _ => false)) = true := hk
  rw [lenK_eq] at hk
  rcases hc _ _ _ _ _ hk with ⟨v, h', hv, hC⟩ | ⟨v, h', hv, _⟩
  · have := avEq_ok _ _ (ask_ok hv).1
    subst this
    intro w r hR xs hxs
    refine (hC _ w r w xs hR hxs).mono ?_
    rintro e w' ⟨r', x, rfl, hx, hR', hv⟩
    refine ⟨hR'.kept, ?_⟩
    simp only [real, ints_real hd, Option.map_some, Option.some.injEq] at hv
    rw [← hv]
  · cases hv
end Go.Proofs.YtoafcnecjgnbmaaGreatDoor.E

set_option linter.constructorNameAsVariable false
set_option linter.unusedVariables false
namespace Go.Proofs.YtoafcnecjgnbmaaGreatDoor.E
open Go Go.RowKit H
noncomputable def sh0 : List Nat × List Nat := ([80, 65, 75, 49, 1, 0, 3, 108, 105, 98, 0, 0, 5, 108, 105, 98, 47, 97, 0, 0, 0, 0, 0, 0, 0, 7, 97, 32, 49, 46, 48, 46, 48, 0, 0, 8, 98, 117, 105, 108, 100, 46, 104, 115, 0, 0, 0, 0, 0, 0, 0, 33, 119, 114, 105, 116, 101, 32, 111, 117, 116, 32, 34, 98, 117, 105, 108, 116, 32, 36, 110, 97, 109, 101, 32, 36, 118, 101, 114, 115, 105, 111, 110, 34, 10, 255], [52, 223, 109, 216, 13, 133, 30, 174, 246, 126, 9, 94, 225, 224, 212, 10, 103, 184, 63, 145, 230, 49, 239, 103, 196, 4, 160, 30, 90, 42, 147, 34])
noncomputable def sh1 : List Nat × List Nat := ([80, 65, 75, 49, 1, 0, 3, 108, 105, 98, 0, 0, 5, 108, 105, 98, 47, 97, 0, 0, 0, 0, 0, 0, 0, 7, 97, 32, 49, 46, 48, 46, 48, 255], [247, 75, 173, 207, 79, 251, 103, 86, 22, 88, 80, 22, 206, 252, 26, 93, 220, 89, 255, 89, 221, 250, 37, 116, 201, 87, 49, 142, 52, 89, 194, 38])
noncomputable def sh2 : List Nat × List Nat := ([80, 65, 75, 49, 1, 0, 3, 108, 105, 98, 0, 0, 5, 108, 105, 98, 47, 98, 0, 0, 0, 0, 0, 0, 0, 7, 98, 32, 49, 46, 48, 46, 48, 255], [45, 69, 195, 32, 250, 202, 190, 113, 182, 45, 253, 134, 227, 194, 138, 223, 105, 108, 11, 193, 138, 36, 111, 167, 49, 211, 170, 40, 124, 185, 48, 232])
noncomputable def sh3 : List Nat × List Nat := ([80, 65, 75, 49, 1, 0, 3, 108, 105, 98, 0, 0, 5, 108, 105, 98, 47, 99, 0, 0, 0, 0, 0, 0, 0, 7, 99, 32, 49, 46, 48, 46, 48, 255], [135, 239, 75, 158, 124, 169, 230, 100, 213, 252, 154, 29, 244, 155, 2, 151, 172, 148, 244, 36, 157, 53, 64, 54, 71, 208, 231, 183, 160, 188, 188, 216])
noncomputable def sh4 : List Nat × List Nat := ([80, 65, 75, 49, 1, 0, 3, 108, 105, 98, 0, 0, 5, 108, 105, 98, 47, 100, 0, 0, 0, 0, 0, 0, 0, 7, 100, 32, 49, 46, 48, 46, 48, 255], [58, 82, 228, 244, 166, 71, 217, 162, 9, 34, 123, 165, 78, 197, 237, 25, 166, 120, 67, 48, 122, 120, 122, 160, 184, 77, 106, 96, 148, 244, 152, 156])
noncomputable def sh5 : List Nat × List Nat := ([80, 65, 75, 49, 1, 0, 3, 108, 105, 98, 0, 0, 5, 108, 105, 98, 47, 101, 0, 0, 0, 0, 0, 0, 0, 7, 101, 32, 49, 46, 48, 46, 48, 255], [224, 122, 41, 229, 167, 57, 155, 79, 246, 221, 230, 46, 164, 208, 200, 154, 176, 204, 248, 95, 163, 136, 252, 89, 1, 106, 138, 127, 14, 232, 67, 34])
noncomputable def shaT : List (List Nat × List Nat) := [sh0, sh1, sh2, sh3, sh4, sh5]
noncomputable abbrev P0 : Program := Tryz.prog
abbrev FU : Nat := 10000000
noncomputable def dr0 (fl n : Nat) (call : CallF) : DrawF := drawsK P0 fl n call
theorem mo0 : P0.follows .mixedOrders = true := by kernel_rfl
theorem dr0_ok (fl : Nat) : ∀ n call, CallOk P0 fl call → DrawOk P0 fl n RG (dr0 fl n call) := fun n call hc => drawsK_ok mo0 n call hc
theorem regs0 : AllRegs P0 RG := allRegs (by kernel_rfl)
-- sums
noncomputable def callS (d : Nat) : CallF := callK P0 102 FU (tab []) (dr0 102) d
theorem callS_ok (d : Nat) : CallOk P0 102 (callS d) := callK_ok (tab_ok (fun x hx => by cases hx)) (dr0_ok 102) regs0 d
noncomputable def sumB (f : FuncId) (x : List Nat × List Nat) (b : Bool) : Bool := sumK (callS 20) f 60 5 x.1 x.2 b
theorem sumB_ok {f : FuncId} {x : List Nat × List Nat} (hb : (x.2.all fun b => Nat.blt b 256) = true) (hs : sumB f x true = true) : Bytes x.2 ∧ SumOk P0 f 60 5 x.1 x.2 := ⟨hb, sumK_ok (callS_ok 20) hb hs⟩
end Go.Proofs.YtoafcnecjgnbmaaGreatDoor.E

namespace Go.Proofs
open Go.Shelf
shelf_try shelf_lay_g SlLaysF0.n6 Slsf 6 at Tryz 313 as Tryz.sortFiles
shelf_tried
end Go.Proofs

set_option linter.constructorNameAsVariable false
set_option linter.unusedVariables false
namespace Go.Proofs.YtoafcnecjgnbmaaGreatDoor.E
open Go Go.RowKit Go.Shelf H
attribute [local irreducible] H.CL H.RW H.CW H.Yd H.thenK H.blockQ Go.Calls
/-! Texts in their order. -/
theorem bl_cons (a b : UInt8) (x y : List UInt8) : Op.bytesLess (a :: x) (b :: y) = true ↔ a.toNat < b.toNat ∨ (a = b ∧ Op.bytesLess x y = true) := by
  simp only [Op.bytesLess, Bool.or_eq_true, decide_eq_true_eq, Bool.and_eq_true, beq_iff_eq, UInt8.lt_iff_toNat_lt]
theorem bl_irr : ∀ a : List UInt8, Op.bytesLess a a = false
  | [] => rfl
  | c :: a => by
    rw [Bool.eq_false_iff]; intro h
    rcases (bl_cons _ _ _ _).1 h with h | ⟨_, h⟩
    · omega
    · rw [bl_irr a] at h; cases h
theorem bl_trans : ∀ a b c : List UInt8, Op.bytesLess a b = true → Op.bytesLess b c = true → Op.bytesLess a c = true
  | _, _, [], _, h => by simp [Op.bytesLess] at h
  | _, [], _ :: _, h, _ => by simp [Op.bytesLess] at h
  | [], _ :: _, _ :: _, _, _ => rfl
  | a :: x, b :: y, c :: z, h1, h2 => by
    rw [bl_cons] at h1 h2 ⊢
    rcases h1 with h1 | ⟨rfl, h1⟩
    · rcases h2 with h2 | ⟨rfl, _⟩
      · left; omega
      · left; exact h1
    · rcases h2 with h2 | ⟨rfl, h2⟩
      · left; exact h2
      · right; exact ⟨rfl, bl_trans x y z h1 h2⟩
theorem bl_tri : ∀ a b : List UInt8, Op.bytesLess a b = false → Op.bytesLess b a = false → a = b
  | [], [], _, _ => rfl
  | [], _ :: _, h, _ => by simp [Op.bytesLess] at h
  | _ :: _, [], _, h => by simp [Op.bytesLess] at h
  | a :: x, b :: y, h1, h2 => by
    have e1 := mt (bl_cons a b x y).2 (by rw [h1]; decide)
    have e2 := mt (bl_cons b a y x).2 (by rw [h2]; decide)
    have hab : a = b := UInt8.toNat_inj.1 (by omega)
    subst hab
    rw [bl_tri x y (by rw [Bool.eq_false_iff]; exact fun c => e1 (.inr ⟨rfl, c⟩)) (by rw [Bool.eq_false_iff]; exact fun c => e2 (.inr ⟨rfl, c⟩))]
def cmpB (a b : List UInt8) : Int := if Op.bytesLess a b = true then -1 else if a = b then 0 else 1
theorem cmpB_lt (a b : List UInt8) : decide (cmpB a b < 0) = Op.bytesLess a b := by
  unfold cmpB
  cases h : Op.bytesLess a b
  · rw [if_neg (by simp)]; split <;> rfl
  · rw [if_pos rfl]; rfl
/-- Two rows of the same things, one that ascends and one in which nothing stands behind a greater one. -/
theorem perm_asc {α : Type} {lt : α → α → Bool} : ∀ {a b : List α}, a.Perm b → a.Pairwise (fun x y => lt x y = true) → b.Pairwise (fun x y => lt y x = false) → a = b
  | [], b, h, _, _ => (List.nil_perm.1 h).symm
  | x :: a, [], h, _, _ => by have := h.length_eq; simp at this
  | x :: a, y :: b, h, ha, hb => by
    obtain ⟨ha1, ha2⟩ := List.pairwise_cons.1 ha
    obtain ⟨hb1, hb2⟩ := List.pairwise_cons.1 hb
    have key : x = y := by
      rcases List.mem_cons.1 (h.subset List.mem_cons_self) with e | hx
      · exact e
      · rcases List.mem_cons.1 (h.symm.subset (List.mem_cons_self (a := y) (l := b))) with e | hy
        · exact e.symm
        · have h1 := ha1 y hy
          have h2 := hb1 x hx
          rw [h1] at h2; cases h2
    subst key
    rw [perm_asc ((List.perm_cons x).1 h) ha2 hb2]
/-- A file as the row holds it: its path, whether it is a directory, its bytes (and where they lie). -/
structure FileR where
  p : List UInt8
  d : Bool
  c : Option (List Value)
  a : Option Addr
  n : Nat
  cap : Nat
  deriving Inhabited
abbrev Itm := List UInt8 × Bool × Option (List Value)
def FileR.it (x : FileR) : Itm := (x.p, x.d, x.c)
def FileR.blk (x : FileR) : Option Nat := x.a.map (·.block)
def fEnc (x : FileR) : List Value := [.string (B x.p), .bool x.d, .slice x.a x.n x.cap]
theorem fEnc_one (x : FileR) : ∀ v ∈ fEnc x, v.oneCell' = true := by
  intro v hv
  rcases List.mem_cons.1 hv with rfl | hv
  · rfl
  rcases List.mem_cons.1 hv with rfl | hv
  · rfl
  rw [List.mem_singleton.1 hv]; rfl
theorem own_blk (x : FileR) : (Value.slice x.a x.n x.cap).ownBlock = x.blk := by
  unfold FileR.blk
  cases x.a <;> rfl
def fCmp (x y : FileR) : Int := cmpB x.p y.p
theorem fLt (x y : FileR) : ltOf fCmp x y = Op.bytesLess x.p y.p := cmpB_lt _ _
theorem fSwo : Sort.SWO (ltOf fCmp) where
  irrefl x := by rw [fLt]; exact bl_irr _
  trans x y z h1 h2 := by
    rw [fLt] at h1 h2 ⊢
    exact bl_trans _ _ _ h1 h2
  ntrans x y z h1 h2 := by
    rw [fLt] at h1 h2 ⊢
    rw [Bool.eq_false_iff]; intro c
    cases h : Op.bytesLess y.p x.p with
    | true => rw [bl_trans _ _ _ h c] at h2; cases h2
    | false =>
      rw [bl_tri _ _ h1 h] at c
      rw [c] at h2; cases h2
section
variable {M : Option (Option Nat)} {P : Program} {ops : Array Oper} {Q : Post} {rest : List Oper} {f : Fr} {w : World} {d ty : Nat} {pos : String} {af : Array Edge}
/-- A box, and the world that has it. -/
theorem RW.boxW {t : TypeId} {x : Operand} {v : Value} (hx : f.ev x = some v) (hd : Nat.blt d f.n = true)
    (k : ∀ w', w' = w.alloc (.cells v.cells t) → w'.heap[w.heap.size]? = some (.cells v.cells t (0, 0)) → K0 w w' → w.heap.size < w'.heap.size → RW M P ops Q rest (f.put d (.pointer (some ⟨w.heap.size, 0, none⟩))) w') : RW M P ops Q (op1 d (.box t x) ty pos af :: rest) f w := by
  refine RW.val rfl rfl hd (fun a ha => ?_) (k (w.alloc (.cells v.cells t)) rfl (heap_alloc_new w _) (Kept.alloc w _) (by simp))
  simp [execOp, ha.eval hx, Instr.box, newVar, newRow, newObj, Sem.run]
end
theorem nanB (a : List UInt8) (w : World) : Calls Tryz.prog 109 #[.string (B a)] w fun e w' => w = w' ∧ e = .returned (.bool false) := by
  refine H.enter Tryz.func109 Tryz.ntmps109 rfl rfl ?_; dsimp only [H.args]
  repeat' (first | (refine CL.seq ?_) | (refine CL.region ?_) | (refine CL.ret ?_) | (refine Gt.nil ?_; refine RW.nilw [0, 2] ?_; dsimp only [H.keep, H.look, H.Fr.put, Nat.beq]) | (refine RW.y (Y.nesS rfl rfl) rfl ?_) | (refine Gt.assign ?_; refine RW.y (Y.assign rfl) rfl ?_) | (refine Gt.move ?_; refine RW.y (Y.move rfl) rfl ?_))
  exact FQ.one rfl rfl rfl ⟨rfl, rfl⟩
theorem ret_i {k : IntKind} {a b : Int} (h : a = b) : Ending.returned (.int k a) = .returned (.int k b) := by rw [h]
theorem compareB (a b : List UInt8) (w : World) : Calls Tryz.prog 74 #[.string (B a), .string (B b)] w fun e w' => w = w' ∧ e = .returned (.int .i64 (cmpB a b)) := by
  refine H.enter Tryz.func74 Tryz.ntmps74 rfl rfl ?_; dsimp only [H.args]
  repeat' (first | (refine CL.seq ?_) | (refine CL.region ?_) | (refine Gt.nil ?_; refine RW.nilw [0, 1, 4, 5, 6, 11, 12, 13, 16, 19] ?_; dsimp only [H.keep, H.look, H.Fr.put, Nat.beq]) | (refine Gt.assign ?_; refine RW.y (Y.assign rfl) rfl ?_) | (refine Gt.move ?_; refine RW.y (Y.move rfl) rfl ?_))
  refine RW.fn rfl rfl ((nanB a w).mono ?_)
  rintro e w' ⟨rfl, rfl⟩
  repeat' (first | (refine CL.seq ?_) | (refine CL.region ?_) | (refine Gt.nil ?_; refine RW.nilw [0, 1, 4, 5, 6, 11, 12, 13, 16, 19] ?_; dsimp only [H.keep, H.look, H.Fr.put, Nat.beq]) | (refine Gt.assign ?_; refine RW.y (Y.assign rfl) rfl ?_) | (refine Gt.move ?_; refine RW.y (Y.move rfl) rfl ?_))
  refine RW.fn rfl rfl ((nanB b w).mono ?_)
  rintro e w' ⟨rfl, rfl⟩
  repeat' (first | (refine CL.seq ?_) | (refine CL.region ?_) | (refine CL.skip ?_) | (refine CL.condF rfl ?_) | (refine CL.cond rfl (fun _ => ?_) (fun _ => ?_)) | (refine CL.ret ?_) | (refine Gt.nil ?_; refine RW.nilw [0, 1, 4, 5, 6, 11, 12, 13, 16, 19] ?_; dsimp only [H.keep, H.look, H.Fr.put, Nat.beq]) | (refine Gt.assign ?_; refine RW.y (Y.assign rfl) rfl ?_) | (refine Gt.move ?_; refine RW.y (Y.move rfl) rfl ?_) | (refine Gt.lss ?_; refine RW.y (Y.lts rfl rfl) rfl ?_) | (refine Gt.gtr ?_; refine RW.y (Y.gts rfl rfl) rfl ?_))
  · rename_i h
    exact FQ.one rfl rfl rfl ⟨rfl, ret_i (by rw [cmpB, if_pos h])⟩
  · rename_i h h2
    exact FQ.one rfl rfl rfl ⟨rfl, ret_i (by rw [h] at h2; simp at h2; rw [cmpB, h, if_neg (by decide), if_neg h2])⟩
  · rename_i h h2
    exact FQ.one rfl rfl rfl ⟨rfl, ret_i (by rw [h] at h2; simp at h2; rw [cmpB, h, if_neg (by decide), if_pos h2])⟩
abbrev cmpFn : Value := .func (.func 314) #[] #[]
theorem fileCmp (x y : FileR) (w : World) : Calls Tryz.prog 314 #[.agg (fEnc x).toArray, .agg (fEnc y).toArray] w fun e w' => e = .returned (.int .i64 (fCmp x y)) ∧ ∃ q os', w' = Sort.grow (w.drewN q) os' := by
  refine H.enter Tryz.func314 Tryz.ntmps314 rfl rfl ?_; dsimp only [H.args]
  refine CL.seq ?_
  refine CL.region ?_
  refine RW.boxW rfl rfl (fun w1 e1 hb1 hk1 hlt1 => ?_)
  refine RW.boxW rfl rfl (fun w2 e2 hb2 hk2 hlt2 => ?_)
  have hb1' : w2.heap[w.heap.size]? = some (.cells (fEnc x).toArray 62 (0, 0)) := hk2.at0 hb1
  have hb2' : w2.heap[w1.heap.size]? = some (.cells (fEnc y).toArray 62 (0, 0)) := hb2
  clear hb1 hb2
  repeat' (first | (refine CL.seq ?_) | (refine CL.region ?_) | (refine Gt.nil ?_; refine RW.nilw [0, 1, 2, 3, 4] ?_; dsimp only [H.keep, H.look, H.Fr.put, Nat.beq]) | (refine Gt.assign ?_; refine RW.y (Y.assign rfl) rfl ?_) | (refine Gt.fieldAddr ?_; refine RW.y (Y.fieldAddr rfl (by rfl)) rfl ?_) | (refine Gt.load ?_; refine RW.y (Y.loadB rfl (by assumption) rfl) rfl ?_))
  refine RW.fn rfl rfl ((compareB _ _ w2).mono ?_)
  rintro e w3 ⟨rfl, rfl⟩
  repeat' (first | (refine CL.ret ?_) | (refine Gt.nil ?_; refine RW.nilw [0, 1, 2, 3, 4] ?_; dsimp only [H.keep, H.look, H.Fr.put, Nat.beq]) | (refine Gt.assign ?_; refine RW.y (Y.assign rfl) rfl ?_))
  exact FQ.one rfl rfl rfl ⟨rfl, 0, _, by rw [e2, e1, Sort.alloc_eq_grow, Sort.alloc_eq_grow, Sort.grow_grow]; rfl⟩
/-! Rows of files, cell by cell. -/
theorem flat3 : ∀ (D : List FileR) (t : Nat), t < D.length * 3 → (D.flatMap fEnc)[t]? = some ((fEnc (D.getD (t / 3) default)).getD (t % 3) default)
  | [], t, h => by simp at h
  | x :: D, t, h => by
    rw [List.flatMap_cons]
    by_cases ht : t < 3
    · rw [List.getElem?_append_left (show t < (fEnc x).length from ht), Nat.div_eq_of_lt ht, Nat.mod_eq_of_lt ht]
      have hl : t < (fEnc x).length := ht
      rw [List.getElem?_eq_getElem hl]
      show some ((fEnc x)[t]'hl) = some ((fEnc x).getD t default)
      rw [List.getD_eq_getElem?_getD, List.getElem?_eq_getElem hl]
      rfl
    · obtain ⟨s, rfl⟩ : ∃ s, t = s + 3 := ⟨t - 3, by omega⟩
      have hs : s < D.length * 3 := by rw [List.length_cons] at h; omega
      rw [List.getElem?_append_right (show (fEnc x).length ≤ s + 3 from Nat.le_add_left 3 s), show s + 3 - (fEnc x).length = s from Nat.add_sub_cancel s 3, flat3 D s hs, Nat.add_div_right s (by decide), Nat.add_mod_right]
      rfl
theorem flat_list (D : List FileR) : (Sort.flatK fEnc 3 D.toArray).toList = D.flatMap fEnc := by
  have hl : (D.flatMap fEnc).length = D.length * 3 := by
    induction D with
    | nil => rfl
    | cons x D ih => rw [List.flatMap_cons, List.length_append, ih, List.length_cons]; show 3 + _ = _; omega
  apply List.ext_getElem?
  intro t
  by_cases h : t < D.length * 3
  · rw [flat3 D t h]
    have h1 : t / 3 < D.length := by omega
    have h2 : t % 3 < 3 := by omega
    have e1 : D.toArray[t / 3]! = D.getD (t / 3) default := by
      rw [getElem!_pos D.toArray (t / 3) (by simpa using h1), List.getElem_toArray, List.getD_eq_getElem?_getD, List.getElem?_eq_getElem h1]; rfl
    have e2 : ∀ x : FileR, (fEnc x)[t % 3]! = (fEnc x).getD (t % 3) default := fun x => by
      rw [getElem!_pos (fEnc x) (t % 3) h2, List.getD_eq_getElem?_getD, List.getElem?_eq_getElem (show t % 3 < (fEnc x).length from h2)]; rfl
    simp only [Sort.flatK, Array.toList_map, Array.toList_range, List.getElem?_map, List.size_toArray]
    rw [List.getElem?_range h, Option.map_some, e1, e2]
  · rw [List.getElem?_eq_none (by rw [Array.length_toList, Sort.size_flatK, List.size_toArray]; omega), List.getElem?_eq_none (by rw [hl]; omega)]
theorem flat_len (D : List FileR) : (D.flatMap fEnc).length = D.length * 3 := by
  rw [← flat_list, Array.length_toList, Sort.size_flatK, List.size_toArray]
section
variable {w : World} {base g n cap : Nat} {T : TypeId} {D : List FileR}
theorem holds_own (h : w.ownsRow base T 3 (.slice (some ⟨g, 0, none⟩) D.length cap) D.length (D.flatMap fEnc)) (hn : 0 < D.length) : Sort.HoldsK fEnc 3 w g 0 D.toArray := by
  intro j hj
  rw [Sort.size_flatK, List.size_toArray] at hj
  rcases h.2 with ⟨_, c⟩ | ⟨g', cap', cur, e, hb, hg, h1, h2, h3, h4⟩
  · omega
  cases e
  have hl : j < (D.flatMap fEnc).length := by rw [flat_len]; exact hj
  obtain ⟨u, hu⟩ : ∃ u, (D.flatMap fEnc)[j]? = some u := ⟨_, List.getElem?_eq_getElem hl⟩
  have hF : (Sort.flatK fEnc 3 D.toArray)[j]! = u := by
    have hs : j < (Sort.flatK fEnc 3 D.toArray).size := by rw [Sort.size_flatK, List.size_toArray]; exact hj
    have e : (Sort.flatK fEnc 3 D.toArray).toList[j]? = some u := by rw [flat_list]; exact hu
    rw [Array.getElem?_toList, Array.getElem?_eq_getElem hs] at e
    rw [getElem!_pos _ j hs]
    exact Option.some.inj e
  rw [hF, Nat.zero_add]
  refine ⟨?_, frozen_row hg⟩
  rw [cell_row (off := 0) hg]
  rw [← h4, List.getElem?_take, if_pos hj] at hu
  simpa using hu
theorem sorted_own {d' : Array FileR} {m : Nat} {os : Array Obj} (h : w.ownsRow base T 3 (.slice (some ⟨g, 0, none⟩) D.length cap) D.length (D.flatMap fEnc)) (hn : 0 < D.length) (hd : d'.size = D.length) :
    (sortWorldK fEnc 3 w g 0 m d' os).ownsRow base T 3 (.slice (some ⟨g, 0, none⟩) D.length cap) D.length (d'.toList.flatMap fEnc) ∧ Kept (fun k => k = g) w (sortWorldK fEnc 3 w g 0 m d' os) := by
  rcases h.2 with ⟨_, c⟩ | ⟨g', cap', cur, e, hb, hg, h1, h2, h3, h4⟩
  · omega
  cases e
  have hlt := lt_of_at hg
  have hF : (Sort.flatK fEnc 3 d').toList = d'.toList.flatMap fEnc := by
    have := flat_list d'.toList
    rwa [Array.toArray_toList] at this
  have hsz : (Sort.flatK fEnc 3 d').size = D.length * 3 := by rw [Sort.size_flatK, hd]
  have heap : ∀ k, k < w.heap.size → (sortWorldK fEnc 3 w g 0 m d' os).heap[k]? = if g = k then (w.heap[k]?).map (Sort.onCells (Sort.putCells id 0 (Sort.flatK fEnc 3 d'))) else w.heap[k]? := by
    intro k hk
    show (Array.modify w.heap g _ ++ os)[k]? = _
    rw [Array.getElem?_append_left (by simpa using hk), Array.getElem?_modify]
  have hnew : (sortWorldK fEnc 3 w g 0 m d' os).heap[g]? = some (.cells (Sort.putCells id 0 (Sort.flatK fEnc 3 d') cur) T (0, 0)) := by
    rw [heap g hlt, if_pos rfl, hg]; rfl
  refine ⟨⟨?_, .inr ⟨g, cap, _, rfl, hb, hnew, h1, h2, ?_, ?_⟩⟩, rfl, rfl, rfl, ?_, fun k hk hne => ?_⟩
  · rw [flat_len, Array.length_toList, hd]
  · simp [Sort.putCells, h3]
  · rw [← hF]
    have hcap : D.length * 3 ≤ cap * 3 := Nat.mul_le_mul_right 3 h1
    apply List.ext_getElem?
    intro t
    rw [List.getElem?_take]
    by_cases ht : t < D.length * 3
    · rw [if_pos ht]
      have hc : t < cur.size := by omega
      have hs : t < (Sort.flatK fEnc 3 d').size := by rw [hsz]; exact ht
      have e1 : (Sort.putCells id 0 (Sort.flatK fEnc 3 d') cur)[t]? = some ((Sort.flatK fEnc 3 d')[t]'hs) := by
        unfold Sort.putCells
        rw [Array.getElem?_mapIdx, Array.getElem?_eq_getElem hc]
        show some (if 0 ≤ t ∧ t < 0 + (Sort.flatK fEnc 3 d').size then id (Sort.flatK fEnc 3 d')[t - 0]! else cur[t]'hc) = _
        rw [if_pos ⟨Nat.zero_le _, by rw [hsz]; omega⟩, Nat.sub_zero, getElem!_pos _ t hs]
        rfl
      rw [Array.getElem?_toList, e1, Array.getElem?_toList, Array.getElem?_eq_getElem hs]
    · rw [if_neg ht, List.getElem?_eq_none (by rw [Array.length_toList, hsz]; omega)]
  · show w.heap.size ≤ (Array.modify w.heap g _ ++ os).size
    simp
  · rw [heap k hk, if_neg fun c => hne c.symm]
end
theorem lenAny (n : Nat) (w : World) (h : n ≤ 12) : Calls Tryz.prog 108 #[.int .u64 n] w fun e w' => (∃ l : Int, e = .returned (.int .i64 l)) ∧ w' = w :=
  (Any.bits_Len (SlLaysF0.n15.bits (P := Tryz.prog) (ρ := Tryz.sortFiles_ren) { Tryz.sortFiles with }) (n : Int) w (by omega) (by omega)).mono fun e w' h => ⟨⟨_, h.1⟩, h.2⟩
/-- slices.SortFunc at the files of a tree. -/
theorem sortFiles (blk cap : Nat) (d : Array FileR) (w : World) (hH : Sort.HoldsK fEnc 3 w blk 0 d) (hb : blk < w.heap.size) (hs : d.size ≤ 1000000) : Calls Tryz.prog 313 #[.slice (some ⟨blk, 0, none⟩) d.size cap, cmpFn] w fun e w' => e = .returned (.tuple #[]) ∧ ∃ d' n os, Sort.PermIn 0 d.size d d' ∧ Sort.SortedIn (ltOf fCmp) 0 d.size d' ∧ w' = sortWorldK fEnc 3 w blk 0 n d' os := by
  have aE : ∀ w, (isAgg 62).run Tryz.prog w = .ok true w := fun w => by kernel_rfl
  have zE : ∀ w, (sizeOf 62).run Tryz.prog w = .ok 3 w := fun w => by kernel_rfl
  exact AnyQ.slices_SortFunc Tryz.sortFiles 3 aE zE fEnc (fun _ => rfl) fEnc_one fCmp fSwo 314 #[] blk 0 cap d w (enters_of Tryz.func314 (by kernel_rfl) rfl) (fun _ _ _ _ x y => fileCmp x y _) hH hb (by omega)
theorem insNone (w : World) : Calls Tryz.prog 371 #[.slice none 0 0, .int .i64 0, .int .i64 0, cmpFn] w fun e w' => e = .returned (.tuple #[]) ∧ w' = w := by
  refine H.enter Tryz.func371 Tryz.ntmps371 rfl rfl ?_; dsimp only [H.args]
  repeat' (first | (refine CL.seq ?_) | (refine CL.region ?_) | (refine CL.block ?_) | (refine Gt.nil ?_; refine RW.nilw [0, 1, 2, 3, 8, 9, 14, 34] ?_; dsimp only [H.keep, H.look, H.Fr.put, Nat.beq]) | (refine Gt.move ?_; refine RW.y (Y.move rfl) rfl ?_) | (refine Gt.assign ?_; refine RW.y (Y.assign rfl) rfl ?_) | (refine Gt.add ?_; refine RW.y (Y.add64 rfl rfl (by omega) (by omega)) rfl ?_))
  refine CL.loopS [0, 1, 2, 3, 8] (fun k vals wr => vals = [.slice none 0 0, .int .i64 0, .int .i64 0, cmpFn, .int .i64 1] ∧ wr = w) 0 ⟨_, rfl, rfl, rfl⟩ ?_
  rintro k vals wr ⟨rfl, rfl⟩
  dsimp only [List.zip, List.zipWith]
  repeat' (first | (refine CL.seq ?_) | (refine CL.region ?_) | (refine CL.condP rfl (fun _ => ?_) (fun _ => ?_) <;> try (exfalso; omega)) | (refine CL.exit ?_) | (refine Ex.then ?_) | (refine Ex.hit ?_) | (refine CL.done ?_) | (refine Gt.nil ?_; refine RW.nilw [0, 1, 2, 3, 8, 9, 14, 34] ?_; dsimp only [H.keep, H.look, H.Fr.put, Nat.beq]) | (refine Gt.move ?_; refine RW.y (Y.move rfl) rfl ?_) | (refine Gt.lss ?_; refine RW.y (Y.lss rfl rfl) rfl ?_))
  exact FQ.norm (FQ.none rfl rfl ⟨rfl, rfl⟩)
theorem pdqNone (l : Int) (w : World) : Calls Tryz.prog 381 #[.slice none 0 0, .int .i64 0, .int .i64 0, .int .i64 l, cmpFn] w fun e w' => e = .returned (.tuple #[]) ∧ w' = w := by
  refine H.enter Tryz.func381 Tryz.ntmps381 rfl rfl ?_; dsimp only [H.args]
  repeat' (first | (refine CL.seq ?_) | (refine CL.region ?_) | (refine CL.block ?_) | (refine Gt.nil ?_; refine RW.nilw [0, 1, 2, 3, 4, 10, 11, 12, 13, 14, 15, 16, 17, 18, 19, 20, 25, 32, 39, 56, 75, 80, 97, 125] ?_; dsimp only [H.keep, H.look, H.Fr.put, Nat.beq]) | (refine Gt.assign ?_; refine RW.y (Y.assign rfl) rfl ?_))
  refine CL.loopS [0, 1, 2, 3, 4, 10, 11] (fun k vals wr => vals = [.slice none 0 0, .int .i64 0, .int .i64 0, .int .i64 l, cmpFn, .bool true, .bool true] ∧ wr = w) 0 ⟨_, rfl, rfl, rfl⟩ ?_
  rintro k vals wr ⟨rfl, rfl⟩
  dsimp only [List.zip, List.zipWith]
  repeat' (first | (refine CL.seq ?_) | (refine CL.region ?_) | (refine CL.condP rfl (fun _ => ?_) (fun _ => ?_) <;> try (exfalso; omega)) | (refine CL.block ?_) | (refine Gt.nil ?_; refine RW.nilw [0, 1, 2, 3, 4, 10, 11, 12, 13, 14, 15, 16, 17, 18, 19, 20, 25, 32, 39, 56, 75, 80, 97, 125] ?_; dsimp only [H.keep, H.look, H.Fr.put, Nat.beq]) | (refine Gt.move ?_; refine RW.y (Y.move rfl) rfl ?_) | (refine Gt.assign ?_; refine RW.y (Y.assign rfl) rfl ?_) | (refine Gt.sub ?_; refine RW.y (Y.sub64 rfl rfl (by omega) (by omega)) rfl ?_) | (refine Gt.leq ?_; refine RW.y (Y.leq rfl rfl) rfl ?_))
  refine RW.fn rfl rfl ((insNone _).mono ?_)
  rintro e w3 ⟨rfl, rfl⟩
  repeat' (first | (refine CL.ret ?_) | (refine Rt.then ?_) | (refine Rt.block ?_) | (refine Gt.nil ?_; refine RW.nilw [0, 1, 2, 3, 4, 10, 11, 12, 13, 14, 15, 16, 17, 18, 19, 20, 25, 32, 39, 56, 75, 80, 97, 125] ?_; dsimp only [H.keep, H.look, H.Fr.put, Nat.beq]))
  exact FQ.none rfl rfl ⟨rfl, rfl⟩
theorem sortNone (w : World) : Calls Tryz.prog 313 #[.slice none 0 0, cmpFn] w fun e w' => e = .returned (.tuple #[]) ∧ w' = w := by
  refine H.enter Tryz.func313 Tryz.ntmps313 rfl rfl ?_; dsimp only [H.args]
  repeat' (first | (refine CL.seq ?_) | (refine CL.region ?_) | (refine Gt.nil ?_; refine RW.nilw [0, 1, 4] ?_; dsimp only [H.keep, H.look, H.Fr.put, Nat.beq]) | (refine Gt.move ?_; refine RW.y (Y.move rfl) rfl ?_) | (refine Gt.len ?_; (refine RW.y (Y.lenv rfl) rfl ?_)) | (refine Gt.assign ?_; refine RW.y (Y.assign rfl) rfl ?_) | (refine Gt.convert ?_; (refine RW.y (Y.convN rfl (by exact wrapu64_id (by omega) (by omega))) rfl ?_)))
  refine RW.fn rfl rfl ((lenAny 0 _ (Nat.zero_le _)).mono ?_)
  rintro e w3 ⟨⟨l, rfl⟩, rfl⟩
  repeat' ((refine Gt.move ?_; refine RW.y (Y.move rfl) rfl ?_))
  refine RW.fn rfl rfl ((pdqNone l _).mono ?_)
  rintro e w3 ⟨rfl, rfl⟩
  repeat' (first | (refine CL.done ?_) | (refine Gt.nil ?_; refine RW.nilw [0, 1, 4] ?_; dsimp only [H.keep, H.look, H.Fr.put, Nat.beq]))
  exact FQ.norm (FQ.none rfl rfl ⟨rfl, rfl⟩)
theorem own_blockE {w : World} {base : Nat} {e : TypeId} {sz n : Nat} {u : Value} {xs : List Value} (h : w.ownsRow base e sz u n xs) (hn : 0 < n) : ∃ g cap cur, u = .slice (some ⟨g, 0, none⟩) n cap ∧ w.heap[g]? = some (.cells cur e (0, 0)) ∧ n * sz ≤ cur.size ∧ base ≤ g := by
  rcases h.2 with ⟨_, h⟩ | ⟨g, cap, cur, rfl, hB, hg, hnc, hm, hs, ht⟩
  · omega
  · exact ⟨g, cap, cur, rfl, hg, by rw [hs]; exact Nat.mul_le_mul_right _ hnc, hB⟩
/-! Bytes cloned. -/
def CB (w : World) (bv : Value) : Option (List Value) → Prop
  | none => bv = .slice none 0 0
  | some us => 0 < us.length ∧ us.length ≤ 1000000 ∧ (∀ u ∈ us, u.oneCell' = true) ∧ Sl w 1 bv us.length us
theorem CB.keep {w w' : World} {bv : Value} {c : Option (List Value)} {S : Nat → Prop} (h : CB w bv c) (k : Kept S w w') (hS : ∀ g, live bv = some g → ¬ S g) : CB w' bv c := by
  cases c with
  | none => exact h
  | some us => exact ⟨h.1, h.2.1, h.2.2.1, h.2.2.2.keep k hS⟩
/-- A clone: nothing, or a row of its own. -/
def CR (base : Nat) (w : World) (c : Option (List Value)) (a : Option Addr) (n cap : Nat) : Prop := (c = none → a = none ∧ n = 0 ∧ cap = 0) ∧ ∀ us, c = some us → 0 < us.length ∧ n = us.length ∧ w.ownsRow base 5 1 (.slice a n cap) us.length us
theorem cloneC (bv : Value) (c : Option (List Value)) (w : World) (h : CB w bv c) : Calls Tryz.prog 95 #[bv] w fun e w' => K0 w w' ∧ ∃ a n cap, e = .returned (.slice a n cap) ∧ CR w.heap.size w' c a n cap := by
  cases c with
  | none =>
    obtain rfl : bv = .slice none 0 0 := h
    refine H.enter Tryz.func95 Tryz.ntmps95 rfl rfl ?_; dsimp only [H.args]
    repeat' (first | (refine CL.seq ?_) | (refine CL.region ?_) | (refine Gt.nil ?_; refine RW.nilw [0, 2, 4] ?_; dsimp only [H.keep, H.look, H.Fr.put, Nat.beq]) | (refine Gt.assign ?_; refine RW.y (Y.assign rfl) rfl ?_) | (refine Gt.move ?_; refine RW.y (Y.move rfl) rfl ?_))
    refine RW.y (Y.eqsn rfl rfl) rfl ?_
    repeat' (first | (refine CL.seq ?_) | (refine CL.region ?_) | (refine CL.condT rfl ?_) | (refine CL.ret ?_) | (refine Gt.nil ?_; refine RW.nilw [0, 2, 4] ?_; dsimp only [H.keep, H.look, H.Fr.put, Nat.beq]) | (refine Gt.assign ?_; refine RW.y (Y.assign rfl) rfl ?_))
    exact FQ.one rfl rfl rfl ⟨Kept.refl _ _, none, 0, 0, rfl, fun _ => ⟨rfl, rfl, rfl⟩, fun us h => by cases h⟩
  | some us =>
    obtain ⟨h0, h1, h2, hs⟩ := h
    obtain ⟨p, cap, rfl, hcap⟩ := hs.shape
    cases p with
    | none =>
      rcases hs.2.2 with ⟨p, e, e2⟩ | ⟨g, off, cap, cur, e', fz, e, _⟩
      · omega
      · cases e
    | some a =>
      refine H.enter Tryz.func95 Tryz.ntmps95 rfl rfl ?_; dsimp only [H.args]
      repeat' (first | (refine CL.seq ?_) | (refine CL.region ?_) | (refine Gt.nil ?_; refine RW.nilw [0, 2, 4] ?_; dsimp only [H.keep, H.look, H.Fr.put, Nat.beq]) | (refine Gt.assign ?_; refine RW.y (Y.assign rfl) rfl ?_) | (refine Gt.move ?_; refine RW.y (Y.move rfl) rfl ?_))
      refine RW.y (Y.eqsn rfl rfl) rfl ?_
      repeat' (first | (refine CL.seq ?_) | (refine CL.region ?_) | (refine CL.skip ?_) | (refine CL.condF rfl ?_) | (refine Gt.nil ?_; refine RW.nilw [0, 2, 4] ?_; dsimp only [H.keep, H.look, H.Fr.put, Nat.beq]))
      refine RW.build0 rfl (fun w1 hb1 hk1 hlt1 => ?_)
      have hown := fun sz => own_new (n := 0) (sz := sz) hb1 (Nat.le_refl _) (by simp) (by decide)
      repeat' ((refine Gt.move ?_; refine RW.y (Y.move rfl) rfl ?_))
      refine H.RW.app (sz := 1) rfl rfl rfl rfl rfl (hown 1) (hs.keep0 hk1) h2 (by omega) (by omega) (by omega) (fun u' w2 how hk2 hl2 => ?_)
      repeat' (first | (refine CL.ret ?_) | (refine Gt.nil ?_; refine RW.nilw [0, 2, 4] ?_; dsimp only [H.keep, H.look, H.Fr.put, Nat.beq]) | (refine Gt.assign ?_; refine RW.y (Y.assign rfl) rfl ?_))
      have how' := how
      rw [Nat.zero_add] at how'
      obtain ⟨q, cap', hu⟩ := (Sl.of_own how').shape'
      rw [hu] at how' ⊢
      exact FQ.one rfl rfl rfl ⟨hk1.trans hk2 fun k h => .inr (by simp [Value.ownBlock] at h; omega), q, us.length, cap', rfl, (fun h => by cases h), fun vs hv => by cases hv; exact ⟨h0, rfl, how'⟩⟩
end Go.Proofs.YtoafcnecjgnbmaaGreatDoor.E

set_option linter.constructorNameAsVariable false
set_option linter.unusedVariables false
namespace Go.Proofs.YtoafcnecjgnbmaaGreatDoor.E
open Go Go.RowKit H
section
variable {M : Option (Option Nat)} {P : Program} {ops : Array Oper} {Q : Post} {rest : List Oper} {f : Fr} {w : World} {d ty : Nat} {pos : String} {af : Array Edge}
theorem RW.rangeM {t k e : TypeId} [ht : Und P t (.map k e)] {x : Operand} {m : Nat} {en : Array MapEntry} {ck : Nat} (hx : f.ev x = some (.map (some m))) (hb : w.heap[m]? = some (.map en ck)) (hd : Nat.blt d f.n = true)
    (kk : ∀ w', w'.heap[w.heap.size]? = some (.mapIter (some m) ck #[] ck) → K0 w w' → w.heap.size < w'.heap.size → RW M P ops Q rest (f.put d (.pointer (some ⟨w.heap.size, 0, none⟩))) w') : RW M P ops Q (op1 d (.range t x) ty pos af :: rest) f w :=
  RW.val rfl rfl hd (fun a ha => by simp [execOp, ha.eval hx, Instr.range, run_underlying ht.out, newObj, getObj, Sem.run, hb]) (kk (w.alloc (.mapIter (some m) ck #[] ck)) (heap_alloc_new w _) (Kept.alloc w _) (lt_of_at (heap_alloc_new w (.mapIter (some m) ck #[] ck))))
/-- One step over a map, whichever entry comes. -/
theorem RW.nextE {x : Operand} {g m since last : Nat} {seen : Array Nat} {es : Array MapEntry} {clock : Nat} (hx : f.ev x = some (.pointer (some ⟨g, 0, none⟩))) (h1 : w.heap[g]? = some (.mapIter (some m) since seen last)) (h2 : w.heap[m]? = some (.map es clock)) (h3 : seen.size = 0 ∨ es.size = 0 ∨ ∃ e ∈ es.toList, e.born < last)
    (h5 : ∀ e ∈ es.toList.filter (fun e => !seen.contains e.born), e.born < since) (hd : Nat.blt d f.n = true)
    (hend : es.toList.filter (fun e => !seen.contains e.born) = [] → RW M P ops Q rest (f.put d (.tuple #[.bool false])) w)
    (hstep : ∀ e w', e ∈ es.toList.filter (fun e => !seen.contains e.born) → w'.heap[g]? = some (.mapIter (some m) since (seen.push e.born) clock) → Kept (fun k => k = g) w w' → RW M P ops Q rest (f.put d (.tuple #[.bool true, e.key, e.val])) w') : RW M P ops Q (op1 d (.next x false) ty pos af :: rest) f w := by
  obtain ⟨hA, hB⟩ := run_next_map (P := P) (tid := ty) h1 h2 h3 h5
  by_cases hn : es.toList.filter (fun e => !seen.contains e.born) = []
  · exact RW.val rfl rfl hd (fun a ha => by simp [execOp, ha.eval hx, hA hn]) (hend hn)
  · obtain ⟨e, w1, he, hk, hw, hr⟩ := hB hn
    have hl : g < w1.heap.size := by rw [hw]; exact lt_of_at h1
    refine RW.val (w' := { w1 with heap := w1.heap.setIfInBounds g (.mapIter (some m) since (seen.push e.born) clock) }) rfl rfl hd (fun a ha => by simp [execOp, ha.eval hx, hr]) (hstep e _ he ?_ ?_)
    · simp [hl]
    · exact (Kept.of0 hk).trans ⟨rfl, rfl, rfl, by simp, fun k hk hn => by
        show (w1.heap.setIfInBounds g _)[k]? = _
        rw [Array.getElem?_setIfInBounds_ne (fun c => hn c.symm)]⟩ fun k h => .inl h
theorem Y.entryM {x : Operand} {g m since b : Nat} {seen : Array Nat} {en : Array MapEntry} {ck : Nat} {e : MapEntry} {kv vv : Value} (hx : f.ev x = some (.pointer (some ⟨g, 0, none⟩))) (h1 : w.heap[g]? = some (.mapIter (some m) since seen ck)) (h2 : w.heap[m]? = some (.map en ck)) (hb : seen.back? = some b) (hf : en.find? (fun e => e.born == b) = some e) (hk : e.key = kv) (hv : e.val = vv) : Yd P f (op1 d (.entry x) ty pos af) (.tuple #[kv, vv]) w := fun a ha => by
  subst hk; subst hv
  simp [execOp, ha.eval hx, Instr.entry, getObj, Sem.run, h1, h2, hb, hf]
end
attribute [local irreducible] H.CL H.RW H.CW H.Yd H.thenK H.blockQ Go.Calls
theorem find_born : ∀ {l : List MapEntry} {e : MapEntry}, (l.map (·.born)).Nodup → e ∈ l → l.find? (fun x => x.born == e.born) = some e
  | x :: l, e, hn, he => by
    rw [List.map_cons] at hn
    obtain ⟨h1, h2⟩ := List.nodup_cons.1 hn
    rw [List.find?_cons]
    rcases List.mem_cons.1 he with rfl | he
    · simp
    · have hne : (x.born == e.born) = false := by
        simp only [beq_eq_false_iff_ne]
        exact fun c => h1 (c ▸ List.mem_map.2 ⟨e, he, rfl⟩)
      rw [hne]
      exact find_born h2 he
/-- A node of a tree, and what Files tells of it. -/
def Nd (w : World) (e : MapEntry) (x : Itm) : Prop := e.key = .string (B x.1) ∧ ∃ q ty fz bv, e.val = .pointer (some ⟨q, 0, none⟩) ∧ w.heap[q]? = some (.cells #[.bool x.2.1, bv] ty fz) ∧ CB w bv x.2.2
def FOk (base : Nat) (w : World) (x : FileR) : Prop := CR base w x.c x.a x.n x.cap
theorem FOk.keep {base : Nat} {w w' : World} {x : FileR} {S : Nat → Prop} (h : FOk base w x) (k : Kept S w w') (hS : ∀ g, x.blk = some g → ¬ S g) : FOk base w' x :=
  ⟨h.1, fun us hu => by
    obtain ⟨h1, h2, h3⟩ := h.2 us hu
    exact ⟨h1, h2, own_kept h3 k fun g hg => hS g (by rw [← own_blk]; exact hg)⟩⟩
theorem FOk.le {base : Nat} {w : World} {x : FileR} (h : FOk base w x) {g : Nat} (hg : x.blk = some g) : base ≤ g ∧ g < w.heap.size := by
  cases hc : x.c with
  | none =>
    have := (h.1 hc).1
    unfold FileR.blk at hg
    rw [this] at hg; cases hg
  | some us =>
    obtain ⟨_, _, h3⟩ := h.2 us hc
    exact h3.lt g (by rw [own_blk]; exact hg)
abbrev Zs := List (MapEntry × Itm)
theorem has_born {l : List Nat} {b : Nat} : l.toArray.contains b = true ↔ b ∈ l := by simp
theorem left_mem {Z V U : Zs} {en : List MapEntry} (hZ : Z.map (·.1) = en) (hp : Z.Perm (V ++ U)) {e : MapEntry} (he : e ∈ en.filter (fun e => !(V.map (·.1.born)).toArray.contains e.born)) : ∃ x, (e, x) ∈ U := by
  obtain ⟨h1, h2⟩ := List.mem_filter.1 he
  rw [← hZ] at h1
  obtain ⟨z, hz, rfl⟩ := List.mem_map.1 h1
  rcases List.mem_append.1 (hp.subset hz) with h | h
  · exfalso
    have : (V.map (·.1.born)).toArray.contains z.1.born = true := has_born.2 (List.mem_map.2 ⟨z, h, rfl⟩)
    rw [this] at h2; cases h2
  · exact ⟨z.2, h⟩
theorem left_nil {Z V U : Zs} {en : List MapEntry} (hZ : Z.map (·.1) = en) (hn : (en.map (·.born)).Nodup) (hp : Z.Perm (V ++ U)) (he : en.filter (fun e => !(V.map (·.1.born)).toArray.contains e.born) = []) : U = [] := by
  cases U with
  | nil => rfl
  | cons u U =>
    exfalso
    have hu : u ∈ Z := hp.symm.subset (List.mem_append.2 (.inr List.mem_cons_self))
    have h1 : u.1 ∈ en := by rw [← hZ]; exact List.mem_map.2 ⟨u, hu, rfl⟩
    have h2 : u.1 ∉ en.filter (fun e => !(V.map (·.1.born)).toArray.contains e.born) := by rw [he]; exact List.not_mem_nil
    refine h2 (List.mem_filter.2 ⟨h1, ?_⟩)
    have hb : ((V ++ u :: U).map (·.1.born)).Nodup := by
      have e1 : (Z.map (·.1.born)) = en.map (·.born) := by rw [← hZ, List.map_map]; rfl
      exact ((hp.map (·.1.born)).nodup_iff).1 (by rw [e1]; exact hn)
    rw [List.map_append, List.map_cons] at hb
    have hd := (List.nodup_append.1 hb).2.2
    have hc : (V.map (·.1.born)).toArray.contains u.1.born = false := by
      rw [Bool.eq_false_iff]
      exact fun c => hd _ (has_born.1 c) _ List.mem_cons_self rfl
    rw [hc]; rfl
set_option maxHeartbeats 2000000 in
theorem files (g mb : Nat) (en : Array MapEntry) (ck : Nat) (Z : Zs) (w : World) (hg : w.cell? ⟨g, 0, none⟩ = some (.map (some mb))) (hmb : w.heap[mb]? = some (.map en ck)) (hZ : Z.map (·.1) = en.toList) (hN : ∀ z ∈ Z, Nd w z.1 z.2) (hb : (en.toList.map (·.born)).Nodup) (hck : ∀ e ∈ en.toList, e.born < ck) (h1 : Z.length ≤ 1000000) :
    Calls Tryz.prog 235 #[.pointer (some ⟨g, 0, none⟩)] w fun e w' => K0 w w' ∧ ∃ (v : Value) (D : List FileR), e = .returned v ∧ (D.map FileR.it).Perm (Z.map (·.2)) ∧ D.Pairwise (fun x y => Op.bytesLess y.p x.p = false) ∧ w'.ownsRow w.heap.size 62 3 v D.length (D.flatMap fEnc) ∧ (∀ x ∈ D, FOk w.heap.size w' x) ∧ (D.filterMap FileR.blk).Nodup ∧ (∀ k ∈ D.filterMap FileR.blk, v.ownBlock ≠ some k) ∧ (D = [] → v = .slice none 0 0) := by
  have hgl := World.block_lt_of_cell? w _ hg
  have hml := lt_of_at hmb
  refine H.enter Tryz.func235 Tryz.ntmps235 rfl rfl ?_; dsimp only [H.args]
  repeat' (first | (refine CL.seq ?_) | (refine CL.region ?_) | (refine Gt.nil ?_; refine RW.nilw [0, 2, 3, 4, 5, 10, 12] ?_; dsimp only [H.keep, H.look, H.Fr.put, Nat.beq]) | (refine RW.y (Y.load1 rfl hg) rfl ?_) | (refine Gt.move ?_; refine RW.y (Y.move rfl) rfl ?_) | (refine Gt.assign ?_; refine RW.y (Y.assign rfl) rfl ?_) | (refine Gt.nilck ?_; refine RW.y (Y.nilck rfl) rfl ?_) | (refine Gt.fieldAddr ?_; refine RW.y (Y.fieldAddr rfl (by rfl)) rfl ?_))
  refine RW.rangeM rfl hmb rfl (fun w1 hi1 hk1 hl1 => ?_)
  repeat' (first | (refine CL.block ?_) | (refine Gt.nil ?_; refine RW.nilw [0, 2, 3, 4, 5, 10, 12] ?_; dsimp only [H.keep, H.look, H.Fr.put, Nat.beq]))
  refine CL.loopS [3, 10] (fun m vals wr => ∃ (V U : Zs) (D : List FileR) (v : Value), vals = [v, .pointer (some ⟨w.heap.size, 0, none⟩)] ∧ m = U.length ∧ Z.Perm (V ++ U) ∧ D.map FileR.it = V.map (·.2) ∧ K0 w wr ∧ w.heap.size < wr.heap.size ∧ wr.heap[w.heap.size]? = some (.mapIter (some mb) ck (V.map (·.1.born)).toArray ck) ∧ v.ownBlock ≠ some w.heap.size ∧ wr.ownsRow w.heap.size 62 3 v D.length (D.flatMap fEnc) ∧ (∀ x ∈ D, FOk w.heap.size wr x) ∧ (D.filterMap FileR.blk).Nodup ∧ (∀ k ∈ D.filterMap FileR.blk, v.ownBlock ≠ some k ∧ k ≠ w.heap.size) ∧ (D = [] → v = .slice none 0 0)) Z.length
    ⟨_, rfl, [], Z, [], .slice none 0 0, rfl, rfl, List.Perm.refl _, rfl, hk1, hl1, hi1, by simp [Value.ownBlock], World.ownsRow_nil _ _ _ _, (fun x hx => by cases hx), List.nodup_nil, (fun k hk => by cases hk), fun _ => rfl⟩ ?_
  rintro m vals wr ⟨V, U, D, v, rfl, rfl, hp, hD, hkr, hlr, hit, hv1, hown, hF, hnd, hblk, hv0⟩
  dsimp only [List.zip, List.zipWith]
  have hmr := hkr.at0 hmb
  have hlen : V.length + U.length = Z.length := by rw [← List.length_append, hp.length_eq]
  have hDl : D.length = V.length := by have := congrArg List.length hD; simpa using this
  have h3 : (V.map (·.1.born)).toArray.size = 0 ∨ en.size = 0 ∨ ∃ e ∈ en.toList, e.born < ck := by
    rcases Nat.eq_zero_or_pos en.size with h | h
    · exact .inr (.inl h)
    · have hes : 0 < en.toList.length := by simpa using h
      exact .inr (.inr ⟨en.toList[0], List.getElem_mem hes, hck _ (List.getElem_mem hes)⟩)
  repeat' (first | (refine CL.seq ?_) | (refine CL.region ?_))
  refine RW.nextE rfl hit hmr h3 (fun e he => hck e (List.mem_filter.1 he).1) rfl (fun hnil => ?_) (fun e w2 he hit2 hk2 => ?_)
  · have hU := left_nil hZ hb hp hnil
    subst hU
    rw [List.append_nil] at hp
    rcases Nat.eq_zero_or_pos D.length with hD0 | hDp
    · have hDn : D = [] := List.eq_nil_of_length_eq_zero hD0
      have hVn : V = [] := List.eq_nil_of_length_eq_zero (by omega)
      subst hDn
      subst hVn
      obtain rfl := hv0 rfl
      have hZn := hp.eq_nil
      subst hZn
      repeat' (first | (refine CL.seq ?_) | (refine CL.region ?_) | (refine CL.condF rfl ?_) | (refine CL.exit ?_) | (refine Ex.then ?_) | (refine Ex.hit ?_) | (refine Gt.nil ?_; refine RW.nilw [0, 2, 3, 4, 5, 10, 12] ?_; dsimp only [H.keep, H.look, H.Fr.put, Nat.beq]) | (refine Gt.move ?_; refine RW.y (Y.move rfl) rfl ?_) | (refine Gt.extract ?_; refine RW.y (Y.extract rfl rfl) rfl ?_))
      refine RW.fn rfl rfl ((sortNone wr).mono ?_)
      rintro e w3 ⟨rfl, rfl⟩
      repeat' (first | (refine CL.seq ?_) | (refine CL.region ?_) | (refine CL.ret ?_) | (refine Gt.nil ?_; refine RW.nilw [0, 2, 3, 4, 5, 10, 12] ?_; dsimp only [H.keep, H.look, H.Fr.put, Nat.beq]) | (refine Gt.move ?_; refine RW.y (Y.move rfl) rfl ?_) | (refine Gt.assign ?_; refine RW.y (Y.assign rfl) rfl ?_))
      exact FQ.one rfl rfl rfl ⟨hkr, _, [], rfl, List.Perm.refl _, List.Pairwise.nil, World.ownsRow_nil _ _ _ _, (fun x hx => by cases hx), List.nodup_nil, (fun k hk => by cases hk), fun _ => rfl⟩
    obtain ⟨gb, cap, cur, rfl, hgb, hsz, hbase⟩ := own_blockE hown hDp
    repeat' (first | (refine CL.seq ?_) | (refine CL.region ?_) | (refine CL.condF rfl ?_) | (refine CL.exit ?_) | (refine Ex.then ?_) | (refine Ex.hit ?_) | (refine Gt.nil ?_; refine RW.nilw [0, 2, 3, 4, 5, 10, 12] ?_; dsimp only [H.keep, H.look, H.Fr.put, Nat.beq]) | (refine Gt.move ?_; refine RW.y (Y.move rfl) rfl ?_) | (refine Gt.extract ?_; refine RW.y (Y.extract rfl rfl) rfl ?_))
    refine RW.fn rfl rfl ((sortFiles gb cap D.toArray wr (holds_own hown hDp) (lt_of_at hgb) (by rw [List.size_toArray]; omega)).mono ?_)
    rintro e w3 ⟨rfl, d', n, os, hperm, hsort, rfl⟩
    obtain ⟨hs1, hs2, hs3⟩ := hperm
    rw [List.size_toArray] at hs1
    obtain ⟨hown3, hk3⟩ := sorted_own (m := n) (os := os) hown hDp hs1
    have hpd : d'.toList.Perm D := by
      have e1 : (d'.extract 0 D.toArray.size).toList = d'.toList := by rw [← hs1]; simp
      have e2 : (D.toArray.extract 0 D.toArray.size).toList = D := by simp
      rwa [e1, e2] at hs3
    have hfm := hpd.filterMap FileR.blk
    repeat' (first | (refine CL.seq ?_) | (refine CL.region ?_) | (refine CL.ret ?_) | (refine Gt.nil ?_; refine RW.nilw [0, 2, 3, 4, 5, 10, 12] ?_; dsimp only [H.keep, H.look, H.Fr.put, Nat.beq]) | (refine Gt.move ?_; refine RW.y (Y.move rfl) rfl ?_) | (refine Gt.assign ?_; refine RW.y (Y.assign rfl) rfl ?_))
    refine FQ.one rfl rfl rfl ⟨hkr.trans hk3 fun k h => .inr (by have h : k = gb := h; omega), _, d'.toList, rfl, ?_, ?_, ?_, fun x hx => ?_, hfm.nodup_iff.2 hnd, (fun k hk => (hblk k (hfm.subset hk)).1), fun h => ?_⟩
    · exact ((hpd.map FileR.it).trans (List.Perm.of_eq hD)).trans (hp.map (·.2)).symm
    · rw [List.pairwise_iff_getElem]
      intro i j hi hj hij
      rw [Array.length_toList] at hi hj
      have := hsort i j (Nat.zero_le _) hij (by rw [← hs1]; exact hj)
      rw [fLt, getElem!_pos d' i hi, getElem!_pos d' j hj] at this
      simpa using this
    · rw [Array.length_toList, hs1]; exact hown3
    · refine (hF x (hpd.subset hx)).keep hk3 fun g hg c => ?_
      have c : g = gb := c
      exact (hblk g (List.mem_filterMap.2 ⟨x, hpd.subset hx, hg⟩)).1 (by rw [c]; rfl)
    · exfalso
      have h2 : D.length = 0 := by rw [show D.length = d'.size from hs1.symm, ← Array.length_toList, h]; rfl
      omega
  · obtain ⟨x, hx⟩ := left_mem hZ hp he
    obtain ⟨U1, U2, rfl⟩ := List.append_of_mem hx
    have hp2 : Z.Perm ((V ++ [(e, x)]) ++ (U1 ++ U2)) := by
      refine hp.trans ?_
      rw [List.append_assoc]
      exact List.Perm.append_left V List.perm_middle
    have hez : (e, x) ∈ Z := hp.symm.subset (List.mem_append.2 (.inr hx))
    have hen : e ∈ en.toList := (List.mem_filter.1 he).1
    obtain ⟨hkey, q, tq, fz, bv, hval, hq, hcb⟩ : Nd w e x := hN _ hez
    have hql := lt_of_at hq
    have hK20 : K0 w w2 := hkr.trans hk2 fun k h => .inr (Nat.le_of_eq h.symm)
    have hq2 := hK20.at0 hq
    have hmr2 := hK20.at0 hmb
    have hcb2 : CB w2 bv x.2.2 := hcb.keep hK20 fun g _ c => c
    have hown2 := own_kept hown hk2 fun g hg c => hv1 (by rw [hg]; exact congrArg some c)
    have hF2 : ∀ y ∈ D, FOk w.heap.size w2 y := fun y hy => (hF y hy).keep hk2 fun g hg c => (hblk g (List.mem_filterMap.2 ⟨y, hy, hg⟩)).2 c
    have hsz2 := hk2.size
    have hql2 : ¬ (v.ownBlock = some q) := fun c => by have := (hown.lt q c).1; omega
    repeat' (first | (refine CL.seq ?_) | (refine CL.region ?_) | (refine CL.skip ?_) | (refine CL.condT rfl ?_) | (refine CL.block ?_) | (refine Gt.nil ?_; refine RW.nilw [0, 2, 3, 4, 5, 10, 12] ?_; dsimp only [H.keep, H.look, H.Fr.put, Nat.beq]) | (refine Gt.extract ?_; refine RW.y (Y.extract rfl rfl) rfl ?_))
    refine RW.y (Y.entryM (e := e) rfl hit2 hmr2 (b := e.born) (by simp) (by rw [← Array.find?_toList]; exact find_born hb hen) hkey hval) rfl ?_
    repeat' (first | (refine Gt.nil ?_; refine RW.nilw [0, 2, 3, 4, 5, 10, 12] ?_; dsimp only [H.keep, H.look, H.Fr.put, Nat.beq]) | (refine Gt.assign ?_; refine RW.y (Y.assign rfl) rfl ?_) | (refine Gt.extract ?_; refine RW.y (Y.extract rfl rfl) rfl ?_))
    refine CL.draw (fun w' => Kept (fun k => v.ownBlock = some k) w2 w') (by kernel_rfl) (fun w4 hheap hk4 => ?_)
    have hS : Kept (fun k => v.ownBlock = some k) w2 w4 := hk4.mono fun k c => c.elim
    skip
    refine AW.take 0 rfl (by kernel_rfl) (by kernel_rfl) (by kernel_rfl) rfl (by assumption) (fun w hS => Y.move rfl) ?_
    refine AW.take 1 rfl (by kernel_rfl) (by kernel_rfl) (by kernel_rfl) rfl (by assumption) (fun w hS => Y.move rfl) ?_
    refine AW.take 2 rfl (by kernel_rfl) (by kernel_rfl) (by kernel_rfl) rfl (by assumption) (fun w hS => Y.move rfl) ?_
    refine AW.take 3 rfl (by kernel_rfl) (by kernel_rfl) (by kernel_rfl) rfl (by assumption) (fun w hS => Y.nilck rfl) ?_
    refine AW.take 4 rfl (by kernel_rfl) (by kernel_rfl) (by kernel_rfl) rfl (by assumption) (fun w hS => Y.fieldAddr rfl (by rfl)) ?_
    refine AW.take 5 rfl (by kernel_rfl) (by kernel_rfl) (by kernel_rfl) rfl (by assumption) (fun w hS => Y.loadB rfl (hS.at hq2 hql2) rfl) ?_
    refine AW.take 6 rfl (by kernel_rfl) (by kernel_rfl) (by kernel_rfl) rfl (by assumption) (fun w hS => Y.move rfl) ?_
    refine AW.take 7 rfl (by kernel_rfl) (by kernel_rfl) (by kernel_rfl) rfl (by assumption) (fun w hS => Y.nilck rfl) ?_
    refine AW.take 8 rfl (by kernel_rfl) (by kernel_rfl) (by kernel_rfl) rfl (by assumption) (fun w hS => Y.fieldAddr rfl (by rfl)) ?_
    refine AW.take 9 rfl (by kernel_rfl) (by kernel_rfl) (by kernel_rfl) rfl (by assumption) (fun w hS => Y.loadB rfl (hS.at hq2 hql2) rfl) ?_
    refine AW.next 10 rfl (by kernel_rfl) ?_
    refine RW.fn rfl rfl ((cloneC bv x.2.2 w4 (hcb2.keep hk4 fun g _ c => c)).mono ?_)
    rintro e5 w5 ⟨hk5, a, n, cap, rfl, hcr⟩
    have hS := hS.trans0 hk5
    refine RW.nil (Nm.then ⟨hS, ?_⟩)
    refine AW.take 11 rfl (by kernel_rfl) (by kernel_rfl) (by kernel_rfl) rfl (by assumption) (fun w hS => Y.build (ps := [(0, _), (1, _), (2, _)]) (l := [_, _, _]) (c := (fEnc ⟨x.1, x.2.1, x.2.2, a, n, cap⟩).toArray) rfl rfl) ?_
    refine AW.next 12 rfl (by kernel_rfl) ?_
    refine RW.build1 rfl rfl rfl rfl (fun w6 hb6 hk6 hl6 => ?_)
    have hS := hS.trans0 hk6
    refine RW.nil (Nm.then ⟨hS, ?_⟩)
    skip
    refine AW.next 13 rfl (by kernel_rfl) ?_
    have hK6 : K0 w2 w6 := (hk4.trans0 hk5).trans0 hk6
    have hz6 := hK6.size
    have hz4 := hk4.size
    have hz5 := hk5.size
    have hz56 := hk6.size
    have ho6 := own_kept0 hown2 hK6
    have hsl : Sl w6 3 (.slice (some ⟨w5.heap.size, 0, none⟩) 1 1) 1 (fEnc ⟨x.1, x.2.1, x.2.2, a, n, cap⟩) := Sl.of_own (own_new (base := 0) (sz := 3) hb6 (Nat.zero_le _) (n := 1) rfl (by simp [maxLen]))
    refine H.RW.app (sz := 3) (m := 1) (news := fEnc ⟨x.1, x.2.1, x.2.2, a, n, cap⟩) rfl rfl rfl rfl rfl ho6 hsl (fEnc_one _) (by omega) (by omega) (by omega) (fun v7 w7 ho7 hk7 hlies => ?_)
    have hS := hS.trans hk7 (fun k h => .inl h)
    refine RW.nil (Nm.then ⟨hS, ?_⟩)
    refine AW.take 14 rfl (by kernel_rfl) (by kernel_rfl) (by kernel_rfl) rfl (by assumption) (fun w hS => Y.assign rfl) ?_
    refine AW.donew [3, 10] (by kernel_rfl) ?_
    dsimp only [H.keep, H.look, H.Fr.put, Nat.beq]
    repeat' (first | (refine CL.done ?_) | (refine Nm.block ?_) | (refine Nm.then ?_))
    have hvl := hown.lt
    have hz7 := hk7.size
    have K7 : K0 w w7 := hK20.trans hS fun k h => .inr (hvl k h).1
    obtain ⟨y, hy⟩ : ∃ y : FileR, y = ⟨x.1, x.2.1, x.2.2, a, n, cap⟩ := ⟨_, rfl⟩
    have hyF : FOk w4.heap.size w5 y := by rw [hy]; exact hcr
    have hyb : ∀ g, y.blk = some g → w2.heap.size ≤ g ∧ g < w6.heap.size := fun g hg => by have := hyF.le hg; omega
    have hlies' : ∀ k, v.ownBlock ≠ some k → k < w6.heap.size → v7.ownBlock ≠ some k := fun k h1 h2 e => by
      rcases hlies k e with q | q
      · exact h1 q
      · omega
    have hyv : ∀ g, y.blk = some g → v.ownBlock ≠ some g := fun g hg c => by have := (hvl g c).2; have := (hyb g hg).1; omega
    refine ⟨(U1 ++ U2).length, _, rfl, rfl, rfl, by simp only [List.length_append, List.length_cons]; omega, V ++ [(e, x)], U1 ++ U2, D ++ [y], v7, rfl, rfl, hp2, by rw [List.map_append, List.map_append, hD, hy]; rfl, K7, by omega, ?_, hlies' _ hv1 (by omega), ?_, fun z hz => ?_, ?_, fun k hk => ?_, fun h => by simp at h⟩
    · have h7 : w7.heap[w.heap.size]? = w2.heap[w.heap.size]? := hS.block _ (by omega) fun c => hv1 c
      rw [h7, hit2, List.map_append]
      simp
    · have e1 : (D ++ [y]).flatMap fEnc = D.flatMap fEnc ++ fEnc ⟨x.1, x.2.1, x.2.2, a, n, cap⟩ := by rw [List.flatMap_append, hy]; simp
      rw [e1, List.length_append]
      exact ho7
    · rcases List.mem_append.1 hz with h | h
      · refine (hF2 z h).keep hS fun g hg c => (hblk g (List.mem_filterMap.2 ⟨z, h, hg⟩)).1 c
      · rw [List.mem_singleton.1 h]
        refine ⟨hyF.1, fun us hu => ?_⟩
        obtain ⟨c1, c2, c3⟩ := hyF.2 us hu
        refine ⟨c1, c2, own_kept (own_kept0 (own_base c3 fun g hg => ?_) hk6) hk7 fun g hg c => ?_⟩
        · rw [own_blk] at hg; have := (hyb g hg).1; omega
        · rw [own_blk] at hg; exact hyv g hg c
    · rw [List.filterMap_append]
      refine List.nodup_append.2 ⟨hnd, ?_, fun k hk j hj e => ?_⟩
      · cases hb : y.blk <;> simp [List.filterMap_cons, hb]
      · subst e
        have hj : y.blk = some k := by
          cases hb : y.blk with
          | none => simp [List.filterMap_cons, hb] at hj
          | some q => simp [List.filterMap_cons, hb] at hj; rw [hj]
        obtain ⟨z, hz, hzk⟩ := List.mem_filterMap.1 hk
        have c1 := (hF2 z hz).le hzk
        have c2 := hyb k hj
        omega
    · rw [List.filterMap_append] at hk
      rcases List.mem_append.1 hk with h | h
      · obtain ⟨z, hz, hzk⟩ := List.mem_filterMap.1 h
        have c1 := (hF2 z hz).le hzk
        exact ⟨hlies' _ (hblk k h).1 (by omega), (hblk k h).2⟩
      · have hj : y.blk = some k := by
          cases hb : y.blk with
          | none => simp [List.filterMap_cons, hb] at h
          | some q => simp [List.filterMap_cons, hb] at h; rw [h]
        have c2 := hyb k hj
        exact ⟨hlies' _ (hyv k hj) c2.2, by omega⟩
end Go.Proofs.YtoafcnecjgnbmaaGreatDoor.E

set_option linter.constructorNameAsVariable false
set_option linter.unusedVariables false
namespace Go.Proofs.YtoafcnecjgnbmaaGreatDoor.E
open Go Go.RowKit H
attribute [local irreducible] H.CL H.RW H.CW H.Yd H.thenK H.blockQ Go.Calls
/-- A file of a tree: its path, whether it is a directory, its bytes. -/
abbrev FRow := List Nat × Bool × Option (List AV)
def ri (r : Ren) (a : FRow) : Itm := (textOf a.1, a.2.1, a.2.2.map fun xs => (reals r xs).getD [])
def FRowOk (r : Ren) (a : FRow) : Prop := Bytes a.1 ∧ ∀ xs, a.2.2 = some xs → ∃ us, reals r xs = some us
noncomputable def fbytes (h : Hp) (b : AV) (k : Option (List AV) → Bool) : Bool := match b with
  | .nils => k none
  | b => slK 1 b h fun n xs => lenK xs fun m => ask (Nat.beq n m) (ask (Nat.blt 0 n) (ask (Nat.ble n 1000000) (onesA xs (k (some xs)))))
noncomputable def frow (h : Hp) (v : AV) (k : Bool → Option (List AV) → Bool) : Bool := qPtr v fun i o => ask (Nat.beq o 0) (cellsK h i fun _ op _ cs => match cs with
  | [.bool d, b] => ife op false (fbytes h b fun c => k d c)
  | _ => false)
theorem fbytes_ok {h : Hp} {b : AV} {k : Option (List AV) → Bool} (hk : fbytes h b k = true) : ∃ c, k c = true ∧ ∀ S w0 fl r w u, Rel S w0 fl r h w → real r b = some u → CB w u (c.map fun xs => (reals r xs).getD []) ∧ ∀ xs, c = some xs → ∃ us, reals r xs = some us := by
  unfold fbytes at hk
  split at hk
  · refine ⟨none, hk, fun S w0 fl r w u hR hu => ⟨?_, fun xs h => by cases h⟩⟩
    cases hu
    exact rfl
  · obtain ⟨n, xs, hk, hS⟩ := slK_ok hk
    rw [lenK_eq] at hk
    obtain ⟨h1, hk⟩ := ask_ok hk
    obtain ⟨h2, hk⟩ := ask_ok hk
    obtain ⟨h3, hk⟩ := ask_ok hk
    obtain ⟨h4, hk⟩ := onesA_ok hk
    have h1 := Nat.eq_of_beq_eq_true h1
    have h2 := blt_lt h2
    have h3 := ble_le h3
    refine ⟨some xs, hk, fun S w0 fl r w u hR hu => ?_⟩
    obtain ⟨us, hus, hsl⟩ := hS S w0 fl r w u hR hu
    have hl := reals_len hus
    refine ⟨?_, fun ys h => by cases h; exact ⟨us, hus⟩⟩
    show CB w u (some ((reals r xs).getD []))
    rw [hus]
    have e : us.length = n := by rw [hl, h1]
    exact ⟨by show 0 < us.length; omega, by show us.length ≤ 1000000; omega, ones_real h4 hus, by show Sl w 1 u us.length us; rw [e]; exact hsl⟩
theorem whole {cc : Array Value} {us : List Value} {m n : Nat} (h1 : cc.size = n) (h2 : us = cc.toList.take m) (h3 : m = n) : cc = us.toArray := by
  rw [h2, List.take_of_length_le (by rw [Array.length_toList]; omega)]
theorem frow_ok {h : Hp} {v : AV} {k : Bool → Option (List AV) → Bool} (hk : frow h v k = true) : ∃ d c, k d c = true ∧ ∀ S w0 fl r w u, Rel S w0 fl r h w → real r v = some u →
    (∃ q ty fz bv, u = .pointer (some ⟨q, 0, none⟩) ∧ w.heap[q]? = some (.cells #[.bool d, bv] ty fz) ∧ CB w bv (c.map fun xs => (reals r xs).getD [])) ∧ ∀ xs, c = some xs → ∃ us, reals r xs = some us := by
  obtain ⟨i, o, rfl, hk⟩ := qPtr_ok (x := v) hk
  obtain ⟨ho, hk⟩ := ask_ok hk
  obtain rfl := Nat.eq_of_beq_eq_true ho
  obtain ⟨t, op, ro, cs, hb, hk⟩ := cellsK_ok hk
  split at hk
  · rename_i d b
    rcases ife_ok hk with ⟨_, hk⟩ | ⟨hop, hk⟩
    · cases hk
    obtain ⟨c, hk, hC⟩ := fbytes_ok hk
    refine ⟨d, c, hk, fun S w0 fl r w u hR hu => ?_⟩
    obtain ⟨p, hp, rfl⟩ := real_ptr hu
    obtain ⟨cc, fz, us, g1, g2, g3, g4, g5, g6, g7⟩ := hR.at hp hb
    have hw := whole g2 g4 (g6 hop)
    obtain ⟨x, y, hx, hy, rfl⟩ := reals2 g3
    cases hx
    obtain ⟨c1, c2⟩ := hC S w0 fl r w y hR hy
    exact ⟨⟨p.1, t, fz, y, rfl, by rw [g1, hw], c1⟩, c2⟩
  · cases hk
noncomputable def fileRows (h : Hp) (ks : List AV) : List AV → (List FRow → Bool) → Bool := List.rec (motive := fun _ => List AV → (List FRow → Bool) → Bool) (fun _ k => k [])
  (fun x _ ih vs k => List.rec (motive := fun _ => Bool) false (fun v t _ => qStr x fun s => frow h v fun d c => ih t fun l => k ((s, d, c) :: l)) vs) ks
theorem fileRows_ok {h : Hp} : ∀ {ks vs : List AV} {k : List FRow → Bool}, fileRows h ks vs k = true → ∃ l, k l = true ∧ ∀ S w0 fl r w (en : List MapEntry), Rel S w0 fl r h w → reals r ks = some (en.map (·.key)) → reals r vs = some (en.map (·.val)) →
    ∃ Z : Zs, Z.map (·.1) = en ∧ Z.map (·.2) = l.map (ri r) ∧ (∀ z ∈ Z, Nd w z.1 z.2) ∧ ∀ a ∈ l, FRowOk r a
  | [], vs, k, hk => ⟨[], hk, fun S w0 fl r w en _ h1 _ => by
      rw [reals_nil] at h1
      have : en = [] := by simpa using h1
      subst this
      exact ⟨[], rfl, rfl, (fun z hz => by cases hz), fun a ha => by cases ha⟩⟩
  | x :: ks, [], k, hk => by cases hk
  | x :: ks, v :: vs, k, hk => by
    obtain ⟨s, rfl, hk⟩ := qStr_ok (x := x) (show qStr x (fun s => frow h v fun d c => fileRows h ks vs fun l => k ((s, d, c) :: l)) = true from hk)
    obtain ⟨d, c, hk, hF⟩ := frow_ok hk
    obtain ⟨l, hk, hL⟩ := fileRows_ok (ks := ks) (vs := vs) hk
    refine ⟨_, hk, fun S w0 fl r w en hR h1 h2 => ?_⟩
    cases en with
    | nil => obtain ⟨_, _, _, _, e⟩ := reals_cons.1 h1; cases e
    | cons e en =>
      obtain ⟨u1, t1, a1, a2, e1⟩ := reals_cons.1 h1
      obtain ⟨u2, t2, b1, b2, e2⟩ := reals_cons.1 h2
      simp only [List.map_cons, List.cons.injEq] at e1 e2
      rw [← e1.2] at a2
      rw [← e2.2] at b2
      rw [← e1.1] at a1
      rw [← e2.1] at b1
      obtain ⟨hb, hkey⟩ := real_str a1
      obtain ⟨⟨q, ty, fz, bv, hv, hq, hcb⟩, hre⟩ := hF S w0 fl r w _ hR b1
      obtain ⟨Z, z1, z2, z3, z4⟩ := hL S w0 fl r w en hR a2 b2
      refine ⟨(e, ri r (s, d, c)) :: Z, by rw [List.map_cons, z1], by rw [List.map_cons, List.map_cons, z2], fun z hz => ?_, fun a ha => ?_⟩
      · rcases List.mem_cons.1 hz with rfl | hz
        · exact ⟨hkey, q, ty, fz, bv, hv, hq, hcb⟩
        · exact z3 z hz
      · rcases List.mem_cons.1 ha with rfl | ha
        · exact ⟨hb, hre⟩
        · exact z4 a ha
/-- The cells of a row of files; their bytes in blocks of their own. -/
noncomputable def outF (l : List FRow) : Hp → (List AV → Hp → Bool) → Bool := List.rec (motive := fun _ => Hp → (List AV → Hp → Bool) → Bool) (fun h k => k [] h)
  (fun x _ ih h k => Option.rec (motive := fun _ => Bool) (ih h fun l h => k (.str x.1 :: .bool x.2.1 :: .nils :: l) h) (fun xs => lenK xs fun n => newH h (.cells 5 true false xs) fun i h => ih h fun l h => k (.str x.1 :: .bool x.2.1 :: .slx i 0 n 1 :: l) h) x.2.2) l
theorem outF_ok : ∀ {l : List FRow} {h : Hp} {k : List AV → Hp → Bool}, outF l h k = true → ∃ cs h', k cs h' = true ∧
    ∀ {S : Nat → Prop} {w0 : World} {fl : Nat} {r0 r : Ren} {w : World} {base : Nat} {D : List FileR}, Rel S w0 fl r h w → Ext r0 r → D.map FileR.it = l.map (ri r0) → (∀ a ∈ l, FRowOk r0 a) → (∀ x ∈ D, FOk base w x) → (D.filterMap FileR.blk).Nodup → (∀ s ∈ D.filterMap FileR.blk, (S s ∨ w0.heap.size ≤ s) ∧ ∀ i q, r i = some q → q.1 ≠ s) →
      ∃ r', Ext r r' ∧ Rel S w0 fl r' h' w ∧ reals r' cs = some (D.flatMap fEnc) ∧ ∀ i q, r' i = some q → r i = some q ∨ q.1 ∈ D.filterMap FileR.blk
  | [], h, k, hk => ⟨[], h, hk, fun {S w0 fl r0 r w base D} hR _ hD _ _ _ _ => by
      have : D = [] := by simpa using hD
      subst this
      exact ⟨r, Ext.refl r, hR, reals_nil, fun i q h => .inl h⟩⟩
  | (s, d, none) :: l, h, k, hk => by
    obtain ⟨cs, h', hk, hC⟩ := outF_ok (l := l) (show outF l h (fun l h => k (.str s :: .bool d :: .nils :: l) h) = true from hk)
    refine ⟨_, h', hk, fun {S w0 fl r0 r w base D} hR hx hD ha hF hnd hbl => ?_⟩
    cases D with
    | nil => simp at hD
    | cons x D =>
      rw [List.map_cons, List.map_cons] at hD
      injection hD with e1 e2
      have hp : x.p = textOf s := congrArg (fun y : Itm => y.1) e1
      have hd : x.d = d := congrArg (fun y : Itm => y.2.1) e1
      have hc : x.c = none := congrArg (fun y : Itm => y.2.2) e1
      obtain ⟨ga, gn, gc⟩ := (hF x List.mem_cons_self).1 hc
      have hbk : x.blk = none := by unfold FileR.blk; rw [ga]; rfl
      have hfm : (x :: D).filterMap FileR.blk = D.filterMap FileR.blk := List.filterMap_cons_none hbk
      rw [hfm] at hnd hbl ⊢
      obtain ⟨r', x1, R1, re1, i1⟩ := hC hR hx e2 (fun a h => ha a (List.mem_cons_of_mem _ h)) (fun y h => hF y (List.mem_cons_of_mem _ h)) hnd hbl
      refine ⟨r', x1, R1, ?_, i1⟩
      have hby : Bytes s := (ha _ List.mem_cons_self).1
      have e3 : fEnc x = [.string (B (textOf s)), .bool d, .slice none 0 0] := by unfold fEnc; rw [hp, hd, ga, gn, gc]
      rw [List.flatMap_cons, e3]
      exact reals_cons.2 ⟨_, _, str_real hby, reals_cons.2 ⟨_, _, rfl, reals_cons.2 ⟨_, _, rfl, re1, rfl⟩, rfl⟩, rfl⟩
  | (s, d, some xs) :: l, h, k, hk => by
    replace hk : lenK xs (fun n => newH h (.cells 5 true false xs) fun i h => outF l h fun l h => k (.str s :: .bool d :: .slx i 0 n 1 :: l) h) = true := hk
    rw [lenK_eq] at hk
    obtain ⟨hl, hk⟩ := newH_ok hk
    obtain ⟨cs, h', hk, hC⟩ := outF_ok (l := l) hk
    refine ⟨_, h', hk, fun {S w0 fl r0 r w base D} hR hx hD ha hF hnd hbl => ?_⟩
    cases D with
    | nil => simp at hD
    | cons x D =>
      rw [List.map_cons, List.map_cons] at hD
      injection hD with e1 e2
      have hp : x.p = textOf s := congrArg (fun y : Itm => y.1) e1
      have hd : x.d = d := congrArg (fun y : Itm => y.2.1) e1
      obtain ⟨us, hus⟩ := (ha _ List.mem_cons_self).2 xs rfl
      have hc : x.c = some us := (congrArg (fun y : Itm => y.2.2) e1).trans (by show some ((reals r0 xs).getD []) = some us; rw [hus]; rfl)
      obtain ⟨f1, f2, f3⟩ := (hF x List.mem_cons_self).2 us hc
      rcases f3.2 with ⟨_, z⟩ | ⟨g, cap, cur, e3, hb, hg, q1, q2, q3, q4⟩
      · omega
      injection e3 with ga gn gc
      rw [Nat.mul_one] at q3 q4
      have hbk : x.blk = some g := by unfold FileR.blk; rw [ga]; rfl
      have hfm : (x :: D).filterMap FileR.blk = g :: D.filterMap FileR.blk := List.filterMap_cons_some hbk
      rw [hfm] at hnd hbl ⊢
      obtain ⟨n1, n2⟩ := List.nodup_cons.1 hnd
      have hxs : xs.length = us.length := (reals_len hus).symm
      have x0 := upd_ext hR (g, cap)
      obtain ⟨m1, m2⟩ := hbl g List.mem_cons_self
      have R0 := hR.adopt (b := .cells 5 true false xs) hl (p := (g, cap)) m2 m1 ⟨cur, (0, 0), us, hg, q3, reals_mono (hx.trans x0) _ _ hus, by rw [hxs]; exact q4.symm, by rw [hxs]; exact q1, (fun z => by cases z), fun _ => .inl rfl⟩
      obtain ⟨r', x1, R1, re1, i1⟩ := hC R0 (hx.trans x0) e2 (fun a h => ha a (List.mem_cons_of_mem _ h)) (fun y h => hF y (List.mem_cons_of_mem _ h)) n2 fun t ht => ⟨(hbl t (List.mem_cons_of_mem _ ht)).1, fun i q hq e => by
        rw [upd_eq] at hq
        by_cases z : i = h.next
        · rw [if_pos z] at hq; cases hq
          exact n1 (by have e : g = t := e; rw [e]; exact ht)
        · rw [if_neg z] at hq
          exact (hbl t (List.mem_cons_of_mem _ ht)).2 i q hq e⟩
      have e0 : r' h.next = some (g, cap) := x1.v _ _ (upd_same _ _ _)
      have hby : Bytes s := (ha _ List.mem_cons_self).1
      have e4 : fEnc x = [.string (B (textOf s)), .bool d, .slice (some ⟨g, 0, none⟩) us.length cap] := by unfold fEnc; rw [hp, hd, ga, gn, gc]
      refine ⟨r', x0.trans x1, R1, ?_, fun i q hq => ?_⟩
      · rw [List.flatMap_cons, e4]
        refine reals_cons.2 ⟨_, _, str_real hby, reals_cons.2 ⟨_, _, rfl, reals_cons.2 ⟨_, _, ?_, re1, rfl⟩, rfl⟩, rfl⟩
        simp only [real, e0, Option.bind_some, Nat.zero_add, Nat.mul_one, Nat.sub_zero, Nat.div_one]
        rw [hxs, if_pos ⟨Nat.one_pos, q1, q2⟩]
      · rcases i1 i q hq with z | z
        · rw [upd_eq] at z
          by_cases y : i = h.next
          · rw [if_pos y] at z; cases z
            exact .inr List.mem_cons_self
          · rw [if_neg y] at z; exact .inl z
        · exact .inr (List.mem_cons_of_mem _ z)
noncomputable def ltR (a b : FRow) : Bool := sLt a.1 b.1
noncomputable def filesP (vs : List AV) (h : Hp) (k : KV) : Bool := one1 vs fun v => qPtr v fun i o => ask (Nat.beq o 0) (cellsK h i fun _ _ _ cs => nthK cs 0 fun m => match m with
  | .map j => mapK h j fun ks vs _ _ => fileRows h ks vs fun l => lenK l fun n => ife (Nat.beq n 0) (k .nils h) (ask (Nat.ble n 1000000) (srtL ltR l fun r => ask (ascL ltR r) (outF r h fun cs h => newH h (.cells 62 true false cs) fun i h => k (.slx i 0 n 3) h)))
  | _ => false)
theorem pr_237 {fl : Nat} : Pr1 Tryz.prog fl 235 fun _ vs h kr _ => filesP vs h kr := by
  refine Pr1.mem fun ps h k hk => ?_
  obtain ⟨v, rfl, hk⟩ := one1_ok hk
  obtain ⟨i, o, rfl, hk⟩ := qPtr_ok (x := v) hk
  obtain ⟨ho, hk⟩ := ask_ok hk
  obtain rfl := Nat.eq_of_beq_eq_true ho
  obtain ⟨t, op, ro, cs, hb, hk⟩ := cellsK_ok hk
  obtain ⟨m, hm, hk⟩ := nthK_ok hk
  split at hk
  · rename_i j
    obtain ⟨ks, vs, bs, ck, hbm, hk⟩ := mapK_ok hk
    obtain ⟨l, hk, hL⟩ := fileRows_ok hk
    rw [lenK_eq] at hk
    have start : ∀ {S : Nat → Prop} {w0 : World} {rn : Ren} {w : World} {xs : List Value}, Rel S w0 fl rn h w → reals rn [.ptr i 0] = some xs → l.length ≤ 1000000 → ∃ Z : Zs, Z.map (·.2) = l.map (ri rn) ∧ (∀ a ∈ l, FRowOk rn a) ∧ Calls Tryz.prog 235 xs.toArray w fun e w' => K0 w w' ∧ ∃ (v : Value) (D : List FileR), e = .returned v ∧ (D.map FileR.it).Perm (Z.map (·.2)) ∧ D.Pairwise (fun x y => Op.bytesLess y.p x.p = false) ∧ w'.ownsRow w.heap.size 62 3 v D.length (D.flatMap fEnc) ∧ (∀ x ∈ D, FOk w.heap.size w' x) ∧ (D.filterMap FileR.blk).Nodup ∧ (∀ k ∈ D.filterMap FileR.blk, v.ownBlock ≠ some k) ∧ (D = [] → v = .slice none 0 0) := by
      intro S w0 rn w xs hR hxs h1
      obtain ⟨x, hx, rfl⟩ := reals1 hxs
      obtain ⟨p, hp, rfl⟩ := real_ptr hx
      obtain ⟨cc, fz, us, e1, e2, e3, _⟩ := hR.at hp hb
      obtain ⟨u, hu, hur⟩ := reals_at e3 hm
      have hcell := cell_of (hR.at hp hb) e3 hu
      obtain ⟨pm, hpm, rfl⟩ := real_map hur
      obtain ⟨en, ckk, b1, b2, b3, b4, b5, b6, rfl⟩ := hR.at hpm hbm
      obtain ⟨Z, z1, z2, z3, z4⟩ := hL S w0 fl rn w en.toList hR b2 b3
      have hZl : Z.length = l.length := by have := congrArg List.length z2; simpa using this
      have hnd : (en.toList.map (·.born)).Nodup := b4.imp (fun h => Nat.ne_of_lt h)
      exact ⟨Z, z2, z4, files p.1 pm.1 en ckk Z w hcell b1 z1 z3 hnd b5 (by rw [hZl]; exact h1)⟩
    rcases ife_ok hk with ⟨h0, hk⟩ | ⟨h0, hk⟩
    · have h0 := Nat.eq_of_beq_eq_true h0
      refine ⟨_, _, hk, fun S w0 rn w xs hR hxs => ?_⟩
      obtain ⟨Z, z2, z4, hC⟩ := start hR hxs (by omega)
      refine hC.mono ?_
      rintro e w' ⟨hK, v, D, rfl, hDp, hDs, hown, hF, hnb, hbv, hnil⟩
      have hD0 : D = [] := by
        have h1 := hDp.length_eq
        rw [z2, List.length_map, List.length_map, h0] at h1
        exact List.eq_nil_of_length_eq_zero h1
      rw [hnil hD0]
      exact ⟨rn, _, rfl, Ext.refl rn, hR.same hK, rfl⟩
    have h0 : 0 < l.length := by
      rcases Nat.eq_zero_or_pos l.length with z | z
      · rw [z] at h0; cases h0
      · exact z
    obtain ⟨h1, hk⟩ := ask_ok hk
    have h1 := ble_le h1
    obtain ⟨r, hk, hperm⟩ := srtL_ok hk
    obtain ⟨hasc, hk⟩ := ask_ok hk
    obtain ⟨cs', h', hk, hO⟩ := outF_ok hk
    obtain ⟨hlim, hk⟩ := newH_ok hk
    refine ⟨_, _, hk, fun S w0 rn w xs hR hxs => ?_⟩
    obtain ⟨Z, z2, z4, hC⟩ := start hR hxs h1
    refine hC.mono ?_
    rintro e w' ⟨hK, v, D, rfl, hDp, hDs, hown, hF, hnb, hbv, _⟩
    have H0 := hR.same hK
    have hsz := hR.kept.size
    have hp1 : (r.map (ri rn)).Perm (D.map FileR.it) := ((hperm.map (ri rn)).trans (List.Perm.of_eq z2.symm)).trans hDp.symm
    have hA : r.Pairwise (fun x y : FRow => Op.bytesLess (textOf x.1) (textOf y.1) = true) := ascL_ok (R := fun x y : FRow => Op.bytesLess (textOf x.1) (textOf y.1) = true) (fun x y z h1 h2 => bl_trans _ _ _ h1 h2) (fun x hx y hy h => by rw [← sLt_eq (z4 x (hperm.subset hx)).1 (z4 y (hperm.subset hy)).1]; exact h) hasc
    have hDr := (perm_asc (lt := fun a b : Itm => Op.bytesLess a.1 b.1) hp1 (List.pairwise_map.2 hA) (List.pairwise_map.2 hDs)).symm
    have hDl : D.length = l.length := by have := congrArg List.length hDr; rw [List.length_map, List.length_map, hperm.length_eq] at this; exact this
    obtain ⟨r1, x1, R1, re1, i1⟩ := hO (base := w.heap.size) H0 (Ext.refl rn) hDr (fun a ha => z4 a (hperm.subset ha)) hF hnb fun s hs => by
      obtain ⟨y, hy, hys⟩ := List.mem_filterMap.1 hs
      have := (hF y hy).le hys
      exact ⟨.inr (by omega), fun i q hq e => by have := hR.dom i q hq; omega⟩
    rcases hown.2 with ⟨_, z⟩ | ⟨g, cap, cur, rfl, hb', hg, q1, q2, q3, q4⟩
    · omega
    have x2 := upd_ext R1 (g, cap * 3)
    have hgn : ∀ i q, r1 i = some q → q.1 ≠ g := fun i q hq e => by
      rcases i1 i q hq with z | z
      · have := hR.dom i q z; omega
      · exact hbv q.1 z (by rw [e]; rfl)
    have hcl : cs'.length = D.length * 3 := by rw [← reals_len re1, flat_len]
    have R2 := R1.adopt (b := .cells 62 true false cs') hlim (p := (g, cap * 3)) hgn (.inr (by show w0.heap.size ≤ g; omega)) ⟨cur, (0, 0), _, hg, q3, reals_mono x2 _ _ re1, by rw [hcl]; exact q4.symm, by rw [hcl]; exact Nat.mul_le_mul_right 3 q1, (fun z => by cases z), fun _ => .inl rfl⟩
    refine ⟨_, _, rfl, x1.trans x2, R2, ?_⟩
    simp only [real, upd_same, Option.bind_some, Nat.zero_add, Nat.sub_zero]
    rw [Nat.mul_div_cancel cap (by decide), if_pos ⟨by decide, by rw [← hDl]; exact Nat.mul_le_mul_right 3 q1, q2⟩, hDl]
  · cases hk
end Go.Proofs.YtoafcnecjgnbmaaGreatDoor.E

set_option linter.constructorNameAsVariable false
set_option linter.unusedVariables false
namespace Go.Proofs.YtoafcnecjgnbmaaGreatDoor.E
open Go Go.RowKit H
abbrev Nm := List UInt8
theorem B_beq (a b : Nm) : (B a == B b) = decide (a = b) := by
  show (a.toArray == b.toArray) = _
  by_cases c : a = b
  · simp [c]
  · simp [c]
section
variable {α β : Type}
def mget : List (Nm × α) → Nm → Option α
  | [], _ => none
  | x :: l, n => if x.1 = n then some x.2 else mget l n
def mput : List (Nm × α) → Nm → α → List (Nm × α)
  | [], n, v => [(n, v)]
  | x :: l, n, v => if x.1 = n then (n, v) :: l else x :: mput l n v
theorem mget_map (f : α → β) : ∀ (l : List (Nm × α)) (n : Nm), mget (l.map fun x => (x.1, f x.2)) n = (mget l n).map f
  | [], _ => rfl
  | x :: l, n => by
    simp only [List.map_cons, mget]
    split
    · rfl
    · exact mget_map f l n
theorem mput_map (f : α → β) : ∀ (l : List (Nm × α)) (n : Nm) (v : α), mput (l.map fun x => (x.1, f x.2)) n (f v) = (mput l n v).map fun x => (x.1, f x.2)
  | [], _, _ => rfl
  | x :: l, n, v => by
    simp only [List.map_cons, mput]
    split
    · rfl
    · rw [mput_map f l n v]; rfl
theorem mget_put : ∀ (l : List (Nm × α)) (n : Nm) (v : α) (m : Nm), mget (mput l n v) m = if m = n then some v else mget l m
  | [], n, v, m => by
    simp only [mput, mget]
    by_cases c : n = m
    · rw [if_pos c, if_pos c.symm]
    · rw [if_neg c, if_neg (fun e => c e.symm)]
  | x :: l, n, v, m => by
    simp only [mput]
    by_cases c : x.1 = n
    · rw [if_pos c]
      simp only [mget]
      by_cases d : n = m
      · rw [if_pos d, if_pos d.symm]
      · rw [if_neg d, if_neg (fun e => d e.symm), if_neg (fun e => d (c.symm.trans e))]
    · rw [if_neg c]
      simp only [mget]
      rw [mget_put l n v m]
      by_cases d : m = n
      · subst d; simp [c]
      · simp [d]
theorem mput_mem : ∀ (l : List (Nm × α)) (n : Nm) (v : α), ∀ x ∈ mput l n v, x = (n, v) ∨ x ∈ l
  | [], n, v, x, h => .inl (List.mem_singleton.1 h)
  | y :: l, n, v, x, h => by
    simp only [mput] at h
    split at h
    · rcases List.mem_cons.1 h with h | h
      · exact .inl h
      · exact .inr (List.mem_cons_of_mem _ h)
    · rcases List.mem_cons.1 h with h | h
      · exact .inr (h ▸ List.mem_cons_self)
      · rcases mput_mem l n v x h with h | h
        · exact .inl h
        · exact .inr (List.mem_cons_of_mem _ h)
theorem mget_some : ∀ (l : List (Nm × α)) (n : Nm) (v : α), mget l n = some v → (n, v) ∈ l
  | y :: l, n, v, h => by
    simp only [mget] at h
    split at h
    · rename_i c
      cases h
      exact List.mem_cons.2 (.inl (by rw [← c]))
    · exact List.mem_cons_of_mem _ (mget_some l n v h)
end
/-- What is left to be reached. -/
def wt (s : Nm → List Nm) (X : List (Nm × Int)) : List Nm → Nat
  | [] => 0
  | n :: R => (if (mget X n).isSome then 0 else (s n).length) + wt s X R
theorem wt_old {s : Nm → List Nm} {X : List (Nm × Int)} {n : Nm} {c : Int} : ∀ {R : List Nm}, ((mget X n).isSome = true ∨ n ∉ R) → wt s (mput X n c) R = wt s X R
  | [], _ => rfl
  | m :: R, h => by
    have h' : (mget X n).isSome = true ∨ n ∉ R := h.imp_right fun h c => h (List.mem_cons_of_mem _ c)
    simp only [wt, mget_put]
    rw [wt_old h']
    by_cases e : m = n
    · rcases h with h | h
      · rw [e, h]; simp
      · exact absurd (e ▸ List.mem_cons_self) h
    · rw [if_neg e]
theorem wt_new {s : Nm → List Nm} {X : List (Nm × Int)} {n : Nm} {c : Int} : ∀ {R : List Nm}, R.Nodup → n ∈ R → mget X n = none → wt s (mput X n c) R + (s n).length = wt s X R
  | m :: R, hn, hm, hx => by
    obtain ⟨h1, h2⟩ := List.nodup_cons.1 hn
    simp only [wt, mget_put]
    by_cases e : m = n
    · subst e
      rw [wt_old (.inr h1), hx]
      simp
      omega
    · have hm' : n ∈ R := by
        rcases List.mem_cons.1 hm with h | h
        · exact absurd h.symm e
        · exact h
      have := wt_new (s := s) (c := c) h2 hm' hx
      rw [if_neg e]
      omega
/-! Maps in memory. -/
def kvE (e : MapEntry) : Value × Value := (e.key, e.val)
def kvN (x : Nm × Value) : Value × Value := (.string (B x.1), x.2)
theorem find_mv : ∀ (en : List MapEntry) (l : List (Nm × Value)) (n : Nm) (i : Nat), en.map kvE = l.map kvN →
    (mget l n = none ∧ Instr.findNow .string (.string (B n)) en i = some none ∧ ∀ v, mput l n v = l ++ [(n, v)]) ∨
    ∃ j u, mget l n = some u ∧ Instr.findNow .string (.string (B n)) en i = some (some (i + j, u)) ∧ (∃ e, en[j]? = some e ∧ e.key = .string (B n)) ∧ ∀ v, (en.modify j fun e => { e with key := .string (B n), val := v }).map kvE = (mput l n v).map kvN
  | [], [], n, i, _ => .inl ⟨rfl, rfl, fun _ => rfl⟩
  | [], _ :: _, n, i, h => by simp at h
  | _ :: _, [], n, i, h => by simp at h
  | e :: en, x :: l, n, i, h => by
    simp only [List.map_cons, List.cons.injEq] at h
    obtain ⟨h1, h2⟩ := h
    have hk : e.key = .string (B x.1) := congrArg Prod.fst h1
    have hv : e.val = x.2 := congrArg Prod.snd h1
    have hs : Instr.sameNow .string (.string (B n)) e.key = some (decide (n = x.1)) := by
      rw [hk]; simp only [Instr.sameNow, B_beq]
    by_cases c : x.1 = n
    · right
      refine ⟨0, x.2, by simp [mget, c], ?_, ⟨e, rfl, by rw [hk, c]⟩, fun v => ?_⟩
      · have hd : decide (n = x.1) = true := by simp [c]
        rw [hd] at hs
        simp [Instr.findNow, hs, hv]
      · simp [mput, c, kvN, kvE, h2]
    · have hd : decide (n = x.1) = false := by simp; exact fun e => c e.symm
      rw [hd] at hs
      rcases find_mv en l n (i + 1) h2 with ⟨a1, a2, a3⟩ | ⟨j, u, a1, a2, a3, a4⟩
      · left
        exact ⟨by simp [mget, c, a1], by simp [Instr.findNow, hs, a2], fun v => by simp [mput, c, a3]⟩
      · right
        refine ⟨j + 1, u, by simp [mget, c, a1], ?_, by simpa using a3, fun v => ?_⟩
        · simp only [Instr.findNow, hs, a2]
          congr 3; omega
        · simp [mput, c, a4, h1]
def MV (w : World) (m : Nat) (l : List (Nm × Value)) : Prop := ∃ en ck, w.heap[m]? = some (.map en ck) ∧ en.toList.map kvE = l.map kvN
theorem MV.keep {S : Nat → Prop} {w w' : World} {m : Nat} {l : List (Nm × Value)} (h : MV w m l) (k : Kept S w w') (hS : ¬ S m) : MV w' m l := by
  obtain ⟨en, ck, h1, h2⟩ := h
  exact ⟨en, ck, k.at h1 hS, h2⟩
theorem MV.lt {w : World} {m : Nat} {l : List (Nm × Value)} (h : MV w m l) : m < w.heap.size := by
  obtain ⟨en, ck, h1, h2⟩ := h
  exact lt_of_at h1
section
variable {M : Option (Option Nat)} {P : Program} {ops : Array Oper} {Q : Post} {rest : List Oper} {f : Fr} {w : World} {d ty : Nat} {pos : String} {af : Array Edge}
theorem ck_str' {t : TypeId} [ht : Und P t .string] (b : Bool) (s : ByteArray) (n : Nat) (w : World) : (Instr.checkKey b (n + 1) t (.string s)).run P w = .ok () w := by
  simp [Instr.checkKey, run_underlying ht.out]
theorem ck_str {t : TypeId} [ht : Und P t .string] (b : Bool) (s : ByteArray) (w : World) : (Instr.checkKey b 10000 t (.string s)).run P w = .ok () w := ck_str' b s 9999 w
theorem Y.lookV {t kt et : TypeId} {z : Value} {sz b : Nat} [ht : Und P t (.map kt et)] [hk : Und P kt .string] [hi : Inf P et z sz b] {x y : Operand} {m : Nat} {n : Nm} {l : List (Nm × Value)} (hx : f.ev x = some (.map (some m))) (hy : f.ev y = some (.string (B n))) (hm : MV w m l) :
    Yd P f (op1 d (.lookup t x y false) ty pos af) ((mget l n).getD z) w := by
  intro a ha
  obtain ⟨en, ck, h1, h2⟩ := hm
  have hz := run_zeroValue (P := P) (t := et) w
  rcases find_mv en.toList l n 0 h2 with ⟨a1, a2, _⟩ | ⟨j, u, a1, a2, _⟩
  · simp only [execOp, ha.eval hx, ha.eval hy, Instr.lookup, Sem.run_bind, run_underlying ht.out, Result.andThen_ok, getObj, Sem.run, Sem.run_pure, h1, ck_str]
    simp only [Result.andThen_ok, Instr.findKey, Sem.run_bind, run_underlying hk.out, a2, Sem.run_pure, hz, a1]
    rfl
  · simp only [execOp, ha.eval hx, ha.eval hy, Instr.lookup, Sem.run_bind, run_underlying ht.out, Result.andThen_ok, getObj, Sem.run, Sem.run_pure, h1, ck_str]
    simp only [Result.andThen_ok, Instr.findKey, Sem.run_bind, run_underlying hk.out, a2, Sem.run_pure, a1]
    rfl
theorem Y.lookW {t kt et : TypeId} {z : Value} {sz b : Nat} [ht : Und P t (.map kt et)] [hk : Und P kt .string] [hi : Inf P et z sz b] {x y : Operand} {m : Nat} {n : Nm} {l : List (Nm × Value)} (hx : f.ev x = some (.map (some m))) (hy : f.ev y = some (.string (B n))) (hm : MV w m l) :
    Yd P f (op1 d (.lookup t x y true) ty pos af) (.tuple #[(mget l n).getD z, .bool (mget l n).isSome]) w := by
  intro a ha
  obtain ⟨en, ck, h1, h2⟩ := hm
  have hz := run_zeroValue (P := P) (t := et) w
  rcases find_mv en.toList l n 0 h2 with ⟨a1, a2, _⟩ | ⟨j, u, a1, a2, _⟩
  · simp only [execOp, ha.eval hx, ha.eval hy, Instr.lookup, Sem.run_bind, run_underlying ht.out, Result.andThen_ok, getObj, Sem.run, Sem.run_pure, h1, ck_str]
    simp only [Result.andThen_ok, Instr.findKey, Sem.run_bind, run_underlying hk.out, a2, Sem.run_pure, hz, a1]
    rfl
  · simp only [execOp, ha.eval hx, ha.eval hy, Instr.lookup, Sem.run_bind, run_underlying ht.out, Result.andThen_ok, getObj, Sem.run, Sem.run_pure, h1, ck_str]
    simp only [Result.andThen_ok, Instr.findKey, Sem.run_bind, run_underlying hk.out, a2, Sem.run_pure, a1]
    rfl
theorem RW.updV {t kt et : TypeId} [ht : Und P t (.map kt et)] [hk : Und P kt .string] {x y q : Operand} {m : Nat} {n : Nm} {v : Value} {l : List (Nm × Value)} (hx : f.ev x = some (.map (some m))) (hy : f.ev y = some (.string (B n))) (hq : f.ev q = some v) (hm : MV w m l)
    (k : ∀ w', MV w' m (mput l n v) → Kept (fun k => k = m) w w' → RW M P ops Q rest f w') : RW M P ops Q (op0 (.mapUpdate t x y q) ty pos af :: rest) f w := by
  obtain ⟨en, ck, h1, h2⟩ := hm
  have up : ∀ (en' : Array MapEntry) (ck' : Nat), en'.toList.map kvE = (mput l n v).map kvN → (Instr.mapUpdate t (.map (some m)) (.string (B n)) v).run P w = .ok () (setM w m (.map en' ck')) → RW M P ops Q (op0 (.mapUpdate t x y q) ty pos af :: rest) f w := fun en' ck' h3 h4 =>
    RW.gen rfl (fun t h => by cases h) (.inr ⟨rfl, rfl⟩) (fun a ha => by simp [execOp, ha.eval hx, ha.eval hy, ha.eval hq, h4]) (k _ ⟨en', ck', (setM_at _ h1).1, h3⟩ (setM_at _ h1).2)
  rcases find_mv en.toList l n 0 h2 with ⟨a1, a2, a3⟩ | ⟨j, u, a1, a2, ⟨e, a3, a5⟩, a4⟩
  · refine up (en.push { key := .string (B n), val := v, born := ck }) (ck + 1) ?_ ?_
    · rw [Array.toList_push, List.map_append, h2, a3, List.map_append]; rfl
    · simp only [Instr.mapUpdate, Sem.run_bind, run_underlying ht.out, Result.andThen_ok, getObj, Sem.run, Sem.run_pure, h1, ck_str]
      simp only [Result.andThen_ok, Instr.findKey, Sem.run_bind, run_underlying hk.out, a2, Sem.run_pure]
      exact run_setMap h1 _
  · rw [Nat.zero_add] at a2
    have e0 : (en.modify j fun e => { e with key := .string (B n), val := v }).toList = en.toList.modify j fun e => { e with key := .string (B n), val := v } := by simp
    have hje : en[j]? = some e := by simpa using a3
    have sb : Instr.sameBits 10000 (.string (B n)) (.string (B n)) = true := by
      show (n.toArray == n.toArray) = true
      simp
    refine up (en.modify j fun e => { e with key := .string (B n), val := v }) ck (by rw [e0]; exact a4 v) ?_
    simp only [Instr.mapUpdate, Sem.run_bind, run_underlying ht.out, Result.andThen_ok, getObj, Sem.run, Sem.run_pure, h1, ck_str]
    simp only [Result.andThen_ok, Instr.findKey, Sem.run_bind, run_underlying hk.out, a2, Sem.run_pure, Instr.keyThatStays, hje, Option.map_some, Option.getD_some, a5, sb, if_true]
    exact run_setMap h1 _
end
end Go.Proofs.YtoafcnecjgnbmaaGreatDoor.E

set_option linter.constructorNameAsVariable false
set_option linter.unusedVariables false
namespace Go.Proofs.YtoafcnecjgnbmaaGreatDoor.E
open Go Go.RowKit H
section
variable {M : Option (Option Nat)} {P : Program} {ops : Array Oper} {Q : Post} {rest : List Oper} {f : Fr} {w : World} {d ty : Nat} {pos : String} {af : Array Edge}
theorem Y.lookE {t kt et : TypeId} {z : Value} {sz b : Nat} [ht : Und P t (.map kt et)] [hk : Und P kt .string] [hi : Inf P et z sz b] {x y : Operand} {m : Nat} {n : Nm} {l : List (Nm × Value)} {u : Value} (hx : f.ev x = some (.map (some m))) (hy : f.ev y = some (.string (B n))) (hm : MV w m l) (he : (mget l n).getD z = u) :
    Yd P f (op1 d (.lookup t x y false) ty pos af) u w := he ▸ Y.lookV hx hy hm
theorem Y.lookF {t kt et : TypeId} {z : Value} {sz b : Nat} [ht : Und P t (.map kt et)] [hk : Und P kt .string] [hi : Inf P et z sz b] {x y : Operand} {m : Nat} {n : Nm} {l : List (Nm × Value)} {u : Value} {c : Bool} (hx : f.ev x = some (.map (some m))) (hy : f.ev y = some (.string (B n))) (hm : MV w m l) (he : (mget l n).getD z = u) (hc : (mget l n).isSome = c) :
    Yd P f (op1 d (.lookup t x y true) ty pos af) (.tuple #[u, .bool c]) w := by
  subst he; subst hc
  exact Y.lookW hx hy hm
/-- A field of an element, the cells as they stand. -/
theorem RW.elemG {t e t2 ty2 ty3 s : TypeId} {fi off ft : Nat} {pos2 pos3 : String} {af2 af3 : Array Edge} {d1 d2 : Nat} {z zf : Value} {b sz szf bf : Nat} [ht : Und P t (.slice e)] [Inf P e z sz b] [hf : Fld P s fi off ft] [hfi : Inf P ft zf szf bf] [One P t2]
    {x y : Operand} {k : IntKind} {v u : Value} {i : Int} {n : Nat} {xs : List Value} (hx : f.ev x = some v) (hy : f.ev y = some (.int k i)) (hd : Nat.blt d f.n = true) (hd1 : Nat.blt d1 f.n = true) (hd2 : Nat.blt d2 f.n = true) (hzf : Nat.beq szf 0 = false)
    (hs : Sl w sz v n xs) (h0 : 0 ≤ i) (h1 : i < n) (hu : xs[i.toNat * sz + off]? = some u)
    (kk : ∀ p q, RW M P ops Q rest (((f.put d p).put d1 q).put d2 u) w) : RW M P ops Q (op1 d (.indexAddr t x y) ty pos af :: op1 d1 (.fieldAddr s (.tmp d) fi) ty2 pos2 af2 :: op1 d2 (.load t2 (.tmp d1)) ty3 pos3 af3 :: rest) f w := by
  obtain ⟨g, o, h2, h3⟩ := spot_ptr hs (by omega) (i.toNat * sz)
  refine RW.y (Y.idx hx hy hs h0 h1) hd ?_
  rw [h2]
  refine RW.y (Y.fieldAddr (show (f.put d (.pointer (some ⟨g, o, none⟩))).ev (.tmp d) = some (.pointer (some ⟨g, o, none⟩)) from by simp [H.Fr.ev, H.Fr.put, H.look]) hzf) hd1 ?_
  refine RW.y (Y.load1 (a := ⟨g, o + off, none⟩) (by simp [H.Fr.ev, H.Fr.put, H.look]) ?_) hd2 (kk _ _)
  rw [← h3 off]
  exact hs.cell hu
/-- An element read whole, the cells as they stand. -/
theorem RW.elemN {t e t2 ty2 : TypeId} {pos2 : String} {af2 : Array Edge} {d1 : Nat} {z : Value} {b sz : Nat} [ht : Und P t (.slice e)] [Inf P e z sz b] [Many P t2 sz]
    {x y : Operand} {k : IntKind} {v : Value} {i : Int} {n : Nat} {xs : List Value} (hx : f.ev x = some v) (hy : f.ev y = some (.int k i)) (hd : Nat.blt d f.n = true) (hd1 : Nat.blt d1 f.n = true)
    (hs : Sl w sz v n xs) (h0 : 0 ≤ i) (h1 : i < n)
    (kk : ∀ p, RW M P ops Q rest ((f.put d p).put d1 (.agg ((xs.drop (i.toNat * sz)).take sz).toArray)) w) : RW M P ops Q (op1 d (.indexAddr t x y) ty pos af :: op1 d1 (.load t2 (.tmp d)) ty2 pos2 af2 :: rest) f w := by
  obtain ⟨g, o, h2, h3⟩ := spot_ptr hs (by omega) (i.toNat * sz)
  have hle : (i.toNat + 1) * sz ≤ n * sz := Nat.mul_le_mul_right _ (by omega)
  rw [Nat.succ_mul] at hle
  refine RW.y (Y.idx hx hy hs h0 h1) hd ?_
  rw [h2]
  refine RW.loadN (a := ⟨g, o, none⟩) (by simp [H.Fr.ev, H.Fr.put, H.look]) (by rw [List.length_take, List.length_drop, hs.1]; omega) (fun j u hj => ?_) hd1 (kk _)
  have : (Addr.mk g o none).add j = Value.spot v (i.toNat * sz + j) := by rw [h3]; simp [addr_add]
  rw [this]
  refine hs.cell ?_
  rw [List.getElem?_take] at hj
  split at hj
  · rwa [List.getElem?_drop] at hj
  · cases hj
end
attribute [local irreducible] H.CL H.RW H.CW H.Yd H.thenK H.blockQ Go.Calls
abbrev strT : TypeId := 9
abbrev iv (z : Int) : Value := .int .i64 z
def vX (X : List (Nm × Int)) : List (Nm × Value) := X.map fun x => (x.1, iv x.2)
theorem vX_get (X : List (Nm × Int)) (n : Nm) : (mget (vX X) n).getD (iv 0) = iv ((mget X n).getD 0) := by
  rw [vX, mget_map]; cases mget X n <;> rfl
theorem vX_is (X : List (Nm × Int)) (n : Nm) : (mget (vX X) n).isSome = (mget X n).isSome := by
  rw [vX, mget_map]; cases mget X n <;> rfl
theorem vX_put (X : List (Nm × Int)) (n : Nm) (c : Int) : mput (vX X) n (iv c) = vX (mput X n c) := mput_map iv X n c
/-- Needs in memory; rows in memory, each with the names that it needs. -/
def NdsAt (w : World) (nv : Value) (ns : List Nm) : Prop := ∃ ys, Sl w 4 nv ns.length ys ∧ (∀ y ∈ ys, y.oneCell' = true) ∧ ∀ j, j < ns.length → ys[j * 4]? = some (.string (B (ns.getD j [])))
def RowsAt (w : World) (rv : Value) (N : List (List Nm)) : Prop := ∃ xs, Sl w 39 rv N.length xs ∧ ∀ i, i < N.length → ∃ nv, xs[i * 39 + 38]? = some nv ∧ NdsAt w nv (N.getD i [])
/-- A map as a range sees it. -/
def MR (w : World) (m : Nat) (en : Array MapEntry) (ck : Nat) (l : List (Nm × Value)) : Prop := w.heap[m]? = some (.map en ck) ∧ en.toList.map kvE = l.map kvN ∧ (en.toList.map (·.born)).Nodup ∧ ∀ e ∈ en.toList, e.born < ck
theorem MR.mv {w : World} {m : Nat} {en : Array MapEntry} {ck : Nat} {l : List (Nm × Value)} (h : MR w m en ck l) : MV w m l := ⟨en, ck, h.1, h.2.1⟩
theorem kv_mem {en : List MapEntry} {l : List (Nm × Value)} (h : en.map kvE = l.map kvN) {e : MapEntry} (he : e ∈ en) : ∃ x ∈ l, e.key = .string (B x.1) ∧ e.val = x.2 := by
  have : kvE e ∈ l.map kvN := h ▸ List.mem_map.2 ⟨e, he, rfl⟩
  obtain ⟨x, hx, hxe⟩ := List.mem_map.1 this
  exact ⟨x, hx, (congrArg Prod.fst hxe).symm, (congrArg Prod.snd hxe).symm⟩
theorem kv_mem' {en : List MapEntry} {l : List (Nm × Value)} (h : en.map kvE = l.map kvN) {x : Nm × Value} (hx : x ∈ l) : ∃ e ∈ en, e.key = .string (B x.1) ∧ e.val = x.2 := by
  have : kvN x ∈ en.map kvE := h ▸ List.mem_map.2 ⟨x, hx, rfl⟩
  obtain ⟨e, he, hxe⟩ := List.mem_map.1 this
  exact ⟨e, he, congrArg Prod.fst hxe, congrArg Prod.snd hxe⟩
theorem left_mem2 {V U en : List MapEntry} (hp : en.Perm (V ++ U)) {e : MapEntry} (he : e ∈ en.filter (fun e => !(V.map (·.born)).toArray.contains e.born)) : e ∈ U := by
  obtain ⟨h1, h2⟩ := List.mem_filter.1 he
  rcases List.mem_append.1 (hp.subset h1) with h | h
  · exfalso
    have : (V.map (·.born)).toArray.contains e.born = true := has_born.2 (List.mem_map.2 ⟨e, h, rfl⟩)
    rw [this] at h2; cases h2
  · exact h
theorem left_nil2 {V U en : List MapEntry} (hn : (en.map (·.born)).Nodup) (hp : en.Perm (V ++ U)) (he : en.filter (fun e => !(V.map (·.born)).toArray.contains e.born) = []) : U = [] := by
  cases U with
  | nil => rfl
  | cons u U =>
    exfalso
    have h1 : u ∈ en := hp.symm.subset (List.mem_append.2 (.inr List.mem_cons_self))
    have h2 : u ∉ en.filter (fun e => !(V.map (·.born)).toArray.contains e.born) := by rw [he]; exact List.not_mem_nil
    refine h2 (List.mem_filter.2 ⟨h1, ?_⟩)
    have hb : ((V ++ u :: U).map (·.born)).Nodup := ((hp.map (·.born)).nodup_iff).1 hn
    rw [List.map_append, List.map_cons] at hb
    have hd := (List.nodup_append.1 hb).2.2
    have hc : (V.map (·.born)).toArray.contains u.born = false := by
      rw [Bool.eq_false_iff]
      exact fun c => hd _ (has_born.1 c) _ List.mem_cons_self rfl
    rw [hc]; rfl
/-- What far reads. -/
structure FarD where
  la : List (Nm × Nat)
  lb : List (Nm × List Int)
  lc : List (Nm × Int)
  lf : List (Nm × Int)
  N : List (List Nm)
namespace FarD
def len (D : FarD) (n : Nm) : Nat := (mget D.la n).getD 0
def A (D : FarD) : List Nm := (D.la.map (·.1)).filter fun n => Nat.blt 0 (D.len n)
def rho (D : FarD) (n : Nm) : List Int := match mget D.lc n with | some i => [i] | none => (mget D.lb n).getD []
def ok (D : FarD) (n : Nm) (i : Int) : Bool := match mget D.lf n with | some k => decide (k = i) | none => true
def nds (D : FarD) (i : Int) : List Nm := D.N.getD i.toNat []
def one (D : FarD) (n : Nm) (i : Int) : List Nm := if D.ok n i then D.nds i else []
def suc (D : FarD) (n : Nm) : List Nm := (D.rho n).flatMap (D.one n)
end FarD
structure FarAt (w : World) (g : Nat) (D : FarD) (rv : Value) (mb mf mc ma : Nat) (lb la : List (Nm × Value)) (ea ef : Array MapEntry) (cka ckf : Nat) : Prop where
  c0 : w.cell? ⟨g, 0, none⟩ = some rv
  c2 : w.cell? ⟨g, 2, none⟩ = some (.map (some mb))
  c3 : w.cell? ⟨g, 3, none⟩ = some (.map (some mf))
  c4 : w.cell? ⟨g, 4, none⟩ = some (.map (some mc))
  c5 : w.cell? ⟨g, 5, none⟩ = some (.map (some ma))
  rows : RowsAt w rv D.N
  asked : MR w ma ea cka la
  akey : la.map (·.1) = D.la.map (·.1)
  alen : ∀ n, ∃ p cap, (mget la n).getD (.slice none 0 0) = .slice p (D.len n) cap
  byM : MV w mb lb
  byV : ∀ n, Sl w 1 ((mget lb n).getD (.slice none 0 0)) ((mget D.lb n).getD []).length (((mget D.lb n).getD []).map iv)
  chosen : MV w mc (vX D.lc)
  fixed : MR w mf ef ckf (vX D.lf)
/-- The state of the search: names that are seen, names that wait. -/
def FS (w0 : World) (ms : Nat) (X : List (Nm × Int)) (L : List Nm) (v : Value) (w : World) : Prop := K0 w0 w ∧ w0.heap.size ≤ ms ∧ MV w ms (vX X) ∧ v.ownBlock ≠ some ms ∧ w.ownsRow w0.heap.size strT 1 v L.length (sv L)
theorem FS.push {w0 w w' : World} {ms : Nat} {X : List (Nm × Int)} {L : List Nm} {v v' : Value} {n : Nm} (h : FS w0 ms X L v w) (ho : w'.ownsRow w0.heap.size strT 1 v' (L.length + 1) (sv L ++ (vs n).cells.toList)) (hk : Kept (fun k => v.ownBlock = some k) w w') (hl : Lies w v v') : FS w0 ms X (L ++ [n]) v' w' := by
  obtain ⟨h1, h2, h3, h4, h5⟩ := h
  refine ⟨h1.trans hk fun k h => .inr (h5.lt k h).1, h2, h3.keep hk h4, fun c => ?_, by simpa [Value.cells] using ho⟩
  rcases hl ms c with e | e
  · exact h4 e
  · have := h3.lt; omega
end Go.Proofs.YtoafcnecjgnbmaaGreatDoor.E

set_option linter.constructorNameAsVariable false
set_option linter.unusedVariables false
namespace Go.Proofs.YtoafcnecjgnbmaaGreatDoor.E
open Go Go.RowKit H
attribute [local irreducible] H.CL H.RW H.CW H.Yd H.thenK H.blockQ Go.Calls
theorem B_inj {a b : Nm} (h : Value.string (B a) = .string (B b)) : a = b := by
  injection h with h
  have := congrArg (fun x : ByteArray => x.data.toList) h
  simpa using this
/-- Where the search stands: what waits, what is seen, how often. -/
structure FP (D : FarD) (R : List Nm) (L : List Nm) (X : List (Nm × Int)) (C : Nat) : Prop where
  few : C + (L.length + wt D.suc X R) ≤ D.la.length + wt D.suc [] R
  inR : ∀ n ∈ L, n ∈ R
  seen : ∀ x ∈ X, x.1 ∈ R ∧ 1 ≤ x.2 ∧ x.2 ≤ C
  all : ∀ n ∈ D.A, n ∈ L ∨ (mget X n).isSome = true
  clo : ∀ n, (mget X n).isSome = true → ∀ m ∈ D.suc n, m ∈ L ∨ (mget X m).isSome = true
theorem FP.cnt {D : FarD} {R L : List Nm} {X : List (Nm × Int)} {C : Nat} (h : FP D R L X C) (n : Nm) : 0 ≤ (mget X n).getD 0 ∧ (mget X n).getD 0 ≤ C ∧ ((mget X n).isSome = true → 1 ≤ (mget X n).getD 0) := by
  cases e : mget X n with
  | none => exact ⟨Int.le_refl _, by simp, fun h => by cases h⟩
  | some c =>
    obtain ⟨_, h1, h2⟩ := h.seen _ (mget_some _ _ _ e)
    exact ⟨by simp at h1 ⊢; omega, by simpa using h2, fun _ => by simpa using h1⟩
theorem FP.next {D : FarD} {R L L0 L2 : List Nm} {X : List (Nm × Int)} {C : Nat} {nm : Nm} (h : FP D R L X C) (hR : R.Nodup) (hS : ∀ n ∈ R, ∀ m ∈ D.suc n, m ∈ R) (hL : L = L0 ++ [nm]) (h2 : ((mget X nm).isSome = true ∧ L2 = L0) ∨ (mget X nm = none ∧ L2 = L0 ++ D.suc nm)) :
    FP D R L2 (mput X nm ((mget X nm).getD 0 + 1)) (C + 1) ∧ L2.length + wt D.suc (mput X nm ((mget X nm).getD 0 + 1)) R < L.length + wt D.suc X R := by
  have hc := h.cnt nm
  have hnR : nm ∈ R := h.inR nm (by rw [hL]; simp)
  have hlen : L.length = L0.length + 1 := by rw [hL]; simp
  have hw : L2.length + wt D.suc (mput X nm ((mget X nm).getD 0 + 1)) R + 1 = L.length + wt D.suc X R := by
    rcases h2 with ⟨h1, rfl⟩ | ⟨h1, rfl⟩
    · rw [wt_old (.inl h1)]; omega
    · have := wt_new (s := D.suc) (c := (mget X nm).getD 0 + 1) hR hnR h1
      rw [List.length_append]; omega
  have sub : ∀ n, n ∈ L → n ∈ L2 ∨ (mget (mput X nm ((mget X nm).getD 0 + 1)) n).isSome = true := fun n hn => by
    rw [hL] at hn
    rcases List.mem_append.1 hn with hn | hn
    · left
      rcases h2 with ⟨_, rfl⟩ | ⟨_, rfl⟩
      · exact hn
      · exact List.mem_append.2 (.inl hn)
    · right
      rw [mget_put, if_pos (List.mem_singleton.1 hn)]; rfl
  have old : ∀ n, (mget X n).isSome = true → (mget (mput X nm ((mget X nm).getD 0 + 1)) n).isSome = true := fun n hn => by
    rw [mget_put]; split
    · rfl
    · exact hn
  have keep : ∀ n, n ∈ L ∨ (mget X n).isSome = true → n ∈ L2 ∨ (mget (mput X nm ((mget X nm).getD 0 + 1)) n).isSome = true := fun n hn => by
    rcases hn with hn | hn
    · exact sub n hn
    · exact .inr (old n hn)
  have hfew := h.few
  refine ⟨⟨by omega, fun n hn => ?_, fun x hx => ?_, fun n hn => keep n (h.all n hn), fun n hn m hm => ?_⟩, by omega⟩
  · rcases h2 with ⟨_, rfl⟩ | ⟨_, rfl⟩
    · exact h.inR n (by rw [hL]; exact List.mem_append.2 (.inl hn))
    · rcases List.mem_append.1 hn with hn | hn
      · exact h.inR n (by rw [hL]; exact List.mem_append.2 (.inl hn))
      · exact hS nm hnR n hn
  · rcases mput_mem _ _ _ x hx with rfl | hx
    · exact ⟨hnR, by simp only; omega, by simp only; omega⟩
    · obtain ⟨a, b, c⟩ := h.seen x hx
      exact ⟨a, b, by omega⟩
  · by_cases e : n = nm
    · subst e
      rcases h2 with ⟨h1, rfl⟩ | ⟨h1, rfl⟩
      · exact keep m (h.clo n h1 m hm)
      · exact .inl (List.mem_append.2 (.inr hm))
    · rw [mget_put, if_neg e] at hn
      exact keep m (h.clo n hn m hm)
theorem FP.done {D : FarD} {R : List Nm} {X : List (Nm × Int)} {C : Nat} (h : FP D R [] X C) (hmin : ∀ X : Nm → Prop, (∀ n ∈ D.A, X n) → (∀ n, X n → ∀ m ∈ D.suc n, X m) → ∀ n ∈ R, X n) (n : Nm) : ((mget X n).getD 0 = 0 ↔ n ∉ R) := by
  have hc := h.cnt n
  constructor
  · intro e hn
    have := hmin (fun n => (mget X n).isSome = true) (fun n hn => (h.all n hn).resolve_left (by simp)) (fun n hn m hm => (h.clo n hn m hm).resolve_left (by simp)) n hn
    have := hc.2.2 this
    omega
  · intro hn
    cases e : mget X n with
    | none => rfl
    | some c => exact absurd (h.seen _ (mget_some _ _ _ e)).1 hn
theorem take_flat {α β : Type} (f : α → List β) : ∀ (l : List α) (j : Nat), ((l.take j).flatMap f).length ≤ (l.flatMap f).length
  | [], j => by simp
  | x :: l, 0 => by simp
  | x :: l, j + 1 => by
    have := take_flat f l j
    simp only [List.take_succ_cons, List.flatMap_cons, List.length_append]
    omega
theorem take_next {α : Type} {l : List α} {j : Nat} {x : α} (h : l[j]? = some x) : l.take (j + 1) = l.take j ++ [x] := by
  rw [List.take_add_one, h]; rfl
end Go.Proofs.YtoafcnecjgnbmaaGreatDoor.E

