/-
  Regions whose order is open: what yields one value in whatever world of a kind is taken first; calls come in their order.
-/
import Derived.Test.YteihfeghbpklkaaDoorH6
import Derived.OrdersHeld
namespace Go.Proofs.YteihfeghbpklkaaDoor.H
open Go.RowKit

/-- A post that does not look at the frame where there is a panic. -/
class PI (Q : Post) : Prop where out : ∀ c f g w, f.ds = g.ds → Q (.panic c) f w → Q (.panic c) g w
instance {P : Program} {fn : Func} {R : Ending → World → Prop} : PI (FQ P fn R) := ⟨fun _ _ _ _ hd h => ⟨hd ▸ h.1, h.2⟩⟩
instance {K : Fr → World → Prop} {Q : Post} [h : PI Q] : PI (thenK K Q) := ⟨fun c f g w hd hq => h.out c f g w hd hq⟩
instance {k : Nat} {K : Fr → World → Prop} {Q : Post} [h : PI Q] : PI (blockQ k K Q) := ⟨fun c f g w hd hq => h.out c f g w hd hq⟩

theorem PI.lift {Q : Post} [h : PI Q] (d : Option Tmp) (v : Value) : ∀ c a w, lift Q (.panic c) (a.put d v) w → lift Q (.panic c) a w := by
  intro c a w ⟨f, hf, hq⟩
  have hds : a.defers = f.ds := by
    have := hf.defers
    cases d <;> exact this
  refine ⟨⟨a.tmps.size, a.defers, []⟩, ⟨rfl, rfl, fun t v hv => by simp [look] at hv⟩, h.out c f _ w hds.symm hq⟩

section
variable {P : Program} {ops : Array Oper} {Q : Post} {f : Fr} {w : World} {S : World → Prop}

def AW (P : Program) (ops : Array Oper) (Q : Post) (S : World → Prop) (n : Nat) (l : Array Bool) (f : Fr) (w : World) : Prop := ∀ a, Ag f a → wpAnyH P .any ops (lift Q) S n l a w

theorem CL.draw {cs : List Code} {id : Nat} (S : World → Prop) (hm : P.follows .mixedOrders = true) (h : ∀ w', w'.heap = w.heap → K0 w w' → AW P ops (thenK (CL none P Q cs) Q) S ops.size (Array.replicate ops.size false) f w') : CL none P Q (.region id ops true :: cs) f w :=
  fun a ha => wp_region_held hm (h { w with drawn := w.drawn + 1 } rfl (Kept.drew w) a ha)

theorem AW.take (i : Nat) {op : Op} {ty : TypeId} {pos : String} {af : Array Edge} {d : Nat} {v : Value} {n : Nat} {l : Array Bool} (hi : ops[i]? = some { dst := some d, op := op, type := ty, pos := pos, after := af, guard := none }) (hs : Region.noSelect ops = true) (hf : Region.free .any ops l i = true) (hr : (Region.ready .any ops l).contains i = true)
    [PI Q] (hd : Nat.blt d f.n = true) (hS : S w) (hy : ∀ w, S w → Yd P f { dst := some d, op := op, type := ty, pos := pos, after := af, guard := none } v w) (k : AW P ops Q S n (l.setIfInBounds i true) (f.put d v) w) : AW P ops Q S (n + 1) l f w := by
  intro a ha
  exact wpAnyH_take hi hs hf hr (PI.lift _ _) (.inl ⟨by simp [Region.wanted], fun w' hw' => hy w' hw' a ha⟩) hS (k _ (ha.put v hd))

theorem AW.takeOn (i : Nat) {op : Op} {ty : TypeId} {pos : String} {af : Array Edge} {d j t : Nat} {b : Bool} {v : Value} {n : Nat} {l : Array Bool} (hi : ops[i]? = some { dst := some d, op := op, type := ty, pos := pos, after := af, guard := some (j, b) }) (hs : Region.noSelect ops = true) (hf : Region.free .any ops l i = true) (hr : (Region.ready .any ops l).contains i = true)
    [PI Q] (hj : (ops[j]?).bind (·.dst) = some t) (hn : Nat.blt t f.n = true) (hv : look f.e t = some (.bool b)) (hd : Nat.blt d f.n = true) (hS : S w) (hy : ∀ w, S w → Yd P f { dst := some d, op := op, type := ty, pos := pos, after := af, guard := none } v w) (k : AW P ops Q S n (l.setIfInBounds i true) (f.put d v) w) : AW P ops Q S (n + 1) l f w := by
  intro a ha
  exact wpAnyH_take hi hs hf hr (PI.lift _ _) (.inl ⟨by simp [Region.wanted, yields ha hj hn hv], fun w' hw' => hy w' hw' a ha⟩) hS (k _ (ha.put v hd))

theorem AW.takeOff (i : Nat) {op : Op} {ty : TypeId} {pos : String} {af : Array Edge} {d j t : Nat} {b c : Bool} {n : Nat} {l : Array Bool} (hi : ops[i]? = some { dst := some d, op := op, type := ty, pos := pos, after := af, guard := some (j, b) }) (hs : Region.noSelect ops = true) (hf : Region.free .any ops l i = true) (hr : (Region.ready .any ops l).contains i = true)
    [PI Q] (hj : (ops[j]?).bind (·.dst) = some t) (hn : Nat.blt t f.n = true) (hv : look f.e t = some (.bool c)) (hbc : (!c) = b) (hd : Nat.blt d f.n = true) (hS : S w) (k : AW P ops Q S n (l.setIfInBounds i true) (f.put d undef) w) : AW P ops Q S (n + 1) l f w := by
  intro a ha
  subst hbc
  exact wpAnyH_take hi hs hf hr (PI.lift _ _) (.inr ⟨by cases c <;> simp [Region.wanted, yields ha hj hn hv], rfl⟩) hS (k _ (ha.put undef hd))

theorem AW.done {n : Nat} {l : Array Bool} (hr : Region.ready .any ops l = []) (h : Q .normal f w) : AW P ops Q S n l f w :=
  fun _ ha => wpAnyH_done hr ⟨f, ha, h⟩ _
theorem AW.donew {cs : List Code} {n : Nat} {l : Array Bool} (g : List Nat) (hr : Region.ready .any ops l = []) (h : CL none P Q cs ⟨f.n, f.ds, keep g f.e⟩ w) : AW P ops (thenK (CL none P Q cs) Q) S n l f w :=
  fun _ ha => wpAnyH_done hr ⟨_, ha.weaken (look_keep g f.e), h⟩ _

theorem held_mono {S S' : World → Prop} (h : ∀ w, S' w → S w) {md : Region.Mode} {Q : Exit → Act → World → Prop} : ∀ (n : Nat) (l : Array Bool) (a : Act) (w : World), wpAnyH P md ops Q S' n l a w → wpAnyH P md ops Q S n l a w
  | 0, _, _, _, hh => hh
  | n + 1, _, _, _, hh => ⟨hh.1, fun i hi => wpOp_mono (fun a' w' hk => ⟨h w' hk.1, held_mono h n _ a' w' hk.2⟩) (hh.2 i hi)⟩
theorem AW.more {S' : World → Prop} (h : ∀ w, S' w → S w) {n : Nat} {l : Array Bool} (k : AW P ops Q S' n l f w) : AW P ops Q S n l f w :=
  fun a ha => held_mono h n l a w (k a ha)

theorem oper_mono {o : Oper} {a : Act} {K K' : Act → World → Prop} {Q Q' : Exit → Act → World → Prop} (h : ∀ a w, K a w → K' a w) (hq : ∀ c a w, Q (.panic c) a w → Q' (.panic c) a w) (ho : ∀ a w, Q .outgrown a w → Q' .outgrown a w) {w : World} (hh : o.wp P a w K Q) : o.wp P a w K' Q' := by
  unfold Oper.wp at *
  generalize (execOp a.eval o).run P w = r at *
  match r, hh with
  | .ok (.value v) w', hh => exact h _ _ hh
  | .ok .skip w', hh => exact h _ _ hh
  | .ok (.defer d) w', hh => exact h _ _ hh
  | .ok (.enter f args) w', hh =>
    refine Calls.mono hh fun e w'' he => ?_
    cases e with
    | returned v => exact h _ _ he
    | panicked c => exact hq _ _ _ he
    | outgrown => obtain ⟨a0, w0, h0⟩ := he; exact ⟨a0, w0, ho _ _ h0⟩
  | .ok (.row row args) w', hh => exact Rows.mono hh fun v w'' he => h _ _ he
  | .halt (.panic v) w', hh => exact hq _ _ _ hh

/-- The one that may come next is done, by the rules of a region in its order. -/
theorem AW.next (i : Nat) {o : Oper} {n : Nat} {l : Array Bool} (hi : ops[i]? = some o) (hr : Region.ready .any ops l = [i]) (k : RW none P ops (thenK (fun f w => S w ∧ AW P ops Q S n (l.setIfInBounds i true) f w) Q) [o] f w) : AW P ops Q S (n + 1) l f w := by
  intro a ha
  refine wpAnyH_all hr (by simp) fun j hj => ?_
  rw [List.mem_singleton.1 hj]
  have h : wpList P ops _ [o] a w := k a ha
  unfold wpList at h
  unfold wpOp
  simp only [hi]
  have hq : ∀ x a w, lift (thenK (fun f w => S w ∧ AW P ops Q S n (l.setIfInBounds i true) f w) Q) x a w → match x with
      | .normal => S w ∧ wpAnyH P .any ops (lift Q) S n (l.setIfInBounds i true) a w
      | x => lift Q x a w := by
    intro x a w ⟨g, hg, q⟩
    cases x with
    | normal => exact ⟨q.1, q.2 a hg⟩
    | _ => exact ⟨g, hg, q⟩
  by_cases hw : Region.wanted o (yielded ops a.tmps) = true
  · rw [if_pos hw] at h
    simp only [hw, if_true]
    rcases h with h | ⟨h1, a0, w0, h2⟩
    · left
      exact oper_mono (fun a w hk => hq .normal a w hk) (fun c a w hk => hq (.panic c) a w hk) (fun a w hk => hq .outgrown a w hk) h
    · exact .inr ⟨h1, a0, w0, hq .outgrown a0 w0 h2⟩
  · rw [if_neg hw] at h
    simp only [hw, if_false, Bool.false_eq_true]
    exact hq .normal _ _ h
end
end Go.Proofs.YteihfeghbpklkaaDoor.H
