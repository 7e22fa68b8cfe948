/-
  A piece of code cut off, by the slots that are read behind it.
-/
import Derived.Test.YteihfeghbpklkaaDoorH19
namespace Go.Proofs.YteihfeghbpklkaaDoor.H
open Go.RowKit
theorem CL.cutS {M : Option (Option Nat)} {P : Program} {Q : Post} {f : Fr} {w : World} {cs : List Code} {c : Code} (l : List Nat) (I : List Value → World → Prop) (hc : cs ≠ [])
    (h : CL M P (thenK (fun f' w' => ∃ vals, looks f'.e l = some vals ∧ f'.n = f.n ∧ f'.ds = f.ds ∧ I vals w') Q) [c] f w) (hk : ∀ vals w, I vals w → CL M P Q cs ⟨f.n, f.ds, l.zip vals⟩ w) : CL M P Q (c :: cs) f w := by
  refine CL.cut _ h fun f' w' ⟨vals, h1, h2, h3, h4⟩ => ?_
  have := hk vals w' h4
  cases cs with
  | nil => exact absurd rfl hc
  | cons d ds =>
    intro a ha
    refine this a ?_
    have hw := ha.weaken (looks_zip f'.e l vals h1)
    rw [h2, h3] at hw
    exact hw

/-- In a region that draws its order: what was kept is kept on from here. -/
theorem rebase {P : Program} {ops : Array Oper} {Q : Post} {Z T : Nat → Prop} {n : Nat} {l : Array Bool} {f : Fr} {w0 w1 w2 : World} (h : Kept Z w0 w1) (hk : Kept T w1 w2) (ht : ∀ k, T k → Z k) (k : Kept Z w2 w2 → AW P ops Q (fun w' => Kept Z w2 w') n l f w2) :
    Kept Z w0 w2 ∧ AW P ops Q (fun w' => Kept Z w0 w') n l f w2 :=
  have h2 : Kept Z w0 w2 := h.trans hk fun k hk' => .inl (ht k hk')
  ⟨h2, AW.more (fun w hw => h2.trans hw fun k hk' => .inl hk') (k (Kept.refl Z w2))⟩
theorem rebase0 {P : Program} {ops : Array Oper} {Q : Post} {n : Nat} {l : Array Bool} {f : Fr} {w0 w1 w2 : World} (h : K0 w0 w1) (hk : K0 w1 w2) (k : K0 w2 w2 → AW P ops Q (fun w' => K0 w2 w') n l f w2) :
    K0 w0 w2 ∧ AW P ops Q (fun w' => K0 w0 w') n l f w2 := rebase h hk (fun _ c => c.elim) k
section
variable {P : Program} {ops : Array Oper} {Q : Post} {f : Fr} {w : World} {S : World → Prop}
theorem AW.one (i : Nat) {o : Oper} {n : Nat} {l : Array Bool} (hi : ops[i]? = some o) (k : RW none P ops (thenK (fun f w => S w ∧ AW P ops Q S n (l.setIfInBounds i true) f w) Q) [o] f w) {a : Act} (ha : Ag f a) : wpOp P ops (lift Q) i (fun a' w' => S w' ∧ wpAnyH P .any ops (lift Q) S n (l.setIfInBounds i true) a' w') a w := by
  have h : wpList P ops _ [o] a w := k a ha
  unfold wpList at h
  unfold wpOp
  simp only [hi]
  have hq : ∀ x a w, lift (thenK (fun f w => S w ∧ AW P ops Q S n (l.setIfInBounds i true) f w) Q) x a w → match x with
      | .normal => S w ∧ wpAnyH P .any ops (lift Q) S n (l.setIfInBounds i true) a w
      | x => lift Q x a w := by
    intro x a w ⟨g, hg, q⟩
    cases x with
    | normal => exact ⟨q.1, q.2 a hg⟩
    | _ => exact ⟨g, hg, q⟩
  by_cases hw : Region.wanted o (yielded ops a.tmps) = true
  · rw [if_pos hw] at h
    simp only [hw, if_true]
    rcases h with h | ⟨h1, a0, w0, h2⟩
    · left
      exact oper_mono (fun a w hk => hq .normal a w hk) (fun c a w hk => hq (.panic c) a w hk) (fun a w hk => hq .outgrown a w hk) h
    · exact .inr ⟨h1, a0, w0, hq .outgrown a0 w0 h2⟩
  · rw [if_neg hw] at h
    simp only [hw, if_false, Bool.false_eq_true]
    exact hq .normal _ _ h

/-- One of two may come next: both ways. -/
theorem AW.two (i j : Nat) {oi oj : Oper} {n : Nat} {l : Array Bool} (hi : ops[i]? = some oi) (hj : ops[j]? = some oj) (hr : Region.ready .any ops l = [i, j]) (ki : RW none P ops (thenK (fun f w => S w ∧ AW P ops Q S n (l.setIfInBounds i true) f w) Q) [oi] f w) (kj : RW none P ops (thenK (fun f w => S w ∧ AW P ops Q S n (l.setIfInBounds j true) f w) Q) [oj] f w) : AW P ops Q S (n + 1) l f w := by
  intro a ha
  refine wpAnyH_all hr (by simp) fun k hk => ?_
  rcases List.mem_cons.1 hk with rfl | hk
  · exact AW.one _ hi ki ha
  · rw [List.mem_singleton.1 hk]
    exact AW.one _ hj kj ha
end
end Go.Proofs.YteihfeghbpklkaaDoor.H
