/-
  A piece of code cut off, by the slots that are read behind it. A new variable of several cells, and what is laid into it. Regions that draw their order: an operation whose guard was itself passed over; cells of an element. A range over a function whose iterator reads what the loop's body leaves as it is (T). The end of a body that holds a range over a function, whatever the results' form. Functions that range over a function which splits a text. Functions whose body ranges over the parts of a text, once. Functions that are told by themselves: places of bytes in texts, how often a byte stands there. Functions of the package strings over texts: HasPrefix, LastIndexByte, Index and Count at one byte. Places of bytes in texts, how often a byte stands there: what the functions of the library yield. Contracts of the shelf of the kit at this translation, in plain words. Written by a program of the kit. strings.Join, by the shelf's contract. Rows that are read as slices that can be read; strings.Join. Functions that are told by themselves and change memory; (*strings.Builder).copyCheck. strings.LastIndexByte and strings.Split at one byte. A text parted at a byte: plain. strings.Split at one byte. strings.SplitSeq at one byte. strings.SplitSeq at one byte, as an evaluator sees it. strings.SplitSeq at two bars, its loop's body leaving the library's variable as it is. strings.SplitSeq at two bars, as an evaluator sees it. Contracts of the shelf of the kit on sorted keys at this translation, in plain words. Written by a program of the kit.
-/
import Derived.Test.YtoafcnecjgnbmaaGreatDoorVe
import Derived.Shelf.Strings.OnBuilder
import Derived.Shelf.Strings.Search3
import Derived.Shelf.Strings.Shaped
import Derived.Ground.SlsfProg
import Derived.Test.YtoafcnecjgnbmaaGreatDoorProg
import Derived.Lib.Bytealg
import Derived.Lib.Index
import Derived.Lib.IndexMore
import Derived.Shelf.SlIter.Nil
import Derived.Shelf.SlIterI.Nil
import Derived.Shelf.SortM.Plain
import Derived.Shelf.SortM.SortNone
import Derived.Ground.GgzProg
import Derived.Ground.SlgmProg
set_option linter.unusedVariables false
set_option linter.unusedSimpArgs false
namespace Go.Proofs.YtoafcnecjgnbmaaGreatDoor.H
open Go.RowKit
theorem CL.cutS {M : Option (Option Nat)} {P : Program} {Q : Post} {f : Fr} {w : World} {cs : List Code} {c : Code} (l : List Nat) (I : List Value → World → Prop) (hc : cs ≠ [])
    (h : CL M P (thenK (fun f' w' => ∃ vals, looks f'.e l = some vals ∧ f'.n = f.n ∧ f'.ds = f.ds ∧ I vals w') Q) [c] f w) (hk : ∀ vals w, I vals w → CL M P Q cs ⟨f.n, f.ds, l.zip vals⟩ w) : CL M P Q (c :: cs) f w := by
  refine CL.cut _ h fun f' w' ⟨vals, h1, h2, h3, h4⟩ => ?_
  have := hk vals w' h4
  cases cs with
  | nil => exact absurd rfl hc
  | cons d ds =>
    intro a ha
    refine this a ?_
    have hw := ha.weaken (looks_zip f'.e l vals h1)
    rw [h2, h3] at hw
    exact hw

section
variable {P : Program} {ops : Array Oper} {Q : Post} {f : Fr} {w : World} {S : World → Prop}
theorem AW.one (i : Nat) {o : Oper} {n : Nat} {l : Array Bool} (hi : ops[i]? = some o) (k : RW none P ops (thenK (fun f w => S w ∧ AW P ops Q S n (l.setIfInBounds i true) f w) Q) [o] f w) {a : Act} (ha : Ag f a) : wpOp P ops (lift Q) i (fun a' w' => S w' ∧ wpAnyH P .any ops (lift Q) S n (l.setIfInBounds i true) a' w') a w := by
  have h : wpList P ops _ [o] a w := k a ha
  unfold wpList at h
  unfold wpOp
  simp only [hi]
  have hq : ∀ x a w, lift (thenK (fun f w => S w ∧ AW P ops Q S n (l.setIfInBounds i true) f w) Q) x a w → match x with
      | .normal => S w ∧ wpAnyH P .any ops (lift Q) S n (l.setIfInBounds i true) a w
      | x => lift Q x a w := by
    intro x a w ⟨g, hg, q⟩
    cases x with
    | normal => exact ⟨q.1, q.2 a hg⟩
    | _ => exact ⟨g, hg, q⟩
  by_cases hw : Region.wanted o (yielded ops a.tmps) = true
  · rw [if_pos hw] at h
    simp only [hw, if_true]
    rcases h with h | ⟨h1, a0, w0, h2⟩
    · left
      exact oper_mono (fun a w hk => hq .normal a w hk) (fun c a w hk => hq (.panic c) a w hk) (fun a w hk => hq .outgrown a w hk) h
    · exact .inr ⟨h1, a0, w0, hq .outgrown a0 w0 h2⟩
  · rw [if_neg hw] at h
    simp only [hw, if_false, Bool.false_eq_true]
    exact hq .normal _ _ h

/-- One of two may come next: both ways. -/
theorem AW.two (i j : Nat) {oi oj : Oper} {n : Nat} {l : Array Bool} (hi : ops[i]? = some oi) (hj : ops[j]? = some oj) (hr : Region.ready .any ops l = [i, j]) (ki : RW none P ops (thenK (fun f w => S w ∧ AW P ops Q S n (l.setIfInBounds i true) f w) Q) [oi] f w) (kj : RW none P ops (thenK (fun f w => S w ∧ AW P ops Q S n (l.setIfInBounds j true) f w) Q) [oj] f w) : AW P ops Q S (n + 1) l f w := by
  intro a ha
  refine wpAnyH_all hr (by simp) fun k hk => ?_
  rcases List.mem_cons.1 hk with rfl | hk
  · exact AW.one _ hi ki ha
  · rw [List.mem_singleton.1 hk]
    exact AW.one _ hj kj ha
end
end Go.Proofs.YtoafcnecjgnbmaaGreatDoor.H

namespace Go.Proofs.YtoafcnecjgnbmaaGreatDoor.H
open Go.RowKit
section
variable {M : Option (Option Nat)} {P : Program} {ops : Array Oper} {Q : Post} {rest : List Oper} {f : Fr} {w : World} {d : Nat} {ty : TypeId} {pos : String} {af : Array Edge}
theorem RW.varN {t ty2 : TypeId} {pos2 : String} {af2 : Array Edge} {z : Value} {sz b : Nat} [Inf P t z sz b] [Many P t sz] {y : Operand} {u : Array Value} (hy : (f.put d (.pointer (some ⟨w.heap.size, 0, none⟩))).ev y = some (.agg u)) (hu : Nat.beq u.size sz = true) (hz : Nat.beq z.cells.size sz = true) (h1 : ∀ z ∈ u.toList, z.oneCell' = true) (hd : Nat.blt d f.n = true)
    (k : ∀ w', w'.heap[w.heap.size]? = some (.cells u t (0, 0)) → K0 w w' → w.heap.size < w'.heap.size → RW M P ops Q rest (f.put d (.pointer (some ⟨w.heap.size, 0, none⟩))) w') :
    RW M P ops Q (op1 d (.alloc t) ty pos af :: op0 (.store t (.tmp d) y) ty2 pos2 af2 :: rest) f w := by
  refine RW.alloc hd fun w1 hb1 hk1 hlt1 => ?_
  refine RW.storeBlock (g := w.heap.size) ?_ hy hu h1 hb1 hz fun w2 hb2 hk2 => ?_
  · simp [Fr.ev, Fr.put, look]
  · exact k w2 hb2 (hk1.trans hk2 fun k h => .inr (by have h' : k = w.heap.size := h; omega)) (Nat.lt_of_lt_of_le hlt1 hk2.size)
end
end Go.Proofs.YtoafcnecjgnbmaaGreatDoor.H

namespace Go.Proofs.YtoafcnecjgnbmaaGreatDoor.H
open Go.RowKit
section
variable {P : Program} {ops : Array Oper} {Q : Post} {f : Fr} {w : World} {S : World → Prop}
end
end Go.Proofs.YtoafcnecjgnbmaaGreatDoor.H

namespace Go.Proofs.YtoafcnecjgnbmaaGreatDoor.H
open Go.RowKit

/-- What an iterator that yields the list xs does; T: what it reads besides, and what must hold behind each round. -/
def SeqT {α : Type} (P : Program) (gf : Nat) (cap : List Value) (enc : α → List Value) (S : Nat → Prop) (T : World → Prop) (Pre : World → Prop) (xs : List α) : Prop :=
  ∀ (l : Nat) (J Jx : List α → World → Prop) (W : World), Pre W → Abid S J → Abid S Jx → (∀ pre W, J pre W → T W) →
    (∀ pre x W1, J pre W1 → (pre ++ [x]) <+: xs → YieldAt Fence.wide 0 P l (enc x).toArray W1 fun e W' =>
      (e = .returned (.bool true) ∧ J (pre ++ [x]) W' ∧ Same S W1 W') ∨ (e = .returned (.bool false) ∧ Jx (pre ++ [x]) W')) →
    J [] W → Calls P gf (.func (.yield l) #[] #[] :: cap).toArray W fun e W' => (∃ v, e = .returned v) ∧ (J xs W' ∨ ∃ pre, Jx pre W')
section
variable {P : Program} {Q : Post} {cs : List Code} {f : Fr} {w : World}
theorem CL.rangeFuncT {α : Type} {g : Operand} {ps : List Nat} {assign body : Code} {gf : Nat} {cap : List Value} {enc : α → List Value} {S : Nat → Prop} {T : World → Prop} {Pre : World → Prop} {xs : List α} [he : Ent P gf]
    (hg : f.ev g = some (.func (.func gf) #[] cap.toArray)) (hseq : SeqT P gf cap enc S T Pre xs) (hpre : ∀ W, K0 w W → Pre W) (hps : ∀ x, (enc x).length = ps.length) (hpn : ∀ p ∈ ps, Nat.blt p f.n = true)
    (hS : ∀ k, S k → k < w.heap.size) (I : List α → World → Prop) (Ix : Option Nat → List α → World → Prop)
    (hI : Abid (fun k => S k ∨ k = w.heap.size ∨ k = w.heap.size + 1) I) (hIx : ∀ c, Abid (fun k => S k ∨ k = w.heap.size ∨ k = w.heap.size + 1) (Ix c)) (h0 : I [] w) (hT : ∀ pre W, I pre W → T W)
    (hround : ∀ l pre x W, I pre W → (pre ++ [x]) <+: xs → w.heap.size + 2 ≤ W.heap.size →
      CL (some (some l)) P (thenK (fun f1 W1 => W1 = W ∧ ∀ W2, I pre W2 → w.heap.size + 2 ≤ W2.heap.size → CL (some (some l)) P (RQ (fun k => S k ∨ k = w.heap.size ∨ k = w.heap.size + 1) I Ix (pre ++ [x]) W2) [body] f1 W2) (fun _ _ _ => False)) [assign] (Fr.puts ⟨f.n, [], f.e⟩ ps (enc x)) W)
    (hdone : ∀ W, I xs W → W.heap[w.heap.size]? = some (.deferred (some [])) → CL none P Q cs ⟨f.n, markOf w.heap.size :: f.ds, f.e⟩ W)
    (hstop : ∀ c pre W, Ix c pre W → W.heap[w.heap.size]? = some (.deferred (some [])) → match c with
      | none => Q .ret ⟨f.n, markOf w.heap.size :: f.ds, f.e⟩ W
      | some k => Q (.exit k) ⟨f.n, markOf w.heap.size :: f.ds, f.e⟩ W) :
    CL none P Q (.rangeFunc g ps.toArray assign body :: cs) f w := by
  intro a ha
  show Code.wp P _ _ a w
  refine (wpIn_wide (n := 0)).1 (wpIn_rangeFunc fun fn _ => ?_)
  have ha0 : Ag ⟨f.n, [], f.e⟩ { tmps := a.tmps, defers := [] } := ⟨ha.size, rfl, ha.slot⟩
  have ham : Ag ⟨f.n, markOf w.heap.size :: f.ds, f.e⟩ { a with defers := [markOf w.heap.size] ++ a.defers } := ⟨ha.size, by simp [ha.defers], ha.slot⟩
  have hga := ha.eval hg
  obtain ⟨rec, hrec⟩ : ∃ rec : LoopState → Option Code → Loop, rec = fun st pe => { state := st, pending := pe, fn, tmps := a.tmps, params := ps.toArray, assign, body, defers := w.heap.size } := ⟨_, rfl⟩
  obtain ⟨W1, hW1⟩ : ∃ W1, (w.alloc (.deferred (some []))).alloc (.loop (rec .ready none)) = W1 := ⟨_, rfl⟩
  have hL1 : W1.heap[w.heap.size + 1]? = some (.loop (rec .ready none)) := by
    rw [← hW1]; have := World.alloc_heap_new (w.alloc (.deferred (some []))) (.loop (rec .ready none)); rwa [World.size_alloc] at this
  have hK1 : W1.heap[w.heap.size]? = some (.deferred (some [])) := by
    rw [← hW1]; exact (Below.heap_alloc _ _ _ (by simp)).trans (World.alloc_heap_new w _)
  have hk1 : K0 w W1 := by rw [← hW1]; exact (Kept.alloc w _).trans0 (Kept.alloc _ _)
  have hI1 : I [] W1 := hI _ _ _ h0 hk1.of0
  refine ⟨w.heap.size + 1, [markOf w.heap.size], W1, { target := .fn (.func gf) cap.toArray, args := #[.func (.yield (w.heap.size + 1)) #[] #[]] }, W1, gf,
    #[.func (.yield (w.heap.size + 1)) #[] #[]] ++ cap.toArray, W1, ?_, ?_, ?_, ?_, ?_, ?_⟩
  · rw [← hW1, hrec]; exact run_enterLoop_outer _ _ _ _ _
  · simp only [resolve, hga]
    simp [go_sem]
  · intro _ _; trivial
  · simp [invoke, go_sem, he.out]
  · intro c; simp [Fence.wide] at c
  refine callsIn_wide.2 ?_
  have hargs : #[.func (.yield (w.heap.size + 1)) #[] #[]] ++ cap.toArray = (Value.func (.yield (w.heap.size + 1)) #[] #[] :: cap).toArray := by simp
  rw [hargs]
  have hput : ∀ {k : Nat}, k = w.heap.size + 1 → S k ∨ k = w.heap.size ∨ k = w.heap.size + 1 := fun h => .inr (.inr h)
  refine Calls.mono (hseq (w.heap.size + 1)
    (fun pre W => I pre W ∧ W.heap[w.heap.size + 1]? = some (.loop (rec .ready none)) ∧ W.heap[w.heap.size]? = some (.deferred (some [])))
    (fun pre W => ∃ c, Ix c pre W ∧ W.heap[w.heap.size + 1]? = some (.loop (rec .done (some (jumpOf c)))) ∧ W.heap[w.heap.size]? = some (.deferred (some [])))
    W1 (hpre _ hk1) ?_ ?_ (fun pre W h => hT pre W h.1) ?_ ⟨hI1, hL1, hK1⟩) ?_
  · rintro s A B ⟨h1, h2, h3⟩ hk
    exact ⟨hI _ _ _ h1 (hk.mono fun k h => .inl h), hk.at h2 (fun c => by have := hS _ c; omega), hk.at h3 (fun c => by have := hS _ c; omega)⟩
  · rintro s A B ⟨c, h1, h2, h3⟩ hk
    exact ⟨c, hIx _ _ _ _ h1 (hk.mono fun k h => .inl h), hk.at h2 (fun c => by have := hS _ c; omega), hk.at h3 (fun c => by have := hS _ c; omega)⟩
  · -- one round
    rintro pre x W ⟨hi, hl, hk⟩ hpf
    have hlt : w.heap.size + 1 < W.heap.size := (Array.getElem?_eq_some_iff.1 hl).1
    have hy := run_yield (P := P) (args := (enc x).toArray) hl (by rw [hrec]; simp [hps x])
    rw [hrec] at hy
    refine ⟨fn, _, assign, body, hy, roundIn_of_wpIn trivial ?_⟩
    have hag := Ag.puts ps (enc x) ha0 hpn
    have hw := CL.one (hround (w.heap.size + 1) pre x W hi hpf hlt) _ hag
    have hin : Rd1 (some (w.heap.size + 1)) = Fence.wide.inRound (w.heap.size + 1) := rfl
    have htm : (ps.toArray.zip (enc x).toArray).foldl (fun tmps (x : Tmp × Value) => match x with | (t, a) => tmps.setIfInBounds t a) a.tmps = (ps.zip (enc x)).foldl (fun t (x : Nat × Value) => t.setIfInBounds x.1 x.2) a.tmps := by
      rw [List.zip_toArray, List.foldl_toArray]
    rw [htm]
    refine wpIn_mono (show Code.wpIn (Fence.wide.inRound (w.heap.size + 1)) 0 P assign _ _ W from hw) ?_
    rintro e a1 W' ⟨f1, hf1, q⟩
    cases e with
    | normal =>
      obtain ⟨rfl, q⟩ := q
      refine ⟨_, run_beginRound hl (by rw [hrec]), ?_⟩
      obtain ⟨W2, hW2⟩ : ∃ W2, W'.putObj (w.heap.size + 1) (.loop { rec .ready none with state := .busy }) = W2 := ⟨_, rfl⟩
      have hl2 : W2.heap[w.heap.size + 1]? = some (.loop { rec .ready none with state := .busy }) := by rw [← hW2]; exact World.putObj_heap_same hlt
      have hk2 : W2.heap[w.heap.size]? = some (.deferred (some [])) := by rw [← hW2]; exact (World.putObj_heap_other (by omega)).trans hk
      have hkp2 : Kept (fun k => k = w.heap.size + 1) W' W2 := by rw [← hW2]; exact kept_putObj _ _ _
      have hi2 := hI _ _ _ hi (hkp2.mono fun k h => hput h)
      rw [hW2]
      have hb := CL.one (q W2 hi2 (by have := hkp2.size; omega)) a1 hf1
      refine wpIn_mono (show Code.wpIn (Fence.wide.inRound (w.heap.size + 1)) 0 P body _ _ W2 from hb) ?_
      have fin : ∀ (jump : Option Code) (W3 : World), Same (fun k => S k ∨ k = w.heap.size ∨ k = w.heap.size + 1) W2 W3 →
          ∃ W4, (Instr.endRound (w.heap.size + 1) jump).run P W3 = .ok (.bool jump.isNone) W4 ∧ Kept (fun k => k = w.heap.size + 1) W3 W4 ∧
          W4.heap[w.heap.size + 1]? = some (.loop (rec (if jump.isNone then .ready else .done) jump)) ∧ W4.heap[w.heap.size]? = some (.deferred (some [])) ∧ Same S W' W4 := fun jump W3 hs3 => by
        have hl3 := (hs3.2 _ (.inr (.inr rfl))).trans hl2
        have hk3 := (hs3.2 _ (.inr (.inl rfl))).trans hk2
        have := run_endRound (P := P) jump hl3
        rw [hrec] at this ⊢
        refine ⟨_, this, kept_putObj _ _ _, World.putObj_heap_same (Array.getElem?_eq_some_iff.1 hl3).1, (World.putObj_heap_other (by omega)).trans hk3, ?_⟩
        have hne : ∀ k, S k → k ≠ w.heap.size + 1 := fun k hk => by have := hS k hk; omega
        refine ⟨by have h1 := hkp2.size; have h2 := hs3.1; simp; omega, fun k hk => ?_⟩
        rw [World.putObj_heap_other (hne k hk), hs3.2 k (.inl hk), ← hW2, World.putObj_heap_other (hne k hk)]
      rintro e a3 W3 ⟨f3, hf3, hp⟩
      cases e with
      | normal =>
        obtain ⟨hs3, hi3⟩ := hp
        obtain ⟨W4, hr, hk4, hl4, hd4, hs4⟩ := fin none W3 hs3
        exact ⟨_, _, hr, .inl ⟨rfl, ⟨hI _ _ _ hi3 (hk4.mono fun k h => hput h), hl4, hd4⟩, hs4⟩⟩
      | ret =>
        obtain ⟨hs3, hi3⟩ := hp
        obtain ⟨W4, hr, hk4, hl4, hd4, hs4⟩ := fin (some .ret) W3 hs3
        exact ⟨_, _, hr, .inr ⟨rfl, none, hIx _ _ _ _ hi3 (hk4.mono fun k h => hput h), hl4, hd4⟩⟩
      | exit k =>
        obtain ⟨hs3, hi3⟩ := hp
        obtain ⟨W4, hr, hk4, hl4, hd4, hs4⟩ := fin (some (.exit k)) W3 hs3
        exact ⟨_, _, hr, .inr ⟨rfl, some k, hIx _ _ _ _ hi3 (hk4.mono fun k h => hput h), hl4, hd4⟩⟩
      | goto t => exact hp.elim
      | panic ch => exact hp.elim
      | outgrown => exact hp.elim
    | _ => exact q.elim
  · -- behind the iterator
    rintro e W2 ⟨⟨v, rfl⟩, (⟨hi, hl, hk⟩ | ⟨pre, c, hi, hl, hk⟩)⟩
    · have hend := run_endLoop (P := P) hl (by rw [hrec]; simp)
      rw [hrec] at hend
      exact ⟨none, _, hend, ⟨_, ham, hdone _ (hI _ _ _ hi ((kept_putObj _ _ _).mono fun k h => hput h)) ((World.putObj_heap_other (by omega)).trans hk)⟩⟩
    · have hend : (Instr.endLoop (w.heap.size + 1)).run P W2 = .ok (some (jumpOf c)) (W2.putObj (w.heap.size + 1) (.loop { rec .done (some (jumpOf c)) with state := .exhausted })) := by
        have := run_endLoop (P := P) hl (by rw [hrec]; simp)
        rw [this, hrec]
      have hIx4 := hIx c _ _ _ hi ((kept_putObj W2 (w.heap.size + 1) (.loop { rec .done (some (jumpOf c)) with state := .exhausted })).mono fun k h => hput h)
      have hd4 : (W2.putObj (w.heap.size + 1) (.loop { rec .done (some (jumpOf c)) with state := .exhausted })).heap[w.heap.size]? = some (.deferred (some [])) := (World.putObj_heap_other (by omega)).trans hk
      have hs := hstop c pre _ hIx4 hd4
      refine ⟨some (jumpOf c), _, hend, ?_⟩
      cases c with
      | none => exact wpIn_ret ⟨_, ham, hs⟩
      | some k => exact wpIn_exit ⟨_, ham, hs⟩

end
end Go.Proofs.YtoafcnecjgnbmaaGreatDoor.H

namespace Go.Proofs.YtoafcnecjgnbmaaGreatDoor.H
open Go.RowKit
section
variable {P : Program} {f : Fr} {w : World}
end
end Go.Proofs.YtoafcnecjgnbmaaGreatDoor.H

set_option linter.constructorNameAsVariable false
set_option linter.unusedVariables false
namespace Go.Proofs.YtoafcnecjgnbmaaGreatDoor.E
open Go Go.RowKit H
section
variable {P : Program} {fl n : Nat}
section
variable {S : Nat → Prop} {w0 : World} {r r' : Ren} {h h' : Hp} {w w' : World}
/-- Blocks that have no name may change. -/
theorem Rel.other {T : Nat → Prop} (H : Rel S w0 fl r h w) (k : Kept T w w') (hT : ∀ i p, r i = some p → ¬ T p.1) (h0 : ∀ x, T x → S x ∨ w0.heap.size ≤ x) : Rel S w0 fl r h w' :=
  ⟨fun i b hi hb => by
      obtain ⟨p, hp, hB⟩ := H.live i b hi hb
      exact ⟨p, hp, hB.of (k.block _ (H.dom i p hp) (hT i p hp))⟩,
    H.inj, H.fresh, H.lim, H.glob, H.may, fun i p hp => Nat.lt_of_lt_of_le (H.dom i p hp) k.size, H.kept.trans k h0, H.base, H.hol, H.full, H.top⟩
/-- Names that are new name no old block that had none. -/
theorem Rel.none_of {T : Nat → Prop} (H : Rel S w0 fl r h w) (H' : Rel (Wr fl r) w fl r' h' w') (hx : Ext r r') (hN : ∀ i p, r i = some p → ¬ T p.1) (hT : ∀ x, T x → x < w.heap.size) : ∀ i p, r' i = some p → ¬ T p.1 := fun i p hp c => by
  rcases Nat.lt_or_ge i h.next with q | q
  · rcases H.full i q with z | ⟨p0, hp0⟩
    · have := (H'.hol i (hx.h i z)).1
      rw [this] at hp; cases hp
    · have := hx.v i p0 hp0
      rw [hp] at this; cases this
      exact hN i p hp0 c
  · rcases H'.may i p (Nat.le_trans H.base.1 q) hp with ⟨j, z, _, hz, e⟩ | z
    · exact hN j z hz (e ▸ c)
    · have := hT _ c
      omega
end
/-- A code that puts slots into slots. -/
noncomputable def asgT (o : Oper) : Option (Tmp × Tmp) := match o.op, o.guard, o.dst with
  | .assign (.tmp t), none, some d => some (d, t)
  | _, _, _ => none
theorem asgT_ok {o : Oper} {d t : Tmp} (h : asgT o = some (d, t)) : o.op = .assign (.tmp t) ∧ o.guard = none ∧ o.dst = some d := by
  unfold asgT at h
  split at h
  · cases h; exact ⟨by assumption, by assumption, by assumption⟩
  · cases h
noncomputable def asgsK (n : Nat) (l : List Oper) : Tr AV → (Tr AV → Bool) → Bool := List.rec (motive := fun _ => Tr AV → (Tr AV → Bool) → Bool) (fun env k => k env)
  (fun o _ ih env k => someK (asgT o) fun q => ask (Nat.blt q.2 4096) (getV q.2 env fun v => setE n (some q.1) v env fun env => ih env k)) l
/-- What such a code makes of a frame. -/
noncomputable def asgsF : List Oper → Fr → Fr
  | [], f => f
  | o :: l, f => asgsF l (match asgT o with
    | some q => f.put q.1 ((H.look f.e q.2).getD undef)
    | none => f)
noncomputable def asgF (c : Code) (f : Fr) : Fr := match c with
  | .region _ ops false => asgsF ops.toList f
  | _ => f
theorem asgsF_n : ∀ (l : List Oper) (f : Fr), (asgsF l f).n = f.n ∧ (asgsF l f).ds = f.ds
  | [], f => ⟨rfl, rfl⟩
  | o :: l, f => by
    rw [asgsF]
    obtain ⟨h1, h2⟩ := asgsF_n l (match asgT o with
      | some q => f.put q.1 ((H.look f.e q.2).getD undef)
      | none => f)
    rw [h1, h2]
    cases asgT o <;> exact ⟨rfl, rfl⟩
theorem asgF_n (c : Code) (f : Fr) : (asgF c f).n = f.n ∧ (asgF c f).ds = f.ds := by
  unfold asgF
  split
  · exact asgsF_n _ f
  · exact ⟨rfl, rfl⟩
/-- What slots hold, in another frame. -/
structure AsgR (P : Program) (n : Nat) (c : Code) (env env' : Tr AV) : Prop where
  run : ∀ (M : Option (Option Nat)) Q W (f : Fr), f.n = n → (∃ r, FrOk r env f) → Q .normal (asgF c f) W → CL M P Q [c] f W
  ok : ∀ r (f : Fr), FrOk r env f → FrOk r env' (asgF c f)
theorem asgsK_ok {ops : Array Oper} : ∀ {l : List Oper} {env : Tr AV} {k : Tr AV → Bool}, asgsK n l env k = true → ∃ env', k env' = true ∧ (∀ (M : Option (Option Nat)) Q W (f : Fr), f.n = n → (∃ r, FrOk r env f) → Q .normal (asgsF l f) W → RW M P ops Q l f W) ∧ ∀ r (f : Fr), FrOk r env f → FrOk r env' (asgsF l f)
  | [], env, k, hk => ⟨env, hk, fun M Q W f hn _ hQ => RW.nil hQ, fun r f h => h⟩
  | o :: l, env, k, hk => by
    obtain ⟨⟨d, t⟩, ho, hk⟩ := someK_ok hk
    obtain ⟨h1, h2, h3⟩ := asgT_ok ho
    obtain ⟨ht, hk⟩ := ask_ok hk
    have ht : t < LIM := Nat.lt_of_lt_of_le (blt_lt ht) (by decide)
    obtain ⟨v, hv, hk⟩ := getV_ok hk
    obtain ⟨env1, hk, hd, hs⟩ := setE_ok hk
    obtain ⟨env', hk, hE, hO⟩ := asgsK_ok (ops := ops) hk
    have one : ∀ r (f : Fr), FrOk r env f → FrOk r env1 (f.put d ((H.look f.e t).getD undef)) := fun r f h => by
      obtain ⟨u, hu, hl⟩ := h t v ht hv
      rw [hl]
      exact hs r f u h hu
    refine ⟨env', hk, fun M Q W f hn hf hQ => ?_, fun r f h => ?_⟩
    · obtain ⟨r, hr⟩ := hf
      obtain ⟨u, hu, hl⟩ := hr t v ht hv
      have hx : f.ev (.tmp t) = some u := hl
      have h1' := one r f hr
      rw [asgsF, ho] at hQ
      simp only [hl, Option.getD_some] at hQ h1'
      refine RW.gen (x := .value u) (u := u) (w' := W) h2 (by rw [h3, hn]; exact hd) (.inl rfl) (fun a ha => ?_) ?_
      · have e := ha.eval hx
        obtain ⟨dst, op, ty, pos, af, g⟩ := o
        cases h1
        simp [execOp, e]
      · rw [h3]
        exact hE M Q W _ hn ⟨r, h1'⟩ hQ
    · rw [asgsF, ho]
      exact hO r _ (one r f h)
noncomputable def asgK (n : Nat) (c : Code) (env : Tr AV) (k : Tr AV → Bool) : Bool := match c with
  | .region _ ops false => asgsK n ops.toList env k
  | _ => false
theorem asgK_ok {c : Code} {env : Tr AV} {k : Tr AV → Bool} (hk : asgK n c env k = true) : ∃ env', k env' = true ∧ AsgR P n c env env' := by
  unfold asgK at hk
  split at hk
  · rename_i id ops
    obtain ⟨env', h1, h2, h3⟩ := asgsK_ok (P := P) (ops := ops) hk
    refine ⟨env', h1, fun M Q W f hn hf hQ => ?_, fun r f h => h3 r f h⟩
    have := CL.region (M := M) (P := P) (Q := Q) (cs := []) (id := id) (l := ops.toList) (f := f) (w := W) (h2 M _ W f hn hf hQ)
    simpa using this
  · cases hk
/-- An iterator over the parts of a text. T: what it reads besides. -/
def ItOk (P : Program) (F : FuncId) (itf : List Nat → List Nat → (List (List Nat) → Bool) → Bool) (Tk : Hp → Bool) (T : World → Prop) : Prop :=
  Ent P F ∧ (∀ fl S w0 r h w, Rel S w0 fl r h w → Tk h = true → T w) ∧ ∀ s t k, itf s t k = true → ∃ xs : List (List Nat), k xs = true ∧ (∀ x ∈ xs, Bytes x) ∧ ∀ w, Bytes s → Bytes t → T w →
    Calls P F #[.string (B (textOf s)), .string (B (textOf t))] w fun e w' => K0 w w' ∧ ∃ gf cap Sb Pre, Ent P gf ∧ e = .returned (.func (.func gf) #[] cap.toArray) ∧ (∀ k, Sb k → w.heap.size ≤ k ∧ k < w'.heap.size) ∧ SeqT P gf cap (fun x : List UInt8 => [.string (B x)]) Sb T Pre (xs.map textOf) ∧ ∀ W, K0 w' W → Pre W
noncomputable def noDr : DrawF := fun _ _ _ _ => false
theorem noDr_ok {Ms : Option (Option Nat) → Prop} {G : Array Oper → Prop} : DrawM Ms P fl n G noDr := fun ops env h k _ hk => by cases hk
def inR (M : Option (Option Nat)) : Prop := ∃ l, M = some (some l)
/-- Rounds over texts. -/
noncomputable def rangeK (P : Program) (fl n m : Nat) (call : CallF) (Tk : Hp → Bool) (p : Tmp) (asg body : Code) (env : Tr AV) (xs : List (List Nat)) : Hp → (Out → Hp → Bool) → Bool := List.rec (motive := fun _ => Hp → (Out → Hp → Bool) → Bool) (fun h k => ask (Tk h) (k .nm h))
  (fun x _ ih h k => ask (Tk h) (setE n (some p) (.str x) env fun env1 => asgK n asg env1 fun env2 => codeK P fl n m call noDr body env2 h fun out _ h => Out.rec (motive := fun _ => Bool) (ih h k) (fun j => k (.ex j) h) (k .ret h) (fun _ => false) out)) xs
def BodyR (P : Program) (fl n : Nat) (p : Tmp) (asg body : Code) (env : Tr AV) (x : List Nat) (h : Hp) (out : Out) (h' : Hp) : Prop := Nat.blt p n = true ∧ ∃ env1 env2 env', (∀ (r : Ren) (f : Fr) u, FrOk r env f → real r (.str x) = some u → FrOk r env1 (f.put p u)) ∧ AsgR P n asg env1 env2 ∧ CodeM inR P fl n body env2 h out env' h'
inductive RoundsR (P : Program) (fl n : Nat) (Tk : Hp → Bool) (p : Tmp) (asg body : Code) (env : Tr AV) (out : Out) (hf : Hp) : List (List Nat) → Hp → Prop where
  | nil : Tk hf = true → out = .nm → RoundsR P fl n Tk p asg body env out hf [] hf
  | last {x rest h} : Tk h = true → out ≠ .nm → (∀ v, out ≠ .pan v) → BodyR P fl n p asg body env x h out hf → RoundsR P fl n Tk p asg body env out hf (x :: rest) h
  | more {x rest h h1} : Tk h = true → BodyR P fl n p asg body env x h .nm h1 → RoundsR P fl n Tk p asg body env out hf rest h1 → RoundsR P fl n Tk p asg body env out hf (x :: rest) h
theorem RoundsR.tk {Tk : Hp → Bool} {p : Tmp} {asg body : Code} {env : Tr AV} {out : Out} {hf : Hp} {xs : List (List Nat)} {h : Hp} (hr : RoundsR P fl n Tk p asg body env out hf xs h) : Tk h = true := by
  cases hr <;> assumption
theorem regs_true : ∀ c : Code, Regs (fun _ => True) c := by
  intro c
  induction c with
  | region id ops d => cases d <;> trivial
  | seq a b ha hb => exact ⟨ha, hb⟩
  | cond x a b ha hb => exact ⟨ha, hb⟩
  | block i a ha => exact ha
  | loop a ha => exact ha
  | _ => trivial
theorem rangeK_ok {m : Nat} {call : CallF} {Tk : Hp → Bool} {p : Tmp} {asg body : Code} {env : Tr AV} (hc : CallOk P fl call) : ∀ {xs : List (List Nat)} {h : Hp} {k : Out → Hp → Bool}, rangeK P fl n m call Tk p asg body env xs h k = true →
    ∃ out h', k out h' = true ∧ RoundsR P fl n Tk p asg body env out h' xs h
  | [], h, k, hk => by
    obtain ⟨ht, hk⟩ := ask_ok hk
    exact ⟨.nm, h, hk, .nil ht rfl⟩
  | x :: xs, h, k, hk => by
    obtain ⟨ht, hk⟩ := ask_ok hk
    obtain ⟨env1, hk, hd, hs⟩ := setE_ok hk
    obtain ⟨env2, hk, hA⟩ := asgK_ok (P := P) hk
    obtain ⟨out, env', h1, hk, hC⟩ := codeK_ok (Ms := inR) (G := fun _ => True) hc noDr_ok body (regs_true body) env2 h _ hk
    have hb : BodyR P fl n p asg body env x h out h1 := ⟨hd p rfl, env1, env2, env', hs, hA, hC⟩
    cases out with
    | nm =>
      obtain ⟨out, h', hk, hr⟩ := rangeK_ok hc (xs := xs) hk
      exact ⟨out, h', hk, .more ht hb hr⟩
    | ex i => exact ⟨_, _, hk, .last ht (by simp) (by simp) hb⟩
    | ret => exact ⟨_, _, hk, .last ht (by simp) (by simp) hb⟩
    | pan v => cases hk
theorem drop_of {xs : List (List Nat)} {pre : List (List UInt8)} {x : List UInt8} (h : (pre ++ [x]) <+: xs.map textOf) : ∃ y rest, xs.drop pre.length = y :: rest ∧ textOf y = x ∧ y ∈ xs ∧ xs.drop (pre ++ [x]).length = rest := by
  obtain ⟨tl, ht⟩ := h
  have h1 : (xs.drop pre.length).map textOf = x :: tl := by
    rw [List.map_drop, ← ht]
    simp
  cases e : xs.drop pre.length with
  | nil => rw [e] at h1; cases h1
  | cons y rest =>
    rw [e, List.map_cons] at h1
    injection h1 with h1 _
    refine ⟨y, rest, rfl, h1, List.mem_of_mem_drop (by rw [e]; exact List.mem_cons_self ..), ?_⟩
    rw [List.length_append, List.length_singleton, ← List.drop_drop, e]
    rfl
/-- A range over the parts of a text. -/
theorem range_ok {Tk : Hp → Bool} {T : World → Prop} {g p : Nat} {asg body : Code} {env : Tr AV} {out : Out} {hf h : Hp} {xs : List (List Nat)} (hr : RoundsR P fl n Tk p asg body env out hf xs h) (hxs : ∀ x ∈ xs, Bytes x) (hpn : Nat.blt p n = true)
    {S : Nat → Prop} {w0 : World} (hTk : ∀ r h w, Rel S w0 fl r h w → Tk h = true → T w) {r : Ren} {f : Fr} {w : World} {gf : FuncId} {cap : List Value} {Sb : Nat → Prop} {Pre : World → Prop} {Q : Post} (he : Ent P gf) (hn : f.n = n)
    (hg : f.ev (.tmp g) = some (.func (.func gf) #[] cap.toArray)) (hF : FrOk r env f) (hR : Rel S w0 fl r h w) (hSb : ∀ k, Sb k → k < w.heap.size ∧ (S k ∨ w0.heap.size ≤ k)) (hN : ∀ i p, r i = some p → ¬ Sb p.1)
    (hseq : SeqT P gf cap (fun x : List UInt8 => [.string (B x)]) Sb T Pre (xs.map textOf)) (hpre : ∀ W, K0 w W → Pre W)
    (K : ∀ r' W, Ext r r' → Rel S w0 fl r' hf W → W.heap[w.heap.size]? = some (.deferred (some [])) → (∀ i p, r' i = some p → p.1 ≠ w.heap.size) → match out with
      | .nm => Q .normal ⟨f.n, markOf w.heap.size :: f.ds, f.e⟩ W
      | .ex j => Q (.exit j) ⟨f.n, markOf w.heap.size :: f.ds, f.e⟩ W
      | .ret => Q .ret ⟨f.n, markOf w.heap.size :: f.ds, f.e⟩ W
      | .pan _ => True) : CL none P Q [.rangeFunc (.tmp g) #[p] asg body] f w := by
  have hsz0 := hR.kept.size
  have hSx : ∀ x, (Sb x ∨ x = w.heap.size ∨ x = w.heap.size + 1) → S x ∨ w0.heap.size ≤ x := by
    rintro x (q | rfl | rfl)
    · exact (hSb x q).2
    · exact .inr hsz0
    · exact .inr (Nat.le_succ_of_le hsz0)
  have hSl : ∀ x, (Sb x ∨ x = w.heap.size ∨ x = w.heap.size + 1) → x < w.heap.size + 2 := by
    rintro x (q | rfl | rfl)
    · have := (hSb x q).1; omega
    · omega
    · omega
  refine CL.rangeFuncT (ps := [p]) (cap := cap) hg hseq hpre (fun _ => rfl) (fun q hq => by rw [List.mem_singleton.1 hq, hn]; exact hpn) (fun k hk => (hSb k hk).1)
    (fun pre W => ∃ hp r', RoundsR P fl n Tk p asg body env out hf (xs.drop pre.length) hp ∧ Ext r r' ∧ Rel S w0 fl r' hp W ∧ ∀ i p, r' i = some p → ¬ (Sb p.1 ∨ p.1 = w.heap.size ∨ p.1 = w.heap.size + 1))
    (fun c pre W => (match out, c with
      | .ret, none => True
      | .ex j, some k => j = k
      | _, _ => False) ∧ ∃ r', Ext r r' ∧ Rel S w0 fl r' hf W ∧ ∀ i p, r' i = some p → ¬ (Sb p.1 ∨ p.1 = w.heap.size ∨ p.1 = w.heap.size + 1))
    (fun s W W' ⟨hp, r', a, b, c, d⟩ k => ⟨hp, r', a, b, c.other k d hSx, d⟩) (fun c s W W' ⟨q, r', b, e, d⟩ k => ⟨q, r', b, e.other k d hSx, d⟩)
    ⟨h, r, by simpa using hr, Ext.refl r, hR, fun i p hp => by
      have := hR.dom i p hp
      rintro (q | q | q)
      · exact hN i p hp q
      · omega
      · omega⟩
    (fun pre W ⟨hp, r', a, b, c, d⟩ => hTk r' hp W c a.tk) ?_ ?_ ?_
  · -- one round
    rintro l pre x W ⟨hp, r1, hr1, hx1, hR1, hN1⟩ hpf hsz
    obtain ⟨y, rest, ey, rfl, hy, erest⟩ := drop_of hpf
    have hby := hxs y hy
    have first : ∃ o h', BodyR P fl n p asg body env y hp o h' := by
      rw [ey] at hr1
      cases hr1 with
      | last _ _ _ hb => exact ⟨_, _, hb⟩
      | more _ hb _ => exact ⟨_, _, hb⟩
    obtain ⟨o, h', _, env1, env2, env', hs, hA, _⟩ := first
    have hf0 : ∀ r', Ext r r' → FrOk r' env ⟨f.n, [], f.e⟩ := fun r' hx t v a b => hF.mono hx t v a b
    refine hA.run (some (some l)) _ W _ hn ⟨r1, hs r1 _ _ (hf0 r1 hx1) (str_real hby)⟩ ⟨rfl, ?_⟩
    rintro W2 ⟨hp2, r2, hr2, hx2, hR2, hN2⟩ hsz2
    have same : ∀ r3 h3 W3, Rel (Wr fl r2) W2 fl r3 h3 W3 → Same (fun k => Sb k ∨ k = w.heap.size ∨ k = w.heap.size + 1) W2 W3 := fun r3 h3 W3 hR3 => Same.of hR3.kept fun k hk => ⟨Nat.lt_of_lt_of_le (hSl k hk) hsz2, fun ⟨i, q, _, hq, e⟩ => hN2 i q hq (e ▸ hk)⟩
    have names : ∀ r3 h3 W3, Ext r2 r3 → Rel (Wr fl r2) W2 fl r3 h3 W3 → ∀ i p, r3 i = some p → ¬ (Sb p.1 ∨ p.1 = w.heap.size ∨ p.1 = w.heap.size + 1) := fun r3 h3 W3 hx3 hR3 => hR2.none_of (T := fun k => Sb k ∨ k = w.heap.size ∨ k = w.heap.size + 1) hR3 hx3 hN2 fun x hx => Nat.lt_of_lt_of_le (hSl x hx) hsz2
    have body : ∀ o h', BodyR P fl n p asg body env y hp2 o h' → ∀ Q', Ends (Wr fl r2) W2 fl n [] r2 o (.e : Tr AV) h' Q' → CL (some (some l)) P Q' [body] (asgF asg (Fr.puts ⟨f.n, [], f.e⟩ [p] [.string (B (textOf y))])) W2 := by
      rintro o h' ⟨_, e1, e2, e', hs', hA', hC⟩ Q' hE
      have hds : (asgF asg (Fr.puts ⟨f.n, [], f.e⟩ [p] [.string (B (textOf y))])).ds = [] := (asgF_n _ _).2
      refine CL_of_CW (hC (some (some l)) ⟨l, rfl⟩ (Wr fl r2) W2 r2 _ W2 Q' ((asgF_n _ _).1.trans hn) (hA'.ok r2 _ (hs' r2 _ _ (hf0 r2 hx2) (str_real hby))) hR2.self ?_)
      intro r3 f3 W3 a b c d e
      exact hE r3 f3 W3 a (b.trans hds) c (fun t v _ hv => by rw [Tr.get_e] at hv; cases hv) e
    rw [ey] at hr2
    cases hr2 with
    | last ht ho hnp hb =>
      refine body _ _ hb _ fun r3 f3 W3 a b c d e => ?_
      cases out with
      | nm => exact absurd rfl ho
      | ex j => exact ⟨same _ _ _ e, rfl, r3, hx2.trans c, hR2.back e, names _ _ _ c e⟩
      | ret => exact ⟨same _ _ _ e, trivial, r3, hx2.trans c, hR2.back e, names _ _ _ c e⟩
      | pan v => exact absurd rfl (hnp v)
    | more ht hb hr3 =>
      refine body _ _ hb _ fun r3 f3 W3 a b c d e => ?_
      exact ⟨same _ _ _ e, _, r3, by rw [erest]; exact hr3, hx2.trans c, hR2.back e, names _ _ _ c e⟩
  · rintro W ⟨hp, r', hr', hx', hR', hN'⟩ hD
    rw [List.length_map, List.drop_length] at hr'
    cases hr' with
    | nil ht ho =>
      subst ho
      exact K r' W hx' hR' hD fun i p hp c => hN' i p hp (.inr (.inl c))
  · rintro c pre W ⟨hc, r', hx', hR', hN'⟩ hD
    have hK := K r' W hx' hR' hD fun i p hp c => hN' i p hp (.inr (.inl c))
    cases out with
    | nm => cases c <;> exact hc.elim
    | ex j =>
      cases c with
      | none => exact hc.elim
      | some k => cases hc; exact hK
    | ret =>
      cases c with
      | none => exact hK
      | some k => exact hc.elim
    | pan v => cases c <;> exact hc.elim
end
end Go.Proofs.YtoafcnecjgnbmaaGreatDoor.E

set_option linter.constructorNameAsVariable false
set_option linter.unusedVariables false
namespace Go.Proofs.YtoafcnecjgnbmaaGreatDoor.E
open Go Go.RowKit H
section
variable {P : Program} {fl n : Nat}
noncomputable def splOp (F : FuncId) (o : Oper) : Option (Tmp × Operand × Operand) := match o.op, o.guard, o.dst with
  | .call c, none, some g => (match c.callee, c.args.toList with
    | .value (.func f), [x, y] => ifeV (Nat.beq f F) (some (g, x, y)) none
    | _, _ => none)
  | _, _, _ => none
theorem splOp_ok {F : FuncId} {o : Oper} {q : Tmp × Operand × Operand} (h : splOp F o = some q) : ∃ ats ty pos af, o = op1 q.1 (.call { callee := .value (.func F), args := [q.2.1, q.2.2].toArray, argTypes := ats }) ty pos af := by
  obtain ⟨dst, op, ty, pos, af, g⟩ := o
  cases op <;> first | (cases h; done) | skip
  rename_i c
  obtain ⟨cal, args, ats⟩ := c
  cases g with
  | some g => cases h
  | none =>
    cases dst with
    | none => cases h
    | some d =>
      cases cal <;> first | (cases h; done) | skip
      rename_i x
      cases x <;> first | (cases h; done) | skip
      rename_i f
      obtain ⟨l⟩ := args
      cases l with
      | nil => cases h
      | cons x l =>
        cases l with
        | nil => cases h
        | cons y l =>
          cases l with
          | cons z l => cases h
          | nil =>
            replace h : ifeV (Nat.beq f F) (some (d, x, y)) none = some q := h
            cases hb : Nat.beq f F with
            | false => rw [hb] at h; cases h
            | true =>
              rw [hb] at h
              cases h
              rw [Nat.eq_of_beq_eq_true hb]
              exact ⟨ats, ty, pos, af, rfl⟩
abbrev SplT := List Oper × (Tmp × Operand × Operand) × Array Oper
/-- A region that ends in a call of the function that splits. -/
noncomputable def splReg (F : FuncId) (c : Code) : Option SplT := match c with
  | .region _ ops false => Option.rec (motive := fun _ => Option SplT) none (fun p => Option.rec (motive := fun _ => Option SplT) none (fun x => some (p.1, x, ops)) (splOp F p.2)) (lastOp ops.toList)
  | _ => none
theorem splReg_ok {F : FuncId} {c : Code} {q : SplT} (h : splReg F c = some q) : ∃ id ats ty pos af, c = .region id q.2.2 false ∧ q.2.2.toList = q.1 ++ [op1 q.2.1.1 (.call { callee := .value (.func F), args := [q.2.1.2.1, q.2.1.2.2].toArray, argTypes := ats }) ty pos af] := by
  unfold splReg at h
  split at h
  · rename_i id ops
    cases h1 : lastOp ops.toList with
    | none => rw [h1] at h; cases h
    | some p =>
      rw [h1] at h
      replace h : Option.rec (motive := fun _ => Option SplT) none (fun x => some (p.1, x, ops)) (splOp F p.2) = some q := h
      cases h2 : splOp F p.2 with
      | none => rw [h2] at h; cases h
      | some x =>
        rw [h2] at h
        cases h
        obtain ⟨ats, ty, pos, af, e⟩ := splOp_ok h2
        refine ⟨id, ats, ty, pos, af, rfl, ?_⟩
        rw [lastOp_ok h1, e]
  · cases h
abbrev TailT := Nat × Tmp × Code × Code
/-- The range behind it. -/
noncomputable def rfTail (g : Tmp) (b : Code) : Option TailT := match b with
  | .block i (.rangeFunc (.tmp g') ps asg body) => (match ps.toList with
    | [p] => ifeV (Nat.beq g' g) (some (i, p, asg, body)) none
    | _ => none)
  | _ => none
theorem rfTail_ok {g : Tmp} {b : Code} {u : TailT} (h : rfTail g b = some u) : b = .block u.1 (.rangeFunc (.tmp g) #[u.2.1] u.2.2.1 u.2.2.2) := by
  unfold rfTail at h
  split at h
  · rename_i i g' ps asg body
    obtain ⟨l⟩ := ps
    cases l with
    | nil => cases h
    | cons p l =>
      cases l with
      | cons _ _ => cases h
      | nil =>
        replace h : ifeV (Nat.beq g' g) (some (i, p, asg, body)) none = some u := h
        cases hb : Nat.beq g' g with
        | false => rw [hb] at h; cases h
        | true =>
          rw [hb] at h
          cases h
          rw [Nat.eq_of_beq_eq_true hb]
  · cases h
/-- Both, one behind the other. -/
noncomputable def splA (F : FuncId) (a : Code) : Option (SplT × TailT) := match a with
  | .seq a1 b1 => Option.rec (motive := fun _ => Option (SplT × TailT)) none (fun q => Option.rec (motive := fun _ => Option (SplT × TailT)) none (fun u => some (q, u)) (rfTail q.2.1.1 b1)) (splReg F a1)
  | _ => none
theorem splA_ok {F : FuncId} {a : Code} {z : SplT × TailT} (h : splA F a = some z) : ∃ id ats ty pos af, a = .seq (.region id z.1.2.2 false) (.block z.2.1 (.rangeFunc (.tmp z.1.2.1.1) #[z.2.2.1] z.2.2.2.1 z.2.2.2.2)) ∧ z.1.2.2.toList = z.1.1 ++ [op1 z.1.2.1.1 (.call { callee := .value (.func F), args := [z.1.2.1.2.1, z.1.2.1.2.2].toArray, argTypes := ats }) ty pos af] := by
  unfold splA at h
  split at h
  · rename_i a1 b1
    cases h1 : splReg F a1 with
    | none => rw [h1] at h; cases h
    | some q =>
      rw [h1] at h
      replace h : Option.rec (motive := fun _ => Option (SplT × TailT)) none (fun u => some (q, u)) (rfTail q.2.1.1 b1) = some z := h
      cases h2 : rfTail q.2.1.1 b1 with
      | none => rw [h2] at h; cases h
      | some u =>
        rw [h2] at h
        cases h
        obtain ⟨id, ats, ty, pos, af, e, ho⟩ := splReg_ok h1
        exact ⟨id, ats, ty, pos, af, by rw [e, rfTail_ok h2], ho⟩
  · cases h
abbrev ItF := List Nat → List Nat → (List (List Nat) → Bool) → Bool
noncomputable def restK (P : Program) (fl m : Nat) (dr : Nat → CallF → DrawF) (call : CallF) (fn : Func) (kr : KV) (c : Code) (env : Tr AV) (h : Hp) : Bool := codeK P fl fn.ntmps m call (dr fn.ntmps call) c env h fun out env h => Out.rec (motive := fun _ => Bool) (finK P fl fn env h kr) (fun _ => false) (finK P fl fn env h kr) (fun _ => false) out
noncomputable def rfMid (P : Program) (fl m : Nat) (dr : Nat → CallF → DrawF) (call : CallF) (itf : ItF) (Tk : Hp → Bool) (fn : Func) (kr : KV) (q : SplT) (u : TailT) (b : Code) (env : Tr AV) (h : Hp) : Bool :=
  evK fl h env q.2.1.2.1 fun vx => evK fl h env q.2.1.2.2 fun vy => qStr vx fun s => qStr vy fun t => ask (Tk h) (itf s t fun xs => ask (Nat.blt q.2.1.1 fn.ntmps) (ask (Nat.blt q.2.1.1 4096) (ask (Nat.blt u.2.1 fn.ntmps) (Tr.setK none (bits q.2.1.1) env fun env' =>
    rangeK P fl fn.ntmps m call Tk u.2.1 u.2.2.1 u.2.2.2 env' xs h fun out h => Out.rec (motive := fun _ => Bool) (restK P fl m dr call fn kr b env' h) (fun j => ask (Nat.beq j u.1) (restK P fl m dr call fn kr b env' h)) (finK P fl fn env' h kr) (fun _ => false) out))))
noncomputable def rfBody (P : Program) (fl m : Nat) (dr : Nat → CallF → DrawF) (call : CallF) (F : FuncId) (itf : ItF) (Tk : Hp → Bool) (fn : Func) (kr : KV) (c : Code) : Tr AV → Hp → Bool := Code.rec (motive := fun _ => Tr AV → Hp → Bool)
  (fun _ _ => false) (fun _ _ _ _ _ => false)
  (fun a b _ ihb env h => Option.rec (motive := fun _ => Bool)
    (codeK P fl fn.ntmps m call (dr fn.ntmps call) a env h fun out env h => Out.rec (motive := fun _ => Bool) (ihb env h) (fun _ => false) (finK P fl fn env h kr) (fun _ => false) out)
    (fun z => opsK P fl fn.ntmps call z.1.2.2 z.1.1 env h fun out env h => Out.rec (motive := fun _ => Bool) (rfMid P fl m dr call itf Tk fn kr z.1 z.2 b env h) (fun _ => false) false (fun _ => false) out)
    (splA F a))
  (fun _ _ _ _ _ _ _ => false) (fun _ _ _ _ _ => false) (fun _ _ _ _ => false) (fun _ _ _ _ _ _ _ _ => false) (fun _ _ _ => false) (fun _ _ _ _ => false) (fun _ _ _ => false) (fun _ _ _ => false) (fun _ _ => false) (fun _ _ _ => false) c
/-- What must hold behind a range. -/
def AfterR (P : Program) (i : Nat) (rest : Code) (Q : Post) (out : Out) (f2 : Fr) (W : World) : Prop := match out with
  | .nm => CL none P Q [rest] f2 W
  | .ex j => blockQ i (CL none P Q [rest]) Q (.exit j) f2 W
  | .ret => Q .ret f2 W
  | .pan _ => True
/-- How such a function ends. -/
def RfOk (P : Program) (fl : Nat) (fn : Func) (c : Code) (env : Tr AV) (h : Hp) (v : AV) (h' : Hp) : Prop := ∀ S w0 r f w (R : Ending → World → Prop), f.n = fn.ntmps → f.ds = [] → FrOk r env f → Rel S w0 fl r h w → (∀ r' x w', Ext r r' → Rel S w0 fl r' h' w' → real r' v = some x → R (.returned x) w') → CW none P (MQ P fn R) c f w
theorem rfBody_ok {m : Nat} {dr : Nat → CallF → DrawF} {call : CallF} {G : Array Oper → Prop} {F : FuncId} {itf : ItF} {Tk : Hp → Bool} {T : World → Prop} (hc : CallOk P fl call) (hdr : ∀ n call, CallOk P fl call → DrawOk P fl n G (dr n call)) (hI : ItOk P F itf Tk T) {fn : Func} {kr : KV} : ∀ (c : Code), Regs G c → ∀ (env : Tr AV) (h : Hp), rfBody P fl m dr call F itf Tk fn kr c env h = true →
    ∃ v h', kr v h' = true ∧ RfOk P fl fn c env h v h' := by
  intro c
  induction c with
  | seq a b _ ihb =>
    intro hGc env h hk
    cases hq : splA F a with
    | none =>
      replace hk : Option.rec (motive := fun _ => Bool) _ _ (splA F a) = true := hk
      rw [hq] at hk
      obtain ⟨out, env1, h1, hk, hC⟩ := codeK_ok hc (hdr fn.ntmps call hc) a hGc.1 env h _ hk
      cases out with
      | nm =>
        obtain ⟨v, h', hk, hD⟩ := ihb hGc.2 env1 h1 hk
        exact ⟨v, h', hk, fun S w0 r f w R hn hds hf hR hE =>
          CL.one (CL.seq (hC none rfl S w0 r f w _ hn hf hR fun r' f' w' hn' hd hx hf' hR' => CL_of_CW (hD S w0 r' f' w' R hn' (hd.trans hds) hf' hR' fun r2 x w2 hx2 hR2 hv => hE r2 x w2 (hx.trans hx2) hR2 hv)))⟩
      | ex i => cases hk
      | ret =>
        obtain ⟨v, hk, hr⟩ := finK_ok hk
        refine ⟨v, h1, hk, fun S w0 r f w R hn hds hf hR hE => CL.one (CL.seq (hC none rfl S w0 r f w _ hn hf hR fun r' f' w' hn' hd hx hf' hR' => ?_))⟩
        obtain ⟨x, hx1, hr⟩ := hr S w0 r' f' w' hf' hR'
        exact .inl ⟨hd.trans hds, x, hr, hE r' x w' hx hR' hx1⟩
      | pan v => cases hk
    | some z =>
        obtain ⟨q, u⟩ := z
        replace hk : Option.rec (motive := fun _ => Bool) _ _ (splA F a) = true := hk
        rw [hq] at hk
        obtain ⟨id, ats, ty, pos, af, rfl, hops⟩ := splA_ok hq
        obtain ⟨out, env1, h1, hk, hO⟩ := opsK_ok hc hk
        cases out with
        | nm =>
          obtain ⟨vx, hk, hvx⟩ := evK_ok (show evK fl h1 env1 q.2.1.2.1 _ = true from hk)
          obtain ⟨vy, hk, hvy⟩ := evK_ok hk
          obtain ⟨s, rfl, hk⟩ := qStr_ok (x := vx) hk
          obtain ⟨t, rfl, hk⟩ := qStr_ok (x := vy) hk
          obtain ⟨htk, hk⟩ := ask_ok hk
          obtain ⟨hent, hT, hit⟩ := hI
          obtain ⟨xs, hk, hxs, hcall⟩ := hit s t _ hk
          obtain ⟨hg1, hk⟩ := ask_ok hk
          obtain ⟨hg2, hk⟩ := ask_ok hk
          obtain ⟨hp, hk⟩ := ask_ok hk
          rw [Tr.setK_eq] at hk
          obtain ⟨out, h2, hk, hrr⟩ := rangeK_ok hc hk
          have hg2 : q.2.1.1 < LIM := Nat.lt_of_lt_of_le (blt_lt hg2) (by decide)
          -- the range, whatever follows
          have mid : ∀ S (w0 : World) (r : Ren) (f : Fr) (w : World) (Q : Post), f.n = fn.ntmps → f.ds = [] → FrOk r env1 f → Rel S w0 fl r h1 w →
              (∀ (f2 : Fr) r2 D W, f2.n = fn.ntmps → f2.ds = [markOf D] → Ext r r2 → FrOk r2 (Tr.set none (bits q.2.1.1) env1) f2 → Rel S w0 fl r2 h2 W → W.heap[D]? = some (.deferred (some [])) → w0.heap.size ≤ D → (∀ i p, r2 i = some p → p.1 ≠ D) → AfterR P u.1 b Q out f2 W) →
              RW none P q.2.2 (thenK (CL none P Q [.block u.1 (.rangeFunc (.tmp q.2.1.1) #[u.2.1] u.2.2.1 u.2.2.2), b]) Q) [op1 q.2.1.1 (.call { callee := .value (.func F), args := [q.2.1.2.1, q.2.1.2.2].toArray, argTypes := ats }) ty pos af] f w := by
            intro S w0 r f w Q hn hds hf hR hK
            obtain ⟨ux, hux, hex⟩ := hvx S w0 r f w hf hR
            obtain ⟨uy, huy, hey⟩ := hvy S w0 r f w hf hR
            obtain ⟨bs, rfl⟩ := real_str hux
            obtain ⟨bt, rfl⟩ := real_str huy
            haveI := hent
            refine RW.fn (l := [_, _]) (by simp [Fr.evs, hex, hey]) (by rw [hn]; exact hg1) ((hcall w bs bt (hT fl S w0 r h1 w hR htk)).mono ?_)
            rintro e w1 ⟨hk1, gf, cap, Sb, Pre, he, rfl, hSb, hseq, hpre⟩
            have hR1 := hR.same hk1
            have hsz := hR.kept.size
            refine RW.nil (show CL none P Q _ _ _ from CL.block ?_)
            have hF : FrOk r (Tr.set none (bits q.2.1.1) env1) (f.put q.2.1.1 (.func (.func gf) #[] cap.toArray)) := fun t v ht hv => by
              rw [Tr.get_set] at hv
              by_cases e : bits q.2.1.1 = bits t
              · rw [if_pos e] at hv; cases hv
              · rw [if_neg e] at hv
                obtain ⟨z, hz, hl⟩ := hf t v ht hv
                refine ⟨z, hz, ?_⟩
                have : q.2.1.1 ≠ t := fun c => e (by rw [c])
                simp only [Fr.put, H.look, beq_ne this]
                exact hl
            refine range_ok (g := q.2.1.1) (f := f.put q.2.1.1 (.func (.func gf) #[] cap.toArray)) (Q := blockQ u.1 (CL none P Q [b]) Q) (env := Tr.set none (bits q.2.1.1) env1) hrr hxs hp (fun r h w => hT fl S w0 r h w) he hn (by simp [Fr.ev, Fr.put, H.look, beq_self]) hF hR1 (fun k hk => ⟨(hSb k hk).2, .inr (Nat.le_trans hsz (hSb k hk).1)⟩) (fun i p hp c => by have := hR.dom i p hp; have := (hSb _ c).1; omega) hseq hpre fun r2 W hx2 hR2 hD hN2 => ?_
            have := hK ⟨f.n, markOf w1.heap.size :: f.ds, (f.put q.2.1.1 (.func (.func gf) #[] cap.toArray)).e⟩ r2 w1.heap.size W hn (by rw [hds]) hx2 (fun t v a b => (hF.mono hx2) t v a b) hR2 hD (Nat.le_trans hsz hk1.size) hN2
            cases out <;> exact this
          -- a function's end, where there is a mark
          have fin : ∀ (env3 : Tr AV) (h3 : Hp) (v : AV), (∀ S w0 r f (w : World), FrOk r env3 f → Rel S w0 fl r h3 w → ∃ x, real r v = some x ∧ ∀ a, Ag f a → (results fn a.tmps).run P w = .ok x w) → ∀ S (w0 : World) r0 r (f : Fr) (w : World) (R : Ending → World → Prop) D, (∀ r' x w', Ext r0 r' → Rel S w0 fl r' h3 w' → real r' v = some x → R (.returned x) w') → Ext r0 r → f.ds = [markOf D] → FrOk r env3 f → Rel S w0 fl r h3 w → w.heap[D]? = some (.deferred (some [])) → w0.heap.size ≤ D → (∀ i p, r i = some p → p.1 ≠ D) → MQ P fn R .ret f w := by
            intro env3 h3 v hr S w0 r0 r f w R D hE hx hds hf hR hD h0 hN
            refine .inr ⟨D, hds, hD, fun w' hk' => ?_⟩
            have hR' := hR.other hk' (fun i p hp c => hN i p hp c) (fun x hx => by have hx : x = D := hx; subst hx; exact .inr h0)
            obtain ⟨x, hx1, hr1⟩ := hr S w0 r f w' hf hR'
            exact ⟨x, hr1, hE r x w' hx hR' hx1⟩
          have whole : ∀ {v : AV} {h' : Hp}, (∀ S (w0 : World) (r : Ren) (f : Fr) (w : World) (R : Ending → World → Prop), (∀ r' x w', Ext r r' → Rel S w0 fl r' h' w' → real r' v = some x → R (.returned x) w') → ∀ (f2 : Fr) r2 D W, f2.n = fn.ntmps → f2.ds = [markOf D] → Ext r r2 → FrOk r2 (Tr.set none (bits q.2.1.1) env1) f2 → Rel S w0 fl r2 h2 W → W.heap[D]? = some (.deferred (some [])) → w0.heap.size ≤ D → (∀ i p, r2 i = some p → p.1 ≠ D) → AfterR P u.1 b (MQ P fn R) out f2 W) → RfOk P fl fn (.seq (.seq (.region id q.2.2 false) (.block u.1 (.rangeFunc (.tmp q.2.1.1) #[u.2.1] u.2.2.1 u.2.2.2))) b) env h v h' := by
            intro v h' hh S w0 r f w R hn hds hf hR hE
            have e2 : ∀ {Q cs f w}, CL none P Q (.region id q.2.2.toList.toArray false :: cs) f w → CL none P Q (.region id q.2.2 false :: cs) f w := fun h => by simpa using h
            refine CL.one (CL.seq (CL.seq (e2 (CL.region ?_))))
            rw [hops]
            have e3 : (q.1 ++ [op1 q.2.1.1 (.call { callee := .value (.func F), args := [q.2.1.2.1, q.2.1.2.2].toArray, argTypes := ats }) ty pos af]).toArray = q.2.2 := by rw [← hops]
            rw [e3]
            refine RW.app (hO none S w0 r f w _ hn hf hR fun r' f' w' hn' hd hx hf' hR' => ?_)
            exact mid S w0 r' f' w' _ hn' (hd.trans hds) hf' hR' fun f2 r2 D W a b c d e g i j => hh S w0 r' f' w' R (fun r3 x w3 hx3 hR3 hv => hE r3 x w3 (hx.trans hx3) hR3 hv) f2 r2 D W a b c d e g i j
          -- what follows the range
          have rest : restK P fl m dr call fn kr b (Tr.set none (bits q.2.1.1) env1) h2 = true → ∃ v h', kr v h' = true ∧ ∀ S (w0 : World) (r : Ren) (R : Ending → World → Prop), (∀ r' x w', Ext r r' → Rel S w0 fl r' h' w' → real r' v = some x → R (.returned x) w') → ∀ (f2 : Fr) r2 D W, f2.n = fn.ntmps → f2.ds = [markOf D] → Ext r r2 → FrOk r2 (Tr.set none (bits q.2.1.1) env1) f2 → Rel S w0 fl r2 h2 W → W.heap[D]? = some (.deferred (some [])) → w0.heap.size ≤ D → (∀ i p, r2 i = some p → p.1 ≠ D) → CL none P (MQ P fn R) [b] f2 W := fun hk => by
            obtain ⟨out3, env3, h3, hk, hC⟩ := codeK_ok hc (hdr fn.ntmps call hc) b hGc.2 _ h2 _ hk
            have ends : (out3 = .nm ∨ out3 = .ret) → finK P fl fn env3 h3 kr = true → ∃ v h', kr v h' = true ∧ ∀ S (w0 : World) (r : Ren) (R : Ending → World → Prop), (∀ r' x w', Ext r r' → Rel S w0 fl r' h' w' → real r' v = some x → R (.returned x) w') → ∀ (f2 : Fr) r2 D W, f2.n = fn.ntmps → f2.ds = [markOf D] → Ext r r2 → FrOk r2 (Tr.set none (bits q.2.1.1) env1) f2 → Rel S w0 fl r2 h2 W → W.heap[D]? = some (.deferred (some [])) → w0.heap.size ≤ D → (∀ i p, r2 i = some p → p.1 ≠ D) → CL none P (MQ P fn R) [b] f2 W := fun ho hk => by
              obtain ⟨v, hk, hr⟩ := finK_ok hk
              refine ⟨v, h3, hk, fun S w0 r R hE f2 r2 D W hn hds hx hf hR hD h0 hN => CL_of_CW (hC none rfl (Wr fl r2) W r2 f2 W _ hn hf hR.self fun r3 f3 w3 hn3 hd3 hx3 hf3 hR3 => ?_)⟩
              have hlt : D < W.heap.size := lt_of_at hD
              have hN3 := hR.none_of (T := fun x => x = D) hR3 hx3 (fun i p hp c => hN i p hp c) (fun x hx => by have hx : x = D := hx; omega)
              have hD3 : w3.heap[D]? = some (.deferred (some [])) := (hR3.kept.block D hlt fun ⟨i, z, _, hz, e⟩ => hN i z hz e).trans hD
              have := fin env3 h3 v hr S w0 r r3 f3 w3 R D hE (hx.trans hx3) (hd3.trans hds) hf3 (hR.back hR3) hD3 h0 (fun i p hp c => hN3 i p hp c)
              rcases ho with rfl | rfl <;> exact this
            cases out3 with
            | nm => exact ends (.inl rfl) hk
            | ex i => cases hk
            | ret => exact ends (.inr rfl) hk
            | pan v => cases hk
          cases out with
          | nm =>
            obtain ⟨v, h', hk, hr⟩ := rest hk
            exact ⟨v, h', hk, whole fun S w0 r f w R hE => hr S w0 r R hE⟩
          | ex j =>
            obtain ⟨hj, hk2⟩ := ask_ok hk
            have hj := Nat.eq_of_beq_eq_true hj
            subst hj
            obtain ⟨v, h', hk, hr⟩ := rest hk2
            refine ⟨v, h', hk, whole fun S w0 r f w R hE f2 r2 D W a b c d e g i j => ?_⟩
            show blockQ _ _ _ (.exit _) f2 W
            simp only [blockQ, beq_self]
            exact hr S w0 r R hE f2 r2 D W a b c d e g i j
          | ret =>
            obtain ⟨v, hk, hr⟩ := finK_ok hk
            exact ⟨v, h2, hk, whole fun S w0 r f w R hE f2 r2 D W a b c d e g i j => fin _ h2 v hr S w0 r r2 f2 W R D hE c b d e g i j⟩
          | pan v => cases hk
        | ex i => cases hk
        | ret => cases hk
        | pan v => cases hk
  | _ => intro _ env h hk; cases hk
/-- A function that ranges over the parts of a text. -/
noncomputable def rfK (P : Program) (fl m : Nat) (dr : Nat → CallF → DrawF) (F : FuncId) (itf : ItF) (Tk : Hp → Bool) (f : FuncId) : Prim := fun call vs h kr _ => fnK P f fun fn => someK fn.body fun c => lenK vs fun l => ask (Nat.ble l fn.ntmps) (ask (Nat.ble l 4096) (argsK vs 0 .e fun env => rfBody P fl m dr call F itf Tk fn kr c env h))
theorem rfK_ok {m : Nat} {dr : Nat → CallF → DrawF} {G : Array Oper → Prop} {F : FuncId} {itf : ItF} {Tk : Hp → Bool} {T : World → Prop} (hdr : ∀ n call, CallOk P fl call → DrawOk P fl n G (dr n call)) (hG : AllRegs P G) (hI : ItOk P F itf Tk T) (f : FuncId) : Pr1 P fl f (rfK P fl m dr F itf Tk f) := by
  intro call hc g vs h kr kp hk
  rcases ife_ok hk with ⟨hb, hk2⟩ | ⟨_, hk2⟩
  · have e := Nat.eq_of_beq_eq_true hb
    subst e
    obtain ⟨fn, hf, hk⟩ := fnK_ok hk2
    obtain ⟨c, hb, hk⟩ := someK_ok hk
    rw [lenK_eq] at hk
    obtain ⟨hl, hk⟩ := ask_ok hk
    obtain ⟨hl2, hk⟩ := ask_ok hk
    obtain ⟨env, hk, he⟩ := argsK_ok hk (by have := ble_le hl2; omega)
    obtain ⟨v, h', hk, hD⟩ := rfBody_ok hc hdr hI c (hG _ fn c hf hb) env h hk
    refine .inl ⟨v, h', hk, fun S w0 r w xs hR hxs => ?_⟩
    refine enterM hf rfl hb (by rw [reals_len hxs]; exact hl) (CL_of_CW (hD S w0 r _ w _ rfl rfl (fun t v ht hv => ?_) hR fun r' x w' hx hR' hv => ⟨r', x, rfl, hx, hR', hv⟩))
    rw [he t ht] at hv
    by_cases q : 0 ≤ t ∧ t < 0 + vs.length
    · rw [if_pos q, Nat.sub_zero] at hv
      obtain ⟨u, hu, hr⟩ := reals_at hxs hv
      exact ⟨u, hr, by rw [look_args' xs 0 t (Nat.zero_le _), Nat.sub_zero]; exact hu⟩
    · rw [if_neg q, Tr.get_e] at hv; cases hv
  · cases hk2
end
end Go.Proofs.YtoafcnecjgnbmaaGreatDoor.E

namespace Go.Proofs.YtoafcnecjgnbmaaGreatDoor.E
open Go Go.RowKit H
/-- The place of the first c; -1 where there is none. -/
noncomputable def idxK (s : List Nat) (c : Nat) (k : Int → Bool) : Bool := List.rec (motive := fun _ => Nat → Bool) (fun _ => k (.negSucc 0)) (fun x _ ih i => ife (Nat.beq x c) (k (.ofNat i)) (natK (Nat.succ i) ih)) s 0
noncomputable def cntK (s : List Nat) (c : Nat) (k : Nat → Bool) : Bool := List.rec (motive := fun _ => Nat → Bool) k (fun x _ ih i => ife (Nat.beq x c) (natK (Nat.succ i) ih) (ih i)) s 0
noncomputable def natI (z : Int) (k : Nat → Bool) : Bool := Int.rec (motive := fun _ => Bool) k (fun _ => false) z
/-- A text, a byte. -/
noncomputable def idxP (vs : List AV) (_ : Hp) (k : AV → Bool) : Bool := two2 vs fun a b => qStr a fun s => qInt b fun i z => ask (kEq i .u8) (natI z fun c => ask (Nat.blt c 256) (idxK s c fun i => k (.int .i64 i)))
/-- A text, a text of one byte. -/
noncomputable def oneB (t : List Nat) (k : Nat → Bool) : Bool := List.rec (motive := fun _ => Bool) false (fun c r _ => List.rec (motive := fun _ => Bool) (k c) (fun _ _ _ => false) r) t
noncomputable def idx1P (vs : List AV) (_ : Hp) (k : AV → Bool) : Bool := two2 vs fun a b => qStr a fun s => qStr b fun t => oneB t fun c => idxK s c fun i => k (.int .i64 i)
noncomputable def cnt1P (vs : List AV) (_ : Hp) (k : AV → Bool) : Bool := two2 vs fun a b => qStr a fun s => qStr b fun t => oneB t fun c => cntK s c fun n => k (.int .i64 (.ofNat n))
end Go.Proofs.YtoafcnecjgnbmaaGreatDoor.E

namespace Go.Proofs.YtoafcnecjgnbmaaGreatDoor.S
open Go.RowKit H
attribute [local irreducible] H.CL H.RW H.CW H.Yd H.thenK H.blockQ Go.Calls

/-- The place of the first c; -1 where there is none. -/
def idx (c : UInt8) (l : List UInt8) : Int := Go.Lib.indexByte l c
theorem byte_back (c : UInt8) : (((c.toNat : Int)).toNat).toUInt8 = c := by
  rw [Int.toNat_natCast]; simp

theorem ext_indexByte (l : List UInt8) (c : UInt8) (w : World) : (callFunc 242 #[vs l, vb c]).run Tryz.prog w = .ok (.value (.int .i64 (idx c l))) w := by
  rw [run_callFunc_extern Tryz.func242 (by kernel_rfl) (by kernel_rfl) (by kernel_rfl) (e := Extern.BytealgIndexByte.indexByte) (by kernel_rfl), Lib.run_indexByteString, byte_back]
  rfl
theorem ext_count (l : List UInt8) (c : UInt8) (w : World) : (callFunc 251 #[vs l, vb c]).run Tryz.prog w = .ok (.value (.int .i64 (l.count c : Nat))) w := by
  rw [run_callFunc_extern Tryz.func251 (by kernel_rfl) (by kernel_rfl) (by kernel_rfl) (e := Extern.BytealgCount.count) (by kernel_rfl), Lib.run_countString, byte_back]
  rfl

theorem sliteIndexByte (l : List UInt8) (c : UInt8) (w : World) : Calls Tryz.prog 160 #[vs l, vb c] w fun e w' => w = w' ∧ e = .returned (.int .i64 (idx c l)) := by
  refine H.enter Tryz.func160 Tryz.ntmps160 rfl rfl ?_; dsimp only [H.args]
  repeat' (first | (refine CL.seq ?_) | (refine CL.region ?_) | (refine Gt.nil ?_; refine RW.nilw [0, 1, 4] ?_; dsimp only [H.keep, H.look, H.Fr.put, Nat.beq]) | (refine Gt.assign ?_; refine RW.y (Y.assign rfl) rfl ?_) | (refine Gt.move ?_; refine RW.y (Y.move rfl) rfl ?_))
  refine RW.y (Y.ext rfl (ext_indexByte l c w)) rfl ?_
  repeat' (first | (refine CL.ret ?_) | (refine Gt.nil ?_; refine RW.nilw [0, 1, 4] ?_; dsimp only [H.keep, H.look, H.Fr.put, Nat.beq]) | (refine Gt.assign ?_; refine RW.y (Y.assign rfl) rfl ?_))
  exact FQ.one rfl rfl rfl ⟨rfl, rfl⟩

set_option maxHeartbeats 400000 in
theorem sliteIndex (l : List UInt8) (c : UInt8) (w : World) : Calls Tryz.prog 179 #[vs l, vs [c]] w fun e w' => w = w' ∧ e = .returned (.int .i64 (idx c l)) := by
  have h1 : ([c] : List UInt8).length = 1 := rfl
  refine H.enter Tryz.func179 Tryz.ntmps179 rfl rfl ?_; dsimp only [H.args]
  repeat' (first | (refine CL.seq ?_) | (refine CL.region ?_) | (refine CL.condP rfl (fun _ => ?_) (fun _ => ?_) <;> try (exfalso; omega)) | (refine CL.block ?_) | (refine CL.ret ?_) | (refine Rt.block ?_) | (refine Gt.nil ?_; refine RW.nilw [0, 1, 4, 5, 6, 7, 8, 9, 10, 11, 12, 13, 16, 24, 31, 36, 59, 64, 73, 93, 107, 114, 132, 139] ?_; dsimp only [H.keep, H.look, H.Fr.put, Nat.beq]) | (refine Gt.move ?_; refine RW.y (Y.move rfl) rfl ?_) | (refine Gt.guard ?_; first | (refine RW.part rfl rfl rfl (fun _ => ?_) (fun _ => ?_) <;> try (exfalso; omega)) | (refine RW.on rfl rfl rfl ?_)) | (refine Gt.assign ?_; refine RW.y (Y.assign rfl) rfl ?_) | (refine Gt.pick ?_; (refine RW.y (Y.pickF rfl rfl) rfl ?_)) | (refine Gt.index ?_; refine RW.y (Y.idxs rfl rfl (by omega) (by omega)) rfl ?_) | (refine Gt.len ?_; refine RW.y (Y.lens rfl) rfl ?_) | (refine Gt.eql ?_; first | (refine RW.y (Y.eqi rfl rfl) rfl ?_) | (refine RW.y (Y.eqs rfl rfl) rfl ?_)))
  · rename_i h
    subst h
    refine FQ.one rfl rfl rfl ⟨rfl, ?_⟩
    simp [idx, Go.Lib.indexByte]
  refine RW.fn rfl rfl ((sliteIndexByte l c w).mono ?_)
  rintro e w1 ⟨rfl, rfl⟩
  repeat' (first | (refine CL.ret ?_) | (refine Rt.block ?_) | (refine Gt.nil ?_; refine RW.nilw [0, 1, 4, 5, 6, 7, 8, 9, 10, 11, 12, 13, 16, 24, 31, 36, 59, 64, 73, 93, 107, 114, 132, 139] ?_; dsimp only [H.keep, H.look, H.Fr.put, Nat.beq]) | (refine Gt.assign ?_; refine RW.y (Y.assign rfl) rfl ?_))
  exact FQ.one rfl rfl rfl ⟨rfl, rfl⟩

theorem index (l : List UInt8) (c : UInt8) (w : World) : Calls Tryz.prog 178 #[vs l, vs [c]] w fun e w' => w = w' ∧ e = .returned (.int .i64 (idx c l)) := by
  refine H.enter Tryz.func178 Tryz.ntmps178 rfl rfl ?_; dsimp only [H.args]
  repeat' (first | (refine CL.seq ?_) | (refine CL.region ?_) | (refine Gt.nil ?_; refine RW.nilw [0, 1, 4] ?_; dsimp only [H.keep, H.look, H.Fr.put, Nat.beq]) | (refine Gt.assign ?_; refine RW.y (Y.assign rfl) rfl ?_) | (refine Gt.move ?_; refine RW.y (Y.move rfl) rfl ?_))
  refine RW.fn rfl rfl ((sliteIndex l c w).mono ?_)
  rintro e w1 ⟨rfl, rfl⟩
  repeat' (first | (refine CL.ret ?_) | (refine Gt.nil ?_; refine RW.nilw [0, 1, 4] ?_; dsimp only [H.keep, H.look, H.Fr.put, Nat.beq]) | (refine Gt.assign ?_; refine RW.y (Y.assign rfl) rfl ?_))
  exact FQ.one rfl rfl rfl ⟨rfl, rfl⟩

theorem count (l : List UInt8) (c : UInt8) (w : World) : Calls Tryz.prog 177 #[vs l, vs [c]] w fun e w' => w = w' ∧ e = .returned (.int .i64 (l.count c : Nat)) := by
  have h1 : ([c] : List UInt8).length = 1 := rfl
  refine H.enter Tryz.func177 Tryz.ntmps177 rfl rfl ?_; dsimp only [H.args]
  repeat' (first | (refine CL.seq ?_) | (refine CL.region ?_) | (refine CL.skip ?_) | (refine CL.condP rfl (fun _ => ?_) (fun _ => ?_) <;> try (exfalso; omega)) | (refine Gt.nil ?_; refine RW.nilw [0, 1, 4, 5, 6, 9, 15, 24] ?_; dsimp only [H.keep, H.look, H.Fr.put, Nat.beq]) | (refine Gt.move ?_; refine RW.y (Y.move rfl) rfl ?_) | (refine Gt.assign ?_; refine RW.y (Y.assign rfl) rfl ?_) | (refine Gt.len ?_; refine RW.y (Y.lens rfl) rfl ?_) | (refine Gt.eql ?_; refine RW.y (Y.eqi rfl rfl) rfl ?_) | (refine Gt.index ?_; refine RW.y (Y.idxs rfl rfl (by omega) (by omega)) rfl ?_))
  refine RW.y (Y.ext rfl (ext_count l c w)) rfl ?_
  repeat' (first | (refine CL.ret ?_) | (refine Gt.nil ?_; refine RW.nilw [0, 1, 4, 5, 6, 9, 15, 24] ?_; dsimp only [H.keep, H.look, H.Fr.put, Nat.beq]) | (refine Gt.assign ?_; refine RW.y (Y.assign rfl) rfl ?_))
  exact FQ.one rfl rfl rfl ⟨rfl, rfl⟩

end Go.Proofs.YtoafcnecjgnbmaaGreatDoor.S

set_option linter.constructorNameAsVariable false
set_option linter.unusedVariables false
namespace Go.Proofs.YtoafcnecjgnbmaaGreatDoor.E
open Go Go.RowKit H
attribute [local irreducible] H.CL H.RW H.CW H.Yd H.thenK H.blockQ Go.Calls
theorem idxK_step (x : Nat) (s : List Nat) (c i : Nat) (k : Int → Bool) : (List.rec (motive := fun _ => Nat → Bool) (fun _ => k (.negSucc 0)) (fun x _ ih i => ife (Nat.beq x c) (k (.ofNat i)) (natK (Nat.succ i) ih)) (x :: s) i : Bool) = ife (Nat.beq x c) (k (.ofNat i)) (List.rec (motive := fun _ => Nat → Bool) (fun _ => k (.negSucc 0)) (fun x _ ih i => ife (Nat.beq x c) (k (.ofNat i)) (natK (Nat.succ i) ih)) s (i + 1)) := by
  show ife _ _ (natK _ _) = _
  rw [natK_eq]
theorem ofNat_inj8 {x c : Nat} (hx : x < 256) (hc : c < 256) : UInt8.ofNat x = UInt8.ofNat c ↔ x = c := by
  constructor
  · intro h
    have := congrArg UInt8.toNat h
    simpa [UInt8.toNat_ofNat', Nat.mod_eq_of_lt hx, Nat.mod_eq_of_lt hc] using this
  · rintro rfl; rfl
theorem idxK_go {c : Nat} (hc : c < 256) {k : Int → Bool} : ∀ (s : List Nat) (i : Nat), (List.rec (motive := fun _ => Nat → Bool) (fun _ => k (.negSucc 0)) (fun x _ ih i => ife (Nat.beq x c) (k (.ofNat i)) (natK (Nat.succ i) ih)) s i : Bool) = true → ∃ z, k z = true ∧ (Bytes s → z = if Go.Lib.indexByte (textOf s) (UInt8.ofNat c) = -1 then -1 else Go.Lib.indexByte (textOf s) (UInt8.ofNat c) + i)
  | [], i, h => ⟨_, h, fun _ => rfl⟩
  | x :: s, i, h => by
    rw [idxK_step] at h
    have hge := Go.Lib.indexByte_ge (textOf s) (UInt8.ofNat c)
    rcases ife_ok h with ⟨hb, h2⟩ | ⟨hb, h2⟩
    · obtain rfl := Nat.eq_of_beq_eq_true hb
      refine ⟨_, h2, fun ha => ?_⟩
      have e : Go.Lib.indexByte (textOf (x :: s)) (UInt8.ofNat x) = 0 := by simp [textOf, Go.Lib.indexByte]
      rw [e, if_neg (by decide)]
      simp
    · obtain ⟨z, hz, h3⟩ := idxK_go hc s (i + 1) h2
      refine ⟨z, hz, fun ha => ?_⟩
      have hx : x < 256 := (bytes_cons.1 ha).1
      have h3 := h3 (bytes_cons.1 ha).2
      have hne : ¬ x = c := fun e => by subst e; simp at hb
      have hu : (UInt8.ofNat x == UInt8.ofNat c) = false := beq_false_of_ne fun e => hne ((ofNat_inj8 hx hc).1 e)
      have e : Go.Lib.indexByte (textOf (x :: s)) (UInt8.ofNat c) = if Go.Lib.indexByte (textOf s) (UInt8.ofNat c) = -1 then -1 else Go.Lib.indexByte (textOf s) (UInt8.ofNat c) + 1 := by
        have e1 : Go.Lib.indexByte (textOf (x :: s)) (UInt8.ofNat c) = if UInt8.ofNat x == UInt8.ofNat c then 0 else if Go.Lib.indexByte (textOf s) (UInt8.ofNat c) == -1 then -1 else Go.Lib.indexByte (textOf s) (UInt8.ofNat c) + 1 := rfl
        rw [e1, hu]
        by_cases q : Go.Lib.indexByte (textOf s) (UInt8.ofNat c) = -1 <;> simp [q]
      rw [e]
      by_cases q : Go.Lib.indexByte (textOf s) (UInt8.ofNat c) = -1
      · rw [if_pos q] at h3; rw [if_pos q, if_pos rfl]; exact h3
      · rw [if_neg q] at h3; rw [if_neg q, if_neg (by omega)]; omega
theorem idxK_ok {s : List Nat} {c : Nat} (hc : c < 256) {k : Int → Bool} (h : idxK s c k = true) : ∃ z, k z = true ∧ (Bytes s → z = S.idx (UInt8.ofNat c) (textOf s)) := by
  obtain ⟨z, hz, h2⟩ := idxK_go hc s 0 h
  refine ⟨z, hz, fun ha => ?_⟩
  rw [h2 ha]
  unfold S.idx
  by_cases q : Go.Lib.indexByte (textOf s) (UInt8.ofNat c) = -1
  · rw [if_pos q, q]
  · rw [if_neg q]; simp
theorem cntK_step (x : Nat) (s : List Nat) (c i : Nat) (k : Nat → Bool) : (List.rec (motive := fun _ => Nat → Bool) k (fun x _ ih i => ife (Nat.beq x c) (natK (Nat.succ i) ih) (ih i)) (x :: s) i : Bool) = ife (Nat.beq x c) (List.rec (motive := fun _ => Nat → Bool) k (fun x _ ih i => ife (Nat.beq x c) (natK (Nat.succ i) ih) (ih i)) s (i + 1)) (List.rec (motive := fun _ => Nat → Bool) k (fun x _ ih i => ife (Nat.beq x c) (natK (Nat.succ i) ih) (ih i)) s i) := by
  show ife _ (natK _ _) _ = _
  rw [natK_eq]
theorem cntK_go {c : Nat} {k : Nat → Bool} : ∀ (s : List Nat) (i : Nat), (List.rec (motive := fun _ => Nat → Bool) k (fun x _ ih i => ife (Nat.beq x c) (natK (Nat.succ i) ih) (ih i)) s i : Bool) = true → ∃ z, k z = true ∧ (Bytes s → c < 256 → z = (textOf s).count (UInt8.ofNat c) + i)
  | [], i, h => ⟨i, h, fun _ _ => by simp [textOf]⟩
  | x :: s, i, h => by
    rw [cntK_step] at h
    rcases ife_ok h with ⟨hb, h2⟩ | ⟨hb, h2⟩
    · obtain rfl := Nat.eq_of_beq_eq_true hb
      obtain ⟨z, hz, h3⟩ := cntK_go s (i + 1) h2
      refine ⟨z, hz, fun ha hc => ?_⟩
      have e : (textOf (x :: s)).count (UInt8.ofNat x) = (textOf s).count (UInt8.ofNat x) + 1 := by simp [textOf]
      rw [e, h3 (bytes_cons.1 ha).2 hc]
      omega
    · obtain ⟨z, hz, h3⟩ := cntK_go s i h2
      refine ⟨z, hz, fun ha hc => ?_⟩
      have hx : x < 256 := (bytes_cons.1 ha).1
      have hne : ¬ x = c := fun e => by subst e; simp at hb
      have hu : (UInt8.ofNat x == UInt8.ofNat c) = false := beq_false_of_ne fun e => hne ((ofNat_inj8 hx hc).1 e)
      have e : (textOf (x :: s)).count (UInt8.ofNat c) = (textOf s).count (UInt8.ofNat c) := by
        simp only [textOf, List.map_cons, List.count_cons, hu]; simp
      rw [e, h3 (bytes_cons.1 ha).2 hc]
theorem natI_ok {z : Int} {k : Nat → Bool} (h : natI z k = true) : ∃ n : Nat, z = n ∧ k n = true := by
  cases z with
  | ofNat n => exact ⟨n, rfl, h⟩
  | negSucc n => cases h
theorem oneB_ok {t : List Nat} {k : Nat → Bool} (h : oneB t k = true) : ∃ c, t = [c] ∧ k c = true := by
  cases t with
  | nil => cases h
  | cons c r => cases r with
    | nil => exact ⟨c, rfl, h⟩
    | cons _ _ => cases h
theorem idxP_ok {f : FuncId} (H : ∀ (l : List UInt8) (c : UInt8) (w : World), Calls Tryz.prog f #[vs l, vb c] w fun e w' => w = w' ∧ e = .returned (.int .i64 (S.idx c l))) {fl : Nat} : Pr1 Tryz.prog fl f fun _ vs h kr _ => idxP vs h fun v => kr v h := by
  refine Pr1.val fun ps h k hk => ?_
  obtain ⟨a, b, rfl, hk⟩ := two2_ok hk
  obtain ⟨s, rfl, hk⟩ := qStr_ok (x := a) hk
  obtain ⟨i, z, rfl, hk⟩ := qInt_ok (x := b) hk
  obtain ⟨hi, hk⟩ := ask_ok hk
  obtain rfl := kEq_ok hi
  obtain ⟨c, rfl, hk⟩ := natI_ok hk
  obtain ⟨hc, hk⟩ := ask_ok hk
  have hc := blt_lt hc
  obtain ⟨z, hz, hq⟩ := idxK_ok hc hk
  refine ⟨_, hz, fun S' w0 r w xs hR hxs => ?_⟩
  obtain ⟨x, y, hx, hy, rfl⟩ := reals2 hxs
  obtain ⟨ha, rfl⟩ := real_str hx
  obtain rfl := real_int hy
  obtain rfl := hq ha
  have e : (.int .u8 (c : Int) : Value) = vb (UInt8.ofNat c) := by
    simp [vb, UInt8.toNat_ofNat', Nat.mod_eq_of_lt hc]
  rw [e]
  refine (H (textOf s) (UInt8.ofNat c) w).mono ?_
  rintro e w' ⟨rfl, rfl⟩
  exact ⟨_, rfl, Kept.refl _ _, rfl⟩
theorem cnt1P_ok {f : FuncId} (H : ∀ (l : List UInt8) (c : UInt8) (w : World), Calls Tryz.prog f #[vs l, vs [c]] w fun e w' => w = w' ∧ e = .returned (.int .i64 (l.count c : Nat))) {fl : Nat} : Pr1 Tryz.prog fl f fun _ vs h kr _ => cnt1P vs h fun v => kr v h := by
  refine Pr1.val fun ps h k hk => ?_
  obtain ⟨a, b, rfl, hk⟩ := two2_ok hk
  obtain ⟨s, rfl, hk⟩ := qStr_ok (x := a) hk
  obtain ⟨t, rfl, hk⟩ := qStr_ok (x := b) hk
  obtain ⟨c, rfl, hk⟩ := oneB_ok hk
  obtain ⟨z, hz, hq⟩ := cntK_go s 0 hk
  refine ⟨_, hz, fun S' w0 r w xs hR hxs => ?_⟩
  obtain ⟨x, y, hx, hy, rfl⟩ := reals2 hxs
  obtain ⟨ha, rfl⟩ := real_str hx
  obtain ⟨hb, rfl⟩ := real_str hy
  have hc := (bytes_cons.1 hb).1
  obtain rfl := hq ha hc
  refine (H (textOf s) (UInt8.ofNat c) w).mono ?_
  rintro e w' ⟨rfl, rfl⟩
  exact ⟨_, rfl, Kept.refl _ _, rfl⟩
theorem pr_106 {fl : Nat} : Pr1 Tryz.prog fl 104 fun _ vs h kr _ => idxP vs h fun v => kr v h := by
  refine idxP_ok fun l c w => ?_
  refine H.enter Tryz.func104 Tryz.ntmps104 rfl rfl ?_; dsimp only [H.args]
  repeat' (first | (refine CL.seq ?_) | (refine CL.region ?_) | (refine CL.skip ?_) | (refine CL.condP rfl (fun _ => ?_) (fun _ => ?_) <;> try (exfalso; omega)) | (refine CL.condT rfl ?_) | (refine CL.condF rfl ?_) | (refine CL.cond rfl (fun _ => ?_) (fun _ => ?_)) | (refine CL.block ?_) | (refine CL.exit ?_) | (refine Ex.then ?_) | (refine Ex.hit ?_) | (refine Ex.miss rfl ?_) | (refine CL.ret ?_) | (refine Rt.then ?_) | (refine Rt.block ?_) | (refine Pn.then ?_) | (refine Pn.block ?_) | (refine CL.done ?_) | (refine Nm.block ?_) | (refine Nm.then ?_) | (refine Gt.nil ?_; refine RW.nilw [0, 1, 4] ?_; dsimp only [H.keep, H.look, H.Fr.put, Nat.beq]) | (refine Gt.assign ?_; refine RW.y (Y.assign rfl) rfl ?_) | (refine Gt.move ?_; refine RW.y (Y.move rfl) rfl ?_))
  refine RW.fn rfl rfl ((S.sliteIndexByte l c w).mono ?_)
  rintro e w1 ⟨rfl, rfl⟩
  repeat' (first | (refine CL.seq ?_) | (refine CL.region ?_) | (refine CL.skip ?_) | (refine CL.condP rfl (fun _ => ?_) (fun _ => ?_) <;> try (exfalso; omega)) | (refine CL.condT rfl ?_) | (refine CL.condF rfl ?_) | (refine CL.cond rfl (fun _ => ?_) (fun _ => ?_)) | (refine CL.block ?_) | (refine CL.exit ?_) | (refine Ex.then ?_) | (refine Ex.hit ?_) | (refine Ex.miss rfl ?_) | (refine CL.ret ?_) | (refine Rt.then ?_) | (refine Rt.block ?_) | (refine Pn.then ?_) | (refine Pn.block ?_) | (refine CL.done ?_) | (refine Nm.block ?_) | (refine Nm.then ?_) | (refine Gt.nil ?_; refine RW.nilw [0, 1, 4] ?_; dsimp only [H.keep, H.look, H.Fr.put, Nat.beq]) | (refine Gt.assign ?_; refine RW.y (Y.assign rfl) rfl ?_) | (refine Gt.move ?_; refine RW.y (Y.move rfl) rfl ?_))
  exact FQ.one rfl rfl rfl ⟨rfl, rfl⟩
theorem pr_162 {fl : Nat} : Pr1 Tryz.prog fl 160 fun _ vs h kr _ => idxP vs h fun v => kr v h := idxP_ok S.sliteIndexByte
theorem pr_179 {fl : Nat} : Pr1 Tryz.prog fl 177 fun _ vs h kr _ => cnt1P vs h fun v => kr v h := cnt1P_ok S.count
end Go.Proofs.YtoafcnecjgnbmaaGreatDoor.E

namespace Go.Proofs
open Go.Shelf
def Tryz.lays156_ren : Go.Shelf.Ren := ⟨fun | 156 => 431 | 165 => 498 | 166 => 459 | 169 => 461 | 240 => 510 | 241 => 527 | 276 => 532 | 277 => 546 | n => n, fun | 31 => 59 | 9 => 9 | 3 => 3 | 4 => 4 | 0 => 0 | 20 => 20 | 72 => 599 | 76 => 375 | 70 => 597 | 37 => 60 | 75 => 201 | 127 => 625 | 164 => 435 | 5 => 5 | 80 => 167 | n => n, fun | n => n⟩
theorem Tryz.lays156 : Go.Proofs.Lays.n156 Tryz.prog Tryz.lays156_ren := {
  mixed := by kernel_rfl
  f156 := Tryz.func431.trans (congrArg some (by kernel_rfl))
  f165 := Tryz.func498.trans (congrArg some (by kernel_rfl))
  f166 := Tryz.func459.trans (congrArg some (by kernel_rfl))
  f169 := Tryz.func461.trans (congrArg some (by kernel_rfl))
  f240 := Tryz.func510.trans (congrArg some (by kernel_rfl))
  f241 := Tryz.func527.trans (congrArg some (by kernel_rfl))
  f276 := Tryz.func532.trans (congrArg some (by kernel_rfl))
  f277 := Tryz.func546.trans (congrArg some (by kernel_rfl))
  t0 := Tryz.underlying0
  a0 := Tryz.isAgg0
  z0 := Tryz.sizeOf0
  v0 := Tryz.zeroValue0
  t3 := Tryz.underlying3
  a3 := Tryz.isAgg3
  z3 := Tryz.sizeOf3
  v3 := Tryz.zeroValue3
  t4 := Tryz.underlying4
  a4 := Tryz.isAgg4
  z4 := Tryz.sizeOf4
  v4 := Tryz.zeroValue4
  t9 := Tryz.underlying9
  a9 := Tryz.isAgg9
  z9 := Tryz.sizeOf9
  v9 := Tryz.zeroValue9
  t20 := Tryz.underlying20
  a20 := Tryz.isAgg20
  z20 := Tryz.sizeOf20
  v20 := Tryz.zeroValue20
  t31 := Tryz.underlying59
  a31 := Tryz.isAgg59
  z31 := Tryz.sizeOf59
  v31 := Tryz.zeroValue59
  t37 := Tryz.underlying60
  a37 := Tryz.isAgg60
  z37 := Tryz.sizeOf60
  v37 := Tryz.zeroValue60
  t70 := Tryz.underlying597
  a70 := Tryz.isAgg597
  z70 := Tryz.sizeOf597
  v70 := Tryz.zeroValue597
  t72 := Tryz.underlying599
  a72 := Tryz.isAgg599
  z72 := Tryz.sizeOf599
  v72 := Tryz.zeroValue599
  t75 := Tryz.underlying201
  a75 := Tryz.isAgg201
  z75 := Tryz.sizeOf201
  v75 := Tryz.zeroValue201
  t76 := Tryz.underlying375
  a76 := Tryz.isAgg375
  z76 := Tryz.sizeOf375
  v76 := Tryz.zeroValue375
  t127 := Tryz.underlying625
  a127 := Tryz.isAgg625
  z127 := Tryz.sizeOf625
  v127 := Tryz.zeroValue625
  t164 := Tryz.underlying435
  a164 := Tryz.isAgg435
  z164 := Tryz.sizeOf435
  v164 := Tryz.zeroValue435 }
theorem Tryz.Builder_Extra_156 : Builder.Extra Tryz.prog Tryz.lays156_ren := {
  sizeBuilder := by kernel_rfl
  liesBuilder := by kernel_rfl
  t5 := Tryz.underlying5
  a5 := Tryz.isAgg5
  z5 := Tryz.sizeOf5
  v5 := Tryz.zeroValue5
  infoByte := by kernel_rfl
  cellsByte := by kernel_rfl
  sizeByte := by kernel_rfl
  neB5 := by decide }
open Go.RowKit in
/-- No element: the empty string; the world is as it was. (Whatever the slice's address and capacity: a nil slice too.) (LAID: no walk: one application.) -/
theorem Tryz.strings_Join_none (a : Option Addr) (c : Nat) (sep : ByteArray) (w : World) :
    Calls Tryz.prog 431 #[.slice a 0 c, .string sep] w fun e w' => e = .returned (.string ⟨#[]⟩) ∧ w' = w := Any.strings_Join_none Tryz.lays156 Tryz.Builder_Extra_156 a c sep w
open Go.RowKit in
/-- strings.Join: "Join concatenates the elements of its first argument to create a single string. The separator string sep is placed between elements in the resulting string.": HOWEVER MANY ELEMENTS. Below the heap's end the world is as it was. (LAID: no walk: one application.) -/
theorem Tryz.strings_Join (bk o c : Nat) (xs : List ByteArray) (sep : ByteArray) (w : World) (hcells : ∀ (j : Nat) x, xs[j]? = some x → w.cell? ⟨bk, o + j, none⟩ = some (.string x)) (hbk : bk < w.heap.size) (hN : xs.length ≤ 140737488355328) (hcap : xs.length ≤ c) (hlen : (Lib.join (xs.map (·.data.toList)) sep.data.toList).length ≤ 140737488355328) :
    Calls Tryz.prog 431 #[.slice (some ⟨bk, o, none⟩) xs.length c, .string sep] w fun e w' => e = .returned (.string ⟨(Lib.join (xs.map (·.data.toList)) sep.data.toList).toArray⟩) ∧ Below w.heap.size w w' := Any.strings_Join Tryz.lays156 Tryz.Builder_Extra_156 bk o c xs sep w hcells hbk hN hcap hlen
def Tryz.lays143_ren : Go.Shelf.Ren := ⟨fun | 143 => 178 | 219 => 179 | 217 => 160 | 225 => 252 | 224 => 253 | 267 => 254 | 266 => 242 | 314 => 333 | n => n, fun | 9 => 9 | 3 => 3 | 4 => 4 | 5 => 5 | 46 => 152 | 146 => 456 | 51 => 170 | n => n, fun | 1 => 0 | n => n⟩
theorem Tryz.lays143 : Go.Proofs.Lays.n143 Tryz.prog Tryz.lays143_ren := {
  mixed := by kernel_rfl
  f143 := Tryz.func178.trans (congrArg some (by kernel_rfl))
  f217 := Tryz.func160.trans (congrArg some (by kernel_rfl))
  f219 := Tryz.func179.trans (congrArg some (by kernel_rfl))
  f224 := Tryz.func253.trans (congrArg some (by kernel_rfl))
  f225 := Tryz.func252.trans (congrArg some (by kernel_rfl))
  f266 := Tryz.func242.trans (congrArg some (by kernel_rfl))
  f267 := Tryz.func254.trans (congrArg some (by kernel_rfl))
  f314 := Tryz.func333.trans (congrArg some (by kernel_rfl))
  t3 := Tryz.underlying3
  a3 := Tryz.isAgg3
  z3 := Tryz.sizeOf3
  v3 := Tryz.zeroValue3
  t4 := Tryz.underlying4
  a4 := Tryz.isAgg4
  z4 := Tryz.sizeOf4
  v4 := Tryz.zeroValue4
  t5 := Tryz.underlying5
  a5 := Tryz.isAgg5
  z5 := Tryz.sizeOf5
  v5 := Tryz.zeroValue5
  t9 := Tryz.underlying9
  a9 := Tryz.isAgg9
  z9 := Tryz.sizeOf9
  v9 := Tryz.zeroValue9
  t46 := Tryz.underlying152
  a46 := Tryz.isAgg152
  z46 := Tryz.sizeOf152
  v46 := Tryz.zeroValue152
  t51 := Tryz.underlying170
  a51 := Tryz.isAgg170
  z51 := Tryz.sizeOf170
  v51 := Tryz.zeroValue170
  t146 := Tryz.underlying456
  a146 := Tryz.isAgg456
  z146 := Tryz.sizeOf456
  v146 := Tryz.zeroValue456
  g1 := by kernel_rfl }
open Go.RowKit Go.Lib in
/-- strings.Index: "Index returns the index of the first instance of substr in s, or -1 if substr is not present in s.": IT RETURNS 'Lib.index s substr'; the world is as it was. (LAID: no walk: one application.) -/
theorem Tryz.strings_Index (s sub : ByteArray) (m : Int) (w : World) (hs : s.size < 4294967281) (hm : w.cell? ⟨0, 0, none⟩ = some (.int .i64 m)) :
    Calls Tryz.prog 178 #[.string s, .string sub] w fun e w' => e = .returned (.int .i64 (Lib.index s.data.toList sub.data.toList)) ∧ w' = w := Any.strings_Index Tryz.lays143 s sub m w hs hm
def Tryz.laysM143_ren : Go.Shelf.Ren := ⟨fun | 143 => 178 | 219 => 179 | 217 => 160 | 225 => 252 | 224 => 253 | 267 => 254 | 266 => 242 | 314 => 333 | n => n, fun | 9 => 9 | 3 => 3 | 4 => 4 | 5 => 5 | 46 => 152 | 146 => 456 | 51 => 170 | n => n, fun | 1 => 0 | n => n⟩
end Go.Proofs

namespace Go.Proofs.YtoafcnecjgnbmaaGreatDoor.S
open Go.RowKit H

theorem strings_data (l : List (List UInt8)) : (l.map B).map (·.data.toList) = l := by
  rw [List.map_map]
  conv => rhs; rw [← List.map_id l]
  exact List.map_congr_left fun a _ => rfl

theorem join (v : Value) (l : List (List UInt8)) (sep : List UInt8) (w : World) (hs : Sl w 1 v l.length (sv l)) (hlen : (Go.Lib.join l sep).length ≤ 140737488355328) (hl : l.length ≤ 140737488355328) :
    Calls Tryz.prog 431 #[v, vs sep] w fun e w' => e = .returned (vs (Go.Lib.join l sep)) ∧ K0 w w' := by
  rcases hs.2.2 with ⟨p, rfl, h0⟩ | ⟨g, off, cap, cur, e, fz, rfl, hg, hn, hm, ho, ht⟩
  · have : l = [] := List.eq_nil_of_length_eq_zero h0
    subst this
    refine (Tryz.strings_Join_none p 0 (B sep) w).mono fun e w' ⟨he, hw⟩ => ⟨he, ?_⟩
    rw [hw]; exact Kept.refl _ _
  · have h := Tryz.strings_Join g off cap (l.map B) (B sep) w (fun j x hj => by
        rw [List.getElem?_map, Option.map_eq_some_iff] at hj
        obtain ⟨s, hs', rfl⟩ := hj
        have hc := hs.cell (j := j) (u := vs s) (by rw [List.getElem?_map, hs']; rfl)
        simpa [Value.spot, addr_add] using hc) (lt_of_at hg) (by rw [List.length_map]; exact hl) (by rw [List.length_map]; exact hn) (by rw [strings_data]; exact hlen)
    rw [strings_data, List.length_map] at h
    exact h.mono fun e w' ⟨he, hb⟩ => ⟨he, Kept.of_below hb⟩
end Go.Proofs.YtoafcnecjgnbmaaGreatDoor.S

set_option linter.constructorNameAsVariable false
set_option linter.unusedVariables false
namespace Go.Proofs.YtoafcnecjgnbmaaGreatDoor.E
open Go Go.RowKit H
attribute [local irreducible] H.CL H.RW H.CW H.Yd H.thenK H.blockQ Go.Calls
/-- A slice of elements of z cells, with all its cells. -/
noncomputable def slK (z : Nat) (v : AV) (h : Hp) (k : Nat → List AV → Bool) : Bool := match v with
  | .nils => k 0 []
  | .sl i o n c => ask (Nat.ble n c) (ask (Nat.ble c maxLen) (cellsK h i fun _ _ _ cs => lenK cs fun e => ask (Nat.ble (Nat.add o (Nat.mul c z)) e) (dropK cs o fun l => takeK l (Nat.mul n z) fun l => k n l)))
  | .slx i o n y => ask (Nat.beq y z) (cellsK h i fun _ _ _ cs => dropK cs o fun l => takeK l (Nat.mul n z) fun l => lenK l fun m => ask (Nat.beq m (Nat.mul n z)) (k n l))
  | _ => false
theorem ble_of {a b : Nat} (h : Nat.ble a b = true) : a ≤ b := Nat.le_of_ble_eq_true h
theorem slK_ok {z : Nat} {v : AV} {h : Hp} {k : Nat → List AV → Bool} (hk : slK z v h k = true) : ∃ m l, k m l = true ∧ ∀ S w0 fl r w u, Rel S w0 fl r h w → real r v = some u → ∃ us, reals r l = some us ∧ Sl w z u m us := by
  cases v with
  | nils =>
    refine ⟨0, [], hk, fun S w0 fl r w u hR hu => ⟨[], reals_nil, ?_⟩⟩
    cases hu
    exact Sl.nil w z
  | sl i o n c =>
    obtain ⟨h1, hk⟩ := ask_ok hk
    obtain ⟨h2, hk⟩ := ask_ok hk
    obtain ⟨t, opn, ro, cs, hb, hk⟩ := cellsK_ok hk
    rw [lenK_eq] at hk
    obtain ⟨h3, hk⟩ := ask_ok hk
    rw [dropK_eq, takeK_eq] at hk
    replace h1 := ble_of h1
    replace h2 := ble_of h2
    replace h3 : o + c * z ≤ cs.length := ble_of h3
    refine ⟨n, _, hk, fun S w0 fl r w u hR hu => ?_⟩
    obtain ⟨p, hp, rfl⟩ := real_sl hu
    obtain ⟨cc, fz, us, g1, g2, g3, g4, g5, g6⟩ := hR.at hp hb
    have hnc : n * z ≤ c * z := Nat.mul_le_mul_right z h1
    have hus := reals_take (n * z) (reals_drop o g3)
    refine ⟨_, hus, ?_, Nat.le_trans h1 h2, .inr ⟨p.1, o, c, cc, t, fz, rfl, g1, h1, h2, ?_, ?_⟩⟩
    · rw [List.length_take, List.length_drop, reals_len g3]; omega
    · omega
    · rw [g4, List.drop_take, List.take_take]
      congr 1
      rw [Nat.min_eq_left]
      show n * z ≤ cs.length - o
      omega
  | slx i o n y =>
    obtain ⟨h1, hk⟩ := ask_ok hk
    obtain ⟨t, opn, ro, cs, hb, hk⟩ := cellsK_ok hk
    rw [dropK_eq, takeK_eq, lenK_eq] at hk
    obtain ⟨h3, hk⟩ := ask_ok hk
    obtain rfl := Nat.eq_of_beq_eq_true h1
    replace h3 : ((cs.drop o).take (n * y)).length = n * y := Nat.eq_of_beq_eq_true h3
    refine ⟨n, _, hk, fun S w0 fl r w u hR hu => ?_⟩
    obtain ⟨p, hp, hy, h4, h5, rfl⟩ := real_slx hu
    obtain ⟨cc, fz, us, g1, g2, g3, g4, g5, g6⟩ := hR.at hp hb
    have hus := reals_take (n * y) (reals_drop o g3)
    have hn : n ≤ (p.2 - o) / y := (Nat.le_div_iff_mul_le hy).2 (by omega)
    refine ⟨_, hus, (reals_len hus).trans h3, Nat.le_trans hn h5, .inr ⟨p.1, o, _, cc, t, fz, rfl, g1, hn, h5, ?_, ?_⟩⟩
    · have := Nat.div_mul_le_self (p.2 - o) y
      rcases Nat.lt_or_ge p.2 o with c | c
      · have e : p.2 - o = 0 := by omega
        rw [e, Nat.zero_div] at hn ⊢
        omega
      · omega
    · rw [List.length_take, List.length_drop] at h3
      rw [g4, List.drop_take, List.take_take]
      congr 1
      rw [Nat.min_eq_left]
      omega
  | _ => cases hk
/-- Texts with a text between. -/
noncomputable def joinL (sep : List Nat) (l : List AV) : (List Nat → Bool) → Bool := List.rec (motive := fun _ => (List Nat → Bool) → Bool) (fun k => k []) (fun x t ih k => qStr x fun a => List.rec (motive := fun _ => Bool) (k a) (fun _ _ _ => ih fun r => catK sep r fun r => catK a r k) t) l
theorem join_two (a b : List UInt8) (l : List (List UInt8)) (sep : List UInt8) : Go.Lib.join (a :: b :: l) sep = a ++ (sep ++ Go.Lib.join (b :: l) sep) := by
  simp [Go.Lib.join, List.intercalate]
theorem joinL_ok {sep : List Nat} : ∀ {l : List AV} {k : List Nat → Bool}, joinL sep l k = true → ∃ s, k s = true ∧ ∀ r us, reals r l = some us → ∃ ts, us = sv ts ∧ (Bytes sep → textOf s = Go.Lib.join ts (textOf sep) ∧ Bytes s)
  | [], k, h => ⟨[], h, fun r us hu => by
      rw [reals_nil] at hu; cases hu
      exact ⟨[], rfl, fun _ => ⟨rfl, rfl⟩⟩⟩
  | [x], k, h => by
    obtain ⟨a, rfl, hk⟩ := qStr_ok (x := x) h
    refine ⟨a, hk, fun r us hu => ?_⟩
    obtain ⟨u, hx, rfl⟩ := reals1 hu
    obtain ⟨ha, rfl⟩ := real_str hx
    exact ⟨[textOf a], rfl, fun _ => ⟨by simp [Go.Lib.join_one], ha⟩⟩
  | x :: y :: l, k, h => by
    obtain ⟨a, rfl, hk⟩ := qStr_ok (x := x) h
    obtain ⟨s, hs, h2⟩ := joinL_ok (l := y :: l) hk
    rw [catK_eq, catK_eq] at hs
    refine ⟨_, hs, fun r us hu => ?_⟩
    obtain ⟨u, t, hx, hl, rfl⟩ := reals_cons.1 hu
    obtain ⟨ha, rfl⟩ := real_str hx
    obtain ⟨ts, rfl, h3⟩ := h2 r t hl
    refine ⟨textOf a :: ts, rfl, fun hb => ?_⟩
    obtain ⟨h4, h5⟩ := h3 hb
    have hn : ts ≠ [] := fun c => by
      subst c
      have := reals_len hl
      simp at this
    obtain ⟨b, ts, rfl⟩ := List.exists_cons_of_ne_nil hn
    rw [join_two, text_app, text_app, h4]
    refine ⟨rfl, ?_⟩
    simp only [Bytes, List.all_append, Bool.and_eq_true] at *
    exact ⟨ha, hb, h5⟩
noncomputable def joinP (vs : List AV) (h : Hp) (k : AV → Bool) : Bool := two2 vs fun a b => slK 1 a h fun n xs => ask (Nat.ble n 140737488355328) (qStr b fun sep => joinL sep xs fun s => lenK s fun m => ask (Nat.ble m 140737488355328) (k (.str s)))
theorem pr_433 {fl : Nat} : Pr1 Tryz.prog fl 431 fun _ vs h kr _ => joinP vs h fun v => kr v h := by
  refine Pr1.val fun ps h k hk => ?_
  obtain ⟨a, b, rfl, hk⟩ := two2_ok hk
  replace hk : slK 1 a h (fun n xs => ask (Nat.ble n 140737488355328) (qStr b fun sep => joinL sep xs fun s => lenK s fun m => ask (Nat.ble m 140737488355328) (k (.str s)))) = true := hk
  obtain ⟨n, xs, hk, hS⟩ := slK_ok hk
  obtain ⟨hn, hk⟩ := ask_ok hk
  obtain ⟨sep, rfl, hk⟩ := qStr_ok (x := b) hk
  replace hk : joinL sep xs (fun s => lenK s fun m => ask (Nat.ble m 140737488355328) (k (.str s))) = true := hk
  obtain ⟨s, hk, hj⟩ := joinL_ok hk
  rw [lenK_eq] at hk
  obtain ⟨hm, hk⟩ := ask_ok hk
  refine ⟨_, hk, fun S' w0 r w ys hR hys => ?_⟩
  obtain ⟨x, y, hx, hy, rfl⟩ := reals2 hys
  obtain ⟨hb, rfl⟩ := real_str hy
  obtain ⟨us, hus, hsl⟩ := hS _ _ _ _ _ _ hR hx
  obtain ⟨ts, rfl, hj⟩ := hj r us hus
  obtain ⟨h1, h2⟩ := hj hb
  have hlen : n = ts.length := by simpa using hsl.len.symm
  subst hlen
  refine (S.join x ts (textOf sep) w hsl (by rw [← h1, text_len]; exact ble_of hm) (ble_of hn)).mono ?_
  rintro e w' ⟨rfl, k'⟩
  exact ⟨_, rfl, k', by rw [← h1]; simp only [real]; rw [if_pos h2]⟩
end Go.Proofs.YtoafcnecjgnbmaaGreatDoor.E

set_option linter.constructorNameAsVariable false
set_option linter.unusedVariables false
namespace Go.Proofs.YtoafcnecjgnbmaaGreatDoor.E
open Go Go.RowKit H
attribute [local irreducible] H.CL H.RW H.CW H.Yd H.thenK H.blockQ Go.Calls
/-- A function that yields a value and another memory. -/
theorem Pr1.mem {P : Program} {fl : Nat} {f : FuncId} {p : List AV → Hp → KV → Bool} (H : ∀ vs h k, p vs h k = true → ∃ v h', k v h' = true ∧ ∀ S w0 r w xs, Rel S w0 fl r h w → reals r vs = some xs → Calls P f xs.toArray w fun e w' => ∃ r' x, e = .returned x ∧ Ext r r' ∧ Rel S w0 fl r' h' w' ∧ real r' v = some x) : Pr1 P fl f fun _ vs h kr _ => p vs h kr := by
  intro call _ g vs h kr kp hk
  rcases ife_ok hk with ⟨hb, hk2⟩ | ⟨_, hk2⟩
  · obtain rfl := Nat.eq_of_beq_eq_true hb
    exact .inl (H vs h _ hk2)
  · cases hk2
noncomputable def ccP (fl : Nat) (ty : TypeId) (vs : List AV) (h : Hp) (k : KV) : Bool := one1 vs fun v => qPtr v fun i o => ask (Nat.beq o 0) (cellsK h i fun t op ro cs => match cs with
  | [.nilp, b] => ask (Nat.ble fl i) (ask (Nat.beq t ty) (ife op false (ife ro false (putH h i (.cells t op ro [.ptr i 0, b]) fun h => k (.tup []) h))))
  | [.ptr j 0, _] => ask (Nat.beq i j) (k (.tup []) h)
  | _ => false)
theorem pr_512 {fl : Nat} : Pr1 Tryz.prog fl 510 fun _ vs h kr _ => ccP fl 599 vs h kr := by
  refine Pr1.mem fun ps h k hk => ?_
  obtain ⟨v, rfl, hk⟩ := one1_ok hk
  obtain ⟨i, o, rfl, hk⟩ := qPtr_ok (x := v) hk
  obtain ⟨ho, hk⟩ := ask_ok hk
  obtain rfl := Nat.eq_of_beq_eq_true ho
  obtain ⟨t, op, ro, cs, hb, hk⟩ := cellsK_ok hk
  split at hk
  · rename_i b
    obtain ⟨hfl, hk⟩ := ask_ok hk
    obtain ⟨ht, hk⟩ := ask_ok hk
    obtain rfl := Nat.eq_of_beq_eq_true ht
    rcases ife_ok hk with ⟨_, hk⟩ | ⟨hop, hk⟩
    · cases hk
    rcases ife_ok hk with ⟨_, hk⟩ | ⟨hro, hk⟩
    · cases hk
    rw [putH_eq] at hk
    refine ⟨_, _, hk, fun S' w0 r w xs hR hxs => ?_⟩
    obtain ⟨x, hx, rfl⟩ := reals1 hxs
    obtain ⟨p, hp, rfl⟩ := real_ptr hx
    obtain ⟨c, fz, us, e1, e2, e3, e4, e5, e6, e7⟩ := hR.at hp hb
    have h2 : p.2 = 2 := (e6 hop).symm
    obtain ⟨u0, l, hu0, hl, rfl⟩ := reals_cons.1 e3
    obtain ⟨u1, hu1, rfl⟩ := reals1 hl
    cases hu0
    have hc : c = #[.pointer none, u1] := by
      apply Array.ext'
      rw [List.take_of_length_le (by simp [e2, h2])] at e4
      exact e4.symm
    subst hc
    have hnf : fz.1 = fz.2 ∨ 2 ≤ fz.1 := by
      have := e7 hro
      omega
    refine (Any.Builder_copyCheck_fresh (ρ := Tryz.lays156_ren) { Tryz.lays156 with } Tryz.Builder_Extra_156.toX72 p.1 w (by simp [World.cell?, e1]) (by simp [World.shape?, e1]; rfl) (by
      simp only [World.frozen?, e1]
      rcases hnf with q | q
      · simp; omega
      · simp; omega)).mono ?_
    rintro e w' ⟨rfl, rfl⟩
    refine ⟨r, _, rfl, Ext.refl r, hR.put (ble_of hfl) hp hb (Kept.setCell w ⟨p.1, 0, none⟩ _) ⟨#[.pointer (some ⟨p.1, 0, none⟩), u1], fz, _, H.heap_setCell_same e1 _, h2.symm, reals_cons.2 ⟨_, _, hx, reals_cons.2 ⟨_, _, hu1, reals_nil, rfl⟩, rfl⟩, by simp, by rw [h2]; exact Nat.le_refl 2, fun _ => h2.symm, e7⟩, by simp [real, reals]⟩
  · rename_i j b
    obtain ⟨hj, hk2⟩ := ask_ok hk
    obtain rfl := Nat.eq_of_beq_eq_true hj
    refine ⟨_, _, hk2, fun S' w0 r w xs hR hxs => ?_⟩
    obtain ⟨x, hx, rfl⟩ := reals1 hxs
    obtain ⟨p, hp, rfl⟩ := real_ptr hx
    obtain ⟨c, fz, us, e1, e2, e3, e4, e5, e6, e7⟩ := hR.at hp hb
    obtain ⟨u0, l, hu0, hl, rfl⟩ := reals_cons.1 e3
    obtain ⟨q, hq, rfl⟩ := real_ptr hu0
    rw [hp] at hq; cases hq
    refine (Any.Builder_copyCheck_used (ρ := Tryz.lays156_ren) { Tryz.lays156 with } Tryz.Builder_Extra_156.toX72 p.1 w ?_).mono ?_
    · have : c.toList[0]? = some (.pointer (some ⟨p.1, 0, none⟩)) := by
        have h0 : (c.toList.take 2)[0]? = c.toList[0]? := by simp
        obtain ⟨u1, hu1, rfl⟩ := reals1 hl
        have e4' : [Value.pointer (some ⟨p.1, 0, none⟩), u1] = c.toList.take 2 := e4
        rw [← h0, ← e4']; rfl
      simp only [World.cell?, e1]
      simpa using this
    · rintro e w' ⟨rfl, rfl⟩
      exact ⟨r, _, rfl, Ext.refl r, hR, by simp [real, reals]⟩
  · cases hk
end Go.Proofs.YtoafcnecjgnbmaaGreatDoor.E

namespace Go.Proofs.YtoafcnecjgnbmaaGreatDoor.S
open Go.RowKit H
attribute [local irreducible] H.CL H.RW H.CW H.Yd H.thenK H.blockQ Go.Calls

def lastIdxA (c : UInt8) (l : List UInt8) : Nat → Int
  | 0 => -1
  | n + 1 => if l.getD n 0 = c then (n : Int) else lastIdxA c l n
def lastIdx (c : UInt8) (l : List UInt8) : Int := lastIdxA c l l.length
end Go.Proofs.YtoafcnecjgnbmaaGreatDoor.S

namespace Go.Proofs.YtoafcnecjgnbmaaGreatDoor.S

/-- What stands between the bytes c. -/
def splitB (c : UInt8) : List UInt8 → List (List UInt8)
  | [] => [[]]
  | x :: r => if x = c then [] :: splitB c r else (x :: (splitB c r).headD []) :: (splitB c r).tail

theorem split_idx (c : UInt8) : ∀ (l : List UInt8), (Go.Lib.indexByte l c = -1 ∧ l.count c = 0 ∧ splitB c l = [l]) ∨
    ∃ m : Nat, Go.Lib.indexByte l c = (m : Int) ∧ m < l.length ∧ l.count c = (l.drop (m + 1)).count c + 1 ∧ splitB c l = l.take m :: splitB c (l.drop (m + 1)) := by
  intro l
  induction l with
  | nil => exact .inl ⟨rfl, rfl, rfl⟩
  | cons x r ih =>
    by_cases hx : x = c
    · subst hx
      refine .inr ⟨0, ?_, by simp, by simp, ?_⟩
      · simp [Go.Lib.indexByte]
      · simp [splitB]
    · have hx' : (x == c) = false := by simpa using hx
      rcases ih with ⟨h1, h2, h3⟩ | ⟨m, h1, h2, h3, h4⟩
      · refine .inl ⟨?_, ?_, ?_⟩
        · simp [Go.Lib.indexByte, hx', h1]
        · rw [List.count_cons, hx', h2]; rfl
        · rw [splitB, if_neg hx, h3]; rfl
      · refine .inr ⟨m + 1, ?_, by simpa using h2, ?_, ?_⟩
        · have : ((m : Int) == -1) = false := by rw [beq_eq_false_iff_ne]; omega
          simp [Go.Lib.indexByte, hx', h1, this]
        · rw [List.count_cons, hx', h3]; rfl
        · rw [splitB, if_neg hx, h4]; rfl
end Go.Proofs.YtoafcnecjgnbmaaGreatDoor.S

namespace Go.Proofs.YtoafcnecjgnbmaaGreatDoor.S
open Go.RowKit H
attribute [local irreducible] H.CL H.RW H.CW H.Yd H.thenK H.blockQ Go.Calls

abbrev strT : TypeId := 9
end Go.Proofs.YtoafcnecjgnbmaaGreatDoor.S

namespace Go.Proofs.YtoafcnecjgnbmaaGreatDoor.S
open Go.RowKit H
attribute [local irreducible] H.CL H.RW H.CW H.Yd H.thenK H.blockQ Go.Calls

/-- The boxes of the closure that splits. -/
def SpB (c : UInt8) (l : List UInt8) (bs bt bv : Nat) (W : World) : Prop :=
  W.heap[bs]? = some (.cells #[vs [c]] strT (0, 0)) ∧ W.heap[bt]? = some (.cells #[vs l] strT (0, 0)) ∧ W.heap[bv]? = some (.cells #[.int .i64 0] 3 (0, 0))

set_option maxHeartbeats 1000000 in
theorem splitIt (c : UInt8) (l : List UInt8) (hl : l.length ≤ 1000000) (bs bt bv : Nat) (h1 : bt ≠ bs) (h2 : bt ≠ bv) :
    SeqC Tryz.prog 340 [.pointer (some ⟨bs, 0, none⟩), .pointer (some ⟨bt, 0, none⟩), .pointer (some ⟨bv, 0, none⟩)] (fun x : List UInt8 => [vs x]) (fun k => k = bs ∨ k = bt ∨ k = bv) (SpB c l bs bt bv) (splitB c l) := by
  intro r J Jx W hpre hJ hJx hy h0
  obtain ⟨hbs, hbt, hbv⟩ := hpre
  have hc1 : ([c] : List UInt8).length = 1 := rfl
  have hcs : ∀ {k}, k = bt → k = bs ∨ k = bt ∨ k = bv := fun h => .inr (.inl h)
  refine H.enterI Tryz.func340 Tryz.ntmps340 rfl rfl ?_; dsimp only [H.args]
  repeat' (first | (refine CL.seq ?_) | (refine CL.region ?_) | (refine CL.skip ?_) | (refine CL.condP rfl (fun _ => ?_) (fun _ => ?_) <;> try (exfalso; omega)) | (refine CL.block ?_) | (refine Gt.nil ?_; refine RW.nilw [0, 1, 2, 3, 6, 7, 8, 11, 14, 25, 33, 42] ?_; dsimp only [H.keep, H.look, H.Fr.put, Nat.beq]) | (refine Gt.load ?_; refine RW.y (Y.loadB rfl (by assumption) rfl) rfl ?_) | (refine Gt.len ?_; refine RW.y (Y.lens rfl) rfl ?_) | (refine Gt.eql ?_; refine RW.y (Y.eqi rfl rfl) rfl ?_))
  refine CL.loopS [0, 1, 2, 3] (fun m vals wr => ∃ (done : List (List UInt8)) (rest : List UInt8), vals = [.func (.yield r) #[] #[], .pointer (some ⟨bs, 0, none⟩), .pointer (some ⟨bt, 0, none⟩), .pointer (some ⟨bv, 0, none⟩)] ∧ m = rest.length ∧ splitB c l = done ++ splitB c rest ∧ rest.length ≤ l.length ∧ J done wr ∧ SpB c rest bs bt bv wr) l.length ⟨_, rfl, [], l, rfl, rfl, rfl, Nat.le_refl _, h0, hbs, hbt, hbv⟩ ?_
  rintro m vals wr ⟨done, rest, rfl, rfl, hsp, hrl, hJ1, hbs1, hbt1, hbv1⟩
  dsimp only [List.zip, List.zipWith]
  repeat' (first | (refine CL.seq ?_) | (refine CL.region ?_) | (refine CL.block ?_) | (refine Gt.load ?_; refine RW.y (Y.loadB rfl (by assumption) rfl) rfl ?_))
  refine RW.fn rfl rfl ((index rest c wr).mono ?_)
  rintro e w1 ⟨rfl, rfl⟩
  rcases split_idx c rest with ⟨hi, h0', hs⟩ | ⟨m, hi, hm, h0', hs⟩
  · rw [show idx c rest = -1 from hi]
    repeat' (first | (refine CL.seq ?_) | (refine CL.region ?_) | (refine CL.condP rfl (fun _ => ?_) (fun _ => ?_) <;> try (exfalso; omega)) | (refine CL.exit ?_) | (refine Ex.then ?_) | (refine Ex.hit ?_) | (refine Ex.miss rfl ?_) | (refine Gt.nil ?_; refine RW.nilw [0, 1, 2, 3, 6, 7, 8, 11, 14, 25, 33, 42] ?_; dsimp only [H.keep, H.look, H.Fr.put, Nat.beq]) | (refine Gt.load ?_; refine RW.y (Y.loadB rfl (by assumption) rfl) rfl ?_) | (refine Gt.move ?_; refine RW.y (Y.move rfl) rfl ?_) | (refine Gt.assign ?_; refine RW.y (Y.assign rfl) rfl ?_) | (refine Gt.lss ?_; refine RW.y (Y.lss rfl rfl) rfl ?_))
    refine RW.yield rfl rfl rfl (hy done rest wr hJ1 ?_) ?_
    · rw [hsp, hs]; exact List.prefix_rfl
    rw [hs] at hsp
    rintro e w2 (⟨rfl, hJ2, hs2⟩ | ⟨rfl, hJx2⟩)
    · repeat' (first | (refine CL.done ?_) | (refine Gt.nil ?_; refine RW.nilw [0, 1, 2, 3, 6, 7, 8, 11, 14, 25, 33, 42] ?_; dsimp only [H.keep, H.look, H.Fr.put, Nat.beq]))
      exact FQ.norm (FQ.none rfl rfl ⟨⟨_, rfl⟩, .inl (by rw [hsp]; exact hJ2)⟩)
    · repeat' (first | (refine CL.done ?_) | (refine Gt.nil ?_; refine RW.nilw [0, 1, 2, 3, 6, 7, 8, 11, 14, 25, 33, 42] ?_; dsimp only [H.keep, H.look, H.Fr.put, Nat.beq]))
      exact FQ.norm (FQ.none rfl rfl ⟨⟨_, rfl⟩, .inr ⟨_, hJx2⟩⟩)
  · rw [show idx c rest = (m : Int) from hi]
    repeat' (first | (refine CL.seq ?_) | (refine CL.region ?_) | (refine CL.skip ?_) | (refine CL.condP rfl (fun _ => ?_) (fun _ => ?_) <;> try (exfalso; omega)) | (refine Gt.nil ?_; refine RW.nilw [0, 1, 2, 3, 6, 7, 8, 11, 14, 25, 33, 42] ?_; dsimp only [H.keep, H.look, H.Fr.put, Nat.beq]) | (refine Gt.load ?_; refine RW.y (Y.loadB rfl (by assumption) rfl) rfl ?_) | (refine Gt.move ?_; refine RW.y (Y.move rfl) rfl ?_) | (refine Gt.assign ?_; refine RW.y (Y.assign rfl) rfl ?_) | (refine Gt.slice ?_; (refine RW.y (Y.cuth rfl rfl (by omega) (by omega)) rfl ?_)) | (refine Gt.add ?_; refine RW.y (Y.add64 rfl rfl (by omega) (by omega)) rfl ?_) | (refine Gt.lss ?_; refine RW.y (Y.lss rfl rfl) rfl ?_))
    have hn1 : ((m : Int) + 0).toNat = m := by omega
    rw [hn1]
    refine RW.yield rfl rfl rfl (hy done (rest.take m) wr hJ1 ?_) ?_
    · rw [hsp, hs]; exact ⟨splitB c (rest.drop (m + 1)), by simp⟩
    rintro e w2 (⟨rfl, hJ2, hs2⟩ | ⟨rfl, hJx2⟩)
    · have hbs2 := (hs2.2 bs (.inl rfl)).trans hbs1
      have hbt2 := (hs2.2 bt (.inr (.inl rfl))).trans hbt1
      have hbv2 := (hs2.2 bv (.inr (.inr rfl))).trans hbv1
      repeat' (first | (refine CL.region ?_) | (refine CL.skip ?_) | (refine CL.condF rfl ?_) | (refine Gt.nil ?_; refine RW.nilw [0, 1, 2, 3, 6, 7, 8, 11, 14, 25, 33, 42] ?_; dsimp only [H.keep, H.look, H.Fr.put, Nat.beq]) | (refine Gt.load ?_; refine RW.y (Y.loadB rfl (by assumption) rfl) rfl ?_) | (refine Gt.move ?_; refine RW.y (Y.move rfl) rfl ?_) | (refine Gt.len ?_; refine RW.y (Y.lens rfl) rfl ?_) | (refine Gt.slice ?_; (refine RW.y (Y.cutl rfl rfl (by omega) (by omega)) rfl ?_)) | (refine Gt.not ?_; (refine RW.y (Y.notb rfl) rfl ?_)) | (refine Gt.add ?_; refine RW.y (Y.add64 rfl rfl (by omega) (by omega)) rfl ?_))
      refine RW.storeB rfl rfl rfl hbt2 (by simp) (fun w3 hbt3 hk3 => ?_)
      repeat' (first | (refine CL.done ?_) | (refine Nm.block ?_) | (refine Nm.then ?_) | (refine Gt.nil ?_; refine RW.nilw [0, 1, 2, 3, 6, 7, 8, 11, 14, 25, 33, 42] ?_; dsimp only [H.keep, H.look, H.Fr.put, Nat.beq]))
      have hn2 : ((m : Int) + (([c] : List UInt8).length : Int)).toNat = m + 1 := by rw [hc1]; omega
      rw [hn2] at hbt3
      refine ⟨(rest.drop (m + 1)).length, _, rfl, rfl, rfl, by rw [List.length_drop]; omega, done ++ [rest.take m], rest.drop (m + 1), rfl, rfl, by rw [hsp, hs]; simp, by rw [List.length_drop]; omega, hJ _ _ _ hJ2 (hk3.mono fun k h => hcs h), hk3.at hbs2 (fun h => h1 h.symm), hbt3, hk3.at hbv2 (fun h => h2 h.symm)⟩
    · repeat' (first | (refine CL.condT rfl ?_) | (refine CL.ret ?_) | (refine Rt.then ?_) | (refine Rt.block ?_) | (refine Gt.nil ?_; refine RW.nilw [0, 1, 2, 3, 6, 7, 8, 11, 14, 25, 33, 42] ?_; dsimp only [H.keep, H.look, H.Fr.put, Nat.beq]) | (refine Gt.not ?_; (refine RW.y (Y.notb rfl) rfl ?_)))
      exact FQ.none rfl rfl ⟨⟨_, rfl⟩, .inr ⟨_, hJx2⟩⟩

theorem splitSeq (c : UInt8) (l : List UInt8) (w : World) : Calls Tryz.prog 190 #[vs l, vs [c]] w fun e w' => K0 w w' ∧ ∃ bs bt bv, e = .returned (.func (.func 340) #[] #[.pointer (some ⟨bs, 0, none⟩), .pointer (some ⟨bt, 0, none⟩), .pointer (some ⟨bv, 0, none⟩)]) ∧
    bt ≠ bs ∧ bt ≠ bv ∧ w.heap.size ≤ bs ∧ w.heap.size ≤ bt ∧ w.heap.size ≤ bv ∧ bs < w'.heap.size ∧ bt < w'.heap.size ∧ bv < w'.heap.size ∧ SpB c l bs bt bv w' := by
  have h : ∀ w, Calls Tryz.prog 271 #[vs l, vs [c], .int .i64 0] w fun e w' => K0 w w' ∧ ∃ bs bt bv, e = .returned (.func (.func 340) #[] #[.pointer (some ⟨bs, 0, none⟩), .pointer (some ⟨bt, 0, none⟩), .pointer (some ⟨bv, 0, none⟩)]) ∧
    bt ≠ bs ∧ bt ≠ bv ∧ w.heap.size ≤ bs ∧ w.heap.size ≤ bt ∧ w.heap.size ≤ bv ∧ bs < w'.heap.size ∧ bt < w'.heap.size ∧ bv < w'.heap.size ∧ SpB c l bs bt bv w' := by
    intro w
    refine H.enter Tryz.func271 Tryz.ntmps271 rfl rfl ?_; dsimp only [H.args]
    repeat' (first | (refine CL.seq ?_) | (refine CL.region ?_))
    refine RW.box rfl rfl (fun w1 hb1 hk1 hlt1 => ?_)
    refine RW.box rfl rfl (fun w2 hb2 hk2 hlt2 => ?_)
    refine RW.box rfl rfl (fun w3 hb3 hk3 hlt3 => ?_)
    repeat' (first | (refine CL.seq ?_) | (refine CL.region ?_) | (refine CL.ret ?_) | (refine Gt.nil ?_; refine RW.nilw [0, 1, 2, 3, 4, 5, 6] ?_; dsimp only [H.keep, H.look, H.Fr.put, Nat.beq]) | (refine Gt.assign ?_; refine RW.y (Y.assign rfl) rfl ?_) | (refine Gt.makeFunc ?_; refine RW.y (Y.makeFunc rfl rfl) rfl ?_))
    have hs1 := hk1.size
    have hs2 := hk2.size
    have hs3 := hk3.size
    exact FQ.one rfl rfl rfl ⟨(hk1.trans0 hk2).trans0 hk3, _, _, _, rfl, by omega, by omega, by omega, by omega, by omega, by omega, by omega, by omega, hk3.at0 hb2, (hk2.trans0 hk3).at0 hb1, hb3⟩
  refine H.enter Tryz.func190 Tryz.ntmps190 rfl rfl ?_; dsimp only [H.args]
  repeat' (first | (refine CL.seq ?_) | (refine CL.region ?_) | (refine Gt.nil ?_; refine RW.nilw [0, 1, 4] ?_; dsimp only [H.keep, H.look, H.Fr.put, Nat.beq]) | (refine Gt.assign ?_; refine RW.y (Y.assign rfl) rfl ?_) | (refine Gt.move ?_; refine RW.y (Y.move rfl) rfl ?_))
  refine RW.fn rfl rfl ((h w).mono ?_)
  rintro e w1 ⟨hk, bs, bt, bv, rfl, hh⟩
  repeat' (first | (refine CL.ret ?_) | (refine Gt.nil ?_; refine RW.nilw [0, 1, 4] ?_; dsimp only [H.keep, H.look, H.Fr.put, Nat.beq]) | (refine Gt.assign ?_; refine RW.y (Y.assign rfl) rfl ?_))
  exact FQ.one rfl rfl rfl ⟨hk, bs, bt, bv, rfl, hh⟩
end Go.Proofs.YtoafcnecjgnbmaaGreatDoor.S

set_option linter.constructorNameAsVariable false
set_option linter.unusedVariables false
namespace Go.Proofs.YtoafcnecjgnbmaaGreatDoor.E
open Go Go.RowKit H
attribute [local irreducible] H.CL H.RW H.CW H.Yd H.thenK H.blockQ Go.Calls
noncomputable def spK (s : List Nat) (c : Nat) : (List (List Nat) → Bool) → Bool := List.rec (motive := fun _ => (List (List Nat) → Bool) → Bool) (fun k => k [[]]) (fun x _ ih k => ask (Nat.blt x 256) (ih fun r => List.rec (motive := fun _ => Bool) false (fun a t _ => ife (Nat.beq x c) (k ([] :: a :: t)) (k ((x :: a) :: t))) r)) s
theorem spK_ok {c : Nat} : ∀ {s : List Nat} {k : List (List Nat) → Bool}, spK s c k = true → ∃ xs, k xs = true ∧ (∀ x ∈ xs, Bytes x) ∧ (c < 256 → xs.map textOf = S.splitB (UInt8.ofNat c) (textOf s))
  | [], k, h => ⟨[[]], h, fun x hx => by simp at hx; subst hx; rfl, fun _ => rfl⟩
  | x :: s, k, h => by
    obtain ⟨hx, h⟩ := ask_ok (b := Nat.blt x 256) h
    have hx := blt_lt hx
    obtain ⟨xs, h1, h2, h3⟩ := spK_ok (s := s) h
    cases xs with
    | nil => cases h1
    | cons a t =>
      replace h1 : ife (Nat.beq x c) (k ([] :: a :: t)) (k ((x :: a) :: t)) = true := h1
      rcases ife_ok h1 with ⟨hb, h4⟩ | ⟨hb, h4⟩
      · obtain rfl := Nat.eq_of_beq_eq_true hb
        refine ⟨_, h4, fun y hy => ?_, fun hc => ?_⟩
        · rcases List.mem_cons.1 hy with rfl | hy
          · rfl
          · exact h2 y hy
        · have e : S.splitB (UInt8.ofNat x) (textOf (x :: s)) = [] :: S.splitB (UInt8.ofNat x) (textOf s) := by
            show S.splitB _ (UInt8.ofNat x :: textOf s) = _
            rw [S.splitB, if_pos rfl]
          rw [e, ← h3 hc]; rfl
      · refine ⟨_, h4, fun y hy => ?_, fun hc => ?_⟩
        · rcases List.mem_cons.1 hy with rfl | hy
          · exact bytes_cons.2 ⟨hx, h2 a List.mem_cons_self⟩
          · exact h2 y (List.mem_cons_of_mem _ hy)
        · have hne : ¬ UInt8.ofNat x = UInt8.ofNat c := fun e => by
            rw [(ofNat_inj8 hx hc).1 e] at hb; simp at hb
          have e : S.splitB (UInt8.ofNat c) (textOf (x :: s)) = (UInt8.ofNat x :: (S.splitB (UInt8.ofNat c) (textOf s)).headD []) :: (S.splitB (UInt8.ofNat c) (textOf s)).tail := by
            show S.splitB _ (UInt8.ofNat x :: textOf s) = _
            rw [S.splitB, if_neg hne]
          rw [e, ← h3 hc]; rfl
noncomputable def it1 : ItF := fun s t k => oneB t fun c => lenK s fun n => ask (Nat.ble n 1000000) (spK s c k)
theorem it1_ok : ItOk Tryz.prog 190 it1 (fun _ => true) fun _ => True := by
  refine ⟨inferInstance, fun _ _ _ _ _ _ _ _ => trivial, fun s t k hk => ?_⟩
  obtain ⟨c, rfl, hk⟩ := oneB_ok hk
  replace hk : lenK s (fun n => ask (Nat.ble n 1000000) (spK s c k)) = true := hk
  rw [lenK_eq] at hk
  obtain ⟨hl, hk⟩ := ask_ok hk
  have hl := ble_le hl
  obtain ⟨xs, h1, h2, h3⟩ := spK_ok hk
  refine ⟨xs, h1, h2, fun w hs ht _ => ?_⟩
  have hc := (bytes_cons.1 ht).1
  refine (S.splitSeq (UInt8.ofNat c) (textOf s) w).mono ?_
  rintro e w' ⟨hk', bs, bt, bv, rfl, g1, g2, g3, g4, g5, g6, g7, g8, hB⟩
  refine ⟨hk', _, [.pointer (some ⟨bs, 0, none⟩), .pointer (some ⟨bt, 0, none⟩), .pointer (some ⟨bv, 0, none⟩)], fun k => k = bs ∨ k = bt ∨ k = bv, S.SpB (UInt8.ofNat c) (textOf s) bs bt bv, inferInstance, rfl, ?_, ?_, ?_⟩
  · rintro k (rfl | rfl | rfl) <;> exact ⟨by assumption, by assumption⟩
  · rw [h3 hc]
    exact fun l J Jx W hp a1 a2 _ a3 a4 => S.splitIt (UInt8.ofNat c) (textOf s) (by rw [text_len]; exact hl) bs bt bv g1 g2 l J Jx W hp a1 a2 a3 a4
  · exact fun W hW => ⟨hW.at0 hB.1, hW.at0 hB.2.1, hW.at0 hB.2.2⟩
end Go.Proofs.YtoafcnecjgnbmaaGreatDoor.E

namespace Go.Proofs.YtoafcnecjgnbmaaGreatDoor.S
open Go.RowKit H
/-- What stands between two bars. -/
def orB : List UInt8 → List (List UInt8)
  | [] => [[]]
  | [a] => [[a]]
  | a :: b :: r => if a = 124 ∧ b = 124 then [] :: orB r else (a :: (orB (b :: r)).headD []) :: (orB (b :: r)).tail
theorem orB_cons (a : UInt8) (s : List UInt8) (h : ¬ (a = 124 ∧ s.take 1 = [124])) : orB (a :: s) = (a :: (orB s).headD []) :: (orB s).tail := by
  cases s with
  | nil => simp [orB]
  | cons b r => rw [orB, if_neg (by simpa using h)]
theorem orB_bars (r : List UInt8) : orB (124 :: 124 :: r) = [] :: orB r := by rw [orB, if_pos ⟨rfl, rfl⟩]
theorem occ_iff (s : List UInt8) (i : Nat) : Go.Lib.occAt s [124, 124] i = true ↔ (s.drop i).take 2 = [124, 124] := by
  rw [Go.Lib.occAt]
  cases h : s.drop i with
  | nil => simp
  | cons a m => cases m with
    | nil => simp
    | cons b m =>
      simp [List.isPrefixOf]
      constructor <;> (rintro ⟨h1, h2⟩; exact ⟨h1.symm, h2.symm⟩)

theorem orB_first : ∀ (i : Nat) (s : List UInt8), i ≤ s.length → (∀ j, j < i → ¬ (s.drop j).take 2 = [124, 124]) → (s.drop i).take 2 = [124, 124] → orB s = s.take i :: orB (s.drop (i + 2)) := by
  intro i
  induction i with
  | zero =>
    intro s _ _ h
    match s, h with
    | a :: b :: r, h =>
      simp at h
      obtain ⟨rfl, rfl⟩ := h
      rw [orB_bars]; simp
  | succ i ih =>
    intro s hl hn h
    match s, hl with
    | a :: r, hl =>
      have h1 := ih r (by simpa using hl) (fun j hj => by have := hn (j + 1) (by omega); simpa using this) (by simpa using h)
      have h0 := hn 0 (by omega)
      rw [orB_cons a r (by intro ⟨ha, hb⟩; apply h0; cases r with | nil => simp at hb | cons b r => simp at hb ⊢; exact ⟨ha, hb⟩), h1]
      simp
theorem orB_none : ∀ (s : List UInt8), (∀ j, j ≤ s.length → ¬ (s.drop j).take 2 = [124, 124]) → orB s = [s] := by
  intro s
  induction s with
  | nil => intro _; rfl
  | cons a r ih =>
    intro hn
    have h0 := hn 0 (by omega)
    rw [orB_cons a r (by intro ⟨ha, hb⟩; apply h0; cases r with | nil => simp at hb | cons b r => simp at hb ⊢; exact ⟨ha, hb⟩), ih (fun j hj => by have := hn (j + 1) (by simp; omega); simpa using this)]
    simp
/-- The library's search for two bars, and what is parted there. -/
theorem orB_index (s : List UInt8) : (Go.Lib.index s [124, 124] = -1 ∧ orB s = [s]) ∨ ∃ m : Nat, Go.Lib.index s [124, 124] = (m : Int) ∧ m + 2 ≤ s.length ∧ orB s = s.take m :: orB (s.drop (m + 2)) := by
  rcases Go.Lib.index_spec s [124, 124] with ⟨h, hn⟩ | ⟨i, h, hi, ho, hn⟩
  · exact .inl ⟨h, orB_none s fun j hj c => by have := hn j hj; rw [(occ_iff s j).2 c] at this; cases this⟩
  · have h2 := (occ_iff s i).1 ho
    refine .inr ⟨i, h, ?_, orB_first i s hi (fun j hj c => by have := hn j hj; rw [(occ_iff s j).2 c] at this; cases this) h2⟩
    have := congrArg List.length h2
    simp at this
    omega

attribute [local irreducible] H.CL H.RW H.CW H.Yd H.thenK H.blockQ Go.Calls

/-- The library's variable of its machine holds some number. -/
def Ml (w : World) : Prop := ∃ m, w.cell? ⟨0, 0, none⟩ = some (.int .i64 m)
theorem index2 (l : List UInt8) (hl : l.length ≤ 1000000) (w : World) (hM : Ml w) : Calls Tryz.prog 178 #[vs l, vs [124, 124]] w fun e w' => w = w' ∧ e = .returned (.int .i64 (Go.Lib.index l [124, 124])) := by
  obtain ⟨m, hm⟩ := hM
  have h := Tryz.strings_Index (B l) (B [124, 124]) m w (by show l.length < _; omega) hm
  exact h.mono fun e w' ⟨h1, h2⟩ => ⟨h2.symm, h1⟩

/-- The boxes of the closure that splits. -/
def Sp2 (l : List UInt8) (bs bt bv : Nat) (W : World) : Prop :=
  W.heap[bs]? = some (.cells #[vs [124, 124]] strT (0, 0)) ∧ W.heap[bt]? = some (.cells #[vs l] strT (0, 0)) ∧ W.heap[bv]? = some (.cells #[.int .i64 0] 3 (0, 0)) ∧ Ml W
theorem Ml.of {w w' : World} (h : Ml w) (hh : w'.heap[0]? = w.heap[0]?) : Ml w' := by
  obtain ⟨m, hm⟩ := h
  refine ⟨m, ?_⟩
  simp only [World.cell?] at hm ⊢
  rw [hh]; exact hm
theorem Ml.lt {w : World} (h : Ml w) : 0 < w.heap.size := by
  obtain ⟨m, hm⟩ := h
  simp only [World.cell?] at hm
  rcases Nat.lt_or_ge 0 w.heap.size with h | h
  · exact h
  · rw [Array.getElem?_eq_none h] at hm; cases hm
theorem Ml.keep0 {w w' : World} (h : Ml w) (k : K0 w w') : Ml w' := h.of (k.block _ h.lt fun c => c)
theorem splitSeq2 (l : List UInt8) (w : World) (hM : Ml w) : Calls Tryz.prog 190 #[vs l, vs [124, 124]] w fun e w' => K0 w w' ∧ ∃ bs bt bv, e = .returned (.func (.func 340) #[] #[.pointer (some ⟨bs, 0, none⟩), .pointer (some ⟨bt, 0, none⟩), .pointer (some ⟨bv, 0, none⟩)]) ∧
    bt ≠ bs ∧ bt ≠ bv ∧ w.heap.size ≤ bs ∧ w.heap.size ≤ bt ∧ w.heap.size ≤ bv ∧ bs < w'.heap.size ∧ bt < w'.heap.size ∧ bv < w'.heap.size ∧ Sp2 l bs bt bv w' := by
  have h : ∀ w, Ml w → Calls Tryz.prog 271 #[vs l, vs [124, 124], .int .i64 0] w fun e w' => K0 w w' ∧ ∃ bs bt bv, e = .returned (.func (.func 340) #[] #[.pointer (some ⟨bs, 0, none⟩), .pointer (some ⟨bt, 0, none⟩), .pointer (some ⟨bv, 0, none⟩)]) ∧
    bt ≠ bs ∧ bt ≠ bv ∧ w.heap.size ≤ bs ∧ w.heap.size ≤ bt ∧ w.heap.size ≤ bv ∧ bs < w'.heap.size ∧ bt < w'.heap.size ∧ bv < w'.heap.size ∧ Sp2 l bs bt bv w' := by
    intro w hM
    refine H.enter Tryz.func271 Tryz.ntmps271 rfl rfl ?_; dsimp only [H.args]
    repeat' (first | (refine CL.seq ?_) | (refine CL.region ?_))
    refine RW.box rfl rfl (fun w1 hb1 hk1 hlt1 => ?_)
    refine RW.box rfl rfl (fun w2 hb2 hk2 hlt2 => ?_)
    refine RW.box rfl rfl (fun w3 hb3 hk3 hlt3 => ?_)
    repeat' (first | (refine CL.seq ?_) | (refine CL.region ?_) | (refine CL.ret ?_) | (refine Gt.nil ?_; refine RW.nilw [0, 1, 2, 3, 4, 5, 6] ?_; dsimp only [H.keep, H.look, H.Fr.put, Nat.beq]) | (refine Gt.assign ?_; refine RW.y (Y.assign rfl) rfl ?_) | (refine Gt.makeFunc ?_; refine RW.y (Y.makeFunc rfl rfl) rfl ?_))
    have hs1 := hk1.size
    have hs2 := hk2.size
    have hs3 := hk3.size
    exact FQ.one rfl rfl rfl ⟨(hk1.trans0 hk2).trans0 hk3, _, _, _, rfl, by omega, by omega, by omega, by omega, by omega, by omega, by omega, by omega, hk3.at0 hb2, (hk2.trans0 hk3).at0 hb1, hb3, hM.keep0 ((hk1.trans0 hk2).trans0 hk3)⟩
  refine H.enter Tryz.func190 Tryz.ntmps190 rfl rfl ?_; dsimp only [H.args]
  repeat' (first | (refine CL.seq ?_) | (refine CL.region ?_) | (refine Gt.nil ?_; refine RW.nilw [0, 1, 4] ?_; dsimp only [H.keep, H.look, H.Fr.put, Nat.beq]) | (refine Gt.assign ?_; refine RW.y (Y.assign rfl) rfl ?_) | (refine Gt.move ?_; refine RW.y (Y.move rfl) rfl ?_))
  refine RW.fn rfl rfl ((h w hM).mono ?_)
  rintro e w1 ⟨hk, bs, bt, bv, rfl, hh⟩
  repeat' (first | (refine CL.ret ?_) | (refine Gt.nil ?_; refine RW.nilw [0, 1, 4] ?_; dsimp only [H.keep, H.look, H.Fr.put, Nat.beq]) | (refine Gt.assign ?_; refine RW.y (Y.assign rfl) rfl ?_))
  exact FQ.one rfl rfl rfl ⟨hk, bs, bt, bv, rfl, hh⟩
set_option maxHeartbeats 1000000 in
theorem splitIt2T (l : List UInt8) (hl : l.length ≤ 1000000) (bs bt bv : Nat) (h1 : bt ≠ bs) (h2 : bt ≠ bv) :
    SeqT Tryz.prog 340 [.pointer (some ⟨bs, 0, none⟩), .pointer (some ⟨bt, 0, none⟩), .pointer (some ⟨bv, 0, none⟩)] (fun x : List UInt8 => [vs x]) (fun k => k = bs ∨ k = bt ∨ k = bv) Ml (Sp2 l bs bt bv) (orB l) := by
  intro r J Jx W hpre hJ hJx hJT hy h0
  obtain ⟨hbs, hbt, hbv, hM⟩ := hpre
  have hc2 : ([124, 124] : List UInt8).length = 2 := rfl
  have hcs : ∀ {k}, k = bt → k = bs ∨ k = bt ∨ k = bv := fun h => .inr (.inl h)
  refine H.enterI Tryz.func340 Tryz.ntmps340 rfl rfl ?_; dsimp only [H.args]
  repeat' (first | (refine CL.seq ?_) | (refine CL.region ?_) | (refine CL.skip ?_) | (refine CL.condP rfl (fun _ => ?_) (fun _ => ?_) <;> try (exfalso; omega)) | (refine CL.block ?_) | (refine Gt.nil ?_; refine RW.nilw [0, 1, 2, 3, 6, 7, 8, 11, 14, 25, 33, 42] ?_; dsimp only [H.keep, H.look, H.Fr.put, Nat.beq]) | (refine Gt.load ?_; refine RW.y (Y.loadB rfl (by assumption) rfl) rfl ?_) | (refine Gt.len ?_; refine RW.y (Y.lens rfl) rfl ?_) | (refine Gt.eql ?_; refine RW.y (Y.eqi rfl rfl) rfl ?_))
  refine CL.loopS [0, 1, 2, 3] (fun m vals wr => ∃ (done : List (List UInt8)) (rest : List UInt8), vals = [.func (.yield r) #[] #[], .pointer (some ⟨bs, 0, none⟩), .pointer (some ⟨bt, 0, none⟩), .pointer (some ⟨bv, 0, none⟩)] ∧ m = rest.length ∧ orB l = done ++ orB rest ∧ rest.length ≤ l.length ∧ J done wr ∧ Sp2 rest bs bt bv wr) l.length ⟨_, rfl, [], l, rfl, rfl, rfl, Nat.le_refl _, h0, hbs, hbt, hbv, hM⟩ ?_
  rintro m vals wr ⟨done, rest, rfl, rfl, hsp, hrl, hJ1, hbs1, hbt1, hbv1, hM1⟩
  dsimp only [List.zip, List.zipWith]
  repeat' (first | (refine CL.seq ?_) | (refine CL.region ?_) | (refine CL.block ?_) | (refine Gt.load ?_; refine RW.y (Y.loadB rfl (by assumption) rfl) rfl ?_))
  refine RW.fn rfl rfl ((index2 rest (by omega) wr hM1).mono ?_)
  rintro e w1 ⟨rfl, rfl⟩
  rcases orB_index rest with ⟨hi, hs⟩ | ⟨m, hi, hm, hs⟩
  · rw [hi]
    repeat' (first | (refine CL.seq ?_) | (refine CL.region ?_) | (refine CL.condP rfl (fun _ => ?_) (fun _ => ?_) <;> try (exfalso; omega)) | (refine CL.exit ?_) | (refine Ex.then ?_) | (refine Ex.hit ?_) | (refine Ex.miss rfl ?_) | (refine Gt.nil ?_; refine RW.nilw [0, 1, 2, 3, 6, 7, 8, 11, 14, 25, 33, 42] ?_; dsimp only [H.keep, H.look, H.Fr.put, Nat.beq]) | (refine Gt.load ?_; refine RW.y (Y.loadB rfl (by assumption) rfl) rfl ?_) | (refine Gt.move ?_; refine RW.y (Y.move rfl) rfl ?_) | (refine Gt.assign ?_; refine RW.y (Y.assign rfl) rfl ?_) | (refine Gt.lss ?_; refine RW.y (Y.lss rfl rfl) rfl ?_))
    refine RW.yield rfl rfl rfl (hy done rest wr hJ1 ?_) ?_
    · rw [hsp, hs]; exact List.prefix_rfl
    rw [hs] at hsp
    rintro e w2 (⟨rfl, hJ2, hs2⟩ | ⟨rfl, hJx2⟩)
    · repeat' (first | (refine CL.done ?_) | (refine Gt.nil ?_; refine RW.nilw [0, 1, 2, 3, 6, 7, 8, 11, 14, 25, 33, 42] ?_; dsimp only [H.keep, H.look, H.Fr.put, Nat.beq]))
      exact FQ.norm (FQ.none rfl rfl ⟨⟨_, rfl⟩, .inl (by rw [hsp]; exact hJ2)⟩)
    · repeat' (first | (refine CL.done ?_) | (refine Gt.nil ?_; refine RW.nilw [0, 1, 2, 3, 6, 7, 8, 11, 14, 25, 33, 42] ?_; dsimp only [H.keep, H.look, H.Fr.put, Nat.beq]))
      exact FQ.norm (FQ.none rfl rfl ⟨⟨_, rfl⟩, .inr ⟨_, hJx2⟩⟩)
  · rw [hi]
    repeat' (first | (refine CL.seq ?_) | (refine CL.region ?_) | (refine CL.skip ?_) | (refine CL.condP rfl (fun _ => ?_) (fun _ => ?_) <;> try (exfalso; omega)) | (refine Gt.nil ?_; refine RW.nilw [0, 1, 2, 3, 6, 7, 8, 11, 14, 25, 33, 42] ?_; dsimp only [H.keep, H.look, H.Fr.put, Nat.beq]) | (refine Gt.load ?_; refine RW.y (Y.loadB rfl (by assumption) rfl) rfl ?_) | (refine Gt.move ?_; refine RW.y (Y.move rfl) rfl ?_) | (refine Gt.assign ?_; refine RW.y (Y.assign rfl) rfl ?_) | (refine Gt.slice ?_; (refine RW.y (Y.cuth rfl rfl (by omega) (by omega)) rfl ?_)) | (refine Gt.add ?_; refine RW.y (Y.add64 rfl rfl (by omega) (by omega)) rfl ?_) | (refine Gt.lss ?_; refine RW.y (Y.lss rfl rfl) rfl ?_))
    have hn1 : ((m : Int) + 0).toNat = m := by omega
    rw [hn1]
    refine RW.yield rfl rfl rfl (hy done (rest.take m) wr hJ1 ?_) ?_
    · rw [hsp, hs]; exact ⟨orB (rest.drop (m + 2)), by simp⟩
    rintro e w2 (⟨rfl, hJ2, hs2⟩ | ⟨rfl, hJx2⟩)
    · have hbs2 := (hs2.2 bs (.inl rfl)).trans hbs1
      have hbt2 := (hs2.2 bt (.inr (.inl rfl))).trans hbt1
      have hbv2 := (hs2.2 bv (.inr (.inr rfl))).trans hbv1
      have hM2 : Ml w2 := hJT _ _ hJ2
      repeat' (first | (refine CL.region ?_) | (refine CL.skip ?_) | (refine CL.condF rfl ?_) | (refine Gt.nil ?_; refine RW.nilw [0, 1, 2, 3, 6, 7, 8, 11, 14, 25, 33, 42] ?_; dsimp only [H.keep, H.look, H.Fr.put, Nat.beq]) | (refine Gt.load ?_; refine RW.y (Y.loadB rfl (by assumption) rfl) rfl ?_) | (refine Gt.move ?_; refine RW.y (Y.move rfl) rfl ?_) | (refine Gt.len ?_; refine RW.y (Y.lens rfl) rfl ?_) | (refine Gt.slice ?_; (refine RW.y (Y.cutl rfl rfl (by omega) (by omega)) rfl ?_)) | (refine Gt.not ?_; (refine RW.y (Y.notb rfl) rfl ?_)) | (refine Gt.add ?_; refine RW.y (Y.add64 rfl rfl (by omega) (by omega)) rfl ?_))
      refine RW.storeB rfl rfl rfl hbt2 (by simp) (fun w3 hbt3 hk3 => ?_)
      repeat' (first | (refine CL.done ?_) | (refine Nm.block ?_) | (refine Nm.then ?_) | (refine Gt.nil ?_; refine RW.nilw [0, 1, 2, 3, 6, 7, 8, 11, 14, 25, 33, 42] ?_; dsimp only [H.keep, H.look, H.Fr.put, Nat.beq]))
      have hn2 : ((m : Int) + (([124, 124] : List UInt8).length : Int)).toNat = m + 2 := by rw [hc2]; omega
      rw [hn2] at hbt3
      have hJ3 := hJ _ _ _ hJ2 (hk3.mono fun k h => hcs h)
      have hM3 : Ml w3 := hJT _ _ hJ3
      refine ⟨(rest.drop (m + 2)).length, _, rfl, rfl, rfl, by rw [List.length_drop]; omega, done ++ [rest.take m], rest.drop (m + 2), rfl, rfl, by rw [hsp, hs]; simp, by rw [List.length_drop]; omega, hJ _ _ _ hJ2 (hk3.mono fun k h => hcs h), hk3.at hbs2 (fun h => h1 h.symm), hbt3, hk3.at hbv2 (fun h => h2 h.symm), hM3⟩
    · repeat' (first | (refine CL.condT rfl ?_) | (refine CL.ret ?_) | (refine Rt.then ?_) | (refine Rt.block ?_) | (refine Gt.nil ?_; refine RW.nilw [0, 1, 2, 3, 6, 7, 8, 11, 14, 25, 33, 42] ?_; dsimp only [H.keep, H.look, H.Fr.put, Nat.beq]) | (refine Gt.not ?_; (refine RW.y (Y.notb rfl) rfl ?_)))
      exact FQ.none rfl rfl ⟨⟨_, rfl⟩, .inr ⟨_, hJx2⟩⟩

end Go.Proofs.YtoafcnecjgnbmaaGreatDoor.S

set_option linter.constructorNameAsVariable false
set_option linter.unusedVariables false
namespace Go.Proofs.YtoafcnecjgnbmaaGreatDoor.E
open Go Go.RowKit H
attribute [local irreducible] H.CL H.RW H.CW H.Yd H.thenK H.blockQ Go.Calls
noncomputable def pre1 (x : Nat) (k : List (List Nat) → Bool) (r : List (List Nat)) : Bool := List.rec (motive := fun _ => Bool) false (fun a t _ => k ((x :: a) :: t)) r
noncomputable def sp2K (s : List Nat) : Bool → (List (List Nat) → Bool) → Bool := List.rec (motive := fun _ => Bool → (List (List Nat) → Bool) → Bool) (fun _ k => k [[]])
  (fun x t ih sk k => ask (Nat.blt x 256) (ife sk (ih false k) (ife (Nat.beq x 124) (List.rec (motive := fun _ => Bool) (ih false (pre1 x k)) (fun y _ _ => ife (Nat.beq y 124) (ih true fun r => k ([] :: r)) (ih false (pre1 x k))) t) (ih false (pre1 x k))))) s
theorem sp2K_ok : ∀ {s : List Nat} {sk : Bool} {k : List (List Nat) → Bool}, sp2K s sk k = true → ∃ xs, k xs = true ∧ (∀ x ∈ xs, Bytes x) ∧ xs.map textOf = S.orB (textOf (if sk = true then s.tail else s))
  | [], sk, k, h => ⟨[[]], h, fun x hx => by simp at hx; subst hx; rfl, by cases sk <;> rfl⟩
  | x :: s, sk, k, h => by
    obtain ⟨hx, h⟩ := ask_ok (b := Nat.blt x 256) h
    have hx := blt_lt hx
    have one : sp2K s false (pre1 x k) = true → ¬ (x = 124 ∧ ∃ t, s = 124 :: t) → ∃ xs, k xs = true ∧ (∀ x ∈ xs, Bytes x) ∧ xs.map textOf = S.orB (textOf (x :: s)) := by
      intro h hn
      have hc : ¬ (UInt8.ofNat x = 124 ∧ (textOf s).take 1 = [124]) := by
        rintro ⟨a, b⟩
        refine hn ⟨(ofNat_inj8 hx (c := 124) (by decide)).1 a, ?_⟩
        cases s with
        | nil => cases b
        | cons y t =>
          have hy := blt_lt (ask_ok (b := Nat.blt y 256) h).1
          have b : [UInt8.ofNat y] = [124] := b
          injection b with b _
          exact ⟨t, by rw [(ofNat_inj8 hy (c := 124) (by decide)).1 b]⟩
      obtain ⟨xs, h1, h2, h3⟩ := sp2K_ok (s := s) h
      cases xs with
      | nil => cases h1
      | cons a t =>
        replace h1 : k ((x :: a) :: t) = true := h1
        refine ⟨_, h1, fun y hy => ?_, ?_⟩
        · rcases List.mem_cons.1 hy with rfl | hy
          · exact bytes_cons.2 ⟨hx, h2 a List.mem_cons_self⟩
          · exact h2 y (List.mem_cons_of_mem _ hy)
        · have e : S.orB (textOf (x :: s)) = (UInt8.ofNat x :: (S.orB (textOf s)).headD []) :: (S.orB (textOf s)).tail := S.orB_cons _ _ hc
          replace h3 : (a :: t).map textOf = S.orB (textOf s) := h3
          rw [e, ← h3]; rfl
    rcases ife_ok h with ⟨hs, g1⟩ | ⟨hs, g1⟩
    · obtain ⟨xs, h1, h2, h3⟩ := sp2K_ok (s := s) (sk := false) g1
      exact ⟨xs, h1, h2, by rw [if_pos hs]; exact h3⟩
    · rw [if_neg (by rw [hs]; simp)]
      rcases ife_ok g1 with ⟨h0, g2⟩ | ⟨h0, g2⟩
      · have h0 := Nat.eq_of_beq_eq_true h0
        cases s with
        | nil => exact one g2 (by rintro ⟨_, t, ht⟩; cases ht)
        | cons y t =>
          rcases ife_ok (b := Nat.beq y 124) g2 with ⟨h9, g3⟩ | ⟨h9, g3⟩
          · have h9 := Nat.eq_of_beq_eq_true h9
            obtain ⟨xs, h1, h2, h3⟩ := sp2K_ok (s := y :: t) (sk := true) g3
            refine ⟨_, h1, fun z hz => ?_, ?_⟩
            · rcases List.mem_cons.1 hz with rfl | hz
              · rfl
              · exact h2 z hz
            · replace h3 : xs.map textOf = S.orB (textOf t) := h3
              show [] :: xs.map textOf = S.orB (textOf (x :: y :: t))
              rw [h0, h9]
              show [] :: xs.map textOf = S.orB (124 :: 124 :: textOf t)
              rw [S.orB_bars, h3]
          · exact one g3 (by rintro ⟨_, u, hu⟩; injection hu with hu _; rw [hu] at h9; simp at h9)
      · exact one g2 (by rintro ⟨q, _⟩; rw [q] at h0; simp at h0)
noncomputable def tk2 (h : Hp) : Bool := atK h 0 fun b => Blk.rec (motive := fun _ => Bool) (fun _ _ _ _ => false) (fun _ _ _ _ => false) (fun _ _ => false) (fun _ _ _ _ => false) true b
noncomputable def it2 : ItF := fun s t k => ask (sEq t [124, 124]) (lenK s fun n => ask (Nat.ble n 1000000) (sp2K s false k))
theorem it2_ok : ItOk Tryz.prog 190 it2 tk2 S.Ml := by
  refine ⟨inferInstance, fun fl S' w0 r h w hR ht => ?_, fun s t k hk => ?_⟩
  · obtain ⟨b, hb, ht⟩ := atK_ok ht
    cases b with
    | ints =>
      obtain ⟨p, hp, m, hm⟩ := hR.live _ _ (Nat.lt_of_lt_of_le (by decide) hR.base.2) hb
      have := hR.glob _ p (by decide) hp
      exact ⟨m, by rw [this] at hm; exact hm⟩
    | _ => cases ht
  obtain ⟨ht, hk⟩ := ask_ok hk
  obtain rfl := sEq_ok ht
  replace hk : lenK s (fun n => ask (Nat.ble n 1000000) (sp2K s false k)) = true := hk
  rw [lenK_eq] at hk
  obtain ⟨hl, hk⟩ := ask_ok hk
  have hl := ble_le hl
  obtain ⟨xs, h1, h2, h3⟩ := sp2K_ok hk
  replace h3 : xs.map textOf = S.orB (textOf s) := h3
  refine ⟨xs, h1, h2, fun w hs ht hM => ?_⟩
  refine (S.splitSeq2 (textOf s) w hM).mono ?_
  rintro e w' ⟨hk', bs, bt, bv, rfl, g1, g2, g3, g4, g5, g6, g7, g8, hB⟩
  refine ⟨hk', _, [.pointer (some ⟨bs, 0, none⟩), .pointer (some ⟨bt, 0, none⟩), .pointer (some ⟨bv, 0, none⟩)], fun k => k = bs ∨ k = bt ∨ k = bv, S.Sp2 (textOf s) bs bt bv, inferInstance, rfl, ?_, ?_, ?_⟩
  · rintro k (rfl | rfl | rfl) <;> exact ⟨by assumption, by assumption⟩
  · rw [h3]
    exact fun l J Jx W hp a1 a2 a5 a3 a4 => S.splitIt2T (textOf s) (by rw [text_len]; exact hl) bs bt bv g1 g2 l J Jx W hp a1 a2 a5 a3 a4
  · exact fun W hW => ⟨hW.at0 hB.1, hW.at0 hB.2.1, hW.at0 hB.2.2.1, hB.2.2.2.keep0 hW⟩
end Go.Proofs.YtoafcnecjgnbmaaGreatDoor.E

namespace Go.Proofs
open Go.Shelf
def Tryz.keys102_ren : Go.Shelf.Ren := ⟨fun | 7 => 102 | 10 => 158 | n => n, fun | 23 => 154 | 26 => 9 | 3 => 9 | 28 => 209 | 0 => 0 | 27 => 208 | 33 => 107 | 4 => 4 | n => n, fun | n => n⟩
theorem Tryz.keys102 : Go.Proofs.SlLaysZ.n7 Tryz.prog Tryz.keys102_ren := {
  mixed := by kernel_rfl
  f7 := ⟨Tryz.f102.name, by decide, Tryz.func102.trans (congrArg some (by kernel_rfl))⟩
  f10 := ⟨Tryz.f158.name, by decide, Tryz.func158.trans (congrArg some (by kernel_rfl))⟩
  t0 := Tryz.underlying0
  a0 := Tryz.isAgg0
  z0 := Tryz.sizeOf0
  v0 := Tryz.zeroValue0
  t4 := Tryz.underlying4
  a4 := Tryz.isAgg4
  z4 := Tryz.sizeOf4
  v4 := Tryz.zeroValue4
  t23 := Tryz.underlying154
  a23 := Tryz.isAgg154
  z23 := Tryz.sizeOf154
  v23 := Tryz.zeroValue154
  t26 := Tryz.underlying9
  a26 := Tryz.isAgg9
  z26 := Tryz.sizeOf9
  v26 := Tryz.zeroValue9
  t27 := Tryz.underlying208
  a27 := Tryz.isAgg208
  z27 := Tryz.sizeOf208
  v27 := Tryz.zeroValue208
  t28 := Tryz.underlying209
  a28 := Tryz.isAgg209
  z28 := Tryz.sizeOf209
  v28 := Tryz.zeroValue209
  t33 := Tryz.underlying107
  a33 := Tryz.isAgg107
  z33 := Tryz.sizeOf107
  v33 := Tryz.zeroValue107 }
def Tryz.keys471_ren : Go.Shelf.Ren := ⟨fun | 7 => 471 | 10 => 519 | n => n, fun | 23 => 423 | 26 => 9 | 3 => 3 | 28 => 209 | 0 => 0 | 27 => 208 | 33 => 107 | 4 => 4 | n => n, fun | n => n⟩
theorem Tryz.keys471 : Go.Proofs.SlLaysZ.n7 Tryz.prog Tryz.keys471_ren := {
  mixed := by kernel_rfl
  f7 := ⟨Tryz.f471.name, by decide, Tryz.func471.trans (congrArg some (by kernel_rfl))⟩
  f10 := ⟨Tryz.f519.name, by decide, Tryz.func519.trans (congrArg some (by kernel_rfl))⟩
  t0 := Tryz.underlying0
  a0 := Tryz.isAgg0
  z0 := Tryz.sizeOf0
  v0 := Tryz.zeroValue0
  t4 := Tryz.underlying4
  a4 := Tryz.isAgg4
  z4 := Tryz.sizeOf4
  v4 := Tryz.zeroValue4
  t23 := Tryz.underlying423
  a23 := Tryz.isAgg423
  z23 := Tryz.sizeOf423
  v23 := Tryz.zeroValue423
  t26 := Tryz.underlying9
  a26 := Tryz.isAgg9
  z26 := Tryz.sizeOf9
  v26 := Tryz.zeroValue9
  t27 := Tryz.underlying208
  a27 := Tryz.isAgg208
  z27 := Tryz.sizeOf208
  v27 := Tryz.zeroValue208
  t28 := Tryz.underlying209
  a28 := Tryz.isAgg209
  z28 := Tryz.sizeOf209
  v28 := Tryz.zeroValue209
  t33 := Tryz.underlying107
  a33 := Tryz.isAgg107
  z33 := Tryz.sizeOf107
  v33 := Tryz.zeroValue107 }
def Tryz.keys550_ren : Go.Shelf.Ren := ⟨fun | 7 => 550 | 10 => 558 | n => n, fun | 23 => 631 | 26 => 9 | 3 => 656 | 28 => 209 | 0 => 0 | 27 => 208 | 33 => 107 | 4 => 4 | n => n, fun | n => n⟩
theorem Tryz.keys550 : Go.Proofs.SlLaysZ.n7 Tryz.prog Tryz.keys550_ren := {
  mixed := by kernel_rfl
  f7 := ⟨Tryz.f550.name, by decide, Tryz.func550.trans (congrArg some (by kernel_rfl))⟩
  f10 := ⟨Tryz.f558.name, by decide, Tryz.func558.trans (congrArg some (by kernel_rfl))⟩
  t0 := Tryz.underlying0
  a0 := Tryz.isAgg0
  z0 := Tryz.sizeOf0
  v0 := Tryz.zeroValue0
  t4 := Tryz.underlying4
  a4 := Tryz.isAgg4
  z4 := Tryz.sizeOf4
  v4 := Tryz.zeroValue4
  t23 := Tryz.underlying631
  a23 := Tryz.isAgg631
  z23 := Tryz.sizeOf631
  v23 := Tryz.zeroValue631
  t26 := Tryz.underlying9
  a26 := Tryz.isAgg9
  z26 := Tryz.sizeOf9
  v26 := Tryz.zeroValue9
  t27 := Tryz.underlying208
  a27 := Tryz.isAgg208
  z27 := Tryz.sizeOf208
  v27 := Tryz.zeroValue208
  t28 := Tryz.underlying209
  a28 := Tryz.isAgg209
  z28 := Tryz.sizeOf209
  v28 := Tryz.zeroValue209
  t33 := Tryz.underlying107
  a33 := Tryz.isAgg107
  z33 := Tryz.sizeOf107
  v33 := Tryz.zeroValue107 }
def Tryz.keys238_ren : Go.Shelf.Ren := ⟨fun | 7 => 238 | 10 => 321 | n => n, fun | 23 => 135 | 26 => 3 | 3 => 60 | 28 => 361 | 0 => 0 | 27 => 360 | 33 => 143 | 4 => 4 | n => n, fun | n => n⟩
theorem Tryz.keys238 : Go.Proofs.SlLaysZI.n7 Tryz.prog Tryz.keys238_ren := {
  mixed := by kernel_rfl
  f7 := ⟨Tryz.f238.name, by decide, Tryz.func238.trans (congrArg some (by kernel_rfl))⟩
  f10 := ⟨Tryz.f321.name, by decide, Tryz.func321.trans (congrArg some (by kernel_rfl))⟩
  t0 := Tryz.underlying0
  a0 := Tryz.isAgg0
  z0 := Tryz.sizeOf0
  v0 := Tryz.zeroValue0
  t4 := Tryz.underlying4
  a4 := Tryz.isAgg4
  z4 := Tryz.sizeOf4
  v4 := Tryz.zeroValue4
  t23 := Tryz.underlying135
  a23 := Tryz.isAgg135
  z23 := Tryz.sizeOf135
  v23 := Tryz.zeroValue135
  t26 := Tryz.underlying3
  a26 := Tryz.isAgg3
  z26 := Tryz.sizeOf3
  v26 := Tryz.zeroValue3
  t27 := Tryz.underlying360
  a27 := Tryz.isAgg360
  z27 := Tryz.sizeOf360
  v27 := Tryz.zeroValue360
  t28 := Tryz.underlying361
  a28 := Tryz.isAgg361
  z28 := Tryz.sizeOf361
  v28 := Tryz.zeroValue361
  t33 := Tryz.underlying143
  a33 := Tryz.isAgg143
  z33 := Tryz.sizeOf143
  v33 := Tryz.zeroValue143 }
def Tryz.sorted101_ren : Go.Shelf.Ren := ⟨fun | 6 => 101 | 8 => 156 | 9 => 157 | 11 => 240 | 13 => 108 | 12 => 241 | 23 => 172 | 24 => 173 | 14 => 322 | 15 => 323 | 16 => 324 | 17 => 325 | 18 => 326 | 19 => 327 | 20 => 328 | 21 => 329 | 22 => 330 | 25 => 386 | 26 => 245 | 27 => 246 | 28 => 387 | 29 => 388 | 30 => 109 | 31 => 452 | n => n, fun | 26 => 9 | 28 => 209 | 24 => 59 | 0 => 0 | 3 => 3 | 37 => 152 | 48 => 170 | 50 => 122 | 4 => 4 | 40 => 277 | 39 => 276 | 45 => 118 | 5 => 5 | 9 => 9 | 51 => 367 | 55 => 370 | 57 => 453 | 58 => 454 | 33 => 107 | n => n, fun | n => n⟩
theorem Tryz.sorted101 : Go.Proofs.SlLaysZ.n6 Tryz.prog Tryz.sorted101_ren := {
  mixed := by kernel_rfl
  f6 := ⟨Tryz.f101.name, by decide, Tryz.func101.trans (congrArg some (by kernel_rfl))⟩
  f8 := ⟨Tryz.f156.name, by decide, Tryz.func156.trans (congrArg some (by kernel_rfl))⟩
  f11 := ⟨Tryz.f240.name, by decide, Tryz.func240.trans (congrArg some (by kernel_rfl))⟩
  t0 := Tryz.underlying0
  a0 := Tryz.isAgg0
  z0 := Tryz.sizeOf0
  v0 := Tryz.zeroValue0
  t24 := Tryz.underlying59
  a24 := Tryz.isAgg59
  z24 := Tryz.sizeOf59
  v24 := Tryz.zeroValue59
  t26 := Tryz.underlying9
  a26 := Tryz.isAgg9
  z26 := Tryz.sizeOf9
  v26 := Tryz.zeroValue9
  t28 := Tryz.underlying209
  a28 := Tryz.isAgg209
  z28 := Tryz.sizeOf209
  v28 := Tryz.zeroValue209
  i26 := by kernel_rfl }
def Tryz.sorted237_ren : Go.Shelf.Ren := ⟨fun | 6 => 237 | 8 => 319 | 9 => 320 | 11 => 384 | 13 => 108 | 12 => 385 | 23 => 172 | 24 => 173 | 14 => 443 | 15 => 444 | 16 => 445 | 17 => 446 | 18 => 447 | 19 => 448 | 20 => 449 | 21 => 450 | 22 => 451 | 25 => 505 | 26 => 245 | 27 => 246 | 28 => 506 | 29 => 507 | 30 => 336 | 31 => 531 | n => n, fun | 26 => 3 | 28 => 361 | 24 => 34 | 0 => 0 | 3 => 3 | 37 => 152 | 48 => 170 | 50 => 122 | 4 => 4 | 40 => 277 | 39 => 276 | 45 => 118 | 5 => 5 | 9 => 9 | 51 => 367 | 55 => 370 | 57 => 453 | 58 => 454 | 33 => 143 | n => n, fun | n => n⟩
theorem Tryz.sorted237 : Go.Proofs.SlLaysZI.n6 Tryz.prog Tryz.sorted237_ren := {
  mixed := by kernel_rfl
  f6 := ⟨Tryz.f237.name, by decide, Tryz.func237.trans (congrArg some (by kernel_rfl))⟩
  f8 := ⟨Tryz.f319.name, by decide, Tryz.func319.trans (congrArg some (by kernel_rfl))⟩
  f11 := ⟨Tryz.f384.name, by decide, Tryz.func384.trans (congrArg some (by kernel_rfl))⟩
  t0 := Tryz.underlying0
  a0 := Tryz.isAgg0
  z0 := Tryz.sizeOf0
  v0 := Tryz.zeroValue0
  t24 := Tryz.underlying34
  a24 := Tryz.isAgg34
  z24 := Tryz.sizeOf34
  v24 := Tryz.zeroValue34
  t26 := Tryz.underlying3
  a26 := Tryz.isAgg3
  z26 := Tryz.sizeOf3
  v26 := Tryz.zeroValue3
  t28 := Tryz.underlying361
  a28 := Tryz.isAgg361
  z28 := Tryz.sizeOf361
  v28 := Tryz.zeroValue361
  i26 := by kernel_rfl }
def Tryz.sort157_ren : Go.Shelf.Ren := ⟨fun | 6 => 157 | 8 => 108 | 9 => 241 | 19 => 172 | 20 => 173 | 21 => 322 | 22 => 323 | 23 => 324 | 24 => 325 | 25 => 326 | 26 => 327 | 27 => 328 | 28 => 329 | 29 => 330 | 36 => 386 | 31 => 245 | 32 => 246 | 37 => 387 | 38 => 388 | 39 => 109 | 41 => 452 | n => n, fun | 27 => 59 | 29 => 9 | 3 => 3 | 32 => 152 | 26 => 59 | 0 => 0 | 44 => 170 | 46 => 122 | 4 => 4 | 36 => 277 | 35 => 276 | 41 => 118 | 5 => 5 | 9 => 9 | 53 => 367 | 57 => 370 | 63 => 453 | 64 => 454 | n => n, fun | n => n⟩
theorem Tryz.sort157 : Go.Proofs.SlLaysM.n6 Tryz.prog Tryz.sort157_ren := {
  mixed := by kernel_rfl
  f6 := ⟨Tryz.f157.name, by decide, Tryz.func157.trans (congrArg some (by kernel_rfl))⟩
  f8 := Tryz.func108.trans (congrArg some (by kernel_rfl))
  f9 := ⟨Tryz.f241.name, by decide, Tryz.func241.trans (congrArg some (by kernel_rfl))⟩
  f19 := Tryz.func172.trans (congrArg some (by kernel_rfl))
  f20 := Tryz.func173.trans (congrArg some (by kernel_rfl))
  f21 := ⟨Tryz.f322.name, by decide, Tryz.func322.trans (congrArg some (by kernel_rfl))⟩
  f22 := ⟨Tryz.f323.name, by decide, Tryz.func323.trans (congrArg some (by kernel_rfl))⟩
  f23 := ⟨Tryz.f324.name, by decide, Tryz.func324.trans (congrArg some (by kernel_rfl))⟩
  f24 := ⟨Tryz.f325.name, by decide, Tryz.func325.trans (congrArg some (by kernel_rfl))⟩
  f25 := ⟨Tryz.f326.name, by decide, Tryz.func326.trans (congrArg some (by kernel_rfl))⟩
  f26 := ⟨Tryz.f327.name, by decide, Tryz.func327.trans (congrArg some (by kernel_rfl))⟩
  f27 := ⟨Tryz.f328.name, by decide, Tryz.func328.trans (congrArg some (by kernel_rfl))⟩
  f28 := ⟨Tryz.f329.name, by decide, Tryz.func329.trans (congrArg some (by kernel_rfl))⟩
  f29 := ⟨Tryz.f330.name, by decide, Tryz.func330.trans (congrArg some (by kernel_rfl))⟩
  f31 := Tryz.func245.trans (congrArg some (by kernel_rfl))
  f32 := Tryz.func246.trans (congrArg some (by kernel_rfl))
  f36 := ⟨Tryz.f386.name, by decide, Tryz.func386.trans (congrArg some (by kernel_rfl))⟩
  f37 := ⟨Tryz.f387.name, by decide, Tryz.func387.trans (congrArg some (by kernel_rfl))⟩
  f38 := ⟨Tryz.f388.name, by decide, Tryz.func388.trans (congrArg some (by kernel_rfl))⟩
  f39 := ⟨Tryz.f109.name, by decide, Tryz.func109.trans (congrArg some (by kernel_rfl))⟩
  f41 := ⟨Tryz.f452.name, by decide, Tryz.func452.trans (congrArg some (by kernel_rfl))⟩
  t0 := Tryz.underlying0
  a0 := Tryz.isAgg0
  z0 := Tryz.sizeOf0
  v0 := Tryz.zeroValue0
  t3 := Tryz.underlying3
  a3 := Tryz.isAgg3
  z3 := Tryz.sizeOf3
  v3 := Tryz.zeroValue3
  t4 := Tryz.underlying4
  a4 := Tryz.isAgg4
  z4 := Tryz.sizeOf4
  v4 := Tryz.zeroValue4
  t5 := Tryz.underlying5
  a5 := Tryz.isAgg5
  z5 := Tryz.sizeOf5
  v5 := Tryz.zeroValue5
  t9 := Tryz.underlying9
  a9 := Tryz.isAgg9
  z9 := Tryz.sizeOf9
  v9 := Tryz.zeroValue9
  t26 := Tryz.underlying59
  a26 := Tryz.isAgg59
  z26 := Tryz.sizeOf59
  v26 := Tryz.zeroValue59
  t27 := Tryz.underlying59
  a27 := Tryz.isAgg59
  z27 := Tryz.sizeOf59
  v27 := Tryz.zeroValue59
  t29 := Tryz.underlying9
  a29 := Tryz.isAgg9
  z29 := Tryz.sizeOf9
  v29 := Tryz.zeroValue9
  t32 := Tryz.underlying152
  a32 := Tryz.isAgg152
  z32 := Tryz.sizeOf152
  v32 := Tryz.zeroValue152
  t35 := Tryz.underlying276
  a35 := Tryz.isAgg276
  z35 := Tryz.sizeOf276
  v35 := Tryz.zeroValue276
  t36 := Tryz.underlying277
  a36 := Tryz.isAgg277
  z36 := Tryz.sizeOf277
  v36 := Tryz.zeroValue277
  t41 := Tryz.underlying118
  a41 := Tryz.isAgg118
  z41 := Tryz.sizeOf118
  v41 := Tryz.zeroValue118
  t44 := Tryz.underlying170
  a44 := Tryz.isAgg170
  z44 := Tryz.sizeOf170
  v44 := Tryz.zeroValue170
  t46 := Tryz.underlying122
  a46 := Tryz.isAgg122
  z46 := Tryz.sizeOf122
  v46 := Tryz.zeroValue122
  t53 := Tryz.underlying367
  a53 := Tryz.isAgg367
  z53 := Tryz.sizeOf367
  v53 := Tryz.zeroValue367
  t57 := Tryz.underlying370
  a57 := Tryz.isAgg370
  z57 := Tryz.sizeOf370
  v57 := Tryz.zeroValue370
  t63 := Tryz.underlying453
  a63 := Tryz.isAgg453
  z63 := Tryz.sizeOf453
  v63 := Tryz.zeroValue453
  t64 := Tryz.underlying454
  a64 := Tryz.isAgg454
  z64 := Tryz.sizeOf454
  v64 := Tryz.zeroValue454 }
def Tryz.sort320_ren : Go.Shelf.Ren := ⟨fun | 5 => 320 | 8 => 108 | 7 => 385 | 19 => 172 | 20 => 173 | 10 => 443 | 11 => 444 | 12 => 445 | 13 => 446 | 14 => 447 | 15 => 448 | 16 => 449 | 17 => 450 | 18 => 451 | 30 => 505 | 31 => 245 | 32 => 246 | 33 => 506 | 34 => 507 | 35 => 336 | 40 => 531 | n => n, fun | 23 => 34 | 25 => 3 | 3 => 3 | 32 => 152 | 22 => 34 | 0 => 0 | 44 => 170 | 46 => 122 | 4 => 4 | 36 => 277 | 35 => 276 | 41 => 118 | 5 => 5 | 9 => 9 | 53 => 367 | 57 => 370 | 63 => 453 | 64 => 454 | n => n, fun | n => n⟩
theorem Tryz.sort320 : Go.Proofs.SlLaysM.n5 Tryz.prog Tryz.sort320_ren := {
  mixed := by kernel_rfl
  f5 := ⟨Tryz.f320.name, by decide, Tryz.func320.trans (congrArg some (by kernel_rfl))⟩
  f7 := ⟨Tryz.f385.name, by decide, Tryz.func385.trans (congrArg some (by kernel_rfl))⟩
  f8 := Tryz.func108.trans (congrArg some (by kernel_rfl))
  f10 := ⟨Tryz.f443.name, by decide, Tryz.func443.trans (congrArg some (by kernel_rfl))⟩
  f11 := ⟨Tryz.f444.name, by decide, Tryz.func444.trans (congrArg some (by kernel_rfl))⟩
  f12 := ⟨Tryz.f445.name, by decide, Tryz.func445.trans (congrArg some (by kernel_rfl))⟩
  f13 := ⟨Tryz.f446.name, by decide, Tryz.func446.trans (congrArg some (by kernel_rfl))⟩
  f14 := ⟨Tryz.f447.name, by decide, Tryz.func447.trans (congrArg some (by kernel_rfl))⟩
  f15 := ⟨Tryz.f448.name, by decide, Tryz.func448.trans (congrArg some (by kernel_rfl))⟩
  f16 := ⟨Tryz.f449.name, by decide, Tryz.func449.trans (congrArg some (by kernel_rfl))⟩
  f17 := ⟨Tryz.f450.name, by decide, Tryz.func450.trans (congrArg some (by kernel_rfl))⟩
  f18 := ⟨Tryz.f451.name, by decide, Tryz.func451.trans (congrArg some (by kernel_rfl))⟩
  f19 := Tryz.func172.trans (congrArg some (by kernel_rfl))
  f20 := Tryz.func173.trans (congrArg some (by kernel_rfl))
  f30 := ⟨Tryz.f505.name, by decide, Tryz.func505.trans (congrArg some (by kernel_rfl))⟩
  f31 := Tryz.func245.trans (congrArg some (by kernel_rfl))
  f32 := Tryz.func246.trans (congrArg some (by kernel_rfl))
  f33 := ⟨Tryz.f506.name, by decide, Tryz.func506.trans (congrArg some (by kernel_rfl))⟩
  f34 := ⟨Tryz.f507.name, by decide, Tryz.func507.trans (congrArg some (by kernel_rfl))⟩
  f35 := ⟨Tryz.f336.name, by decide, Tryz.func336.trans (congrArg some (by kernel_rfl))⟩
  f40 := ⟨Tryz.f531.name, by decide, Tryz.func531.trans (congrArg some (by kernel_rfl))⟩
  t0 := Tryz.underlying0
  a0 := Tryz.isAgg0
  z0 := Tryz.sizeOf0
  v0 := Tryz.zeroValue0
  t3 := Tryz.underlying3
  a3 := Tryz.isAgg3
  z3 := Tryz.sizeOf3
  v3 := Tryz.zeroValue3
  t4 := Tryz.underlying4
  a4 := Tryz.isAgg4
  z4 := Tryz.sizeOf4
  v4 := Tryz.zeroValue4
  t5 := Tryz.underlying5
  a5 := Tryz.isAgg5
  z5 := Tryz.sizeOf5
  v5 := Tryz.zeroValue5
  t9 := Tryz.underlying9
  a9 := Tryz.isAgg9
  z9 := Tryz.sizeOf9
  v9 := Tryz.zeroValue9
  t22 := Tryz.underlying34
  a22 := Tryz.isAgg34
  z22 := Tryz.sizeOf34
  v22 := Tryz.zeroValue34
  t23 := Tryz.underlying34
  a23 := Tryz.isAgg34
  z23 := Tryz.sizeOf34
  v23 := Tryz.zeroValue34
  t25 := Tryz.underlying3
  a25 := Tryz.isAgg3
  z25 := Tryz.sizeOf3
  v25 := Tryz.zeroValue3
  t32 := Tryz.underlying152
  a32 := Tryz.isAgg152
  z32 := Tryz.sizeOf152
  v32 := Tryz.zeroValue152
  t35 := Tryz.underlying276
  a35 := Tryz.isAgg276
  z35 := Tryz.sizeOf276
  v35 := Tryz.zeroValue276
  t36 := Tryz.underlying277
  a36 := Tryz.isAgg277
  z36 := Tryz.sizeOf277
  v36 := Tryz.zeroValue277
  t41 := Tryz.underlying118
  a41 := Tryz.isAgg118
  z41 := Tryz.sizeOf118
  v41 := Tryz.zeroValue118
  t44 := Tryz.underlying170
  a44 := Tryz.isAgg170
  z44 := Tryz.sizeOf170
  v44 := Tryz.zeroValue170
  t46 := Tryz.underlying122
  a46 := Tryz.isAgg122
  z46 := Tryz.sizeOf122
  v46 := Tryz.zeroValue122
  t53 := Tryz.underlying367
  a53 := Tryz.isAgg367
  z53 := Tryz.sizeOf367
  v53 := Tryz.zeroValue367
  t57 := Tryz.underlying370
  a57 := Tryz.isAgg370
  z57 := Tryz.sizeOf370
  v57 := Tryz.zeroValue370
  t63 := Tryz.underlying453
  a63 := Tryz.isAgg453
  z63 := Tryz.sizeOf453
  v63 := Tryz.zeroValue453
  t64 := Tryz.underlying454
  a64 := Tryz.isAgg454
  z64 := Tryz.sizeOf454
  v64 := Tryz.zeroValue454 }
end Go.Proofs

