/-
  Regions that draw their order, and make blocks that no chain holds: first in the order of the text. Regions that draw their order, and make blocks that no chain holds: any order comes to the same. Functions that defer a closure which recovers. Functions that defer: a function's body along its spine, up to the operation that defers, and from there on. Functions that are told by themselves: a table of them; functions that defer among them. Bodies that range over maps: whichever entry comes. Calls of functions whose bodies range over maps: they write nothing that is old, and come to the same whatever comes. Of each type of this translation: its form, zero value, size; of each function: that a call of it enters it. Written by a program. More rules: an operation whose guard was itself passed over. Elements of several cells: one field read, the whole read. append to a slice that is full, whosever it is; a slice cut off at its length. Elements read under a guard that holds. An element read whole in whatever world of a kind; a truth against itself. Rules: the greater and the lesser of two numbers, functions that the model itself gives, slices made, an element of a row of the call's own written. A range over a function: what an iterator does; the statement; a call of yield; the entry of a function that holds such a statement. Rules: numbers that are not below 0 divided, numbers of any kind that stay in it, slice literals of any length, texts against themselves. Results of any form: temporaries and variables, one behind the other. Rules: cells of an array in a variable; a variable of several cells read and written whole.
-/
import Derived.Test.YtoafcnecjgnbmaaGreatDoorVd
import Derived.Test.YtoafcnecjgnbmaaGreatDoorProg
import GoSem.Claim
import GoSem.ClaimJoined
import GoSem.ClaimMapViews
import Derived.JoinedTies
import Derived.KernelRfl
import Derived.RowKit
import Derived.Laws.Small
import Derived.Laws.Cover1
import Derived.Laws.OwnMore
import Derived.Laws.Externs
import Derived.Lib.Bytealg
import Derived.RangeFuncRecord
import Derived.RangeFuncSeq
set_option linter.unusedVariables false
set_option linter.unusedSimpArgs false
set_option linter.constructorNameAsVariable false
namespace Go.Proofs.YtoafcnecjgnbmaaGreatDoor.E
open Go Go.RowKit H

abbrev FrL := List (Nat × TypeId × List AV)
noncomputable def lastM (ms : List Nat) (x : Option Nat) : Nat := Option.rec (motive := fun _ => Nat) 0 (nthN ms) x
noncomputable def chk2K (ms : List Nat) (i c : Nat) (ev : Hp → Nat → Bool → Bool) (k : Bool) (g : Sg) : Option Nat → Nat → Bool := Sg.rec (motive := fun _ => Option Nat → Nat → Bool)
  (fun h nx s => ife (Nat.beq s c) k (ife (feasB ms i nx none) (ev h (lastM ms none) k) k))
  (fun b h _ ih nx s => ife (Nat.beq s c) (natK (Nat.pred s) fun s => ih (some b) s) (ife (feasB ms i nx (some b)) (ev h (lastM ms (some b)) (natK (Nat.pred s) fun s => ih (some b) s)) (natK (Nat.pred s) fun s => ih (some b) s))) g
theorem chk2K_ok {ms : List Nat} {i c : Nat} {ev : Hp → Nat → Bool → Bool} {k : Bool} {G : Hp → Nat → Prop} (hev : ∀ h b r, ev h b r = true → r = true ∧ G h b) : ∀ (g : Sg) (nx : Option Nat), chk2K ms i c ev k g nx g.len = true → k = true ∧ ∀ u ny, Tail g nx u ny → u.len = c ∨ ¬ Feas ms i ny u ∨ G u.top (lastM ms u.last) := by
  intro g
  have one : ∀ (s : Nat) (nx ls : Option Nat) (h : Hp) (r : Bool), ife (Nat.beq s c) r (ife (feasB ms i nx ls) (ev h (lastM ms ls) r) r) = true → r = true ∧ (s = c ∨ ¬ ((∀ b, nx = some b → bitN (nthN ms i) b = false) ∧ ∀ b, ls = some b → bitN (nthN ms b) i = false) ∨ G h (lastM ms ls)) := by
    intro s nx ls h r hk
    rcases ife_ok hk with ⟨e, hk⟩ | ⟨_, hk⟩
    · exact ⟨hk, .inl (Nat.eq_of_beq_eq_true e)⟩
    rcases ife_ok hk with ⟨_, hk⟩ | ⟨e, hk⟩
    · exact ⟨(hev h _ r hk).1, .inr (.inr (hev h _ r hk).2)⟩
    · exact ⟨hk, .inr (.inl (feas_no e))⟩
  induction g with
  | z h =>
    intro nx hk
    obtain ⟨hk, h1⟩ := one _ nx none h k hk
    refine ⟨hk, fun u ny T => ?_⟩
    obtain ⟨rfl, rfl⟩ := T.invz
    exact h1
  | s b h t ih =>
    intro nx hk
    obtain ⟨hk, h1⟩ := one _ nx (some b) h _ hk
    rw [natK_eq] at hk
    obtain ⟨hk, h2⟩ := ih (some b) hk
    refine ⟨hk, fun u ny T => ?_⟩
    rcases T.inv with ⟨rfl, rfl⟩ | T
    · exact h1
    · exact h2 u ny T
noncomputable def noGd (o : Oper) (k : Bool) : Bool := Option.rec (motive := fun _ => Bool) k (fun _ => false) o.guard
theorem noGd_ok {o : Oper} {k : Bool} (h : noGd o k = true) : o.guard = none ∧ k = true := by
  obtain ⟨d, op, ty, pos, af, g⟩ := o
  cases g with
  | none => exact ⟨rfl, h⟩
  | some g => cases h
section
variable (P : Program) (fl n : Nat) (call : CallF) (ms : List Nat) (n0 : Nat)
abbrev KP2 := Tr AV → Sg → Nat → FrL → Bool
noncomputable def p2 (l : List Oper) : Nat → Tr AV → Hp → Sg → Nat → FrL → KP2 → Bool :=
  List.rec (motive := fun _ => Nat → Tr AV → Hp → Sg → Nat → FrL → KP2 → Bool) (fun _ E _ G c FL k => k E G c FL)
  (fun o _ ih i E h G c FL k => noGd o (subE E o.op.operands.toList .e fun e => upK n0 (nthN ms i) (lastM ms G.last) FL h fun h1 => ife (bigOp P o.op)
      (ife (lastOk ms i G.last)
        (ask (dstOkB n o.dst) (opHd o.op P fl call h1 e o.type (fun v h' => setE n o.dst v E fun E => natK (Nat.succ i) fun i' => natK (Nat.succ c) fun c => ih i' E h' (.s i h' G) c FL k) (fun _ _ => false)))
        (frK P e (fun t cs vn => natK (Nat.add n0 i) fun nm => setE n o.dst (vn nm) E fun E => natK (Nat.succ i) fun i' => ih i' E h G c ((i, t, cs) :: FL) k) o.op))
      (opHd o.op P fl call h1 e o.type (fun v _ => setE n o.dst v E fun E => natK (Nat.succ i) fun i' => ih i' E h G c FL fun Ef Gf cf Ff =>
        chk2K ms i c (fun h b r => upK n0 (nthN ms i) b Ff h fun h1 => opHd o.op P fl call h1 e o.type (fun w _ => eqD Ef o.dst w r) (fun _ _ => false)) (k Ef Gf cf Ff) Gf none cf) (fun _ _ => false)))) l
end
noncomputable def allM (N : Nat) : Nat := Nat.sub (Nat.pow 2 N) 1
noncomputable def draw2K (P : Program) (fl n : Nat) (call : CallF) : DrawF := fun ops env h k => lenK ops.toList fun N => natK (Nat.add h.next N) fun nx => ask (Nat.ble nx LIM)
  (p2 P fl n call (masks ops.toList []) h.next ops.toList 0 env ⟨nx, h.tr⟩ (.z ⟨nx, h.tr⟩) 0 [] fun Ef Gf _ Ff => upK h.next (allM N) (lastM (masks ops.toList []) Gf.last) Ff Gf.top fun hx => k .nm Ef hx)
section
variable {P : Program} {fl n : Nat} {call : CallF} {ops : Array Oper} {ms : List Nat} {n0 N : Nat}
/-- What is known of the operations from some place on. -/
inductive P2 (P : Program) (fl n n0 : Nat) (ms : List Nat) (Ef : Tr AV) (Gf : Sg) (Ff : FrL) : List Oper → Nat → Tr AV → Sg → FrL → Prop where
  | nil {i} : P2 P fl n n0 ms Ef Gf Ff [] i Ef Gf Ff
  | small {o rest i E G F e v h1} : o.guard = none → DOk n o.dst → Sub E o.op.operands.toList e → Up n0 (nthN ms i) (lastM ms G.last) F G.top h1 → Yo P fl o.op o.type e h1 v → (∀ u ny, Tail Gf none u ny → u.len = G.len ∨ ¬ Feas ms i ny u ∨ ∃ h1 w, Up n0 (nthN ms i) (lastM ms u.last) Ff u.top h1 ∧ Yo P fl o.op o.type e h1 w ∧ DstIs Ef o.dst w) → P2 P fl n n0 ms Ef Gf Ff rest (i + 1) (setD o.dst v E) G F → P2 P fl n n0 ms Ef Gf Ff (o :: rest) i E G F
  | big {o rest i E G F e v h1 h'} : o.guard = none → DOk n o.dst → Sub E o.op.operands.toList e → (∀ b, G.last = some b → bitN (nthN ms i) b = true) → Up n0 (nthN ms i) (lastM ms G.last) F G.top h1 → BigAt P fl n o e h1 v h' → P2 P fl n n0 ms Ef Gf Ff rest (i + 1) (setD o.dst v E) (.s i h' G) F → P2 P fl n n0 ms Ef Gf Ff (o :: rest) i E G F
  | free {o rest i E G F e t cs vn mk} : o.guard = none → DOk n o.dst → Sub E o.op.operands.toList e → Fo P o.op o.type e t cs mk → NmV vn mk → P2 P fl n n0 ms Ef Gf Ff rest (i + 1) (setD o.dst (vn (n0 + i)) E) G ((i, t, cs) :: F) → P2 P fl n n0 ms Ef Gf Ff (o :: rest) i E G F
theorem p2_ok (hc : CallOk P fl call) : ∀ {l : List Oper} {i : Nat} {E : Tr AV} {h : Hp} {G : Sg} {c : Nat} {F : FrL} {k : KP2}, h = G.top → c = G.len → (∀ x ∈ F, x.1 < i) → i + l.length ≤ N → n0 + N ≤ LIM → p2 P fl n call ms n0 l i E h G c F k = true → ∃ Ef Gf Ff, k Ef Gf Gf.len Ff = true ∧ P2 P fl n n0 ms Ef Gf Ff l i E G F ∧ ∀ x ∈ Ff, x.1 < N
  | [], i, E, h, G, c, F, k, e1, e2, hF, hN, hl, hk => by subst e1; subst e2; exact ⟨E, G, F, hk, .nil, fun x hx => by have := hF x hx; simp at hN; omega⟩
  | o :: rest, i, E, h, G, c, F, k, e1, e2, hF, hN, hl, hk => by
    subst e1; subst e2
    simp only [List.length_cons] at hN
    obtain ⟨hg, hk⟩ := noGd_ok hk
    obtain ⟨e, hk, he⟩ := subE_ok hk
    obtain ⟨h1, hk, hU⟩ := upK_ok (fun x hx => by have := hF x hx; omega) hk
    have hF' : ∀ x ∈ F, x.1 < i + 1 := fun x hx => Nat.lt_succ_of_lt (hF x hx)
    rcases ife_ok hk with ⟨hb, hk⟩ | ⟨hb, hk⟩
    · rcases ife_ok hk with ⟨hL, hk⟩ | ⟨_, hk⟩
      · obtain ⟨h2, hk⟩ := ask_ok hk
        rcases opHd_big hc (n := n) (dstOkB_ok h2) hk with ⟨v, h', hk, hB⟩ | ⟨v, h', hk, hB⟩
        · obtain ⟨hk, hd⟩ := setE_eq hk
          rw [natK_eq, natK_eq] at hk
          obtain ⟨Ef, Gf, Ff, hk, hP, hx⟩ := p2_ok hc (l := rest) (G := .s i h' G) rfl rfl hF' (by omega) hl hk
          exact ⟨Ef, Gf, Ff, hk, .big hg hd he (lastOk_ok hL) hU hB hP, hx⟩
        · cases hk
      · obtain ⟨t, cs, vn, mk, hk, hFo, hNm⟩ := frK_ok (ty := o.type) hk
        rw [natK_eq] at hk
        obtain ⟨hk, hd⟩ := setE_eq hk
        rw [natK_eq] at hk
        obtain ⟨Ef, Gf, Ff, hk, hP, hx⟩ := p2_ok hc (l := rest) (G := G) (F := (i, t, cs) :: F) rfl rfl (fun x hx => by
          rcases List.mem_cons.1 hx with rfl | hx
          · exact Nat.lt_succ_self _
          · exact hF' x hx) (by omega) hl hk
        exact ⟨Ef, Gf, Ff, hk, .free hg hd he hFo hNm hP, hx⟩
    · obtain ⟨v, hk, hY⟩ := small_ok hb hk
      obtain ⟨hk, hd⟩ := setE_eq hk
      rw [natK_eq] at hk
      obtain ⟨Ef, Gf, Ff, hk, hP, hx⟩ := p2_ok hc (l := rest) (G := G) rfl rfl hF' (by omega) hl hk
      obtain ⟨hk, hT⟩ := chk2K_ok (G := fun h b => ∃ h1 w, Up n0 (nthN ms i) b Ff h h1 ∧ Yo P fl o.op o.type e h1 w ∧ DstIs Ef o.dst w) (fun h b r hr => by
        obtain ⟨h1, hr, hU⟩ := upK_ok (fun x hxx => by have := hx x hxx; omega) hr
        obtain ⟨w, hr, hY⟩ := small_ok hb hr
        obtain ⟨hr, hD⟩ := eqD_ok hr
        exact ⟨hr, h1, w, hU, hY, hD⟩) Gf none hk
      exact ⟨Ef, Gf, Ff, hk, .small hg hd he hU hY hT hP, hx⟩
/-- Nothing from i on writes the slot. -/
theorem P2.keep {Ef : Tr AV} {Gf : Sg} {Ff : FrL} {l : List Oper} {i : Nat} {E : Tr AV} {G : Sg} {F : FrL} (h : P2 P fl n n0 ms Ef Gf Ff l i E G F) (hl : ops.toList.drop i = l) {t : Nat} (ht : t < LIM) (ho : Off ops i t) : Tr.get (bits t) Ef = Tr.get (bits t) E := by
  induction h with
  | nil => rfl
  | small hg hd _ _ _ _ _ ih =>
    obtain ⟨h1, h2⟩ := drop_cons hl
    rw [toL] at h1
    rw [ih h2 (fun j o a b => ho j o (by omega) b), setD_ne hd ht (ho _ _ (Nat.le_refl _) h1)]
  | big hg hd _ _ _ _ _ ih =>
    obtain ⟨h1, h2⟩ := drop_cons hl
    rw [toL] at h1
    rw [ih h2 (fun j o a b => ho j o (by omega) b), setD_ne hd ht (ho _ _ (Nat.le_refl _) h1)]
  | free hg hd _ _ _ _ ih =>
    obtain ⟨h1, h2⟩ := drop_cons hl
    rw [toL] at h1
    rw [ih h2 (fun j o a b => ho j o (by omega) b), setD_ne hd ht (ho _ _ (Nat.le_refl _) h1)]
theorem P2.tail {Ef : Tr AV} {Gf : Sg} {Ff : FrL} {l : List Oper} {i : Nat} {E : Tr AV} {G : Sg} {F : FrL} (h : P2 P fl n n0 ms Ef Gf Ff l i E G F) : (∃ nx, Tail Gf none G nx) ∧ ∀ x ∈ F, x ∈ Ff := by
  induction h with
  | nil => exact ⟨⟨_, .refl⟩, fun x h => h⟩
  | small _ _ _ _ _ _ _ ih => exact ih
  | big _ _ _ _ _ _ _ ih => obtain ⟨⟨nx, T⟩, q⟩ := ih; exact ⟨⟨_, T.step⟩, q⟩
  | free _ _ _ _ _ _ ih => exact ⟨ih.1, fun x hx => ih.2 x (List.mem_cons_of_mem _ hx)⟩
theorem P2.wf {Ef : Tr AV} {Gf : Sg} {Ff : FrL} {l : List Oper} {i : Nat} {E : Tr AV} {G : Sg} {F : FrL} (h : P2 P fl n n0 ms Ef Gf Ff l i E G F) (hG : WF ms G) : WF ms Gf := by
  induction h with
  | nil => exact hG
  | small _ _ _ _ _ _ _ ih => exact ih hG
  | big _ _ _ h1 _ _ _ ih => exact ih ⟨h1, hG⟩
  | free _ _ _ _ _ _ ih => exact ih hG
theorem P2.bigs {Ef : Tr AV} {Gf : Sg} {Ff : FrL} {l : List Oper} {i : Nat} {E : Tr AV} {G : Sg} {F : FrL} (h : P2 P fl n n0 ms Ef Gf Ff l i E G F) : (∀ b ∈ Gf.bigs, b ∈ G.bigs ∨ (i ≤ b ∧ b < i + l.length)) ∧ ∀ x ∈ Ff, x ∈ F ∨ i ≤ x.1 := by
  induction h with
  | nil => exact ⟨fun b h => .inl h, fun x h => .inl h⟩
  | small _ _ _ _ _ _ _ ih => exact ⟨fun b h => (ih.1 b h).imp id fun q => by simp only [List.length_cons]; omega, fun x h => (ih.2 x h).imp id fun q => by omega⟩
  | big _ _ _ _ _ _ _ ih =>
    refine ⟨fun b h => ?_, fun x h => (ih.2 x h).imp id fun q => by omega⟩
    rcases ih.1 b h with h | h
    · rcases List.mem_cons.1 h with rfl | h
      · exact .inr (by simp only [List.length_cons]; omega)
      · exact .inl h
    · exact .inr (by simp only [List.length_cons]; omega)
  | free _ _ _ _ _ _ ih =>
    refine ⟨fun b h => (ih.1 b h).imp id fun q => by simp only [List.length_cons]; omega, fun x h => ?_⟩
    rcases ih.2 x h with h | h
    · rcases List.mem_cons.1 h with rfl | h
      · exact .inr (Nat.le_refl _)
      · exact .inl h
    · exact .inr (by omega)
inductive Fact2 (P : Program) (fl n n0 : Nat) (ops : Array Oper) (ms : List Nat) (E0 Ef : Tr AV) (Gf : Sg) (Ff : FrL) (i : Nat) (o : Oper) : Prop where
  | small {e} : i ∉ Gf.bigs → (∀ x ∈ Ff, x.1 ≠ i) → o.guard = none → DOk n o.dst → Use ops E0 Ef i o e → (∀ u ny, Tail Gf none u ny → Feas ms i ny u → ∃ F h1 w, (∀ x ∈ F, x ∈ Ff) ∧ Up n0 (nthN ms i) (lastM ms u.last) F u.top h1 ∧ Yo P fl o.op o.type e h1 w ∧ DstIs Ef o.dst w) → Fact2 P fl n n0 ops ms E0 Ef Gf Ff i o
  | big {e t h1 h' nx v F} : (∀ x ∈ Ff, x.1 ≠ i) → o.guard = none → DOk n o.dst → Use ops E0 Ef i o e → Tail Gf none (.s i h' t) nx → (∀ x ∈ F, x ∈ Ff) → Up n0 (nthN ms i) (lastM ms t.last) F t.top h1 → BigAt P fl n o e h1 v h' → DstIs Ef o.dst v → (∀ b, t.last = some b → bitN (nthN ms i) b = true) → Fact2 P fl n n0 ops ms E0 Ef Gf Ff i o
  | free {e t cs vn mk} : i ∉ Gf.bigs → o.guard = none → DOk n o.dst → Use ops E0 Ef i o e → Fo P o.op o.type e t cs mk → NmV vn mk → DstIs Ef o.dst (vn (n0 + i)) → (∀ x ∈ Ff, x.1 = i → x = (i, t, cs)) → Fact2 P fl n n0 ops ms E0 Ef Gf Ff i o
theorem P2.fact {E0 Ef : Tr AV} {Gf : Sg} {Ff : FrL} (hR : RegOk ops ms) {l : List Oper} {i : Nat} {E : Tr AV} {G : Sg} {F : FrL} (h : P2 P fl n n0 ms Ef Gf Ff l i E G F) (hl : ops.toList.drop i = l) (hG : ∀ b ∈ G.bigs, b < i) (hF : ∀ x ∈ F, x.1 < i) (hE : ∀ t, t < LIM → (∀ j o, ops[j]? = some o → o.dst = some t → i ≤ j) → Tr.get (bits t) E = Tr.get (bits t) E0) : ∀ j o, i ≤ j → ops[j]? = some o → Fact2 P fl n n0 ops ms E0 Ef Gf Ff j o := by
  have use : ∀ {o : Oper} {rest : List Oper} {i : Nat} {E e : Tr AV} {G : Sg} {F : FrL}, P2 P fl n n0 ms Ef Gf Ff (o :: rest) i E G F → ops.toList.drop i = o :: rest → (∀ t, t < LIM → (∀ j o, ops[j]? = some o → o.dst = some t → i ≤ j) → Tr.get (bits t) E = Tr.get (bits t) E0) → Sub E o.op.operands.toList e → Use ops E0 Ef i o e := by
    intro o rest i E e G F h hl hE hS t v ht hv
    obtain ⟨h1, h2⟩ := hS t v ht hv
    refine ⟨by simpa using h1, fun q => ?_, fun q => ?_⟩
    · rw [h.keep hl ht fun k o' hk ho' hd => ?_]
      · exact h2
      · have := q k o' ho' hd
        omega
    · rw [← hE t ht q]; exact h2
  have next : ∀ {o : Oper} {i : Nat} {E : Tr AV} {v : AV}, ops[i]? = some o → DOk n o.dst → (∀ t, t < LIM → (∀ j o, ops[j]? = some o → o.dst = some t → i ≤ j) → Tr.get (bits t) E = Tr.get (bits t) E0) → ∀ t, t < LIM → (∀ j o, ops[j]? = some o → o.dst = some t → i + 1 ≤ j) → Tr.get (bits t) (setD o.dst v E) = Tr.get (bits t) E0 := by
    intro o i E v hi hd hE t ht q
    rw [setD_ne hd ht fun c => by have := q i o hi c; omega]
    exact hE t ht fun j o' a b => by have := q j o' a b; omega
  have dst : ∀ {o : Oper} {rest : List Oper} {i : Nat} {E : Tr AV} {v : AV} {G : Sg} {F : FrL}, ops[i]? = some o → ops.toList.drop (i + 1) = rest → DOk n o.dst → P2 P fl n n0 ms Ef Gf Ff rest (i + 1) (setD o.dst v E) G F → DstIs Ef o.dst v := by
    intro o rest i E v G F hi hl hd h t ht
    rw [h.keep hl (lim_of (hd t ht).2) fun k o' hk ho' hdk => ?_, ht, setD_eq]
    have := hR.one i k o o' t hi ho' ht hdk
    omega
  have nobig : ∀ {rest : List Oper} {i : Nat} {E : Tr AV} {G : Sg} {F : FrL}, P2 P fl n n0 ms Ef Gf Ff rest (i + 1) E G F → (∀ b ∈ G.bigs, b < i) → i ∉ Gf.bigs := by
    intro rest i E G F hP hG hb
    rcases hP.bigs.1 _ hb with q | q
    · have := hG _ q; omega
    · omega
  have nofr : ∀ {rest : List Oper} {i : Nat} {E : Tr AV} {G : Sg} {F : FrL}, P2 P fl n n0 ms Ef Gf Ff rest (i + 1) E G F → (∀ x ∈ F, x.1 < i) → ∀ x ∈ Ff, x.1 ≠ i := by
    intro rest i E G F hP hG x hx e
    rcases hP.bigs.2 _ hx with q | q
    · have := hG _ q; omega
    · omega
  induction h with
  | nil =>
    intro j o hj ho
    have := (Array.getElem?_eq_some_iff.1 ho).1
    have h2 := List.drop_eq_nil_iff.1 hl
    simp at h2
    omega
  | @small o rest i E G F e v h1' hg hd he hU hY hT hP ih =>
    obtain ⟨h1, h2⟩ := drop_cons hl
    rw [toL] at h1
    intro j o' hj ho'
    rcases Nat.lt_or_ge i j with c | c
    · exact ih h2 (fun b hb => Nat.lt_succ_of_lt (hG b hb)) (fun b hb => Nat.lt_succ_of_lt (hF b hb)) (next h1 hd hE) j o' c ho'
    · have : j = i := by omega
      subst this
      rw [h1] at ho'; cases ho'
      refine .small (e := e) (nobig hP hG) (nofr hP hF) hg hd (use (.small hg hd he hU hY hT hP) hl hE he) fun u ny T hFe => ?_
      rcases hT u ny T with q | q | ⟨a, b, q⟩
      · obtain ⟨nx, TG⟩ := hP.tail.1
        have e1 : u = G := by
          rcases (T.cmp TG (by omega)).nx with ⟨e, _⟩ | ⟨_, _, _, q2⟩
          · exact e
          · omega
        subst e1
        exact ⟨F, _, v, hP.tail.2, hU, hY, dst h1 h2 hd hP⟩
      · exact absurd hFe q
      · exact ⟨Ff, a, b, fun x h => h, q⟩
  | @big o rest i E G F e v h1' h' hg hd he hL hU hB hP ih =>
    obtain ⟨h1, h2⟩ := drop_cons hl
    rw [toL] at h1
    intro j o' hj ho'
    rcases Nat.lt_or_ge i j with c | c
    · refine ih h2 (fun b hb => ?_) (fun b hb => Nat.lt_succ_of_lt (hF b hb)) (next h1 hd hE) j o' c ho'
      rcases List.mem_cons.1 hb with rfl | hb
      · exact Nat.lt_succ_self _
      · exact Nat.lt_succ_of_lt (hG b hb)
    · have : j = i := by omega
      subst this
      rw [h1] at ho'; cases ho'
      obtain ⟨nx, TG⟩ := hP.tail.1
      exact .big (e := e) (nofr hP hF) hg hd (use (.big hg hd he hL hU hB hP) hl hE he) TG hP.tail.2 hU hB (dst h1 h2 hd hP) hL
  | @free o rest i E G F e t cs vn mk hg hd he hFo hNm hP ih =>
    obtain ⟨h1, h2⟩ := drop_cons hl
    rw [toL] at h1
    intro j o' hj ho'
    rcases Nat.lt_or_ge i j with c | c
    · refine ih h2 (fun b hb => Nat.lt_succ_of_lt (hG b hb)) (fun b hb => ?_) (next h1 hd hE) j o' c ho'
      rcases List.mem_cons.1 hb with rfl | hb
      · exact Nat.lt_succ_self _
      · exact Nat.lt_succ_of_lt (hF b hb)
    · have : j = i := by omega
      subst this
      rw [h1] at ho'; cases ho'
      refine .free (e := e) (nobig hP hG) hg hd (use (.free hg hd he hFo hNm hP) hl hE he) hFo hNm (dst h1 h2 hd hP) fun x hx e => ?_
      rcases hP.bigs.2 x hx with q | q
      · rcases List.mem_cons.1 q with q | q
        · exact q
        · have := hF x q; omega
      · omega
end
end Go.Proofs.YtoafcnecjgnbmaaGreatDoor.E

set_option linter.constructorNameAsVariable false
namespace Go.Proofs.YtoafcnecjgnbmaaGreatDoor.E
open Go Go.RowKit H

section
variable {P : Program} {fl n : Nat} {call : CallF} {ops : Array Oper} {Ef E0 : Tr AV} {Gf : Sg} {Ff : FrL}
def Xm (ms : List Nat) (T : Sg) (m : Nat) : Prop := bitN (lastM ms T.last) m = true
def Fm (ms : List Nat) (i m : Nat) : Prop := bitN (nthN ms i) m = true
def or2 (X Y : Nat → Prop) (m : Nat) : Prop := X m ∨ Y m
/-- The free blocks that a slot's value may name. -/
def Wn (ops : Array Oper) (ms : List Nat) (t m : Nat) : Prop := ∃ j o, ops[j]? = some o ∧ o.dst = some t ∧ (bitN (nthN ms j) m = true ∨ m = j)
theorem cut_upd {ρ : Ren} {n0 N i : Nat} {X : Nat → Prop} (hi : i < N) (hX : ¬ X i) (p : Nat × Nat) : cut (upd ρ (n0 + i) p) n0 N X = cut ρ n0 N X := by
  have key : ∀ a b : Ren, a.f = b.f → a.hole = b.hole → a.sg = b.sg → a = b := by
    rintro ⟨a, b, _⟩ ⟨c, d, _⟩ h1 h2 h3
    cases h1; cases h2; cases h3; rfl
  have e0 : n0 + i - n0 = i := by omega
  refine key _ _ (funext fun j => ?_) (funext fun j => propext ?_) rfl
  · show cut (upd ρ (n0 + i) p) n0 N X j = cut ρ n0 N X j
    by_cases e : j = n0 + i
    · subst e
      have z : ∀ r : Ren, cut r n0 N X (n0 + i) = none := fun r => by
        cases e : cut r n0 N X (n0 + i) with
        | none => rfl
        | some q => exact absurd (e0 ▸ (cut_some.1 e).2 (by omega) (by omega)) hX
      rw [z, z]
    · have u : upd ρ (n0 + i) p j = ρ j := by rw [upd_eq, if_neg e]
      cases e2 : cut ρ n0 N X j with
      | some q => exact cut_some.2 ⟨u.trans (cut_some.1 e2).1, (cut_some.1 e2).2⟩
      | none =>
        cases e3 : cut (upd ρ (n0 + i) p) n0 N X j with
        | none => rfl
        | some q =>
          have := cut_some.2 ⟨u.symm.trans (cut_some.1 e3).1, (cut_some.1 e3).2⟩
          rw [e2] at this; cases this
  · by_cases e : j = n0 + i
    · subst e
      exact ⟨fun _ => .inl ⟨by omega, by omega, .inl (by rw [e0]; exact hX)⟩, fun _ => .inl ⟨by omega, by omega, .inl (by rw [e0]; exact hX)⟩⟩
    · have u : upd ρ (n0 + i) p j = ρ j := by rw [upd_eq, if_neg e]
      constructor
      · rintro (⟨a, b, c⟩ | c)
        · exact .inl ⟨a, b, c.imp id fun q => u.symm.trans q⟩
        · exact .inr c
      · rintro (⟨a, b, c⟩ | c)
        · exact .inl ⟨a, b, c.imp id fun q => u.trans q⟩
        · exact .inr c
theorem ext_cut {r ρ : Ren} {n0 N : Nat} {X Y : Nat → Prop} (hx : Ext r (cut ρ n0 N X)) (hr : ∀ i, r.hole i → i < n0) (hX : ∀ m, m < N → X m → Y m) : Ext r (cut ρ n0 N Y) :=
  ⟨⟨fun i p hp => cut_vx hX vx_refl i p (hx.v i p hp), hx.v.s⟩, fun i hi => by
    rcases hx.h i hi with ⟨a, _⟩ | q
    · have := hr i hi; omega
    · exact .inr q⟩
theorem draw2_ok (hm : P.follows .mixedOrders = true) (hR : RegOk ops (masks ops.toList [])) {h0 hx : Hp} (hlim : h0.next + ops.size ≤ LIM)
    (hP : P2 P fl n h0.next (masks ops.toList []) Ef Gf Ff ops.toList 0 E0 (.z ⟨h0.next + ops.size, h0.tr⟩) []) (hFf : ∀ x ∈ Ff, x.1 < ops.size)
    (hup : Up h0.next (allM ops.size) (lastM (masks ops.toList []) Gf.last) Ff Gf.top hx) (id : Nat) : CodeOk P fl n (.region id ops true) E0 h0 .nm Ef hx := by
  generalize hN : ops.size = N at *
  generalize hms : masks ops.toList [] = ms at *
  have htr : ∀ (i : Nat) (o : Oper), ops[i]? = some o → ∀ j, bitN (nthN ms i) j = true → ∀ m, bitN (nthN ms j) m = true → bitN (nthN ms i) m = true := by subst hms; exact masks_tr hR
  have hl : ops.toList.drop 0 = ops.toList := by simp
  have facts := P2.fact (E0 := E0) hR hP hl (fun b hb => by cases hb) (fun b hb => by cases hb) (fun t _ _ => rfl)
  have hwf := hP.wf trivial
  have hsz : ∀ j o, ops[j]? = some o → j < N := fun j o h => hN ▸ (Array.getElem?_eq_some_iff.1 h).1
  intro M hM S w0 r f0 w Q hn0 hf0 hR0 hE
  subst hM
  have hrh : ∀ i, r.hole i → i < h0.next := fun i hi => (hR0.hol i hi).2
  have keep0 : ∀ t, t < LIM → (∀ (j : Nat) (o : Oper), ops[j]? = some o → o.dst ≠ some t) → Tr.get (bits t) Ef = Tr.get (bits t) E0 := fun t ht q => hP.keep hl ht fun j o _ => q j o
  let Inv : (Nat → Prop) → Fr → World → Prop := fun D f w => f.n = n ∧ f.ds = f0.ds ∧ (∀ i, D i → ∀ (o : Oper), ops[i]? = some o → ∀ j ∈ edgeL o, D j) ∧ (∀ i, D i → i < N) ∧ ∃ ρ T nx, Ext r (cut ρ h0.next N (Xm ms T)) ∧ Tail Gf none T nx ∧ (∀ b ∈ T.bigs, D b) ∧ (∀ b, nx = some b → ¬ D b) ∧
    Rel S w0 fl (cut ρ h0.next N (Xm ms T)) T.top w ∧ h0.next + N ≤ T.top.next ∧ Pd S w0 h0.next N ρ (Xm ms T) w ∧
    (∀ x ∈ Ff, D x.1 → ¬ Xm ms T x.1 → ∃ p, ρ (h0.next + x.1) = some p ∧ BRel (cut ρ h0.next N (or2 (Xm ms T) (Fm ms x.1))) p w (.cells x.2.1 false false x.2.2)) ∧
    (∀ j, j < N → ¬ D j → ρ (h0.next + j) = none) ∧
    ∀ t, t < LIM → ((∀ (j : Nat) (o : Oper), ops[j]? = some o → o.dst = some t → D j) → ∀ v, Tr.get (bits t) Ef = some v → ∃ u, real (cut ρ h0.next N (or2 (Xm ms T) (Wn ops ms t))) v = some u ∧ H.look f.e t = some u) ∧ ((∀ (j : Nat) (o : Oper), ops[j]? = some o → o.dst = some t → ¬ D j) → ∀ v, Tr.get (bits t) E0 = some v → ∃ u, real (cut ρ h0.next N (Xm ms T)) v = some u ∧ H.look f.e t = some u)
  have masksD : ∀ D : Nat → Prop, (∀ i, D i → ∀ (o : Oper), ops[i]? = some o → ∀ j ∈ edgeL o, D j) → (∀ i, D i → i < N) → ∀ i, D i → ∀ j, bitN (nthN ms i) j = true → D j := by
    intro D hcl hDs i
    induction i using Nat.strongRecOn with
    | _ i ih =>
      intro hDi j hj
      obtain ⟨o', ho'⟩ : ∃ o', ops[i]? = some o' := ⟨ops[i]'(hN ▸ hDs i hDi), Array.getElem?_eq_getElem _⟩
      rcases hR.anc i o' ho' j hj with q | ⟨m, hm1, hm2⟩
      · exact hcl i hDi o' ho' j q
      · exact ih m (hR.lt i o' ho' m hm1) (hcl i hDi o' ho' m hm1) j hm2
  have xmD : ∀ D : Nat → Prop, (∀ i, D i → ∀ j, bitN (nthN ms i) j = true → D j) → ∀ T : Sg, (∀ b ∈ T.bigs, D b) → ∀ m, Xm ms T m → D m := by
    intro D hmaskD T hTb m hm
    cases T with
    | z h =>
      have : Nat.testBit 0 m = true := hm
      simp at this
    | s b h t => exact hmaskD b (hTb b (List.mem_cons_self ..)) m hm
  -- the memory with the blocks named that are wanted
  have lifted : ∀ {ρ : Ren} {T : Sg} {w : World} {D : Nat → Prop} {m : Nat} {Y : Nat → Prop} {F : FrL} {h1 : Hp}, Rel S w0 fl (cut ρ h0.next N (Xm ms T)) T.top w → h0.next + N ≤ T.top.next → Pd S w0 h0.next N ρ (Xm ms T) w →
      (∀ x ∈ Ff, D x.1 → ¬ Xm ms T x.1 → ∃ p, ρ (h0.next + x.1) = some p ∧ BRel (cut ρ h0.next N (or2 (Xm ms T) (Fm ms x.1))) p w (.cells x.2.1 false false x.2.2)) → (∀ x ∈ F, x ∈ Ff) → Up h0.next m (lastM ms T.last) F T.top h1 →
      (∀ k, Xm ms T k → Y k) → (∀ k, k < N → bitN m k = true → D k ∧ Y k ∧ ∀ k', bitN (nthN ms k) k' = true → Y k') → Rel S w0 fl (cut ρ h0.next N Y) h1 w := by
    intro ρ T w D m Y F h1 hRel hnx hPd hB hF hU hXY hY
    refine hRel.lift hnx hR0.base.2 hPd hXY hU.next (fun i hi hL => ?_) fun j hj b hb => ?_
    · cases e : h1.at i with
      | none => rfl
      | some b =>
        rcases hU.at_ i hL b e with q | ⟨x, hx, rfl, _⟩
        · rw [hRel.top i hi hL] at q; cases q
        · have := hFf x (hF x hx); omega
    · rcases hU.at_ j (Nat.lt_of_lt_of_le hj hRel.lim) b hb with q | ⟨x, hx, rfl, b1, b2, rfl⟩
      · exact .inl q
      · have hxN := hFf x (hF x hx)
        obtain ⟨hD, hYx, hYs⟩ := hY x.1 hxN b1
        have hX : ¬ Xm ms T x.1 := fun c => by
          have : bitN (lastM ms T.last) x.1 = true := c
          rw [b2] at this; cases this
        obtain ⟨p, hp, hBR⟩ := hB x (hF x hx) hD hX
        exact .inr ⟨x.1, p, rfl, hxN, hX, hYx, hp, hBR.vx (cut_vx (fun k _ => fun q => q.elim (hXY k) (hYs k)) vx_refl)⟩
  refine CW_draw hm Inv (fun i o hi j hj => hR.lt i o hi j (by rwa [edgesOf_eq hi] at hj)) (fun D f w i o hi hnD hed hlt hI => ?_) (fun f w hI => ?_) (fun w' hk => ?_)
  · obtain ⟨hn, hds, hcl, hDs, ρ, T, nx, hx', hT, hTb, hnx, hRel, hnN, hPd, hBl, hno, hS⟩ := hI
    rw [edgesOf_eq hi] at hed
    have hiN := hsz i o hi
    have hmaskD := masksD D hcl hDs
    have hmask : ∀ j, bitN (nthN ms i) j = true → D j := by
      intro j hj
      rcases hR.anc i o hi j hj with q | ⟨m, hm1, hm2⟩
      · exact hed j q
      · exact hmaskD m (hed m hm1) j hm2
    have hXD := xmD D hmaskD T hTb
    have hXi : ¬ Xm ms T i := fun c => hnD (hXD i c)
    have frame : ∀ {e}, Use ops E0 Ef i o e → FrOk (cut ρ h0.next N (or2 (Xm ms T) (Fm ms i))) e f := by
      intro e hU t v ht hv
      obtain ⟨h1, h2, h3⟩ := hU t v ht hv
      have up1 : ∀ {v : AV}, (∃ u, real (cut ρ h0.next N (Xm ms T)) v = some u ∧ H.look f.e t = some u) → ∃ u, real (cut ρ h0.next N (or2 (Xm ms T) (Fm ms i))) v = some u ∧ H.look f.e t = some u := fun ⟨u, a, b⟩ => ⟨u, real_vx (cut_vx (fun k _ q => .inl q) vx_refl) _ _ a, b⟩
      by_cases hw : ∃ (j : Nat) (o' : Oper), ops[j]? = some o' ∧ o'.dst = some t
      · obtain ⟨j, o', hj, hd⟩ := hw
        have uni : ∀ k o2, ops[k]? = some o2 → o2.dst = some t → k = j := fun k o2 a b => hR.one k j o2 o' t a hj b hd
        have case0 : i ≤ j → ¬ D j → ∃ u, real (cut ρ h0.next N (or2 (Xm ms T) (Fm ms i))) v = some u ∧ H.look f.e t = some u := fun hij hDj => up1 ((hS t ht).2 (fun k o2 a b => by rw [uni k o2 a b]; exact hDj) v (h3 fun k o2 a b => by rw [uni k o2 a b]; exact hij))
        rcases hR.use i j o o' t hi hj h1 hd with q | q | q
        · have hb := hR.bw i o j hi q
          obtain ⟨u, a, b⟩ := (hS t ht).1 (fun k o2 a b => by rw [uni k o2 a b]; exact hmask j q) v (h2 fun k o2 a b => by rw [uni k o2 a b]; exact hb)
          refine ⟨u, real_vx (cut_vx (fun k _ z => z.imp (fun z => z) fun ⟨j2, o2, c1, c2, c3⟩ => ?_) vx_refl) _ _ a, b⟩
          rw [uni j2 o2 c1 c2] at c3
          rcases c3 with c3 | rfl
          · exact htr i o hi j q k c3
          · exact q
        · have hb := hR.bw j o' i hj q
          exact case0 (by omega) fun c => hnD (hmaskD j c i q)
        · subst q; exact case0 (Nat.le_refl _) hnD
      · have hno : ∀ (j : Nat) (o' : Oper), ops[j]? = some o' → o'.dst = some t → False := fun j o' a b => hw ⟨j, o', a, b⟩
        have e0 := keep0 t ht fun j o' a b => (hno j o' a b)
        refine up1 ((hS t ht).2 (fun j o' a b => (hno j o' a b).elim) v ?_)
        rw [← e0]
        exact h2 fun j o' a b => (hno j o' a b).elim
    -- the state behind the operation
    have step : ∀ {ρ2 T2 nx2 w2 v u}, DOk n o.dst → Ext r (cut ρ2 h0.next N (Xm ms T2)) → Tail Gf none T2 nx2 → (∀ b ∈ T2.bigs, b = i ∨ D b) → (∀ b, nx2 = some b → ¬ (b = i ∨ D b)) → Rel S w0 fl (cut ρ2 h0.next N (Xm ms T2)) T2.top w2 → h0.next + N ≤ T2.top.next → Pd S w0 h0.next N ρ2 (Xm ms T2) w2 →
        (∀ x ∈ Ff, (x.1 = i ∨ D x.1) → ¬ Xm ms T2 x.1 → ∃ p, ρ2 (h0.next + x.1) = some p ∧ BRel (cut ρ2 h0.next N (or2 (Xm ms T2) (Fm ms x.1))) p w2 (.cells x.2.1 false false x.2.2)) → (∀ j, j < N → ¬ (j = i ∨ D j) → ρ2 (h0.next + j) = none) →
        Vx ρ ρ2 → (∀ k, Xm ms T k → Xm ms T2 k) → (∀ t, o.dst = some t → real (cut ρ2 h0.next N (or2 (Xm ms T2) (Wn ops ms t))) v = some u) → DstIs Ef o.dst v → Inv (fun j => j = i ∨ D j) (putO f o.dst u) w2 := by
      intro ρ2 T2 nx2 w2 v u hd hx2 hT2 hb2 hn2 hR2 hnN2 hPd2 hBl2 hno2 hvx hXX hu hD
      refine ⟨(putO_n _ _ _).1.trans hn, (putO_n _ _ _).2.trans hds, fun k hk o' ho' j hj => ?_, fun k hk => ?_, ρ2, T2, nx2, hx2, hT2, hb2, hn2, hR2, hnN2, hPd2, hBl2, hno2, fun t ht => ?_⟩
      · rcases hk with rfl | hk
        · rw [hi] at ho'; cases ho'
          exact .inr (hed j hj)
        · exact .inr (hcl k hk o' ho' j hj)
      · rcases hk with rfl | hk
        · exact hiN
        · exact hDs k hk
      · by_cases hdt : o.dst = some t
        · have hlook : H.look (putO f o.dst u).e t = some u := by rw [hdt]; simp [putO, Fr.put, H.look, beq_self]
          refine ⟨fun _ v' hv' => ?_, fun q => (q i o hi hdt (.inl rfl)).elim⟩
          rw [hD t hdt] at hv'; cases hv'
          exact ⟨u, hu t hdt, hlook⟩
        · have hlook : H.look (putO f o.dst u).e t = H.look f.e t := by
            cases hod : o.dst with
            | none => rfl
            | some d => simp only [putO, Fr.put, H.look]; rw [beq_ne fun c => hdt (by rw [hod, c])]
          refine ⟨fun q v' hv' => ?_, fun q v' hv' => ?_⟩
          · obtain ⟨u', a, b⟩ := (hS t ht).1 (fun j o' a b => by
              rcases q j o' a b with rfl | q
              · rw [hi] at a; cases a; exact absurd b hdt
              · exact q) v' hv'
            exact ⟨u', real_vx (cut_vx (fun k _ z => z.imp (hXX k) fun z => z) hvx) _ _ a, hlook.trans b⟩
          · obtain ⟨u', a, b⟩ := (hS t ht).2 (fun j o' a b => fun c => q j o' a b (.inr c)) v' hv'
            exact ⟨u', real_vx (cut_vx (fun k _ z => hXX k z) hvx) _ _ a, hlook.trans b⟩
    have stay : i ∉ Gf.bigs → ∀ b, nx = some b → ¬ (b = i ∨ D b) := by
      rintro hb b e (rfl | c)
      · rcases hT.nx with ⟨_, e2⟩ | ⟨c, e2, h2, _⟩
        · rw [e] at e2; cases e2
        · rw [e] at e2; cases e2; exact hb h2
      · exact hnx b e c
    have want : o.guard = none → RW none P ops (thenK (fun f' w' => Inv (fun j => j = i ∨ D j) f' w') Q) [{ o with guard := none }] f w → RW none P ops (thenK (fun f' w' => Inv (fun j => j = i ∨ D j) f' w') Q) [o] f w := by
      intro hg k
      have e : ({ o with guard := none } : Oper) = o := by cases o; cases hg; rfl
      rw [e] at k; exact k
    have relAt : ∀ {F h1}, (∀ x ∈ F, x ∈ Ff) → Up h0.next (nthN ms i) (lastM ms T.last) F T.top h1 → Rel S w0 fl (cut ρ h0.next N (or2 (Xm ms T) (Fm ms i))) h1 w := fun hF hU =>
      lifted (D := D) hRel hnN hPd hBl hF hU (fun k q => .inl q) fun k _ q => ⟨hmask k q, .inr q, fun k' q' => .inr (htr i o hi k q k' q')⟩
    have own : ∀ t, o.dst = some t → ∀ k, Fm ms i k → Wn ops ms t k := fun t ht k q => ⟨i, o, hi, ht, .inl q⟩
    cases facts i o (Nat.zero_le _) hi with
    | @small e hb hfr hg hd hU hY =>
      obtain ⟨F, h1, v, hF, hUp, hY, hD⟩ := hY T nx hT ⟨fun b e => by
          rw [Bool.eq_false_iff]
          exact fun c => hnx b e (hmask b c), fun b e => by
          rw [Bool.eq_false_iff]
          refine fun c => hnD (hmaskD b (hTb b ?_) i c)
          cases T with
          | z h => cases e
          | s b' h t => cases e; exact List.mem_cons_self ..⟩
      obtain ⟨u, hu, hr⟩ := hY S w0 _ f w (frame hU) (relAt hF hUp)
      refine want hg (RW.gen (o := { o with guard := none }) rfl (fun t e => by rw [hn]; exact (hd t e).1) (.inl rfl) (fun a ha => hr _ _ _ _ a ha) (RW.nil (step hd hx' hT (fun b hb => .inr (hTb b hb)) (stay hb) hRel hnN hPd (fun x hx q => hBl x hx (q.resolve_left (hfr x hx))) (fun j hj q => hno j hj fun c => q (.inr c)) vx_refl (fun k q => q) (fun t ht => ?_) hD)))
      exact real_vx (cut_vx (fun k _ z => z.imp (fun z => z) (own t ht k)) vx_refl) _ _ hu
    | @big e t h1 h' nx2 v F hfr hg hd hU hT2 hF hUp hB hD hL =>
      have hTt : Tail Gf none t (some i) := hT2.step
      have key : T = t ∧ nx = some i := by
        rcases Nat.le_total T.len t.len with hle | hle
        · rcases (hT.cmp hTt hle).nx with q | ⟨c, e, hc, _⟩
          · exact q
          · exact (hnx c e (WF.all hmaskD (hTt.wf hwf) (fun b hb => hmask b (hL b hb)) c hc)).elim
        · rcases (hTt.cmp hT hle).nx with ⟨q1, q2⟩ | ⟨c, e, hc, _⟩
          · exact ⟨q1.symm, q2.symm⟩
          · cases e; exact (hnD (hTb _ hc)).elim
      obtain ⟨rfl, rfl⟩ := key
      have hXF : ∀ k, Xm ms T k → Fm ms i k := fun k q => by
        cases T with
        | z h =>
          have : Nat.testBit 0 k = true := q
          simp at this
        | s b h t => exact htr i o hi b (hL b rfl) k q
      have e1 : cut ρ h0.next N (or2 (Xm ms T) (Fm ms i)) = cut ρ h0.next N (Fm ms i) := cut_ext fun k _ => ⟨fun q => q.elim (hXF k) fun q => q, .inr⟩
      have hRi := relAt hF hUp
      have hfr2 := frame hU
      rw [e1] at hRi hfr2
      have hPi := hPd.up hXF
      refine want hg (hB _ w _ f w _ ops [] hn hfr2 hRi.self fun r2 w2 u hx2 hu hR2 => ?_)
      have hol : ∀ i, r2.hole i → r2 i = none := fun i q => (hR2.hol i q).1
      have ec : cut (glue ρ r2 h0.next N) h0.next N (Fm ms i) = r2 := glue_cut hx2 hol
      obtain ⟨hPd2, hsame⟩ := Pd.frame hRi hPi hx2 hR2
      have hRb := hRi.back hR2
      have hvx := glue_vx (ρ := ρ) hx2
      have hnN2 : h0.next + N ≤ h'.next := by
        have c : h0.next + (N - 1) < h'.next := by
          cases e : r2 (h0.next + (N - 1)) with
          | some p => exact hRb.lt e
          | none =>
            rw [← ec] at e
            have : (cut (glue ρ r2 h0.next N) h0.next N (Fm ms i)).hole (h0.next + (N - 1)) := by
              refine .inl ⟨by omega, by omega, ?_⟩
              rcases cut_none e with ⟨_, _, q⟩ | q
              · exact .inl q
              · exact .inr q
            rw [ec] at this
            exact (hRb.hol _ this).2
        omega
      refine RW.nil (step (ρ2 := glue ρ r2 h0.next N) (T2 := .s i h' T) (nx2 := nx2) (w2 := w2) (v := v) (u := u) hd ?_ hT2 (fun b hb => ?_) (fun b e => ?_) ?_ hnN2 hPd2 (fun x hx q hX => ?_) (fun j hj q => ?_) hvx hXF (fun t ht => ?_) hD)
      · show Ext r (cut (glue ρ r2 h0.next N) h0.next N (Fm ms i))
        rw [ec]
        exact (ext_cut hx' hrh fun k _ q => hXF k q).trans hx2
      · rcases List.mem_cons.1 hb with q | q
        · exact .inl q
        · exact .inr (hTb b q)
      · rcases hT2.above hwf with ⟨_, e2⟩ | ⟨c, e2, hc⟩
        · rw [e2] at e; cases e
        · rw [e2] at e; cases e
          have hci := hc i rfl
          rintro (rfl | c1)
          · have := hR.bw _ o _ hi hci
            omega
          · exact hnD (hmaskD _ c1 i hci)
      · show Rel S w0 fl (cut (glue ρ r2 h0.next N) h0.next N (Fm ms i)) h' w2
        rw [ec]; exact hRb
      · have hX1 : ¬ Xm ms T x.1 := fun c => hX (hXF _ c)
        obtain ⟨p, hp, hBR⟩ := hBl x hx (q.resolve_left (hfr x hx)) hX1
        refine ⟨p, hvx _ _ hp, ?_⟩
        have := hsame x.1 p (hFf x hx) hX hp
        exact (hBR.of this).vx (cut_vx (fun k _ z => z.imp (hXF k) fun z => z) hvx)
      · rw [glue_in ⟨by omega, by omega⟩]
        exact hno j hj fun c => q (.inr c)
      · refine real_vx (r := cut (glue ρ r2 h0.next N) h0.next N (Fm ms i)) (cut_vx (fun k _ z => .inl z) vx_refl) _ _ ?_
        rw [ec]; exact hu
    | @free e t cs vn mk hb hg hd hU hFo hNm hD hxf =>
      obtain ⟨us, hus, hrun⟩ := hFo _ f w (frame hU)
      have hnone := hno i hiN hnD
      have hvx : Vx ρ (upd ρ (h0.next + i) (w.heap.size, us.length)) := ⟨fun k p hp => by
        rw [upd_eq]
        by_cases c : k = h0.next + i
        · subst c; rw [hnone] at hp; cases hp
        · rw [if_neg c]; exact hp, rfl⟩
      have uo : ∀ g, g ≠ i → upd ρ (h0.next + i) (w.heap.size, us.length) (h0.next + g) = ρ (h0.next + g) := fun g hg => by rw [upd_eq, if_neg (by omega)]
      have ui : upd ρ (h0.next + i) (w.heap.size, us.length) (h0.next + i) = some (w.heap.size, us.length) := by rw [upd_eq, if_pos rfl]
      have ec := cut_upd (ρ := ρ) (n0 := h0.next) hiN hXi (w.heap.size, us.length)
      have hk := Kept.alloc w (.cells us.toArray t)
      refine want hg (RW.gen (o := { o with guard := none }) rfl (fun t e => by rw [hn]; exact (hd t e).1) (.inl rfl) (fun a ha => hrun _ _ _ _ a ha) (RW.nil (step (ρ2 := upd ρ (h0.next + i) (w.heap.size, us.length)) (v := vn (h0.next + i)) hd (by rw [ec]; exact hx') hT (fun b hb => .inr (hTb b hb)) (stay hb) (by rw [ec]; exact hRel.same hk) hnN (fun g p hgN hXg hr => ?_) (fun x hx q hX => ?_) (fun j hj q => ?_) hvx (fun k q => q) (fun t' ht' => ?_) hD)))
      · rw [ec]
        by_cases c : g = i
        · subst c
          rw [ui] at hr; cases hr
          refine ⟨lt_of_at (heap_alloc_new w (.cells us.toArray t)), .inr hRel.kept.size, fun k q hq e => ?_, fun g' q hg' hXg' hr' e => ?_⟩
          · have := hRel.dom k q hq
            have e : q.1 = w.heap.size := e
            omega
          · by_cases c2 : g' = g
            · exact c2
            · rw [uo g' c2] at hr'
              have := (hPd g' q hg' hXg' hr').1
              have e : q.1 = w.heap.size := e
              omega
        · rw [uo g c] at hr
          obtain ⟨a1, a2, a3, a4⟩ := hPd g p hgN hXg hr
          refine ⟨Nat.lt_of_lt_of_le a1 hk.size, a2, a3, fun g' q hg' hXg' hr' e => ?_⟩
          by_cases c2 : g' = i
          · subst c2
            rw [ui] at hr'; cases hr'
            have e : w.heap.size = p.1 := e
            omega
          · rw [uo g' c2] at hr'
            exact a4 g' q hg' hXg' hr' e
      · by_cases c : x.1 = i
        · have := hxf x hx c
          subst this
          refine ⟨_, ui, us.toArray, (0, 0), us, heap_alloc_new w _, by simp, reals_vx (cut_vx (fun k _ z => z) hvx) _ _ hus, ?_, ?_, fun _ => (reals_len hus).symm, fun _ => .inl rfl⟩
          · rw [← reals_len hus]; simp
          · exact Nat.le_of_eq (reals_len hus).symm
        · obtain ⟨p, hp, hBR⟩ := hBl x hx (q.resolve_left c) hX
          exact ⟨p, hvx _ _ hp, (hBR.of (hk.block _ hBR.lt fun c => c)).vx (cut_vx (fun k _ z => z) hvx)⟩
      · rw [uo j fun c => q (.inl c)]
        exact hno j hj fun c => q (.inr c)
      · refine hNm _ _ _ (cut_some.2 ⟨ui, fun _ _ => .inr ⟨i, o, hi, ht', .inr (by omega)⟩⟩)
  · obtain ⟨hn, hds, hcl, hDs, ρ, T, nx, hx', hT, hTb, hnx, hRel, hnN, hPd, hBl, hno, hS⟩ := hI
    have key : T = Gf := by
      rcases hT.nx with ⟨q, _⟩ | ⟨c, e, hc, _⟩
      · exact q
      · have h1 : c < ops.size := by
          rcases hP.bigs.1 c hc with q | q
          · cases q
          · simp at q; omega
        exact (hnx c e h1).elim
    subst key
    have hlt : ∀ k, k < N → k < ops.size := fun k hk => hN.symm ▸ hk
    have hmaskD := masksD _ hcl hDs
    have hXD := xmD _ hmaskD T hTb
    have hXN : ∀ k, Xm ms T k → k < N := fun k q => hN ▸ hXD k q
    have hR2 : Rel S w0 fl (cut ρ h0.next N fun k => k < N) hx w := lifted (D := fun j => j < ops.size) hRel hnN hPd hBl (fun x h => h) hup hXN fun k hk _ => ⟨hlt k hk, hk, fun k' q => hN ▸ hmaskD k (hlt k hk) k' q⟩
    refine hE _ f w hn hds (ext_cut hx' hrh fun k hk _ => hk) (fun t v ht hv => ?_) hR2
    obtain ⟨u, a, b⟩ := (hS t ht).1 (fun j o a _ => hlt j (hsz j o a)) v hv
    exact ⟨u, real_vx (cut_vx (fun k hk _ => hk) vx_refl) _ _ a, b⟩
  · have hR1 := hR0.same hk
    obtain ⟨⟨nx, hT⟩, _⟩ := hP.tail
    have hX0 : ∀ m, ¬ Xm ms (.z ⟨h0.next + N, h0.tr⟩) m := fun m c => by
      have : Nat.testBit 0 m = true := c
      simp at this
    have hfr : ∀ f p, ¬ r (h0.next + f) = some p := fun f p c => by rw [hR1.fresh _ (Nat.le_add_right _ _)] at c; cases c
    have hRr := hR1.reserve hlim hX0
    have vx0 : Vx r (cut r h0.next N (Xm ms (.z ⟨h0.next + N, h0.tr⟩))) := ⟨fun i p hp => cut_some.2 ⟨hp, fun a _ => by rw [hR1.fresh i a] at hp; cases hp⟩, rfl⟩
    refine ⟨hn0, rfl, fun i c => c.elim, fun i c => c.elim, r, .z ⟨h0.next + N, h0.tr⟩, nx, ⟨vx0, fun i hi => .inr ⟨fun c => by have := hrh i hi; omega, hi⟩⟩, hT, (fun b hb => by cases hb), fun b _ c => c, hRr, Nat.le_refl _, fun g p _ _ c => absurd c (hfr g p), fun x _ c => c.elim, fun j _ _ => hR1.fresh _ (Nat.le_add_right _ _), fun t ht => ⟨fun q v hv => ?_, fun _ v hv => ?_⟩⟩
    · obtain ⟨u, a, b⟩ := hf0 t v ht (by rw [← keep0 t ht fun j o a b => q j o a b]; exact hv)
      exact ⟨u, real_vx (cut_vx (fun k _ z => .inl z) vx_refl) _ _ (real_vx vx0 _ _ a), b⟩
    · obtain ⟨u, a, b⟩ := hf0 t v ht hv
      exact ⟨u, real_vx vx0 _ _ a, b⟩
/-- Either way: in one chain, or with blocks that no chain holds. -/
noncomputable def chainB (P : Program) (ms : List Nat) (l : List Oper) : Nat → Option Nat → Bool := List.rec (motive := fun _ => Nat → Option Nat → Bool) (fun _ _ => true) (fun o _ ih i ls => natK (Nat.succ i) fun i' => ife (bigOp P o.op) (ife (lastOk ms i ls) (ih i' (some i)) false) (ih i' ls)) l
noncomputable def drawsK (P : Program) (fl n : Nat) (call : CallF) : DrawF := fun ops env h k => ife (chainB P (masks ops.toList []) ops.toList 0 none) (drawK P fl n call ops env h k) (draw2K P fl n call ops env h k)
theorem drawsK_ok (hm : P.follows .mixedOrders = true) (n : Nat) (call : CallF) (hc : CallOk P fl call) : DrawOk P fl n RG (drawsK P fl n call) := by
  intro ops env h k hG hk
  rcases ife_ok hk with ⟨_, hk⟩ | ⟨_, hk⟩
  · exact drawK_ok hm n call hc ops env h k hG hk
  · replace hk : lenK ops.toList (fun N => natK (Nat.add h.next N) fun nx => ask (Nat.ble nx LIM)
      (p2 P fl n call (masks ops.toList []) h.next ops.toList 0 env ⟨nx, h.tr⟩ (.z ⟨nx, h.tr⟩) 0 [] fun Ef Gf _ Ff => upK h.next (allM N) (lastM (masks ops.toList []) Gf.last) Ff Gf.top fun hx => k .nm Ef hx)) = true := hk
    rw [lenK_eq, natK_eq] at hk
    obtain ⟨hl, hk⟩ := ask_ok hk
    have hl : h.next + ops.toList.length ≤ LIM := ble_le hl
    have esz : ops.toList.length = ops.size := by simp
    rw [esz] at hk hl
    obtain ⟨Ef, Gf, Ff, hk, hP, hFf⟩ := p2_ok (N := ops.size) (F := []) (l := ops.toList) (i := 0) (n0 := h.next) (G := .z ⟨h.next + ops.size, h.tr⟩) hc rfl rfl (fun x hx => by cases hx) (by rw [esz]; omega) hl hk
    obtain ⟨hx, hk, hU⟩ := upK_ok (fun x hxx => by have := hFf x hxx; omega) hk
    exact ⟨.nm, Ef, hx, hk, fun id => draw2_ok hm hG hl hP hFf hU id⟩
end
end Go.Proofs.YtoafcnecjgnbmaaGreatDoor.E

set_option linter.constructorNameAsVariable false
namespace Go.Proofs.YtoafcnecjgnbmaaGreatDoor.E
open Go Go.RowKit H

section
variable {P : Program} {fl n : Nat}
theorem wpList_app {ops : Array Oper} {Q1 Q : Exit → Act → World → Prop} {l2 : List Oper} (h2 : ∀ a w, Q1 .normal a w → wpList P ops Q l2 a w) (hp : ∀ c a w, Q1 (.panic c) a w → Q (.panic c) a w) (ho : ∀ a w, Q1 .outgrown a w → Q .outgrown a w) : ∀ (l1 : List Oper) (a : Act) (w : World), wpList P ops Q1 l1 a w → wpList P ops Q (l1 ++ l2) a w
  | [], a, w, h => h2 a w h
  | o :: l1, a, w, h => by
    rw [List.cons_append]
    unfold wpList at h ⊢
    by_cases hw : Region.wanted o (yielded ops a.tmps) = true
    · rw [if_pos hw] at h ⊢
      rcases h with h | ⟨h1, a0, w0, h3⟩
      · exact .inl (oper_mono (fun a w hk => wpList_app h2 hp ho l1 a w hk) (fun c a w hk => hp c a w hk) (fun a w hk => ho a w hk) h)
      · exact .inr ⟨h1, a0, w0, ho a0 w0 h3⟩
    · rw [if_neg hw] at h ⊢
      exact wpList_app h2 hp ho l1 _ w h
theorem RW.app {ops : Array Oper} {Q : Post} {l1 l2 : List Oper} {f : Fr} {w : World} (h : RW none P ops (thenK (fun f w => RW none P ops Q l2 f w) Q) l1 f w) : RW none P ops Q (l1 ++ l2) f w := fun a ha =>
  wpList_app (Q1 := lift (thenK (fun f w => RW none P ops Q l2 f w) Q)) (Q := lift Q) (fun a w ⟨g, hg, q⟩ => q a hg) (fun c a w ⟨g, hg, q⟩ => ⟨g, hg, q⟩) (fun a w ⟨g, hg, q⟩ => ⟨g, hg, q⟩) l1 a w (h a ha)

/-- The first two operations of a closure that recovers. -/
noncomputable def recOp (o : Oper) : Option Tmp := match o.op, o.guard with
  | .call c, none => (match c.callee, c.args.toList with
    | .builtin .recover, [] => o.dst
    | _, _ => none)
  | _, _ => none
theorem recOp_ok {o : Oper} {d : Tmp} (h : recOp o = some d) : ∃ ats ty pos af, o = { dst := some d, op := .call { callee := .builtin .recover, args := #[], argTypes := ats }, type := ty, pos := pos, after := af, guard := none } := by
  obtain ⟨dst, op, ty, pos, af, g⟩ := o
  cases op <;> first | (cases h; done) | skip
  rename_i c
  obtain ⟨cal, args, ats⟩ := c
  cases g with
  | some g => cases h
  | none =>
    cases cal <;> first | (cases h; done) | skip
    rename_i b
    cases b <;> first | (cases h; done) | skip
    obtain ⟨l⟩ := args
    cases l with
    | nil => cases h; exact ⟨ats, ty, pos, af, rfl⟩
    | cons x l => cases h
noncomputable def asgOp (o : Oper) (k : Tmp → Tmp → Bool) : Bool := match o.op, o.guard with
  | .assign (.tmp s), none => someK o.dst fun d => k d s
  | _, _ => false
theorem asgOp_ok {o : Oper} {k : Tmp → Tmp → Bool} (h : asgOp o k = true) : ∃ d s ty pos af, o = { dst := some d, op := .assign (.tmp s), type := ty, pos := pos, after := af, guard := none } ∧ k d s = true := by
  obtain ⟨dst, op, ty, pos, af, g⟩ := o
  cases op <;> first | (cases h; done) | skip
  rename_i x
  cases x <;> first | (cases h; done) | skip
  rename_i s
  cases g with
  | some g => cases h
  | none =>
    obtain ⟨d, hd, h⟩ := someK_ok (x := dst) h
    subst hd
    exact ⟨d, s, ty, pos, af, rfl, h⟩
noncomputable def two (l : List Oper) (k : Oper → Oper → Bool) : Bool := match l with
  | [a, b] => k a b
  | _ => false
noncomputable def recCode (c : Code) (k : Oper → Oper → Code → Bool) : Bool := match c with
  | .seq (.region _ ops false) b => two ops.toList fun o1 o2 => k o1 o2 b
  | _ => false
theorem recCode_ok {c : Code} {k : Oper → Oper → Code → Bool} (h : recCode c k = true) : ∃ id o1 o2 b, c = .seq (.region id #[o1, o2] false) b ∧ k o1 o2 b = true := by
  unfold recCode at h
  split at h
  · rename_i id ops b
    unfold two at h
    split at h
    · rename_i o1 o2 e
      refine ⟨id, o1, o2, b, ?_, h⟩
      have : ops = #[o1, o2] := by apply Array.ext'; rw [e]
      rw [this]
    · cases h
  · cases h
/-- A closure that recovers; pv: nil, or the panic's value. -/
noncomputable def closK (P : Program) (fl m : Nat) (dr : Nat → CallF → DrawF) (call : CallF) (g : FuncId) (vs : List AV) (pv : AV) (h : Hp) (k : Hp → Bool) : Bool := fnK P g fun fn => someK fn.body fun c => recCode c fun o1 o2 b => someK (recOp o1) fun d1 => asgOp o2 fun d2 s2 => ask (Nat.beq s2 d1) (lenK vs fun l => ask (Nat.ble l fn.ntmps) (ask (Nat.ble l 4096) (argsK vs 0 .e fun env =>
  setE fn.ntmps (some d1) pv env fun env => setE fn.ntmps (some d2) pv env fun env => codeK P fl fn.ntmps m call (dr fn.ntmps call) b env h fun out env h => Out.rec (motive := fun _ => Bool) (resK P fl env h fn.results.toList fun _ => k h) (fun _ => false) (resK P fl env h fn.results.toList fun _ => k h) (fun _ => false) out)))
/-- A frame's state, seen by who runs in it. -/
def Modes (r : Ren) (pv : AV) (u u' : FrameMode) : Prop := (pv = .nili ∧ u = .returning ∧ u' = .returning) ∨ ∃ v, real r pv = some v ∧ u = .panicking [{ v := v, recovered := false }] ∧ u' = .panicking [{ v := v, recovered := true }]
/-- The post of a closure's rest. -/
def SP (P : Program) (fn : Func) (R : Value → World → Prop) : Post
  | .normal, f, w | .ret, f, w => f.ds = [] ∧ ∃ v, (∀ a, Ag f a → (results fn a.tmps).run P w = .ok v w) ∧ R v w
  | _, _, _ => False
theorem closK_ok {m : Nat} {dr : Nat → CallF → DrawF} {call : CallF} {G : Array Oper → Prop} (hc : CallOk P fl call) (hdr : ∀ n call, CallOk P fl call → DrawOk P fl n G (dr n call)) (hG : AllRegs P G) {g : FuncId} {vs : List AV} {pv : AV} {h : Hp} {k : Hp → Bool} (hk : closK P fl m dr call g vs pv h k = true) :
    ∃ h', k h' = true ∧ ∀ S w0 r w xs u u', Rel S w0 fl r h w → reals r vs = some xs → Modes r pv u u' → CallsD P g xs.toArray u w fun e u2 w' => (∃ v, e = .returned v) ∧ u2 = u' ∧ ∃ r', Ext r r' ∧ Rel S w0 fl r' h' w' := by
  obtain ⟨fn, hf, hk⟩ := fnK_ok hk
  obtain ⟨c, hb, hk⟩ := someK_ok hk
  obtain ⟨id, o1, o2, b, rfl, hk⟩ := recCode_ok hk
  obtain ⟨d1, h1, hk⟩ := someK_ok hk
  obtain ⟨ats, ty1, pos1, af1, rfl⟩ := recOp_ok h1
  obtain ⟨d2, s2, ty2, pos2, af2, rfl, hk⟩ := asgOp_ok hk
  obtain ⟨he, hk⟩ := ask_ok hk
  have he := Nat.eq_of_beq_eq_true he
  subst he
  rw [lenK_eq] at hk
  obtain ⟨hl, hk⟩ := ask_ok hk
  obtain ⟨hl2, hk⟩ := ask_ok hk
  obtain ⟨env, hk, hev⟩ := argsK_ok hk (by have := ble_le hl2; omega)
  obtain ⟨hk, hd1⟩ := setE_eq hk
  obtain ⟨hk, hd2⟩ := setE_eq hk
  have hd1 := hd1 s2 rfl
  have hd2 := hd2 d2 rfl
  obtain ⟨out, env', h', hk, hC⟩ := codeK_ok hc (hdr fn.ntmps call hc) b (hG g fn _ hf hb).2 _ h _ hk
  have fin : (out = .nm ∨ out = .ret) → resK P fl env' h' fn.results.toList (fun _ => k h') = true → ∃ h', k h' = true ∧ ∀ S w0 r w xs u u', Rel S w0 fl r h w → reals r vs = some xs → Modes r pv u u' → CallsD P g xs.toArray u w fun e u2 w' => (∃ v, e = .returned v) ∧ u2 = u' ∧ ∃ r', Ext r r' ∧ Rel S w0 fl r' h' w' := by
    intro ho hk
    obtain ⟨rs, hk, hres⟩ := resK_ok hk
    refine ⟨h', hk, fun S w0 r w xs u u' hR hxs hM => callsD_of_wpS hf hb fun c₀ cs hu => ?_⟩
    obtain ⟨v, hv, hrec⟩ : ∃ v, real r pv = some v ∧ ∀ c₀ : Frame, c₀.mode = u → ∃ c₁, (match recoverD (c₀ :: cs) with | some (v', cs') => (v' = v ∧ cs' = c₁ :: cs) | none => (v = .nilIface ∧ c₁ = c₀)) ∧ c₁ = { c₀ with mode := u' } := by
      rcases hM with ⟨rfl, rfl, rfl⟩ | ⟨v, hv, rfl, rfl⟩
      · exact ⟨.nilIface, rfl, fun c₀ hu => ⟨c₀, by simp [recoverD, hu], by rw [← hu]⟩⟩
      · exact ⟨v, hv, fun c₀ hu => ⟨_, by simp only [recoverD, hu]; trivial, rfl⟩⟩
    obtain ⟨c₁, hrec, hc1⟩ := hrec c₀ hu
    have hlen := reals_len hxs
    have hl' := ble_le hl
    obtain ⟨A0, hA0⟩ : ∃ A0 : Act, A0 = { tmps := xs.toArray ++ Array.replicate (fn.ntmps - xs.toArray.size) undef, defers := [] } := ⟨_, rfl⟩
    have ha0 : Ag ⟨fn.ntmps, [], H.args 0 xs⟩ { tmps := xs.toArray ++ Array.replicate (fn.ntmps - xs.toArray.size) undef, defers := [] } := by
      refine ⟨by simp; omega, rfl, fun t v hv => ?_⟩
      obtain ⟨_, h2⟩ := look_args xs 0 t v hv
      rw [Nat.sub_zero] at h2
      have hlt : t < xs.length := (List.getElem?_eq_some_iff.1 h2).1
      simp only [Array.getD_eq_getD_getElem?]
      rw [Array.getElem?_append_left (by simpa using hlt)]
      simp [h2]
    rw [← hA0] at ha0 ⊢
    have hf0 : FrOk r env ⟨fn.ntmps, [], H.args 0 xs⟩ := fun t v ht hv => by
      rw [hev t ht] at hv
      by_cases q : 0 ≤ t ∧ t < 0 + vs.length
      · rw [if_pos q, Nat.sub_zero] at hv
        obtain ⟨u, hu, hr⟩ := reals_at hxs hv
        exact ⟨u, hr, by rw [look_args' xs 0 t (Nat.zero_le _), Nat.sub_zero]; exact hu⟩
      · rw [if_neg q, Tr.get_e] at hv; cases hv
    have ha1 := ha0.put v hd1.1
    have ha2 := ha1.put v hd2.1
    have hf2 := (hf0.put (lim_of hd1.2) hv).put (lim_of hd2.2) hv
    apply wpS_seq
    apply wpS_region
    have hrun : ∀ a : Act, (execOp a.eval ({ dst := some s2, op := .call { callee := .builtin .recover, args := #[], argTypes := ats }, type := ty1, pos := pos1, after := af1, guard := none } : Oper)).run P w = .ok .recover w := fun a => by
      simp [execOp, resolve, invoke, builtin]
    have hrest : b.wpS P (bodyPostS P fn c₀ cs fun e u2 w' => (∃ v, e = .returned v) ∧ u2 = u' ∧ ∃ r', Ext r r' ∧ Rel S w0 fl r' h' w') (A0.put (some s2) v |>.put (some d2) v) (c₁ :: cs) w := by
      refine wpS_cl (Q := SP P fn fun _ w' => ∃ r', Ext r r' ∧ Rel S w0 fl r' h' w') (CL_of_CW (hC none rfl S w0 r _ w _ rfl hf2 hR fun r' f' w' hn hds hx hf' hR' => ?_)) ha2 fun e f a w' ha q => ?_
      · obtain ⟨us, hus, hr⟩ := hres S w0 r' f' w' hf' hR'
        have q : f'.ds = [] ∧ ∃ v, (∀ a, Ag f' a → (results fn a.tmps).run P w' = .ok v w') ∧ ∃ r', Ext r r' ∧ Rel S w0 fl r' h' w' := ⟨hds, _, fun a ha => run_results (hr a ha), r', hx, hR'⟩
        rcases ho with rfl | rfl <;> exact q
      · have q' : (e = .normal ∨ e = .ret) ∧ f.ds = [] ∧ ∃ v, (∀ a, Ag f a → (results fn a.tmps).run P w' = .ok v w') ∧ ∃ r', Ext r r' ∧ Rel S w0 fl r' h' w' := by
          cases e <;> first | exact ⟨.inl rfl, q⟩ | exact ⟨.inr rfl, q⟩ | exact q.elim
        obtain ⟨he, hds, v2, hr, hx⟩ := q'
        have key : a.defers = [] ∧ ∃ u2, c₁ :: cs = { c₀ with mode := u2 } :: cs ∧ ∃ v, (results fn a.tmps).run P w' = .ok v w' ∧ (∃ v', Ending.returned v = .returned v') ∧ u2 = u' ∧ ∃ r', Ext r r' ∧ Rel S w0 fl r' h' w' :=
          ⟨ha.defers.trans hds, u', by rw [hc1], v2, hr a ha, ⟨_, rfl⟩, rfl, hx⟩
        rcases he with rfl | rfl <;> exact key
    have e2 : (execOp (A0.put (some s2) v).eval ({ dst := some d2, op := .assign (.tmp s2), type := ty2, pos := pos2, after := af2, guard := none } : Oper)).run P w = .ok (.value v) w := by
      have := ha1.slot s2 v (by simp [Fr.put, H.look, beq_self])
      simp only [execOp, Sem.run_pure, Act.eval, this]
    show wpOpsS P _ _ [0, 1] _ _ _
    rcases hrc : recoverD (c₀ :: cs) with _ | ⟨v', cs'⟩
    · rw [hrc] at hrec
      obtain ⟨rfl, rfl⟩ := hrec
      simp [wpOpsS, hrun, hrc, Oper.upon, e2, Region.wanted, Exit.thenS]
      exact hrest
    · rw [hrc] at hrec
      obtain ⟨rfl, rfl⟩ := hrec
      simp [wpOpsS, hrun, hrc, Oper.upon, e2, Region.wanted, Exit.thenS]
      exact hrest
  cases out with
  | nm => exact fin (.inl rfl) hk
  | ret => exact fin (.inr rfl) hk
  | _ => cases hk
end
end Go.Proofs.YtoafcnecjgnbmaaGreatDoor.E

set_option linter.constructorNameAsVariable false
set_option linter.unusedVariables false
namespace Go.Proofs.YtoafcnecjgnbmaaGreatDoor.E
open Go Go.RowKit H

section
variable {P : Program} {fl n : Nat}
/-- The last one of a list of operations, which defers; those before it. -/
noncomputable def lastOp (l : List Oper) : Option (List Oper × Oper) := List.rec (motive := fun _ => Option (List Oper × Oper)) none (fun o t ih => List.rec (motive := fun _ => Option (List Oper × Oper)) (some ([], o)) (fun _ _ _ => Option.rec (motive := fun _ => Option (List Oper × Oper)) none (fun p => some (o :: p.1, p.2)) ih) t) l
theorem lastOp_ok : ∀ {l : List Oper} {p : List Oper × Oper}, lastOp l = some p → l = p.1 ++ [p.2]
  | [], p, h => by cases h
  | [o], p, h => by cases h; rfl
  | o :: a :: t, p, h => by
    cases hi : lastOp (a :: t) with
    | none =>
      have e : lastOp (o :: a :: t) = Option.rec (motive := fun _ => Option (List Oper × Oper)) none (fun p => some (o :: p.1, p.2)) (lastOp (a :: t)) := rfl
      rw [e, hi] at h; cases h
    | some q =>
      have e : lastOp (o :: a :: t) = Option.rec (motive := fun _ => Option (List Oper × Oper)) none (fun p => some (o :: p.1, p.2)) (lastOp (a :: t)) := rfl
      rw [e, hi] at h
      cases h
      rw [lastOp_ok hi]; rfl
noncomputable def defOp (o : Oper) : Option Operand := match o.op, o.guard, o.dst with
  | .defer c, none, none => (match c.callee, c.args.toList with
    | .value x, [] => some x
    | _, _ => none)
  | _, _, _ => none
theorem defOp_ok {o : Oper} {x : Operand} (h : defOp o = some x) : ∃ ats ty pos af, o = op0 (.defer { callee := .value x, args := ([] : List Operand).toArray, argTypes := ats }) ty pos af := by
  obtain ⟨dst, op, ty, pos, af, g⟩ := o
  cases op <;> first | (cases h; done) | skip
  rename_i c
  obtain ⟨cal, args, ats⟩ := c
  cases g with
  | some g => cases h
  | none =>
    cases dst with
    | some d => cases h
    | none =>
      cases cal <;> first | (cases h; done) | skip
      obtain ⟨l⟩ := args
      cases l with
      | nil => cases h; exact ⟨ats, ty, pos, af, rfl⟩
      | cons x l => cases h
/-- A region that ends in an operation that defers. -/
noncomputable def defReg (c : Code) : Option (List Oper × Operand × Array Oper) := match c with
  | .region _ ops false => Option.rec (motive := fun _ => Option (List Oper × Operand × Array Oper)) none (fun p => Option.rec (motive := fun _ => Option (List Oper × Operand × Array Oper)) none (fun x => some (p.1, x, ops)) (defOp p.2)) (lastOp ops.toList)
  | _ => none
theorem defReg_ok {c : Code} {q : List Oper × Operand × Array Oper} (h : defReg c = some q) : ∃ id ats ty pos af, c = .region id q.2.2 false ∧ q.2.2.toList = q.1 ++ [op0 (.defer { callee := .value q.2.1, args := ([] : List Operand).toArray, argTypes := ats }) ty pos af] := by
  unfold defReg at h
  split at h
  · rename_i id ops
    cases h1 : lastOp ops.toList with
    | none => rw [h1] at h; cases h
    | some p =>
      rw [h1] at h
      replace h : Option.rec (motive := fun _ => Option (List Oper × Operand × Array Oper)) none (fun x => some (p.1, x, ops)) (defOp p.2) = some q := h
      cases h2 : defOp p.2 with
      | none => rw [h2] at h; cases h
      | some x =>
        rw [h2] at h
        cases h
        obtain ⟨ats, ty, pos, af, e⟩ := defOp_ok h2
        refine ⟨id, ats, ty, pos, af, rfl, ?_⟩
        rw [lastOp_ok h1, e]
  · cases h
/-- What a function's end comes to. -/
noncomputable def finK (P : Program) (fl : Nat) (fn : Func) (env : Tr AV) (h : Hp) (kr : KV) : Bool := resK P fl env h fn.results.toList fun vs => oneK vs fun v => kr v h
noncomputable def defBody (P : Program) (fl m : Nat) (dr : Nat → CallF → DrawF) (call : CallF) (fn : Func) (kr kp : KV) (c : Code) : Tr AV → Hp → Bool := Code.rec (motive := fun _ => Tr AV → Hp → Bool)
  (fun _ _ => false) (fun _ _ _ _ _ => false)
  (fun a b _ ihb env h => Option.rec (motive := fun _ => Bool)
    (codeK P fl fn.ntmps m call (dr fn.ntmps call) a env h fun out env h => Out.rec (motive := fun _ => Bool) (ihb env h) (fun _ => false) (finK P fl fn env h kr) (fun v => kp v h) out)
    (fun q => opsK P fl fn.ntmps call q.2.2 q.1 env h fun out env h => Out.rec (motive := fun _ => Bool)
      (evK fl h env q.2.1 fun f => qFn f fun g a b' => catK a b' fun vs => entK P g (codeK P fl fn.ntmps m call (dr fn.ntmps call) b env h fun out env h => Out.rec (motive := fun _ => Bool)
        (closK P fl m dr call g vs .nili h fun h => finK P fl fn env h kr) (fun _ => false) (closK P fl m dr call g vs .nili h fun h => finK P fl fn env h kr) (fun v => closK P fl m dr call g vs v h fun h => finK P fl fn env h kr) out))
      (fun _ => false) false (fun _ => false) out)
    (defReg a))
  (fun _ _ _ _ _ _ _ => false) (fun _ _ _ _ _ => false) (fun _ _ _ _ => false) (fun _ _ _ _ _ _ _ _ => false) (fun _ _ _ => false) (fun _ _ _ _ => false) (fun _ _ _ => false) (fun _ _ _ => false) (fun _ _ => false) (fun _ _ _ => false) c
/-- How a function ends. -/
def DefOk (P : Program) (fl : Nat) (fn : Func) (c : Code) (env : Tr AV) (h : Hp) (v : AV) (h' : Hp) (E : Value → Ending) : Prop := ∀ S w0 r f w (R : Ending → World → Prop), f.n = fn.ntmps → f.ds = [] → FrOk r env f → Rel S w0 fl r h w → (∀ r' x w', Ext r r' → Rel S w0 fl r' h' w' → real r' v = some x → R (E x) w') → CW none P (DQ P fn R) c f w
theorem finK_ok {fn : Func} {env : Tr AV} {h : Hp} {kr : KV} (hk : finK P fl fn env h kr = true) : ∃ v, kr v h = true ∧ ∀ S w0 r f w, FrOk r env f → Rel S w0 fl r h w → ∃ x, real r v = some x ∧ ∀ a, Ag f a → (results fn a.tmps).run P w = .ok x w := by
  obtain ⟨rs, hk, h2⟩ := resK_ok hk
  obtain ⟨v, hk, h3⟩ := oneK_ok hk
  refine ⟨v, hk, fun S w0 r f w hf hR => ?_⟩
  obtain ⟨us, hus, hr⟩ := h2 S w0 r f w hf hR
  exact ⟨_, h3 r us hus, fun a ha => run_results (hr a ha)⟩
theorem defBody_ok {m : Nat} {dr : Nat → CallF → DrawF} {call : CallF} {G : Array Oper → Prop} (hc : CallOk P fl call) (hdr : ∀ n call, CallOk P fl call → DrawOk P fl n G (dr n call)) (hG : AllRegs P G) {fn : Func} {kr kp : KV} : ∀ (c : Code), Regs G c → ∀ (env : Tr AV) (h : Hp), defBody P fl m dr call fn kr kp c env h = true →
    (∃ v h', kr v h' = true ∧ DefOk P fl fn c env h v h' .returned) ∨ (∃ v h', kp v h' = true ∧ DefOk P fl fn c env h v h' fun x => .panicked [{ v := x, recovered := false }]) := by
  intro c
  induction c with
  | seq a b _ ihb =>
    intro hGc env h hk
    cases hq : defReg a with
    | none =>
      replace hk : Option.rec (motive := fun _ => Bool) _ _ (defReg a) = true := hk
      rw [hq] at hk
      obtain ⟨out, env1, h1, hk, hC⟩ := codeK_ok hc (hdr fn.ntmps call hc) a hGc.1 env h _ hk
      cases out with
      | nm =>
        have pre : ∀ {v h' E}, DefOk P fl fn b env1 h1 v h' E → DefOk P fl fn (.seq a b) env h v h' E := fun hD S w0 r f w R hn hds hf hR hE =>
          CL.one (CL.seq (hC none rfl S w0 r f w _ hn hf hR fun r' f' w' hn' hd hx hf' hR' => CL_of_CW (hD S w0 r' f' w' R hn' (hd.trans hds) hf' hR' fun r2 x w2 hx2 hR2 hv => hE r2 x w2 (hx.trans hx2) hR2 hv)))
        rcases ihb hGc.2 env1 h1 hk with ⟨v, h', hk, hD⟩ | ⟨v, h', hk, hD⟩
        · exact .inl ⟨v, h', hk, pre hD⟩
        · exact .inr ⟨v, h', hk, pre hD⟩
      | ex i => cases hk
      | ret =>
        obtain ⟨v, hk, hr⟩ := finK_ok hk
        refine .inl ⟨v, h1, hk, fun S w0 r f w R hn hds hf hR hE => CL.one (CL.seq (hC none rfl S w0 r f w _ hn hf hR fun r' f' w' hn' hd hx hf' hR' => ?_))⟩
        obtain ⟨x, hx1, hr⟩ := hr S w0 r' f' w' hf' hR'
        show ∀ a, Ag f' a → Leaves P fn a.tmps R f'.ds .returning w'
        intro a ha
        rw [hd.trans hds]
        exact ⟨x, hr a ha, hE r' x w' hx hR' hx1⟩
      | pan v =>
        refine .inr ⟨v, h1, hk, fun S w0 r f w R hn hds hf hR hE => CL.one (CL.seq (hC none rfl S w0 r f w _ hn hf hR fun r' f' w' hn' hd hx hf' hR' => ?_))⟩
        intro u hu
        show ∀ a, Ag f' a → Leaves P fn a.tmps R f'.ds (.panicking [{ v := u, recovered := false }]) w'
        intro a ha
        rw [hd.trans hds]
        exact hE r' u w' hx hR' hu
    | some q =>
      replace hk : Option.rec (motive := fun _ => Bool) _ _ (defReg a) = true := hk
      rw [hq] at hk
      obtain ⟨id, ats, ty, pos, af, rfl, hops⟩ := defReg_ok hq
      obtain ⟨out, env1, h1, hk, hO⟩ := opsK_ok hc hk
      cases out with
      | nm =>
        obtain ⟨fv, hk, h2⟩ := evK_ok (show evK fl h1 env1 q.2.1 _ = true from hk)
        replace hk : qFn fv (fun g a b' => catK a b' fun vs => entK P g (codeK P fl fn.ntmps m call (dr fn.ntmps call) b env1 h1 fun out env h => Out.rec (motive := fun _ => Bool) (closK P fl m dr call g vs .nili h fun h => finK P fl fn env h kr) (fun _ => false) (closK P fl m dr call g vs .nili h fun h => finK P fl fn env h kr) (fun v => closK P fl m dr call g vs v h fun h => finK P fl fn env h kr) out)) = true := hk
        obtain ⟨g, xa, xb, rfl, hk2⟩ := qFn_ok hk
        clear hk
        rw [catK_eq] at hk2
        obtain ⟨hent, hk⟩ := entK_ok hk2
        obtain ⟨out, env2, h2', hk, hC⟩ := codeK_ok hc (hdr fn.ntmps call hc) b hGc.2 env1 h1 _ hk
        -- the end, behind the closure
        have fin : ∀ pv, closK P fl m dr call g (xa ++ xb) pv h2' (fun h => finK P fl fn env2 h kr) = true →
            ∃ v h', kr v h' = true ∧ ∀ S w0 r (f : Fr) w (R : Ending → World → Prop) u u' capx argx, FrOk r env2 f → Rel S w0 fl r h2' w → Modes r pv u u' → real r (.fn (.func g) xa xb) = some (.func (.func g) argx capx) → f.ds = [{ target := .fn (.func g) capx, args := argx ++ ([] : List Value).toArray }] → (∀ r' x w', Ext r r' → Rel S w0 fl r' h' w' → real r' v = some x → R (.returned x) w') → ∀ a, Ag f a → Leaves P fn a.tmps R f.ds u w := by
          intro pv hk
          obtain ⟨h3, hk, hD⟩ := closK_ok hc hdr hG hk
          obtain ⟨v, hk, hr⟩ := finK_ok hk
          refine ⟨v, h3, hk, fun S w0 r f w R u u' capx argx hf hR hM hfv hds hE a ha => ?_⟩
          obtain ⟨x, y, hx1, hy1, e⟩ := real_fn hfv
          cases e
          have hargs := reals_app hx1 hy1
          have hu : u ≠ .run := by
            rcases hM with ⟨_, rfl, _⟩ | ⟨_, _, rfl, _⟩ <;> simp
          have hs : settle u' = .returning := by
            rcases hM with ⟨_, _, rfl⟩ | ⟨_, _, _, rfl⟩ <;> rfl
          rw [hds]
          refine leaves_cons (f := g) (args := (x ++ y).toArray) hu (by
            have := fun aa => hent.out aa w
            simp [invoke, this]) ((hD S w0 r w (x ++ y) u u' hR hargs hM).mono fun e u2 w' q => ?_)
          obtain ⟨⟨v0, rfl⟩, rfl, r', hxx, hR'⟩ := q
          obtain ⟨x2, hx2, hr⟩ := hr S w0 r' f w' (hf.mono hxx) hR'
          show Leaves P fn a.tmps R [] (settle u2) w'
          rw [hs]
          exact ⟨x2, hr a ha, hE r' x2 w' hxx hR' hx2⟩
        -- up to the operation that defers, and it
        have pre : ∀ {v h' E}, (∀ S w0 r (f : Fr) w (R : Ending → World → Prop) capx argx, f.n = fn.ntmps → FrOk r env1 f → Rel S w0 fl r h1 w → real r (.fn (.func g) xa xb) = some (.func (.func g) argx capx) → f.ds = [{ target := .fn (.func g) capx, args := argx ++ ([] : List Value).toArray }] → (∀ r' x w', Ext r r' → Rel S w0 fl r' h' w' → real r' v = some x → R (E x) w') → CW none P (DQ P fn R) b f w) → DefOk P fl fn (.seq (.region id q.2.2 false) b) env h v h' E := by
          intro v h' E hb S w0 r f w R hn hds hf hR hE
          have e : q.2.2 = (q.1 ++ [op0 (.defer { callee := .value q.2.1, args := ([] : List Operand).toArray, argTypes := ats }) ty pos af]).toArray := by rw [← hops]
          have e2 : ∀ (Q : Post), RW none P q.2.2 Q (q.1 ++ [op0 (.defer { callee := .value q.2.1, args := ([] : List Operand).toArray, argTypes := ats }) ty pos af]) f w → RW none P (q.1 ++ [op0 (.defer { callee := .value q.2.1, args := ([] : List Operand).toArray, argTypes := ats }) ty pos af]).toArray Q (q.1 ++ [op0 (.defer { callee := .value q.2.1, args := ([] : List Operand).toArray, argTypes := ats }) ty pos af]) f w := fun Q hq => e ▸ hq
          refine CL.one (CL.seq ?_)
          rw [e]
          refine CL.region (e2 _ (RW.app (hO none S w0 r f w _ hn hf hR fun r' f' w' hn' hd hx hf' hR' => ?_)))
          obtain ⟨u, hu, hxu⟩ := h2 S w0 r' f' w' hf' hR'
          obtain ⟨x, y, hx1, hy1, rfl⟩ := real_fn hu
          refine RW.defer (l := []) hxu rfl (RW.nil ?_)
          refine CL_of_CW (hb S w0 r' _ w' R _ _ hn' hf' hR' hu ?_ fun r2 z w2 hx2 hR2 hv => hE r2 z w2 (hx.trans hx2) hR2 hv)
          show _ :: f'.ds = _
          rw [hd, hds]
        have go : ∀ pv, closK P fl m dr call g (xa ++ xb) pv h2' (fun h => finK P fl fn env2 h kr) = true → ((out = .nm ∨ out = .ret) ∧ pv = .nili ∨ out = .pan pv) → ∃ v h', kr v h' = true ∧ DefOk P fl fn (.seq (.region id q.2.2 false) b) env h v h' .returned := by
          intro pv hk ho
          obtain ⟨v, h', hk, hF⟩ := fin pv hk
          refine ⟨v, h', hk, pre fun S w0 r f w R capx argx hn hf hR hfv hds hE => hC none rfl S w0 r f w _ hn hf hR fun r' f' w' hn' hd hx hf' hR' => ?_⟩
          have hF := fun u u' hM => hF S w0 r' f' w' R u u' capx argx hf' hR' hM (real_mono hx _ _ hfv) (hd.trans hds) fun r2 x w2 hx2 hR2 hv => hE r2 x w2 (hx.trans hx2) hR2 hv
          rcases ho with ⟨ho, rfl⟩ | rfl
          · have := hF .returning .returning (.inl ⟨rfl, rfl, rfl⟩)
            rcases ho with rfl | rfl <;> exact this
          · intro u hu
            exact hF _ _ (.inr ⟨u, hu, rfl, rfl⟩)
        cases out with
        | nm => exact .inl (go .nili hk (.inl ⟨.inl rfl, rfl⟩))
        | ex i => cases hk
        | ret => exact .inl (go .nili hk (.inl ⟨.inr rfl, rfl⟩))
        | pan v => exact .inl (go v hk (.inr rfl))
      | _ => cases hk
  | _ => intro _ env h hk; cases hk
/-- A function that defers. -/
noncomputable def deferK (P : Program) (fl m : Nat) (dr : Nat → CallF → DrawF) (call : CallF) : CallF := fun f vs h kr kp => fnK P f fun fn => someK fn.body fun c => lenK vs fun l => ask (Nat.ble l fn.ntmps) (ask (Nat.ble l 4096) (argsK vs 0 .e fun env => defBody P fl m dr call fn kr kp c env h))
theorem deferK_ok {m : Nat} {dr : Nat → CallF → DrawF} {call : CallF} {G : Array Oper → Prop} (hc : CallOk P fl call) (hdr : ∀ n call, CallOk P fl call → DrawOk P fl n G (dr n call)) (hG : AllRegs P G) : CallOk P fl (deferK P fl m dr call) := by
  intro f vs h kr kp hk
  obtain ⟨fn, hf, hk⟩ := fnK_ok hk
  obtain ⟨c, hb, hk⟩ := someK_ok hk
  rw [lenK_eq] at hk
  obtain ⟨hl, hk⟩ := ask_ok hk
  obtain ⟨hl2, hk⟩ := ask_ok hk
  obtain ⟨env, hk, he⟩ := argsK_ok hk (by have := ble_le hl2; omega)
  have start : ∀ {v h' E}, DefOk P fl fn c env h v h' E → ∀ S w0 r w xs, Rel S w0 fl r h w → reals r vs = some xs → Calls P f xs.toArray w fun e w' => ∃ r' x, e = E x ∧ Ext r r' ∧ Rel S w0 fl r' h' w' ∧ real r' v = some x := by
    intro v h' E hD S w0 r w xs hR hxs
    refine enterD hf rfl hb (by rw [reals_len hxs]; exact hl) (CL_of_CW (hD S w0 r _ w _ rfl rfl (fun t v ht hv => ?_) hR fun r' x w' hx hR' hv => ⟨r', x, rfl, hx, hR', hv⟩))
    rw [he t ht] at hv
    by_cases q : 0 ≤ t ∧ t < 0 + vs.length
    · rw [if_pos q, Nat.sub_zero] at hv
      obtain ⟨u, hu, hr⟩ := reals_at hxs hv
      exact ⟨u, hr, by rw [look_args' xs 0 t (Nat.zero_le _), Nat.sub_zero]; exact hu⟩
    · rw [if_neg q, Tr.get_e] at hv; cases hv
  rcases defBody_ok hc hdr hG c (hG f fn c hf hb) env h hk with ⟨v, h', hk, hD⟩ | ⟨v, h', hk, hD⟩
  · exact .inl ⟨v, h', hk, start hD⟩
  · exact .inr ⟨v, h', hk, start hD⟩
end
end Go.Proofs.YtoafcnecjgnbmaaGreatDoor.E

namespace Go.Proofs.YtoafcnecjgnbmaaGreatDoor.E
open Go Go.RowKit H
section
variable {P : Program} {fl : Nat}
abbrev Prim := CallF → List AV → Hp → KV → KV → Bool
def Pr1 (P : Program) (fl : Nat) (f : FuncId) (p : Prim) : Prop := ∀ call, CallOk P fl call → CallOk P fl fun g vs h kr kp => ife (Nat.beq g f) (p call vs h kr kp) false
/-- A table. -/
noncomputable def tab (l : List (FuncId × Prim)) : PrimF := fun f => List.rec (motive := fun _ => Option Prim) none (fun x _ ih => ifeV (Nat.beq f x.1) (some x.2) ih) l
theorem tab_ok : ∀ {l : List (FuncId × Prim)}, (∀ x ∈ l, Pr1 P fl x.1 x.2) → PrimOk P fl (tab l)
  | [], _ => fun f p h => by cases h
  | x :: l, h => fun f p hp => by
    replace hp : ifeV (Nat.beq f x.1) (some x.2) (tab l f) = some p := hp
    cases hb : Nat.beq f x.1 with
    | true =>
      rw [hb] at hp
      have hp : some x.2 = some p := hp
      cases hp
      rw [Nat.eq_of_beq_eq_true hb]
      exact h x List.mem_cons_self
    | false =>
      rw [hb] at hp
      exact tab_ok (fun y hy => h y (List.mem_cons_of_mem _ hy)) f p hp
/-- A function that yields a value and leaves all that was as it was. -/
theorem Pr1.val {f : FuncId} {p : List AV → Hp → (AV → Bool) → Bool} (H : ∀ vs h k, p vs h k = true → ∃ v, k v = true ∧ ∀ S w0 r w xs, Rel S w0 fl r h w → reals r vs = some xs → Calls P f xs.toArray w fun e w' => ∃ x, e = .returned x ∧ K0 w w' ∧ real r v = some x) : Pr1 P fl f fun _ vs h kr _ => p vs h fun v => kr v h := by
  intro call _ g vs h kr kp hk
  rcases ife_ok hk with ⟨hb, hk2⟩ | ⟨_, hk2⟩
  · obtain rfl := Nat.eq_of_beq_eq_true hb
    obtain ⟨v, hv, hc⟩ := H vs h _ hk2
    refine .inl ⟨v, h, hv, fun S w0 r w xs hR hxs => (hc S w0 r w xs hR hxs).mono ?_⟩
    rintro e w' ⟨x, rfl, k, hx⟩
    exact ⟨r, x, rfl, Ext.refl r, hR.same k, hx⟩
  · cases hk2
theorem Pr1.defer {f : FuncId} {m : Nat} {dr : Nat → CallF → DrawF} {G : Array Oper → Prop} (hdr : ∀ n call, CallOk P fl call → DrawOk P fl n G (dr n call)) (hG : AllRegs P G) : Pr1 P fl f fun call vs h kr kp => deferK P fl m dr call f vs h kr kp := by
  intro call hc g vs h kr kp hk
  rcases ife_ok hk with ⟨hb, hk2⟩ | ⟨_, hk2⟩
  · obtain rfl := Nat.eq_of_beq_eq_true hb
    exact deferK_ok hc hdr hG _ vs h kr kp hk2
  · cases hk2
end
end Go.Proofs.YtoafcnecjgnbmaaGreatDoor.E

set_option linter.constructorNameAsVariable false
namespace Go.Proofs.YtoafcnecjgnbmaaGreatDoor.E
open Go Go.RowKit H
section
variable {P : Program} {fl n : Nat} {call : CallF}
/-- Every one of the entries that may come. -/
noncomputable def allX (f : Nat → (Hp → Bool) → Bool) (k : AV → Hp → Bool) (L : List (AV × AV × Nat)) : Bool := List.rec (motive := fun _ => Bool) true (fun x t ih => List.rec (motive := fun _ => Bool) (f x.2.2 fun h => k (.tup [.bool true, x.1, x.2.1]) h) (fun _ _ _ => ask (f x.2.2 fun h => k (.tup [.bool true, x.1, x.2.1]) h) ih) t) L
theorem allX_ok {f : Nat → (Hp → Bool) → Bool} {k : AV → Hp → Bool} : ∀ {L : List (AV × AV × Nat)}, allX f k L = true → ∀ x ∈ L, (f x.2.2 fun h => k (.tup [.bool true, x.1, x.2.1]) h) = true
  | [], _, x, hx => by cases hx
  | [y], h, x, hx => by
    rw [List.mem_singleton.1 hx]
    exact h
  | y :: z :: L, h, x, hx => by
    obtain ⟨h1, h2⟩ := ask_ok h
    rcases List.mem_cons.1 hx with rfl | hx
    · exact h1
    · exact allX_ok (L := z :: L) h2 x hx
/-- Which entries are looked at: all of them; the first, the last one alone. -/
noncomputable def last1 {α : Type} (L : List α) : List α := List.rec (motive := fun _ => List α) [] (fun x t ih => List.rec (motive := fun _ => List α) [x] (fun _ _ _ => ih) t) L
noncomputable def selX {α : Type} (sl : Nat) (L : List α) : List α := Nat.rec (motive := fun _ => List α) L (fun p _ => Nat.rec (motive := fun _ => List α) (List.rec (motive := fun _ => List α) [] (fun x _ _ => [x]) L) (fun _ _ => last1 L) p) sl
theorem last1_ne {α : Type} : ∀ (x : α) (t : List α), ∃ y l, last1 (x :: t) = y :: l
  | x, [] => ⟨x, [], rfl⟩
  | _, y :: t => last1_ne y t
theorem selX_ne {α : Type} (sl : Nat) (x : α) (t : List α) : ∃ y l, selX sl (x :: t) = y :: l := by
  cases sl with
  | zero => exact ⟨x, t, rfl⟩
  | succ p =>
    cases p with
    | zero => exact ⟨x, [], rfl⟩
    | succ p => exact last1_ne x t
noncomputable def nextW (sl fl i : Nat) (h : Hp) (k : AV → Hp → Bool) : Bool := stepsK fl i h fun L f => List.rec (motive := fun _ => Bool) (k (.tup [.bool false]) h) (fun x t _ => allX f k (selX sl (x :: t))) L
/-- An operation that steps over a map. -/
noncomputable def mapNx (o : Op) : Option Operand := match o with | .next x false => some x | _ => none
theorem mapNx_ok {o : Op} {x : Operand} (h : mapNx o = some x) : o = .next x false := by
  unfold mapNx at h
  split at h
  · cases h; rfl
  · cases h
/-- Functions that come to one of several ends. -/
abbrev WcF := FuncId → Option (List AV → Hp → KV → Bool)
def WcOk (P : Program) (fl : Nat) (wc : WcF) : Prop := ∀ f g vs h k, wc f = some g → g vs h k = true → (∃ v h', k v h' = true) ∧ ∀ S w0 r w xs, Rel S w0 fl r h w → reals r vs = some xs → Calls P f xs.toArray w fun e w' => ∃ v h' r' x, k v h' = true ∧ e = .returned x ∧ Ext r r' ∧ Rel S w0 fl r' h' w' ∧ real r' v = some x
def WcEx (wc : WcF) : Prop := ∀ f g vs h k, wc f = some g → g vs h k = true → ∃ v h', k v h' = true
theorem WcOk.ex {wc : WcF} (h : WcOk P fl wc) : WcEx wc := fun f g vs hp k hg hk => (h f g vs hp k hg hk).1
noncomputable def noWc : WcF := fun _ => none
theorem noWc_ok : WcOk P fl noWc := fun f g vs h k hg => by cases hg
noncomputable def wcOp (wc : WcF) (o : Op) : Option (FuncId × (List AV → Hp → KV → Bool) × List Operand) := match o with
  | .call ⟨.value (.func f), args, _⟩ => Option.rec (motive := fun _ => Option (FuncId × (List AV → Hp → KV → Bool) × List Operand)) none (fun g => some (f, g, args.toList)) (wc f)
  | _ => none
theorem wcOp_ok {wc : WcF} {o : Op} {q : FuncId × (List AV → Hp → KV → Bool) × List Operand} (h : wcOp wc o = some q) : ∃ args ats, o = .call { callee := .value (.func q.1), args := args, argTypes := ats } ∧ wc q.1 = some q.2.1 ∧ q.2.2 = args.toList := by
  unfold wcOp at h
  split at h
  · rename_i f args ats
    cases e : wc f with
    | none => rw [e] at h; cases h
    | some g => rw [e] at h; cases h; exact ⟨args, ats, rfl, e, rfl⟩
  · cases h
noncomputable def stepW (sl : Nat) (P : Program) (fl n : Nat) (call : CallF) (wc : WcF) (o : Oper) (env : Tr AV) (h : Hp) (k : KS) : Bool := Option.rec (motive := fun _ => Bool) (Option.rec (motive := fun _ => Bool) (stepK P fl n call o env h k)
  (fun q => evsK fl h env q.2.2 fun vs => entK P q.1 (q.2.1 vs h fun v h' => setE n o.dst v env fun env => k .nm env h')) (wcOp wc o.op))
  (fun x => evK fl h env x fun v => qPtr v fun i off => ask (Nat.beq off 0) (nextW sl fl i h fun v h => setE n o.dst v env fun env => k .nm env h)) (mapNx o.op)
noncomputable abbrev goK (ih : Tr AV → Hp → KS → Bool) (k : KS) : KS := fun out env h => Out.rec (motive := fun _ => Bool) (ih env h k) (fun _ => false) false (fun v => k (.pan v) env h) out
noncomputable def opsW (sl : Nat) (P : Program) (fl n : Nat) (call : CallF) (wc : WcF) (ops : Array Oper) (l : List Oper) : Tr AV → Hp → KS → Bool := List.rec (motive := fun _ => Tr AV → Hp → KS → Bool) (fun env h k => k .nm env h)
  (fun o _ ih env h k => Option.rec (motive := fun _ => Bool) (stepW sl P fl n call wc o env h (goK ih k)) (fun _ => opsK P fl n call ops [o] env h (goK ih k)) o.guard) l
theorem opsW_none {sl : Nat} {wc : WcF} {ops : Array Oper} {o : Oper} {rest : List Oper} {env : Tr AV} {h : Hp} {k : KS} (hg : o.guard = none) (hk : opsW sl P fl n call wc ops (o :: rest) env h k = true) : stepW sl P fl n call wc o env h (goK (opsW sl P fl n call wc ops rest) k) = true := by
  have hk' : Option.rec (motive := fun _ => Bool) (stepW sl P fl n call wc o env h (goK (opsW sl P fl n call wc ops rest) k)) (fun _ => opsK P fl n call ops [o] env h (goK (opsW sl P fl n call wc ops rest) k)) o.guard = true := hk
  rw [hg] at hk'
  exact hk'
theorem opsW_some {sl : Nat} {wc : WcF} {ops : Array Oper} {o : Oper} {rest : List Oper} {env : Tr AV} {h : Hp} {k : KS} {g : Nat × Bool} (hg : o.guard = some g) (hk : opsW sl P fl n call wc ops (o :: rest) env h k = true) : opsK P fl n call ops [o] env h (goK (opsW sl P fl n call wc ops rest) k) = true := by
  have hk' : Option.rec (motive := fun _ => Bool) (stepW sl P fl n call wc o env h (goK (opsW sl P fl n call wc ops rest) k)) (fun _ => opsK P fl n call ops [o] env h (goK (opsW sl P fl n call wc ops rest) k)) o.guard = true := hk
  rw [hg] at hk'
  exact hk'
theorem stepW_none {sl : Nat} {wc : WcF} {o : Oper} {env : Tr AV} {h : Hp} {k : KS} (hm : mapNx o.op = none) (hw : wcOp wc o.op = none) (hk : stepW sl P fl n call wc o env h k = true) : stepK P fl n call o env h k = true := by
  unfold stepW at hk
  rw [hm, hw] at hk
  exact hk
theorem stepW_call {sl : Nat} {wc : WcF} {o : Oper} {env : Tr AV} {h : Hp} {k : KS} {q : FuncId × (List AV → Hp → KV → Bool) × List Operand} (hm : mapNx o.op = none) (hw : wcOp wc o.op = some q) (hk : stepW sl P fl n call wc o env h k = true) : (evsK fl h env q.2.2 fun vs => entK P q.1 (q.2.1 vs h fun v h' => setE n o.dst v env fun env => k .nm env h')) = true := by
  unfold stepW at hk
  rw [hm, hw] at hk
  exact hk
theorem stepW_some {sl : Nat} {wc : WcF} {o : Oper} {env : Tr AV} {h : Hp} {k : KS} {x : Operand} (hm : mapNx o.op = some x) (hk : stepW sl P fl n call wc o env h k = true) : (evK fl h env x fun v => qPtr v fun i off => ask (Nat.beq off 0) (nextW sl fl i h fun v h => setE n o.dst v env fun env => k .nm env h)) = true := by
  unfold stepW at hk
  rw [hm] at hk
  exact hk
/-- What a list of operations comes to, whatever comes. -/
def OpsW (P : Program) (fl n : Nat) (ops : Array Oper) (l : List Oper) (env : Tr AV) (h : Hp) (k : KS) : Prop := ∀ S w0 r f w Q, f.n = n → FrOk r env f → Rel S w0 fl r h w → (∀ out env' h', k out env' h' = true → Ends S w0 fl n f.ds r out env' h' Q) → RW none P ops Q l f w
theorem opsW_ok {wc : WcF} (hc : CallOk P fl call) (hwc : WcOk P fl wc) {ops : Array Oper} : ∀ {l : List Oper} {env : Tr AV} {h : Hp} {k : KS}, opsW 0 P fl n call wc ops l env h k = true → OpsW P fl n ops l env h k
  | [], env, h, k, hk => fun S w0 r f w Q hn hf hR hE => RW.nil (hE .nm env h hk r f w hn rfl (Ext.refl r) hf hR)
  | o :: rest, env, h, k, hk => by
    intro S w0 r f w Q hn hf hR hE
    have val : ∀ env1 h1 r1 f1 w1, opsW 0 P fl n call wc ops rest env1 h1 k = true → f1.n = n → f1.ds = f.ds → Ext r r1 → FrOk r1 env1 f1 → Rel S w0 fl r1 h1 w1 → RW none P ops Q rest f1 w1 := fun env1 h1 r1 f1 w1 hk a b c d e => opsW_ok hc hwc hk S w0 r1 f1 w1 Q a d e fun out env' h' hk' => b ▸ (hE out env' h' hk').ext c
    cases hg : o.guard with
    | none =>
      have ho : ({ o with guard := none } : Oper) = o := by
        obtain ⟨dst, op, ty, pos, af, g⟩ := o
        cases hg
        rfl
      have hk := opsW_none hg hk
      cases hm : mapNx o.op with
      | none =>
        cases hw : wcOp wc o.op with
        | some q =>
          obtain ⟨args, ats, hop, hg2, hq⟩ := wcOp_ok hw
          obtain ⟨vs, hk, h3⟩ := evsK_ok (stepW_call hm hw hk)
          obtain ⟨he, hk⟩ := entK_ok hk
          obtain ⟨⟨v0, h0, hk0⟩, hC⟩ := hwc _ _ _ _ _ hg2 hk
          obtain ⟨_, _, hd, _⟩ := setE_ok hk0
          obtain ⟨us, hus, hl⟩ := h3 S w0 r f w hf hR
          refine RW.callv hg (by rw [hn]; exact hd) (g := q.1) (xs := us.toArray) (fun a ha => ?_) (hC S w0 r w us hR hus) fun e w' hR' => ?_
          · have e1 : args.map a.eval = us.toArray := by apply Array.ext'; rw [← hl a ha, hq]; simp
            have e2 := fun aa => he.out aa w
            obtain ⟨dst, op, ty, pos, af, g⟩ := o
            cases hop
            simp [execOp, resolve, Act.eval, Deferred.ofValue, invoke, e1, e2]
          · obtain ⟨v, h', r', x, hk1, rfl, hx, hR2, hu⟩ := hR'
            obtain ⟨env1, hk2, _, hs⟩ := setE_ok hk1
            exact val env1 h' r' _ w' hk2 ((putO_n _ _ _).1.trans hn) (putO_n _ _ _).2 hx (hs r' f x (hf.mono hx) hu) hR2
        | none =>
        rcases stepK_ok hc (stepW_none hm hw hk) with ⟨env1, h1, hk1, hs⟩ | ⟨v, env1, h1, hk1, hs⟩
        · have := hs none S w0 r f w Q ops rest hn hf hR fun r' f' w' a b c d e => val env1 h1 r' f' w' hk1 a b c d e
          rwa [ho] at this
        · have := hs none S w0 r f w Q ops rest hn hf hR (hE (.pan v) env1 h1 hk1)
          rwa [ho] at this
      | some x =>
        have hop := mapNx_ok hm
        obtain ⟨v, hk, h2⟩ := evK_ok (stepW_some hm hk)
        obtain ⟨i, off, rfl, hk⟩ := qPtr_ok (x := v) hk
        obtain ⟨ho0, hk⟩ := ask_ok hk
        have ho0 := Nat.eq_of_beq_eq_true ho0
        subst ho0
        obtain ⟨L, next, fs, hk, hfs, hS⟩ := stepsK_ok (P := P) (show stepsK fl i h (fun L f => List.rec (motive := fun _ => Bool) (setE n o.dst (.tup [.bool false]) env fun env => goK (opsW 0 P fl n call wc ops rest) k .nm env h) (fun x t _ => allX f (fun v h => setE n o.dst v env fun env => goK (opsW 0 P fl n call wc ops rest) k .nm env h) (selX 0 (x :: t))) L) = true from hk)
        obtain ⟨u, hu, hx⟩ := h2 S w0 r f w hf hR
        obtain ⟨q, hq, rfl⟩ := real_ptr hu
        have run : ∀ z w', (Instr.next (.pointer (some ⟨q.1, 0, none⟩)) false o.type).run P w = .ok z w' → ∀ a, Ag f a → (execOp a.eval o).run P w = .ok (.value z) w' := fun z w' hr a ha => by
          have e := ha.eval hx
          obtain ⟨dst, op, ty, pos, af, g⟩ := o
          cases hop
          simp [execOp, e, hr]
        rcases hS S w0 r w q o.type hR hq with ⟨rfl, hr⟩ | ⟨x', hx', u, w', hu', hr, hR'⟩
        · obtain ⟨env1, hk, hd, hf'⟩ := setE_ok (show setE n o.dst (.tup [.bool false]) env (fun env => goK (opsW 0 P fl n call wc ops rest) k .nm env h) = true from hk)
          exact RW.gen hg (by rw [hn]; exact hd) (.inl rfl) (run _ _ hr) (val env1 h r _ w hk ((putO_n _ _ _).1.trans hn) (putO_n _ _ _).2 (Ext.refl r) (hf' r f _ hf (by simp [real, reals])) hR)
        · cases L with
          | nil => cases hx'
          | cons y t =>
            have hkx := hfs _ _ (allX_ok (L := y :: t) hk x' hx')
            obtain ⟨env1, hk, hd, hf'⟩ := setE_ok hkx
            exact RW.gen hg (by rw [hn]; exact hd) (.inl rfl) (run _ _ hr) (val env1 (next x'.2.2) r _ w' hk ((putO_n _ _ _).1.trans hn) (putO_n _ _ _).2 (Ext.refl r) (hf' r f _ hf hu') hR')
    | some g =>
      obtain ⟨out, env1, h1, hk, hO⟩ := opsK_ok hc (opsW_some hg hk)
      refine RW.app (l1 := [o]) (l2 := rest) (hO none S w0 r f w _ hn hf hR ?_)
      cases out with
      | nm => exact fun r' f' w' a b c d e => val env1 h1 r' f' w' hk a b c d e
      | ex i => cases hk
      | ret => cases hk
      | pan v => exact fun r' f' w' a b c d e u hu => hE (.pan v) env1 h1 hk r' f' w' a b c d e u hu
theorem opsW_ex {wc : WcF} (hc : CallOk P fl call) (hwc : WcEx wc) {ops : Array Oper} {sl : Nat} : ∀ {l : List Oper} {env : Tr AV} {h : Hp} {k : KS}, opsW sl P fl n call wc ops l env h k = true → ∃ out env' h', k out env' h' = true
  | [], env, h, k, hk => ⟨.nm, env, h, hk⟩
  | o :: rest, env, h, k, hk => by
    cases hg : o.guard with
    | none =>
      have hk := opsW_none hg hk
      cases hm : mapNx o.op with
      | none =>
        cases hw : wcOp wc o.op with
        | some q =>
          obtain ⟨args, ats, hop, hg2, hq⟩ := wcOp_ok hw
          obtain ⟨vs, hk, h3⟩ := evsK_ok (stepW_call hm hw hk)
          obtain ⟨he, hk⟩ := entK_ok hk
          obtain ⟨v0, h0, hk0⟩ := hwc _ _ _ _ _ hg2 hk
          obtain ⟨env1, hk1, _, _⟩ := setE_ok hk0
          exact opsW_ex hc hwc hk1
        | none =>
        rcases stepK_ok hc (stepW_none hm hw hk) with ⟨env1, h1, hk1, hs⟩ | ⟨v, env1, h1, hk1, hs⟩
        · exact opsW_ex hc hwc hk1
        · exact ⟨.pan v, env1, h1, hk1⟩
      | some x =>
        obtain ⟨v, hk, h2⟩ := evK_ok (stepW_some hm hk)
        obtain ⟨i, off, rfl, hk⟩ := qPtr_ok (x := v) hk
        obtain ⟨ho0, hk⟩ := ask_ok hk
        obtain ⟨L, next, fs, hk, hfs, hS⟩ := stepsK_ok (P := P) (show stepsK fl i h (fun L f => List.rec (motive := fun _ => Bool) (setE n o.dst (.tup [.bool false]) env fun env => goK (opsW sl P fl n call wc ops rest) k .nm env h) (fun x t _ => allX f (fun v h => setE n o.dst v env fun env => goK (opsW sl P fl n call wc ops rest) k .nm env h) (selX sl (x :: t))) L) = true from hk)
        cases L with
        | nil =>
          obtain ⟨env1, hk, _, _⟩ := setE_ok (show setE n o.dst (.tup [.bool false]) env (fun env => goK (opsW sl P fl n call wc ops rest) k .nm env h) = true from hk)
          exact opsW_ex hc hwc hk
        | cons y t =>
          obtain ⟨z, l, e⟩ := selX_ne sl y t
          replace hk : allX fs (fun v h => setE n o.dst v env fun env => goK (opsW sl P fl n call wc ops rest) k .nm env h) (selX sl (y :: t)) = true := hk
          rw [e] at hk
          have hkx := hfs _ _ (allX_ok hk z (List.mem_cons_self ..))
          obtain ⟨env1, hk, _, _⟩ := setE_ok hkx
          exact opsW_ex hc hwc hk
    | some g =>
      obtain ⟨out, env1, h1, hk, hO⟩ := opsK_ok hc (opsW_some hg hk)
      cases out with
      | nm => exact opsW_ex hc hwc hk
      | ex i => cases hk
      | ret => cases hk
      | pan v => exact ⟨.pan v, env1, h1, hk⟩
noncomputable def codeW (sl : Nat) (P : Program) (fl n m : Nat) (call : CallF) (wc : WcF) (dr : DrawF) (c : Code) : Tr AV → Hp → KS → Bool := Code.rec (motive := fun _ => Tr AV → Hp → KS → Bool)
  (fun env h k => k .nm env h) (fun _ ops d env h k => ife d (dr ops env h k) (opsW sl P fl n call wc ops ops.toList env h k)) (fun _ _ ia ib env h k => ia env h fun out env h => onNm out ib env h k)
  (fun x _ _ ia ib env h k => condK P fl x env h (ia env h k) (ib env h k)) (fun i _ ib env h k => ib env h fun out env h => onBlk i out env h k) (fun _ ib => loopK ib m)
  (fun _ _ _ _ _ _ _ _ _ => false) (fun i env h k => k (.ex i) env h) (fun _ _ _ _ _ => false) (fun _ _ _ _ => false) (fun _ _ _ _ => false) (fun env h k => k .ret env h) (fun _ _ _ _ => false) c
def CodeW (P : Program) (fl n : Nat) (c : Code) (env : Tr AV) (h : Hp) (k : KS) : Prop := ∀ S w0 r f w Q, f.n = n → FrOk r env f → Rel S w0 fl r h w → (∀ out env' h', k out env' h' = true → Ends S w0 fl n f.ds r out env' h' Q) → CW none P Q c f w
/-- Regions that draw their order, and come to one of several ends. -/
def DrawWk (P : Program) (fl n : Nat) (G : Array Oper → Prop) (dr : DrawF) : Prop := ∀ ops env h k, G ops → dr ops env h k = true → (∃ out env' h', k out env' h' = true) ∧ ∀ id, CodeW P fl n (.region id ops true) env h k
def DrawEx (G : Array Oper → Prop) (dr : DrawF) : Prop := ∀ ops env h k, G ops → dr ops env h k = true → ∃ out env' h', k out env' h' = true
theorem DrawWk.ex {G : Array Oper → Prop} {dr : DrawF} (h : DrawWk P fl n G dr) : DrawEx G dr := fun ops env hp k hG hk => (h ops env hp k hG hk).1
theorem DrawWk.of {G : Array Oper → Prop} {dr : DrawF} (hdr : DrawOk P fl n G dr) : DrawWk P fl n G dr := fun ops env h k hG hk => by
  obtain ⟨out, env', h', hk, hO⟩ := hdr ops env h k hG hk
  exact ⟨⟨out, env', h', hk⟩, fun id S w0 r f w Q hn hf hR hE => hO id none rfl S w0 r f w Q hn hf hR (hE out env' h' hk)⟩
theorem codeW_ok {wc : WcF} {dr : DrawF} {m : Nat} {G : Array Oper → Prop} (hc : CallOk P fl call) (hwc : WcOk P fl wc) (hdr : DrawWk P fl n G dr) (c : Code) : Regs G c → ∀ (env : Tr AV) (h : Hp) (k : KS), codeW 0 P fl n m call wc dr c env h k = true → CodeW P fl n c env h k := by
  induction c with
  | skip => exact fun _ env h k hk S w0 r f w Q hn hf hR hE => CL.one (CL.skip (cl_nil (hE .nm env h hk r f w hn rfl (Ext.refl r) hf hR)))
  | region id ops d =>
    intro hG env h k hk S w0 r f w Q hn hf hR hE
    rcases ife_ok hk with ⟨rfl, hk⟩ | ⟨rfl, hk⟩
    · exact (hdr ops env h k hG hk).2 id S w0 r f w Q hn hf hR hE
    · have := CL.one (P := P) (Q := Q) (f := f) (w := w) (CL.region (id := id) (l := ops.toList) (cs := []) (by
        refine opsW_ok hc hwc hk S w0 r f w _ hn hf hR fun out env' h' hk' r' f' w' a b c d e => ?_
        have := hE out env' h' hk' r' f' w' a b c d e
        cases out <;> exact this))
      simpa using this
  | seq a b iha ihb =>
    intro hG env h k hk S w0 r f w Q hn hf hR hE
    refine CL.one (CL.seq (iha hG.1 env h _ hk S w0 r f w _ hn hf hR fun out env1 h1 hk1 r1 f1 w1 q1 q2 q3 q4 q5 => ?_))
    cases out with
    | nm => exact CL_of_CW (ihb hG.2 env1 h1 k hk1 S w0 r1 f1 w1 Q q1 q4 q5 fun out env' h' hk2 => q2 ▸ (hE out env' h' hk2).ext q3)
    | ex i => exact hE (.ex i) env1 h1 hk1 r1 f1 w1 q1 q2 q3 q4 q5
    | ret => exact hE .ret env1 h1 hk1 r1 f1 w1 q1 q2 q3 q4 q5
    | pan v => exact hE (.pan v) env1 h1 hk1 r1 f1 w1 q1 q2 q3 q4 q5
  | cond x a b iha ihb =>
    intro hG env h k hk S w0 r f w Q hn hf hR hE
    obtain ⟨v, hk, h2⟩ := evK_ok (show evK fl h env x (fun v => qBool v fun c => ife c (codeW 0 P fl n m call wc dr a env h k) (codeW 0 P fl n m call wc dr b env h k)) = true from hk)
    obtain ⟨c, rfl, hk⟩ := qBool_ok (x := v) hk
    obtain ⟨u, hu, hx⟩ := h2 S w0 r f w hf hR
    have := real_bool hu; subst this
    rcases ife_ok hk with ⟨rfl, hk⟩ | ⟨rfl, hk⟩
    · exact CL.one (CL.condT hx (CL_of_CW (iha hG.1 env h k hk S w0 r f w Q hn hf hR hE)))
    · exact CL.one (CL.condF hx (CL_of_CW (ihb hG.2 env h k hk S w0 r f w Q hn hf hR hE)))
  | block i b ihb =>
    intro hG env h k hk S w0 r f w Q hn hf hR hE
    refine CL.one (CL.block (CL_of_CW (ihb hG env h _ hk S w0 r f w _ hn hf hR fun out env' h' hk' r' f' w' q1 q2 q3 q4 q5 => ?_)))
    cases out with
    | nm => exact hE .nm env' h' hk' r' f' w' q1 q2 q3 q4 q5
    | ex j =>
      show blockQ i _ Q (.exit j) f' w'
      rcases ife_ok hk' with ⟨hj, hk2⟩ | ⟨hj, hk2⟩
      · simp only [blockQ, hj]
        exact hE .nm env' h' hk2 r' f' w' q1 q2 q3 q4 q5
      · simp only [blockQ, hj]
        exact hE (.ex j) env' h' hk2 r' f' w' q1 q2 q3 q4 q5
    | ret => exact hE .ret env' h' hk' r' f' w' q1 q2 q3 q4 q5
    | pan v => exact hE (.pan v) env' h' hk' r' f' w' q1 q2 q3 q4 q5
  | loop b ihb =>
    intro hG env h k hk S w0 r f w Q hn hf hR hE
    refine CL.one (CL.loop (fun m1 f1 w1 => ∃ env h r1, loopK (codeW 0 P fl n m call wc dr b) m1 env h k = true ∧ f1.n = n ∧ f1.ds = f.ds ∧ Ext r r1 ∧ FrOk r1 env f1 ∧ Rel S w0 fl r1 h w1) m ⟨env, h, r, hk, hn, rfl, Ext.refl r, hf, hR⟩ fun m1 f1 w1 hI => ?_)
    obtain ⟨env1, h1, r1, hk1, hn1, hd1, hx1, hf1, hR1⟩ := hI
    cases m1 with
    | zero => cases hk1
    | succ m1 =>
      refine CL_of_CW (ihb hG env1 h1 _ hk1 S w0 r1 f1 w1 _ hn1 hf1 hR1 fun out env' h' hk' r2 f2 w2 q1 q2 q3 q4 q5 => ?_)
      cases out with
      | nm => exact ⟨m1, Nat.lt_succ_self _, env', h', r2, hk', q1, q2.trans hd1, hx1.trans q3, q4, q5⟩
      | ex i => exact hE (.ex i) env' h' hk' r2 f2 w2 q1 (q2.trans hd1) (hx1.trans q3) q4 q5
      | ret => exact hE .ret env' h' hk' r2 f2 w2 q1 (q2.trans hd1) (hx1.trans q3) q4 q5
      | pan v => exact hE (.pan v) env' h' hk' r2 f2 w2 q1 (q2.trans hd1) (hx1.trans q3) q4 q5
  | exit i => exact fun _ env h k hk S w0 r f w Q hn hf hR hE => CL.one (CL.exit (hE (.ex i) env h hk r f w hn rfl (Ext.refl r) hf hR))
  | ret => exact fun _ env h k hk S w0 r f w Q hn hf hR hE => CL.one (CL.ret (hE .ret env h hk r f w hn rfl (Ext.refl r) hf hR))
  | _ => intro _ env h k hk; cases hk
theorem loopW_ex {body : Tr AV → Hp → KS → Bool} (hb : ∀ env h k, body env h k = true → ∃ out env' h', k out env' h' = true) : ∀ (m : Nat) (env : Tr AV) (h : Hp) (k : KS), loopK body m env h k = true → ∃ out env' h', k out env' h' = true
  | 0, env, h, k, hk => by cases hk
  | m + 1, env, h, k, hk => by
    obtain ⟨out, env1, h1, hk⟩ := hb env h _ hk
    cases out with
    | nm => exact loopW_ex hb m env1 h1 k hk
    | ex i => exact ⟨_, _, _, hk⟩
    | ret => exact ⟨_, _, _, hk⟩
    | pan v => exact ⟨_, _, _, hk⟩
theorem codeW_ex {wc : WcF} {dr : DrawF} {m sl : Nat} {G : Array Oper → Prop} (hc : CallOk P fl call) (hwc : WcEx wc) (hdr : DrawEx G dr) (c : Code) : Regs G c → ∀ (env : Tr AV) (h : Hp) (k : KS), codeW sl P fl n m call wc dr c env h k = true → ∃ out env' h', k out env' h' = true := by
  induction c with
  | skip => exact fun _ env h k hk => ⟨_, _, _, hk⟩
  | region id ops d =>
    intro hG env h k hk
    rcases ife_ok hk with ⟨rfl, hk⟩ | ⟨rfl, hk⟩
    · exact hdr ops env h k hG hk
    · exact opsW_ex hc hwc hk
  | seq a b iha ihb =>
    intro hG env h k hk
    obtain ⟨out, env1, h1, hk⟩ := iha hG.1 env h _ hk
    cases out with
    | nm => exact ihb hG.2 env1 h1 k hk
    | ex i => exact ⟨_, _, _, hk⟩
    | ret => exact ⟨_, _, _, hk⟩
    | pan v => exact ⟨_, _, _, hk⟩
  | cond x a b iha ihb =>
    intro hG env h k hk
    obtain ⟨v, hk, h2⟩ := evK_ok (show evK fl h env x (fun v => qBool v fun c => ife c (codeW sl P fl n m call wc dr a env h k) (codeW sl P fl n m call wc dr b env h k)) = true from hk)
    obtain ⟨c, rfl, hk⟩ := qBool_ok (x := v) hk
    rcases ife_ok hk with ⟨rfl, hk⟩ | ⟨rfl, hk⟩
    · exact iha hG.1 env h k hk
    · exact ihb hG.2 env h k hk
  | block i b ihb =>
    intro hG env h k hk
    obtain ⟨out, env', h', hk⟩ := ihb hG env h _ hk
    cases out with
    | nm => exact ⟨_, _, _, hk⟩
    | ex j => rcases ife_ok hk with ⟨_, hk2⟩ | ⟨_, hk2⟩ <;> exact ⟨_, _, _, hk2⟩
    | ret => exact ⟨_, _, _, hk⟩
    | pan v => exact ⟨_, _, _, hk⟩
  | loop b ihb => exact fun hG env h k hk => loopW_ex (ihb hG) m env h k hk
  | exit i => exact fun _ env h k hk => ⟨_, _, _, hk⟩
  | ret => exact fun _ env h k hk => ⟨_, _, _, hk⟩
  | _ => intro _ env h k hk; cases hk
end
end Go.Proofs.YtoafcnecjgnbmaaGreatDoor.E

set_option linter.constructorNameAsVariable false
namespace Go.Proofs.YtoafcnecjgnbmaaGreatDoor.E
open Go Go.RowKit H
section
variable {P : Program} {fl n : Nat}
noncomputable def bodyW (sl : Nat) (P : Program) (fl m : Nat) (wc : WcF) (dr : Nat → CallF → DrawF) (call : CallF) (f : FuncId) (vs : List AV) (h : Hp) (k : AV → Hp → Bool) : Bool := fnK P f fun fn => someK fn.body fun c => lenK vs fun l => ask (Nat.ble l fn.ntmps) (ask (Nat.ble l 4096) (argsK vs 0 .e fun env => codeW sl P fl fn.ntmps m call wc (dr fn.ntmps call) c env h (endK P fl fn k fun _ _ => false)))
theorem endK_ok {fn : Func} {k : KV} {out : Out} {env : Tr AV} {h : Hp} (hk : endK P fl fn k (fun _ _ => false) out env h = true) :
    (out = .nm ∨ out = .ret) ∧ ∃ v, k v h = true ∧ ∀ S w0 r f w, FrOk r env f → Rel S w0 fl r h w → ∃ x, real r v = some x ∧ ∀ a, Ag f a → (results fn a.tmps).run P w = .ok x w := by
  cases out with
  | nm => exact ⟨.inl rfl, finK_ok hk⟩
  | ex i => cases hk
  | ret => exact ⟨.inr rfl, finK_ok hk⟩
  | pan v => cases hk
theorem bodyW_ok {m : Nat} {wc : WcF} {dr : Nat → CallF → DrawF} {call : CallF} {G : Array Oper → Prop} (hc : CallOk P fl call) (hwc : WcOk P fl wc) (hdr : ∀ n call, CallOk P fl call → DrawWk P fl n G (dr n call)) {f : FuncId} (hG : ∀ fn c, P.funcs[f]? = some fn → fn.body = some c → Regs G c) {vs : List AV} {h : Hp} {k : AV → Hp → Bool} (hk : bodyW 0 P fl m wc dr call f vs h k = true) :
    ∀ S w0 r w xs, Rel S w0 fl r h w → reals r vs = some xs → Calls P f xs.toArray w fun e w' => ∃ v h' r' x, k v h' = true ∧ e = .returned x ∧ Ext r r' ∧ Rel S w0 fl r' h' w' ∧ real r' v = some x := by
  obtain ⟨fn, hf, hk⟩ := fnK_ok hk
  obtain ⟨c, hb, hk⟩ := someK_ok hk
  rw [lenK_eq] at hk
  obtain ⟨hl, hk⟩ := ask_ok hk
  obtain ⟨hl2, hk⟩ := ask_ok hk
  obtain ⟨env, hk, he⟩ := argsK_ok hk (by have := ble_le hl2; omega)
  have hC := codeW_ok hc hwc (hdr fn.ntmps call hc) c (hG fn c hf hb) env h _ hk
  intro S w0 r w xs hR hxs
  refine enter hf rfl hb (by rw [reals_len hxs]; exact hl) (CL_of_CW (hC S w0 r _ w _ rfl (fun t v ht hv => ?_) hR fun out env' h' hk' r' f' w' hn hd hx hf' hR' => ?_))
  · rw [he t ht] at hv
    by_cases q : 0 ≤ t ∧ t < 0 + vs.length
    · rw [if_pos q, Nat.sub_zero] at hv
      obtain ⟨u, hu, hr⟩ := reals_at hxs hv
      exact ⟨u, hr, by rw [look_args' xs 0 t (Nat.zero_le _), Nat.sub_zero]; exact hu⟩
    · rw [if_neg q, Tr.get_e] at hv; cases hv
  · obtain ⟨ho, v, hkv, h2⟩ := endK_ok hk'
    obtain ⟨x, hxv, hr⟩ := h2 S w0 r' f' w' hf' hR'
    have q : f'.ds = [] ∧ ∃ v0, (∀ a, Ag f' a → (results fn a.tmps).run P w' = .ok v0 w') ∧ ∃ v h' r'' x, k v h' = true ∧ Ending.returned v0 = .returned x ∧ Ext r r'' ∧ Rel S w0 fl r'' h' w' ∧ real r'' v = some x := ⟨hd, x, hr, v, h', r', x, hkv, rfl, hx, hR', hxv⟩
    rcases ho with rfl | rfl <;> exact q
theorem bodyW_ex {m sl : Nat} {wc : WcF} {dr : Nat → CallF → DrawF} {call : CallF} {G : Array Oper → Prop} (hc : CallOk P fl call) (hwc : WcEx wc) (hdr : ∀ n call, CallOk P fl call → DrawEx G (dr n call)) {f : FuncId} (hG : ∀ fn c, P.funcs[f]? = some fn → fn.body = some c → Regs G c) {vs : List AV} {h : Hp} {k : AV → Hp → Bool} (hk : bodyW sl P fl m wc dr call f vs h k = true) : ∃ v h', k v h' = true := by
  obtain ⟨fn, hf, hk⟩ := fnK_ok hk
  obtain ⟨c, hb, hk⟩ := someK_ok hk
  rw [lenK_eq] at hk
  obtain ⟨hl, hk⟩ := ask_ok hk
  obtain ⟨hl2, hk⟩ := ask_ok hk
  obtain ⟨env, hk, he⟩ := argsK_ok hk (by have := ble_le hl2; omega)
  obtain ⟨out, env', h', hk'⟩ := codeW_ex hc hwc (hdr fn.ntmps call hc) c (hG fn c hf hb) env h _ hk
  obtain ⟨_, v, hkv, _⟩ := endK_ok hk'
  exact ⟨v, h', hkv⟩
mutual
/-- Values without addresses. -/
def flatA : AV → Bool
  | .bool _ => true
  | .int _ _ => true
  | .str _ => true
  | .nilp => true
  | .nils => true
  | .nilm => true
  | .nilf => true
  | .nili => true
  | .ifc _ v => flatA v
  | .agg l => flats l
  | .tup l => flats l
  | _ => false
def flats : List AV → Bool
  | [] => true
  | v :: l => flatA v && flats l
end
mutual
theorem flat_real {r r' : Ren} : ∀ (v : AV) (u : Value), flatA v = true → real r v = some u → real r' v = some u
  | .und, _, h, _ => by cases h
  | .bool _, _, _, e => e
  | .int _ _, _, _, e => e
  | .str _, _, _, e => e
  | .nilp, _, _, e => e
  | .ptr _ _, _, h, _ => by cases h
  | .nils, _, _, e => e
  | .sl _ _ _ _, _, h, _ => by cases h
  | .slx _ _ _ _, _, h, _ => by cases h
  | .sly _ _ _ _, _, h, _ => by cases h
  | .nilm, _, _, e => e
  | .map _, _, h, _ => by cases h
  | .nilf, _, _, e => e
  | .fn _ _ _, _, h, _ => by cases h
  | .nili, _, _, e => e
  | .ifc t v, u, h, e => by
    simp only [real, Option.map_eq_some_iff] at e ⊢
    obtain ⟨x, hx, e⟩ := e
    exact ⟨x, flat_real v x (by simpa only [flatA] using h) hx, e⟩
  | .agg l, u, h, e => by
    simp only [real, Option.map_eq_some_iff] at e ⊢
    obtain ⟨x, hx, e⟩ := e
    exact ⟨x, flats_real l x (by simpa only [flatA] using h) hx, e⟩
  | .tup l, u, h, e => by
    simp only [real, Option.map_eq_some_iff] at e ⊢
    obtain ⟨x, hx, e⟩ := e
    exact ⟨x, flats_real l x (by simpa only [flatA] using h) hx, e⟩
  | .sym _ _ _ _, _, h, _ => by cases h
theorem flats_real {r r' : Ren} : ∀ (l : List AV) (us : List Value), flats l = true → reals r l = some us → reals r' l = some us
  | [], _, _, e => by simpa only [reals] using e
  | v :: l, us, h, e => by
    rw [flats, Bool.and_eq_true] at h
    obtain ⟨u, t, hu, ht, rfl⟩ := reals_cons.1 e
    exact reals_cons.2 ⟨u, t, flat_real v u h.1 hu, flats_real l t h.2 ht, rfl⟩
end
section
variable {S : Nat → Prop} {w0 : World} {r r' : Ren} {h h' : Hp} {w w' : World}
theorem Rel.floor (H : Rel S w0 fl r h w) : Rel (fun _ => False) w h.next r h w :=
  ⟨H.live, H.inj, H.fresh, H.lim, H.glob, (fun i p hi hp => by rw [H.fresh i hi] at hp; cases hp), H.dom, Kept.refl _ _, ⟨Nat.le_refl _, H.base.2⟩, H.hol, H.full, H.top⟩
/-- What was made beside what was there. -/
theorem Rel.join (H : Rel S w0 fl r h w) (H' : Rel (fun _ => False) w h.next r' h' w') (hx : Ext r r') {l : List (Nat × Blk)} (hl : ∀ x ∈ l, h.next ≤ x.1 ∧ x.1 < h'.next ∧ h'.at x.1 = some x.2) {g : Hp} (hn : g.next = h'.next)
    (hg : ∀ i b, i < LIM → g.at i = some b → h.at i = some b ∨ (i, b) ∈ l) : Rel S w0 fl r' g w' := by
  have hlim := H'.lim
  have hb1 : h.next ≤ h'.next := H'.base.1
  have two : ∀ i b p, i < LIM → g.at i = some b → r' i = some p → (i < h.next ∧ h.at i = some b ∧ r i = some p ∧ p.1 < w.heap.size) ∨ (h.next ≤ i ∧ i < h'.next ∧ h'.at i = some b ∧ w.heap.size ≤ p.1) := fun i b p hi hb hp => by
    rcases hg i b hi hb with hb | hb
    · rcases Nat.lt_or_ge i h.next with c | c
      · obtain ⟨p0, hp0, _⟩ := H.live i b c hb
        have := hx.v i p0 hp0
        rw [hp] at this; cases this
        exact .inl ⟨c, hb, hp0, H.dom i p hp0⟩
      · rw [H.top i c hi] at hb; cases hb
    · obtain ⟨h1, h2, h3⟩ := hl _ hb
      rcases H'.may i p h1 hp with c | c
      · exact c.elim
      · exact .inr ⟨h1, h2, h3, c⟩
  refine ⟨fun i b hi hb => ?_, fun i j b c p q hi hj hb hc hp hq e => ?_, fun i hi => ?_, by rw [hn]; exact H'.lim, H'.glob, fun i p hi hp => ?_, H'.dom, H.kept.trans0 H'.kept, by rw [hn]; exact ⟨Nat.le_trans H.base.1 hb1, H'.base.2⟩, fun i hi => ?_, fun i hi => ?_, fun i hi hL => ?_⟩
  · rw [hn] at hi
    rcases hg i b (by omega) hb with hb | hb
    · rcases Nat.lt_or_ge i h.next with c | c
      · obtain ⟨p, hp, hB⟩ := H.live i b c hb
        exact ⟨p, hx.v i p hp, (hB.of (H'.kept.block _ (H.dom i p hp) fun c => c)).mono hx⟩
      · rw [H.top i c (by omega)] at hb; cases hb
    · exact H'.live i b hi (hl _ hb).2.2
  · rw [hn] at hi hj
    rcases two i b p (by omega) hb hp with ⟨a1, a2, a3, a4⟩ | ⟨a1, a2, a3, a4⟩
    · rcases two j c q (by omega) hc hq with ⟨c1, c2, c3, c4⟩ | ⟨c1, c2, c3, c4⟩
      · exact H.inj i j b c p q a1 c1 a2 c2 a3 c3 e
      · omega
    · rcases two j c q (by omega) hc hq with ⟨c1, c2, c3, c4⟩ | ⟨c1, c2, c3, c4⟩
      · omega
      · exact H'.inj i j b c p q a2 c2 a3 c3 hp hq e
  · rw [hn] at hi
    exact H'.fresh i hi
  · rcases Nat.lt_or_ge i h.next with c | c
    · rcases H.full i c with q | ⟨p0, hp0⟩
      · have := (H'.hol i (hx.h i q)).1
        rw [this] at hp; cases hp
      · have := hx.v i p0 hp0
        rw [hp] at this; cases this
        exact H.may i p hi hp0
    · rcases H'.may i p c hp with q | q
      · exact q.elim
      · exact .inr (Nat.le_trans H.kept.size q)
  · rw [hn]; exact H'.hol i hi
  · rw [hn] at hi; exact H'.full i hi
  · rw [hn] at hi
    cases e : g.at i with
    | none => rfl
    | some b =>
      rcases hg i b hL e with q | q
      · rw [H.top i (by omega) hL] at q; cases q
      · have := (hl _ q).2.1
        have : i < h'.next := this
        omega
end
/-- A function that yields a value without addresses. -/
noncomputable def pureV (P : Program) (m : Nat) (dr : Nat → Nat → CallF → DrawF) (callF : Nat → CallF) (f : FuncId) : Prim := fun _ vs h kr _ => Hp.rec (motive := fun _ => Bool) (fun nx t =>
  bodyW 1 P nx m noWc (dr nx) (callF nx) f vs ⟨nx, t⟩ fun v1 _ => ask (flatA v1) (ask (bodyW 0 P nx m noWc (dr nx) (callF nx) f vs ⟨nx, t⟩ fun v _ => avEq v v1) (kr v1 ⟨nx, t⟩))) h
noncomputable def bEq (a b : Bool) : Bool := ifeV a b (not b)
theorem bEq_ok {a b : Bool} (h : bEq a b = true) : a = b := by cases a <;> cases b <;> first | rfl | cases h
noncomputable def blkEq (a : Blk) : Blk → Bool := Blk.rec (motive := fun _ => Blk → Bool)
  (fun ty o r cs b => Blk.rec (motive := fun _ => Bool) (fun ty' o' r' cs' => ifeV (Nat.beq ty ty') (ifeV (bEq o o') (ifeV (bEq r r') (avEq (.agg cs) (.agg cs')) false) false) false) (fun _ _ _ _ => false) (fun _ _ => false) (fun _ _ _ _ => false) false b)
  (fun ks vs bs ck b => Blk.rec (motive := fun _ => Bool) (fun _ _ _ _ => false) (fun ks' vs' bs' ck' => ifeV (Nat.beq ck ck') (ifeV (sEq bs bs') (ifeV (avEq (.agg ks) (.agg ks')) (avEq (.agg vs) (.agg vs')) false) false) false) (fun _ _ => false) (fun _ _ _ _ => false) false b)
  (fun _ _ _ => false) (fun _ _ _ _ _ => false) (fun b => Blk.rec (motive := fun _ => Bool) (fun _ _ _ _ => false) (fun _ _ _ _ => false) (fun _ _ => false) (fun _ _ _ _ => false) true b) a
theorem blkEq_ok {a b : Blk} (h : blkEq a b = true) : a = b := by
  cases a with
  | cells ty o r cs =>
    cases b with
    | cells ty' o' r' cs' =>
      obtain ⟨h1, h⟩ := and_ok h
      obtain ⟨h2, h⟩ := and_ok h
      obtain ⟨h3, h⟩ := and_ok h
      have := avEq_ok _ _ h
      injection this with this
      rw [Nat.eq_of_beq_eq_true h1, bEq_ok h2, bEq_ok h3, this]
    | _ => cases h
  | mp ks vs bs ck =>
    cases b with
    | mp ks' vs' bs' ck' =>
      obtain ⟨h1, h⟩ := and_ok h
      obtain ⟨h2, h⟩ := and_ok h
      obtain ⟨h3, h⟩ := and_ok h
      have e1 := avEq_ok _ _ h3
      have e2 := avEq_ok _ _ h
      injection e1 with e1
      injection e2 with e2
      rw [Nat.eq_of_beq_eq_true h1, sEq_ok h2, e1, e2]
    | _ => cases h
  | ints => cases b <;> first | rfl | cases h
  | _ => cases h
noncomputable def optAt (h : Hp) (i : Nat) (n : Bool) (k : Blk → Bool) : Bool := Hp.rec (motive := fun _ => Bool) (fun _ t => Tr.getK (bits i) t fun o => optK o n k) h
theorem optAt_ok {h : Hp} {i : Nat} {n : Bool} {k : Blk → Bool} (hk : optAt h i n k = true) : n = true ∨ ∃ b, k b = true := by
  cases h with
  | mk nx t =>
    replace hk : Tr.getK (bits i) t (fun o => optK o n k) = true := hk
    rw [Tr.getK_eq] at hk
    cases e : Tr.get (bits i) t with
    | none => rw [e] at hk; exact .inl hk
    | some b => rw [e] at hk; exact .inr ⟨b, hk⟩
/-- What two states have alike, of so many names. -/
noncomputable def gath (h1 h2 : Hp) (cnt : Nat) : Nat → (List (Nat × Blk) → Bool) → Bool := Nat.rec (motive := fun _ => Nat → (List (Nat × Blk) → Bool) → Bool) (fun _ k => k [])
  (fun _ ih i k => natK (Nat.succ i) fun j => ih j fun l => optAt h1 i (k l) fun b => optAt h2 i (k l) fun b' => ife (blkEq b b') (k ((i, b) :: l)) (k l)) cnt
theorem gath_ex {h1 h2 : Hp} : ∀ {cnt i : Nat} {k : List (Nat × Blk) → Bool}, gath h1 h2 cnt i k = true → ∃ l, k l = true
  | 0, i, k, hk => ⟨[], hk⟩
  | cnt + 1, i, k, hk => by
    replace hk : natK (Nat.succ i) (fun j => gath h1 h2 cnt j fun l => optAt h1 i (k l) fun b => optAt h2 i (k l) fun b' => ife (blkEq b b') (k ((i, b) :: l)) (k l)) = true := hk
    rw [natK_eq] at hk
    obtain ⟨l, hk⟩ := gath_ex hk
    rcases optAt_ok hk with hk | ⟨b, hk⟩
    · exact ⟨l, hk⟩
    rcases optAt_ok hk with hk | ⟨b', hk⟩
    · exact ⟨l, hk⟩
    rcases ife_ok hk with ⟨_, hk⟩ | ⟨_, hk⟩ <;> exact ⟨_, hk⟩
noncomputable def agr (h : Hp) (l : List (Nat × Blk)) : Bool := List.rec (motive := fun _ => Bool) true (fun x _ ih => ask (atK h x.1 fun b => blkEq b x.2) ih) l
theorem agr_ok {h : Hp} : ∀ {l : List (Nat × Blk)}, agr h l = true → ∀ x ∈ l, h.at x.1 = some x.2
  | [], _, x, hx => by cases hx
  | y :: l, hk, x, hx => by
    obtain ⟨h1, h2⟩ := ask_ok hk
    rcases List.mem_cons.1 hx with rfl | hx
    · obtain ⟨b, hb, e⟩ := atK_ok h1
      rw [hb, blkEq_ok e]
    · exact agr_ok h2 x hx
noncomputable def rngB (a b : Nat) (l : List (Nat × Blk)) : Bool := List.rec (motive := fun _ => Bool) true (fun x _ ih => ask (Nat.ble a x.1) (ask (Nat.blt x.1 b) ih)) l
theorem rngB_ok {a b : Nat} : ∀ {l : List (Nat × Blk)}, rngB a b l = true → ∀ x ∈ l, a ≤ x.1 ∧ x.1 < b
  | [], _, x, hx => by cases hx
  | y :: l, hk, x, hx => by
    obtain ⟨h1, h2⟩ := ask_ok hk
    obtain ⟨h2, h3⟩ := ask_ok h2
    rcases List.mem_cons.1 hx with rfl | hx
    · exact ⟨ble_le h1, blt_lt h2⟩
    · exact rngB_ok h3 x hx
noncomputable def putsH (l : List (Nat × Blk)) : Hp → (Hp → Bool) → Bool := List.rec (motive := fun _ => Hp → (Hp → Bool) → Bool) (fun h k => k h) (fun x _ ih h k => putH h x.1 x.2 fun h => ih h k) l
theorem putsH_ok : ∀ {l : List (Nat × Blk)} {h : Hp} {k : Hp → Bool}, (∀ x ∈ l, x.1 < LIM) → putsH l h k = true → ∃ g, k g = true ∧ g.next = h.next ∧ ∀ i b, i < LIM → g.at i = some b → h.at i = some b ∨ (i, b) ∈ l
  | [], h, k, _, hk => ⟨h, hk, rfl, fun i b _ hb => .inl hb⟩
  | x :: l, h, k, hl, hk => by
    replace hk : putH h x.1 x.2 (fun h => putsH l h k) = true := hk
    rw [putH_eq] at hk
    obtain ⟨g, hk, hn, hg⟩ := putsH_ok (fun y hy => hl y (List.mem_cons_of_mem _ hy)) hk
    refine ⟨g, hk, hn, fun i b hi hb => ?_⟩
    rcases hg i b hi hb with q | q
    · rw [Hp.at_put (hl x (List.mem_cons_self ..)) hi] at q
      by_cases e : x.1 = i
      · rw [if_pos e] at q
        cases q
        exact .inr (by rw [← e]; exact List.mem_cons_self ..)
      · rw [if_neg e] at q
        exact .inl q
    · exact .inr (List.mem_cons_of_mem _ q)
/-- A function that yields what it has made. -/
noncomputable def pureS (P : Program) (m : Nat) (dr : Nat → Nat → CallF → DrawF) (callF : Nat → CallF) (f : FuncId) : Prim := fun _ vs h kr _ => Hp.rec (motive := fun _ => Bool) (fun nx t =>
  bodyW 1 P nx m noWc (dr nx) (callF nx) f vs ⟨nx, t⟩ fun v1 h1 => bodyW 2 P nx m noWc (dr nx) (callF nx) f vs ⟨nx, t⟩ fun _ h2 => Hp.rec (motive := fun _ => Bool) (fun n1 t1 => ask (Nat.ble n1 LIM) (gath ⟨n1, t1⟩ h2 (Nat.sub n1 nx) nx fun l => ask (rngB nx n1 l)
    (ask (bodyW 0 P nx m noWc (dr nx) (callF nx) f vs ⟨nx, t⟩ fun v h' => ask (avEq v v1) (Hp.rec (motive := fun _ => Bool) (fun n' t' => ask (Nat.beq n' n1) (agr ⟨n', t'⟩ l)) h')) (putsH l ⟨n1, t⟩ fun g => kr v1 g)))) h1) h
theorem pureS_ok {m : Nat} {dr : Nat → Nat → CallF → DrawF} {callF : Nat → CallF} {G : Array Oper → Prop} (hc : ∀ fl, CallOk P fl (callF fl)) (hdr : ∀ fl n call, CallOk P fl call → DrawOk P fl n G (dr fl n call)) (hG : AllRegs P G) (fl : Nat) (f : FuncId) : Pr1 P fl f (pureS P m dr callF f) := by
  intro call _ g vs h kr kp hk
  rcases ife_ok hk with ⟨hb, hk2⟩ | ⟨_, hk2⟩
  · have e := Nat.eq_of_beq_eq_true hb
    subst e
    cases h with
    | mk nx t =>
      obtain ⟨v1, h1, hk3⟩ := bodyW_ex (hc nx) (noWc_ok (P := P) (fl := nx)).ex (fun n call h => (DrawWk.of (hdr nx n call h)).ex) (hG _) (show bodyW 1 P nx m noWc (dr nx) (callF nx) _ vs ⟨nx, t⟩ _ = true from hk2)
      obtain ⟨v2, h2, hk3⟩ := bodyW_ex (hc nx) (noWc_ok (P := P) (fl := nx)).ex (fun n call h => (DrawWk.of (hdr nx n call h)).ex) (hG _) hk3
      cases h1 with
      | mk n1 t1 =>
        obtain ⟨hlim, hk3⟩ := ask_ok hk3
        have hlim := ble_le hlim
        obtain ⟨l, hk3⟩ := gath_ex hk3
        obtain ⟨hrg, hk3⟩ := ask_ok hk3
        obtain ⟨hW, hk3⟩ := ask_ok hk3
        have hrg := rngB_ok hrg
        obtain ⟨q, hkr, hqn, hq⟩ := putsH_ok (fun x hx => Nat.lt_of_lt_of_le (hrg x hx).2 hlim) hk3
        refine .inl ⟨v1, q, hkr, fun S w0 r w xs hR hxs => (bodyW_ok (hc nx) noWc_ok (fun n call h => .of (hdr nx n call h)) (hG _) hW _ _ r w xs hR.floor hxs).mono ?_⟩
        rintro e w' ⟨v, h', r', x, hv, rfl, hx, hR', hxv⟩
        obtain ⟨hv, hv2⟩ := ask_ok hv
        have := avEq_ok _ _ hv
        subst this
        cases h' with
        | mk n' t' =>
          obtain ⟨hn', ha⟩ := ask_ok hv2
          have hn' := Nat.eq_of_beq_eq_true hn'
          subst hn'
          have ha := agr_ok ha
          exact ⟨r', x, rfl, hx, hR.join hR' hx (fun y hy => ⟨(hrg y hy).1, (hrg y hy).2, ha y hy⟩) hqn hq, hxv⟩
  · cases hk2
end
end Go.Proofs.YtoafcnecjgnbmaaGreatDoor.E

set_option maxRecDepth 100000
namespace Go.Proofs.YtoafcnecjgnbmaaGreatDoor.H
instance iU4 : Und Tryz.prog 4 (.bool) := ⟨Tryz.underlying4⟩
instance iU3 : Und Tryz.prog 3 (.int .i64) := ⟨Tryz.underlying3⟩
instance iI3 : Inf Tryz.prog 3 (.int .i64 0) 1 8 := ⟨by kernel_rfl⟩
instance iO3 : One Tryz.prog 3 := One.of Tryz.underlying3 rfl
instance iI4 : Inf Tryz.prog 4 (.bool false) 1 1 := ⟨by kernel_rfl⟩
instance iO4 : One Tryz.prog 4 := One.of Tryz.underlying4 rfl
instance iU5 : Und Tryz.prog 5 (.int .u8) := ⟨Tryz.underlying5⟩
instance iI5 : Inf Tryz.prog 5 (.int .u8 0) 1 1 := ⟨by kernel_rfl⟩
instance iU9 : Und Tryz.prog 9 (.string) := ⟨Tryz.underlying9⟩
instance iI9 : Inf Tryz.prog 9 (.string (B [])) 1 16 := ⟨by kernel_rfl⟩
instance iO9 : One Tryz.prog 9 := One.of Tryz.underlying9 rfl
instance iU34 : Und Tryz.prog 34 (.slice 3) := ⟨Tryz.underlying34⟩
instance iI34 : Inf Tryz.prog 34 (.slice none 0 0) 1 24 := ⟨by kernel_rfl⟩
instance iO34 : One Tryz.prog 34 := One.of Tryz.underlying34 rfl
instance iU36 : Und Tryz.prog 36 (.slice 62) := ⟨Tryz.underlying36⟩
instance iU47 : Und Tryz.prog 47 (.slice 85) := ⟨Tryz.underlying47⟩
instance iI47 : Inf Tryz.prog 47 (.slice none 0 0) 1 24 := ⟨by kernel_rfl⟩
instance iO47 : One Tryz.prog 47 := One.of Tryz.underlying47 rfl
instance iU48 : Und Tryz.prog 48 (.slice 60) := ⟨Tryz.underlying48⟩
instance iI48 : Inf Tryz.prog 48 (.slice none 0 0) 1 24 := ⟨by kernel_rfl⟩
instance iO48 : One Tryz.prog 48 := One.of Tryz.underlying48 rfl
instance iC51 : Conc Tryz.prog 51 := ⟨by kernel_rfl⟩
instance iU59 : Und Tryz.prog 59 (.slice 9) := ⟨Tryz.underlying59⟩
instance iU60 : Und Tryz.prog 60 (.slice 5) := ⟨Tryz.underlying60⟩
instance iI60 : Inf Tryz.prog 60 (.slice none 0 0) 1 24 := ⟨by kernel_rfl⟩
instance iO60 : One Tryz.prog 60 := One.of Tryz.underlying60 rfl
instance iI62 : Inf Tryz.prog 62 (Value.agg #[.string (B []), .bool false, .slice none 0 0]) 3 48 := ⟨by kernel_rfl⟩
instance iS62 : StructT Tryz.prog 62 #[(0, 1), (1, 1), (2, 1)] (Value.agg #[.string (B []), .bool false, .slice none 0 0]).cells := StructT.of Tryz.underlying62 rfl (by intro w; simp [run_sizeOf])
instance iD62x0 : Fld Tryz.prog 62 0 0 9 := ⟨⟨_, _, Tryz.underlying62, rfl, rfl, rfl⟩⟩
instance iI78 : Inf Tryz.prog 78 (Value.agg #[.int .i64 0, .int .i64 0, .int .i64 0, .slice none 0 0]) 4 48 := ⟨by kernel_rfl⟩
instance iM78 : Many Tryz.prog 78 4 := Many.of Tryz.underlying78 rfl
instance iU83 : Und Tryz.prog 83 (.slice 95) := ⟨Tryz.underlying83⟩
instance iI83 : Inf Tryz.prog 83 (.slice none 0 0) 1 24 := ⟨by kernel_rfl⟩
instance iO83 : One Tryz.prog 83 := One.of Tryz.underlying83 rfl
instance iI85 : Inf Tryz.prog 85 (Value.agg #[.string (B []), .int .i64 0, .int .i64 0, .int .i64 0, .slice none 0 0, .int .u8 0, .int .u8 0, .int .u8 0, .int .u8 0, .int .u8 0, .int .u8 0, .int .u8 0, .int .u8 0, .int .u8 0, .int .u8 0, .int .u8 0, .int .u8 0, .int .u8 0, .int .u8 0, .int .u8 0, .int .u8 0, .int .u8 0, .int .u8 0, .int .u8 0, .int .u8 0, .int .u8 0, .int .u8 0, .int .u8 0, .int .u8 0, .int .u8 0, .int .u8 0, .int .u8 0, .int .u8 0, .int .u8 0, .int .u8 0, .int .u8 0, .int .u8 0, .int .i64 0, .slice none 0 0]) 39 128 := ⟨by kernel_rfl⟩
instance iD85x4 : Fld Tryz.prog 85 4 38 83 := ⟨⟨_, _, Tryz.underlying85, rfl, rfl, rfl⟩⟩
instance iI95 : Inf Tryz.prog 95 (Value.agg #[.string (B []), .bool false, .slice none 0 0, .string (B [])]) 4 64 := ⟨by kernel_rfl⟩
instance iM95 : Many Tryz.prog 95 4 := Many.of Tryz.underlying95 rfl
instance iD95x0 : Fld Tryz.prog 95 0 0 9 := ⟨⟨_, _, Tryz.underlying95, rfl, rfl, rfl⟩⟩
instance iD109x0 : Fld Tryz.prog 109 0 0 9 := ⟨⟨_, _, Tryz.underlying109, rfl, rfl, rfl⟩⟩
instance iD109x1 : Fld Tryz.prog 109 1 1 78 := ⟨⟨_, _, Tryz.underlying109, rfl, rfl, rfl⟩⟩
instance iI135 : Inf Tryz.prog 135 (.map none) 1 8 := ⟨by kernel_rfl⟩
instance iI137 : Inf Tryz.prog 137 (Value.agg #[.slice none 0 0, .map none]) 2 32 := ⟨by kernel_rfl⟩
instance iS137 : StructT Tryz.prog 137 #[(0, 1), (1, 1)] (Value.agg #[.slice none 0 0, .map none]).cells := StructT.of Tryz.underlying137 rfl (by intro w; simp [run_sizeOf])
instance iD137x0 : Fld Tryz.prog 137 0 0 48 := ⟨⟨_, _, Tryz.underlying137, rfl, rfl, rfl⟩⟩
instance iI139 : Inf Tryz.prog 139 (Value.agg #[.slice none 0 0, .map none, .int .i64 0, .bool false]) 4 48 := ⟨by kernel_rfl⟩
instance iS139 : StructT Tryz.prog 139 #[(0, 2), (2, 1), (3, 1)] (Value.agg #[.slice none 0 0, .map none, .int .i64 0, .bool false]).cells := StructT.of Tryz.underlying139 rfl (by intro w; simp [run_sizeOf])
instance iD139x0 : Fld Tryz.prog 139 0 0 137 := ⟨⟨_, _, Tryz.underlying139, rfl, rfl, rfl⟩⟩
instance iU152 : Und Tryz.prog 152 (.int .u64) := ⟨Tryz.underlying152⟩
instance iI154 : Inf Tryz.prog 154 (.map none) 1 8 := ⟨by kernel_rfl⟩
instance iC154 : Conc Tryz.prog 154 := ⟨by kernel_rfl⟩
instance iI201 : Inf Tryz.prog 201 (.nilIface) 1 16 := ⟨by kernel_rfl⟩
instance iO201 : One Tryz.prog 201 := One.of Tryz.underlying201 rfl
instance iI344 : Inf Tryz.prog 344 (.pointer none) 1 8 := ⟨by kernel_rfl⟩
instance iD353x2 : Fld Tryz.prog 353 2 2 201 := ⟨⟨_, _, Tryz.underlying353, rfl, rfl, rfl⟩⟩
instance iU423 : Und Tryz.prog 423 (.map 9 3) := ⟨Tryz.underlying423⟩
instance iI423 : Inf Tryz.prog 423 (.map none) 1 8 := ⟨by kernel_rfl⟩
instance iO423 : One Tryz.prog 423 := One.of Tryz.underlying423 rfl
instance iC423 : Conc Tryz.prog 423 := ⟨by kernel_rfl⟩
instance iD429x0 : Fld Tryz.prog 429 0 0 4 := ⟨⟨_, _, Tryz.underlying429, rfl, rfl, rfl⟩⟩
instance iD429x1 : Fld Tryz.prog 429 1 1 60 := ⟨⟨_, _, Tryz.underlying429, rfl, rfl, rfl⟩⟩
instance iU432 : Und Tryz.prog 432 (.map 9 426) := ⟨Tryz.underlying432⟩
instance iI432 : Inf Tryz.prog 432 (.map none) 1 8 := ⟨by kernel_rfl⟩
instance iO432 : One Tryz.prog 432 := One.of Tryz.underlying432 rfl
instance iD434x0 : Fld Tryz.prog 434 0 0 432 := ⟨⟨_, _, Tryz.underlying434, rfl, rfl, rfl⟩⟩
instance iI438 : Inf Tryz.prog 438 (Value.agg #[.pointer none, .pointer none, .int .u64 0]) 3 24 := ⟨by kernel_rfl⟩
instance iM438 : Many Tryz.prog 438 3 := Many.of Tryz.underlying438 rfl
instance iI441 : Inf Tryz.prog 441 (.nilIface) 1 16 := ⟨by kernel_rfl⟩
instance iO441 : One Tryz.prog 441 := One.of Tryz.underlying441 rfl
instance iU497 : Und Tryz.prog 497 (.slice 567) := ⟨Tryz.underlying497⟩
instance iI497 : Inf Tryz.prog 497 (.slice none 0 0) 1 24 := ⟨by kernel_rfl⟩
instance iO497 : One Tryz.prog 497 := One.of Tryz.underlying497 rfl
instance iI567 : Inf Tryz.prog 567 (Value.agg #[.int .i64 0, .string (B []), .string (B []), .string (B []), .int .i64 0, .bool false]) 6 72 := ⟨by kernel_rfl⟩
instance iM567 : Many Tryz.prog 567 6 := Many.of Tryz.underlying567 rfl
instance iD567x0 : Fld Tryz.prog 567 0 0 3 := ⟨⟨_, _, Tryz.underlying567, rfl, rfl, rfl⟩⟩
instance iD567x1 : Fld Tryz.prog 567 1 1 9 := ⟨⟨_, _, Tryz.underlying567, rfl, rfl, rfl⟩⟩
instance iD567x4 : Fld Tryz.prog 567 4 4 3 := ⟨⟨_, _, Tryz.underlying567, rfl, rfl, rfl⟩⟩
instance iI572 : Inf Tryz.prog 572 (Value.agg #[.slice none 0 0, .slice none 0 0]) 2 48 := ⟨by kernel_rfl⟩
instance iD572x1 : Fld Tryz.prog 572 1 1 34 := ⟨⟨_, _, Tryz.underlying572, rfl, rfl, rfl⟩⟩
instance iI575 : Inf Tryz.prog 575 (Value.agg #[.slice none 0 0, .slice none 0 0, .slice none 0 0, .pointer none, .map none, .slice none 0 0, .int .i64 0]) 7 120 := ⟨by kernel_rfl⟩
instance iS575 : StructT Tryz.prog 575 #[(0, 2), (2, 1), (3, 1), (4, 1), (5, 1), (6, 1)] (Value.agg #[.slice none 0 0, .slice none 0 0, .slice none 0 0, .pointer none, .map none, .slice none 0 0, .int .i64 0]).cells := StructT.of Tryz.underlying575 rfl (by intro w; simp [run_sizeOf])
instance iD575x0 : Fld Tryz.prog 575 0 0 572 := ⟨⟨_, _, Tryz.underlying575, rfl, rfl, rfl⟩⟩
instance iD575x1 : Fld Tryz.prog 575 1 2 497 := ⟨⟨_, _, Tryz.underlying575, rfl, rfl, rfl⟩⟩
instance iD575x4 : Fld Tryz.prog 575 4 5 34 := ⟨⟨_, _, Tryz.underlying575, rfl, rfl, rfl⟩⟩
instance iD575x5 : Fld Tryz.prog 575 5 6 3 := ⟨⟨_, _, Tryz.underlying575, rfl, rfl, rfl⟩⟩
instance iU630 : Und Tryz.prog 630 (.map 9 34) := ⟨Tryz.underlying630⟩
instance iI630 : Inf Tryz.prog 630 (.map none) 1 8 := ⟨by kernel_rfl⟩
instance iO630 : One Tryz.prog 630 := One.of Tryz.underlying630 rfl
instance iU631 : Und Tryz.prog 631 (.map 9 656) := ⟨Tryz.underlying631⟩
instance iI631 : Inf Tryz.prog 631 (.map none) 1 8 := ⟨by kernel_rfl⟩
instance iO631 : One Tryz.prog 631 := One.of Tryz.underlying631 rfl
instance iD633x0 : Fld Tryz.prog 633 0 0 47 := ⟨⟨_, _, Tryz.underlying633, rfl, rfl, rfl⟩⟩
instance iD633x2 : Fld Tryz.prog 633 2 2 630 := ⟨⟨_, _, Tryz.underlying633, rfl, rfl, rfl⟩⟩
instance iD633x3 : Fld Tryz.prog 633 3 3 423 := ⟨⟨_, _, Tryz.underlying633, rfl, rfl, rfl⟩⟩
instance iD633x4 : Fld Tryz.prog 633 4 4 423 := ⟨⟨_, _, Tryz.underlying633, rfl, rfl, rfl⟩⟩
instance iD633x5 : Fld Tryz.prog 633 5 5 631 := ⟨⟨_, _, Tryz.underlying633, rfl, rfl, rfl⟩⟩
instance iU656 : Und Tryz.prog 656 (.slice 93) := ⟨Tryz.underlying656⟩
instance iI656 : Inf Tryz.prog 656 (.slice none 0 0) 1 24 := ⟨by kernel_rfl⟩
instance iD661x1 : Fld Tryz.prog 661 1 1 201 := ⟨⟨_, _, Tryz.underlying661, rfl, rfl, rfl⟩⟩
instance iE58 : Ent Tryz.prog 58 := Ent.of Tryz.func58 (by kernel_rfl) (by kernel_rfl)
instance iE74 : Ent Tryz.prog 74 := Ent.of Tryz.func74 (by kernel_rfl) (by kernel_rfl)
instance iE95 : Ent Tryz.prog 95 := Ent.of Tryz.func95 (by kernel_rfl) (by kernel_rfl)
instance iE108 : Ent Tryz.prog 108 := Ent.of Tryz.func108 (by kernel_rfl) (by kernel_rfl)
instance iE109 : Ent Tryz.prog 109 := Ent.of Tryz.func109 (by kernel_rfl) (by kernel_rfl)
instance iE160 : Ent Tryz.prog 160 := Ent.of Tryz.func160 (by kernel_rfl) (by kernel_rfl)
instance iE178 : Ent Tryz.prog 178 := Ent.of Tryz.func178 (by kernel_rfl) (by kernel_rfl)
instance iE179 : Ent Tryz.prog 179 := Ent.of Tryz.func179 (by kernel_rfl) (by kernel_rfl)
instance iE190 : Ent Tryz.prog 190 := Ent.of Tryz.func190 (by kernel_rfl) (by kernel_rfl)
instance iE209 : Ent Tryz.prog 209 := Ent.of Tryz.func209 (by kernel_rfl) (by kernel_rfl)
instance iE271 : Ent Tryz.prog 271 := Ent.of Tryz.func271 (by kernel_rfl) (by kernel_rfl)
instance iE313 : Ent Tryz.prog 313 := Ent.of Tryz.func313 (by kernel_rfl) (by kernel_rfl)
instance iE318 : Ent Tryz.prog 318 := Ent.of Tryz.func318 (by kernel_rfl) (by kernel_rfl)
instance iE340 : Ent Tryz.prog 340 := Ent.of Tryz.func340 (by kernel_rfl) (by kernel_rfl)
instance iE369 : Ent Tryz.prog 369 := Ent.of Tryz.func369 (by kernel_rfl) (by kernel_rfl)
instance iE370 : Ent Tryz.prog 370 := Ent.of Tryz.func370 (by kernel_rfl) (by kernel_rfl)
instance iE371 : Ent Tryz.prog 371 := Ent.of Tryz.func371 (by kernel_rfl) (by kernel_rfl)
instance iE375 : Ent Tryz.prog 375 := Ent.of Tryz.func375 (by kernel_rfl) (by kernel_rfl)
instance iE381 : Ent Tryz.prog 381 := Ent.of Tryz.func381 (by kernel_rfl) (by kernel_rfl)
instance iE428 : Ent Tryz.prog 428 := Ent.of Tryz.func428 (by kernel_rfl) (by kernel_rfl)
instance iE429 : Ent Tryz.prog 429 := Ent.of Tryz.func429 (by kernel_rfl) (by kernel_rfl)
instance iE430 : Ent Tryz.prog 430 := Ent.of Tryz.func430 (by kernel_rfl) (by kernel_rfl)
instance iE490 : Ent Tryz.prog 490 := Ent.of Tryz.func490 (by kernel_rfl) (by kernel_rfl)
instance iE535 : Ent Tryz.prog 535 := Ent.of Tryz.func535 (by kernel_rfl) (by kernel_rfl)
instance iE548 : Ent Tryz.prog 548 := Ent.of Tryz.func548 (by kernel_rfl) (by kernel_rfl)
end Go.Proofs.YtoafcnecjgnbmaaGreatDoor.H

namespace Go.Proofs.YtoafcnecjgnbmaaGreatDoor.H
open Go.RowKit
variable {M : Option (Option Nat)} {P : Program} {ops : Array Oper} {Q : Post} {rest : List Oper} {f : Fr} {w : World}

end Go.Proofs.YtoafcnecjgnbmaaGreatDoor.H

namespace Go.Proofs.YtoafcnecjgnbmaaGreatDoor.H
open Go.RowKit
section
variable {M : Option (Option Nat)} {P : Program} {ops : Array Oper} {Q : Post} {rest : List Oper} {f : Fr} {w : World} {d : Nat} {ty : TypeId} {pos : String} {af : Array Edge}

theorem spot_ptr {w : World} {sz : Nat} {v : Value} {n : Nat} {xs : List Value} (hs : Sl w sz v n xs) (hn : 0 < n) (k : Nat) : ∃ g o, Value.spot v k = ⟨g, o, none⟩ ∧ ∀ j, Value.spot v (k + j) = ⟨g, o + j, none⟩ := by
  rcases hs.2.2 with ⟨_, rfl, h⟩ | ⟨g, off, cap, cur, e', fz, rfl, _⟩
  · omega
  · refine ⟨g, off + k, ?_, fun j => ?_⟩
    · simp [Value.spot, addr_add]
    · simp only [Value.spot, addr_add]; congr 1; omega

end
end Go.Proofs.YtoafcnecjgnbmaaGreatDoor.H

namespace Go.Proofs.YtoafcnecjgnbmaaGreatDoor.H
open Go.RowKit
section
variable {M : Option (Option Nat)} {P : Program} {ops : Array Oper} {Q : Post} {rest : List Oper} {f : Fr} {w : World} {d : Nat} {ty : TypeId} {pos : String} {af : Array Edge}

/-- What append may go on from: a row of the call's own, or a slice that is full. row: the block that may be written. -/
def Ap (w : World) (base : Nat) (e : TypeId) (sz : Nat) (v : Value) (n : Nat) (xs : List Value) (row : Option Nat) : Prop :=
  (w.ownsRow base e sz v n xs ∧ row = v.ownBlock) ∨ (Sl w sz v n xs ∧ (∃ p, v = .slice p n n) ∧ row = none)
def LiesR (w : World) (row : Option Nat) (v' : Value) : Prop := ∀ g, v'.ownBlock = some g → row = some g ∨ w.heap.size ≤ g
end
end Go.Proofs.YtoafcnecjgnbmaaGreatDoor.H

namespace Go.Proofs.YtoafcnecjgnbmaaGreatDoor.H
open Go.RowKit
section
variable {M : Option (Option Nat)} {P : Program} {ops : Array Oper} {Q : Post} {rest : List Oper} {f : Fr} {w : World} {d : Nat} {ty : TypeId} {pos : String} {af : Array Edge}

end
end Go.Proofs.YtoafcnecjgnbmaaGreatDoor.H

namespace Go.Proofs.YtoafcnecjgnbmaaGreatDoor.H
open Go.RowKit
section
variable {M : Option (Option Nat)} {P : Program} {ops : Array Oper} {Q : Post} {rest : List Oper} {f : Fr} {w : World} {d : Nat} {ty : TypeId} {pos : String} {af : Array Edge}
theorem Y.loadN {t : TypeId} {n : Nat} [h : Many P t n] {x : Operand} {a : Addr} {cs : List Value} (hx : f.ev x = some (.pointer (some a))) (hl : cs.length = n) (hc : ∀ j v, cs[j]? = some v → w.cell? (a.add j) = some v) : Yd P f (op1 d (.load t x) ty pos af) (.agg cs.toArray) w := fun a' ha => by
  have hr := run_loadCells_list (P := P) w a cs hc
  rw [hl] at hr
  simp [execOp, ha.eval hx, Instr.loadAt, Instr.sureAddr, loadVar, h.agg, h.size, hr]
end
end Go.Proofs.YtoafcnecjgnbmaaGreatDoor.H

namespace Go.Proofs.YtoafcnecjgnbmaaGreatDoor.H
open Go.RowKit
section
variable {M : Option (Option Nat)} {P : Program} {ops : Array Oper} {Q : Post} {rest : List Oper} {f : Fr} {w : World} {d : Nat} {ty : TypeId} {pos : String} {af : Array Edge}

theorem Gt.slice {t : TypeId} {x : Operand} {a b c : Option Operand} (h : RW M P ops Q ({ dst := some d, op := .slice t x a b c, type := ty, pos := pos, after := af, guard := none } :: rest) f w) : RW M P ops Q ({ dst := some d, op := .slice t x a b c, type := ty, pos := pos, after := af, guard := none } :: rest) f w := h
theorem Gt.call {c : Call} (h : RW M P ops Q ({ dst := some d, op := .call c, type := ty, pos := pos, after := af, guard := none } :: rest) f w) : RW M P ops Q ({ dst := some d, op := .call c, type := ty, pos := pos, after := af, guard := none } :: rest) f w := h

theorem Y.max2 {x y : Operand} {k k2 : IntKind} {a b : Int} {ts : Array TypeId} (hx : f.ev x = some (.int k a)) (hy : f.ev y = some (.int k2 b)) : Yd P f (op1 d (.call { callee := .builtin .max, args := #[x, y], argTypes := ts }) ty pos af) (.int k (max a b)) w := by
  intro s hs
  have h := run_max_int2 (P := P) (w := w) ts ty k k2 a b
  have e : (if b > a then b else a) = max a b := by split <;> omega
  rw [e] at h
  simp [execOp, resolve, invoke, builtin, hs.eval hx, hs.eval hy, h]
theorem Y.min2 {x y : Operand} {k k2 : IntKind} {a b : Int} {ts : Array TypeId} (hx : f.ev x = some (.int k a)) (hy : f.ev y = some (.int k2 b)) : Yd P f (op1 d (.call { callee := .builtin .min, args := #[x, y], argTypes := ts }) ty pos af) (.int k (min a b)) w := by
  intro s hs
  have h := run_min_int2 (P := P) (w := w) ts ty k k2 a b
  have e : (if b < a then b else a) = min a b := by split <;> omega
  rw [e] at h
  simp [execOp, resolve, invoke, builtin, hs.eval hx, hs.eval hy, h]
/-- A function that the model itself gives. -/
theorem Y.ext {k : FuncId} {xs : List Operand} {l : List Value} {at' : Array TypeId} {v : Value} (hv : f.evs xs = some l) (hc : (callFunc k l.toArray).run P w = .ok (.value v) w) : Yd P f (op1 d (.call { callee := .value (.func k), args := xs.toArray, argTypes := at' }) ty pos af) v w := fun a ha => by
  simp [execOp, resolve, Act.eval, Deferred.ofValue, invoke, ha.evs xs l hv, hc]

theorem madeCells_one {z : Value} (n : Nat) : (madeCells #[z] n).toList = List.replicate n z := by
  apply List.ext_getElem?
  intro i
  simp only [madeCells, Array.toList_map, Array.toList_range, List.getElem?_map, List.getElem?_replicate]
  by_cases h : i < n <;> simp [h, Nat.mod_one]

/-- An element of a row of the call's own is written. -/
theorem RW.setEl {t e t2 : TypeId} {ty2 : TypeId} {pos2 : String} {af2 : Array Edge} {z : Value} {b : Nat} [ht : Und P t (.slice e)] [Inf P e z 1 b] [One P t2] {x y q : Operand} {k : IntKind} {v u : Value} {i : Int} {base n : Nat} {xs : List Value} (hx : f.ev x = some v) (hy : f.ev y = some (.int k i)) (hd : Nat.blt d f.n = true)
    (hs : w.ownsRow base e 1 v n xs) (h0 : 0 ≤ i) (h1 : i < n) (hu : ∀ p, (f.put d p).ev q = some u) (hu1 : u.oneCell' = true)
    (kk : ∀ p w', w'.ownsRow base e 1 v n (xs.set i.toNat u) → Kept (fun k => v.ownBlock = some k) w w' → RW M P ops Q rest (f.put d p) w') : RW M P ops Q (op1 d (.indexAddr t x y) ty pos af :: op0 (.store t2 (.tmp d) q) ty2 pos2 af2 :: rest) f w := by
  have hlen := hs.1
  rcases hs.2 with ⟨rfl, h⟩ | ⟨g, cap, cur, rfl, hb, hg, hn, hm, hc, htk⟩
  · omega
  have hsp : Value.spot (.slice (some ⟨g, 0, none⟩) n cap) (i.toNat * 1) = ⟨g, i.toNat, none⟩ := by simp only [Value.spot, addr_add]; congr 1; omega
  refine RW.y (Y.idx hx hy (Sl.of_own hs) h0 h1) hd ?_
  rw [hsp]
  refine RW.storeB (g := g) (j := i.toNat) (by simp [Fr.ev, Fr.put, look]) (hu _) hu1 hg (by omega) (fun w' hw' hk => kk _ w' ?_ (hk.mono fun k h => by simp [Value.ownBlock, h]))
  refine ⟨by rw [List.length_set]; exact hlen, .inr ⟨g, cap, _, rfl, hb, hw', hn, hm, by simpa using hc, ?_⟩⟩
  rw [Array.toList_setIfInBounds, List.take_set, htk]
end
end Go.Proofs.YtoafcnecjgnbmaaGreatDoor.H

namespace Go.Proofs.YtoafcnecjgnbmaaGreatDoor.H
open Go.RowKit

/-- J abides a change of blocks of S, and new blocks. -/
def Abid {β : Type} (S : Nat → Prop) (J : β → World → Prop) : Prop := ∀ s W W', J s W → Kept S W W' → J s W'
/-- The blocks of S lie as they lay. -/
def Same (S : Nat → Prop) (W W' : World) : Prop := W.heap.size ≤ W'.heap.size ∧ ∀ k, S k → W'.heap[k]? = W.heap[k]?
theorem Same.of {S T : Nat → Prop} {W W' : World} (h : Kept T W W') (hS : ∀ k, S k → k < W.heap.size ∧ ¬ T k) : Same S W W' := ⟨h.size, fun k hk => h.block k (hS k hk).1 (hS k hk).2⟩
/-- What an iterator that yields the list xs does; S: the blocks that are its own, from one round to the next. -/
def SeqC {α : Type} (P : Program) (gf : Nat) (cap : List Value) (enc : α → List Value) (S : Nat → Prop) (Pre : World → Prop) (xs : List α) : Prop :=
  ∀ (l : Nat) (J Jx : List α → World → Prop) (W : World), Pre W → Abid S J → Abid S Jx →
    (∀ pre x W1, J pre W1 → (pre ++ [x]) <+: xs → YieldAt Fence.wide 0 P l (enc x).toArray W1 fun e W' =>
      (e = .returned (.bool true) ∧ J (pre ++ [x]) W' ∧ Same S W1 W') ∨ (e = .returned (.bool false) ∧ Jx (pre ++ [x]) W')) →
    J [] W → Calls P gf (.func (.yield l) #[] #[] :: cap).toArray W fun e W' => (∃ v, e = .returned v) ∧ (J xs W' ∨ ∃ pre, Jx pre W')

def Fr.puts (f : Fr) : List Nat → List Value → Fr
  | p :: ps, v :: vs => (f.put p v).puts ps vs
  | _, _ => f

theorem Ag.puts : ∀ (ps : List Nat) (vs : List Value) {f : Fr} {tmps : Array Value} (_ : Ag f { tmps := tmps, defers := [] }), (∀ p ∈ ps, Nat.blt p f.n = true) →
    Ag (f.puts ps vs) { tmps := (ps.zip vs).foldl (fun t (x : Nat × Value) => t.setIfInBounds x.1 x.2) tmps, defers := [] } := by
  intro ps
  induction ps with
  | nil => intro vs f tmps h _; cases vs <;> exact h
  | cons p ps ih =>
    intro vs f tmps h hp
    cases vs with
    | nil => exact h
    | cons v vs => exact ih vs (f := f.put p v) (h.put v (hp p (by simp))) fun q hq => hp q (List.mem_cons_of_mem _ hq)

/-- How a round's body may be left. -/
def RQ {α : Type} (S : Nat → Prop) (I : List α → World → Prop) (Ix : Option Nat → List α → World → Prop) (xs : List α) (W : World) : Post
  | .normal, _, W' => Same S W W' ∧ I xs W'
  | .ret, _, W' => Same S W W' ∧ Ix none xs W'
  | .exit k, _, W' => Same S W W' ∧ Ix (some k) xs W'
  | _, _, _ => False

def jumpOf : Option Nat → Code
  | none => .ret
  | some k => .exit k
abbrev markOf (D : Nat) : Deferred := { target := .collected D, args := #[] }

section
variable {P : Program} {Q : Post} {cs : List Code} {f : Fr} {w : World}
theorem kept_putObj (W : World) (l : Nat) (o : Obj) : Kept (fun k => k = l) W (W.putObj l o) :=
  ⟨rfl, rfl, rfl, by simp, fun k _ hk => World.putObj_heap_other hk⟩

/-- A call of yield. -/
theorem RW.yield {r : Option Nat} {ops : Array Oper} {rest : List Oper} {d : Nat} {ty : TypeId} {pos : String} {af : Array Edge} {l : Nat} {x : Operand} {xs : List Operand} {vs : List Value} {at' : Array TypeId} {R : Ending → World → Prop}
    (hf : f.ev x = some (.func (.yield l) #[] #[])) (hv : f.evs xs = some vs) (hd : Nat.blt d f.n = true) (h : YieldAt Fence.wide 0 P l vs.toArray w R)
    (hq : ∀ e w', R e w' → match e with
      | .returned v => RW (some r) P ops Q rest (f.put d v) w'
      | .panicked chain => Q (.panic chain) f w'
      | .outgrown => False) : RW (some r) P ops Q (op1 d (.call { callee := .value x, args := xs.toArray, argTypes := at' }) ty pos af :: rest) f w := by
  intro a ha
  obtain ⟨fn, tmps, assign, body, hy, hr⟩ := h
  refine lwp_plain rfl fun K hK => ?_
  have hrun : (execOp a.eval (op1 d (.call { callee := .value x, args := xs.toArray, argTypes := at' }) ty pos af)).run P w = .ok (.round l fn tmps assign body) w := by
    have h1 := ha.eval hf
    have h2 := ha.evs xs vs hv
    simp [execOp, resolve, h1, Deferred.ofValue, h2, invoke, hy]
  refine ⟨fun _ _ => trivial, ?_⟩
  rw [show (Rd1 r).round = r from rfl, Oper.semAt_eq r _ _ (by intro c; simp), hrun, Oper.uponIn_round]
  refine ⟨fun c => by simp [Fence.wide] at c, (show RoundIn (Rd1 r) (0 - 1) P l fn tmps assign body w _ from hr).mono fun e w' hR => ?_⟩
  have q := hq e w' hR
  cases e with
  | returned v => exact hK _ _ (q _ (ha.put v hd))
  | panicked ch => exact ⟨f, ha, q⟩
  | outgrown => exact q.elim

/-- The entry of a function by the rules of a fence. -/
theorem enterI {k n : Nat} {fn : Func} {c : Code} {l : List Value} {R : Ending → World → Prop} (hf : P.funcs[k]? = some fn) (hn : fn.ntmps = n) (hb : fn.body = some c)
    (hl : Nat.ble l.length n = true) (h : CL (some none) P (FQ P fn R) [c] ⟨n, [], args 0 l⟩ w) : Calls P k l.toArray w R := by
  refine calls_of_wp hf hb ((wpIn_wide (n := 0)).1 (wpIn_mono (show Code.wpIn Fence.wide 0 P c _ _ w from CL.one h _ ⟨?_, rfl, ?_⟩) fun e a w q => ?_))
  · have := ble_le hl
    simp [hn]; omega
  · intro t v hv
    obtain ⟨_, h2⟩ := look_args l 0 t v hv
    rw [Nat.sub_zero] at h2
    have hlt : t < l.length := (List.getElem?_eq_some_iff.1 h2).1
    simp only [Array.getD_eq_getD_getElem?]
    rw [Array.getElem?_append_left (by simpa using hlt)]
    simp [h2]
  · obtain ⟨f, hf', q⟩ := q
    cases e with
    | normal => obtain ⟨hd, v, hv, hR⟩ := q; exact ⟨hf'.defers.trans hd, v, hv a hf', hR⟩
    | ret => obtain ⟨hd, v, hv, hR⟩ := q; exact ⟨hf'.defers.trans hd, v, hv a hf', hR⟩
    | panic ch => exact ⟨hf'.defers.trans q.1, q.2⟩
    | exit k => exact q.elim
    | goto l => exact q.elim
    | outgrown => exact q.elim

/-- The end of a body that may hold a range over a function: no deferred calls; or the one mark. -/
def MQ (P : Program) (fn : Func) (R : Ending → World → Prop) : Post
  | .normal, f, w | .ret, f, w =>
    (f.ds = [] ∧ ∃ v, (∀ a, Ag f a → (results fn a.tmps).run P w = .ok v w) ∧ R (.returned v) w) ∨
    ∃ D, f.ds = [markOf D] ∧ w.heap[D]? = some (.deferred (some [])) ∧ ∀ w', Kept (fun k => k = D) w w' → ∃ v, (∀ a, Ag f a → (results fn a.tmps).run P w' = .ok v w') ∧ R (.returned v) w'
  | .panic chain, f, w => f.ds = [] ∧ R (.panicked chain) w
  | _, _, _ => False
theorem enterM {k n : Nat} {fn : Func} {c : Code} {l : List Value} {R : Ending → World → Prop} (hf : P.funcs[k]? = some fn) (hn : fn.ntmps = n) (hb : fn.body = some c)
    (hl : Nat.ble l.length n = true) (h : CL none P (MQ P fn R) [c] ⟨n, [], args 0 l⟩ w) : Calls P k l.toArray w R := by
  refine callsIn_wide.1 (callsIn_of_wp_marks (n := 0) (F := Fence.wide) hf hb trivial (wpIn_mono (wpIn_wide.2 (show Code.wp P c _ _ w from CL.one h _ ⟨?_, rfl, ?_⟩)) fun e a w q => ?_))
  · have := ble_le hl
    simp [hn]; omega
  · intro t v hv
    obtain ⟨_, h2⟩ := look_args l 0 t v hv
    rw [Nat.sub_zero] at h2
    have hlt : t < l.length := (List.getElem?_eq_some_iff.1 h2).1
    simp only [Array.getD_eq_getD_getElem?]
    rw [Array.getElem?_append_left (by simpa using hlt)]
    simp [h2]
  · obtain ⟨f, hf', q⟩ := q
    have ret : MQ P fn R .ret f w → LeavesInM Fence.wide 0 P fn a.tmps R a.defers .returning w := by
      rintro (⟨hd, v, hv, hR⟩ | ⟨D, hd, hD, hr⟩)
      · rw [hf'.defers, hd]
        exact ⟨v, hv a hf', hR⟩
      · rw [hf'.defers, hd]
        obtain ⟨v, hv, hR⟩ := hr _ (kept_putObj w D (.deferred none))
        exact ⟨by simp, .inl ⟨D, _, rfl, run_takeDeferred hD, ⟨v, hv a hf', hR⟩⟩⟩
    cases e with
    | normal => exact ret q
    | ret => exact ret q
    | panic ch =>
      show LeavesInM Fence.wide 0 P fn a.tmps R a.defers (.panicking ch) w
      rw [hf'.defers, q.1]
      exact q.2
    | exit k => exact q.elim
    | goto l => exact q.elim
    | outgrown => exact q.elim
end
end Go.Proofs.YtoafcnecjgnbmaaGreatDoor.H

namespace Go.Proofs.YtoafcnecjgnbmaaGreatDoor.H
open Go.RowKit
section
variable {M : Option (Option Nat)} {P : Program} {ops : Array Oper} {Q : Post} {rest : List Oper} {f : Fr} {w : World} {d : Nat} {ty : TypeId} {pos : String} {af : Array Edge}
section arith
variable {t yt : TypeId} {x y : Operand} {a b : Int} {k : IntKind}
end arith
section same
variable {t yt : TypeId} {x y : Operand}
theorem Y.nesS {a : List UInt8} (hx : f.ev x = some (.string (B a))) (hy : f.ev y = some (.string (B a))) : Yd P f (op1 d (.binOp .neq t x y yt) ty pos af) (.bool false) w := by
  have := Y.nes (P := P) (w := w) (d := d) (t := t) (yt := yt) (ty := ty) (pos := pos) (af := af) hx hy
  simpa using this
end same
end
end Go.Proofs.YtoafcnecjgnbmaaGreatDoor.H

namespace Go.Proofs.YtoafcnecjgnbmaaGreatDoor.H
open Go.RowKit
/-- What a list of results reads as. -/
def RS (P : Program) (f : Fr) (w : World) : List ResultVar → List Value → Prop
  | [], [] => True
  | .tmp t :: rs, v :: vs => look f.e t = some v ∧ RS P f w rs vs
  | .cell t u :: rs, v :: vs => (∃ p, look f.e t = some (.pointer (some p)) ∧ (loadVar u p).run P w = .ok v w) ∧ RS P f w rs vs
  | _, _ => False
section
variable {P : Program} {f : Fr} {w : World}
abbrev rsM (tmps : Array Value) (r : ResultVar) : Sem Value := match r with
  | .tmp t => pure (tmps.getD t undef)
  | .cell t u => do loadVar u (← asAddr (tmps.getD t undef))
theorem rs_run {a : Act} (ha : Ag f a) : ∀ (rs : List ResultVar) (vs : List Value), RS P f w rs vs → (rs.mapM (rsM a.tmps)).run P w = .ok vs w := by
  intro rs
  induction rs with
  | nil => intro vs h; cases vs with | nil => rfl | cons => exact h.elim
  | cons r rs ih =>
    intro vs h
    cases vs with
    | nil => cases r <;> exact h.elim
    | cons v vs =>
      have h1 : (rsM a.tmps r).run P w = .ok v w := by
        cases r with
        | tmp t => simp only [rsM]; rw [ha.slot t v h.1]; rfl
        | cell t u =>
          obtain ⟨⟨p, hp, hl⟩, h2⟩ := h
          simp only [rsM]
          rw [ha.slot t _ hp]
          simp [asAddr, hl]
      have h2 := ih vs (by cases r <;> exact h.2)
      simp only [List.mapM_cons, Sem.run_bind, h1, Result.andThen, h2]
      rfl
theorem results_list {fn : Func} {rs : List ResultVar} {vs : List Value} (hr : fn.results = rs.toArray) (h : RS P f w rs vs) {a : Act} (ha : Ag f a) : (results fn a.tmps).run P w = .ok (if h : vs.toArray.size = 1 then vs.toArray[0] else .tuple vs.toArray) w := by
  have h2 := rs_run ha rs vs h
  have e : (fn.results.mapM (rsM a.tmps)).run P w = .ok vs.toArray w := by
    rw [hr, List.mapM_toArray]
    show (List.toArray <$> rs.mapM (rsM a.tmps)).run P w = _
    rw [map_eq_pure_bind, Sem.run_bind, h2]
    rfl
  unfold results
  rw [Sem.run_bind]
  exact (congrArg (fun (r : Result (Array Value)) => r.andThen fun vs w => (pure (if h : vs.size = 1 then vs[0] else Value.tuple vs) : Sem Value).run P w) e).trans rfl
/-- The end of a body, whatever the results' form. -/
theorem FQ.res {fn : Func} {R : Ending → World → Prop} {rs : List ResultVar} {vs : List Value} (hr : fn.results = rs.toArray) (hd : f.ds = []) (h : RS P f w rs vs) (hn : Nat.beq vs.length 1 = false) (hR : R (.returned (.tuple vs.toArray)) w) : FQ P fn R .ret f w :=
  ⟨hd, _, fun a ha => by rw [results_list hr h ha, dif_neg (by intro c; rw [List.size_toArray] at c; rw [c] at hn; cases hn)], hR⟩
end
end Go.Proofs.YtoafcnecjgnbmaaGreatDoor.H

namespace Go.Proofs.YtoafcnecjgnbmaaGreatDoor.H
open Go.RowKit
section
variable {M : Option (Option Nat)} {P : Program} {ops : Array Oper} {Q : Post} {rest : List Oper} {f : Fr} {w : World} {d : Nat} {ty : TypeId} {pos : String} {af : Array Edge}
theorem Y.loadBlock {t : TypeId} {n : Nat} [h : Many P t n] {x : Operand} {g : Nat} {c : Array Value} {e : TypeId} {fz : Nat × Nat} (hx : f.ev x = some (.pointer (some ⟨g, 0, none⟩))) (hb : w.heap[g]? = some (.cells c e fz)) (hl : Nat.beq c.size n = true) :
    Yd P f (op1 d (.load t x) ty pos af) (.agg c) w := by
  have := Y.loadN (P := P) (f := f) (w := w) (d := d) (ty := ty) (pos := pos) (af := af) (t := t) (cs := c.toList) hx (by simpa using Nat.eq_of_beq_eq_true hl) (fun j v hv => by
    rw [addr_add, Nat.zero_add, cell_row (off := 0) hb]
    simpa using hv)
  simpa using this
/-- A variable of several cells written whole. -/
theorem RW.storeBlock {t : TypeId} {n : Nat} [h : Many P t n] {x y : Operand} {g : Nat} {u : Array Value} {c : Array Value} {e : TypeId} (hx : f.ev x = some (.pointer (some ⟨g, 0, none⟩))) (hy : f.ev y = some (.agg u)) (hu : Nat.beq u.size n = true) (h1 : ∀ z ∈ u.toList, z.oneCell' = true)
    (hb : w.heap[g]? = some (.cells c e (0, 0))) (hj : Nat.beq c.size n = true)
    (k : ∀ w', w'.heap[g]? = some (.cells u e (0, 0)) → Kept (fun k => k = g) w w' → RW M P ops Q rest f w') : RW M P ops Q (op0 (.store t x y) ty pos af :: rest) f w := by
  have hu' := Nat.eq_of_beq_eq_true hu
  have hj' := Nat.eq_of_beq_eq_true hj
  refine RW.storeN (j := 0) (fun w => h.size w) hx hy (by simpa [Value.cells] using hu') (by simpa [Value.cells] using h1) hb (by omega) fun w' hb' hk => k w' ?_ hk
  rw [hb']
  have : c.toList.drop (0 + n) = [] := by rw [List.drop_eq_nil_iff]; simp; omega
  rw [this]
  simp [Value.cells]
end
end Go.Proofs.YtoafcnecjgnbmaaGreatDoor.H

