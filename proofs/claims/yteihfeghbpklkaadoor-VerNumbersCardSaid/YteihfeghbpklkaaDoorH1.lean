/-
  A small calculus over the kit's rules: frames as short lists of slots, code as a list that is left to do, one rule an operation. Nothing here speaks of one program.
-/
import Derived.WalkKit
import Derived.Lib.Hide
import Derived.TacticsIn
import Derived.RangeFuncCalls
import Derived.OwnWalkIn
namespace Go.Proofs.YteihfeghbpklkaaDoor.H
open Go.RowKit

/-- A frame: how many slots there are, the deferred calls, and what is known of some slots (the first entry of a slot counts). -/
structure Fr where
  n : Nat
  ds : List Deferred
  e : List (Nat × Value)

def look : List (Nat × Value) → Nat → Option Value
  | [], _ => none
  | (k, v) :: r, t => match Nat.beq k t with
    | true => some v
    | false => look r t

def Fr.ev (f : Fr) : Operand → Option Value
  | .tmp t => look f.e t
  | .const v => some v
  | .global g => some (.pointer (some ⟨g, 0, none⟩))
  | .func k => some (.func (.func k) #[] #[])

def Fr.put (f : Fr) (d : Nat) (v : Value) : Fr := ⟨f.n, f.ds, (d, v) :: f.e⟩

structure Ag (f : Fr) (a : Act) : Prop where
  size : a.tmps.size = f.n
  defers : a.defers = f.ds
  slot : ∀ t v, look f.e t = some v → a.tmps.getD t undef = v

theorem Ag.eval {f : Fr} {a : Act} (h : Ag f a) {x : Operand} {v : Value} (hx : f.ev x = some v) : a.eval x = v := by
  cases x with
  | tmp t => exact h.slot t v hx
  | const u => simpa [Fr.ev, Act.eval] using hx
  | global g => simpa [Fr.ev, Act.eval] using hx
  | func k => simpa [Fr.ev, Act.eval] using hx

theorem blt_lt {a b : Nat} (h : Nat.blt a b = true) : a < b := by simpa [Nat.blt_eq] using h
theorem ble_le {a b : Nat} (h : Nat.ble a b = true) : a ≤ b := by simpa [Nat.ble_eq] using h

theorem beq_ne {k t : Nat} (h : k ≠ t) : Nat.beq k t = false := by
  cases hb : Nat.beq k t with
  | false => rfl
  | true => exact absurd (Nat.eq_of_beq_eq_true hb) h

theorem beq_self (k : Nat) : Nat.beq k k = true := Nat.beq_refl k

theorem Ag.put {f : Fr} {a : Act} (h : Ag f a) {d : Nat} (v : Value) (hd : Nat.blt d f.n = true) : Ag (f.put d v) (a.put (some d) v) := by
  have hlt : d < a.tmps.size := by rw [h.size]; exact blt_lt hd
  refine ⟨by simp [Act.put, Fr.put, h.size], h.defers, fun t u hu => ?_⟩
  simp only [Fr.put, look] at hu
  by_cases hk : d = t
  · subst hk
    rw [beq_self] at hu
    cases hu
    simp [Act.put, hlt]
  · rw [beq_ne hk] at hu
    have := h.slot t u hu
    simp only [Act.put, Array.getD_eq_getD_getElem?] at this ⊢
    rw [Array.getElem?_setIfInBounds_ne hk]
    exact this

theorem Ag.put_none {f : Fr} {a : Act} (h : Ag f a) (v : Value) : Ag f (a.put none v) := h

/-- Fewer slots are known. -/
def keep (l : List Nat) (e : List (Nat × Value)) : List (Nat × Value) :=
  match l with
  | [] => []
  | t :: r => match look e t with
    | some v => (t, v) :: keep r e
    | none => keep r e

theorem look_keep (l : List Nat) (e : List (Nat × Value)) (t : Nat) (v : Value) (h : look (keep l e) t = some v) : look e t = some v := by
  induction l with
  | nil => simp [keep, look] at h
  | cons k r ih =>
    simp only [keep] at h
    cases hk : look e k with
    | none => rw [hk] at h; exact ih h
    | some u =>
      rw [hk] at h
      simp only [look] at h
      by_cases hkt : k = t
      · subst hkt; rw [beq_self] at h; simp only at h; rw [hk]; exact h
      · rw [beq_ne hkt] at h; exact ih h

theorem Ag.weaken {f : Fr} {a : Act} (h : Ag f a) {e' : List (Nat × Value)} (hs : ∀ t v, look e' t = some v → look f.e t = some v) : Ag ⟨f.n, f.ds, e'⟩ a :=
  ⟨h.size, h.defers, fun t v hv => h.slot t v (hs t v hv)⟩

abbrev Post := Exit → Fr → World → Prop

def lift (Q : Post) : Exit → Act → World → Prop := fun x a w => ∃ f, Ag f a ∧ Q x f w

/-- Where a code runs: none: on its own, by the plain rules; some r: by the rules of a fence (some none: on its own, too; some (some l): in a round of the range over a function that l records). -/
abbrev Rd1 (r : Option Nat) : Fence := { Fence.wide with round := r }
def cwp (M : Option (Option Nat)) (P : Program) (c : Code) (Q : Exit → Act → World → Prop) (a : Act) (w : World) : Prop := match M with
  | none => c.wp P Q a w
  | some r => c.wpIn (Rd1 r) 0 P Q a w
def lwp (M : Option (Option Nat)) (P : Program) (ops : Array Oper) (Q : Exit → Act → World → Prop) (l : List Oper) (a : Act) (w : World) : Prop := match M with
  | none => wpList P ops Q l a w
  | some r => wpListIn (Rd1 r) 0 P ops Q l a w
def owp (M : Option (Option Nat)) (P : Program) (o : Oper) (a : Act) (w : World) (K : Act → World → Prop) (Q : Exit → Act → World → Prop) : Prop := match M with
  | none => o.wp P a w K Q
  | some r => o.wpIn (Rd1 r) 0 P a w K Q

section base
variable {M : Option (Option Nat)} {P : Program} {Q Q' : Exit → Act → World → Prop} {a : Act} {w w' : World} {K : Act → World → Prop} {o : Oper} {ops : Array Oper} {rest : List Oper}
theorem cwp_mono {c : Code} (h : cwp M P c Q a w) (hq : ∀ x a w, Q x a w → Q' x a w) : cwp M P c Q' a w := by
  cases M with
  | none => exact wp_mono h hq
  | some r => exact Go.wpIn_mono h hq
theorem cwp_seq {x y : Code} (h : cwp M P x (Exit.then (cwp M P y Q) Q) a w) : cwp M P (.seq x y) Q a w := by
  cases M with
  | none => exact wp_seq h
  | some r => exact wpIn_seq h
theorem cwp_skip (h : Q .normal a w) : cwp M P .skip Q a w := by
  cases M with
  | none => exact wp_skip h
  | some r => exact wpIn_skip h
theorem cwp_ret (h : Q .ret a w) : cwp M P .ret Q a w := by
  cases M with
  | none => exact wp_ret h
  | some r => exact wpIn_ret h
theorem cwp_exit {k : Nat} (h : Q (.exit k) a w) : cwp M P (.exit k) Q a w := by
  cases M with
  | none => exact wp_exit h
  | some r => exact wpIn_exit h
theorem cwp_cond {c : Operand} {x y : Code} {t : Bool} (hc : a.eval c = .bool t) (h : cwp M P (if t then x else y) Q a w) : cwp M P (.cond c x y) Q a w := by
  cases M with
  | none => exact wp_cond hc h
  | some r => exact wpIn_cond hc h
theorem cwp_block {k : Nat} {c : Code} (h : cwp M P c (Exit.inBlock k Q) a w) : cwp M P (.block k c) Q a w := by
  cases M with
  | none => exact wp_block h
  | some r => exact wpIn_block h
theorem cwp_region {id : Nat} {l : List Oper} (h : lwp M P l.toArray Q l a w) : cwp M P (.region id l.toArray false) Q a w := by
  cases M with
  | none => exact wp_region_lit h
  | some r => exact wpIn_region_lit h
theorem lwp_nil (h : Q .normal a w) : lwp M P ops Q [] a w := by
  cases M with
  | none => exact h
  | some r => exact h
theorem lwp_plain (hg : o.guard = none) (h : ∀ K : Act → World → Prop, (∀ a w, lwp M P ops Q rest a w → K a w) → owp M P o a w K Q) : lwp M P ops Q (o :: rest) a w := by
  cases M with
  | none => exact wpList_plain hg h
  | some r => exact wpListIn_plain hg h
theorem not_defer {ρ : Operand → Value} {x : Next} (h : (execOp ρ o).run P w = .ok x w') (hx : ∀ d, x ≠ .defer d) : ∀ c, o.op ≠ .defer c := by
  intro c hc
  simp only [execOp, hc, Sem.run_bind] at h
  cases hr : (resolve ρ c o.type).run P w with
  | ok d w1 => rw [hr] at h; simp [Result.andThen] at h; exact hx _ h.1.symm
  | halt r w1 => rw [hr] at h; simp [Result.andThen] at h
theorem owp_val {v : Value} (hr : (execOp a.eval o).run P w = .ok (.value v) w') (k : K (a.put o.dst v) w') : owp M P o a w K Q := by
  cases M with
  | none => show o.wp P a w K Q; unfold Oper.wp; rw [hr]; exact k
  | some r =>
    refine ⟨fun _ _ => trivial, ?_⟩
    rw [show (Rd1 r).round = r from rfl, Oper.semAt_eq r _ _ (not_defer hr (fun _ c => by cases c)), hr]; exact k
theorem owp_skip (hr : (execOp a.eval o).run P w = .ok .skip w') (k : K (a.put o.dst undef) w') : owp M P o a w K Q := by
  cases M with
  | none => show o.wp P a w K Q; unfold Oper.wp; rw [hr]; exact k
  | some r =>
    refine ⟨fun _ _ => trivial, ?_⟩
    rw [show (Rd1 r).round = r from rfl, Oper.semAt_eq r _ _ (not_defer hr (fun _ c => by cases c)), hr]; exact k
theorem owp_panic {v : Value} (hd : ∀ c, o.op ≠ .defer c) (hr : (execOp a.eval o).run P w = .halt (.panic v) w') (k : Q (.panic [{ v, recovered := false }]) a w') : owp M P o a w K Q := by
  cases M with
  | none => show o.wp P a w K Q; unfold Oper.wp; rw [hr]; exact k
  | some r =>
    refine ⟨fun _ _ => trivial, ?_⟩
    rw [show (Rd1 r).round = r from rfl, Oper.semAt_eq r _ _ hd, hr]; exact k
theorem owp_enter {k : FuncId} {args : Array Value} (hr : (execOp a.eval o).run P w = .ok (.enter k args) w) {R : Ending → World → Prop} (h : Calls P k args w R)
    (hq : ∀ e w', R e w' → match e with
      | .returned v => K (a.put o.dst v) w'
      | .panicked chain => Q (.panic chain) a w'
      | .outgrown => False) : owp M P o a w K Q := by
  cases M with
  | none =>
    show o.wp P a w K Q
    unfold Oper.wp
    rw [hr, Oper.upon_enter]
    refine h.mono fun e w' hR => ?_
    have q := hq e w' hR
    cases e with
    | returned v => exact q
    | panicked ch => exact q
    | outgrown => exact q.elim
  | some r =>
    refine ⟨fun _ _ => trivial, ?_⟩
    rw [show (Rd1 r).round = r from rfl, Oper.semAt_eq r _ _ (not_defer hr (fun _ c => by cases c)), hr, Oper.uponIn_enter]
    refine ⟨fun c => by simp [Fence.wide] at c, (show CallsIn (Rd1 r) (0 - 1) P k args w _ from callsIn_wide.2 h).mono fun e w' hR => ?_⟩
    have q := hq e w' hR
    cases e with
    | returned v => exact q
    | panicked ch => exact q
    | outgrown => exact q.elim
theorem exists_min {p : Nat → Prop} : ∀ n, p n → ∃ n, p n ∧ ∀ m, p m → n ≤ m := by
  intro n
  induction n using Nat.strongRecOn with
  | _ n ih =>
    intro h
    by_cases hm : ∃ m, m < n ∧ p m
    · obtain ⟨m, h1, h2⟩ := hm; exact ih m h1 h2
    · exact ⟨n, h, fun m hp => Nat.le_of_not_lt fun c => hm ⟨m, c, hp⟩⟩
theorem cwp_loop {c : Code} (I : Nat → Act → World → Prop) (m : Nat) (h0 : I m a w)
    (round : ∀ m a w, I m a w → cwp M P c (Exit.then (fun a' w' => ∃ m', m' < m ∧ I m' a' w') Q) a w) : cwp M P (.loop c) Q a w := by
  classical
  have hμ : ∃ μ : Act → World → Nat, ∀ a w m, I m a w → I (μ a w) a w ∧ μ a w ≤ m := by
    refine ⟨fun a w => if h : ∃ m, I m a w then Classical.choose (exists_min (p := fun m => I m a w) _ (Classical.choose_spec h)) else 0, fun a w m hm => ?_⟩
    have h : ∃ m, I m a w := ⟨m, hm⟩
    simp only [dif_pos h]
    have := Classical.choose_spec (exists_min (p := fun m => I m a w) _ (Classical.choose_spec h))
    exact ⟨this.1, this.2 m hm⟩
  obtain ⟨μ, hμ⟩ := hμ
  have step : ∀ a w, (∃ m, I m a w) → cwp M P c (Exit.then (fun a' w' => (∃ m, I m a' w') ∧ μ a' w' < μ a w) Q) a w := by
    intro a w ⟨m, hm⟩
    refine cwp_mono (round _ a w (hμ a w m hm).1) fun x a' w' q => ?_
    cases x with
    | normal =>
      obtain ⟨m', h1, h2⟩ := q
      exact ⟨⟨m', h2⟩, Nat.lt_of_le_of_lt (hμ a' w' m' h2).2 h1⟩
    | _ => exact q
  cases M with
  | none => exact wp_loop (fun a w => ∃ m, I m a w) μ ⟨m, h0⟩ step
  | some r => exact wpIn_loop (fun a w => ∃ m, I m a w) μ ⟨m, h0⟩ step
end base

/-- The code c, begun in a frame of which f is known. -/
def CW (M : Option (Option Nat)) (P : Program) (Q : Post) (c : Code) (f : Fr) (w : World) : Prop := ∀ a, Ag f a → cwp M P c (lift Q) a w

def thenK (K : Fr → World → Prop) (Q : Post) : Post
  | .normal, f, w => K f w
  | x, f, w => Q x f w

/-- A list of codes, one behind the other. -/
def CL (M : Option (Option Nat)) (P : Program) (Q : Post) : List Code → Fr → World → Prop
  | [], f, w => Q .normal f w
  | c :: cs, f, w => CW M P (thenK (CL M P Q cs) Q) c f w

theorem CW.mono {M : Option (Option Nat)} {P : Program} {Q Q' : Post} {c : Code} {f : Fr} {w : World} (h : CW M P Q c f w) (hq : ∀ x f w, Q x f w → Q' x f w) : CW M P Q' c f w :=
  fun a ha => cwp_mono (h a ha) fun _ _ _ ⟨g, hg, q⟩ => ⟨g, hg, hq _ _ _ q⟩

theorem lift_then {K : Fr → World → Prop} {Q : Post} {x : Exit} {a : Act} {w : World} (h : lift (thenK K Q) x a w) :
    Exit.then (fun a w => ∃ f, Ag f a ∧ K f w) (lift Q) x a w := by
  obtain ⟨f, hf, h⟩ := h
  cases x <;> exact ⟨f, hf, h⟩

theorem CL.one {M : Option (Option Nat)} {P : Program} {Q : Post} {c : Code} {f : Fr} {w : World} (h : CL M P Q [c] f w) : CW M P Q c f w :=
  CW.mono h fun x _ _ q => by cases x <;> exact q

theorem CL.seq {M : Option (Option Nat)} {P : Program} {Q : Post} {x y : Code} {cs : List Code} {f : Fr} {w : World} (h : CL M P Q (x :: y :: cs) f w) : CL M P Q (.seq x y :: cs) f w := by
  intro a ha
  refine cwp_seq (cwp_mono (h a ha) fun e a' w' q => ?_)
  obtain ⟨f', hf', q⟩ := q
  cases e
  · exact q a' hf'
  all_goals exact ⟨f', hf', q⟩

theorem CL.skip {M : Option (Option Nat)} {P : Program} {Q : Post} {cs : List Code} {f : Fr} {w : World} (h : CL M P Q cs f w) : CL M P Q (.skip :: cs) f w :=
  fun _ ha => cwp_skip ⟨f, ha, h⟩

theorem CL.ret {M : Option (Option Nat)} {P : Program} {Q : Post} {cs : List Code} {f : Fr} {w : World} (h : Q .ret f w) : CL M P Q (.ret :: cs) f w :=
  fun _ ha => cwp_ret ⟨f, ha, h⟩

theorem CL.exit {M : Option (Option Nat)} {P : Program} {Q : Post} {cs : List Code} {k : Nat} {f : Fr} {w : World} (h : Q (.exit k) f w) : CL M P Q (.exit k :: cs) f w :=
  fun _ ha => cwp_exit ⟨f, ha, h⟩

theorem CL.cond {M : Option (Option Nat)} {P : Program} {Q : Post} {cs : List Code} {c : Operand} {x y : Code} {f : Fr} {w : World} {b : Bool} (hc : f.ev c = some (.bool b))
    (ht : b = true → CL M P Q (x :: cs) f w) (hf : b = false → CL M P Q (y :: cs) f w) : CL M P Q (.cond c x y :: cs) f w := by
  intro a ha
  cases b
  · exact cwp_cond (ha.eval hc) (hf rfl a ha)
  · exact cwp_cond (ha.eval hc) (ht rfl a ha)

theorem CL.condP {M : Option (Option Nat)} {P : Program} {Q : Post} {cs : List Code} {c : Operand} {x y : Code} {f : Fr} {w : World} {p : Prop} {_ : Decidable p} (hc : f.ev c = some (.bool (decide p)))
    (ht : p → CL M P Q (x :: cs) f w) (hf : ¬ p → CL M P Q (y :: cs) f w) : CL M P Q (.cond c x y :: cs) f w :=
  CL.cond hc (fun h => ht (of_decide_eq_true h)) (fun h => hf (of_decide_eq_false h))

theorem CL.condT {M : Option (Option Nat)} {P : Program} {Q : Post} {cs : List Code} {c : Operand} {x y : Code} {f : Fr} {w : World} (hc : f.ev c = some (.bool true))
    (ht : CL M P Q (x :: cs) f w) : CL M P Q (.cond c x y :: cs) f w := CL.cond hc (fun _ => ht) (fun h => by cases h)
theorem CL.condF {M : Option (Option Nat)} {P : Program} {Q : Post} {cs : List Code} {c : Operand} {x y : Code} {f : Fr} {w : World} (hc : f.ev c = some (.bool false))
    (hf : CL M P Q (y :: cs) f w) : CL M P Q (.cond c x y :: cs) f w := CL.cond hc (fun h => by cases h) (fun _ => hf)

/-- The exits of a block. -/
def blockQ (k : Nat) (K : Fr → World → Prop) (Q : Post) : Post
  | .normal, f, w => K f w
  | .exit j, f, w => match Nat.beq j k with
    | true => K f w
    | false => Q (.exit j) f w
  | x, f, w => Q x f w

theorem CL.block {M : Option (Option Nat)} {P : Program} {Q : Post} {cs : List Code} {k : Nat} {c : Code} {f : Fr} {w : World} (h : CL M P (blockQ k (CL M P Q cs) Q) [c] f w) : CL M P Q (.block k c :: cs) f w := by
  intro a ha
  refine cwp_block (cwp_mono (CL.one h a ha) fun e a' w' q => ?_)
  obtain ⟨f', hf', q⟩ := q
  cases e with
  | exit j =>
    simp only [blockQ] at q
    simp only [Exit.inBlock]
    by_cases hjk : j = k
    · subst hjk; rw [beq_self] at q; rw [if_pos rfl]; exact ⟨f', hf', q⟩
    · rw [beq_ne hjk] at q; rw [if_neg hjk]; exact ⟨f', hf', q⟩
  | _ => exact ⟨f', hf', q⟩

/-- A loop: what holds at each round's head, of a frame and a world; what each round lowers. -/
theorem CL.loop {M : Option (Option Nat)} {P : Program} {Q : Post} {cs : List Code} {c : Code} {f : Fr} {w : World} (I : Nat → Fr → World → Prop) (m : Nat) (h0 : I m f w)
    (round : ∀ m f w, I m f w → CL M P (thenK (fun f' w' => ∃ m', m' < m ∧ I m' f' w') Q) [c] f w) : CL M P Q (.loop c :: cs) f w := by
  intro a ha
  refine cwp_loop (fun m a w => ∃ f, Ag f a ∧ I m f w) m ⟨f, ha, h0⟩ fun m a w ⟨f, hf, hI⟩ => ?_
  refine cwp_mono (CL.one (round m f w hI) a hf) fun x a' w' q => ?_
  obtain ⟨f', hf', q⟩ := q
  cases x with
  | normal => obtain ⟨m', h1, h2⟩ := q; exact ⟨m', h1, f', hf', h2⟩
  | _ => exact ⟨f', hf', q⟩

/-- What holds behind a piece of code; then what follows. -/
theorem CL.cut {M : Option (Option Nat)} {P : Program} {Q : Post} {cs : List Code} {c : Code} {f : Fr} {w : World} (K : Fr → World → Prop) (h : CL M P (thenK K Q) [c] f w) (hk : ∀ f w, K f w → CL M P Q cs f w) : CL M P Q (c :: cs) f w :=
  CW.mono (CL.one h) fun x f w q => by cases x <;> first | exact hk f w q | exact q

theorem CL.weak {M : Option (Option Nat)} {P : Program} {Q : Post} {cs : List Code} {f : Fr} {w : World} (l : List Nat) (h : CL M P Q cs ⟨f.n, f.ds, keep l f.e⟩ w) (hc : cs ≠ []) : CL M P Q cs f w := by
  cases cs with
  | nil => exact absurd rfl hc
  | cons c cs => exact fun a ha => h a (ha.weaken (look_keep l f.e))

/-- The end of a body. -/
def FQ (P : Program) (fn : Func) (R : Ending → World → Prop) : Post
  | .normal, f, w | .ret, f, w => f.ds = [] ∧ ∃ v, (∀ a, Ag f a → (results fn a.tmps).run P w = .ok v w) ∧ R (.returned v) w
  | .panic chain, f, w => f.ds = [] ∧ R (.panicked chain) w
  | _, _, _ => False

def args : Nat → List Value → List (Nat × Value)
  | _, [] => []
  | k, v :: r => (k, v) :: args (k + 1) r

theorem look_args (l : List Value) : ∀ k t v, look (args k l) t = some v → k ≤ t ∧ l[t - k]? = some v := by
  induction l with
  | nil => intro k t v h; simp [args, look] at h
  | cons u r ih =>
    intro k t v h
    simp only [args, look] at h
    by_cases hkt : k = t
    · subst hkt; rw [beq_self] at h; cases h; simp
    · rw [beq_ne hkt] at h
      obtain ⟨h1, h2⟩ := ih _ _ _ h
      have : t - k = (t - (k + 1)) + 1 := by omega
      exact ⟨by omega, by rw [this]; simpa using h2⟩

theorem enter {P : Program} {k n : Nat} {fn : Func} {c : Code} {l : List Value} {w : World} {R : Ending → World → Prop} (hf : P.funcs[k]? = some fn) (hn : fn.ntmps = n) (hb : fn.body = some c)
    (hl : Nat.ble l.length n = true) (h : CL none P (FQ P fn R) [c] ⟨n, [], args 0 l⟩ w) : Calls P k l.toArray w R := by
  refine calls_of_wp hf hb (wp_mono (CL.one h _ ⟨?_, rfl, ?_⟩) fun e a w q => ?_)
  · have := ble_le hl
    simp [hn]; omega
  · intro t v hv
    obtain ⟨_, h2⟩ := look_args l 0 t v hv
    rw [Nat.sub_zero] at h2
    have hlt : t < l.length := (List.getElem?_eq_some_iff.1 h2).1
    simp only [Array.getD_eq_getD_getElem?]
    rw [Array.getElem?_append_left (by simpa using hlt)]
    simp [h2]
  · obtain ⟨f, hf', q⟩ := q
    cases e with
    | normal => obtain ⟨hd, v, hv, hR⟩ := q; exact ⟨hf'.defers.trans hd, v, hv a hf', hR⟩
    | ret => obtain ⟨hd, v, hv, hR⟩ := q; exact ⟨hf'.defers.trans hd, v, hv a hf', hR⟩
    | panic ch => exact ⟨hf'.defers.trans q.1, q.2⟩
    | exit k => exact q.elim
    | goto l => exact q.elim
    | outgrown => exact q.elim

/-- The operations of a region that are left. -/
def RW (M : Option (Option Nat)) (P : Program) (ops : Array Oper) (Q : Post) (l : List Oper) (f : Fr) (w : World) : Prop := ∀ a, Ag f a → lwp M P ops (lift Q) l a w

theorem CL.region {M : Option (Option Nat)} {P : Program} {Q : Post} {cs : List Code} {id : Nat} {l : List Oper} {f : Fr} {w : World} (h : RW M P l.toArray (thenK (CL M P Q cs) Q) l f w) : CL M P Q (.region id l.toArray false :: cs) f w :=
  fun a ha => cwp_region (h a ha)

theorem RW.nil {M : Option (Option Nat)} {P : Program} {ops : Array Oper} {Q : Post} {f : Fr} {w : World} (h : Q .normal f w) : RW M P ops Q [] f w := fun _ ha => lwp_nil ⟨f, ha, h⟩

theorem RW.nil_cl {M : Option (Option Nat)} {P : Program} {ops : Array Oper} {Q : Post} {cs : List Code} {f : Fr} {w : World} (h : CL M P Q cs f w) : RW M P ops (thenK (CL M P Q cs) Q) [] f w := RW.nil h

/-- One operation that yields a value. -/
theorem RW.val {M : Option (Option Nat)} {P : Program} {ops : Array Oper} {Q : Post} {o : Oper} {rest : List Oper} {f : Fr} {w w' : World} {d : Nat} {v : Value} (hg : o.guard = none) (hd : o.dst = some d) (hn : Nat.blt d f.n = true)
    (hr : ∀ a, Ag f a → (execOp a.eval o).run P w = .ok (.value v) w') (k : RW M P ops Q rest (f.put d v) w') : RW M P ops Q (o :: rest) f w := by
  intro a ha
  refine lwp_plain hg fun K hK => owp_val (hr a ha) ?_
  rw [hd]
  exact hK _ _ (k _ (ha.put v hn))

/-- What an operation yields, in a frame and a world, that it leaves as it is. -/
def Yd (P : Program) (f : Fr) (o : Oper) (v : Value) (w : World) : Prop := ∀ a, Ag f a → (execOp a.eval o).run P w = .ok (.value v) w

theorem RW.y {M : Option (Option Nat)} {P : Program} {ops : Array Oper} {Q : Post} {rest : List Oper} {f : Fr} {w : World} {v : Value} {d : Nat} {op : Op} {ty : TypeId} {pos : String} {af : Array Edge} (h : Yd P f { dst := some d, op := op, type := ty, pos := pos, after := af, guard := none } v w) (hd : Nat.blt d f.n = true)
    (k : RW M P ops Q rest (f.put d v) w) : RW M P ops Q ({ dst := some d, op := op, type := ty, pos := pos, after := af, guard := none } :: rest) f w := RW.val rfl rfl hd h k

/-- One operation that yields nothing. -/
theorem RW.act {M : Option (Option Nat)} {P : Program} {ops : Array Oper} {Q : Post} {o : Oper} {rest : List Oper} {f : Fr} {w w' : World} (hg : o.guard = none) (hd : o.dst = none)
    (hr : ∀ a, Ag f a → (execOp a.eval o).run P w = .ok .skip w') (k : RW M P ops Q rest f w') : RW M P ops Q (o :: rest) f w := by
  intro a ha
  refine lwp_plain hg fun K hK => owp_skip (hr a ha) ?_
  rw [hd]
  exact hK _ _ (k _ ha)

/-- One that panics. -/
theorem RW.panics {M : Option (Option Nat)} {P : Program} {ops : Array Oper} {Q : Post} {o : Oper} {rest : List Oper} {f : Fr} {w w' : World} {v : Value} (hg : o.guard = none) (hnd : ∀ c, o.op ≠ .defer c)
    (hr : ∀ a, Ag f a → (execOp a.eval o).run P w = .halt (.panic v) w') (k : Q (.panic [{ v, recovered := false }]) f w') : RW M P ops Q (o :: rest) f w := by
  intro a ha
  exact lwp_plain hg fun K hK => owp_panic hnd (hr a ha) ⟨f, ha, k⟩

/-- One that enters a function. -/
theorem RW.call {M : Option (Option Nat)} {P : Program} {ops : Array Oper} {Q : Post} {o : Oper} {rest : List Oper} {f : Fr} {w : World} {k : FuncId} {args : Array Value} (hg : o.guard = none)
    (hn : (match o.dst with | some d => Nat.blt d f.n | none => true) = true) (hr : ∀ a, Ag f a → (execOp a.eval o).run P w = .ok (.enter k args) w)
    {R : Ending → World → Prop} (h : Calls P k args w R)
    (hq : ∀ e w', R e w' → match e with
      | .returned v => RW M P ops Q rest (match o.dst with | some d => f.put d v | none => f) w'
      | .panicked chain => Q (.panic chain) f w'
      | .outgrown => False) : RW M P ops Q (o :: rest) f w := by
  intro a ha
  refine lwp_plain hg fun K hK => owp_enter (hr a ha) h fun e w' hR => ?_
  have q := hq e w' hR
  cases e with
  | returned v =>
    refine hK _ _ ?_
    cases hd : o.dst with
    | none => rw [hd] at q; exact q _ ha
    | some d => rw [hd] at q hn; exact q _ (ha.put v hn)
  | panicked ch => exact ⟨f, ha, q⟩
  | outgrown => exact q.elim

theorem yields {f : Fr} {a : Act} (ha : Ag f a) {ops : Array Oper} {j t : Nat} {b : Bool} (hj : (ops[j]?).bind (·.dst) = some t) (hn : Nat.blt t f.n = true) (hv : look f.e t = some (.bool b)) : yielded ops a.tmps j = some b := by
  have h := ha.slot t _ hv
  have hlt : t < a.tmps.size := by rw [ha.size]; exact blt_lt hn
  have h2 : a.tmps[t]? = some (.bool b) := by
    rw [Array.getD_eq_getD_getElem?] at h
    rw [Array.getElem?_eq_getElem hlt] at h ⊢
    simpa using h
  simp [yielded, hj, h2]

/-- A guarded operation: its guard holds. -/
theorem RW.on {M : Option (Option Nat)} {P : Program} {ops : Array Oper} {Q : Post} {rest : List Oper} {f : Fr} {w : World} {dst : Option Tmp} {op : Op} {ty : TypeId} {pos : String} {af : Array Edge} {j t : Nat} {b : Bool} (hj : (ops[j]?).bind (·.dst) = some t) (hn : Nat.blt t f.n = true)
    (hv : look f.e t = some (.bool b)) (k : RW M P ops Q ({ dst := dst, op := op, type := ty, pos := pos, after := af, guard := none } :: rest) f w) :
    RW M P ops Q ({ dst := dst, op := op, type := ty, pos := pos, after := af, guard := some (j, b) } :: rest) f w := by
  intro a ha
  have h := k a ha
  have hw : Region.wanted ({ dst := dst, op := op, type := ty, pos := pos, after := af, guard := some (j, b) } : Oper) (yielded ops a.tmps) = true := by simp [Region.wanted, yields ha hj hn hv]
  have hw' : Region.wanted ({ dst := dst, op := op, type := ty, pos := pos, after := af, guard := none } : Oper) (yielded ops a.tmps) = true := by simp [Region.wanted]
  cases M with
  | none =>
    unfold lwp wpList at h ⊢
    rw [if_pos hw'] at h
    rw [if_pos hw]
    exact h
  | some r =>
    change wpListIn (Rd1 r) 0 P ops (lift Q) _ a w at h
    change wpListIn (Rd1 r) 0 P ops (lift Q) _ a w
    unfold wpListIn at h ⊢
    rw [if_pos hw'] at h
    rw [if_pos hw]
    exact h

/-- Its guard does not hold. -/
theorem RW.off {M : Option (Option Nat)} {P : Program} {ops : Array Oper} {Q : Post} {rest : List Oper} {f : Fr} {w : World} {dst : Option Tmp} {op : Op} {ty : TypeId} {pos : String} {af : Array Edge} {j t : Nat} {b c : Bool} (hj : (ops[j]?).bind (·.dst) = some t) (hn : Nat.blt t f.n = true)
    (hv : look f.e t = some (.bool c)) (hbc : (!c) = b) (hd : (match dst with | some d => Nat.blt d f.n | none => true) = true)
    (k : RW M P ops Q rest (match dst with | some d => f.put d undef | none => f) w) :
    RW M P ops Q ({ dst := dst, op := op, type := ty, pos := pos, after := af, guard := some (j, b) } :: rest) f w := by
  intro a ha
  have hw : Region.wanted ({ dst := dst, op := op, type := ty, pos := pos, after := af, guard := some (j, b) } : Oper) (yielded ops a.tmps) = false := by
    subst hbc
    cases c <;> simp [Region.wanted, yields ha hj hn hv]
  cases M with
  | none =>
    unfold lwp wpList
    rw [hw]
    simp only [Bool.false_eq_true, if_false]
    cases dst with
    | none => exact k _ ha
    | some d => exact k _ (ha.put undef hd)
  | some r =>
    change wpListIn (Rd1 r) 0 P ops (lift Q) _ a w
    unfold wpListIn
    rw [hw]
    simp only [Bool.false_eq_true, if_false]
    refine ⟨fun _ _ => trivial, ?_⟩
    cases dst with
    | none => exact k _ ha
    | some d => exact k _ (ha.put undef hd)

theorem RW.off1 {M : Option (Option Nat)} {P : Program} {ops : Array Oper} {Q : Post} {rest : List Oper} {f : Fr} {w : World} {d : Nat} {op : Op} {ty : TypeId} {pos : String} {af : Array Edge} {j t : Nat} {b c : Bool} (hj : (ops[j]?).bind (·.dst) = some t) (hn : Nat.blt t f.n = true)
    (hv : look f.e t = some (.bool c)) (hbc : (!c) = b) (hd : Nat.blt d f.n = true) (k : RW M P ops Q rest (f.put d undef) w) :
    RW M P ops Q ({ dst := some d, op := op, type := ty, pos := pos, after := af, guard := some (j, b) } :: rest) f w := RW.off hj hn hv hbc hd k

end Go.Proofs.YteihfeghbpklkaaDoor.H
