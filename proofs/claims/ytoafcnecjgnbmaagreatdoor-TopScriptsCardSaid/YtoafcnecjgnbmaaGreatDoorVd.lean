/-
  Operations one behind the other. Code: what it comes to, by how it ends. A function that is called. Rules: interface values held against nil, asserted; deferred calls that recover; results in variables. Regions that draw their order: what is kept, whatever comes next. Regions that draw their order, evaluated: what changes memory stands in one order; what does not is asked at each state in which it may come. Regions that draw their order, first: in the order of the text. Regions that draw their order: what the evaluation in the order of the text says of any order. Regions that draw their order: any order comes to the same. That a program's drawn regions are as the language's rules want them: looked through. New blocks whose names were kept free: operations that make one and read no memory. Names that are kept free: what is known while some of them are not in use yet.
-/
import Derived.Test.YtoafcnecjgnbmaaGreatDoorVc
import Derived.Test.YtoafcnecjgnbmaaGreatDoorVb
import Derived.LaidEql
import Derived.WideLaws
set_option linter.unusedVariables false
set_option linter.unusedSimpArgs false
namespace Go.Proofs.YtoafcnecjgnbmaaGreatDoor.E
open Go Go.RowKit H

inductive Out where
  | nm
  | ex (i : Nat)
  | ret
  | pan (v : AV)
abbrev KS := Out → Tr AV → Hp → Bool
def putO (f : Fr) (d : Option Tmp) (v : Value) : Fr := match d with
  | some d => f.put d v
  | none => f
/-- What follows a piece of code, by how that ends. -/
def Ends (S : Nat → Prop) (w0 : World) (fl n : Nat) (ds : List Deferred) (r : Ren) (out : Out) (env : Tr AV) (h : Hp) (Q : Post) : Prop :=
  ∀ r' f w, f.n = n → f.ds = ds → Ext r r' → FrOk r' env f → Rel S w0 fl r' h w → match out with
    | .nm => Q .normal f w
    | .ex i => Q (.exit i) f w
    | .ret => Q .ret f w
    | .pan v => ∀ u, real r' v = some u → Q (.panic [{ v := u, recovered := false }]) f w
theorem Ends.ext {S : Nat → Prop} {w0 : World} {fl n : Nat} {ds : List Deferred} {r r1 : Ren} {out : Out} {env : Tr AV} {h : Hp} {Q : Post} (e : Ends S w0 fl n ds r out env h Q) (x : Ext r r1) : Ends S w0 fl n ds r1 out env h Q :=
  fun r' f w a b c d e' => e r' f w a b (x.trans c) d e'

section
variable {M : Option (Option Nat)} {P : Program} {ops : Array Oper} {Q : Post} {rest : List Oper} {f : Fr} {w w' : World}
theorem Ag.putO {f : Fr} {a : Act} (ha : Ag f a) {d : Option Tmp} (v : Value) (hd : ∀ t, d = some t → Nat.blt t f.n = true) : Ag (putO f d v) (a.put d v) := by
  cases d with
  | none => exact ha
  | some d => exact ha.put v (hd d rfl)
theorem RW.gen {o : Oper} (hg : o.guard = none) (hd : ∀ t, o.dst = some t → Nat.blt t f.n = true) {x : Next} {u : Value} (hx : x = .value u ∨ (x = .skip ∧ u = undef)) (hr : ∀ a, Ag f a → (execOp a.eval o).run P w = .ok x w') (k : RW M P ops Q rest (putO f o.dst u) w') : RW M P ops Q (o :: rest) f w := by
  intro a ha
  refine lwp_plain hg fun K hK => ?_
  rcases hx with rfl | ⟨rfl, rfl⟩
  · exact owp_val (hr a ha) (hK _ _ (k _ (Ag.putO ha u hd)))
  · exact owp_skip (hr a ha) (hK _ _ (k _ (Ag.putO ha undef hd)))
theorem RW.callv {o : Oper} (hg : o.guard = none) (hd : ∀ t, o.dst = some t → Nat.blt t f.n = true) {g : FuncId} {xs : Array Value} (hr : ∀ a, Ag f a → (execOp a.eval o).run P w = .ok (.enter g xs) w) {R : Ending → World → Prop} (h : Calls P g xs w R)
    (hq : ∀ e w', R e w' → match e with
      | .returned v => RW M P ops Q rest (putO f o.dst v) w'
      | .panicked chain => Q (.panic chain) f w'
      | .outgrown => False) : RW M P ops Q (o :: rest) f w := by
  intro a ha
  refine lwp_plain hg fun K hK => owp_enter (hr a ha) h fun e w' hR => ?_
  have q := hq e w' hR
  cases e with
  | returned v => exact hK _ _ (q _ (Ag.putO ha v hd))
  | panicked ch => exact ⟨f, ha, q⟩
  | outgrown => exact q.elim
/-- A guard: it holds, it does not. -/
theorem RW.pass {o : Oper} {j : Nat} {b : Bool} {t : Tmp} (hg : o.guard = some (j, b)) (hj : (ops[j]?).bind (·.dst) = some t) (hn : Nat.blt t f.n = true) (hv : H.look f.e t = some (.bool b)) (k : RW M P ops Q ({ o with guard := none } :: rest) f w) : RW M P ops Q (o :: rest) f w := by
  obtain ⟨dst, op, ty, pos, af, g⟩ := o
  cases hg
  exact RW.on hj hn hv k
theorem RW.miss {o : Oper} {j : Nat} {b : Bool} {t : Tmp} {u : Value} (hg : o.guard = some (j, b)) (hj : (ops[j]?).bind (·.dst) = some t) (hn : Nat.blt t f.n = true) (hv : H.look f.e t = some u) (hu : u = .bool (!b) ∨ u = undef) (hd : ∀ t, o.dst = some t → Nat.blt t f.n = true) (k : RW M P ops Q rest (putO f o.dst undef) w) : RW M P ops Q (o :: rest) f w := by
  obtain ⟨dst, op, ty, pos, af, g⟩ := o
  cases hg
  intro a ha
  have hw : Region.wanted ({ dst := dst, op := op, type := ty, pos := pos, after := af, guard := some (j, b) } : Oper) (yielded ops a.tmps) = false := by
    rcases hu with rfl | rfl
    · cases b <;> simp [Region.wanted, yields ha hj hn hv]
    · have h := ha.slot t _ hv
      have hlt : t < a.tmps.size := by rw [ha.size]; exact blt_lt hn
      have h2 : a.tmps[t]? = some undef := by
        rw [Array.getD_eq_getD_getElem?] at h
        rw [Array.getElem?_eq_getElem hlt] at h ⊢
        simpa using h
      cases b <;> simp [Region.wanted, yielded, hj, h2, undef]
  cases M with
  | none =>
    unfold lwp wpList
    rw [hw]
    simp only [Bool.false_eq_true, if_false]
    exact k _ (Ag.putO ha undef hd)
  | some r =>
    change wpListIn (Rd1 r) 0 P ops (lift Q) _ a w
    unfold wpListIn
    rw [hw]
    simp only [Bool.false_eq_true, if_false]
    exact ⟨fun _ _ => trivial, k _ (Ag.putO ha undef hd)⟩
end

section
variable {P : Program} {fl n : Nat} {call : CallF}
noncomputable def setE (n : Nat) (d : Option Tmp) (v : AV) (env : Tr AV) (k : Tr AV → Bool) : Bool := Option.rec (motive := fun _ => Bool) (k env) (fun d => ask (Nat.blt d n) (ask (Nat.blt d 4096) (Tr.setK (some v) (bits d) env k))) d
theorem setE_ok {d : Option Tmp} {v : AV} {env : Tr AV} {k : Tr AV → Bool} (hk : setE n d v env k = true) : ∃ env', k env' = true ∧ (∀ t, d = some t → Nat.blt t n = true) ∧ ∀ (r : Ren) (f : Fr) (u : Value), FrOk r env f → real r v = some u → FrOk r env' (putO f d u) := by
  cases d with
  | none => exact ⟨env, hk, (fun t c => by cases c), fun r f u hf _ => hf⟩
  | some d =>
    obtain ⟨h1, hk⟩ := ask_ok hk
    obtain ⟨h2, hk⟩ := ask_ok hk
    rw [Tr.setK_eq] at hk
    exact ⟨_, hk, (fun t c => by cases c; exact h1), fun r f u hf hu => hf.put (Nat.lt_of_lt_of_le (blt_lt h2) (by decide)) hu⟩
/-- One operation, done. -/
noncomputable def stepK (P : Program) (fl n : Nat) (call : CallF) (o : Oper) (env : Tr AV) (h : Hp) (k : KS) : Bool := opHd o.op P fl call h env o.type (fun v h => setE n o.dst v env fun env => k .nm env h) (fun v h => ask (Option.rec (motive := fun _ => Bool) true (fun d => Nat.blt d n) o.dst) (k (.pan v) env h))
noncomputable def opsK (P : Program) (fl n : Nat) (call : CallF) (ops : Array Oper) (l : List Oper) : Tr AV → Hp → KS → Bool := List.rec (motive := fun _ => Tr AV → Hp → KS → Bool) (fun env h k => k .nm env h)
  (fun o _ ih env h k => Option.rec (motive := fun _ => Bool) (stepK P fl n call o env h fun out env h => Out.rec (motive := fun _ => Bool) (ih env h k) (fun _ => false) false (fun v => k (.pan v) env h) out)
    (fun g => someK ((ops[g.1]?).bind (·.dst)) fun t => ask (Nat.blt t n) (ask (Nat.blt t 4096) (getV t env fun v => AV.rec (motive_1 := fun _ => Bool) (motive_2 := fun _ => Bool)
      (setE n o.dst .und env fun env => ih env h k)
      (fun b => Bool.rec (motive := fun _ => Bool) (Bool.rec (motive := fun _ => Bool) (stepK P fl n call o env h fun out env h => Out.rec (motive := fun _ => Bool) (ih env h k) (fun _ => false) false (fun v => k (.pan v) env h) out) (setE n o.dst .und env fun env => ih env h k) g.2)
        (Bool.rec (motive := fun _ => Bool) (setE n o.dst .und env fun env => ih env h k) (stepK P fl n call o env h fun out env h => Out.rec (motive := fun _ => Bool) (ih env h k) (fun _ => false) false (fun v => k (.pan v) env h) out) g.2) b)
      (fun _ _ => no) (fun _ => no) no (fun _ _ => no) no (fun _ _ _ _ => no) (fun _ _ _ _ => no) (fun _ _ _ _ => no) no (fun _ => no) no (fun _ _ _ _ _ => no) no (fun _ _ _ => no) (fun _ _ => no) (fun _ _ => no) (fun _ _ _ _ => no) no (fun _ _ _ _ => no) v))) o.guard) l
/-- What a list of operations comes to. -/
def OpsOk (P : Program) (fl n : Nat) (ops : Array Oper) (l : List Oper) (env : Tr AV) (h : Hp) (out : Out) (env' : Tr AV) (h' : Hp) : Prop := ∀ (M : Option (Option Nat)) S w0 r f w Q, f.n = n → FrOk r env f → Rel S w0 fl r h w → Ends S w0 fl n f.ds r out env' h' Q → RW M P ops Q l f w
theorem putO_n (f : Fr) (d : Option Tmp) (v : Value) : (putO f d v).n = f.n ∧ (putO f d v).ds = f.ds := by cases d <;> exact ⟨rfl, rfl⟩
/-- One operation without a guard, and those behind it. -/
theorem stepK_ok (hc : CallOk P fl call) {o : Oper} {env : Tr AV} {h : Hp} {k : KS} (hk : stepK P fl n call o env h k = true) :
    (∃ env' h', k .nm env' h' = true ∧ ∀ (M : Option (Option Nat)) S w0 r f w Q ops rest, f.n = n → FrOk r env f → Rel S w0 fl r h w → (∀ r' f' w', f'.n = n → f'.ds = f.ds → Ext r r' → FrOk r' env' f' → Rel S w0 fl r' h' w' → RW M P ops Q rest f' w') → RW M P ops Q ({ o with guard := none } :: rest) f w) ∨
    (∃ v env' h', k (.pan v) env' h' = true ∧ ∀ (M : Option (Option Nat)) S w0 r f w Q ops rest, f.n = n → FrOk r env f → Rel S w0 fl r h w → Ends S w0 fl n f.ds r (.pan v) env' h' Q → RW M P ops Q ({ o with guard := none } :: rest) f w) := by
  rcases opHd_ok hc hk with ⟨v, h', hk, hE⟩ | ⟨v, h', hk, hE⟩ | ⟨v, h', hk, hE⟩ | ⟨v, hk, hnd, hE⟩
  · obtain ⟨env', hk, hd, hf'⟩ := setE_ok hk
    refine .inl ⟨env', h', hk, fun M S w0 r f w Q ops rest hn hf hR hQ => ?_⟩
    obtain ⟨r', w', x, hx, hR', ho, hr⟩ := hE S w0 r f w hf hR
    rcases ho with ⟨u, rfl, hu⟩ | ⟨rfl, rfl⟩
    · exact RW.gen rfl (by rw [hn]; exact hd) (.inl rfl) (fun a ha => hr _ _ _ _ a ha) (hQ r' _ w' ((putO_n _ _ _).1.trans hn) (putO_n _ _ _).2 hx (hf' r' f u (hf.mono hx) hu) hR')
    · exact RW.gen rfl (by rw [hn]; exact hd) (.inr ⟨rfl, rfl⟩) (fun a ha => hr _ _ _ _ a ha) (hQ r' _ w' ((putO_n _ _ _).1.trans hn) (putO_n _ _ _).2 hx (hf' r' f undef (hf.mono hx) rfl) hR')
  · obtain ⟨env', hk, hd, hf'⟩ := setE_ok hk
    refine .inl ⟨env', h', hk, fun M S w0 r f w Q ops rest hn hf hR hQ => ?_⟩
    obtain ⟨g, xs, hr, hC⟩ := hE S w0 r f w hf hR
    refine RW.callv rfl (by rw [hn]; exact hd) (fun a ha => hr _ _ _ _ a ha) hC fun e w' hR' => ?_
    obtain ⟨r', x, rfl, hx, hR2, hu⟩ := hR'
    exact hQ r' _ w' ((putO_n _ _ _).1.trans hn) (putO_n _ _ _).2 hx (hf' r' f x (hf.mono hx) hu) hR2
  · obtain ⟨hd, hk⟩ := ask_ok hk
    have hd : ∀ t, o.dst = some t → Nat.blt t n = true := fun t e => by rw [e] at hd; exact hd
    refine .inr ⟨v, env, h', hk, fun M S w0 r f w Q ops rest hn hf hR hQ => ?_⟩
    obtain ⟨g, xs, hr, hC⟩ := hE S w0 r f w hf hR
    refine RW.callv rfl (by rw [hn]; exact hd) (fun a ha => hr _ _ _ _ a ha) hC fun e w' hR' => ?_
    obtain ⟨r', x, rfl, hx, hR2, hu⟩ := hR'
    exact hQ r' f w' hn rfl hx (hf.mono hx) hR2 x hu
  · obtain ⟨hd, hk⟩ := ask_ok hk
    refine .inr ⟨v, env, h, hk, fun M S w0 r f w Q ops rest hn hf hR hQ => ?_⟩
    obtain ⟨x, hx, hr⟩ := hE S w0 r f w hf hR
    exact RW.panics rfl hnd (fun a ha => hr _ _ _ _ a ha) (hQ r f w hn rfl (Ext.refl r) hf hR x hx)
theorem opsK_ok (hc : CallOk P fl call) {ops : Array Oper} : ∀ {l : List Oper} {env : Tr AV} {h : Hp} {k : KS}, opsK P fl n call ops l env h k = true → ∃ out env' h', k out env' h' = true ∧ OpsOk P fl n ops l env h out env' h'
  | [], env, h, k, hk => ⟨.nm, env, h, hk, fun M S w0 r f w Q hn hf hR hE => RW.nil (hE r f w hn rfl (Ext.refl r) hf hR)⟩
  | o :: rest, env, h, k, hk => by
    have step : (stepK P fl n call o env h fun out env h => Out.rec (motive := fun _ => Bool) (opsK P fl n call ops rest env h k) (fun _ => false) false (fun v => k (.pan v) env h) out) = true → ∃ out env' h', k out env' h' = true ∧ OpsOk P fl n ops ({ o with guard := none } :: rest) env h out env' h' := by
      intro hk
      rcases stepK_ok hc hk with ⟨env1, h1, hk, hs⟩ | ⟨v, env1, h1, hk, hs⟩
      · obtain ⟨out, env', h', hk, hO⟩ := opsK_ok hc (l := rest) hk
        refine ⟨out, env', h', hk, fun M S w0 r f w Q hn hf hR hE => hs M S w0 r f w Q ops rest hn hf hR fun r' f' w' a b c d e => ?_⟩
        exact hO M S w0 r' f' w' Q a d e (b ▸ hE.ext c)
      · exact ⟨.pan v, env1, h1, hk, fun M S w0 r f w Q hn hf hR hE => hs M S w0 r f w Q ops rest hn hf hR hE⟩
    have skip : ∀ (j : Nat) (b : Bool) (t : Tmp) (v : AV), o.guard = some (j, b) → (ops[j]?).bind (·.dst) = some t → Nat.blt t n = true → Nat.blt t 4096 = true → Tr.get (bits t) env = some v → (v = .bool (!b) ∨ v = .und) → (setE n o.dst .und env fun env => opsK P fl n call ops rest env h k) = true → ∃ out env' h', k out env' h' = true ∧ OpsOk P fl n ops (o :: rest) env h out env' h' := by
      intro j b t v hg hj ht ht2 hv hb hk
      obtain ⟨env1, hk, hd, hf'⟩ := setE_ok hk
      obtain ⟨out, env', h', hk, hO⟩ := opsK_ok hc (l := rest) hk
      refine ⟨out, env', h', hk, fun M S w0 r f w Q hn hf hR hE => ?_⟩
      obtain ⟨u, hu, hl⟩ := hf t v (Nat.lt_of_lt_of_le (blt_lt ht2) (by decide)) hv
      have hu2 : u = .bool (!b) ∨ u = undef := by
        rcases hb with rfl | rfl
        · exact .inl (real_bool hu)
        · cases hu; exact .inr rfl
      refine RW.miss hg hj (by rw [hn]; exact ht) hl hu2 (by rw [hn]; exact hd) ?_
      exact hO M S w0 r _ w Q ((putO_n _ _ _).1.trans hn) (hf' r f undef hf rfl) hR (by rw [(putO_n _ _ _).2]; exact hE)
    have pass : ∀ (j : Nat) (b : Bool) (t : Tmp), o.guard = some (j, b) → (ops[j]?).bind (·.dst) = some t → Nat.blt t n = true → Nat.blt t 4096 = true → Tr.get (bits t) env = some (.bool b) → (∃ out env' h', k out env' h' = true ∧ OpsOk P fl n ops ({ o with guard := none } :: rest) env h out env' h') → ∃ out env' h', k out env' h' = true ∧ OpsOk P fl n ops (o :: rest) env h out env' h' := by
      intro j b t hg hj ht ht2 hv ⟨out, env', h', hk, hO⟩
      refine ⟨out, env', h', hk, fun M S w0 r f w Q hn hf hR hE => ?_⟩
      obtain ⟨u, hu, hl⟩ := hf t _ (Nat.lt_of_lt_of_le (blt_lt ht2) (by decide)) hv
      have := real_bool hu; subst this
      exact RW.pass hg hj (by rw [hn]; exact ht) hl (hO M S w0 r f w Q hn hf hR hE)
    obtain ⟨dst, op, ty, pos, af, g⟩ := o
    cases g with
    | none => exact step hk
    | some g =>
      obtain ⟨j, b⟩ := g
      obtain ⟨t, hj, hk⟩ := someK_ok hk
      obtain ⟨ht, hk⟩ := ask_ok hk
      obtain ⟨ht2, hk⟩ := ask_ok hk
      obtain ⟨v, hv, hk⟩ := getV_ok hk
      cases v <;> first | (cases hk; done) | skip
      · exact skip j b t _ rfl hj ht ht2 hv (.inr rfl) hk
      · rename_i c
        cases c <;> cases b
        · exact pass j _ t rfl hj ht ht2 hv (step hk)
        · exact skip j _ t _ rfl hj ht ht2 hv (.inl rfl) hk
        · exact skip j _ t _ rfl hj ht ht2 hv (.inl rfl) hk
        · exact pass j _ t rfl hj ht ht2 hv (step hk)
end
end Go.Proofs.YtoafcnecjgnbmaaGreatDoor.E

namespace Go.Proofs.YtoafcnecjgnbmaaGreatDoor.E
open Go Go.RowKit H

/-- What a piece of code comes to. -/
def CodeM (Ms : Option (Option Nat) → Prop) (P : Program) (fl n : Nat) (c : Code) (env : Tr AV) (h : Hp) (out : Out) (env' : Tr AV) (h' : Hp) : Prop := ∀ M, Ms M → ∀ S w0 r f w Q, f.n = n → FrOk r env f → Rel S w0 fl r h w → Ends S w0 fl n f.ds r out env' h' Q → CW M P Q c f w
/-- Regions that draw their order. -/
abbrev DrawF := Array Oper → Tr AV → Hp → KS → Bool
abbrev CodeOk := CodeM (fun M => M = none)
def DrawM (Ms : Option (Option Nat) → Prop) (P : Program) (fl n : Nat) (G : Array Oper → Prop) (dr : DrawF) : Prop := ∀ ops env h k, G ops → dr ops env h k = true → ∃ out env' h', k out env' h' = true ∧ ∀ id, CodeM Ms P fl n (.region id ops true) env h out env' h'

abbrev DrawOk := DrawM (fun M => M = none)
/-- The drawn regions of a piece of code are as wanted. -/
def Regs (G : Array Oper → Prop) : Code → Prop
  | .region _ ops true => G ops
  | .seq a b => Regs G a ∧ Regs G b
  | .cond _ a b => Regs G a ∧ Regs G b
  | .block _ a => Regs G a
  | .loop a => Regs G a
  | _ => True
noncomputable def onNm (out : Out) (a : Tr AV → Hp → KS → Bool) (env : Tr AV) (h : Hp) (k : KS) : Bool := Out.rec (motive := fun _ => Bool) (a env h k) (fun i => k (.ex i) env h) (k .ret env h) (fun v => k (.pan v) env h) out
noncomputable def onBlk (i : Nat) (out : Out) (env : Tr AV) (h : Hp) (k : KS) : Bool := Out.rec (motive := fun _ => Bool) (k .nm env h) (fun j => ife (Nat.beq j i) (k .nm env h) (k (.ex j) env h)) (k .ret env h) (fun v => k (.pan v) env h) out
noncomputable def loopK (body : Tr AV → Hp → KS → Bool) (m : Nat) : Tr AV → Hp → KS → Bool := Nat.rec (motive := fun _ => Tr AV → Hp → KS → Bool) (fun _ _ _ => false) (fun _ ih env h k => body env h fun out env h => onNm out ih env h k) m
noncomputable def condK (P : Program) (fl : Nat) (x : Operand) (env : Tr AV) (h : Hp) (a b : Bool) : Bool := evK fl h env x fun v => qBool v fun c => ife c a b
noncomputable def codeK (P : Program) (fl n m : Nat) (call : CallF) (dr : DrawF) (c : Code) : Tr AV → Hp → KS → Bool := Code.rec (motive := fun _ => Tr AV → Hp → KS → Bool)
  (fun env h k => k .nm env h) (fun _ ops d env h k => ife d (dr ops env h k) (opsK P fl n call ops ops.toList env h k)) (fun _ _ ia ib env h k => ia env h fun out env h => onNm out ib env h k)
  (fun x _ _ ia ib env h k => condK P fl x env h (ia env h k) (ib env h k)) (fun i _ ib env h k => ib env h fun out env h => onBlk i out env h k) (fun _ ib => loopK ib m)
  (fun _ _ _ _ _ _ _ _ _ => false) (fun i env h k => k (.ex i) env h) (fun _ _ _ _ _ => false) (fun _ _ _ _ => false) (fun _ _ _ _ => false) (fun env h k => k .ret env h) (fun _ _ _ _ => false) c

section
variable {M : Option (Option Nat)} {Ms : Option (Option Nat) → Prop} {P : Program} {fl n : Nat}
theorem CL_of_CW {Q : Post} {c : Code} {f : Fr} {w : World} (hh : CW M P Q c f w) : CL M P Q [c] f w :=
  CW.mono hh fun x f w q => by cases x <;> exact q
theorem cl_nil {Q : Post} {f : Fr} {w : World} (hh : Q .normal f w) : CL M P Q [] f w := hh
/-- Code that ends, and code behind it. -/
theorem CodeM.seq {a b : Code} {env env1 env' : Tr AV} {h h1 h' : Hp} {out : Out} (ha : CodeM Ms P fl n a env h .nm env1 h1) (hb : CodeM Ms P fl n b env1 h1 out env' h') : CodeM Ms P fl n (.seq a b) env h out env' h' := fun M hM S w0 r f w Q hn hf hR hE =>
  CL.one (CL.seq (ha M hM S w0 r f w _ hn hf hR fun r' f' w' hn' hd hx hf' hR' => CL_of_CW (hb M hM S w0 r' f' w' Q hn' hf' hR' (hd ▸ hE.ext hx))))
theorem CodeM.seq0 {a b : Code} {env env' : Tr AV} {h h' : Hp} {out : Out} (ho : out ≠ .nm) (ha : CodeM Ms P fl n a env h out env' h') : CodeM Ms P fl n (.seq a b) env h out env' h' := fun M hM S w0 r f w Q hn hf hR hE =>
  CL.one (CL.seq (ha M hM S w0 r f w _ hn hf hR fun r' f' w' hn' hd hx hf' hR' => by
    have := hE r' f' w' hn' hd hx hf' hR'
    cases out with
    | nm => exact absurd rfl ho
    | _ => exact this))
/-- Rounds of a loop. -/
inductive Rounds (Ms : Option (Option Nat) → Prop) (P : Program) (fl n : Nat) (c : Code) (out : Out) (env' : Tr AV) (h' : Hp) : Nat → Tr AV → Hp → Prop where
  | last {m env h} : out ≠ .nm → CodeM Ms P fl n c env h out env' h' → Rounds Ms P fl n c out env' h' m env h
  | more {m env h env1 h1} : CodeM Ms P fl n c env h .nm env1 h1 → Rounds Ms P fl n c out env' h' m env1 h1 → Rounds Ms P fl n c out env' h' (m + 1) env h
theorem Rounds.ok {c : Code} {out : Out} {env' : Tr AV} {h' : Hp} {m : Nat} {env : Tr AV} {h : Hp} (hr : Rounds Ms P fl n c out env' h' m env h) : CodeM Ms P fl n (.loop c) env h out env' h' := by
  intro M hM S w0 r f w Q hn hf hR hE
  refine CL.one (CL.loop (fun m f1 w1 => ∃ env h r1, Rounds Ms P fl n c out env' h' m env h ∧ f1.n = n ∧ f1.ds = f.ds ∧ Ext r r1 ∧ FrOk r1 env f1 ∧ Rel S w0 fl r1 h w1) m ⟨env, h, r, hr, hn, rfl, Ext.refl r, hf, hR⟩ fun m1 f1 w1 hI => ?_)
  obtain ⟨env1, h1, r1, hr1, hn1, hd1, hx1, hf1, hR1⟩ := hI
  cases hr1 with
  | last ho hb =>
    refine CL_of_CW (hb M hM S w0 r1 f1 w1 _ hn1 hf1 hR1 fun r2 f2 w2 hn2 hd2 hx2 hf2 hR2 => ?_)
    have := hE r2 f2 w2 hn2 (hd2.trans hd1) (hx1.trans hx2) hf2 hR2
    cases out with
    | nm => exact absurd rfl ho
    | _ => exact this
  | more hb hr2 =>
    refine CL_of_CW (hb M hM S w0 r1 f1 w1 _ hn1 hf1 hR1 fun r2 f2 w2 hn2 hd2 hx2 hf2 hR2 => ?_)
    exact ⟨_, Nat.lt_succ_self _, _, _, r2, hr2, hn2, hd2.trans hd1, hx1.trans hx2, hf2, hR2⟩
theorem loopK_ok {c : Code} {body : Tr AV → Hp → KS → Bool} (hb : ∀ env h k, body env h k = true → ∃ out env' h', k out env' h' = true ∧ CodeM Ms P fl n c env h out env' h') : ∀ (m : Nat) (env : Tr AV) (h : Hp) (k : KS), loopK body m env h k = true → ∃ out env' h', k out env' h' = true ∧ Rounds Ms P fl n c out env' h' m env h
  | 0, env, h, k, hk => by cases hk
  | m + 1, env, h, k, hk => by
    obtain ⟨out, env1, h1, hk, hc⟩ := hb env h _ hk
    cases out with
    | nm =>
      obtain ⟨out, env', h', hk, hr⟩ := loopK_ok hb m env1 h1 k hk
      exact ⟨out, env', h', hk, .more hc hr⟩
    | ex i => exact ⟨_, _, _, hk, .last (by simp) hc⟩
    | ret => exact ⟨_, _, _, hk, .last (by simp) hc⟩
    | pan v => exact ⟨_, _, _, hk, .last (by simp) hc⟩
theorem codeK_ok {call : CallF} {dr : DrawF} {m : Nat} {G : Array Oper → Prop} (hc : CallOk P fl call) (hdr : DrawM Ms P fl n G dr) (c : Code) : Regs G c → ∀ (env : Tr AV) (h : Hp) (k : KS), codeK P fl n m call dr c env h k = true → ∃ out env' h', k out env' h' = true ∧ CodeM Ms P fl n c env h out env' h' := by
  induction c with
  | skip => exact fun _ env h k hk => ⟨.nm, env, h, hk, fun M hM S w0 r f w Q hn hf hR hE => CL.one (CL.skip (cl_nil (hE r f w hn rfl (Ext.refl r) hf hR)))⟩
  | region id ops d =>
    intro hG env h k hk
    rcases ife_ok hk with ⟨rfl, hk⟩ | ⟨rfl, hk⟩
    · obtain ⟨out, env', h', hk, hO⟩ := hdr ops env h k hG hk
      exact ⟨out, env', h', hk, hO id⟩
    · obtain ⟨out, env', h', hk, hO⟩ := opsK_ok hc hk
      refine ⟨out, env', h', hk, fun M hM S w0 r f w Q hn hf hR hE => ?_⟩
      have := CL.one (P := P) (Q := Q) (f := f) (w := w) (CL.region (id := id) (l := ops.toList) (cs := []) (by
        refine hO M S w0 r f w _ hn hf hR fun r' f' w' a b c d e => ?_
        have := hE r' f' w' a b c d e
        cases out <;> exact this))
      simpa using this
  | seq a b iha ihb =>
    intro hG env h k hk
    obtain ⟨out, env1, h1, hk, ha⟩ := iha hG.1 env h _ hk
    cases out with
    | nm =>
      obtain ⟨out, env', h', hk, hb⟩ := ihb hG.2 env1 h1 k hk
      exact ⟨out, env', h', hk, ha.seq hb⟩
    | ex i => exact ⟨_, _, _, hk, ha.seq0 (by simp)⟩
    | ret => exact ⟨_, _, _, hk, ha.seq0 (by simp)⟩
    | pan v => exact ⟨_, _, _, hk, ha.seq0 (by simp)⟩
  | cond x a b iha ihb =>
    intro hG env h k hk
    obtain ⟨v, hk, h2⟩ := evK_ok (show evK fl h env x (fun v => qBool v fun c => ife c (codeK P fl n m call dr a env h k) (codeK P fl n m call dr b env h k)) = true from hk)
    obtain ⟨c, rfl, hk⟩ := qBool_ok (x := v) hk
    rcases ife_ok hk with ⟨rfl, hk⟩ | ⟨rfl, hk⟩
    · obtain ⟨out, env', h', hk, ha⟩ := iha hG.1 env h k hk
      refine ⟨out, env', h', hk, fun M hM S w0 r f w Q hn hf hR hE => ?_⟩
      obtain ⟨u, hu, hx⟩ := h2 S w0 r f w hf hR
      have := real_bool hu; subst this
      exact CL.one (CL.condT hx (CL_of_CW (ha M hM S w0 r f w Q hn hf hR hE)))
    · obtain ⟨out, env', h', hk, ha⟩ := ihb hG.2 env h k hk
      refine ⟨out, env', h', hk, fun M hM S w0 r f w Q hn hf hR hE => ?_⟩
      obtain ⟨u, hu, hx⟩ := h2 S w0 r f w hf hR
      have := real_bool hu; subst this
      exact CL.one (CL.condF hx (CL_of_CW (ha M hM S w0 r f w Q hn hf hR hE)))
  | block i b ihb =>
    intro hG env h k hk
    obtain ⟨out, env', h', hk, hb⟩ := ihb hG env h _ hk
    have key : ∀ out', (∀ M S w0 (f : Fr) r Q, Ends S w0 fl n f.ds r out' env' h' Q → Ends S w0 fl n f.ds r out env' h' (blockQ i (CL M P Q []) Q)) → CodeM Ms P fl n (.block i b) env h out' env' h' := fun out' hh M hM S w0 r f w Q hn hf hR hE =>
      CL.one (CL.block (CL_of_CW (hb M hM S w0 r f w _ hn hf hR (hh M S w0 f r Q hE))))
    cases out with
    | nm => exact ⟨.nm, _, _, hk, key _ fun M S w0 f r Q hE r' f' w' a b c d e => hE r' f' w' a b c d e⟩
    | ex j =>
      rcases ife_ok hk with ⟨hj, hk⟩ | ⟨hj, hk⟩
      · exact ⟨.nm, _, _, hk, key _ fun M S w0 f r Q hE r' f' w' a b c d e => by
          show blockQ i _ Q (.exit j) f' w'
          simp only [blockQ, hj]
          exact hE r' f' w' a b c d e⟩
      · exact ⟨.ex j, _, _, hk, key _ fun M S w0 f r Q hE r' f' w' a b c d e => by
          show blockQ i _ Q (.exit j) f' w'
          simp only [blockQ, hj]
          exact hE r' f' w' a b c d e⟩
    | ret => exact ⟨.ret, _, _, hk, key _ fun M S w0 f r Q hE r' f' w' a b c d e => hE r' f' w' a b c d e⟩
    | pan v => exact ⟨.pan v, _, _, hk, key _ fun M S w0 f r Q hE r' f' w' a b c d e => hE r' f' w' a b c d e⟩
  | loop b ihb =>
    intro hG env h k hk
    obtain ⟨out, env', h', hk, hr⟩ := loopK_ok (ihb hG) m env h k hk
    exact ⟨out, env', h', hk, hr.ok⟩
  | exit i => exact fun _ env h k hk => ⟨.ex i, env, h, hk, fun M hM S w0 r f w Q hn hf hR hE => CL.one (CL.exit (hE r f w hn rfl (Ext.refl r) hf hR))⟩
  | ret => exact fun _ env h k hk => ⟨.ret, env, h, hk, fun M hM S w0 r f w Q hn hf hR hE => CL.one (CL.ret (hE r f w hn rfl (Ext.refl r) hf hR))⟩
  | _ => intro _ env h k hk; cases hk

/-- Results. -/
noncomputable def resK (P : Program) (fl : Nat) (env : Tr AV) (h : Hp) (rs : List ResultVar) : (List AV → Bool) → Bool := List.rec (motive := fun _ => (List AV → Bool) → Bool) (fun k => k [])
  (fun r _ ih k => ResultVar.rec (motive := fun _ => Bool) (fun t => evK fl h env (.tmp t) fun v => ih fun vs => k (v :: vs)) (fun t u => hLoad P fl u (.tmp t) h env fun v => ih fun vs => k (v :: vs)) r) rs
noncomputable def oneK (vs : List AV) (k : AV → Bool) : Bool := List.rec (motive := fun _ => Bool) (k (.tup [])) (fun v t _ => List.rec (motive := fun _ => Bool) (k v) (fun _ _ _ => k (.tup vs)) t) vs
end
end Go.Proofs.YtoafcnecjgnbmaaGreatDoor.E

set_option linter.constructorNameAsVariable false
namespace Go.Proofs.YtoafcnecjgnbmaaGreatDoor.E
open Go Go.RowKit H

section
variable {P : Program} {fl n : Nat}
abbrev rsM (tmps : Array Value) (r : ResultVar) : Sem Value := match r with
  | .tmp t => pure (tmps.getD t undef)
  | .cell t u => do loadVar u (← asAddr (tmps.getD t undef))
theorem resK_ok {env : Tr AV} {h : Hp} : ∀ {rs : List ResultVar} {k : List AV → Bool}, resK P fl env h rs k = true → ∃ vs, k vs = true ∧ ∀ S w0 r f w, FrOk r env f → Rel S w0 fl r h w → ∃ us, reals r vs = some us ∧ ∀ a, Ag f a → (rs.mapM (rsM a.tmps)).run P w = .ok us w
  | [], k, hk => ⟨[], hk, fun S w0 r f w _ _ => ⟨[], reals_nil, fun a _ => by simp⟩⟩
  | .tmp t :: rs, k, hk => by
    obtain ⟨v, hk, h2⟩ := evK_ok (show evK fl h env (.tmp t) (fun v => resK P fl env h rs fun vs => k (v :: vs)) = true from hk)
    obtain ⟨vs, hk, h3⟩ := resK_ok (rs := rs) hk
    refine ⟨_, hk, fun S w0 r f w hf hR => ?_⟩
    obtain ⟨u, hu, hx⟩ := h2 S w0 r f w hf hR
    obtain ⟨us, hus, hr⟩ := h3 S w0 r f w hf hR
    refine ⟨_, reals_cons.2 ⟨u, us, hu, hus, rfl⟩, fun a ha => ?_⟩
    have e := ha.slot t u hx
    simp only [List.mapM_cons, Sem.run_bind, Sem.run_pure, Result.andThen_ok, hr a ha, e]
  | .cell t u :: rs, k, hk => by
    obtain ⟨v, hk, h2⟩ := hLoad_ok (P := P) (ty := 0) (show hLoad P fl u (.tmp t) h env (fun v => resK P fl env h rs fun vs => k (v :: vs)) = true from hk)
    obtain ⟨vs, hk, h3⟩ := resK_ok (rs := rs) hk
    refine ⟨_, hk, fun S w0 r f w hf hR => ?_⟩
    obtain ⟨x, hx, hr1⟩ := h2 S w0 r f w hf hR
    obtain ⟨us, hus, hr⟩ := h3 S w0 r f w hf hR
    refine ⟨_, reals_cons.2 ⟨x, us, hx, hus, rfl⟩, fun a ha => ?_⟩
    have h1 := hr1 none "" #[] none a ha
    simp only [execOp, Instr.loadAt, Sem.run_bind] at h1
    have key : (rsM a.tmps (.cell t u)).run P w = .ok x w := by
      simp only [rsM, Sem.run_bind]
      have e : a.eval (.tmp t) = a.tmps.getD t undef := rfl
      rw [e] at h1
      cases hp : a.tmps.getD t undef with
      | pointer q =>
        rw [hp] at h1
        cases q with
        | none => simp [Instr.sureAddr, stuck, Sem.run, Result.andThen] at h1
        | some q =>
          simp only [Instr.sureAddr, Sem.run_pure, Result.andThen_ok] at h1
          cases hl : (loadVar u q).run P w with
          | ok v w1 =>
            rw [hl] at h1
            simp [Result.andThen] at h1
            simp [asAddr, hl, h1]
          | halt hh w1 => rw [hl] at h1; simp [Result.andThen] at h1
      | _ => rw [hp] at h1; simp [Instr.sureAddr, stuck, Sem.run, Result.andThen] at h1
    simp only [List.mapM_cons, Sem.run_bind, key, Result.andThen_ok, hr a ha, Sem.run_pure]
theorem run_results {fn : Func} {tmps : Array Value} {us : List Value} {w : World} (hr : (fn.results.toList.mapM (rsM tmps)).run P w = .ok us w) : (results fn tmps).run P w = .ok (if h : us.toArray.size = 1 then us.toArray[0] else .tuple us.toArray) w := by
  have e : (fn.results.mapM (rsM tmps)).run P w = .ok us.toArray w := by
    have e2 : fn.results.mapM (rsM tmps) = List.toArray <$> fn.results.toList.mapM (rsM tmps) := by
      conv => lhs; rw [← Array.toArray_toList (xs := fn.results)]
      exact List.mapM_toArray ..
    rw [e2, map_eq_pure_bind, Sem.run_bind, hr]
    rfl
  unfold results
  rw [Sem.run_bind]
  exact (congrArg (fun (r : Result (Array Value)) => r.andThen fun vs w => (pure (if h : vs.size = 1 then vs[0] else Value.tuple vs) : Sem Value).run P w) e).trans rfl
theorem oneK_ok {vs : List AV} {k : AV → Bool} (hk : oneK vs k = true) : ∃ v, k v = true ∧ ∀ (r : Ren) (us : List Value), reals r vs = some us → real r v = some (if h : us.toArray.size = 1 then us.toArray[0] else .tuple us.toArray) := by
  match vs, hk with
  | [], hk =>
    refine ⟨_, hk, fun r us h => ?_⟩
    rw [reals_nil] at h; cases h
    rfl
  | [v], hk =>
    refine ⟨v, hk, fun r us h => ?_⟩
    obtain ⟨x, hx, rfl⟩ := reals1 h
    simpa using hx
  | v :: w :: t, hk =>
    refine ⟨_, hk, fun r us h => ?_⟩
    have hl := reals_len h
    rw [dif_neg (by simp at hl ⊢; omega)]
    simp only [real, h, Option.map_some]
/-- The frame that a call begins with. -/
noncomputable def argsK (vs : List AV) : Nat → Tr AV → (Tr AV → Bool) → Bool := List.rec (motive := fun _ => Nat → Tr AV → (Tr AV → Bool) → Bool) (fun _ e k => k e) (fun v _ ih i e k => Tr.setK (some v) (bits i) e fun e => natK (Nat.succ i) fun i => ih i e k) vs
theorem argsK_ok : ∀ {vs : List AV} {i : Nat} {e : Tr AV} {k : Tr AV → Bool}, argsK vs i e k = true → i + vs.length ≤ 4096 → ∃ e', k e' = true ∧ ∀ t, t < LIM → Tr.get (bits t) e' = if i ≤ t ∧ t < i + vs.length then vs[t - i]? else Tr.get (bits t) e
  | [], i, e, k, hk, _ => ⟨e, hk, fun t _ => by rw [if_neg (by rw [List.length_nil]; omega)]⟩
  | v :: vs, i, e, k, hk, hl => by
    simp only [List.length_cons] at hl
    replace hk : Tr.setK (some v) (bits i) e (fun e => natK (Nat.succ i) fun i => argsK vs i e k) = true := hk
    rw [Tr.setK_eq, natK_eq] at hk
    obtain ⟨e', hk, h2⟩ := argsK_ok hk (by omega)
    refine ⟨e', hk, fun t ht => ?_⟩
    rw [h2 t ht, Tr.get_set]
    simp only [List.length_cons]
    by_cases c : t = i
    · subst c
      rw [if_neg (by omega), if_pos rfl, if_pos (by omega)]
      simp
    · have hi : i < LIM := Nat.lt_of_lt_of_le (show i < 4096 by omega) (by decide)
      by_cases c2 : i + 1 ≤ t ∧ t < i + 1 + vs.length
      · rw [if_pos c2, if_pos (by omega)]
        have : t - i = (t - (i + 1)) + 1 := by omega
        rw [this]; simp
      · rw [if_neg c2, if_neg (fun q => c (bits_inj ht hi q.symm)), if_neg (by omega)]
theorem look_args' : ∀ (l : List Value) (k t : Nat), k ≤ t → H.look (H.args k l) t = l[t - k]?
  | [], k, t, _ => by simp [H.args, H.look]
  | u :: r, k, t, hk => by
    by_cases c : k = t
    · subst c; simp [H.args, H.look, beq_self]
    · have : t - k = (t - (k + 1)) + 1 := by omega
      rw [this]
      simp only [H.args, H.look, beq_ne c, List.getElem?_cons_succ]
      exact look_args' r (k + 1) t (by omega)
/-- Functions that are told by themselves. -/
abbrev PrimF := FuncId → Option (CallF → List AV → Hp → KV → KV → Bool)
def PrimOk (P : Program) (fl : Nat) (prim : PrimF) : Prop := ∀ f p, prim f = some p → ∀ call, CallOk P fl call → CallOk P fl fun g vs h kr kp => ife (Nat.beq g f) (p call vs h kr kp) false
noncomputable def endK (P : Program) (fl : Nat) (fn : Func) (kr kp : KV) : KS := fun out env h => Out.rec (motive := fun _ => Bool) (resK P fl env h fn.results.toList fun vs => oneK vs fun v => kr v h) (fun _ => false) (resK P fl env h fn.results.toList fun vs => oneK vs fun v => kr v h) (fun v => kp v h) out
noncomputable def bodyK (P : Program) (fl m : Nat) (dr : Nat → CallF → DrawF) (call : CallF) : CallF := fun f vs h kr kp => fnK P f fun fn => someK fn.body fun c => lenK vs fun l => ask (Nat.ble l fn.ntmps) (ask (Nat.ble l 4096) (argsK vs 0 .e fun env => codeK P fl fn.ntmps m call (dr fn.ntmps call) c env h (endK P fl fn kr kp)))
def AllRegs (P : Program) (G : Array Oper → Prop) : Prop := ∀ (f : FuncId) fn c, P.funcs[f]? = some fn → fn.body = some c → Regs G c
theorem bodyK_ok {m : Nat} {dr : Nat → CallF → DrawF} {call : CallF} {G : Array Oper → Prop} (hc : CallOk P fl call) (hdr : ∀ n call, CallOk P fl call → DrawOk P fl n G (dr n call)) (hG : AllRegs P G) : CallOk P fl (bodyK P fl m dr call) := by
  intro f vs h kr kp hk
  obtain ⟨fn, hf, hk⟩ := fnK_ok hk
  obtain ⟨c, hb, hk⟩ := someK_ok hk
  rw [lenK_eq] at hk
  obtain ⟨hl, hk⟩ := ask_ok hk
  obtain ⟨hl2, hk⟩ := ask_ok hk
  obtain ⟨env, hk, he⟩ := argsK_ok hk (by have := ble_le hl2; omega)
  obtain ⟨out, env', h', hk, hC⟩ := codeK_ok hc (hdr fn.ntmps call hc) c (hG f fn c hf hb) env h _ hk
  have start : ∀ S w0 r w (xs : List Value) (R : Ending → World → Prop), Rel S w0 fl r h w → reals r vs = some xs → Ends S w0 fl fn.ntmps [] r out env' h' (FQ P fn R) → Calls P f xs.toArray w R := by
    intro S w0 r w xs R hR hxs hE
    refine enter hf rfl hb (by rw [reals_len hxs]; exact hl) (CL_of_CW (hC none rfl S w0 r _ w _ rfl (fun t v ht hv => ?_) hR hE))
    rw [he t ht] at hv
    by_cases q : 0 ≤ t ∧ t < 0 + vs.length
    · rw [if_pos q, Nat.sub_zero] at hv
      obtain ⟨u, hu, hr⟩ := reals_at hxs hv
      exact ⟨u, hr, by rw [look_args' xs 0 t (Nat.zero_le _), Nat.sub_zero]; exact hu⟩
    · rw [if_neg q, Tr.get_e] at hv; cases hv
  have fin : ∀ out, (out = .nm ∨ out = .ret) → (resK P fl env' h' fn.results.toList fun vs => oneK vs fun v => kr v h') = true → (∀ S w0 r w (xs : List Value) (R : Ending → World → Prop), Rel S w0 fl r h w → reals r vs = some xs → Ends S w0 fl fn.ntmps [] r out env' h' (FQ P fn R) → Calls P f xs.toArray w R) →
      ∃ v h', kr v h' = true ∧ ∀ S w0 r w xs, Rel S w0 fl r h w → reals r vs = some xs → Calls P f xs.toArray w fun e w' => ∃ r' x, e = .returned x ∧ Ext r r' ∧ Rel S w0 fl r' h' w' ∧ real r' v = some x := by
    intro out ho hk start
    obtain ⟨rs, hk, h2⟩ := resK_ok hk
    obtain ⟨v, hk, h3⟩ := oneK_ok hk
    refine ⟨v, h', hk, fun S w0 r w xs hR hxs => start S w0 r w xs _ hR hxs fun r' f' w' hn hd hx hf' hR' => ?_⟩
    obtain ⟨us, hus, hr⟩ := h2 S w0 r' f' w' hf' hR'
    have q : f'.ds = [] ∧ ∃ v0, (∀ a, Ag f' a → (results fn a.tmps).run P w' = .ok v0 w') ∧ ∃ r'' x, Ending.returned v0 = .returned x ∧ Ext r r'' ∧ Rel S w0 fl r'' h' w' ∧ real r'' v = some x :=
      ⟨hd, _, fun a ha => run_results (hr a ha), r', _, rfl, hx, hR', h3 r' us hus⟩
    rcases ho with rfl | rfl <;> exact q
  cases out with
  | nm => exact .inl (fin .nm (.inl rfl) hk start)
  | ex i => cases hk
  | ret => exact .inl (fin .ret (.inr rfl) hk start)
  | pan v =>
    refine .inr ⟨v, h', hk, fun S w0 r w xs hR hxs => start S w0 r w xs _ hR hxs fun r' f' w' hn hd hx hf' hR' => ?_⟩
    intro u hu
    exact ⟨hd, r', u, rfl, hx, hR', hu⟩
noncomputable def callK (P : Program) (fl m : Nat) (prim : PrimF) (dr : Nat → CallF → DrawF) (d : Nat) : CallF := Nat.rec (motive := fun _ => CallF) (fun _ _ _ _ _ => false) (fun _ ih f vs h kr kp => Option.rec (motive := fun _ => Bool) (bodyK P fl m dr ih f vs h kr kp) (fun p => p ih vs h kr kp) (prim f)) d
theorem callK_ok {m : Nat} {prim : PrimF} {dr : Nat → CallF → DrawF} {G : Array Oper → Prop} (hp : PrimOk P fl prim) (hdr : ∀ n call, CallOk P fl call → DrawOk P fl n G (dr n call)) (hG : AllRegs P G) : ∀ d, CallOk P fl (callK P fl m prim dr d)
  | 0 => fun f vs h kr kp hk => by cases hk
  | d + 1 => by
    intro f vs h kr kp hk
    have ih := callK_ok (m := m) hp hdr hG d
    replace hk : Option.rec (motive := fun _ => Bool) (bodyK P fl m dr (callK P fl m prim dr d) f vs h kr kp) (fun p => p (callK P fl m prim dr d) vs h kr kp) (prim f) = true := hk
    cases hpf : prim f with
    | none =>
      rw [hpf] at hk
      exact bodyK_ok ih hdr hG f vs h kr kp hk
    | some p =>
      rw [hpf] at hk
      refine hp f p hpf _ ih f vs h kr kp ?_
      show ife (Nat.beq f f) _ false = true
      rw [beq_self]
      exact hk
end
end Go.Proofs.YtoafcnecjgnbmaaGreatDoor.E

namespace Go.Proofs.YtoafcnecjgnbmaaGreatDoor.H
open Go.RowKit
section
variable {M : Option (Option Nat)} {P : Program} {ops : Array Oper} {Q : Post} {rest : List Oper} {f : Fr} {w : World} {d : Nat} {ty : TypeId} {pos : String} {af : Array Edge}

theorem wpS_cl {c : Code} {a : Act} {cs : List Frame} {QS : Exit → Act → List Frame → World → Prop} (h : CL none P Q [c] f w) (ha : Ag f a) (hq : ∀ e f a w, Ag f a → Q e f w → QS e a cs w) : c.wpS P QS a cs w :=
  wpS_of_wp (wp_mono (CL.one h a ha) fun e a w ⟨g, hg, q⟩ => hq e g a w hg q)

/-- x.(T), v, ok -/
class NoIface (P : Program) (t : TypeId) : Prop where out : ∃ d, P.underlying t = some d ∧ ∀ ms, d ≠ .interface ms
/-- an interface value against nil -/
class IfaceT (P : Program) (t : TypeId) : Prop where out : P.underlying t = some (.interface (P.methodsAt t))
end
end Go.Proofs.YtoafcnecjgnbmaaGreatDoor.H

namespace Go.Proofs.YtoafcnecjgnbmaaGreatDoor.E
open Go Go.RowKit H
def edgesOf (ops : Array Oper) (i : Nat) : List Nat := match ops[i]? with
  | some o => (o.after.toList.filter fun e => Region.binds .any e).map (·.on)
  | none => []
theorem AW.oneK {P : Program} {ops : Array Oper} {Q : Post} {f : Fr} {w : World} {M : Act → World → Prop} {K : Fr → World → Prop} (i : Nat) {o : Oper} (hi : ops[i]? = some o) (k : RW none P ops (thenK K Q) [o] f w) (hK : ∀ f' w' a', K f' w' → Ag f' a' → M a' w') {a : Act} (ha : Ag f a) : wpOp P ops (lift Q) i M a w := by
  have h : wpList P ops _ [o] a w := k a ha
  unfold wpList at h
  unfold wpOp
  simp only [hi]
  have hq : ∀ x a w, lift (thenK K Q) x a w → match x with
      | .normal => M a w
      | x => lift Q x a w := by
    intro x a w ⟨g, hg, q⟩
    cases x with
    | normal => exact hK g w a q hg
    | _ => exact ⟨g, hg, q⟩
  by_cases hw : Region.wanted o (yielded ops a.tmps) = true
  · rw [if_pos hw] at h
    simp only [hw, if_true]
    rcases h with h | ⟨h1, a0, w0, h2⟩
    · left
      exact oper_mono (fun a w hk => hq .normal a w hk) (fun c a w hk => hq (.panic c) a w hk) (fun a w hk => hq .outgrown a w hk) h
    · exact .inr ⟨h1, a0, w0, hq .outgrown a0 w0 h2⟩
  · rw [if_neg hw] at h
    simp only [hw, if_false, Bool.false_eq_true]
    exact hq .normal _ _ h
theorem set_getD {l : Array Bool} {i j : Nat} (hi : i < l.size) : (l.setIfInBounds i true).getD j false = true ↔ j = i ∨ l.getD j false = true := by
  by_cases h : i = j
  · subst h; simp [hi]
  · simp [Array.getD_eq_getD_getElem?, Array.getElem?_setIfInBounds, h, Ne.symm h]

/-- Whatever comes next: what is kept. -/
theorem draw_go {P : Program} {ops : Array Oper} {Q : Post} (Inv : (Nat → Prop) → Fr → World → Prop) (hlt : ∀ i o, ops[i]? = some o → ∀ j ∈ edgesOf ops i, j < i)
    (hs : ∀ (D : Nat → Prop) f w i o, ops[i]? = some o → ¬ D i → (∀ j ∈ edgesOf ops i, D j) → (∀ j, D j → j < ops.size) → Inv D f w → RW none P ops (thenK (fun f' w' => Inv (fun j => j = i ∨ D j) f' w') Q) [o] f w)
    (hfin : ∀ f w, Inv (fun j => j < ops.size) f w → Q .normal f w) :
    ∀ (m : Nat) (r : List Nat) (l : Array Bool) (f : Fr) (a : Act) (w : World), l.size = ops.size → r.length ≤ m → (∀ i < ops.size, l.getD i false = false → i ∈ r) → Inv (fun j => l.getD j false = true) f w → Ag f a → wpAnyH P .any ops (lift Q) (fun _ => True) m l a w := by
  have hall : ∀ (l : Array Bool), l.size = ops.size → Region.ready .any ops l = [] → ∀ j, l.getD j false = true ↔ j < ops.size := by
    intro l hl hr j
    refine ⟨fun h => ?_, fun h => ?_⟩
    · rcases Nat.lt_or_ge j l.size with h1 | h1
      · omega
      · simp [Array.getD_eq_getD_getElem?, Array.getElem?_eq_none h1] at h
    · induction j using Nat.strongRecOn with
      | _ j ih =>
        cases hc : l.getD j false with
        | true => rfl
        | false =>
          have hjr : j ∈ Region.ready .any ops l := mem_ready.2 ⟨by
            rw [← hc, Array.getD_eq_getD_getElem?, Array.getD_eq_getD_getElem?, Array.getElem?_eq_getElem (by omega)]; rfl, ops[j], Array.getElem?_eq_getElem h, fun e he hb => by
            have hm : e.on ∈ edgesOf ops j := by
              rw [edgesOf, Array.getElem?_eq_getElem h]
              exact List.mem_map.2 ⟨e, List.mem_filter.2 ⟨by simpa using he, hb⟩, rfl⟩
            have h1 := hlt j ops[j] (Array.getElem?_eq_getElem h) e.on hm
            exact ih e.on h1 (by omega)⟩
          rw [hr] at hjr; cases hjr
  have hdone : ∀ (l : Array Bool) f a w, l.size = ops.size → Inv (fun j => l.getD j false = true) f w → Ag f a → Region.ready .any ops l = [] → lift Q .normal a w := fun l f a w hl hP ha hr => by
    have e : (fun j => l.getD j false = true) = fun j => j < ops.size := funext fun j => propext (hall l hl hr j)
    rw [e] at hP
    exact ⟨f, ha, hfin f w hP⟩
  intro m
  induction m with
  | zero =>
    intro r l f a w hl hr hc hP ha
    have hre : Region.ready .any ops l = [] := by
      refine List.eq_nil_iff_forall_not_mem.2 fun i hi => ?_
      obtain ⟨h1, o, ho, _⟩ := mem_ready.1 hi
      have hil : i < ops.size := (Array.getElem?_eq_some_iff.1 ho).1
      have h2 : l.getD i false = false := by rw [← h1, Array.getD_eq_getD_getElem?, Array.getD_eq_getD_getElem?, Array.getElem?_eq_getElem (by omega)]; rfl
      have := hc i hil h2
      rw [List.length_eq_zero_iff.1 (Nat.le_zero.1 hr)] at this; cases this
    exact ⟨hre, hdone l f a w hl hP ha hre⟩
  | succ m ih =>
    intro r l f a w hl hr hc hP ha
    refine ⟨hdone l f a w hl hP ha, fun i hi => ?_⟩
    obtain ⟨h1, o, ho, hed⟩ := mem_ready.1 hi
    have hil : i < ops.size := (Array.getElem?_eq_some_iff.1 ho).1
    have h2 : l.getD i false = false := by rw [← h1, Array.getD_eq_getD_getElem?, Array.getD_eq_getD_getElem?, Array.getElem?_eq_getElem (by omega)]; rfl
    have hD : ¬ l.getD i false = true := by rw [h2]; simp
    have hltD : ∀ j, l.getD j false = true → j < ops.size := fun j hj => by
      rcases Nat.lt_or_ge j l.size with q | q
      · omega
      · simp [Array.getD_eq_getD_getElem?, Array.getElem?_eq_none q] at hj
    have hed' : ∀ j ∈ edgesOf ops i, l.getD j false = true := fun j hj => by
      rw [edgesOf, ho] at hj
      obtain ⟨e, he, rfl⟩ := List.mem_map.1 hj
      obtain ⟨he, hb⟩ := List.mem_filter.1 he
      exact hed e (by simpa using he) hb
    refine AW.oneK i ho (hs _ f w i o ho hD hed' hltD hP) (fun f' w' a' hf' ha' => ?_) ha
    refine ⟨trivial, ih (r.erase i) _ f' a' w' (by simp [hl]) ?_ (fun k hk hf => ?_) ?_ ha'⟩
    · rw [List.length_erase_of_mem (hc i hil h2)]; omega
    · have hki : k ≠ i := fun c => by
        subst c
        have := (set_getD (l := l) (j := k) (by omega)).2 (.inl rfl)
        rw [hf] at this; cases this
      have hkf : l.getD k false = false := by
        rw [Bool.eq_false_iff]; intro c
        have := (set_getD (l := l) (j := k) (show i < l.size by omega)).2 (.inr c)
        rw [hf] at this; cases this
      exact (List.mem_erase_of_ne hki).2 (hc k hk hkf)
    · have e : (fun j => (l.setIfInBounds i true).getD j false = true) = fun j => j = i ∨ l.getD j false = true := funext fun j => propext (set_getD (by omega))
      rw [e]
      exact hf'
/-- A region that draws its order. -/
theorem CW_draw {P : Program} {ops : Array Oper} {Q : Post} {f : Fr} {w : World} {id : Nat} (hm : P.follows .mixedOrders = true) (Inv : (Nat → Prop) → Fr → World → Prop) (hlt : ∀ i o, ops[i]? = some o → ∀ j ∈ edgesOf ops i, j < i)
    (hs : ∀ (D : Nat → Prop) f w i o, ops[i]? = some o → ¬ D i → (∀ j ∈ edgesOf ops i, D j) → (∀ j, D j → j < ops.size) → Inv D f w → RW none P ops (thenK (fun f' w' => Inv (fun j => j = i ∨ D j) f' w') Q) [o] f w)
    (hfin : ∀ f w, Inv (fun j => j < ops.size) f w → Q .normal f w) (h0 : ∀ w', K0 w w' → Inv (fun _ => False) f w') : CW none P Q (.region id ops true) f w := by
  refine CL.one (CL.draw (fun _ => True) hm fun w1 hheap hk1 => ?_)
  intro a ha
  have hno : (fun j => (Array.replicate ops.size false).getD j false = true) = fun _ : Nat => False := funext fun j => propext ⟨fun c => by
    rw [Array.getD_eq_getD_getElem?, Array.getElem?_replicate] at c
    split at c <;> simp at c, fun c => c.elim⟩
  have := draw_go (P := P) (Q := thenK (CL none P Q []) Q) Inv hlt (fun D f w i o a b c d e => ?_) (fun f w hI => hfin f w hI) ops.size (List.range ops.size) (Array.replicate ops.size false) f a w1 (by simp) (by simp) (fun i hi _ => List.mem_range.2 hi) (by rw [hno]; exact h0 w1 hk1) ha
  · exact this
  · have e2 : thenK (fun f' w' => Inv (fun j => j = i ∨ D j) f' w') (thenK (CL none P Q []) Q) = thenK (fun f' w' => Inv (fun j => j = i ∨ D j) f' w') Q := by
      funext x f w; cases x <;> rfl
    rw [e2]
    exact hs D f w i o a b c d e
end Go.Proofs.YtoafcnecjgnbmaaGreatDoor.E

set_option linter.constructorNameAsVariable false
namespace Go.Proofs.YtoafcnecjgnbmaaGreatDoor.E
open Go Go.RowKit H

section
variable {P : Program} {fl n : Nat} {call : CallF}
/-- May an operation change the memory? -/
noncomputable def bigOp (P : Program) (o : Op) : Bool := match o with
  | .move _ | .assign _ | .pick _ _ _ | .build _ _ | .load _ _ | .nilCheck _ | .binOp _ _ _ _ _ | .unOp _ _ _ | .makeInterface _ _ | .makeFunc _ _ _ | .slice _ _ _ _ _ | .fieldAddr _ _ _ | .field _ _ _ | .indexAddr _ _ _ | .index _ _ _ | .lookup _ _ _ _ | .typeAssert _ _ _ _ | .extract _ _ => false
  | .convert _ t _ => (match P.underlying t with | some (.slice _) => true | _ => false)
  | .call c => (match c.callee with | .builtin .len => false | .builtin .cap => false | .builtin .min => false | .builtin .max => false | _ => true)
  | _ => true
theorem bo_yo {b : Builtin} {args : Array Operand} {ts : Array TypeId} {env : Tr AV} {h : Hp} {ty : TypeId} {vs : List AV} {v : AV} (h3 : ∀ S w0 r f w, FrOk r env f → Rel S w0 fl r h w → ∃ us, reals r vs = some us ∧ ∀ a, Ag f a → args.toList.map a.eval = us) (hB : BoP P fl b ts ty vs h v) : Yo P fl (.call { callee := .builtin b, args := args, argTypes := ts }) ty env h v := by
  intro S w0 r fr w hf hR
  obtain ⟨us, hus, hl⟩ := h3 S w0 r fr w hf hR
  obtain ⟨x, a3, a4⟩ := hB S w0 r w us (args.map fun | .const _ => true | _ => false) hR hus
  refine ⟨x, a3, fun dst pos af gd ac ha => ?_⟩
  have e1 : args.map ac.eval = us.toArray := by apply Array.ext'; simp [hl ac ha]
  simp only [execOp, resolve, Sem.run_bind, Sem.run_pure, Result.andThen_ok, invoke, e1]
  exact a4
theorem small_ok {o : Op} {env : Tr AV} {h : Hp} {ty : TypeId} {k kp : KV} (hb : bigOp P o = false) (hk : opHd o P fl call h env ty k kp = true) : ∃ v, k v h = true ∧ Yo P fl o ty env h v := by
  cases o <;> first | (cases hb; done) | skip
  case move x => obtain ⟨v, a, b, _⟩ := hMove_ok (P := P) (ty := ty) hk; exact ⟨v, a, b⟩
  case assign x => obtain ⟨v, a, _, b⟩ := hMove_ok (P := P) (ty := ty) hk; exact ⟨v, a, b⟩
  case pick c a b => exact hPick_ok hk
  case build t ps => exact hBuild_ok hk
  case load t x => exact hLoad_ok hk
  case nilCheck x => exact hNil_ok hk
  case binOp op t x y yt => exact hBin_ok hk
  case unOp op t x => exact hUn_ok hk
  case convert s t x =>
    obtain ⟨v, hk, h2⟩ := evK_ok (show evK fl h env x _ = true from hk)
    obtain ⟨d, hd, hk⟩ := tyK_ok hk
    have hns : ∀ e, d ≠ .slice e := fun e c => by
      subst c
      simp only [bigOp, hd] at hb
      cases hb
    have plain : hConv0 P fl s t v (fun v => k v h) = true → ∃ v, k v h = true ∧ Yo P fl (.convert s t x) ty env h v := fun hk => hConv0_ok (ty := ty) h2 hk
    cases d with
    | slice e => exact absurd rfl (hns e)
    | string =>
      obtain ⟨ds, hs, hk⟩ := tyK_ok hk
      cases v with
      | nils =>
        obtain ⟨e, rfl, hk1⟩ := isSliceT_ok hk
        obtain ⟨de, hde, hk⟩ := tyK_ok hk1
        obtain ⟨i, rfl, hk1⟩ := isIntT_ok hk
        obtain ⟨hi8, hk2⟩ := ask_ok hk1
        have := kEq_ok hi8; subst this
        refine ⟨_, hk2, one_ok h2 fun S w0 r w u hR hu => ⟨_, str_real (by rfl), fun ρ dst pos af g e1 => ?_⟩⟩
        cases hu
        simp [execOp, e1, convert, run_underlying hs, run_underlying hd, run_underlying hde, Conv.bytesToString]
        rfl
      | sl i o n c =>
        obtain ⟨e, rfl, hk1⟩ := isSliceT_ok hk
        obtain ⟨de, hde, hk⟩ := tyK_ok hk1
        obtain ⟨j, rfl, hk1⟩ := isIntT_ok hk
        obtain ⟨hi8, hk2⟩ := ask_ok hk1
        have := kEq_ok hi8; subst this
        obtain ⟨l, hk, hbl, hl⟩ := rowStr_ok (P := P) (fl := fl) hk2
        refine ⟨_, hk, one_ok h2 fun S w0 r w u hR hu => ⟨_, str_real hbl, fun ρ dst pos af g e1 => ?_⟩⟩
        obtain ⟨p, hp, rfl⟩ := real_sl hu
        have hr := hl S w0 r w p hR hp c
        simp [execOp, e1, convert, run_underlying hs, run_underlying hd, run_underlying hde, hr]
      | slx i o n c =>
        obtain ⟨e, rfl, hk1⟩ := isSliceT_ok hk
        obtain ⟨de, hde, hk⟩ := tyK_ok hk1
        obtain ⟨j, rfl, hk1⟩ := isIntT_ok hk
        obtain ⟨hi8, hk2⟩ := ask_ok hk1
        have := kEq_ok hi8; subst this
        obtain ⟨l, hk, hbl, hl⟩ := rowStr_ok (P := P) (fl := fl) hk2
        refine ⟨_, hk, one_ok h2 fun S w0 r w u hR hu => ⟨_, str_real hbl, fun ρ dst pos af g e1 => ?_⟩⟩
        obtain ⟨p, hp, _, _, _, rfl⟩ := real_slx hu
        have hr := fun cap => hl S w0 r w p hR hp cap
        simp [execOp, e1, convert, run_underlying hs, run_underlying hd, run_underlying hde, hr]
      | _ => exact plain hk
    | _ => exact plain hk
  case makeInterface t x => exact hIface_ok hk
  case makeFunc fn a b => exact hFunc_ok hk
  case slice t x lo hi mx => exact hSlice_ok hk
  case fieldAddr t x i => exact hFAddr_ok hk
  case field t x i => exact hField_ok hk
  case indexAddr t x y => exact hIAddr_ok hk
  case index t x y => exact hIndex_ok hk
  case lookup t x y c => exact hLookup_ok hk
  case typeAssert x xt t c => exact hAssert_ok hk
  case extract x i => exact hExt_ok hk
  case call c =>
    obtain ⟨callee, args, ats⟩ := c
    cases callee with
    | value f => cases hb
    | invoke f m => cases hb
    | builtin b =>
      obtain ⟨vs, hk, h3⟩ := evsK_ok (show evsK fl h env args.toList (fun vs => hBuiltin b ats vs P fl h k) = true from hk)
      cases b <;> first | (cases hb; done) | skip
      · obtain ⟨v, hk, hB⟩ := hCap_ok (P := P) (fl := fl) (ty := ty) (h := h) hk
        exact ⟨v, hk, bo_yo h3 hB⟩
      · obtain ⟨v, hk, hB⟩ := hLen_ok (P := P) (fl := fl) (ty := ty) hk
        exact ⟨v, hk, bo_yo h3 hB⟩
      · obtain ⟨v, hk, hB⟩ := hMax_ok (P := P) (fl := fl) (ty := ty) (h := h) (ts := ats) hk
        exact ⟨v, hk, bo_yo h3 hB⟩
      · obtain ⟨v, hk, hB⟩ := hMin_ok (P := P) (fl := fl) (ty := ty) (h := h) (ts := ats) hk
        exact ⟨v, hk, bo_yo h3 hB⟩

/-- Values alike to the sign. -/
noncomputable def avEq (a : AV) : AV → Bool := AV.rec (motive_1 := fun _ => AV → Bool) (motive_2 := fun _ => List AV → Bool)
  (fun y => match y with | .und => true | _ => false) (fun b y => qBool y fun c => ifeV b c (not c)) (fun i n y => qInt y fun j m => ifeV (kEq i j) (iEq n m) false) (fun s y => qStr y fun t => sEq s t)
  (fun y => match y with | .nilp => true | _ => false) (fun i o y => qPtr y fun j p => ifeV (Nat.beq i j) (Nat.beq o p) false) (fun y => match y with | .nils => true | _ => false)
  (fun i o n c y => match y with | .sl i' o' n' c' => ifeV (Nat.beq i i') (ifeV (Nat.beq o o') (ifeV (Nat.beq n n') (Nat.beq c c') false) false) false | _ => false)
  (fun i o n c y => match y with | .slx i' o' n' c' => ifeV (Nat.beq i i') (ifeV (Nat.beq o o') (ifeV (Nat.beq n n') (Nat.beq c c') false) false) false | _ => false)
  (fun i o n c y => match y with | .sly i' o' n' c' => ifeV (Nat.beq i i') (ifeV (Nat.beq o o') (ifeV (Nat.beq n n') (Nat.beq c c') false) false) false | _ => false)
  (fun y => match y with | .nilm => true | _ => false) (fun i y => match y with | .map j => Nat.beq i j | _ => false) (fun y => match y with | .nilf => true | _ => false)
  (fun f _ _ ia ib y => match y with | .fn g a b => (match f with | .func x => (match g with | .func y => ifeV (Nat.beq x y) (ifeV (ia a) (ib b) false) false | _ => false) | _ => false) | _ => false)
  (fun y => match y with | .nili => true | _ => false) (fun t _ iv y => match y with | .ifc u w => ifeV (Nat.beq t u) (iv w) false | _ => false)
  (fun _ il y => qAgg y il) (fun _ il y => qTup y il) (fun i s m j y => match y with | .sym i' s' m' j' => ifeV (kEq i i') (ifeV (Nat.beq s s') (ifeV (Nat.beq m m') (Nat.beq j j') false) false) false | _ => false)
  (fun y => List.rec (motive := fun _ => Bool) true (fun _ _ _ => false) y) (fun _ _ ia il y => List.rec (motive := fun _ => Bool) false (fun b t _ => ifeV (ia b) (il t) false) y) a
theorem and_ok {a b : Bool} (h : ifeV a b false = true) : a = true ∧ b = true := by cases a <;> first | exact ⟨rfl, h⟩ | cases h
theorem sEq_ok : ∀ {a b : List Nat}, sEq a b = true → a = b
  | [], [], _ => rfl
  | [], _ :: _, h => by cases h
  | _ :: _, [], h => by cases h
  | x :: a, y :: b, h => by
    obtain ⟨h1, h2⟩ := and_ok h
    rw [Nat.eq_of_beq_eq_true h1, sEq_ok h2]
mutual
theorem avEq_ok : ∀ (a b : AV), avEq a b = true → a = b
  | .und, b, h => by cases b <;> first | rfl | cases h
  | .bool x, b, h => by
    obtain ⟨c, rfl, h⟩ := qBool_ok (x := b) h
    cases x <;> cases c <;> first | rfl | cases h
  | .int i m, b, h => by
    obtain ⟨j, n, rfl, h⟩ := qInt_ok (x := b) h
    obtain ⟨h1, h2⟩ := and_ok h
    rw [iEq_eq] at h2
    rw [kEq_ok h1, of_decide_eq_true h2]
  | .str s, b, h => by
    obtain ⟨t, rfl, h⟩ := qStr_ok (x := b) h
    rw [sEq_ok h]
  | .nilp, b, h => by cases b <;> first | rfl | cases h
  | .ptr i o, b, h => by
    obtain ⟨j, p, rfl, h⟩ := qPtr_ok (x := b) h
    obtain ⟨h1, h2⟩ := and_ok h
    rw [Nat.eq_of_beq_eq_true h1, Nat.eq_of_beq_eq_true h2]
  | .nils, b, h => by cases b <;> first | rfl | cases h
  | .sl i o n c, b, h => by
    cases b <;> first | (cases h; done) | skip
    obtain ⟨h1, h⟩ := and_ok h
    obtain ⟨h2, h⟩ := and_ok h
    obtain ⟨h3, h4⟩ := and_ok h
    rw [Nat.eq_of_beq_eq_true h1, Nat.eq_of_beq_eq_true h2, Nat.eq_of_beq_eq_true h3, Nat.eq_of_beq_eq_true h4]
  | .slx i o n c, b, h => by
    cases b <;> first | (cases h; done) | skip
    obtain ⟨h1, h⟩ := and_ok h
    obtain ⟨h2, h⟩ := and_ok h
    obtain ⟨h3, h4⟩ := and_ok h
    rw [Nat.eq_of_beq_eq_true h1, Nat.eq_of_beq_eq_true h2, Nat.eq_of_beq_eq_true h3, Nat.eq_of_beq_eq_true h4]
  | .sly i o n c, b, h => by
    cases b <;> first | (cases h; done) | skip
    obtain ⟨h1, h⟩ := and_ok h
    obtain ⟨h2, h⟩ := and_ok h
    obtain ⟨h3, h4⟩ := and_ok h
    rw [Nat.eq_of_beq_eq_true h1, Nat.eq_of_beq_eq_true h2, Nat.eq_of_beq_eq_true h3, Nat.eq_of_beq_eq_true h4]
  | .nilm, b, h => by cases b <;> first | rfl | cases h
  | .map i, b, h => by
    cases b <;> first | (cases h; done) | skip
    rw [Nat.eq_of_beq_eq_true h]
  | .nilf, b, h => by cases b <;> first | rfl | cases h
  | .fn f x y, b, h => by
    cases b <;> first | (cases h; done) | skip
    rename_i g x' y'
    cases f <;> first | (cases h; done) | skip
    cases g <;> first | (cases h; done) | skip
    obtain ⟨h1, h⟩ := and_ok h
    obtain ⟨h2, h3⟩ := and_ok h
    rw [Nat.eq_of_beq_eq_true h1, avsEq_ok x x' h2, avsEq_ok y y' h3]
  | .nili, b, h => by cases b <;> first | rfl | cases h
  | .ifc t v, b, h => by
    cases b <;> first | (cases h; done) | skip
    obtain ⟨h1, h2⟩ := and_ok h
    rw [Nat.eq_of_beq_eq_true h1, avEq_ok v _ h2]
  | .agg l, b, h => by
    obtain ⟨m, rfl, h⟩ := qAgg_ok (x := b) h
    rw [avsEq_ok l m h]
  | .tup l, b, h => by
    obtain ⟨m, rfl, h⟩ := qTup_ok (x := b) h
    rw [avsEq_ok l m h]
  | .sym i o n c, b, h => by
    cases b <;> first | (cases h; done) | skip
    obtain ⟨h1, h⟩ := and_ok h
    obtain ⟨h2, h⟩ := and_ok h
    obtain ⟨h3, h4⟩ := and_ok h
    rw [kEq_ok h1, Nat.eq_of_beq_eq_true h2, Nat.eq_of_beq_eq_true h3, Nat.eq_of_beq_eq_true h4]
theorem avsEq_ok : ∀ (a b : List AV), AV.rec_1 (motive_1 := fun _ => AV → Bool) (motive_2 := fun _ => List AV → Bool)
  (fun y => match y with | .und => true | _ => false) (fun b y => qBool y fun c => ifeV b c (not c)) (fun i n y => qInt y fun j m => ifeV (kEq i j) (iEq n m) false) (fun s y => qStr y fun t => sEq s t)
  (fun y => match y with | .nilp => true | _ => false) (fun i o y => qPtr y fun j p => ifeV (Nat.beq i j) (Nat.beq o p) false) (fun y => match y with | .nils => true | _ => false)
  (fun i o n c y => match y with | .sl i' o' n' c' => ifeV (Nat.beq i i') (ifeV (Nat.beq o o') (ifeV (Nat.beq n n') (Nat.beq c c') false) false) false | _ => false)
  (fun i o n c y => match y with | .slx i' o' n' c' => ifeV (Nat.beq i i') (ifeV (Nat.beq o o') (ifeV (Nat.beq n n') (Nat.beq c c') false) false) false | _ => false)
  (fun i o n c y => match y with | .sly i' o' n' c' => ifeV (Nat.beq i i') (ifeV (Nat.beq o o') (ifeV (Nat.beq n n') (Nat.beq c c') false) false) false | _ => false)
  (fun y => match y with | .nilm => true | _ => false) (fun i y => match y with | .map j => Nat.beq i j | _ => false) (fun y => match y with | .nilf => true | _ => false)
  (fun f _ _ ia ib y => match y with | .fn g a b => (match f with | .func x => (match g with | .func y => ifeV (Nat.beq x y) (ifeV (ia a) (ib b) false) false | _ => false) | _ => false) | _ => false)
  (fun y => match y with | .nili => true | _ => false) (fun t _ iv y => match y with | .ifc u w => ifeV (Nat.beq t u) (iv w) false | _ => false)
  (fun _ il y => qAgg y il) (fun _ il y => qTup y il) (fun i s m j y => match y with | .sym i' s' m' j' => ifeV (kEq i i') (ifeV (Nat.beq s s') (ifeV (Nat.beq m m') (Nat.beq j j') false) false) false | _ => false)
  (fun y => List.rec (motive := fun _ => Bool) true (fun _ _ _ => false) y) (fun _ _ ia il y => List.rec (motive := fun _ => Bool) false (fun b t _ => ifeV (ia b) (il t) false) y) a b = true → a = b
  | [], [], _ => rfl
  | [], _ :: _, h => by cases h
  | _ :: _, [], h => by cases h
  | x :: a, y :: b, h => by
    obtain ⟨h1, h2⟩ := and_ok h
    rw [avEq_ok x y h1, avsEq_ok a b h2]
end
end
end Go.Proofs.YtoafcnecjgnbmaaGreatDoor.E

set_option linter.constructorNameAsVariable false
namespace Go.Proofs.YtoafcnecjgnbmaaGreatDoor.E
open Go Go.RowKit H

/-- Whom an operation comes behind. -/
def edgeL (o : Oper) : List Nat := (o.after.toList.filter fun e => Region.binds .any e).map (·.on)
theorem edgesOf_eq {ops : Array Oper} {i : Nat} {o : Oper} (h : ops[i]? = some o) : edgesOf ops i = edgeL o := by rw [edgesOf, h]; rfl
noncomputable def nthN (l : List Nat) (i : Nat) : Nat := List.rec (motive := fun _ => Nat → Nat) (fun _ => 0) (fun a _ ih i => Nat.rec (motive := fun _ => Nat) a (fun p _ => ih p) i) l i
noncomputable def maskO (ms : List Nat) (o : Oper) : Nat := List.rec (motive := fun _ => Nat) 0 (fun e _ acc => Nat.lor (Nat.shiftLeft 1 e) (Nat.lor (nthN ms e) acc)) (edgeL o)
noncomputable def masks (l : List Oper) : List Nat → List Nat := List.rec (motive := fun _ => List Nat → List Nat) (fun ms => ms) (fun o _ ih ms => ih (ms ++ [maskO ms o])) l
noncomputable def bitN (m i : Nat) : Bool := Nat.testBit m i
/-- A region as the language's rules want it. -/
structure RegOk (ops : Array Oper) (ms : List Nat) : Prop where
  lt : ∀ (i : Nat) (o : Oper), ops[i]? = some o → ∀ j ∈ edgeL o, j < i
  anc : ∀ (i : Nat) (o : Oper), ops[i]? = some o → ∀ j, bitN (nthN ms i) j = true → j ∈ edgeL o ∨ ∃ m ∈ edgeL o, bitN (nthN ms m) j = true
  one : ∀ (i j : Nat) (oi oj : Oper) (d : Tmp), ops[i]? = some oi → ops[j]? = some oj → oi.dst = some d → oj.dst = some d → i = j
  use : ∀ (i j : Nat) (oi oj : Oper) (t : Tmp), ops[i]? = some oi → ops[j]? = some oj → Operand.tmp t ∈ oi.op.operands → oj.dst = some t → bitN (nthN ms i) j = true ∨ bitN (nthN ms j) i = true ∨ j = i
  gd : ∀ (i : Nat) (o : Oper) (j : Nat) (b : Bool), ops[i]? = some o → o.guard = some (j, b) → bitN (nthN ms i) j = true
  bw : ∀ (i : Nat) (o : Oper) (j : Nat), ops[i]? = some o → bitN (nthN ms i) j = true → j < i
section
variable {P : Program} {fl n : Nat} {call : CallF}
/-- Is an operation wanted? -/
noncomputable def wantK (ops : Array Oper) (n : Nat) (o : Oper) (E : Tr AV) (kt kf : Bool) : Bool := Option.rec (motive := fun _ => Bool) kt (fun g => someK ((ops[g.1]?).bind (·.dst)) fun t => ask (Nat.blt t n) (ask (Nat.blt t 4096) (getV t E fun v => match v with
  | .und => kf
  | .bool b => ife (ifeV b g.2 (not g.2)) kt kf
  | _ => false))) o.guard
def Wt (ops : Array Oper) (n : Nat) (o : Oper) (E : Tr AV) (b : Bool) : Prop := (o.guard = none ∧ b = true) ∨ ∃ j c t v, o.guard = some (j, c) ∧ (ops[j]?).bind (·.dst) = some t ∧ Nat.blt t n = true ∧ t < 4096 ∧ Tr.get (bits t) E = some v ∧ (b = true → v = .bool c) ∧ (b = false → v = .bool (!c) ∨ v = .und)
theorem wantK_ok {ops : Array Oper} {o : Oper} {E : Tr AV} {kt kf : Bool} (h : wantK ops n o E kt kf = true) : (kt = true ∧ Wt ops n o E true) ∨ (kf = true ∧ Wt ops n o E false) := by
  obtain ⟨dst, op, ty, pos, af, g⟩ := o
  cases g with
  | none => exact .inl ⟨h, .inl ⟨rfl, rfl⟩⟩
  | some g =>
    obtain ⟨j, c⟩ := g
    obtain ⟨t, hj, h⟩ := someK_ok h
    obtain ⟨h1, h⟩ := ask_ok h
    obtain ⟨h2, h⟩ := ask_ok h
    obtain ⟨v, hv, h⟩ := getV_ok h
    have h2 := blt_lt h2
    cases v <;> first | (cases h; done) | skip
    · exact .inr ⟨h, .inr ⟨j, c, t, _, rfl, hj, h1, h2, hv, (by simp), fun _ => .inr rfl⟩⟩
    · rename_i b
      rcases ife_ok h with ⟨e, h⟩ | ⟨e, h⟩
      · refine .inl ⟨h, .inr ⟨j, c, t, _, rfl, hj, h1, h2, hv, fun _ => ?_, by simp⟩⟩
        cases b <;> cases c <;> first | rfl | cases e
      · refine .inr ⟨h, .inr ⟨j, c, t, _, rfl, hj, h1, h2, hv, by simp, fun _ => .inl ?_⟩⟩
        cases b <;> cases c <;> first | rfl | cases e
/-- The slots that operands name. -/
noncomputable def subE (E : Tr AV) (xs : List Operand) : Tr AV → (Tr AV → Bool) → Bool := List.rec (motive := fun _ => Tr AV → (Tr AV → Bool) → Bool) (fun a k => k a)
  (fun x _ ih a k => Operand.rec (motive := fun _ => Bool) (fun t => ask (Nat.blt t 4096) (Tr.getK (bits t) E fun o => optK o (ih a k) fun v => Tr.setK (some v) (bits t) a fun a => ih a k)) (fun _ => ih a k) (fun _ => ih a k) (fun _ => ih a k) x) xs
def Sub (E : Tr AV) (xs : List Operand) (e : Tr AV) : Prop := ∀ t v, t < LIM → Tr.get (bits t) e = some v → .tmp t ∈ xs ∧ Tr.get (bits t) E = some v
theorem subE_ok' {E : Tr AV} : ∀ {xs : List Operand} {a : Tr AV} {k : Tr AV → Bool}, subE E xs a k = true → ∃ e, k e = true ∧ ∀ t v, t < LIM → Tr.get (bits t) e = some v → (Operand.tmp t ∈ xs ∧ Tr.get (bits t) E = some v) ∨ Tr.get (bits t) a = some v
  | [], a, k, h => ⟨a, h, fun t v _ hv => .inr hv⟩
  | x :: xs, a, k, h => by
    have plain : subE E xs a k = true → ∃ e, k e = true ∧ ∀ t v, t < LIM → Tr.get (bits t) e = some v → (Operand.tmp t ∈ x :: xs ∧ Tr.get (bits t) E = some v) ∨ Tr.get (bits t) a = some v := fun h => by
      obtain ⟨e, hk, he⟩ := subE_ok' h
      exact ⟨e, hk, fun t v ht hv => (he t v ht hv).imp (fun q => ⟨by simp [q.1], q.2⟩) id⟩
    cases x with
    | tmp t =>
      obtain ⟨h1, h⟩ := ask_ok h
      have h1 : t < LIM := Nat.lt_of_lt_of_le (blt_lt h1) (by decide)
      rw [Tr.getK_eq] at h
      cases hg : Tr.get (bits t) E with
      | none =>
        rw [hg] at h
        exact plain h
      | some u =>
        rw [hg] at h
        replace h : Tr.setK (some u) (bits t) a (fun a => subE E xs a k) = true := h
        rw [Tr.setK_eq] at h
        obtain ⟨e, hk, he⟩ := subE_ok' h
        refine ⟨e, hk, fun t' v ht hv => ?_⟩
        rcases he t' v ht hv with q | q
        · exact .inl ⟨by simp [q.1], q.2⟩
        · rw [Tr.get_set] at q
          by_cases c : t = t'
          · subst c
            rw [if_pos rfl] at q
            exact .inl ⟨by simp, hg.trans q⟩
          · rw [if_neg fun z => c (bits_inj h1 ht z)] at q
            exact .inr q
    | const c => exact plain h
    | global g => exact plain h
    | func f => exact plain h
theorem subE_ok {E : Tr AV} {xs : List Operand} {k : Tr AV → Bool} (h : subE E xs .e k = true) : ∃ e, k e = true ∧ Sub E xs e := by
  obtain ⟨e, hk, he⟩ := subE_ok' h
  refine ⟨e, hk, fun t v ht hv => ?_⟩
  rcases he t v ht hv with q | q
  · exact q
  · rw [Tr.get_e] at q; cases q
/-- What an operation that changes the memory comes to, seen from the slots that it names. -/
def BigAt (P : Program) (fl n : Nat) (o : Oper) (e : Tr AV) (h : Hp) (v : AV) (h' : Hp) : Prop := ∀ S w0 r f w Q ops rest, f.n = n → FrOk r e f → Rel S w0 fl r h w → (∀ r' w' u, Ext r r' → real r' v = some u → Rel S w0 fl r' h' w' → RW none P ops Q rest (putO f o.dst u) w') → RW none P ops Q ({ o with guard := none } :: rest) f w
def PanAt (P : Program) (fl n : Nat) (o : Oper) (e : Tr AV) (h : Hp) (v : AV) (h' : Hp) : Prop := ∀ S w0 r f w Q ops rest, f.n = n → FrOk r e f → Rel S w0 fl r h w → (∀ r' w' u, Ext r r' → real r' v = some u → Rel S w0 fl r' h' w' → Q (.panic [{ v := u, recovered := false }]) f w') → RW none P ops Q ({ o with guard := none } :: rest) f w
theorem opHd_big (hc : CallOk P fl call) {o : Oper} {e : Tr AV} {h : Hp} {k kp : KV} (hd : ∀ t, o.dst = some t → Nat.blt t n = true) (hk : opHd o.op P fl call h e o.type k kp = true) :
    (∃ v h', k v h' = true ∧ BigAt P fl n o e h v h') ∨ (∃ v h', kp v h' = true ∧ PanAt P fl n o e h v h') := by
  rcases opHd_ok hc hk with ⟨v, h', hk, hE⟩ | ⟨v, h', hk, hE⟩ | ⟨v, h', hk, hE⟩ | ⟨v, hk, hnd, hE⟩
  · refine .inl ⟨v, h', hk, fun S w0 r f w Q ops rest hn hf hR hQ => ?_⟩
    obtain ⟨r', w', x, hx, hR', ho, hr⟩ := hE S w0 r f w hf hR
    rcases ho with ⟨u, rfl, hu⟩ | ⟨rfl, rfl⟩
    · exact RW.gen rfl (by rw [hn]; exact hd) (.inl rfl) (fun a ha => hr _ _ _ _ a ha) (hQ r' w' u hx hu hR')
    · exact RW.gen rfl (by rw [hn]; exact hd) (.inr ⟨rfl, rfl⟩) (fun a ha => hr _ _ _ _ a ha) (hQ r' w' undef hx rfl hR')
  · refine .inl ⟨v, h', hk, fun S w0 r f w Q ops rest hn hf hR hQ => ?_⟩
    obtain ⟨g, xs, hr, hC⟩ := hE S w0 r f w hf hR
    refine RW.callv rfl (by rw [hn]; exact hd) (fun a ha => hr _ _ _ _ a ha) hC fun e w' hR' => ?_
    obtain ⟨r', x, rfl, hx, hR2, hu⟩ := hR'
    exact hQ r' w' x hx hu hR2
  · refine .inr ⟨v, h', hk, fun S w0 r f w Q ops rest hn hf hR hQ => ?_⟩
    obtain ⟨g, xs, hr, hC⟩ := hE S w0 r f w hf hR
    refine RW.callv rfl (by rw [hn]; exact hd) (fun a ha => hr _ _ _ _ a ha) hC fun e w' hR' => ?_
    obtain ⟨r', x, rfl, hx, hR2, hu⟩ := hR'
    exact hQ r' w' x hx hu hR2
  · refine .inr ⟨v, h, hk, fun S w0 r f w Q ops rest hn hf hR hQ => ?_⟩
    obtain ⟨x, hx, hr⟩ := hE S w0 r f w hf hR
    exact RW.panics rfl hnd (fun a ha => hr _ _ _ _ a ha) (hQ r w x (Ext.refl r) hx hR)
noncomputable def dstOkB (n : Nat) (d : Option Tmp) : Bool := Option.rec (motive := fun _ => Bool) true (fun d => Nat.blt d n) d
theorem dstOkB_ok {d : Option Tmp} (h : dstOkB n d = true) : ∀ t, d = some t → Nat.blt t n = true := fun t e => by rw [e] at h; exact h
/-- The states between what changes the memory, the last one first. -/
inductive Sg where
  | z (h : Hp)
  | s (b : Nat) (h : Hp) (t : Sg)
noncomputable def Sg.top (g : Sg) : Hp := Sg.rec (motive := fun _ => Hp) (fun h => h) (fun _ h _ _ => h) g
noncomputable def Sg.len (g : Sg) : Nat := Sg.rec (motive := fun _ => Nat) (fun _ => 0) (fun _ _ _ n => n + 1) g
noncomputable def Sg.last (g : Sg) : Option Nat := Sg.rec (motive := fun _ => Option Nat) (fun _ => none) (fun b _ _ _ => some b) g
noncomputable def optB (f : Nat → Bool) (x : Option Nat) : Bool := Option.rec (motive := fun _ => Bool) false f x
/-- May an operation come at a stage? -/
noncomputable def feasB (ms : List Nat) (i : Nat) (nx ls : Option Nat) : Bool := ifeV (optB (fun b => bitN (nthN ms i) b) nx) false (not (optB (fun b => bitN (nthN ms b) i) ls))
noncomputable def chkK (ms : List Nat) (i c : Nat) (ev : Hp → Bool → Bool) (k : Bool) (g : Sg) : Option Nat → Nat → Bool := Sg.rec (motive := fun _ => Option Nat → Nat → Bool)
  (fun h nx s => ife (Nat.beq s c) k (ife (feasB ms i nx none) (ev h k) k))
  (fun b h _ ih nx s => ife (Nat.beq s c) (natK (Nat.pred s) fun s => ih (some b) s) (ife (feasB ms i nx (some b)) (ev h (natK (Nat.pred s) fun s => ih (some b) s)) (natK (Nat.pred s) fun s => ih (some b) s))) g
noncomputable def lastOk (ms : List Nat) (i : Nat) (last : Option Nat) : Bool := Option.rec (motive := fun _ => Bool) true (fun j => bitN (nthN ms i) j) last
noncomputable def deadK (ms : List Nat) (i : Nat) (l : List Oper) : Nat → Bool := List.rec (motive := fun _ => Nat → Bool) (fun _ => true) (fun _ _ ih j => ask (bitN (nthN ms j) i) (natK (Nat.succ j) ih)) l
noncomputable def eqD (E : Tr AV) (d : Option Tmp) (v : AV) (k : Bool) : Bool := Option.rec (motive := fun _ => Bool) k (fun d => getV d E fun u => ask (avEq v u) k) d
abbrev KP := Out → Hp → Tr AV → Sg → Nat → Bool
/-- In the order of the text. -/
noncomputable def p1 (P : Program) (fl n : Nat) (call : CallF) (ops : Array Oper) (ms : List Nat) (l : List Oper) : Nat → Tr AV → Hp → Sg → Nat → KP → Bool :=
  List.rec (motive := fun _ => Nat → Tr AV → Hp → Sg → Nat → KP → Bool) (fun _ E h G c k => k .nm h E G c)
  (fun o rest ih i E h G c k => wantK ops n o E (subE E o.op.operands.toList .e fun e => ife (bigOp P o.op)
      (ask (lastOk ms i G.last) (ask (dstOkB n o.dst) (opHd o.op P fl call h e o.type
        (fun v h' => setE n o.dst v E fun E => natK (Nat.succ i) fun i' => natK (Nat.succ c) fun c => ih i' E h' (.s i h' G) c k)
        (fun v h' => natK (Nat.succ i) fun i' => ask (deadK ms i rest i') (k (.pan v) h' E G c)))))
      (opHd o.op P fl call h e o.type (fun v _ => setE n o.dst v E fun E => natK (Nat.succ i) fun i' => ih i' E h G c fun out hx Ef Gf cf =>
        chkK ms i c (fun h r => opHd o.op P fl call h e o.type (fun w _ => eqD Ef o.dst w r) (fun _ _ => false)) (k out hx Ef Gf cf) Gf none cf) (fun _ _ => false)))
    (setE n o.dst .und E fun E => natK (Nat.succ i) fun i' => ih i' E h G c k)) l
/-- A region that draws its order. -/
noncomputable def drawK (P : Program) (fl n : Nat) (call : CallF) : DrawF := fun ops env h k => p1 P fl n call ops (masks ops.toList []) ops.toList 0 env h (.z h) 0 fun out hx Ef _ _ => Out.rec (motive := fun _ => Bool) (k .nm Ef hx) (fun _ => false) false (fun v => k (.pan v) .e hx) out
end
end Go.Proofs.YtoafcnecjgnbmaaGreatDoor.E

set_option linter.constructorNameAsVariable false
namespace Go.Proofs.YtoafcnecjgnbmaaGreatDoor.E
open Go Go.RowKit H

def Sg.bigs : Sg → List Nat
  | .z _ => []
  | .s b _ t => b :: t.bigs
/-- The later part of a row of states; which operation comes next there. -/
inductive Tail (g : Sg) (n0 : Option Nat) : Sg → Option Nat → Prop where
  | refl : Tail g n0 g n0
  | step {b h t nx} : Tail g n0 (.s b h t) nx → Tail g n0 t (some b)
theorem Tail.inv {b : Nat} {h : Hp} {t u : Sg} {n0 ny : Option Nat} (T : Tail (.s b h t) n0 u ny) : (u = .s b h t ∧ ny = n0) ∨ Tail t (some b) u ny := by
  induction T with
  | refl => exact .inl ⟨rfl, rfl⟩
  | step T ih =>
    rcases ih with ⟨e, _⟩ | ih
    · injection e with e1 e2 e3
      subst e1; subst e3
      exact .inr .refl
    · exact .inr ih.step
theorem Tail.invz {h : Hp} {u : Sg} {n0 ny : Option Nat} (T : Tail (.z h) n0 u ny) : u = .z h ∧ ny = n0 := by
  induction T with
  | refl => exact ⟨rfl, rfl⟩
  | step T ih => obtain ⟨e, _⟩ := ih; cases e
theorem Tail.len {g u : Sg} {n0 a : Option Nat} (T : Tail g n0 u a) : u.len ≤ g.len := by
  induction T with
  | refl => exact Nat.le_refl _
  | step T ih => exact Nat.le_trans (Nat.le_succ _) ih
theorem Tail.cmp : ∀ {g u v : Sg} {n0 a b : Option Nat}, Tail g n0 u a → Tail g n0 v b → u.len ≤ v.len → Tail v b u a
  | .z h, u, v, n0, a, b, T, T', _ => by
    obtain ⟨rfl, rfl⟩ := T.invz
    obtain ⟨rfl, rfl⟩ := T'.invz
    exact .refl
  | .s c h t, u, v, n0, a, b, T, T', hl => by
    rcases T'.inv with ⟨rfl, rfl⟩ | T2
    · exact T
    · rcases T.inv with ⟨rfl, rfl⟩ | T1
      · have := T2.len
        have e : (Sg.s c h t).len = t.len + 1 := rfl
        omega
      · exact T1.cmp T2 hl
theorem Tail.nx {g u : Sg} {n0 a : Option Nat} (T : Tail g n0 u a) : (u = g ∧ a = n0) ∨ ∃ c, a = some c ∧ c ∈ g.bigs ∧ u.len < g.len := by
  have sub : ∀ {u a}, Tail g n0 u a → ∀ c ∈ u.bigs, c ∈ g.bigs := by
    intro u a T
    induction T with
    | refl => exact fun c h => h
    | step T ih => exact fun c h => ih c (List.mem_cons_of_mem _ h)
  cases T with
  | refl => exact .inl ⟨rfl, rfl⟩
  | step T => exact .inr ⟨_, rfl, sub T _ (List.mem_cons_self ..), Nat.lt_of_lt_of_le (Nat.lt_succ_self _) T.len⟩
/-- Each comes behind the one before. -/
def WF (ms : List Nat) : Sg → Prop
  | .z _ => True
  | .s b _ t => (∀ c, t.last = some c → bitN (nthN ms b) c = true) ∧ WF ms t
theorem Tail.wf {ms : List Nat} {g u : Sg} {n0 a : Option Nat} (T : Tail g n0 u a) (h : WF ms g) : WF ms u := by
  induction T with
  | refl => exact h
  | step T ih => exact ih.2
theorem Tail.above {ms : List Nat} {g u : Sg} {n0 a : Option Nat} (T : Tail g n0 u a) (h : WF ms g) : (u = g ∧ a = n0) ∨ ∃ c, a = some c ∧ ∀ b, u.last = some b → bitN (nthN ms c) b = true := by
  cases T with
  | refl => exact .inl ⟨rfl, rfl⟩
  | step T => exact .inr ⟨_, rfl, (T.wf h).1⟩
theorem WF.all {ms : List Nat} {D : Nat → Prop} (hD : ∀ i, D i → ∀ j, bitN (nthN ms i) j = true → D j) : ∀ {g : Sg}, WF ms g → (∀ b, g.last = some b → D b) → ∀ c ∈ g.bigs, D c
  | .z _, _, _, c, hc => by cases hc
  | .s b h t, hw, hl, c, hc => by
    have hb := hl b rfl
    rcases List.mem_cons.1 hc with rfl | hc
    · exact hb
    · exact WF.all hD hw.2 (fun d hd => hD b hb d (hw.1 d hd)) c hc

def Feas (ms : List Nat) (i : Nat) (nx : Option Nat) (u : Sg) : Prop := (∀ b, nx = some b → bitN (nthN ms i) b = false) ∧ ∀ b, u.last = some b → bitN (nthN ms b) i = false
theorem feas_no {ms : List Nat} {i : Nat} {nx ls : Option Nat} (h : feasB ms i nx ls = false) : ¬ ((∀ b, nx = some b → bitN (nthN ms i) b = false) ∧ ∀ b, ls = some b → bitN (nthN ms b) i = false) := by
  rintro ⟨h1, h2⟩
  have e1 : optB (fun b => bitN (nthN ms i) b) nx = false := by
    cases nx with
    | none => rfl
    | some b => exact h1 b rfl
  have e2 : optB (fun b => bitN (nthN ms b) i) ls = false := by
    cases ls with
    | none => rfl
    | some b => exact h2 b rfl
  unfold feasB at h
  rw [e1, e2] at h
  cases h
theorem chkK_ok {ms : List Nat} {i c : Nat} {ev : Hp → Bool → Bool} {k : Bool} {G : Hp → Prop} (hev : ∀ h r, ev h r = true → r = true ∧ G h) : ∀ (g : Sg) (nx : Option Nat), chkK ms i c ev k g nx g.len = true → k = true ∧ ∀ u ny, Tail g nx u ny → u.len = c ∨ ¬ Feas ms i ny u ∨ G u.top := by
  intro g
  have one : ∀ (s : Nat) (nx ls : Option Nat) (h : Hp) (r : Bool), ife (Nat.beq s c) r (ife (feasB ms i nx ls) (ev h r) r) = true → r = true ∧ (s = c ∨ ¬ ((∀ b, nx = some b → bitN (nthN ms i) b = false) ∧ ∀ b, ls = some b → bitN (nthN ms b) i = false) ∨ G h) := by
    intro s nx ls h r hk
    rcases ife_ok hk with ⟨e, hk⟩ | ⟨_, hk⟩
    · exact ⟨hk, .inl (Nat.eq_of_beq_eq_true e)⟩
    rcases ife_ok hk with ⟨_, hk⟩ | ⟨e, hk⟩
    · exact ⟨(hev h r hk).1, .inr (.inr (hev h r hk).2)⟩
    · exact ⟨hk, .inr (.inl (feas_no e))⟩
  induction g with
  | z h =>
    intro nx hk
    obtain ⟨hk, h1⟩ := one _ nx none h k hk
    refine ⟨hk, fun u ny T => ?_⟩
    obtain ⟨rfl, rfl⟩ := T.invz
    exact h1
  | s b h t ih =>
    intro nx hk
    obtain ⟨hk, h1⟩ := one _ nx (some b) h _ hk
    rw [natK_eq] at hk
    obtain ⟨hk, h2⟩ := ih (some b) hk
    refine ⟨hk, fun u ny T => ?_⟩
    rcases T.inv with ⟨rfl, rfl⟩ | T
    · exact h1
    · exact h2 u ny T

noncomputable def setD (d : Option Tmp) (v : AV) (E : Tr AV) : Tr AV := match d with
  | none => E
  | some d => Tr.set (some v) (bits d) E
def DOk (n : Nat) (d : Option Tmp) : Prop := ∀ t, d = some t → Nat.blt t n = true ∧ t < 4096
theorem setE_eq {n : Nat} {d : Option Tmp} {v : AV} {E : Tr AV} {k : Tr AV → Bool} (h : setE n d v E k = true) : k (setD d v E) = true ∧ DOk n d := by
  cases d with
  | none => exact ⟨h, fun t c => by cases c⟩
  | some d =>
    obtain ⟨h1, h⟩ := ask_ok h
    obtain ⟨h2, h⟩ := ask_ok h
    rw [Tr.setK_eq] at h
    exact ⟨h, fun t c => by cases c; exact ⟨h1, blt_lt h2⟩⟩
theorem lim_of {t : Nat} (h : t < 4096) : t < LIM := Nat.lt_of_lt_of_le h (by decide)
theorem setD_ne {n : Nat} {d : Option Tmp} (hd : DOk n d) {v : AV} {E : Tr AV} {t : Nat} (ht : t < LIM) (h : d ≠ some t) : Tr.get (bits t) (setD d v E) = Tr.get (bits t) E := by
  cases d with
  | none => rfl
  | some d =>
    show Tr.get (bits t) (Tr.set (some v) (bits d) E) = _
    rw [Tr.get_set, if_neg fun c => h (by rw [bits_inj (lim_of (hd d rfl).2) ht c])]
theorem setD_eq {d : Nat} {v : AV} {E : Tr AV} : Tr.get (bits d) (setD (some d) v E) = some v := by
  show Tr.get (bits d) (Tr.set (some v) (bits d) E) = _
  rw [Tr.get_set, if_pos rfl]
def DstIs (E : Tr AV) (d : Option Tmp) (v : AV) : Prop := ∀ t, d = some t → Tr.get (bits t) E = some v
theorem eqD_ok {E : Tr AV} {d : Option Tmp} {v : AV} {k : Bool} (h : eqD E d v k = true) : k = true ∧ DstIs E d v := by
  cases d with
  | none => exact ⟨h, fun t c => by cases c⟩
  | some d =>
    obtain ⟨u, hu, h⟩ := getV_ok h
    obtain ⟨h1, h⟩ := ask_ok h
    refine ⟨h, fun t c => ?_⟩
    cases c
    rw [avEq_ok _ _ h1]
    exact hu
theorem deadK_ok {ms : List Nat} {i : Nat} : ∀ {l : List Oper} {j : Nat}, deadK ms i l j = true → ∀ m, j ≤ m → m < j + l.length → bitN (nthN ms m) i = true
  | [], j, _, m, h1, h2 => by simp at h2; omega
  | o :: l, j, h, m, h1, h2 => by
    obtain ⟨h3, h⟩ := ask_ok h
    rw [natK_eq] at h
    rcases Nat.lt_or_ge j m with c | c
    · exact deadK_ok (l := l) (j := j + 1) h m c (by simp at h2; omega)
    · have : m = j := by omega
      subst this; exact h3
theorem lastOk_ok {ms : List Nat} {i : Nat} {l : Option Nat} (h : lastOk ms i l = true) : ∀ b, l = some b → bitN (nthN ms i) b = true := fun b e => by rw [e] at h; exact h

section
variable {P : Program} {fl n : Nat} {call : CallF} {ops : Array Oper} {ms : List Nat}
/-- What is known of the operations from some place on. -/
inductive P1 (P : Program) (fl n : Nat) (ops : Array Oper) (ms : List Nat) (out : Out) (hx : Hp) (Ef : Tr AV) (Gf : Sg) (pn : Option Nat) : List Oper → Nat → Tr AV → Sg → Prop where
  | nil {i} : pn = none → out = .nm → hx = Gf.top → P1 P fl n ops ms out hx Ef Gf pn [] i Ef Gf
  | off {o rest i E G} : Wt ops n o E false → DOk n o.dst → P1 P fl n ops ms out hx Ef Gf pn rest (i + 1) (setD o.dst .und E) G → P1 P fl n ops ms out hx Ef Gf pn (o :: rest) i E G
  | small {o rest i E G e v} : Wt ops n o E true → DOk n o.dst → Sub E o.op.operands.toList e → Yo P fl o.op o.type e G.top v → (∀ u ny, Tail Gf none u ny → u.len = G.len ∨ ¬ Feas ms i ny u ∨ ∃ w, Yo P fl o.op o.type e u.top w ∧ DstIs Ef o.dst w) → P1 P fl n ops ms out hx Ef Gf pn rest (i + 1) (setD o.dst v E) G → P1 P fl n ops ms out hx Ef Gf pn (o :: rest) i E G
  | big {o rest i E G e v h'} : Wt ops n o E true → DOk n o.dst → Sub E o.op.operands.toList e → (∀ b, G.last = some b → bitN (nthN ms i) b = true) → BigAt P fl n o e G.top v h' → P1 P fl n ops ms out hx Ef Gf pn rest (i + 1) (setD o.dst v E) (.s i h' G) → P1 P fl n ops ms out hx Ef Gf pn (o :: rest) i E G
  | pan {o rest i e v} : pn = some i → out = .pan v → Wt ops n o Ef true → Sub Ef o.op.operands.toList e → (∀ b, Gf.last = some b → bitN (nthN ms i) b = true) → PanAt P fl n o e Gf.top v hx → (∀ j, i < j → j < i + 1 + rest.length → bitN (nthN ms j) i = true) → P1 P fl n ops ms out hx Ef Gf pn (o :: rest) i Ef Gf
theorem p1_ok (hc : CallOk P fl call) : ∀ {l : List Oper} {i : Nat} {E : Tr AV} {h : Hp} {G : Sg} {c : Nat} {k : KP}, h = G.top → c = G.len → p1 P fl n call ops ms l i E h G c k = true → ∃ out hx Ef Gf pn, k out hx Ef Gf Gf.len = true ∧ P1 P fl n ops ms out hx Ef Gf pn l i E G ∧ (out = .nm ∨ ∃ v, out = .pan v)
  | [], i, E, h, G, c, k, e1, e2, hk => by subst e1; subst e2; exact ⟨.nm, G.top, E, G, none, hk, .nil rfl rfl rfl, .inl rfl⟩
  | o :: rest, i, E, h, G, c, k, e1, e2, hk => by
    subst e1; subst e2
    rcases wantK_ok hk with ⟨hk, hw⟩ | ⟨hk, hw⟩
    · obtain ⟨e, hk, he⟩ := subE_ok hk
      rcases ife_ok hk with ⟨hb, hk⟩ | ⟨hb, hk⟩
      · obtain ⟨h1, hk⟩ := ask_ok hk
        obtain ⟨h2, hk⟩ := ask_ok hk
        rcases opHd_big hc (n := n) (dstOkB_ok h2) hk with ⟨v, h', hk, hB⟩ | ⟨v, h', hk, hB⟩
        · obtain ⟨hk, hd⟩ := setE_eq hk
          rw [natK_eq, natK_eq] at hk
          obtain ⟨out, hx, Ef, Gf, pn, hk, hP, ho⟩ := p1_ok hc (l := rest) (G := .s i h' G) rfl rfl hk
          exact ⟨out, hx, Ef, Gf, pn, hk, .big hw hd he (lastOk_ok h1) hB hP, ho⟩
        · rw [natK_eq] at hk
          obtain ⟨h3, hk⟩ := ask_ok hk
          exact ⟨.pan v, h', E, G, some i, hk, .pan rfl rfl hw he (lastOk_ok h1) hB (fun j a b => deadK_ok h3 j a b), .inr ⟨v, rfl⟩⟩
      · obtain ⟨v, hk, hY⟩ := small_ok hb hk
        obtain ⟨hk, hd⟩ := setE_eq hk
        rw [natK_eq] at hk
        obtain ⟨out, hx, Ef, Gf, pn, hk, hP, ho⟩ := p1_ok hc (l := rest) (G := G) rfl rfl hk
        obtain ⟨hk, hT⟩ := chkK_ok (G := fun h => ∃ w, Yo P fl o.op o.type e h w ∧ DstIs Ef o.dst w) (fun h r hr => by
          obtain ⟨w, hr, hY⟩ := small_ok hb hr
          obtain ⟨hr, hD⟩ := eqD_ok hr
          exact ⟨hr, w, hY, hD⟩) Gf none hk
        exact ⟨out, hx, Ef, Gf, pn, hk, .small hw hd he hY hT hP, ho⟩
    · obtain ⟨hk, hd⟩ := setE_eq hk
      rw [natK_eq] at hk
      obtain ⟨out, hx, Ef, Gf, pn, hk, hP, ho⟩ := p1_ok hc (l := rest) (G := G) rfl rfl hk
      exact ⟨out, hx, Ef, Gf, pn, hk, .off hw hd hP, ho⟩
end
end Go.Proofs.YtoafcnecjgnbmaaGreatDoor.E

set_option linter.constructorNameAsVariable false
namespace Go.Proofs.YtoafcnecjgnbmaaGreatDoor.E
open Go Go.RowKit H

section
variable {P : Program} {fl n : Nat} {call : CallF} {ops : Array Oper} {ms : List Nat} {out : Out} {hx : Hp} {Ef E0 : Tr AV} {Gf : Sg} {pn : Option Nat}
theorem drop_cons {l rest : List Oper} {o : Oper} {i : Nat} (h : l.drop i = o :: rest) : l[i]? = some o ∧ l.drop (i + 1) = rest := by
  have h1 : l[i]? = some o := by
    have := List.getElem?_drop (xs := l) (i := i) (j := 0)
    rw [h] at this
    simpa using this.symm
  refine ⟨h1, ?_⟩
  have := List.drop_drop (i := 1) (j := i) (l := l)
  rw [h] at this
  simpa [Nat.add_comm] using this.symm
theorem toL (i : Nat) : ops.toList[i]? = ops[i]? := by simp
/-- Nothing from i on writes the slot. -/
def Off (ops : Array Oper) (i t : Nat) : Prop := ∀ j o, i ≤ j → ops[j]? = some o → o.dst ≠ some t
theorem P1.keep {l : List Oper} {i : Nat} {E : Tr AV} {G : Sg} (h : P1 P fl n ops ms out hx Ef Gf pn l i E G) (hl : ops.toList.drop i = l) {t : Nat} (ht : t < LIM) (ho : Off ops i t) : Tr.get (bits t) Ef = Tr.get (bits t) E := by
  induction h with
  | nil => rfl
  | off hw hd _ ih =>
    obtain ⟨h1, h2⟩ := drop_cons hl
    rw [toL] at h1
    rw [ih h2 (fun j o a b => ho j o (by omega) b), setD_ne hd ht (ho _ _ (Nat.le_refl _) h1)]
  | small hw hd _ _ _ _ ih =>
    obtain ⟨h1, h2⟩ := drop_cons hl
    rw [toL] at h1
    rw [ih h2 (fun j o a b => ho j o (by omega) b), setD_ne hd ht (ho _ _ (Nat.le_refl _) h1)]
  | big hw hd _ _ _ _ ih =>
    obtain ⟨h1, h2⟩ := drop_cons hl
    rw [toL] at h1
    rw [ih h2 (fun j o a b => ho j o (by omega) b), setD_ne hd ht (ho _ _ (Nat.le_refl _) h1)]
  | pan => rfl
theorem P1.tail {l : List Oper} {i : Nat} {E : Tr AV} {G : Sg} (h : P1 P fl n ops ms out hx Ef Gf pn l i E G) : ∃ nx, Tail Gf none G nx := by
  induction h with
  | nil => exact ⟨_, .refl⟩
  | off _ _ _ ih => exact ih
  | small _ _ _ _ _ _ ih => exact ih
  | big _ _ _ _ _ _ ih => obtain ⟨nx, T⟩ := ih; exact ⟨_, T.step⟩
  | pan => exact ⟨_, .refl⟩
theorem P1.wf {l : List Oper} {i : Nat} {E : Tr AV} {G : Sg} (h : P1 P fl n ops ms out hx Ef Gf pn l i E G) (hG : WF ms G) : WF ms Gf := by
  induction h with
  | nil => exact hG
  | off _ _ _ ih => exact ih hG
  | small _ _ _ _ _ _ ih => exact ih hG
  | big _ _ _ h1 _ _ ih => exact ih ⟨h1, hG⟩
  | pan => exact hG
theorem P1.bigs {l : List Oper} {i : Nat} {E : Tr AV} {G : Sg} (h : P1 P fl n ops ms out hx Ef Gf pn l i E G) : ∀ b ∈ Gf.bigs, b ∈ G.bigs ∨ (i ≤ b ∧ b < i + l.length) := by
  induction h with
  | nil => exact fun b h => .inl h
  | off _ _ _ ih => exact fun b h => (ih b h).imp id fun q => by simp only [List.length_cons]; omega
  | small _ _ _ _ _ _ ih => exact fun b h => (ih b h).imp id fun q => by simp only [List.length_cons]; omega
  | big _ _ _ _ _ _ ih =>
    intro b h
    rcases ih b h with h | h
    · rcases List.mem_cons.1 h with rfl | h
      · exact .inr (by simp only [List.length_cons]; omega)
      · exact .inl h
    · exact .inr (by simp only [List.length_cons]; omega)
  | pan => exact fun b h => .inl h
theorem P1.pge {l : List Oper} {i : Nat} {E : Tr AV} {G : Sg} (h : P1 P fl n ops ms out hx Ef Gf pn l i E G) : ∀ p, pn = some p → i ≤ p ∧ p < i + l.length := by
  induction h with
  | nil h => intro p e; rw [h] at e; cases e
  | off _ _ _ ih => exact fun p e => by have := ih p e; simp only [List.length_cons]; omega
  | small _ _ _ _ _ _ ih => exact fun p e => by have := ih p e; simp only [List.length_cons]; omega
  | big _ _ _ _ _ _ ih => exact fun p e => by have := ih p e; simp only [List.length_cons]; omega
  | pan h => intro p e; rw [h] at e; cases e; simp only [List.length_cons]; omega
theorem P1.fin {l : List Oper} {i : Nat} {E : Tr AV} {G : Sg} (h : P1 P fl n ops ms out hx Ef Gf pn l i E G) : pn = none → out = .nm ∧ hx = Gf.top := by
  induction h with
  | nil _ h1 h2 => exact fun _ => ⟨h1, h2⟩
  | off _ _ _ ih => exact ih
  | small _ _ _ _ _ _ ih => exact ih
  | big _ _ _ _ _ _ ih => exact ih
  | pan h => intro e; rw [h] at e; cases e
/-- What an operation's slots hold: as at the end, or as at the beginning. -/
def Use (ops : Array Oper) (E0 Ef : Tr AV) (i : Nat) (o : Oper) (e : Tr AV) : Prop := ∀ t v, t < LIM → Tr.get (bits t) e = some v → Operand.tmp t ∈ o.op.operands ∧ ((∀ j o', ops[j]? = some o' → o'.dst = some t → j < i) → Tr.get (bits t) Ef = some v) ∧ ((∀ j o', ops[j]? = some o' → o'.dst = some t → i ≤ j) → Tr.get (bits t) E0 = some v)
inductive Fact (P : Program) (fl n : Nat) (ops : Array Oper) (ms : List Nat) (out : Out) (hx : Hp) (E0 Ef : Tr AV) (Gf : Sg) (pn : Option Nat) (i : Nat) (o : Oper) : Prop where
  | off : pn ≠ some i → i ∉ Gf.bigs → Wt ops n o Ef false → DOk n o.dst → DstIs Ef o.dst .und → Fact P fl n ops ms out hx E0 Ef Gf pn i o
  | small {e} : pn ≠ some i → i ∉ Gf.bigs → Wt ops n o Ef true → DOk n o.dst → Use ops E0 Ef i o e → (∀ u ny, Tail Gf none u ny → Feas ms i ny u → ∃ w, Yo P fl o.op o.type e u.top w ∧ DstIs Ef o.dst w) → Fact P fl n ops ms out hx E0 Ef Gf pn i o
  | big {e t h' nx v} : pn ≠ some i → Wt ops n o Ef true → DOk n o.dst → Use ops E0 Ef i o e → Tail Gf none (.s i h' t) nx → BigAt P fl n o e t.top v h' → DstIs Ef o.dst v → (∀ b, t.last = some b → bitN (nthN ms i) b = true) → Fact P fl n ops ms out hx E0 Ef Gf pn i o
  | pan {e v} : out = .pan v → Wt ops n o Ef true → Use ops E0 Ef i o e → (∀ b, Gf.last = some b → bitN (nthN ms i) b = true) → PanAt P fl n o e Gf.top v hx → Fact P fl n ops ms out hx E0 Ef Gf pn i o
  | dead {p} : pn = some p → bitN (nthN ms i) p = true → Fact P fl n ops ms out hx E0 Ef Gf pn i o
theorem Wt.mono {o : Oper} {E E' : Tr AV} {b : Bool} (h : Wt ops n o E b) (hg : ∀ j c t, o.guard = some (j, c) → (ops[j]?).bind (·.dst) = some t → t < 4096 → Tr.get (bits t) E' = Tr.get (bits t) E) : Wt ops n o E' b := by
  rcases h with h | ⟨j, c, t, v, h1, h2, h3, h4, h5, h6⟩
  · exact .inl h
  · exact .inr ⟨j, c, t, v, h1, h2, h3, h4, (hg j c t h1 h2 h4).trans h5, h6⟩
theorem P1.fact (hR : RegOk ops ms) {l : List Oper} {i : Nat} {E : Tr AV} {G : Sg} (h : P1 P fl n ops ms out hx Ef Gf pn l i E G) (hl : ops.toList.drop i = l) (hG : ∀ b ∈ G.bigs, b < i) (hE : ∀ t, t < LIM → (∀ j o, ops[j]? = some o → o.dst = some t → i ≤ j) → Tr.get (bits t) E = Tr.get (bits t) E0) : ∀ j o, i ≤ j → ops[j]? = some o → Fact P fl n ops ms out hx E0 Ef Gf pn j o := by
  have same : ∀ {o : Oper} {rest : List Oper} {i : Nat} {E : Tr AV} {G : Sg}, P1 P fl n ops ms out hx Ef Gf pn (o :: rest) i E G → ops.toList.drop i = o :: rest → ops[i]? = some o → ∀ b, Wt ops n o E b → Wt ops n o Ef b := by
    intro o rest i E G h hl hi b hw
    refine hw.mono fun j c t hg hj ht => h.keep hl (lim_of ht) fun k o' hk ho' hd => ?_
    have h1 := hR.bw i o j hi (hR.gd i o j c hi hg)
    cases hoj : ops[j]? with
    | none => rw [hoj] at hj; cases hj
    | some oj =>
      rw [hoj] at hj
      have := hR.one j k oj o' t hoj ho' hj hd
      omega
  have use : ∀ {o : Oper} {rest : List Oper} {i : Nat} {E e : Tr AV} {G : Sg}, P1 P fl n ops ms out hx Ef Gf pn (o :: rest) i E G → ops.toList.drop i = o :: rest → (∀ t, t < LIM → (∀ j o, ops[j]? = some o → o.dst = some t → i ≤ j) → Tr.get (bits t) E = Tr.get (bits t) E0) → Sub E o.op.operands.toList e → Use ops E0 Ef i o e := by
    intro o rest i E e G h hl hE hS t v ht hv
    obtain ⟨h1, h2⟩ := hS t v ht hv
    refine ⟨by simpa using h1, fun q => ?_, fun q => ?_⟩
    · rw [h.keep hl ht fun k o' hk ho' hd => ?_]
      · exact h2
      · have := q k o' ho' hd
        omega
    · rw [← hE t ht q]; exact h2
  have next : ∀ {o : Oper} {i : Nat} {E : Tr AV} {v : AV}, ops[i]? = some o → DOk n o.dst → (∀ t, t < LIM → (∀ j o, ops[j]? = some o → o.dst = some t → i ≤ j) → Tr.get (bits t) E = Tr.get (bits t) E0) → ∀ t, t < LIM → (∀ j o, ops[j]? = some o → o.dst = some t → i + 1 ≤ j) → Tr.get (bits t) (setD o.dst v E) = Tr.get (bits t) E0 := by
    intro o i E v hi hd hE t ht q
    rw [setD_ne hd ht fun c => by have := q i o hi c; omega]
    exact hE t ht fun j o' a b => by have := q j o' a b; omega
  have dst : ∀ {o : Oper} {rest : List Oper} {i : Nat} {E : Tr AV} {v : AV} {G : Sg}, ops[i]? = some o → ops.toList.drop (i + 1) = rest → DOk n o.dst → P1 P fl n ops ms out hx Ef Gf pn rest (i + 1) (setD o.dst v E) G → DstIs Ef o.dst v := by
    intro o rest i E v G hi hl hd h t ht
    rw [h.keep hl (lim_of (hd t ht).2) fun k o' hk ho' hdk => ?_, ht, setD_eq]
    have := hR.one i k o o' t hi ho' ht hdk
    omega
  induction h with
  | nil =>
    intro j o hj ho
    have := (Array.getElem?_eq_some_iff.1 ho).1
    have h2 := List.drop_eq_nil_iff.1 hl
    simp at h2
    omega
  | @off o rest i E G hw hd hP ih =>
    obtain ⟨h1, h2⟩ := drop_cons hl
    rw [toL] at h1
    intro j o' hj ho'
    rcases Nat.lt_or_ge i j with c | c
    · exact ih h2 (fun b hb => Nat.lt_succ_of_lt (hG b hb)) (next h1 hd hE) j o' c ho'
    · have : j = i := by omega
      subst this
      rw [h1] at ho'; cases ho'
      refine .off (fun e => ?_) (fun hb => ?_) (same (.off hw hd hP) hl h1 _ hw) hd (dst h1 h2 hd hP)
      · have := hP.pge _ e; omega
      · rcases hP.bigs _ hb with q | q
        · have := hG _ q; omega
        · omega
  | @small o rest i E G e v hw hd he hY hT hP ih =>
    obtain ⟨h1, h2⟩ := drop_cons hl
    rw [toL] at h1
    intro j o' hj ho'
    rcases Nat.lt_or_ge i j with c | c
    · exact ih h2 (fun b hb => Nat.lt_succ_of_lt (hG b hb)) (next h1 hd hE) j o' c ho'
    · have : j = i := by omega
      subst this
      rw [h1] at ho'; cases ho'
      refine .small (e := e) (fun e => ?_) (fun hb => ?_) (same (.small hw hd he hY hT hP) hl h1 _ hw) hd (use (.small hw hd he hY hT hP) hl hE he) fun u ny T hF => ?_
      · have := hP.pge _ e; omega
      · rcases hP.bigs _ hb with q | q
        · have := hG _ q; omega
        · omega
      · rcases hT u ny T with q | q | q
        · obtain ⟨nx, TG⟩ := hP.tail
          have e1 : u = G := by
            rcases (T.cmp TG (by omega)).nx with ⟨e, _⟩ | ⟨_, _, _, q2⟩
            · exact e
            · omega
          subst e1
          exact ⟨v, hY, dst h1 h2 hd hP⟩
        · exact absurd hF q
        · exact q
  | @big o rest i E G e v h' hw hd he hL hB hP ih =>
    obtain ⟨h1, h2⟩ := drop_cons hl
    rw [toL] at h1
    intro j o' hj ho'
    rcases Nat.lt_or_ge i j with c | c
    · refine ih h2 (fun b hb => ?_) (next h1 hd hE) j o' c ho'
      rcases List.mem_cons.1 hb with rfl | hb
      · exact Nat.lt_succ_self _
      · exact Nat.lt_succ_of_lt (hG b hb)
    · have : j = i := by omega
      subst this
      rw [h1] at ho'; cases ho'
      obtain ⟨nx, TG⟩ := hP.tail
      refine .big (e := e) (fun e => ?_) (same (.big hw hd he hL hB hP) hl h1 _ hw) hd (use (.big hw hd he hL hB hP) hl hE he) TG hB (dst h1 h2 hd hP) hL
      have := hP.pge _ e; omega
  | @pan o rest i e v hp ho hw he hL hB hD =>
    obtain ⟨h1, h2⟩ := drop_cons hl
    rw [toL] at h1
    intro j o' hj ho'
    rcases Nat.lt_or_ge i j with c | c
    · refine .dead hp (hD j c ?_)
      have h3 := (Array.getElem?_eq_some_iff.1 ho').1
      have h4 := congrArg List.length hl
      simp at h4
      omega
    · have : j = i := by omega
      subst this
      rw [h1] at ho'; cases ho'
      exact .pan ho hw (use (.pan hp ho hw he hL hB hD) hl hE he) hL hB

noncomputable def outE (out : Out) (E : Tr AV) : Tr AV := Out.rec (motive := fun _ => Tr AV) E (fun _ => .e) .e (fun _ => .e) out
theorem draw_ok (hm : P.follows .mixedOrders = true) (hR : RegOk ops ms) {h0 : Hp} (hP : P1 P fl n ops ms out hx Ef Gf pn ops.toList 0 E0 (.z h0)) (ho : out = .nm ∨ ∃ v, out = .pan v) (id : Nat) : CodeOk P fl n (.region id ops true) E0 h0 out (outE out Ef) hx := by
  have hl : ops.toList.drop 0 = ops.toList := by simp
  have facts := P1.fact (E0 := E0) hR hP hl (fun b hb => by cases hb) (fun t _ _ => rfl)
  have hwf := hP.wf trivial
  have hsz : ∀ j o, ops[j]? = some o → j < ops.size := fun j o h => (Array.getElem?_eq_some_iff.1 h).1
  intro M hM S w0 r f0 w Q hn0 hf0 hR0 hE
  subst hM
  have keep0 : ∀ t, t < LIM → (∀ (j : Nat) (o : Oper), ops[j]? = some o → o.dst ≠ some t) → Tr.get (bits t) Ef = Tr.get (bits t) E0 := fun t ht q => hP.keep hl ht fun j o _ => q j o
  let Inv : (Nat → Prop) → Fr → World → Prop := fun D f w => f.n = n ∧ f.ds = f0.ds ∧ (∀ i, D i → ∀ (o : Oper), ops[i]? = some o → ∀ j ∈ edgeL o, D j) ∧ (∀ p, pn = some p → ¬ D p) ∧ (∀ i, D i → i < ops.size) ∧ ∃ r' T nx, Ext r r' ∧ Tail Gf none T nx ∧ (∀ b ∈ T.bigs, D b) ∧ (∀ b, nx = some b → ¬ D b) ∧ Rel S w0 fl r' T.top w ∧
    ∀ t, t < LIM → ((∀ (j : Nat) (o : Oper), ops[j]? = some o → o.dst = some t → D j) → ∀ v, Tr.get (bits t) Ef = some v → ∃ u, real r' v = some u ∧ H.look f.e t = some u) ∧ ((∀ (j : Nat) (o : Oper), ops[j]? = some o → o.dst = some t → ¬ D j) → ∀ v, Tr.get (bits t) E0 = some v → ∃ u, real r' v = some u ∧ H.look f.e t = some u)
  refine CW_draw hm Inv (fun i o hi j hj => hR.lt i o hi j (by rwa [edgesOf_eq hi] at hj)) (fun D f w i o hi hnD hed hlt hI => ?_) (fun f w hI => ?_) (fun w' hk => ?_)
  · obtain ⟨hn, hds, hcl, hpn, hDs, r', T, nx, hx', hT, hTb, hnx, hRel, hS⟩ := hI
    rw [edgesOf_eq hi] at hed
    -- who stands before is done
    have hmaskD : ∀ i, D i → ∀ j, bitN (nthN ms i) j = true → D j := by
      intro i
      induction i using Nat.strongRecOn with
      | _ i ih =>
        intro hDi j hj
        obtain ⟨o', ho'⟩ : ∃ o', ops[i]? = some o' := ⟨ops[i]'(hDs i hDi), Array.getElem?_eq_getElem _⟩
        rcases hR.anc i o' ho' j hj with q | ⟨m, hm1, hm2⟩
        · exact hcl i hDi o' ho' j q
        · exact ih m (hR.lt i o' ho' m hm1) (hcl i hDi o' ho' m hm1) j hm2
    have hmask : ∀ j, bitN (nthN ms i) j = true → D j := by
      intro j hj
      rcases hR.anc i o hi j hj with q | ⟨m, hm1, hm2⟩
      · exact hed j q
      · exact hmaskD m (hed m hm1) j hm2
    have frame : ∀ {e}, Use ops E0 Ef i o e → FrOk r' e f := by
      intro e hU t v ht hv
      obtain ⟨h1, h2, h3⟩ := hU t v ht hv
      by_cases hw : ∃ (j : Nat) (o' : Oper), ops[j]? = some o' ∧ o'.dst = some t
      · obtain ⟨j, o', hj, hd⟩ := hw
        have uni : ∀ k o2, ops[k]? = some o2 → o2.dst = some t → k = j := fun k o2 a b => hR.one k j o2 o' t a hj b hd
        have case0 : i ≤ j → ¬ D j → ∃ u, real r' v = some u ∧ H.look f.e t = some u := fun hij hDj => (hS t ht).2 (fun k o2 a b => by rw [uni k o2 a b]; exact hDj) v (h3 fun k o2 a b => by rw [uni k o2 a b]; exact hij)
        rcases hR.use i j o o' t hi hj h1 hd with q | q | q
        · have hb := hR.bw i o j hi q
          exact (hS t ht).1 (fun k o2 a b => by rw [uni k o2 a b]; exact hmask j q) v (h2 fun k o2 a b => by rw [uni k o2 a b]; exact hb)
        · have hb := hR.bw j o' i hj q
          exact case0 (by omega) fun c => hnD (hmaskD j c i q)
        · subst q; exact case0 (Nat.le_refl _) hnD
      · have hno : ∀ (j : Nat) (o' : Oper), ops[j]? = some o' → o'.dst = some t → False := fun j o' a b => hw ⟨j, o', a, b⟩
        exact (hS t ht).1 (fun j o' a b => (hno j o' a b).elim) v (h2 fun j o' a b => (hno j o' a b).elim)
    have guard : ∀ j c t v, o.guard = some (j, c) → (ops[j]?).bind (·.dst) = some t → t < 4096 → Tr.get (bits t) Ef = some v → ∃ u, real r' v = some u ∧ H.look f.e t = some u := by
      intro j c t v hg hj ht hv
      have hDj := hmask j (hR.gd i o j c hi hg)
      cases hoj : ops[j]? with
      | none => rw [hoj] at hj; cases hj
      | some oj =>
        rw [hoj] at hj
        exact (hS t (lim_of ht)).1 (fun k o2 a b => by rw [hR.one k j o2 oj t a hoj b hj]; exact hDj) v hv
    -- the state behind the operation
    have step : ∀ {r2 T2 nx2 w2 v u}, pn ≠ some i → DOk n o.dst → Ext r' r2 → Tail Gf none T2 nx2 → (∀ b ∈ T2.bigs, b = i ∨ D b) → (∀ b, nx2 = some b → ¬ (b = i ∨ D b)) → Rel S w0 fl r2 T2.top w2 → real r2 v = some u → DstIs Ef o.dst v → Inv (fun j => j = i ∨ D j) (putO f o.dst u) w2 := by
      intro r2 T2 nx2 w2 v u hp hd hx2 hT2 hb2 hn2 hR2 hu hD
      refine ⟨(putO_n _ _ _).1.trans hn, (putO_n _ _ _).2.trans hds, fun k hk o' ho' j hj => ?_, fun p e c => ?_, fun k hk => ?_, r2, T2, nx2, hx'.trans hx2, hT2, hb2, hn2, hR2, fun t ht => ?_⟩
      · rcases hk with rfl | hk
        · rw [hi] at ho'; cases ho'
          exact .inr (hed j hj)
        · exact .inr (hcl k hk o' ho' j hj)
      · rcases c with rfl | c
        · exact hp e
        · exact hpn p e c
      · rcases hk with rfl | hk
        · exact hsz _ _ hi
        · exact hDs k hk
      · by_cases hdt : o.dst = some t
        · have hlook : H.look (putO f o.dst u).e t = some u := by rw [hdt]; simp [putO, Fr.put, H.look, beq_self]
          refine ⟨fun _ v' hv' => ?_, fun q => (q i o hi hdt (.inl rfl)).elim⟩
          rw [hD t hdt] at hv'; cases hv'
          exact ⟨u, hu, hlook⟩
        · have hlook : H.look (putO f o.dst u).e t = H.look f.e t := by
            cases hod : o.dst with
            | none => rfl
            | some d => simp only [putO, Fr.put, H.look]; rw [beq_ne fun c => hdt (by rw [hod, c])]
          have lift : ∀ {v'}, (∃ u, real r' v' = some u ∧ H.look f.e t = some u) → ∃ u', real r2 v' = some u' ∧ H.look (putO f o.dst u).e t = some u' := fun ⟨u', a, b⟩ => ⟨u', real_mono hx2 _ _ a, hlook.trans b⟩
          refine ⟨fun q v' hv' => lift ((hS t ht).1 (fun j o' a b => ?_) v' hv'), fun q v' hv' => lift ((hS t ht).2 (fun j o' a b => fun c => q j o' a b (.inr c)) v' hv')⟩
          rcases q j o' a b with rfl | q
          · rw [hi] at a; cases a; exact absurd b hdt
          · exact q
    have stay : i ∉ Gf.bigs → ∀ b, nx = some b → ¬ (b = i ∨ D b) := by
      rintro hb b e (rfl | c)
      · rcases hT.nx with ⟨_, e2⟩ | ⟨c, e2, h2, _⟩
        · rw [e] at e2; cases e2
        · rw [e] at e2; cases e2; exact hb h2
      · exact hnx b e c
    have want : Wt ops n o Ef true → RW none P ops (thenK (fun f' w' => Inv (fun j => j = i ∨ D j) f' w') Q) [{ o with guard := none }] f w → RW none P ops (thenK (fun f' w' => Inv (fun j => j = i ∨ D j) f' w') Q) [o] f w := by
      intro hw k
      rcases hw with ⟨hg, _⟩ | ⟨j, c, t, v, hg, hj, ht, ht2, hv, h1, _⟩
      · have e : ({ o with guard := none } : Oper) = o := by cases o; cases hg; rfl
        rw [e] at k; exact k
      · obtain ⟨u, hu, hlk⟩ := guard j c t v hg hj ht2 hv
        rw [h1 rfl] at hu
        cases hu
        exact RW.pass hg hj (by rw [hn]; exact ht) hlk k
    cases facts i o (Nat.zero_le _) hi with
    | off hp hb hw hd hD =>
      rcases hw with ⟨_, c⟩ | ⟨j, c, t, v, hg, hj, ht, ht2, hv, _, h2⟩
      · cases c
      · obtain ⟨u, hu, hlk⟩ := guard j c t v hg hj ht2 hv
        have hu2 : u = .bool (!c) ∨ u = undef := by
          rcases h2 rfl with rfl | rfl
          · exact .inl (real_bool hu)
          · cases hu; exact .inr rfl
        exact RW.miss hg hj (by rw [hn]; exact ht) hlk hu2 (fun t e => by rw [hn]; exact (hd t e).1) (RW.nil (step (v := .und) hp hd (Ext.refl _) hT (fun b hb => .inr (hTb b hb)) (stay hb) hRel rfl hD))
    | @small e hp hb hw hd hU hY =>
      obtain ⟨v, hY, hD⟩ := hY T nx hT ⟨fun b e => by
          rw [Bool.eq_false_iff]
          exact fun c => hnx b e (hmask b c), fun b e => by
          rw [Bool.eq_false_iff]
          refine fun c => hnD (hmaskD b (hTb b ?_) i c)
          cases T with
          | z h => cases e
          | s b' h t => cases e; exact List.mem_cons_self ..⟩
      obtain ⟨u, hu, hr⟩ := hY S w0 r' f w (frame hU) hRel
      exact want hw (RW.gen (o := { o with guard := none }) rfl (fun t e => by rw [hn]; exact (hd t e).1) (.inl rfl) (fun a ha => hr _ _ _ _ a ha) (RW.nil (step hp hd (Ext.refl _) hT (fun b hb => .inr (hTb b hb)) (stay hb) hRel hu hD)))
    | @big e t h' nx2 v hp hw hd hU hT2 hB hD hL =>
      have hTt : Tail Gf none t (some i) := hT2.step
      have key : T = t ∧ nx = some i := by
        rcases Nat.le_total T.len t.len with hle | hle
        · rcases (hT.cmp hTt hle).nx with q | ⟨c, e, hc, _⟩
          · exact q
          · exact (hnx c e (WF.all hmaskD (hTt.wf hwf) (fun b hb => hmask b (hL b hb)) c hc)).elim
        · rcases (hTt.cmp hT hle).nx with ⟨q1, q2⟩ | ⟨c, e, hc, _⟩
          · exact ⟨q1.symm, q2.symm⟩
          · cases e; exact (hnD (hTb _ hc)).elim
      obtain ⟨rfl, rfl⟩ := key
      refine want hw (hB S w0 r' f w _ ops [] hn (frame hU) hRel fun r2 w2 u hx2 hu hR2 => RW.nil (step (T2 := .s i h' T) (nx2 := nx2) hp hd hx2 hT2 (fun b hb => ?_) (fun b e => ?_) hR2 hu hD))
      · rcases List.mem_cons.1 hb with q | q
        · exact .inl q
        · exact .inr (hTb b q)
      · rcases hT2.above hwf with ⟨_, e2⟩ | ⟨c, e2, hc⟩
        · rw [e2] at e; cases e
        · rw [e2] at e; cases e
          have hci := hc i rfl
          rintro (rfl | c1)
          · have := hR.bw _ o _ hi hci
            omega
          · exact hnD (hmaskD _ c1 i hci)
    | @pan e v hout hw hU hL hB =>
      have key : T = Gf := by
        rcases hT.nx with ⟨q, _⟩ | ⟨c, e, hc, _⟩
        · exact q
        · exact (hnx c e (WF.all hmaskD hwf (fun b hb => hmask b (hL b hb)) c hc)).elim
      subst key
      subst hout
      refine want hw (hB S w0 r' f w _ ops [] hn (frame hU) hRel fun r2 w2 u hx2 hu hR2 => ?_)
      exact hE r2 f w2 hn hds (hx'.trans hx2) (fun t v _ hv => by
        have : Tr.get (bits t) (.e : Tr AV) = some v := hv
        rw [Tr.get_e] at this; cases this) hR2 u hu
    | dead hp hb => exact (hpn _ hp (hmask _ hb)).elim
  · obtain ⟨hn, hds, hcl, hpn, hDs, r', T, nx, hx', hT, hTb, hnx, hRel, hS⟩ := hI
    have hp : pn = none := by
      cases hpe : pn with
      | none => rfl
      | some p =>
        have := hP.pge p hpe
        exact (hpn p hpe (by simp at this; omega)).elim
    obtain ⟨rfl, rfl⟩ := hP.fin hp
    have key : T = Gf := by
      rcases hT.nx with ⟨q, _⟩ | ⟨c, e, hc, _⟩
      · exact q
      · have h1 : c < ops.size := by
          rcases hP.bigs c hc with q | q
          · cases q
          · simp at q; omega
        exact (hnx c e h1).elim
    subst key
    exact hE r' f w hn hds hx' (fun t v ht hv => (hS t ht).1 (fun j o a _ => hsz j o a) v hv) hRel
  · have hR1 := hR0.same hk
    obtain ⟨nx, hT⟩ := hP.tail
    refine ⟨hn0, rfl, fun i c => c.elim, fun p _ c => c, fun i c => c.elim, r, .z h0, nx, Ext.refl r, hT, (fun b hb => by cases hb), fun b _ c => c, hR1, fun t ht => ⟨fun q v hv => ?_, fun _ v hv => hf0 t v ht hv⟩⟩
    exact hf0 t v ht (by rw [← keep0 t ht fun j o a b => q j o a b]; exact hv)
end
end Go.Proofs.YtoafcnecjgnbmaaGreatDoor.E

set_option linter.constructorNameAsVariable false
namespace Go.Proofs.YtoafcnecjgnbmaaGreatDoor.E
open Go Go.RowKit H

noncomputable def maskL (l : List Oper) : List Nat → (List Nat → Bool) → Bool := List.rec (motive := fun _ => List Nat → (List Nat → Bool) → Bool) (fun ms k => k ms) (fun o _ ih ms k => natK (maskO ms o) fun m => catK ms [m] fun ms => ih ms k) l
theorem maskL_eq : ∀ (l : List Oper) (ms : List Nat) (k : List Nat → Bool), maskL l ms k = k (masks l ms)
  | [], ms, k => rfl
  | o :: l, ms, k => by
    show natK (maskO ms o) (fun m => catK ms [m] fun ms => maskL l ms k) = _
    rw [natK_eq, catK_eq, maskL_eq l]
    rfl
noncomputable def allI (f : Nat → Oper → Bool) (l : List Oper) : Nat → Bool := List.rec (motive := fun _ => Nat → Bool) (fun _ => true) (fun o _ ih i => ifeV (f i o) (natK (Nat.succ i) ih) false) l
theorem allI_ok {f : Nat → Oper → Bool} : ∀ {l : List Oper} {i : Nat}, allI f l i = true → ∀ j o, l[j]? = some o → f (i + j) o = true
  | [], _, _, j, o, h => by simp at h
  | a :: l, i, h, j, o, hj => by
    obtain ⟨h1, h⟩ := and_ok h
    rw [natK_eq] at h
    cases j with
    | zero => simp at hj; subst hj; exact h1
    | succ j =>
      have := allI_ok (l := l) h j o (by simpa using hj)
      rw [← this]; congr 1; omega
noncomputable def edgesB (i : Nat) (l : List Nat) : Bool := List.rec (motive := fun _ => Bool) true (fun e _ ih => ifeV (Nat.blt e i) ih false) l
theorem edgesB_ok {i : Nat} : ∀ {l : List Nat}, edgesB i l = true → ∀ j ∈ l, j < i
  | [], _, j, hj => by cases hj
  | e :: l, h, j, hj => by
    obtain ⟨h1, h⟩ := and_ok h
    rcases List.mem_cons.1 hj with rfl | hj
    · exact blt_lt h1
    · exact edgesB_ok (l := l) h j hj
noncomputable def guardB (ms : List Nat) (i : Nat) (g : Option (Nat × Bool)) : Bool := Option.rec (motive := fun _ => Bool) true (fun g => bitN (nthN ms i) g.1) g
noncomputable def usesT (t : Nat) (xs : List Operand) : Bool := List.rec (motive := fun _ => Bool) false (fun x _ ih => Operand.rec (motive := fun _ => Bool) (fun s => ifeV (Nat.beq s t) true ih) (fun _ => ih) (fun _ => ih) (fun _ => ih) x) xs
theorem usesT_ok {t : Nat} : ∀ {xs : List Operand}, Operand.tmp t ∈ xs → usesT t xs = true
  | [], h => by cases h
  | x :: xs, h => by
    rcases List.mem_cons.1 h with rfl | h
    · show ifeV (Nat.beq t t) true _ = true
      rw [beq_self]; rfl
    · have ih := usesT_ok h
      cases x with
      | tmp s =>
        show ifeV (Nat.beq s t) true (usesT t xs) = true
        rw [ih]; cases Nat.beq s t <;> rfl
      | _ => exact ih
noncomputable def pairB (ms : List Nat) (i : Nat) (oi : Oper) (j : Nat) (oj : Oper) : Bool := Option.rec (motive := fun _ => Bool) true (fun t => ifeV (Option.rec (motive := fun _ => Bool) true (fun d => ifeV (Nat.beq d t) (Nat.beq i j) true) oi.dst)
  (ifeV (usesT t oi.op.operands.toList) (ifeV (bitN (nthN ms i) j) true (ifeV (bitN (nthN ms j) i) true (Nat.beq j i))) true) false) oj.dst
noncomputable def regB (ops : Array Oper) : Bool := maskL ops.toList [] fun ms => allI (fun i o => ifeV (edgesB i (edgeL o)) (ifeV (guardB ms i o.guard) (allI (fun j oj => pairB ms i o j oj) ops.toList 0) false) false) ops.toList 0

theorem nthN_eq : ∀ (l : List Nat) (i : Nat), nthN l i = l.getD i 0
  | [], _ => rfl
  | _ :: _, 0 => rfl
  | _ :: l, i + 1 => nthN_eq l i
theorem masks_cons (o : Oper) (l : List Oper) (a : List Nat) : masks (o :: l) a = masks l (a ++ [maskO a o]) := rfl
theorem masks_pre : ∀ (l : List Oper) (a : List Nat) (e : Nat), e < a.length → nthN (masks l a) e = nthN a e
  | [], a, e, _ => rfl
  | o :: l, a, e, h => by
    rw [masks_cons, masks_pre l _ e (by simp; omega), nthN_eq, nthN_eq, List.getD_eq_getElem?_getD, List.getD_eq_getElem?_getD, List.getElem?_append_left h]
theorem masks_at : ∀ (l : List Oper) (a : List Nat) (j : Nat) (o : Oper), l[j]? = some o → ∃ pre : List Nat, pre.length = a.length + j ∧ nthN (masks l a) (a.length + j) = maskO pre o ∧ ∀ e, e < pre.length → nthN (masks l a) e = nthN pre e
  | [], a, j, o, h => by simp at h
  | x :: l, a, 0, o, h => by
    simp at h; subst h
    refine ⟨a, rfl, ?_, fun e he => masks_pre _ _ e he⟩
    rw [masks_cons, masks_pre _ _ _ (by simp), nthN_eq]
    simp
  | x :: l, a, j + 1, o, h => by
    obtain ⟨pre, h1, h2, h3⟩ := masks_at l (a ++ [maskO a x]) j o (by simpa using h)
    simp only [List.length_append, List.length_cons, List.length_nil, Nat.zero_add] at h1 h2
    refine ⟨pre, by omega, ?_, h3⟩
    rw [masks_cons, ← h2]; congr 1; omega
theorem maskO_bit {pre : List Nat} {o : Oper} {j : Nat} (h : bitN (maskO pre o) j = true) : j ∈ edgeL o ∨ ∃ m ∈ edgeL o, bitN (nthN pre m) j = true := by
  unfold maskO at h
  generalize edgeL o = l at h
  induction l with
  | nil => exact absurd h (by simp [bitN])
  | cons e l ih =>
    have e1 : bitN (Nat.lor (Nat.shiftLeft 1 e) (Nat.lor (nthN pre e) (List.rec (motive := fun _ => Nat) 0 (fun e _ acc => Nat.lor (Nat.shiftLeft 1 e) (Nat.lor (nthN pre e) acc)) l))) j = true := h
    have e2 : ∀ a b : Nat, bitN (Nat.lor a b) j = (bitN a j || bitN b j) := fun a b => Nat.testBit_or a b j
    rw [e2, e2, Bool.or_eq_true, Bool.or_eq_true] at e1
    rcases e1 with q | q | q
    · have : Nat.testBit (1 <<< e) j = true := q
      rw [Nat.one_shiftLeft, Nat.testBit_two_pow] at this
      have := of_decide_eq_true this
      subst this
      exact .inl (List.mem_cons_self ..)
    · exact .inr ⟨e, List.mem_cons_self .., q⟩
    · rcases ih q with q | ⟨m, h1, h2⟩
      · exact .inl (List.mem_cons_of_mem _ q)
      · exact .inr ⟨m, List.mem_cons_of_mem _ h1, h2⟩
theorem regB_ok {ops : Array Oper} (h : regB ops = true) : RegOk ops (masks ops.toList []) := by
  unfold regB at h
  rw [maskL_eq] at h
  have at_ : ∀ i o, ops[i]? = some o → edgesB i (edgeL o) = true ∧ guardB (masks ops.toList []) i o.guard = true ∧ ∀ j oj, ops[j]? = some oj → pairB (masks ops.toList []) i o j oj = true := by
    intro i o hi
    have h1 := allI_ok h i o (by rw [toL]; exact hi)
    rw [Nat.zero_add] at h1
    obtain ⟨h2, h1⟩ := and_ok h1
    obtain ⟨h3, h1⟩ := and_ok h1
    refine ⟨h2, h3, fun j oj hj => ?_⟩
    have := allI_ok h1 j oj (by rw [toL]; exact hj)
    rwa [Nat.zero_add] at this
  have lt : ∀ (i : Nat) (o : Oper), ops[i]? = some o → ∀ j ∈ edgeL o, j < i := fun i o hi => edgesB_ok (at_ i o hi).1
  have anc : ∀ (i : Nat) (o : Oper), ops[i]? = some o → ∀ j, bitN (nthN (masks ops.toList []) i) j = true → j ∈ edgeL o ∨ ∃ m ∈ edgeL o, bitN (nthN (masks ops.toList []) m) j = true := by
    intro i o hi j hj
    obtain ⟨pre, h1, h2, h3⟩ := masks_at ops.toList [] i o (by rw [toL]; exact hi)
    simp only [List.length_nil, Nat.zero_add] at h1 h2
    rw [h2] at hj
    rcases maskO_bit hj with q | ⟨m, q1, q2⟩
    · exact .inl q
    · exact .inr ⟨m, q1, by rw [h3 m (by have := lt i o hi m q1; omega)]; exact q2⟩
  have pair : ∀ (i j : Nat) (oi oj : Oper) (t : Tmp), ops[i]? = some oi → ops[j]? = some oj → oj.dst = some t → (∀ d, oi.dst = some d → d = t → i = j) ∧ (Operand.tmp t ∈ oi.op.operands → bitN (nthN (masks ops.toList []) i) j = true ∨ bitN (nthN (masks ops.toList []) j) i = true ∨ j = i) := by
    intro i j oi oj t hi hj ht
    have h1 := (at_ i oi hi).2.2 j oj hj
    unfold pairB at h1
    rw [ht] at h1
    obtain ⟨h2, h1⟩ := and_ok h1
    refine ⟨fun d hd e => ?_, fun hu => ?_⟩
    · subst e
      rw [hd] at h2
      replace h2 : ifeV (Nat.beq d d) (Nat.beq i j) true = true := h2
      rw [beq_self] at h2
      exact Nat.eq_of_beq_eq_true h2
    · rw [usesT_ok (by simpa using hu)] at h1
      replace h1 : ifeV (bitN (nthN (masks ops.toList []) i) j) true (ifeV (bitN (nthN (masks ops.toList []) j) i) true (Nat.beq j i)) = true := h1
      cases h4 : bitN (nthN (masks ops.toList []) i) j with
      | true => exact .inl rfl
      | false =>
        rw [h4] at h1
        cases h5 : bitN (nthN (masks ops.toList []) j) i with
        | true => exact .inr (.inl rfl)
        | false =>
          rw [h5] at h1
          exact .inr (.inr (Nat.eq_of_beq_eq_true h1))
  refine ⟨lt, anc, fun i j oi oj d hi hj hdi hdj => (pair i j oi oj d hi hj hdj).1 d hdi rfl, fun i j oi oj t hi hj hu hd => (pair i j oi oj t hi hj hd).2 hu, fun i o j b hi hg => ?_, ?_⟩
  · have := (at_ i o hi).2.1
    rw [hg] at this
    exact this
  · intro i
    induction i using Nat.strongRecOn with
    | _ i ih =>
      intro o j hi hj
      rcases anc i o hi j hj with q | ⟨m, q1, q2⟩
      · exact lt i o hi j q
      · have hm := lt i o hi m q1
        have hsz := (Array.getElem?_eq_some_iff.1 hi).1
        have := ih m hm (ops[m]'(by omega)) j (Array.getElem?_eq_getElem _) q2
        omega
/-- A region as wanted. -/
def RG (ops : Array Oper) : Prop := RegOk ops (masks ops.toList [])
noncomputable def codeB (c : Code) : Bool := Code.rec (motive := fun _ => Bool) true (fun _ ops d => ifeV d (regB ops) true) (fun _ _ a b => ifeV a b false) (fun _ _ _ a b => ifeV a b false) (fun _ _ a => a) (fun _ a => a)
  (fun _ _ _ _ _ _ => true) (fun _ => true) (fun _ _ => true) (fun _ => true) (fun _ => true) true (fun _ => true) c
theorem codeB_ok : ∀ (c : Code), codeB c = true → Regs RG c := by
  intro c
  induction c with
  | region id ops d =>
    intro h
    cases d with
    | true => exact regB_ok h
    | false => trivial
  | seq a b ia ib => exact fun h => ⟨ia (and_ok h).1, ib (and_ok h).2⟩
  | cond x a b ia ib => exact fun h => ⟨ia (and_ok h).1, ib (and_ok h).2⟩
  | block i a ia => exact fun h => ia h
  | loop a ia => exact fun h => ia h
  | _ => intro _; trivial
noncomputable def funsB (l : List Func) : Bool := List.rec (motive := fun _ => Bool) true (fun fn _ ih => ifeV (Option.rec (motive := fun _ => Bool) true codeB fn.body) ih false) l
theorem funsB_ok : ∀ {l : List Func}, funsB l = true → ∀ fn ∈ l, ∀ c, fn.body = some c → Regs RG c
  | [], _, fn, h, _, _ => by cases h
  | f :: l, h, fn, hf, c, hc => by
    obtain ⟨h1, h⟩ := and_ok h
    rcases List.mem_cons.1 hf with rfl | hf
    · rw [hc] at h1
      exact codeB_ok c h1
    · exact funsB_ok h fn hf c hc
theorem allRegs {P : Program} (h : funsB P.funcs.toList = true) : AllRegs P RG := fun f fn c hf hc => funsB_ok h fn (by
  have := Array.mem_of_getElem? hf
  simpa using this) c hc
theorem drawK_ok {P : Program} {fl : Nat} (hm : P.follows .mixedOrders = true) (n : Nat) (call : CallF) (hc : CallOk P fl call) : DrawOk P fl n RG (drawK P fl n call) := by
  intro ops env h k hG hk
  obtain ⟨out, hx, Ef, Gf, pn, hk, hP, ho⟩ := p1_ok hc (G := .z h) rfl rfl hk
  refine ⟨out, outE out Ef, hx, ?_, fun id => draw_ok hm hG hP ho id⟩
  rcases ho with rfl | ⟨v, rfl⟩ <;> exact hk
end Go.Proofs.YtoafcnecjgnbmaaGreatDoor.E

set_option linter.constructorNameAsVariable false
namespace Go.Proofs.YtoafcnecjgnbmaaGreatDoor.E
open Go Go.RowKit H

section
variable {P : Program} {env : Tr AV} {ty : TypeId}
theorem evF_ok {x : Operand} {k : AV → Bool} (hk : evK 0 ⟨0, .e⟩ env x k = true) : ∃ v, k v = true ∧ ∀ (r : Ren) f, FrOk r env f → ∃ u, real r v = some u ∧ f.ev x = some u := by
  cases x with
  | tmp t =>
    obtain ⟨h1, h2⟩ := ask_ok hk
    obtain ⟨v, hv, h3⟩ := getV_ok h2
    have := blt_lt h1
    exact ⟨v, h3, fun r f hf => hf t v (Nat.lt_of_lt_of_le this (by decide)) hv⟩
  | const c =>
    obtain ⟨v, hv, h3⟩ := someK_ok hk
    exact ⟨v, h3, fun r f _ => ⟨c, ofV_ok hv r, rfl⟩⟩
  | global g => cases hk
  | func f => exact ⟨_, hk, fun r fr _ => ⟨_, by simp [real, reals], rfl⟩⟩
theorem fillF_ok {place : Nat → (Nat → Nat → Bool) → Bool} {pl : Nat → Option (Nat × Nat)} (hpl : ∀ i k, place i k = true → ∃ o s, pl i = some (o, s) ∧ k o s = true) : ∀ {ps : List (Nat × Operand)} {cs : List AV} {k : List AV → Bool}, fillK 0 ⟨0, .e⟩ env place ps cs k = true →
    ∃ cs', k cs' = true ∧ cs'.length = cs.length ∧ ∀ (r : Ren) f, FrOk r env f → ∀ us, reals r cs = some us → ∃ us', reals r cs' = some us' ∧ ∀ a, Ag f a → Instr.fill pl us.toArray (ps.map fun p => (p.1, a.eval p.2)) = some us'.toArray
  | [], cs, k, hk => ⟨cs, hk, rfl, fun r f _ us hus => ⟨us, hus, fun a _ => rfl⟩⟩
  | (i, x) :: ps, cs, k, hk => by
    obtain ⟨o, s, hp, hk⟩ := hpl _ _ hk
    obtain ⟨v, hk, h2⟩ := evF_ok hk
    rw [cellsOf_eq, lenK_eq] at hk
    obtain ⟨hs, hk⟩ := ask_ok hk
    have hs := Nat.eq_of_beq_eq_true hs
    obtain ⟨hlen, hk⟩ := putK_ok hk
    obtain ⟨cs', h3, h4, h5⟩ := fillF_ok hpl (ps := ps) hk
    refine ⟨cs', h3, h4.trans (by simp; omega), fun r f hf us hus => ?_⟩
    obtain ⟨u, hu, hx⟩ := h2 r f hf
    obtain ⟨xs, hxs, hc⟩ := real_cells hu
    have hl := reals_len hxs
    have hl2 := reals_len hus
    obtain ⟨us', h6, h7⟩ := h5 r f hf _ (reals_splice o v.cells.length hus hxs)
    refine ⟨us', h6, fun a ha => ?_⟩
    rw [List.map_cons, ha.eval hx]
    rw [fill_one s o pl i u us.toArray _ hp (by rw [hc]; simp; omega) (by simp; omega)]
    rw [← h7 a ha, hc]
    simp [hs]
/-- An operation that makes a block of given cells. -/
def Fo (P : Program) (op : Op) (ty : TypeId) (env : Tr AV) (t : TypeId) (cs : List AV) (mk : Nat → Value) : Prop := ∀ (r : Ren) f (w : World), FrOk r env f → ∃ us, reals r cs = some us ∧ Run2 P op ty f (.value (mk w.heap.size)) w (w.alloc (.cells us.toArray t))
def NmV (vn : Nat → AV) (mk : Nat → Value) : Prop := ∀ (r : Ren) i p, r i = some p → real r (vn i) = some (mk p.1)
noncomputable def frK (P : Program) (env : Tr AV) (k : TypeId → List AV → (Nat → AV) → Bool) (o : Op) : Bool := match o with
  | .alloc t => infoK P t fun i => someK i.zero fun z => someK (ofV z) fun v => cellsOf v fun cs => k t cs fun i => .ptr i 0
  | .buildSlice t len ps => tyK P t fun d => isSliceT d fun e => zerosK P e len fun s cs => ask (Nat.ble (Nat.mul len s) 65536) (fillK 0 ⟨0, .e⟩ env (fun i k => k (Nat.mul i s) s) ps.toList cs fun cs => k e cs fun i => .sl i 0 len len)
  | .makeSlice t x y => evK 0 ⟨0, .e⟩ env x fun a => evK 0 ⟨0, .e⟩ env y fun b => natOf a fun l => natOf b fun c => tyK P t fun d => isSliceT d fun e => infoK P e fun i => ask (Nat.ble l c) (ask (Nat.ble c 1000000) (ask (Nat.ble (Nat.mul c i.bytes) 281474976710656) (zerosK P e c fun _ ys => k e ys fun j => .sl j 0 l c)))
  | _ => false
theorem frK_ok {o : Op} {k : TypeId → List AV → (Nat → AV) → Bool} (hk : frK P env k o = true) : ∃ t cs vn mk, k t cs vn = true ∧ Fo P o ty env t cs mk ∧ NmV vn mk := by
  cases o <;> first | (cases hk; done) | skip
  case alloc t =>
    obtain ⟨inf, hi, hk⟩ := infoK_ok hk
    obtain ⟨z, hz, hk⟩ := someK_ok hk
    obtain ⟨v, hv, hk⟩ := someK_ok hk
    rw [cellsOf_eq] at hk
    refine ⟨_, _, _, fun g => .pointer (some ⟨g, 0, none⟩), hk, fun r f w hf => ?_, fun r i p h => by simp [real, h]⟩
    obtain ⟨us, hus, hc⟩ := real_cells (ofV_ok hv r)
    refine ⟨us, hus, fun _ _ _ _ a ha => ?_⟩
    simp [execOp, Instr.alloc, run_zero hi hz, newVar, newRow, newObj, Sem.run, hc]
  case buildSlice t len ps =>
    obtain ⟨d, hd, hk⟩ := tyK_ok hk
    obtain ⟨e, rfl, hk1⟩ := isSliceT_ok hk
    obtain ⟨i, cs, hk, hi, h0, hcl, z, hz, hzs, hcs⟩ := zerosK_ok hk1
    obtain ⟨hb, hk⟩ := ask_ok hk
    have hb := ble_le hb
    obtain ⟨cs', hk, hlen, h2⟩ := fillF_ok (pl := fun j => some (j * i.size, i.size)) (fun i k hk => ⟨_, _, rfl, hk⟩) hk
    refine ⟨_, _, _, fun g => .slice (some ⟨g, 0, none⟩) len len, hk, fun r f w hf => ?_, fun r i p h => by simp [real, h]⟩
    obtain ⟨us, hus, hc⟩ := hcs r
    obtain ⟨us', h3, h4⟩ := h2 r f hf us hus
    refine ⟨us', h3, fun _ _ _ _ a ha => ?_⟩
    have hbig : ¬ (len * i.size > 2 ^ 24) := by have : len * i.size ≤ 65536 := hb; omega
    simp only [execOp, Instr.buildSlice, Sem.run_bind, run_underlying hd, run_size hi, Result.andThen_ok, if_neg hbig, parts_list]
    by_cases c : len * i.size = 0
    · have hl : len = 0 := (Nat.mul_eq_zero.1 c).resolve_right h0
      have hu : us = [] := by
        have := reals_len hus
        rw [hcl, c] at this
        exact List.length_eq_zero_iff.1 this
      have h4 := h4 a ha
      rw [hu] at h4
      have e0 : ∀ f : Nat → Value, (Array.range 0).map f = ([] : List Value).toArray := fun f => by apply Array.ext'; simp
      simp only [c, if_true, Sem.run_pure, Result.andThen_ok, e0, h4]
      simp [newRow, newObj, Sem.run]
    · simp only [if_neg c, Sem.run_bind, run_zero hi hz, Result.andThen_ok, Sem.run_pure, hc, h4 a ha]
      simp [newRow, newObj, Sem.run]
  case makeSlice t x y =>
    obtain ⟨a, hk, h2⟩ := evF_ok hk
    obtain ⟨b, hk, h3⟩ := evF_ok hk
    obtain ⟨ka, l, rfl, hka⟩ := natOf_ok hk
    obtain ⟨kb, c, rfl, hkb⟩ := natOf_ok hka
    obtain ⟨d, hd, hk⟩ := tyK_ok hkb
    obtain ⟨e, rfl, hk1⟩ := isSliceT_ok hk
    obtain ⟨i, hi, hk2⟩ := infoK_ok hk1
    obtain ⟨q1, hk3⟩ := ask_ok hk2
    obtain ⟨q2, hk4⟩ := ask_ok hk3
    obtain ⟨q3, hk5⟩ := ask_ok hk4
    have q1 := ble_le q1
    have q2 := ble_le q2
    have q3 : c * i.bytes ≤ 281474976710656 := ble_le q3
    obtain ⟨i', ys, hk6, hi', h0, hl, z, hz, hzs, hy⟩ := zerosK_ok hk5
    rw [hi] at hi'; cases hi'
    refine ⟨_, _, _, fun g => .slice (some ⟨g, 0, none⟩) l c, hk6, fun r f w hf => ?_, fun r i p h => by simp [real, h]⟩
    obtain ⟨u, hu, hx⟩ := h2 r f hf
    obtain ⟨v, hv, hy2⟩ := h3 r f hf
    have := real_int hu; subst this
    have := real_int hv; subst this
    obtain ⟨us, hus, hus2⟩ := hy r
    refine ⟨us, hus, fun _ _ _ _ ac ha => ?_⟩
    have wl : IntKind.i64.wrap (Int.ofNat l) = (l : Int) := by
      show IntKind.i64.wrap (l : Int) = (l : Int)
      exact wrap64_id (by omega) (by omega)
    have wc : IntKind.i64.wrap (Int.ofNat c) = (c : Int) := by
      show IntKind.i64.wrap (c : Int) = (c : Int)
      exact wrap64_id (by omega) (by omega)
    have hti : ∀ w, (typeInfo e).run P w = .ok i w := fun w => by simp [typeInfo, hi]
    have e0 : ∀ f : Nat → Value, (Array.range 0).map f = ([] : List Value).toArray := fun f => by apply Array.ext'; simp
    have e1 : ¬ ((c : Int) < 0) := by omega
    have e2 : ¬ ((l : Int) < 0) := by omega
    have e3 : ¬ ((c : Int) < (l : Int)) := by omega
    have e4 : ¬ ((281474976710656 : Int) < (i.bytes : Int) * (c : Int)) := by
      have : (i.bytes : Int) * (c : Int) = ((c * i.bytes : Nat) : Int) := by push_cast; rw [Int.mul_comm]
      rw [this]; omega
    simp only [execOp, ha.eval hx, ha.eval hy2, Instr.makeSlice, Sem.run_bind, run_underlying hd, Result.andThen_ok, asInt, asIntOf, Sem.run_pure, hti, wl, wc]
    by_cases c0 : c * i.size = 0
    · have hc0 : c = 0 := (Nat.mul_eq_zero.1 c0).resolve_right h0
      subst hc0
      have hl0 : l = 0 := by omega
      subst hl0
      have hu0 : us = [] := by
        have := reals_len hus
        rw [hl] at this
        exact List.length_eq_zero_iff.1 (by simpa using this)
      subst hu0
      simp [run_askRoom, run_size hi, newRow, newObj, Sem.run, e0]
    · simp [e1, e2, e3, e4, run_askRoom, run_size hi, c0, run_zero hi hz, hus2, newRow, newObj, Sem.run]
end
end Go.Proofs.YtoafcnecjgnbmaaGreatDoor.E

set_option linter.constructorNameAsVariable false
namespace Go.Proofs.YtoafcnecjgnbmaaGreatDoor.E
open Go Go.RowKit H

open Classical in
/-- Of the names from n0 on, N of them, only those in X. -/
noncomputable def cut (ρ : Ren) (n0 N : Nat) (X : Nat → Prop) : Ren :=
  ⟨fun i => if n0 ≤ i ∧ i < n0 + N ∧ ¬ X (i - n0) then none else ρ i, fun i => (n0 ≤ i ∧ i < n0 + N ∧ (¬ X (i - n0) ∨ ρ i = none)) ∨ (¬ (n0 ≤ i ∧ i < n0 + N) ∧ ρ.hole i), ρ.sg⟩
section
variable {ρ ρ' : Ren} {n0 N : Nat} {X Y : Nat → Prop}
open Classical in
theorem cut_some {i : Nat} {p : Nat × Nat} : cut ρ n0 N X i = some p ↔ ρ i = some p ∧ (n0 ≤ i → i < n0 + N → X (i - n0)) := by
  show (if n0 ≤ i ∧ i < n0 + N ∧ ¬ X (i - n0) then none else ρ i) = some p ↔ _
  split
  · rename_i c
    exact ⟨fun h => (by cases h), fun h => absurd (h.2 c.1 c.2.1) c.2.2⟩
  · rename_i c
    exact ⟨fun h => ⟨h, fun a b => Classical.byContradiction fun q => c ⟨a, b, q⟩⟩, fun h => h.1⟩
open Classical in
theorem cut_none {i : Nat} (h : cut ρ n0 N X i = none) : (n0 ≤ i ∧ i < n0 + N ∧ ¬ X (i - n0)) ∨ ρ i = none := by
  replace h : (if n0 ≤ i ∧ i < n0 + N ∧ ¬ X (i - n0) then none else ρ i) = none := h
  split at h
  · rename_i c; exact .inl c
  · exact .inr h
theorem cut_vx (hX : ∀ m, m < N → X m → Y m) (hr : Vx ρ ρ') : Vx (cut ρ n0 N X) (cut ρ' n0 N Y) := ⟨fun i p h => by
  obtain ⟨h1, h2⟩ := cut_some.1 h
  exact cut_some.2 ⟨hr i p h1, fun a b => hX _ (by omega) (h2 a b)⟩, hr.s⟩
theorem vx_refl : Vx ρ ρ := ⟨fun _ _ h => h, rfl⟩
open Classical in
theorem cut_ext (h : ∀ m, m < N → (X m ↔ Y m)) : cut ρ n0 N X = cut ρ n0 N Y := by
  have e1 : (cut ρ n0 N X).f = (cut ρ n0 N Y).f := by
    funext i
    show (if n0 ≤ i ∧ i < n0 + N ∧ ¬ X (i - n0) then none else ρ i) = (if n0 ≤ i ∧ i < n0 + N ∧ ¬ Y (i - n0) then none else ρ i)
    by_cases c : n0 ≤ i ∧ i < n0 + N
    · have := h (i - n0) (by omega)
      by_cases q : X (i - n0)
      · rw [if_neg (fun z => z.2.2 q), if_neg (fun z => z.2.2 (this.1 q))]
      · rw [if_pos ⟨c.1, c.2, q⟩, if_pos ⟨c.1, c.2, fun z => q (this.2 z)⟩]
    · rw [if_neg (fun z => c ⟨z.1, z.2.1⟩), if_neg (fun z => c ⟨z.1, z.2.1⟩)]
  have e2 : (cut ρ n0 N X).hole = (cut ρ n0 N Y).hole := by
    funext i
    apply propext
    show (_ ∧ _ ∧ _ ∨ _) ↔ (_ ∧ _ ∧ _ ∨ _)
    constructor
    · rintro (⟨a, b, c⟩ | c)
      · exact .inl ⟨a, b, c.imp (fun q z => q ((h _ (by omega)).2 z)) id⟩
      · exact .inr c
    · rintro (⟨a, b, c⟩ | c)
      · exact .inl ⟨a, b, c.imp (fun q z => q ((h _ (by omega)).1 z)) id⟩
      · exact .inr c
  have key : ∀ a b : Ren, a.f = b.f → a.hole = b.hole → a.sg = b.sg → a = b := by
    rintro ⟨a, b, _⟩ ⟨c, d, _⟩ h1 h2 h3
    cases h1; cases h2; cases h3; rfl
  exact key _ _ e1 e2 rfl
/-- Blocks that are made, and not named yet. -/
def Pd (S : Nat → Prop) (w0 : World) (n0 N : Nat) (ρ : Ren) (X : Nat → Prop) (w : World) : Prop := ∀ f p, f < N → ¬ X f → ρ (n0 + f) = some p → p.1 < w.heap.size ∧ (S p.1 ∨ w0.heap.size ≤ p.1) ∧ (∀ i q, cut ρ n0 N X i = some q → q.1 ≠ p.1) ∧ ∀ g q, g < N → ¬ X g → ρ (n0 + g) = some q → q.1 = p.1 → g = f
theorem cut_split {i : Nat} {p : Nat × Nat} (h : cut ρ n0 N Y i = some p) : cut ρ n0 N X i = some p ∨ ∃ f, i = n0 + f ∧ f < N ∧ ¬ X f ∧ Y f ∧ ρ (n0 + f) = some p := by
  obtain ⟨h1, h2⟩ := cut_some.1 h
  by_cases c : n0 ≤ i ∧ i < n0 + N ∧ ¬ X (i - n0)
  · exact .inr ⟨i - n0, by omega, by omega, c.2.2, h2 c.1 c.2.1, by rw [show n0 + (i - n0) = i by omega]; exact h1⟩
  · exact .inl (cut_some.2 ⟨h1, fun a b => Classical.byContradiction fun q => c ⟨a, b, q⟩⟩)
section
variable {S : Nat → Prop} {w0 : World} {fl : Nat} {h : Hp} {w : World}
theorem Pd.up (hp : Pd S w0 n0 N ρ X w) (hX : ∀ m, X m → Y m) : Pd S w0 n0 N ρ Y w := fun f p hf hY hr => by
  obtain ⟨a, b, c, d⟩ := hp f p hf (fun q => hY (hX _ q)) hr
  refine ⟨a, b, fun i q hq e => ?_, fun g q hg hYg hrg e => d g q hg (fun z => hYg (hX _ z)) hrg e⟩
  rcases cut_split (X := X) hq with hq | ⟨g, _, hg, hXg, hYg, hrg⟩
  · exact c i q hq e
  · exact hY (d g q hg hXg hrg e ▸ hYg)
/-- Blocks are given their names. -/
theorem Rel.lift (H : Rel S w0 fl (cut ρ n0 N X) h w) (hn : n0 + N ≤ h.next) (hg : GLB ≤ n0) (hp : Pd S w0 n0 N ρ X w) (hX : ∀ m, X m → Y m) {h' : Hp} (hnx : h'.next = h.next) (htop : ∀ i, h.next ≤ i → i < LIM → h'.at i = none)
    (hat : ∀ j, j < h.next → ∀ b, h'.at j = some b → h.at j = some b ∨ ∃ f p, j = n0 + f ∧ f < N ∧ ¬ X f ∧ Y f ∧ ρ (n0 + f) = some p ∧ BRel (cut ρ n0 N Y) p w b) : Rel S w0 fl (cut ρ n0 N Y) h' w := by
  have vx : Vx (cut ρ n0 N X) (cut ρ n0 N Y) := cut_vx (fun m _ => hX m) vx_refl
  have inY : ∀ f p, f < N → Y f → ρ (n0 + f) = some p → cut ρ n0 N Y (n0 + f) = some p := fun f p hf hY hr => cut_some.2 ⟨hr, fun _ _ => by rw [show n0 + f - n0 = f by omega]; exact hY⟩
  have far : ∀ i, ¬ (n0 ≤ i ∧ i < n0 + N) → ∀ p, cut ρ n0 N Y i = some p ↔ cut ρ n0 N X i = some p := fun i hi p => by
    rw [cut_some, cut_some]
    exact ⟨fun q => ⟨q.1, fun a b => absurd ⟨a, b⟩ hi⟩, fun q => ⟨q.1, fun a b => absurd ⟨a, b⟩ hi⟩⟩
  have far0 : ∀ i, ¬ (n0 ≤ i ∧ i < n0 + N) → cut ρ n0 N X i = none → cut ρ n0 N Y i = none := fun i hi hX => by
    cases e : cut ρ n0 N Y i with
    | none => rfl
    | some p => rw [(far i hi p).1 e] at hX; cases hX
  refine ⟨fun j b hj hb => ?_, fun i j b c p q hi hj hb hc hpi hqj e => ?_, fun i hi => ?_, by rw [hnx]; exact H.lim, fun i p hi hr => ?_, fun i p hi hr => ?_, fun i p hr => ?_, H.kept, by rw [hnx]; exact H.base, fun i hi => ?_, fun i hi => ?_, by rw [hnx]; exact htop⟩
  · rw [hnx] at hj
    rcases hat j hj b hb with hb | ⟨f, p, rfl, hf, _, hYf, hr, hB⟩
    · obtain ⟨p, hp, hB⟩ := H.live j b hj hb
      exact ⟨p, vx j p hp, hB.vx vx⟩
    · exact ⟨p, inY f p hf hYf hr, hB⟩
  · rw [hnx] at hi hj
    have old : ∀ j b p, j < h.next → h.at j = some b → cut ρ n0 N Y j = some p → cut ρ n0 N X j = some p := fun j b p hj hb hr => by
      obtain ⟨p', hp', _⟩ := H.live j b hj hb
      have := vx j p' hp'
      rw [hr] at this; cases this; exact hp'
    have new : ∀ f p p', f < N → Y f → ρ (n0 + f) = some p → cut ρ n0 N Y (n0 + f) = some p' → p' = p := fun f p p' hf hY hr h2 => by
      have := inY f p hf hY hr
      rw [h2] at this; cases this; rfl
    rcases hat i hi b hb with hb | ⟨f, p', rfl, hf, hXf, hYf, hr, _⟩
    · have hpi := old i b p hi hb hpi
      rcases hat j hj c hc with hc | ⟨g, q', rfl, hg, hXg, hYg, hr', _⟩
      · exact H.inj i j b c p q hi hj hb hc hpi (old j c q hj hc hqj) e
      · have := new g q' q hg hYg hr' hqj
        subst this
        exact absurd e ((hp g q hg hXg hr').2.2.1 i p hpi)
    · have := new f p' p hf hYf hr hpi
      subst this
      rcases hat j hj c hc with hc | ⟨g, q', rfl, hg, hXg, hYg, hr', _⟩
      · exact absurd e.symm ((hp f p hf hXf hr).2.2.1 j q (old j c q hj hc hqj))
      · have := new g q' q hg hYg hr' hqj
        subst this
        rw [(hp f p hf hXf hr).2.2.2 g q hg hXg hr' e.symm]
  · rw [hnx] at hi
    exact far0 i (by omega) (H.fresh i hi)
  · refine H.glob i p hi ((far i (by omega) p).1 hr)
  · rcases cut_split (X := X) hr with hr | ⟨f, rfl, hf, hXf, _, hr⟩
    · exact H.may i p hi hr
    · exact (hp f p hf hXf hr).2.1
  · rcases cut_split (X := X) hr with hr | ⟨f, rfl, hf, hXf, _, hr⟩
    · exact H.dom i p hr
    · exact (hp f p hf hXf hr).1
  · rw [hnx]
    rcases hi with ⟨a, b, c⟩ | ⟨a, c⟩
    · refine ⟨?_, by omega⟩
      cases e : cut ρ n0 N Y i with
      | none => rfl
      | some p =>
        obtain ⟨e1, e2⟩ := cut_some.1 e
        rcases c with c | c
        · exact absurd (e2 a b) c
        · rw [c] at e1; cases e1
    · obtain ⟨h1, h2⟩ := H.hol i (.inr ⟨a, c⟩)
      exact ⟨far0 i a h1, h2⟩
  · rw [hnx] at hi
    by_cases c : n0 ≤ i ∧ i < n0 + N
    · cases e : ρ i with
      | none => exact .inl (.inl ⟨c.1, c.2, .inr e⟩)
      | some p =>
        by_cases q : Y (i - n0)
        · exact .inr ⟨p, cut_some.2 ⟨e, fun _ _ => q⟩⟩
        · exact .inl (.inl ⟨c.1, c.2, .inl q⟩)
    · rcases H.full i hi with q | ⟨p, q⟩
      · rcases q with ⟨a, b, _⟩ | q
        · exact absurd ⟨a, b⟩ c
        · exact .inl (.inr q)
      · exact .inr ⟨p, (far i c p).2 q⟩
/-- So many names are kept free. -/
theorem Rel.reserve {r : Ren} (H : Rel S w0 fl r h w) (hl : h.next + N ≤ LIM) (hX : ∀ m, ¬ X m) : Rel S w0 fl (cut r h.next N X) ⟨h.next + N, h.tr⟩ w := by
  have eq : ∀ i, cut r h.next N X i = r i := fun i => by
    cases e : cut r h.next N X i with
    | some p => exact (cut_some.1 e).1.symm
    | none =>
      rcases cut_none e with ⟨a, b, _⟩ | q
      · exact (H.fresh i a).symm
      · exact q.symm
  have vx : Vx r (cut r h.next N X) := ⟨fun i p hp => by rw [eq]; exact hp, rfl⟩
  have at_ : ∀ i b, i < h.next + N → h.at i = some b → i < h.next ∧ h.at i = some b := fun i b hi hb => by
    rcases Nat.lt_or_ge i h.next with c | c
    · exact ⟨c, hb⟩
    · rw [H.top i c (by omega)] at hb; cases hb
  refine ⟨fun i b hi hb => ?_, fun i j b c p q hi hj hb hc hp hq e => ?_, fun i hi => ?_, hl, fun i p hi hp => ?_, fun i p hi hp => ?_, fun i p hp => ?_, H.kept, ⟨Nat.le_trans H.base.1 (Nat.le_add_right _ _), Nat.le_trans H.base.2 (Nat.le_add_right _ _)⟩, fun i hi => ?_, fun i hi => ?_, fun i hi hL => ?_⟩
  · obtain ⟨h1, h2⟩ := at_ i b hi hb
    obtain ⟨p, hp, hB⟩ := H.live i b h1 h2
    exact ⟨p, vx i p hp, hB.vx vx⟩
  · obtain ⟨h1, h2⟩ := at_ i b hi hb
    obtain ⟨h3, h4⟩ := at_ j c hj hc
    rw [eq] at hp hq
    exact H.inj i j b c p q h1 h3 h2 h4 hp hq e
  · rw [eq]
    have hi : h.next + N ≤ i := hi
    exact H.fresh i (by omega)
  · rw [eq] at hp; exact H.glob i p hi hp
  · rw [eq] at hp; exact H.may i p hi hp
  · rw [eq] at hp; exact H.dom i p hp
  · rcases hi with ⟨a, b, _⟩ | ⟨a, c⟩
    · exact ⟨by rw [eq]; exact H.fresh i a, b⟩
    · obtain ⟨h1, h2⟩ := H.hol i c
      exact ⟨by rw [eq]; exact h1, Nat.lt_of_lt_of_le h2 (Nat.le_add_right _ _)⟩
  · have hi : i < h.next + N := hi
    by_cases c : h.next ≤ i
    · exact .inl (.inl ⟨c, hi, .inr (H.fresh i c)⟩)
    · rcases H.full i (by omega) with q | ⟨p, q⟩
      · exact .inl (.inr ⟨fun z => c z.1, q⟩)
      · exact .inr ⟨p, vx i p q⟩
  · have hi : h.next + N ≤ i := hi
    exact H.top i (by omega) hL
/-- What may be written, of all that is known. -/
def Wr (fl : Nat) (r : Ren) (x : Nat) : Prop := ∃ i q, fl ≤ i ∧ r i = some q ∧ q.1 = x
theorem Rel.self {r : Ren} (H : Rel S w0 fl r h w) : Rel (Wr fl r) w fl r h w :=
  ⟨H.live, H.inj, H.fresh, H.lim, H.glob, fun i p hi hp => .inl ⟨i, p, hi, hp, rfl⟩, H.dom, Kept.refl _ _, H.base, H.hol, H.full, H.top⟩
theorem Rel.back {r r' : Ren} {h' : Hp} {w' : World} (H : Rel S w0 fl r h w) (H' : Rel (Wr fl r) w fl r' h' w') : Rel S w0 fl r' h' w' := by
  have wr : ∀ x, Wr fl r x → S x ∨ w0.heap.size ≤ x := fun x ⟨i, q, hi, hq, e⟩ => e ▸ H.may i q hi hq
  refine ⟨H'.live, H'.inj, H'.fresh, H'.lim, H'.glob, fun i p hi hp => ?_, H'.dom, H.kept.trans H'.kept wr, H'.base, H'.hol, H'.full, H'.top⟩
  rcases H'.may i p hi hp with q | q
  · exact wr _ q
  · exact .inr (Nat.le_trans H.kept.size q)
open Classical in
noncomputable def glue (ρ r' : Ren) (n0 N : Nat) : Ren := ⟨fun i => if n0 ≤ i ∧ i < n0 + N then ρ i else r' i, r'.hole, r'.sg⟩
theorem glue_in {r' : Ren} {i : Nat} (h : n0 ≤ i ∧ i < n0 + N) : glue ρ r' n0 N i = ρ i := if_pos h
theorem glue_out {r' : Ren} {i : Nat} (h : ¬ (n0 ≤ i ∧ i < n0 + N)) : glue ρ r' n0 N i = r' i := if_neg h
theorem glue_vx {r' : Ren} (hx : Ext (cut ρ n0 N X) r') : Vx ρ (glue ρ r' n0 N) := ⟨fun i p h => by
  by_cases c : n0 ≤ i ∧ i < n0 + N
  · rw [glue_in c]; exact h
  · rw [glue_out c]; exact hx.v i p (cut_some.2 ⟨h, fun a b => absurd ⟨a, b⟩ c⟩), hx.v.s⟩
open Classical in
theorem glue_cut {r' : Ren} (hx : Ext (cut ρ n0 N X) r') (hol : ∀ i, r'.hole i → r' i = none) : cut (glue ρ r' n0 N) n0 N X = r' := by
  have key : ∀ a b : Ren, a.f = b.f → a.hole = b.hole → a.sg = b.sg → a = b := by
    rintro ⟨a, b, _⟩ ⟨c, d, _⟩ h1 h2 h3
    cases h1; cases h2; cases h3; rfl
  refine key _ _ (funext fun i => ?_) (funext fun i => propext ?_) rfl
  · show (if n0 ≤ i ∧ i < n0 + N ∧ ¬ X (i - n0) then none else glue ρ r' n0 N i) = r' i
    by_cases c : n0 ≤ i ∧ i < n0 + N
    · by_cases q : X (i - n0)
      · rw [if_neg fun z => z.2.2 q, glue_in c]
        cases e : ρ i with
        | some p => exact (hx.v i p (cut_some.2 ⟨e, fun _ _ => q⟩)).symm
        | none => exact (hol i (hx.h i (.inl ⟨c.1, c.2, .inr e⟩))).symm
      · rw [if_pos ⟨c.1, c.2, q⟩]
        exact (hol i (hx.h i (.inl ⟨c.1, c.2, .inl q⟩))).symm
    · rw [if_neg fun z => c ⟨z.1, z.2.1⟩, glue_out c]
  · constructor
    · rintro (⟨a, b, q⟩ | ⟨_, q⟩)
      · rw [glue_in ⟨a, b⟩] at q
        exact hx.h i (.inl ⟨a, b, q⟩)
      · exact q
    · intro hi
      by_cases c : n0 ≤ i ∧ i < n0 + N
      · refine .inl ⟨c.1, c.2, ?_⟩
        rw [glue_in c]
        cases e : ρ i with
        | none => exact .inr rfl
        | some p =>
          refine .inl fun q => ?_
          have := hx.v i p (cut_some.2 ⟨e, fun _ _ => q⟩)
          rw [hol i hi] at this; cases this
      · exact .inr ⟨c, hi⟩
/-- An operation keeps what is not named yet. -/
theorem Pd.frame {r' : Ren} {h' : Hp} {w' : World} (H : Rel S w0 fl (cut ρ n0 N X) h w) (hp : Pd S w0 n0 N ρ X w) (hx : Ext (cut ρ n0 N X) r') (H' : Rel (Wr fl (cut ρ n0 N X)) w fl r' h' w') :
    Pd S w0 n0 N (glue ρ r' n0 N) X w' ∧ ∀ f p, f < N → ¬ X f → ρ (n0 + f) = some p → w'.heap[p.1]? = w.heap[p.1]? := by
  have hol : ∀ i, r'.hole i → r' i = none := fun i q => (H'.hol i q).1
  have at_ : ∀ f, f < N → glue ρ r' n0 N (n0 + f) = ρ (n0 + f) := fun f hf => glue_in ⟨by omega, by omega⟩
  refine ⟨fun f p hf hXf hr => ?_, fun f p hf hXf hr => ?_⟩
  · rw [at_ f hf] at hr
    obtain ⟨a, b, c, d⟩ := hp f p hf hXf hr
    refine ⟨Nat.lt_of_lt_of_le a H'.kept.size, b, fun i q hq e => ?_, fun g q hg hXg hrg e => ?_⟩
    · rw [glue_cut hx hol] at hq
      rcases Nat.lt_or_ge i h.next with hi | hi
      · rcases H.full i hi with z | ⟨q', z⟩
        · rw [hol i (hx.h i z)] at hq; cases hq
        · have := hx.v i q' z
          rw [hq] at this; cases this
          exact c i q z e
      · rcases H'.may i q (Nat.le_trans H.base.1 hi) hq with ⟨j, z, _, hz, ez⟩ | z
        · exact c j z hz (ez.trans e)
        · omega
    · rw [at_ g hg] at hrg
      exact d g q hg hXg hrg e
  · obtain ⟨a, b, c, d⟩ := hp f p hf hXf hr
    exact H'.kept.block _ a fun ⟨j, z, _, hz, ez⟩ => c j z hz ez
end
end

/-- Blocks put where their names were kept free: those of m that are not of b. -/
noncomputable def upK (n0 m b : Nat) (FL : List (Nat × TypeId × List AV)) : Hp → (Hp → Bool) → Bool := List.rec (motive := fun _ => Hp → (Hp → Bool) → Bool) (fun h k => k h)
  (fun x _ ih h k => ife (bitN m x.1) (ife (bitN b x.1) (ih h k) (natK (Nat.add n0 x.1) fun i => putH h i (.cells x.2.1 false false x.2.2) fun h => ih h k)) (ih h k)) FL
structure Up (n0 m b : Nat) (FL : List (Nat × TypeId × List AV)) (h h' : Hp) : Prop where
  next : h'.next = h.next
  at_ : ∀ j, j < LIM → ∀ B, h'.at j = some B → h.at j = some B ∨ ∃ x ∈ FL, j = n0 + x.1 ∧ bitN m x.1 = true ∧ bitN b x.1 = false ∧ B = .cells x.2.1 false false x.2.2
theorem upK_ok {n0 m b : Nat} : ∀ {FL : List (Nat × TypeId × List AV)} {h : Hp} {k : Hp → Bool}, (∀ x ∈ FL, n0 + x.1 < LIM) → upK n0 m b FL h k = true → ∃ h', k h' = true ∧ Up n0 m b FL h h'
  | [], h, k, _, hk => ⟨h, hk, rfl, fun j _ B hB => .inl hB⟩
  | x :: FL, h, k, hl, hk => by
    have pass : upK n0 m b FL h k = true → ∃ h', k h' = true ∧ Up n0 m b (x :: FL) h h' := fun hk => by
      obtain ⟨h', hk, h1, h2⟩ := upK_ok (fun y hy => hl y (List.mem_cons_of_mem _ hy)) hk
      exact ⟨h', hk, h1, fun j hj B hB => (h2 j hj B hB).imp id fun ⟨y, hy, z⟩ => ⟨y, List.mem_cons_of_mem _ hy, z⟩⟩
    rcases ife_ok hk with ⟨e1, hk⟩ | ⟨_, hk⟩
    · rcases ife_ok hk with ⟨_, hk⟩ | ⟨e2, hk⟩
      · exact pass hk
      · rw [natK_eq, putH_eq] at hk
        obtain ⟨h', hk, h1, h2⟩ := upK_ok (fun y hy => hl y (List.mem_cons_of_mem _ hy)) hk
        refine ⟨h', hk, h1, fun j hj B hB => ?_⟩
        rcases h2 j hj B hB with q | ⟨y, hy, z⟩
        · rw [Hp.at_put (show Nat.add n0 x.1 < LIM from hl x (List.mem_cons_self ..)) hj] at q
          split at q
          · rename_i e
            cases q
            exact .inr ⟨x, List.mem_cons_self .., e.symm, e1, e2, rfl⟩
          · exact .inl q
        · exact .inr ⟨y, List.mem_cons_of_mem _ hy, z⟩
    · exact pass hk

theorem maskO_edge {pre : List Nat} {o : Oper} {e : Nat} (h : e ∈ edgeL o) : bitN (maskO pre o) e = true ∧ ∀ m, bitN (nthN pre e) m = true → bitN (maskO pre o) m = true := by
  unfold maskO
  generalize edgeL o = l at h ⊢
  have e2 : ∀ a b c : Nat, bitN (Nat.lor a b) c = (bitN a c || bitN b c) := fun a b c => Nat.testBit_or a b c
  induction l with
  | nil => cases h
  | cons a l ih =>
    have e1 : ∀ m, bitN (List.rec (motive := fun _ => Nat) 0 (fun e _ acc => Nat.lor (Nat.shiftLeft 1 e) (Nat.lor (nthN pre e) acc)) (a :: l)) m = (bitN (Nat.shiftLeft 1 a) m || (bitN (nthN pre a) m || bitN (List.rec (motive := fun _ => Nat) 0 (fun e _ acc => Nat.lor (Nat.shiftLeft 1 e) (Nat.lor (nthN pre e) acc)) l) m)) := fun m => by
      rw [← e2, ← e2]
    have own : bitN (Nat.shiftLeft 1 a) a = true := by
      show Nat.testBit (1 <<< a) a = true
      rw [Nat.one_shiftLeft, Nat.testBit_two_pow]; simp
    rcases List.mem_cons.1 h with rfl | h
    · refine ⟨by rw [e1, own]; rfl, fun m hm => by rw [e1, hm]; simp⟩
    · obtain ⟨i1, i2⟩ := ih h
      refine ⟨by rw [e1, i1]; simp, fun m hm => by rw [e1, i2 m hm]; simp⟩
theorem masks_tr {ops : Array Oper} (hR : RegOk ops (masks ops.toList [])) : ∀ (i : Nat) (o : Oper), ops[i]? = some o → ∀ j, bitN (nthN (masks ops.toList []) i) j = true → ∀ m, bitN (nthN (masks ops.toList []) j) m = true → bitN (nthN (masks ops.toList []) i) m = true := by
  intro i
  induction i using Nat.strongRecOn with
  | _ i ih =>
    intro o hi j hj m hm
    obtain ⟨pre, h1, h2, h3⟩ := masks_at ops.toList [] i o (by rw [toL]; exact hi)
    simp only [List.length_nil, Nat.zero_add] at h1 h2
    have edge : ∀ e ∈ edgeL o, ∀ m, bitN (nthN (masks ops.toList []) e) m = true → bitN (nthN (masks ops.toList []) i) m = true := fun e he m hm => by
      rw [h2]
      exact (maskO_edge he).2 m (by rw [← h3 e (by rw [h1]; exact hR.lt i o hi e he)]; exact hm)
    rcases hR.anc i o hi j hj with q | ⟨e, q1, q2⟩
    · exact edge j q m hm
    · have hlt := hR.lt i o hi e q1
      have hsz := (Array.getElem?_eq_some_iff.1 hi).1
      exact edge e q1 m (ih e hlt (ops[e]'(by omega)) (Array.getElem?_eq_getElem _) j q2 m hm)
end Go.Proofs.YtoafcnecjgnbmaaGreatDoor.E

