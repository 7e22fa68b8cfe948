/-
  try, its callers' closures, and the exported reading methods.
-/
import Derived.Test.YtblbibdjddmfiaaCo6
namespace Go.Proofs.Ytblbibdjddmfiaa.Co
open Go.RowKit H
attribute [local irreducible] H.CL H.RW H.CW H.Yd H.thenK H.blockQ Go.Calls

/-- What a closure that reads one thing leaves. -/
abbrev CloP {α : Type} (enc : α → Value) (G : Nat → Prop) (b px : Nat) (ex : TypeId) (o : Option (α × List UInt8)) (w : World) (e : Ending) (w' : World) : Prop :=
  Kept (fun k => k = b ∨ k = px) w w' ∧ match o with
    | some (a, r) => e = .returned (.tuple #[]) ∧ Rd w' G b r false ∧ w'.heap[px]? = some (.cells #[enc a] ex (0, 0))
    | none => e = stops ∧ ∃ l', Rd w' G b l' false
/-- The facts under which it does. -/
structure CloH (G : Nat → Prop) (b pr px : Nat) (er ex : TypeId) (x0 : Value) (l : List UInt8) (w : World) : Prop where
  rd : Rd w G b l false
  r : w.heap[pr]? = some (.cells #[.pointer (some ⟨b, 0, none⟩)] er (0, 0))
  x : w.heap[px]? = some (.cells #[x0] ex (0, 0))
  gx : ¬ G px
  rx : pr ≠ px
  rb : pr ≠ b

theorem CloH.keep {G : Nat → Prop} {b pr px : Nat} {er ex : TypeId} {x0 : Value} {l : List UInt8} {w w' : World} (h : CloH G b pr px er ex x0 l w) (k : K0 w w') : CloH G b pr px er ex x0 l w' :=
  ⟨h.rd.keep k fun _ _ c => c, k.at0 h.r, k.at0 h.x, h.gx, h.rx, h.rb⟩

set_option maxHeartbeats 400000 in
theorem cloNum {G : Nat → Prop} {b pr px : Nat} {er ex : TypeId} {x0 : Value} {l : List UInt8} (w : World) (h : CloH G b pr px er ex x0 l w) :
    Calls Try.prog 39 #[.pointer (some ⟨pr, 0, none⟩), .pointer (some ⟨px, 0, none⟩)] w (CloP (fun n : Nat => .int .u64 (n : Int)) G b px ex (rdNum l) w) := by
  obtain ⟨hR, hr, hx, hgx, hrx, hrb⟩ := h
  have hxb : px ≠ b := fun c => hgx (c ▸ hR.own)
  refine H.enter Try.func39 Try.ntmps39 rfl rfl ?_; dsimp only [H.args]
  repeat' (first | (refine CL.seq ?_) | (refine CL.region ?_) | (refine CL.skip ?_) | (refine CL.condP rfl (fun _ => ?_) (fun _ => ?_) <;> try (exfalso; omega)) | (refine CL.condT rfl ?_) | (refine CL.condF rfl ?_) | (refine CL.cond rfl (fun _ => ?_) (fun _ => ?_)) | (refine CL.block ?_) | (refine CL.exit ?_) | (refine Ex.then ?_) | (refine Ex.hit ?_) | (refine Ex.miss rfl ?_) | (refine CL.ret ?_) | (refine Rt.then ?_) | (refine Rt.block ?_) | (refine Pn.then ?_) | (refine Pn.block ?_) | (refine CL.done ?_) | (refine Nm.block ?_) | (refine Nm.then ?_) | (refine Gt.nil ?_; refine RW.nilw [0, 1] ?_; dsimp only [H.keep, H.look, H.Fr.put, Nat.beq]) | (refine Gt.load ?_; refine RW.y (Y.loadB rfl (by assumption) rfl) rfl ?_))
  refine RW.fn rfl rfl ((cNum b l w G hR).mono ?_)
  rintro e w1 ⟨hk1, h⟩
  cases hrd : rdNum l with
  | none =>
    rw [hrd] at h
    obtain ⟨rfl, h⟩ := h
    (first | refine H.After.pn ?_ | refine H.After0.pn ?_ | skip); repeat' (first | refine Pn.then ?_ | refine Pn.block ?_)
    show _ ∧ _
    exact ⟨rfl, hk1.mono fun k h => .inl h, rfl, h⟩
  | some p =>
    obtain ⟨a, r⟩ := p
    rw [hrd] at h
    obtain ⟨rfl, hR1⟩ := h
    have hx1 := hk1.at hx hxb
    refine RW.storeB rfl rfl rfl hx1 (by simp) (fun w2 hx2 hk2 => ?_)
    repeat' (first | (refine CL.seq ?_) | (refine CL.region ?_) | (refine CL.skip ?_) | (refine CL.condP rfl (fun _ => ?_) (fun _ => ?_) <;> try (exfalso; omega)) | (refine CL.condT rfl ?_) | (refine CL.condF rfl ?_) | (refine CL.cond rfl (fun _ => ?_) (fun _ => ?_)) | (refine CL.block ?_) | (refine CL.exit ?_) | (refine Ex.then ?_) | (refine Ex.hit ?_) | (refine Ex.miss rfl ?_) | (refine CL.ret ?_) | (refine Rt.then ?_) | (refine Rt.block ?_) | (refine Pn.then ?_) | (refine Pn.block ?_) | (refine CL.done ?_) | (refine Nm.block ?_) | (refine Nm.then ?_) | (refine Gt.nil ?_; refine RW.nilw [0, 1] ?_; dsimp only [H.keep, H.look, H.Fr.put, Nat.beq]) | (refine Gt.load ?_; refine RW.y (Y.loadB rfl (by assumption) rfl) rfl ?_))
    exact FQ.norm (FQ.none rfl rfl ⟨(hk1.mono fun k h => .inl h).trans hk2 fun k h => .inl (.inr h), rfl, hR1.keep hk2 fun k hk c => hgx (c ▸ hk), hx2⟩)

set_option maxHeartbeats 400000 in
theorem cloInt {G : Nat → Prop} {b pr px : Nat} {er ex : TypeId} {x0 : Value} {l : List UInt8} (w : World) (h : CloH G b pr px er ex x0 l w) :
    Calls Try.prog 34 #[.pointer (some ⟨pr, 0, none⟩), .pointer (some ⟨px, 0, none⟩)] w (CloP (fun n : Int => .int .i64 n) G b px ex ((rdNum l).map fun (n, r) => (unzz n, r)) w) := by
  obtain ⟨hR, hr, hx, hgx, hrx, hrb⟩ := h
  have hxb : px ≠ b := fun c => hgx (c ▸ hR.own)
  refine H.enter Try.func34 Try.ntmps34 rfl rfl ?_; dsimp only [H.args]
  repeat' (first | (refine CL.seq ?_) | (refine CL.region ?_) | (refine CL.skip ?_) | (refine CL.condP rfl (fun _ => ?_) (fun _ => ?_) <;> try (exfalso; omega)) | (refine CL.condT rfl ?_) | (refine CL.condF rfl ?_) | (refine CL.cond rfl (fun _ => ?_) (fun _ => ?_)) | (refine CL.block ?_) | (refine CL.exit ?_) | (refine Ex.then ?_) | (refine Ex.hit ?_) | (refine Ex.miss rfl ?_) | (refine CL.ret ?_) | (refine Rt.then ?_) | (refine Rt.block ?_) | (refine Pn.then ?_) | (refine Pn.block ?_) | (refine CL.done ?_) | (refine Nm.block ?_) | (refine Nm.then ?_) | (refine Gt.nil ?_; refine RW.nilw [0, 1] ?_; dsimp only [H.keep, H.look, H.Fr.put, Nat.beq]) | (refine Gt.load ?_; refine RW.y (Y.loadB rfl (by assumption) rfl) rfl ?_))
  refine RW.fn rfl rfl ((cInt b l w G hR).mono ?_)
  rintro e w1 ⟨hk1, h⟩
  cases hrd : rdNum l with
  | none =>
    rw [hrd] at h
    obtain ⟨rfl, h⟩ := h
    (first | refine H.After.pn ?_ | refine H.After0.pn ?_ | skip); repeat' (first | refine Pn.then ?_ | refine Pn.block ?_)
    show _ ∧ _
    exact ⟨rfl, hk1.mono fun k h => .inl h, rfl, h⟩
  | some p =>
    obtain ⟨a, r⟩ := p
    rw [hrd] at h
    obtain ⟨rfl, hR1⟩ := h
    have hx1 := hk1.at hx hxb
    refine RW.storeB rfl rfl rfl hx1 (by simp) (fun w2 hx2 hk2 => ?_)
    repeat' (first | (refine CL.seq ?_) | (refine CL.region ?_) | (refine CL.skip ?_) | (refine CL.condP rfl (fun _ => ?_) (fun _ => ?_) <;> try (exfalso; omega)) | (refine CL.condT rfl ?_) | (refine CL.condF rfl ?_) | (refine CL.cond rfl (fun _ => ?_) (fun _ => ?_)) | (refine CL.block ?_) | (refine CL.exit ?_) | (refine Ex.then ?_) | (refine Ex.hit ?_) | (refine Ex.miss rfl ?_) | (refine CL.ret ?_) | (refine Rt.then ?_) | (refine Rt.block ?_) | (refine Pn.then ?_) | (refine Pn.block ?_) | (refine CL.done ?_) | (refine Nm.block ?_) | (refine Nm.then ?_) | (refine Gt.nil ?_; refine RW.nilw [0, 1] ?_; dsimp only [H.keep, H.look, H.Fr.put, Nat.beq]) | (refine Gt.load ?_; refine RW.y (Y.loadB rfl (by assumption) rfl) rfl ?_))
    exact FQ.norm (FQ.none rfl rfl ⟨(hk1.mono fun k h => .inl h).trans hk2 fun k h => .inl (.inr h), rfl, hR1.keep hk2 fun k hk c => hgx (c ▸ hk), hx2⟩)

set_option maxHeartbeats 400000 in
theorem cloText {G : Nat → Prop} {b pr px : Nat} {er ex : TypeId} {x0 : Value} {l : List UInt8} (w : World) (h : CloH G b pr px er ex x0 l w) :
    Calls Try.prog 42 #[.pointer (some ⟨pr, 0, none⟩), .pointer (some ⟨px, 0, none⟩)] w (CloP vs G b px ex (rdText l) w) := by
  obtain ⟨hR, hr, hx, hgx, hrx, hrb⟩ := h
  have hxb : px ≠ b := fun c => hgx (c ▸ hR.own)
  refine H.enter Try.func42 Try.ntmps42 rfl rfl ?_; dsimp only [H.args]
  repeat' (first | (refine CL.seq ?_) | (refine CL.region ?_) | (refine CL.skip ?_) | (refine CL.condP rfl (fun _ => ?_) (fun _ => ?_) <;> try (exfalso; omega)) | (refine CL.condT rfl ?_) | (refine CL.condF rfl ?_) | (refine CL.cond rfl (fun _ => ?_) (fun _ => ?_)) | (refine CL.block ?_) | (refine CL.exit ?_) | (refine Ex.then ?_) | (refine Ex.hit ?_) | (refine Ex.miss rfl ?_) | (refine CL.ret ?_) | (refine Rt.then ?_) | (refine Rt.block ?_) | (refine Pn.then ?_) | (refine Pn.block ?_) | (refine CL.done ?_) | (refine Nm.block ?_) | (refine Nm.then ?_) | (refine Gt.nil ?_; refine RW.nilw [0, 1] ?_; dsimp only [H.keep, H.look, H.Fr.put, Nat.beq]) | (refine Gt.load ?_; refine RW.y (Y.loadB rfl (by assumption) rfl) rfl ?_))
  refine RW.fn rfl rfl ((cText b l w G hR).mono ?_)
  rintro e w1 ⟨hk1, h⟩
  cases hrd : rdText l with
  | none =>
    rw [hrd] at h
    obtain ⟨rfl, h⟩ := h
    (first | refine H.After.pn ?_ | refine H.After0.pn ?_ | skip); repeat' (first | refine Pn.then ?_ | refine Pn.block ?_)
    show _ ∧ _
    exact ⟨rfl, hk1.mono fun k h => .inl h, rfl, h⟩
  | some p =>
    obtain ⟨a, r⟩ := p
    rw [hrd] at h
    obtain ⟨rfl, hR1⟩ := h
    have hx1 := hk1.at hx hxb
    refine RW.storeB rfl rfl rfl hx1 (by simp) (fun w2 hx2 hk2 => ?_)
    repeat' (first | (refine CL.seq ?_) | (refine CL.region ?_) | (refine CL.skip ?_) | (refine CL.condP rfl (fun _ => ?_) (fun _ => ?_) <;> try (exfalso; omega)) | (refine CL.condT rfl ?_) | (refine CL.condF rfl ?_) | (refine CL.cond rfl (fun _ => ?_) (fun _ => ?_)) | (refine CL.block ?_) | (refine CL.exit ?_) | (refine Ex.then ?_) | (refine Ex.hit ?_) | (refine Ex.miss rfl ?_) | (refine CL.ret ?_) | (refine Rt.then ?_) | (refine Rt.block ?_) | (refine Pn.then ?_) | (refine Pn.block ?_) | (refine CL.done ?_) | (refine Nm.block ?_) | (refine Nm.then ?_) | (refine Gt.nil ?_; refine RW.nilw [0, 1] ?_; dsimp only [H.keep, H.look, H.Fr.put, Nat.beq]) | (refine Gt.load ?_; refine RW.y (Y.loadB rfl (by assumption) rfl) rfl ?_))
    exact FQ.norm (FQ.none rfl rfl ⟨(hk1.mono fun k h => .inl h).trans hk2 fun k h => .inl (.inr h), rfl, hR1.keep hk2 fun k hk c => hgx (c ▸ hk), hx2⟩)

set_option maxHeartbeats 400000 in
theorem cloBool {G : Nat → Prop} {b pr px : Nat} {er ex : TypeId} {x0 : Value} {l : List UInt8} (w : World) (h : CloH G b pr px er ex x0 l w) :
    Calls Try.prog 44 #[.pointer (some ⟨pr, 0, none⟩), .pointer (some ⟨px, 0, none⟩)] w (CloP (fun x : Bool => .bool x) G b px ex (rdBool l) w) := by
  obtain ⟨hR, hr, hx, hgx, hrx, hrb⟩ := h
  have hxb : px ≠ b := fun c => hgx (c ▸ hR.own)
  refine H.enter Try.func44 Try.ntmps44 rfl rfl ?_; dsimp only [H.args]
  repeat' (first | (refine CL.seq ?_) | (refine CL.region ?_) | (refine CL.skip ?_) | (refine CL.condP rfl (fun _ => ?_) (fun _ => ?_) <;> try (exfalso; omega)) | (refine CL.condT rfl ?_) | (refine CL.condF rfl ?_) | (refine CL.cond rfl (fun _ => ?_) (fun _ => ?_)) | (refine CL.block ?_) | (refine CL.exit ?_) | (refine Ex.then ?_) | (refine Ex.hit ?_) | (refine Ex.miss rfl ?_) | (refine CL.ret ?_) | (refine Rt.then ?_) | (refine Rt.block ?_) | (refine Pn.then ?_) | (refine Pn.block ?_) | (refine CL.done ?_) | (refine Nm.block ?_) | (refine Nm.then ?_) | (refine Gt.nil ?_; refine RW.nilw [0, 1] ?_; dsimp only [H.keep, H.look, H.Fr.put, Nat.beq]) | (refine Gt.load ?_; refine RW.y (Y.loadB rfl (by assumption) rfl) rfl ?_))
  refine RW.fn rfl rfl ((cBool b l w G hR).mono ?_)
  rintro e w1 ⟨hk1, h⟩
  cases hrd : rdBool l with
  | none =>
    rw [hrd] at h
    obtain ⟨rfl, h⟩ := h
    (first | refine H.After.pn ?_ | refine H.After0.pn ?_ | skip); repeat' (first | refine Pn.then ?_ | refine Pn.block ?_)
    show _ ∧ _
    exact ⟨rfl, hk1.mono fun k h => .inl h, rfl, h⟩
  | some p =>
    obtain ⟨a, r⟩ := p
    rw [hrd] at h
    obtain ⟨rfl, hR1⟩ := h
    have hx1 := hk1.at hx hxb
    refine RW.storeB rfl rfl rfl hx1 (by simp) (fun w2 hx2 hk2 => ?_)
    repeat' (first | (refine CL.seq ?_) | (refine CL.region ?_) | (refine CL.skip ?_) | (refine CL.condP rfl (fun _ => ?_) (fun _ => ?_) <;> try (exfalso; omega)) | (refine CL.condT rfl ?_) | (refine CL.condF rfl ?_) | (refine CL.cond rfl (fun _ => ?_) (fun _ => ?_)) | (refine CL.block ?_) | (refine CL.exit ?_) | (refine Ex.then ?_) | (refine Ex.hit ?_) | (refine Ex.miss rfl ?_) | (refine CL.ret ?_) | (refine Rt.then ?_) | (refine Rt.block ?_) | (refine Pn.then ?_) | (refine Pn.block ?_) | (refine CL.done ?_) | (refine Nm.block ?_) | (refine Nm.then ?_) | (refine Gt.nil ?_; refine RW.nilw [0, 1] ?_; dsimp only [H.keep, H.look, H.Fr.put, Nat.beq]) | (refine Gt.load ?_; refine RW.y (Y.loadB rfl (by assumption) rfl) rfl ?_))
    exact FQ.norm (FQ.none rfl rfl ⟨(hk1.mono fun k h => .inl h).trans hk2 fun k h => .inl (.inr h), rfl, hR1.keep hk2 fun k hk c => hgx (c ▸ hk), hx2⟩)

/-- What try leaves. -/
abbrev TryP {α : Type} (enc : α → Value) (G : Nat → Prop) (b px : Nat) (ex : TypeId) (o : Option (α × List UInt8)) (e : Ending) (w' : World) : Prop :=
  match o with
  | some (a, r) => e = .returned (.bool true) ∧ Rd w' G b r false ∧ w'.heap[px]? = some (.cells #[enc a] ex (0, 0))
  | none => e = .returned (.bool false) ∧ ∃ l', Rd w' G b l' true

set_option maxHeartbeats 400000 in
/-- try, of a closure -/
theorem tryC {α : Type} (enc : α → Value) (k : FuncId) [Ent Try.prog k] (o : Option (α × List UInt8)) {G : Nat → Prop} {b pr px : Nat} {er ex : TypeId} {x0 : Value} {l : List UInt8} (w : World) (h : CloH G b pr px er ex x0 l w)
    (HC : ∀ w1, CloH G b pr px er ex x0 l w1 → Calls Try.prog k #[.pointer (some ⟨pr, 0, none⟩), .pointer (some ⟨px, 0, none⟩)] w1 (CloP enc G b px ex o w1)) :
    Calls Try.prog 33 #[.pointer (some ⟨b, 0, none⟩), .func (.func k) #[] #[.pointer (some ⟨pr, 0, none⟩), .pointer (some ⟨px, 0, none⟩)]] w fun e w' =>
      Kept (fun k => k = b ∨ k = px) w w' ∧ TryP enc G b px ex o e w' := by
  have h0 := h
  obtain ⟨hR, hr, hx, hgx, hrx, hrb⟩ := h0
  have hR' := hR
  obtain ⟨⟨v, e, hb, hs, hv⟩, hGb, hlt, hsh⟩ := hR'
  refine H.enterD Try.func33 Try.ntmps33 rfl rfl ?_; dsimp only [H.args]
  repeat' (first | (refine CL.seq ?_) | (refine CL.region ?_) | (refine CL.skip ?_) | (refine CL.condP rfl (fun _ => ?_) (fun _ => ?_) <;> try (exfalso; omega)) | (refine CL.condT rfl ?_) | (refine CL.condF rfl ?_) | (refine CL.cond rfl (fun _ => ?_) (fun _ => ?_)) | (refine CL.block ?_) | (refine CL.exit ?_) | (refine Ex.then ?_) | (refine Ex.hit ?_) | (refine Ex.miss rfl ?_) | (refine CL.ret ?_) | (refine Rt.then ?_) | (refine Rt.block ?_) | (refine Pn.then ?_) | (refine Pn.block ?_) | (refine CL.done ?_) | (refine Nm.block ?_) | (refine Nm.then ?_) | (refine Gt.nil ?_; refine RW.nilw [0, 1, 2, 4, 8] ?_; dsimp only [H.keep, H.look, H.Fr.put, Nat.beq]) | (refine Gt.load ?_; refine RW.y (Y.loadB rfl (by assumption) rfl) rfl ?_) | (refine Gt.nilck ?_; refine RW.y (Y.nilck rfl) rfl ?_) | (refine Gt.fieldAddr ?_; refine RW.y (Y.fieldAddr rfl (by rfl)) rfl ?_) | (refine Gt.makeFunc ?_; refine RW.y (Y.makeFunc rfl rfl) rfl ?_) | (refine Gt.move ?_; refine RW.y (Y.move rfl) rfl ?_))
  refine RW.box rfl rfl (fun w1 hb1 hk1 hl1 => ?_)
  refine RW.alloc rfl (fun w2 hb2 hk2 hl2 => ?_)
  have hk02 := hk1.trans0 hk2
  have hb1' := hk2.at0 hb1
  have hbb := hk02.at0 hb
  repeat' (first | (refine CL.seq ?_) | (refine CL.region ?_) | (refine CL.skip ?_) | (refine CL.condP rfl (fun _ => ?_) (fun _ => ?_) <;> try (exfalso; omega)) | (refine CL.condT rfl ?_) | (refine CL.condF rfl ?_) | (refine CL.cond rfl (fun _ => ?_) (fun _ => ?_)) | (refine CL.block ?_) | (refine CL.exit ?_) | (refine Ex.then ?_) | (refine Ex.hit ?_) | (refine Ex.miss rfl ?_) | (refine CL.ret ?_) | (refine Rt.then ?_) | (refine Rt.block ?_) | (refine Pn.then ?_) | (refine Pn.block ?_) | (refine CL.done ?_) | (refine Nm.block ?_) | (refine Nm.then ?_) | (refine Gt.nil ?_; refine RW.nilw [0, 1, 2, 4, 8] ?_; dsimp only [H.keep, H.look, H.Fr.put, Nat.beq]) | (refine Gt.load ?_; refine RW.y (Y.loadB rfl (by assumption) rfl) rfl ?_) | (refine Gt.nilck ?_; refine RW.y (Y.nilck rfl) rfl ?_) | (refine Gt.fieldAddr ?_; refine RW.y (Y.fieldAddr rfl (by rfl)) rfl ?_) | (refine Gt.makeFunc ?_; refine RW.y (Y.makeFunc rfl rfl) rfl ?_) | (refine Gt.move ?_; refine RW.y (Y.move rfl) rfl ?_))
  refine RW.defer rfl rfl ?_
  repeat' (first | (refine CL.seq ?_) | (refine CL.region ?_) | (refine CL.skip ?_) | (refine CL.condP rfl (fun _ => ?_) (fun _ => ?_) <;> try (exfalso; omega)) | (refine CL.condT rfl ?_) | (refine CL.condF rfl ?_) | (refine CL.cond rfl (fun _ => ?_) (fun _ => ?_)) | (refine CL.block ?_) | (refine CL.exit ?_) | (refine Ex.then ?_) | (refine Ex.hit ?_) | (refine Ex.miss rfl ?_) | (refine CL.ret ?_) | (refine Rt.then ?_) | (refine Rt.block ?_) | (refine Pn.then ?_) | (refine Pn.block ?_) | (refine CL.done ?_) | (refine Nm.block ?_) | (refine Nm.then ?_) | (refine Gt.nil ?_; refine RW.nilw [0, 1, 2, 4, 8] ?_; dsimp only [H.keep, H.look, H.Fr.put, Nat.beq]) | (refine Gt.load ?_; refine RW.y (Y.loadB rfl (by assumption) rfl) rfl ?_) | (refine Gt.nilck ?_; refine RW.y (Y.nilck rfl) rfl ?_) | (refine Gt.fieldAddr ?_; refine RW.y (Y.fieldAddr rfl (by rfl)) rfl ?_) | (refine Gt.makeFunc ?_; refine RW.y (Y.makeFunc rfl rfl) rfl ?_) | (refine Gt.move ?_; refine RW.y (Y.move rfl) rfl ?_))
  refine RW.fnv rfl rfl rfl ((HC w2 (h.keep hk02)).mono ?_)
  rintro e3 w3 ⟨hk3, h3⟩
  have hbr := hk3.at hb1' (fun c => by have := lt_of_at hb; have := lt_of_at hx; omega)
  have hbk := hk3.at hb2 (fun c => by have := lt_of_at hb; have := lt_of_at hx; omega)
  have hGn : ∀ k, G k → k < w.heap.size := hlt
  cases o with
  | none =>
    obtain ⟨rfl, l', hR3⟩ := h3
    (first | refine H.After.pn ?_ | refine H.After0.pn ?_ | skip); repeat' (first | refine Pn.then ?_ | refine Pn.block ?_)
    show ∀ a, Ag _ a → _
    intro a ha
    refine leaves_cons (f := 46) (args := #[.pointer (some ⟨w.heap.size, 0, none⟩), .pointer (some ⟨w1.heap.size, 0, none⟩)]) (by simp) (by simp [invoke, (inferInstance : Ent Try.prog 46).out]) ?_
    refine (catch_panic b w.heap.size w1.heap.size l' false _ _ w3 G hR3 hbr hbk (fun c => by have := hGn _ c; omega) (fun c => by have := lt_of_at hb; omega)).mono ?_
    rintro e4 u4 w4 ⟨rfl, rfl, hR4, hk4, hkk⟩
    refine ⟨.bool false, results_cell rfl (ha.slot 4 _ rfl) (by rw [cell_row (off := 0) hk4]; rfl), ?_, rfl, l', hR4⟩
    exact ((Kept.of0 hk02).trans hk3 fun k h => .inl h).trans hkk fun k h => h.elim (fun c => .inl (.inl c)) (fun c => .inr (by omega))
  | some p =>
    obtain ⟨a0, r⟩ := p
    obtain ⟨rfl, hR3, hx3⟩ := h3
    repeat' (first | (refine CL.seq ?_) | (refine CL.region ?_) | (refine CL.skip ?_) | (refine CL.condP rfl (fun _ => ?_) (fun _ => ?_) <;> try (exfalso; omega)) | (refine CL.condT rfl ?_) | (refine CL.condF rfl ?_) | (refine CL.cond rfl (fun _ => ?_) (fun _ => ?_)) | (refine CL.block ?_) | (refine CL.exit ?_) | (refine Ex.then ?_) | (refine Ex.hit ?_) | (refine Ex.miss rfl ?_) | (refine CL.ret ?_) | (refine Rt.then ?_) | (refine Rt.block ?_) | (refine Pn.then ?_) | (refine Pn.block ?_) | (refine CL.done ?_) | (refine Nm.block ?_) | (refine Nm.then ?_) | (refine Gt.nil ?_; refine RW.nilw [0, 1, 2, 4, 8] ?_; dsimp only [H.keep, H.look, H.Fr.put, Nat.beq]) | (refine Gt.load ?_; refine RW.y (Y.loadB rfl (by assumption) rfl) rfl ?_) | (refine Gt.nilck ?_; refine RW.y (Y.nilck rfl) rfl ?_) | (refine Gt.fieldAddr ?_; refine RW.y (Y.fieldAddr rfl (by rfl)) rfl ?_) | (refine Gt.makeFunc ?_; refine RW.y (Y.makeFunc rfl rfl) rfl ?_) | (refine Gt.move ?_; refine RW.y (Y.move rfl) rfl ?_))
    refine RW.storeB rfl rfl rfl hbk (by show 0 < 1; omega) (fun w4 hb4 hk4 => ?_)
    repeat' (first | (refine CL.seq ?_) | (refine CL.region ?_) | (refine CL.skip ?_) | (refine CL.condP rfl (fun _ => ?_) (fun _ => ?_) <;> try (exfalso; omega)) | (refine CL.condT rfl ?_) | (refine CL.condF rfl ?_) | (refine CL.cond rfl (fun _ => ?_) (fun _ => ?_)) | (refine CL.block ?_) | (refine CL.exit ?_) | (refine Ex.then ?_) | (refine Ex.hit ?_) | (refine Ex.miss rfl ?_) | (refine CL.ret ?_) | (refine Rt.then ?_) | (refine Rt.block ?_) | (refine Pn.then ?_) | (refine Pn.block ?_) | (refine CL.done ?_) | (refine Nm.block ?_) | (refine Nm.then ?_) | (refine Gt.nil ?_; refine RW.nilw [0, 1, 2, 4, 8] ?_; dsimp only [H.keep, H.look, H.Fr.put, Nat.beq]) | (refine Gt.load ?_; refine RW.y (Y.loadB rfl (by assumption) rfl) rfl ?_) | (refine Gt.nilck ?_; refine RW.y (Y.nilck rfl) rfl ?_) | (refine Gt.fieldAddr ?_; refine RW.y (Y.fieldAddr rfl (by rfl)) rfl ?_) | (refine Gt.makeFunc ?_; refine RW.y (Y.makeFunc rfl rfl) rfl ?_) | (refine Gt.move ?_; refine RW.y (Y.move rfl) rfl ?_))
    intro a ha
    refine leaves_cons (f := 46) (args := #[.pointer (some ⟨w.heap.size, 0, none⟩), .pointer (some ⟨w1.heap.size, 0, none⟩)]) (by simp) (by simp [invoke, (inferInstance : Ent Try.prog 46).out]) ?_
    refine (catch_idle _ _ w4).mono ?_
    rintro e5 u5 w5 ⟨rfl, rfl, rfl⟩
    refine ⟨.bool true, results_cell rfl (ha.slot 4 _ rfl) (by rw [cell_row (off := 0) hb4]; rfl), ?_, rfl, ?_, ?_⟩
    · exact ((Kept.of0 hk02).trans hk3 fun k h => .inl h).trans hk4 fun k h => .inr (by omega)
    · exact hR3.keep hk4 fun k hk c => by have := hGn k hk; omega
    · exact hk4.at hx3 (fun c => by have := lt_of_at hx; omega)

set_option maxHeartbeats 400000 in
/-- try, of a reader that failed -/
theorem tryF (fv : Value) {G : Nat → Prop} {b : Nat} {l : List UInt8} (w : World) (hR : Rd w G b l true) :
    Calls Try.prog 33 #[.pointer (some ⟨b, 0, none⟩), fv] w fun e w' => K0 w w' ∧ e = .returned (.bool false) := by
  obtain ⟨⟨v, e, hb, hs, hv⟩, hGb, hlt, hsh⟩ := hR
  refine H.enterD Try.func33 Try.ntmps33 rfl rfl ?_; dsimp only [H.args]
  repeat' (first | (refine CL.seq ?_) | (refine CL.region ?_) | (refine CL.skip ?_) | (refine CL.condP rfl (fun _ => ?_) (fun _ => ?_) <;> try (exfalso; omega)) | (refine CL.condT rfl ?_) | (refine CL.condF rfl ?_) | (refine CL.cond rfl (fun _ => ?_) (fun _ => ?_)) | (refine CL.block ?_) | (refine CL.exit ?_) | (refine Ex.then ?_) | (refine Ex.hit ?_) | (refine Ex.miss rfl ?_) | (refine CL.ret ?_) | (refine Rt.then ?_) | (refine Rt.block ?_) | (refine Pn.then ?_) | (refine Pn.block ?_) | (refine CL.done ?_) | (refine Nm.block ?_) | (refine Nm.then ?_) | (refine Gt.nil ?_; refine RW.nilw [0, 1, 2, 4, 8] ?_; dsimp only [H.keep, H.look, H.Fr.put, Nat.beq]) | (refine Gt.load ?_; refine RW.y (Y.loadB rfl (by assumption) rfl) rfl ?_) | (refine Gt.nilck ?_; refine RW.y (Y.nilck rfl) rfl ?_) | (refine Gt.fieldAddr ?_; refine RW.y (Y.fieldAddr rfl (by rfl)) rfl ?_) | (refine Gt.makeFunc ?_; refine RW.y (Y.makeFunc rfl rfl) rfl ?_) | (refine Gt.move ?_; refine RW.y (Y.move rfl) rfl ?_))
  refine RW.box rfl rfl (fun w1 hb1 hk1 hl1 => ?_)
  refine RW.alloc rfl (fun w2 hb2 hk2 hl2 => ?_)
  have hk02 := hk1.trans0 hk2
  have hb1' := hk2.at0 hb1
  have hbb := hk02.at0 hb
  repeat' (first | (refine CL.seq ?_) | (refine CL.region ?_) | (refine CL.skip ?_) | (refine CL.condP rfl (fun _ => ?_) (fun _ => ?_) <;> try (exfalso; omega)) | (refine CL.condT rfl ?_) | (refine CL.condF rfl ?_) | (refine CL.cond rfl (fun _ => ?_) (fun _ => ?_)) | (refine CL.block ?_) | (refine CL.exit ?_) | (refine Ex.then ?_) | (refine Ex.hit ?_) | (refine Ex.miss rfl ?_) | (refine CL.ret ?_) | (refine Rt.then ?_) | (refine Rt.block ?_) | (refine Pn.then ?_) | (refine Pn.block ?_) | (refine CL.done ?_) | (refine Nm.block ?_) | (refine Nm.then ?_) | (refine Gt.nil ?_; refine RW.nilw [0, 1, 2, 4, 8] ?_; dsimp only [H.keep, H.look, H.Fr.put, Nat.beq]) | (refine Gt.load ?_; refine RW.y (Y.loadB rfl (by assumption) rfl) rfl ?_) | (refine Gt.nilck ?_; refine RW.y (Y.nilck rfl) rfl ?_) | (refine Gt.fieldAddr ?_; refine RW.y (Y.fieldAddr rfl (by rfl)) rfl ?_) | (refine Gt.makeFunc ?_; refine RW.y (Y.makeFunc rfl rfl) rfl ?_) | (refine Gt.move ?_; refine RW.y (Y.move rfl) rfl ?_))
  refine RW.storeB rfl rfl rfl hb2 (by show 0 < 1; omega) (fun w4 hb4 hk4 => ?_)
  repeat' (first | (refine CL.seq ?_) | (refine CL.region ?_) | (refine CL.skip ?_) | (refine CL.condP rfl (fun _ => ?_) (fun _ => ?_) <;> try (exfalso; omega)) | (refine CL.condT rfl ?_) | (refine CL.condF rfl ?_) | (refine CL.cond rfl (fun _ => ?_) (fun _ => ?_)) | (refine CL.block ?_) | (refine CL.exit ?_) | (refine Ex.then ?_) | (refine Ex.hit ?_) | (refine Ex.miss rfl ?_) | (refine CL.ret ?_) | (refine Rt.then ?_) | (refine Rt.block ?_) | (refine Pn.then ?_) | (refine Pn.block ?_) | (refine CL.done ?_) | (refine Nm.block ?_) | (refine Nm.then ?_) | (refine Gt.nil ?_; refine RW.nilw [0, 1, 2, 4, 8] ?_; dsimp only [H.keep, H.look, H.Fr.put, Nat.beq]) | (refine Gt.load ?_; refine RW.y (Y.loadB rfl (by assumption) rfl) rfl ?_) | (refine Gt.nilck ?_; refine RW.y (Y.nilck rfl) rfl ?_) | (refine Gt.fieldAddr ?_; refine RW.y (Y.fieldAddr rfl (by rfl)) rfl ?_) | (refine Gt.makeFunc ?_; refine RW.y (Y.makeFunc rfl rfl) rfl ?_) | (refine Gt.move ?_; refine RW.y (Y.move rfl) rfl ?_))
  intro a ha
  exact ⟨.bool false, results_cell rfl (ha.slot 4 _ rfl) (by rw [cell_row (off := 0) hb4]; rfl), hk02.trans hk4 fun k h => .inr (by omega), rfl⟩
end Go.Proofs.Ytblbibdjddmfiaa.Co
