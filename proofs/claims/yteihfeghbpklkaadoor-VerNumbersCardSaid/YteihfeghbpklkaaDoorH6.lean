/-
  More rules: how exits pass, guards that part, indexed reads, and the like.
-/
import Derived.Test.YteihfeghbpklkaaDoorH5
namespace Go.Proofs.YteihfeghbpklkaaDoor.H
open Go.RowKit

section
variable {M : Option (Option Nat)} {P : Program} {ops : Array Oper} {Q : Post} {rest : List Oper} {f : Fr} {w : World} {d : Nat} {ty : TypeId} {pos : String} {af : Array Edge} {K : Fr → World → Prop}

theorem CL.done (h : Q .normal f w) : CL M P Q [] f w := h
theorem Ex.then {x : Nat} (h : Q (.exit x) f w) : thenK K Q (.exit x) f w := h
theorem Ex.hit {x : Nat} (h : K f w) : blockQ x K Q (.exit x) f w := by simp only [blockQ, beq_self]; exact h
theorem Ex.miss {x y : Nat} (hb : Nat.beq x y = false) (h : Q (.exit x) f w) : blockQ y K Q (.exit x) f w := by simp only [blockQ, hb]; exact h
theorem Rt.then (h : Q .ret f w) : thenK K Q .ret f w := h
theorem Rt.block {x : Nat} (h : Q .ret f w) : blockQ x K Q .ret f w := h
theorem Pn.then {c : List PanicEntry} (h : Q (.panic c) f w) : thenK K Q (.panic c) f w := h
theorem Pn.block {x : Nat} {c : List PanicEntry} (h : Q (.panic c) f w) : blockQ x K Q (.panic c) f w := h
theorem After.pn {d : Nat} {c : List PanicEntry} (h : Q (.panic c) f w) : After M P ops Q rest f d (.panicked c) w := h
theorem After0.pn {c : List PanicEntry} (h : Q (.panic c) f w) : After0 M P ops Q rest f (.panicked c) w := h
theorem Nm.then (h : K f w) : thenK K Q .normal f w := h
theorem Nm.block {x : Nat} (h : K f w) : blockQ x K Q .normal f w := h

theorem RW.nilw {cs : List Code} (l : List Nat) (h : CL M P Q cs ⟨f.n, f.ds, keep l f.e⟩ w) : RW M P ops (thenK (CL M P Q cs) Q) [] f w :=
  fun _ ha => lwp_nil ⟨_, ha.weaken (look_keep l f.e), h⟩

theorem RW.part {o : Oper} {j t : Nat} {b : Bool} {p : Prop} {_ : Decidable p} (_hg : o.guard = some (j, b)) (_hj : (ops[j]?).bind (·.dst) = some t) (hv : look f.e t = some (.bool (decide p)))
    (h1 : p → RW M P ops Q (o :: rest) (f.put t (.bool true)) w) (h2 : ¬ p → RW M P ops Q (o :: rest) (f.put t (.bool false)) w) : RW M P ops Q (o :: rest) f w := RW.splitP hv h1 h2
theorem RW.partb {o : Oper} {j t : Nat} {b c : Bool} (_hg : o.guard = some (j, b)) (_hj : (ops[j]?).bind (·.dst) = some t) (hv : look f.e t = some (.bool c))
    (h1 : c = true → RW M P ops Q (o :: rest) (f.put t (.bool true)) w) (h2 : c = false → RW M P ops Q (o :: rest) (f.put t (.bool false)) w) : RW M P ops Q (o :: rest) f w := RW.split hv h1 h2

theorem Y.convN {s t : TypeId} {x : Operand} {k k1 : IntKind} {a : Int} {ds : TypeDesc} [hs : Und P s ds] [h1 : Und P t (.int k)] (hx : f.ev x = some (.int k1 a)) (hk : k.wrap a = a) : Yd P f (op1 d (.convert s t x) ty pos af) (.int k a) w := by
  have h := Y.conv (P := P) (w := w) (d := d) (ty := ty) (pos := pos) (af := af) (s := s) (t := t) hx (by rw [hs.out]; rfl)
  rw [hk] at h
  exact h

theorem Y.convW {s t : TypeId} {x : Operand} {k k1 : IntKind} {a : Int} {ds : TypeDesc} [hs : Und P s ds] [h1 : Und P t (.int k)] (hx : f.ev x = some (.int k1 a)) : Yd P f (op1 d (.convert s t x) ty pos af) (.int k (k.wrap a)) w :=
  Y.conv hx (by rw [hs.out]; rfl)

theorem Y.neg64 {t : TypeId} {x : Operand} {a : Int} (hx : f.ev x = some (.int .i64 a)) (h1 : -9223372036854775808 ≤ 0 - a) (h2 : 0 - a ≤ 9223372036854775807) : Yd P f (op1 d (.unOp .neg t x) ty pos af) (.int .i64 (0 - a)) w := by
  have h := Y.neg (P := P) (w := w) (d := d) (ty := ty) (pos := pos) (af := af) (t := t) hx
  rw [wrap64_id h1 h2] at h
  exact h
theorem Y.addu {t yt : TypeId} {x y : Operand} {a b : Int} (hx : f.ev x = some (.int .u64 a)) (hy : f.ev y = some (.int .u64 b)) (h1 : 0 ≤ a + b) (h2 : a + b < 18446744073709551616) : Yd P f (op1 d (.binOp .add t x y yt) ty pos af) (.int .u64 (a + b)) w := by
  have h := Y.add (P := P) (w := w) (d := d) (ty := ty) (pos := pos) (af := af) (t := t) (yt := yt) hx hy
  rw [wrapu64_id h1 h2] at h
  exact h

theorem Y.mulu {t yt : TypeId} {x y : Operand} {a b : Int} (hx : f.ev x = some (.int .u64 a)) (hy : f.ev y = some (.int .u64 b)) (h1 : 0 ≤ a * b) (h2 : a * b < 18446744073709551616) : Yd P f (op1 d (.binOp .mul t x y yt) ty pos af) (.int .u64 (a * b)) w := by
  have h := Y.mul (P := P) (w := w) (d := d) (ty := ty) (pos := pos) (af := af) (t := t) (yt := yt) hx hy
  rw [wrapu64_id h1 h2] at h
  exact h

theorem Y.pickAnd {c x y : Operand} {a b : Bool} (hc : f.ev c = some (.bool a)) (hx : f.ev x = some (.bool b)) (hy : f.ev y = some (.bool false)) : Yd P f (op1 d (.pick c x y) ty pos af) (.bool (a && b)) w := by
  cases a
  · exact Y.pickF hc hy
  · simpa using Y.pickT (P := P) (w := w) (d := d) (ty := ty) (pos := pos) (af := af) hc hx

def looks (e : List (Nat × Value)) : List Nat → Option (List Value)
  | [] => some []
  | t :: r => match look e t with
    | some v => match looks e r with
      | some l => some (v :: l)
      | none => none
    | none => none

theorem looks_zip (e : List (Nat × Value)) : ∀ (l : List Nat) (vals : List Value), looks e l = some vals → ∀ t v, look (l.zip vals) t = some v → look e t = some v := by
  intro l
  induction l with
  | nil => intro vals _ t v hv; simp [look] at hv
  | cons k r ih =>
    intro vals h t v hv
    simp only [looks] at h
    cases hk : look e k with
    | none => simp [hk] at h
    | some u =>
      cases hr : looks e r with
      | none => simp [hk, hr] at h
      | some l' =>
        simp only [hk, hr, Option.some.injEq] at h
        subst h
        simp only [List.zip_cons_cons, look] at hv
        by_cases hkt : k = t
        · subst hkt; rw [beq_self] at hv; simp only at hv; rw [hk]; exact hv
        · rw [beq_ne hkt] at hv; exact ih l' hr t v hv

/-- A loop, by the slots that its rounds turn. -/
theorem CL.loopS {cs : List Code} {c : Code} (l : List Nat) (I : Nat → List Value → World → Prop) (m : Nat) (h0 : ∃ vals, looks f.e l = some vals ∧ I m vals w)
    (round : ∀ m vals w, I m vals w → CL M P (thenK (fun f' w' => ∃ m' vals', looks f'.e l = some vals' ∧ f'.n = f.n ∧ f'.ds = f.ds ∧ m' < m ∧ I m' vals' w') Q) [c] ⟨f.n, f.ds, l.zip vals⟩ w) : CL M P Q (.loop c :: cs) f w := by
  obtain ⟨vals, hv, hi⟩ := h0
  have hl : CL M P Q (.loop c :: cs) ⟨f.n, f.ds, l.zip vals⟩ w := by
    refine CL.loop (fun m f' w' => ∃ vals', f' = ⟨f.n, f.ds, l.zip vals'⟩ ∧ I m vals' w') m ⟨vals, rfl, hi⟩ fun m f' w' ⟨vals', hf, hi'⟩ => ?_
    subst hf
    intro a ha
    refine cwp_mono (round m vals' w' hi' a ha) fun x a' w2 q => ?_
    obtain ⟨f2, hf2, q⟩ := q
    cases x with
    | normal =>
      obtain ⟨m', v2, h1, hn, hds, h2, h3⟩ := q
      refine ⟨⟨f2.n, f2.ds, l.zip v2⟩, hf2.weaken (looks_zip f2.e l v2 h1), ?_⟩
      rw [hn, hds]
      exact ⟨m', h2, v2, rfl, h3⟩
    | _ => exact ⟨f2, hf2, q⟩
  exact fun a ha => hl a (ha.weaken (looks_zip f.e l vals hv))

theorem own_snoc {w : World} {base : Nat} {e : TypeId} {v : Value} {l : List UInt8} {c : UInt8} (h : w.ownsRow base e 1 v (l.length + 1) (bv l ++ (vb c).cells.toList)) : w.ownsRow base e 1 v (l ++ [c]).length (bv (l ++ [c])) := by
  simpa [Value.cells] using h

/-- The address of an element. -/
theorem Y.idx {t e : TypeId} {z : Value} {sz b : Nat} [ht : Und P t (.slice e)] [Inf P e z sz b] {x y : Operand} {k : IntKind} {v : Value} {i : Int} {n : Nat} {xs : List Value} (hx : f.ev x = some v) (hy : f.ev y = some (.int k i)) (hs : Sl w sz v n xs) (h0 : 0 ≤ i) (h1 : i < n) : Yd P f (op1 d (.indexAddr t x y) ty pos af) (.pointer (some (Value.spot v (i.toNat * sz)))) w := by
  intro a ha
  have hsz := run_sizeOf (P := P) (t := e) w
  rcases hs.2.2 with ⟨_, rfl, h⟩ | ⟨g, off, cap, cur, e', fz, rfl, _⟩
  · omega
  · simp [execOp, ha.eval hx, ha.eval hy, Instr.indexAt, asIntOf, run_underlying ht.out, h0, h1, hsz, Value.spot]

/-- An element of one cell is read. -/
theorem RW.elem {t e t2 ty2 : TypeId} {pos2 : String} {af2 : Array Edge} {d1 : Nat} {z : Value} {b : Nat} [ht : Und P t (.slice e)] [Inf P e z 1 b] [One P t2] {x y : Operand} {k : IntKind} {v u : Value} {i : Int} {n : Nat} {xs : List Value} (hx : f.ev x = some v) (hy : f.ev y = some (.int k i)) (hd : Nat.blt d f.n = true) (hd1 : Nat.blt d1 f.n = true)
    (hs : Sl w 1 v n xs) (h0 : 0 ≤ i) (h1 : i < n) (hu : xs[i.toNat]? = some u)
    (kk : RW M P ops Q rest ((f.put d (.pointer (some (Value.spot v (i.toNat * 1))))).put d1 u) w) : RW M P ops Q (op1 d (.indexAddr t x y) ty pos af :: op1 d1 (.load t2 (.tmp d)) ty2 pos2 af2 :: rest) f w := by
  refine RW.y (Y.idx hx hy hs h0 h1) hd (RW.y (Y.load1 (a := Value.spot v (i.toNat * 1)) ?_ (by rw [Nat.mul_one]; exact hs.cell hu)) hd1 kk)
  simp [Fr.ev, Fr.put, look]
theorem RW.elemB {t e t2 ty2 : TypeId} {pos2 : String} {af2 : Array Edge} {d1 : Nat} {z : Value} {b : Nat} [ht : Und P t (.slice e)] [Inf P e z 1 b] [One P t2] {x y : Operand} {k : IntKind} {v : Value} {i : Int} {n : Nat} {l : List UInt8} (hx : f.ev x = some v) (hy : f.ev y = some (.int k i)) (hd : Nat.blt d f.n = true) (hd1 : Nat.blt d1 f.n = true)
    (hs : Sl w 1 v n (bv l)) (h0 : 0 ≤ i) (h1 : i < l.length)
    (kk : RW M P ops Q rest ((f.put d (.pointer (some (Value.spot v (i.toNat * 1))))).put d1 (vb (l.getD i.toNat 0))) w) : RW M P ops Q (op1 d (.indexAddr t x y) ty pos af :: op1 d1 (.load t2 (.tmp d)) ty2 pos2 af2 :: rest) f w := by
  have hn : n = l.length := by have := hs.1; simpa using this.symm
  have hlt : i.toNat < l.length := by omega
  refine RW.elem hx hy hd hd1 hs h0 (by omega) ?_ kk
  simp [hlt]
theorem RW.elemS {t e t2 ty2 : TypeId} {pos2 : String} {af2 : Array Edge} {d1 : Nat} {z : Value} {b : Nat} [ht : Und P t (.slice e)] [Inf P e z 1 b] [One P t2] {x y : Operand} {k : IntKind} {v : Value} {i : Int} {n : Nat} {l : List (List UInt8)} (hx : f.ev x = some v) (hy : f.ev y = some (.int k i)) (hd : Nat.blt d f.n = true) (hd1 : Nat.blt d1 f.n = true)
    (hs : Sl w 1 v n (sv l)) (h0 : 0 ≤ i) (h1 : i < l.length)
    (kk : RW M P ops Q rest ((f.put d (.pointer (some (Value.spot v (i.toNat * 1))))).put d1 (vs (l.getD i.toNat []))) w) : RW M P ops Q (op1 d (.indexAddr t x y) ty pos af :: op1 d1 (.load t2 (.tmp d)) ty2 pos2 af2 :: rest) f w := by
  have hn : n = l.length := by have := hs.1; simpa using this.symm
  have hlt : i.toNat < l.length := by omega
  refine RW.elem hx hy hd hd1 hs h0 (by omega) ?_ kk
  simp [hlt]
end
end Go.Proofs.YteihfeghbpklkaaDoor.H
