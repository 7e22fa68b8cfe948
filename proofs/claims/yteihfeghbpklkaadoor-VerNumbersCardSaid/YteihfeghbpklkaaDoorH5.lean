/-
  The rules of cutting texts and slices, of bytes and texts, of calls; how the end of a body is read.
-/
import Derived.Test.YteihfeghbpklkaaDoorH4
import Derived.Lib.Strings
namespace Go.Proofs.YteihfeghbpklkaaDoor.H
open Go.RowKit

abbrev vb (c : UInt8) : Value := .int .u8 (c.toNat : Int)
abbrev vs (l : List UInt8) : Value := .string (B l)
abbrev bv (l : List UInt8) : List Value := l.map vb
abbrev sv (l : List (List UInt8)) : List Value := l.map vs

theorem bv_one (l : List UInt8) : ∀ u ∈ bv l, u.oneCell' = true := by intro u hu; obtain ⟨c, _, rfl⟩ := List.mem_map.1 hu; rfl
theorem sv_one (l : List (List UInt8)) : ∀ u ∈ sv l, u.oneCell' = true := by intro u hu; obtain ⟨c, _, rfl⟩ := List.mem_map.1 hu; rfl

theorem B_extract (l : List UInt8) (a b : Nat) : (B l).extract a b = B ((l.drop a).take (b - a)) := by
  have := Go.Lib.extract_eq (B l) a b
  simpa using this
theorem B_extract' (l : List UInt8) (a b : Nat) : (B l).extract a b = B ((l.take b).drop a) := by
  rw [B_extract, List.drop_take]

section
variable {M : Option (Option Nat)} {P : Program} {ops : Array Oper} {Q : Post} {rest : List Oper} {f : Fr} {w : World} {d : Nat} {ty : TypeId} {pos : String} {af : Array Edge}

theorem Y.cuth {t : TypeId} [ht : Und P t .string] {x y : Operand} {k : IntKind} {l : List UInt8} {b : Int} (hx : f.ev x = some (.string (B l))) (hy : f.ev y = some (.int k b)) (h0 : 0 ≤ b) (h1 : b ≤ l.length) : Yd P f (op1 d (.slice t x none (some y) none) ty pos af) (.string (B (l.take b.toNat))) w := by
  intro a ha
  have h := run_slice_string_h (P := P) w t (B l) ht.out k b h0 (by rw [B_size]; omega)
  rw [B_extract' l 0] at h
  simp [execOp, ha.eval hx, ha.eval hy, Instr.sliceAt, run_underlying ht.out, h]

theorem Y.cutl {t : TypeId} [ht : Und P t .string] {x y : Operand} {k : IntKind} {l : List UInt8} {a : Int} (hx : f.ev x = some (.string (B l))) (hy : f.ev y = some (.int k a)) (h0 : 0 ≤ a) (h1 : a ≤ l.length) : Yd P f (op1 d (.slice t x (some y) none none) ty pos af) (.string (B (l.drop a.toNat))) w := by
  intro a' ha
  have h := run_slice_string_l (P := P) w t (B l) ht.out k a h0 (by rw [B_size]; omega)
  rw [B_extract' l, B_size, List.take_length] at h
  simp [execOp, ha.eval hx, ha.eval hy, Instr.sliceAt, run_underlying ht.out, h]

theorem Y.cutlh {t : TypeId} [ht : Und P t .string] {x y z : Operand} {k k2 : IntKind} {l : List UInt8} {a b : Int} (hx : f.ev x = some (.string (B l))) (hy : f.ev y = some (.int k a)) (hz : f.ev z = some (.int k2 b)) (h0 : 0 ≤ a) (h1 : a ≤ b) (h2 : b ≤ l.length) : Yd P f (op1 d (.slice t x (some y) (some z) none) ty pos af) (.string (B ((l.take b.toNat).drop a.toNat))) w := by
  intro a' ha
  have e1 := run_sliceBound (P := P) (w := w) k2 b l.length .sliceAlen (by omega) (by omega)
  have e2 := run_sliceBound (P := P) (w := w) k a b.toNat .sliceB (by omega) (by omega)
  simp [execOp, ha.eval hx, ha.eval hy, ha.eval hz, Instr.sliceAt, Instr.slice, run_underlying ht.out, Instr.sliceBounds, e1, e2, B_size, B_extract']

theorem seg_of (cur : List Value) (off n sz a b : Nat) (h1 : a ≤ b) (h2 : b ≤ n) : (cur.drop (off + a * sz)).take ((b - a) * sz) = (((cur.drop off).take (n * sz)).take (b * sz)).drop (a * sz) := by
  rw [List.take_take, Nat.min_eq_left (Nat.mul_le_mul_right _ h2), List.drop_take, List.drop_drop, Nat.sub_mul]

theorem Sl.sub {w : World} {sz : Nat} {v : Value} {n : Nat} {xs : List Value} (h : Sl w sz v n xs) {p : Option Addr} {cap : Nat} (hv : v = .slice p n cap) {a b m : Nat} (h1 : a ≤ b) (h2 : b ≤ n) (hm : b ≤ m) (hmc : m ≤ cap) :
    Sl w sz (.slice (if m = a then p else p.map (·.add (a * sz))) (b - a) (m - a)) (b - a) ((xs.take (b * sz)).drop (a * sz)) := by
  refine ⟨by rw [List.length_drop, List.length_take, h.1, Nat.sub_mul, Nat.min_eq_left (Nat.mul_le_mul_right _ h2)], Nat.le_trans (Nat.sub_le _ _) (Nat.le_trans h2 h.2.1), ?_⟩
  rcases h.2.2 with ⟨_, rfl, rfl⟩ | ⟨g, off, cp, cur, e, fz, rfl, hg, hn, hc, ho, ht⟩
  · cases hv
    have : b = 0 := by omega
    subst this
    have : a = 0 := by omega
    subst this
    have : m = 0 := by omega
    subst this
    exact .inl ⟨p, by simp, rfl⟩
  · cases hv
    have hasz : a * sz ≤ n * sz := Nat.mul_le_mul_right _ (by omega)
    have hncp : n * sz ≤ cap * sz := Nat.mul_le_mul_right _ hn
    by_cases hma : m = a
    · subst hma
      have hb : b = m := by omega
      subst hb
      refine .inr ⟨g, off, 0, cur, e, fz, by simp, hg, by omega, by omega, by omega, ?_⟩
      simp [← ht]
    · refine .inr ⟨g, off + a * sz, m - a, cur, e, fz, by simp [hma, addr_add], hg, by omega, by omega, ?_, ?_⟩
      · rw [Nat.sub_mul]
        have := Nat.mul_le_mul_right sz (show a ≤ m by omega)
        have := Nat.mul_le_mul_right sz hmc
        omega
      · rw [← ht]; exact seg_of cur.toList off n sz a b h1 h2

theorem Sl.shape {w : World} {sz : Nat} {v : Value} {n : Nat} {xs : List Value} (h : Sl w sz v n xs) : ∃ p cap, v = .slice p n cap ∧ n ≤ cap := by
  rcases h.2.2 with ⟨_, rfl, rfl⟩ | ⟨g, off, cp, cur, e, fz, rfl, _, hn, _⟩
  · exact ⟨_, _, rfl, by omega⟩
  · exact ⟨_, _, rfl, hn⟩

theorem add_block (x : Addr) (k : Nat) : (x.add k).block = x.block := by unfold Addr.add; split <;> rfl
theorem sub_block {p : Option Addr} {m a k n c n' c' : Nat} (hc : c ≤ c') : ∀ g, live (Value.slice (if m = a then p else p.map (·.add k)) n c) = some g → live (Value.slice p n' c') = some g := by
  intro g hg
  cases p with
  | none => by_cases h : m = a <;> simp [h, live] at hg
  | some x =>
    cases c with
    | zero => by_cases h : m = a <;> simp [h, live] at hg
    | succ c =>
      rw [live_pos (by omega)]
      by_cases h : m = a
      · simpa [h, live] using hg
      · simpa [h, live, add_block] using hg

theorem run_sub {t e : TypeId} {z : Value} {sz b : Nat} [ht : Und P t (.slice e)] [Inf P e z sz b] (p : Option Addr) (len cap : Nat) (lo hi : Option Value) (l h : Nat) (hlo : lo = none ∧ l = 0 ∨ ∃ k, lo = some (.int k (l : Int))) (hhi : hi = none ∧ h = len ∨ ∃ k, hi = some (.int k (h : Int))) (h1 : l ≤ h) (h2 : h ≤ cap) :
    (Instr.sliceAt t (.slice p len cap) lo hi none).run P w = .ok (.slice (if cap = l then p else p.map (·.add (l * sz))) (h - l) (cap - l)) w := by
  have hsz := run_sizeOf (P := P) (t := e) w
  have e1 : ∀ k, (Instr.sliceBound (.int k (h : Int)) cap .sliceAcap).run P w = .ok h w := fun k => by have := run_sliceBound (P := P) (w := w) k h cap .sliceAcap (by omega) (by omega); simpa using this
  have e2 : ∀ k, (Instr.sliceBound (.int k (l : Int)) h .sliceB).run P w = .ok l w := fun k => by have := run_sliceBound (P := P) (w := w) k l h .sliceB (by omega) (by omega); simpa using this
  rcases hlo with ⟨rfl, rfl⟩ | ⟨kl, rfl⟩ <;> rcases hhi with ⟨rfl, rfl⟩ | ⟨kh, rfl⟩ <;> simp [Instr.sliceAt, Instr.slice, run_underlying ht.out, Instr.sliceBounds, hsz, e1, e2]

/-- x[i:] -/
theorem RW.subl {t e : TypeId} {z : Value} {sz b : Nat} [ht : Und P t (.slice e)] [Inf P e z sz b] {x y : Operand} {k : IntKind} {v : Value} {i : Int} {n : Nat} {xs : List Value} (hx : f.ev x = some v) (hy : f.ev y = some (.int k i)) (hd : Nat.blt d f.n = true) (hs : Sl w sz v n xs) (h0 : 0 ≤ i) (h1 : i ≤ n)
    (kk : ∀ v', Sl w sz v' (n - i.toNat) (xs.drop (i.toNat * sz)) → (∀ g, live v' = some g → live v = some g) → RW M P ops Q rest (f.put d v') w) : RW M P ops Q (op1 d (.slice t x (some y) none none) ty pos af :: rest) f w := by
  obtain ⟨p, cap, rfl, hcap⟩ := hs.shape
  have hi : i = (i.toNat : Int) := by omega
  have hr := run_sub (P := P) (w := w) (t := t) (sz := sz) p n cap (some (.int k i)) none i.toNat n (.inr ⟨k, by rw [← hi]⟩) (.inl ⟨rfl, rfl⟩) (by omega) hcap
  refine RW.val (v := .slice (if cap = i.toNat then p else p.map (·.add (i.toNat * sz))) (n - i.toNat) (cap - i.toNat)) rfl rfl hd (fun a ha => ?_) (kk _ ?_ (sub_block (by omega)))
  · simp only [execOp, ha.eval hx, Option.map_some, Option.map_none, ha.eval hy, Sem.run_bind, hr]; rfl
  · have h := hs.sub (a := i.toNat) (b := n) (m := cap) rfl (by omega) (Nat.le_refl _) hcap (Nat.le_refl _)
    rw [List.take_of_length_le (by rw [hs.1]; exact Nat.le_refl _)] at h
    rcases h with ⟨a1, a2, a3⟩
    refine ⟨a1, a2, ?_⟩
    rcases a3 with ⟨p0, hv, h0⟩ | ⟨g, off, cp, cur, e', fz, hv, r⟩
    · left; refine ⟨p0, ?_, h0⟩; simp only [Value.slice.injEq] at hv ⊢; refine ⟨?_, h0, ?_⟩
      · exact hv.1
      · exact hv.2.2
    · right; exact ⟨g, off, cp, cur, e', fz, hv, r⟩

/-- x[:i], read -/
theorem RW.subh {t e : TypeId} {z : Value} {sz b : Nat} [ht : Und P t (.slice e)] [Inf P e z sz b] {x y : Operand} {k : IntKind} {v : Value} {i : Int} {n : Nat} {xs : List Value} (hx : f.ev x = some v) (hy : f.ev y = some (.int k i)) (hd : Nat.blt d f.n = true) (hs : Sl w sz v n xs) (h0 : 0 ≤ i) (h1 : i ≤ n)
    (kk : ∀ v', Sl w sz v' i.toNat (xs.take (i.toNat * sz)) → (∀ g, live v' = some g → live v = some g) → RW M P ops Q rest (f.put d v') w) : RW M P ops Q (op1 d (.slice t x none (some y) none) ty pos af :: rest) f w := by
  obtain ⟨p, cap, rfl, hcap⟩ := hs.shape
  have hi : i = (i.toNat : Int) := by omega
  have hr := run_sub (P := P) (w := w) (t := t) (sz := sz) p n cap none (some (.int k i)) 0 i.toNat (.inl ⟨rfl, rfl⟩) (.inr ⟨k, by rw [← hi]⟩) (by omega) (by omega)
  refine RW.val (v := .slice (if cap = 0 then p else p.map (·.add (0 * sz))) (i.toNat - 0) (cap - 0)) rfl rfl hd (fun a ha => ?_) (kk _ ?_ (sub_block (by omega)))
  · simp only [execOp, ha.eval hx, Option.map_some, Option.map_none, ha.eval hy, Sem.run_bind, hr]; rfl
  · have h := hs.sub (a := 0) (b := i.toNat) (m := cap) rfl (by omega) (by omega) (by omega) (Nat.le_refl _)
    simpa using h

/-- x[i:j], read -/
theorem RW.sublh {t e : TypeId} {z : Value} {sz b : Nat} [ht : Und P t (.slice e)] [Inf P e z sz b] {x y y2 : Operand} {k k2 : IntKind} {v : Value} {i j : Int} {n : Nat} {xs : List Value} (hx : f.ev x = some v) (hy : f.ev y = some (.int k i)) (hy2 : f.ev y2 = some (.int k2 j)) (hd : Nat.blt d f.n = true) (hs : Sl w sz v n xs) (h0 : 0 ≤ i) (h1 : i ≤ j) (h2 : j ≤ n)
    (kk : ∀ v', Sl w sz v' (j.toNat - i.toNat) ((xs.take (j.toNat * sz)).drop (i.toNat * sz)) → (∀ g, live v' = some g → live v = some g) → RW M P ops Q rest (f.put d v') w) : RW M P ops Q (op1 d (.slice t x (some y) (some y2) none) ty pos af :: rest) f w := by
  obtain ⟨p, cap, rfl, hcap⟩ := hs.shape
  have hi : i = (i.toNat : Int) := by omega
  have hj : j = (j.toNat : Int) := by omega
  have hr := run_sub (P := P) (w := w) (t := t) (sz := sz) p n cap (some (.int k i)) (some (.int k2 j)) i.toNat j.toNat (.inr ⟨k, by rw [← hi]⟩) (.inr ⟨k2, by rw [← hj]⟩) (by omega) (by omega)
  refine RW.val rfl rfl hd (fun a ha => ?_) (kk _ (hs.sub (a := i.toNat) (b := j.toNat) (m := cap) rfl (by omega) (by omega) (by omega) (Nat.le_refl _)) (sub_block (by omega)))
  simp only [execOp, ha.eval hx, Option.map_some, Option.map_none, ha.eval hy, ha.eval hy2, Sem.run_bind, hr]; rfl

/-- x[:i] of a row of the call's own -/
theorem RW.ownh {t e : TypeId} {z : Value} {sz b : Nat} [ht : Und P t (.slice e)] [Inf P e z sz b] {x y : Operand} {k : IntKind} {v : Value} {i : Int} {base n : Nat} {xs : List Value} (hx : f.ev x = some v) (hy : f.ev y = some (.int k i)) (hd : Nat.blt d f.n = true) (hs : w.ownsRow base e sz v n xs) (h0 : 0 ≤ i) (h1 : i ≤ n)
    (kk : ∀ v', w.ownsRow base e sz v' i.toNat (xs.take (i.toNat * sz)) → v'.ownBlock = v.ownBlock → RW M P ops Q rest (f.put d v') w) : RW M P ops Q (op1 d (.slice t x none (some y) none) ty pos af :: rest) f w := by
  have hi : i = (i.toNat : Int) := by omega
  have key : ∃ p cap, v = .slice p n cap ∧ n ≤ cap ∧ w.ownsRow base e sz (.slice p i.toNat cap) i.toNat (xs.take (i.toNat * sz)) := by
    have hle : i.toNat * sz ≤ n * sz := Nat.mul_le_mul_right _ (by omega)
    rcases hs.2 with ⟨rfl, rfl⟩ | ⟨g, cap, cur, rfl, hb, hg, hn, hm, hc, ht⟩
    · have : i.toNat = 0 := by omega
      rw [this]
      exact ⟨none, 0, rfl, Nat.le_refl _, by simp, .inl ⟨rfl, rfl⟩⟩
    · refine ⟨_, cap, rfl, hn, by rw [List.length_take, hs.1, Nat.min_eq_left hle], .inr ⟨g, cap, cur, rfl, hb, hg, by omega, hm, hc, ?_⟩⟩
      rw [← ht, List.take_take, Nat.min_eq_left hle]
  obtain ⟨p, cap, rfl, hcap, ho⟩ := key
  have hr := run_sub (P := P) (w := w) (t := t) (sz := sz) p n cap none (some (.int k i)) 0 i.toNat (.inl ⟨rfl, rfl⟩) (.inr ⟨k, by rw [← hi]⟩) (by omega) (by omega)
  have hp : (if cap = 0 then p else p.map (·.add (0 * sz))) = p := by
    cases p <;> simp [Addr.add]
  rw [hp] at hr
  refine RW.val rfl rfl hd (fun a ha => ?_) (kk _ ho (by cases p <;> rfl))
  simp only [execOp, ha.eval hx, Option.map_some, Option.map_none, ha.eval hy, Sem.run_bind, hr]; rfl

/-- string(b) -/
theorem Y.strb {s t e : TypeId} [hs : Und P s (.slice e)] [he : Und P e (.int .u8)] [ht : Und P t .string] {x : Operand} {v : Value} {l : List UInt8} (hx : f.ev x = some v) (h : Sl w 1 v l.length (bv l)) : Yd P f (op1 d (.convert s t x) ty pos af) (.string (B l)) w := by
  intro a ha
  rcases h.2.2 with ⟨p, rfl, h0⟩ | ⟨g, off, cp, cur, e', fz, rfl, hg, hn, _, ho, htk⟩
  · have : l = [] := List.eq_nil_of_length_eq_zero h0
    subst this
    have hr2 : ∀ q, (Conv.bytesToString (.slice q 0 0)).run P w = .ok (.string (B [])) w := by
      intro q
      cases q with
      | none => simp only [Conv.bytesToString, Sem.run_pure]; rfl
      | some a =>
        have := run_bytesToString (P := P) w a 0 0 [] (run_loadCells_list (P := P) w a [] (fun j u hu => by simp at hu))
        rw [foldl_push_bytes] at this
        exact this
    simp only [execOp, ha.eval hx, Sem.run_bind, run_convert_bytes_string w s t e _ _ _ hs.out he.out ht.out, hr2]
    rfl
  · have hr := run_loadCells_list (P := P) w ⟨g, off, none⟩ (bv l) (fun j u hu => by have := h.cell hu; simpa [Value.spot] using this)
    have hr2 := run_bytesToString (P := P) w ⟨g, off, none⟩ l.length cp (l.map fun c => (c.toNat : Int)) (by
      simp only [List.length_map] at hr; rw [hr]; congr 2; simp [List.map_map, Function.comp_def])
    rw [foldl_push_bytes] at hr2
    have hB : (⟨ByteArray.empty.data ++ ((l.map fun c => (c.toNat : Int)).map fun n => UInt8.ofNat n.toNat).toArray⟩ : ByteArray) = B l := by
      apply ByteArray.ext
      simp [Function.comp_def]
    rw [hB] at hr2
    simp only [execOp, ha.eval hx, Sem.run_bind, run_convert_bytes_string w s t e _ _ _ hs.out he.out ht.out, hr2]
    rfl

/-- A function that is entered when it is called. -/
class Ent (P : Program) (k : FuncId) : Prop where out : ∀ args w, (callFunc k args).run P w = .ok (.enter k args) w
theorem Ent.of {k : FuncId} {fn : Func} (hf : P.funcs[k]? = some fn) (hname : (fn.name == "runtime.NumGoroutine") = false) (hb : fn.body.isSome = true) : Ent P k :=
  ⟨fun args w => by
    have hn : fn.body.isNone = false := by cases h : fn.body <;> simp_all
    simp only [callFunc, Sem.run_bind, run_program, Result.andThen_ok, hf, hname, hn, Bool.false_eq_true, if_false, Sem.run_pure]⟩

def Fr.evs (f : Fr) : List Operand → Option (List Value)
  | [] => some []
  | x :: r => match f.ev x with
    | some v => match f.evs r with
      | some l => some (v :: l)
      | none => none
    | none => none

theorem Ag.evs {a : Act} (ha : Ag f a) : ∀ (xs : List Operand) (l : List Value), f.evs xs = some l → xs.map a.eval = l := by
  intro xs
  induction xs with
  | nil => intro l h; cases h; rfl
  | cons x r ih =>
    intro l h
    simp only [Fr.evs] at h
    cases hx : f.ev x with
    | none => simp [hx] at h
    | some v =>
      cases hr : f.evs r with
      | none => simp [hx, hr] at h
      | some l' =>
        simp only [hx, hr, Option.some.injEq] at h
        rw [← h, List.map_cons, ha.eval hx, ih l' hr]

def TypeDesc.isOne : TypeDesc → Bool
  | .struct _ => false
  | .array _ _ => false
  | _ => true
def TypeDesc.isMany : TypeDesc → Bool
  | .struct _ => true
  | .array _ _ => true
  | _ => false
theorem One.of {t : TypeId} {desc : TypeDesc} (h : P.underlying t = some desc) (hd : TypeDesc.isOne desc = true) {z : Value} {b : Nat} [Inf P t z 1 b] : One P t :=
  ⟨fun w => by cases desc <;> first | (simp [isAgg, run_underlying h]; done) | (simp [TypeDesc.isOne, TypeDesc.isMany] at hd), fun w => run_sizeOf (P := P) (t := t) w⟩
theorem Many.of {t : TypeId} {desc : TypeDesc} (h : P.underlying t = some desc) (hd : TypeDesc.isMany desc = true) {z : Value} {n b : Nat} [Inf P t z n b] : Many P t n :=
  ⟨fun w => by cases desc <;> first | (simp [isAgg, run_underlying h]; done) | (simp [TypeDesc.isOne, TypeDesc.isMany] at hd), fun w => run_sizeOf (P := P) (t := t) w⟩

/-- What a call leads to. -/
def After (M : Option (Option Nat)) (P : Program) (ops : Array Oper) (Q : Post) (rest : List Oper) (f : Fr) (d : Nat) : Ending → World → Prop
  | .returned v, w => RW M P ops Q rest (f.put d v) w
  | .panicked chain, w => Q (.panic chain) f w
  | .outgrown, _ => False
def After0 (M : Option (Option Nat)) (P : Program) (ops : Array Oper) (Q : Post) (rest : List Oper) (f : Fr) : Ending → World → Prop
  | .returned _, w => RW M P ops Q rest f w
  | .panicked chain, w => Q (.panic chain) f w
  | .outgrown, _ => False

theorem RW.fn {k : FuncId} [he : Ent P k] {xs : List Operand} {l : List Value} {at' : Array TypeId} (hv : f.evs xs = some l) (hd : Nat.blt d f.n = true) (h : Calls P k l.toArray w (After M P ops Q rest f d)) :
    RW M P ops Q (op1 d (.call { callee := .value (.func k), args := xs.toArray, argTypes := at' }) ty pos af :: rest) f w := by
  refine RW.call (args := l.toArray) rfl hd (fun a ha => ?_) h fun e w' hR => by cases e <;> exact hR
  simp [execOp, resolve, Act.eval, Deferred.ofValue, invoke, he.out, ha.evs xs l hv]
theorem RW.fn0 {k : FuncId} [he : Ent P k] {xs : List Operand} {l : List Value} {at' : Array TypeId} (hv : f.evs xs = some l) (h : Calls P k l.toArray w (After0 M P ops Q rest f)) :
    RW M P ops Q (op0 (.call { callee := .value (.func k), args := xs.toArray, argTypes := at' }) ty pos af :: rest) f w := by
  refine RW.call (args := l.toArray) rfl rfl (fun a ha => ?_) h fun e w' hR => by cases e <;> exact hR
  simp [execOp, resolve, Act.eval, Deferred.ofValue, invoke, he.out, ha.evs xs l hv]

/-- The end of a body, by the results' form. -/
theorem FQ.none {fn : Func} {R : Ending → World → Prop} (hr : fn.results = #[]) (hd : f.ds = []) (h : R (.returned (.tuple #[])) w) : FQ P fn R .ret f w :=
  ⟨hd, _, fun a _ => results_none hr a.tmps P w, h⟩
theorem FQ.one {fn : Func} {R : Ending → World → Prop} {t : Nat} {v : Value} (hr : fn.results = #[.tmp t]) (hd : f.ds = []) (hv : look f.e t = some v) (h : R (.returned v) w) : FQ P fn R .ret f w :=
  ⟨hd, _, fun a ha => by rw [results_tmp hr, ha.slot t v hv], h⟩
theorem FQ.two {fn : Func} {R : Ending → World → Prop} {t u : Nat} {v v2 : Value} (hr : fn.results = #[.tmp t, .tmp u]) (hd : f.ds = []) (hv : look f.e t = some v) (hv2 : look f.e u = some v2) (h : R (.returned (.tuple #[v, v2])) w) : FQ P fn R .ret f w :=
  ⟨hd, _, fun a ha => by rw [results_tmp2 hr, ha.slot t v hv, ha.slot u v2 hv2], h⟩
theorem FQ.norm {fn : Func} {R : Ending → World → Prop} (h : FQ P fn R .ret f w) : FQ P fn R .normal f w := h
end
end Go.Proofs.YteihfeghbpklkaaDoor.H
