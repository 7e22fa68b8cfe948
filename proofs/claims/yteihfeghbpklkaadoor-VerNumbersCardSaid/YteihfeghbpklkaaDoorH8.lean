/-
  Rules: nil tests, structs built, closures made and called, deferred calls, panics, elements of several cells.
-/
import Derived.Test.YteihfeghbpklkaaDoorH7
import Derived.Recover
namespace Go.Proofs.YteihfeghbpklkaaDoor.H
open Go.RowKit

section
variable {M : Option (Option Nat)} {P : Program} {ops : Array Oper} {Q : Post} {rest : List Oper} {f : Fr} {w : World} {d : Nat} {ty : TypeId} {pos : String} {af : Array Edge}

theorem Sl.cells {sz : Nat} {v : Value} {n : Nat} {xs : List Value} (h : Sl w sz v n xs) : v.cells = #[v] := by
  obtain ⟨p, cap, rfl, _⟩ := h.shape; rfl
theorem Sl.one {sz : Nat} {v : Value} {n : Nat} {xs : List Value} (h : Sl w sz v n xs) : v.oneCell' = true := by
  obtain ⟨p, cap, rfl, _⟩ := h.shape; rfl
theorem Sl.shape' {sz : Nat} {v : Value} {n : Nat} {xs : List Value} (h : Sl w sz v n xs) : ∃ p cap, v = .slice p n cap := by
  obtain ⟨p, cap, hv, _⟩ := h.shape; exact ⟨p, cap, hv⟩

theorem und_pointee {t e : TypeId} [h : Und P t (.pointer e)] : P.underlying t = some (.pointer (P.pointee t)) := by
  have := h.out
  unfold Program.pointee
  rw [this]

/-- p == nil, p != nil -/
theorem Y.eqpn {t e yt : TypeId} [h : Und P t (.pointer e)] {x y : Operand} {p : Option Addr} (hx : f.ev x = some (.pointer p)) (hy : f.ev y = some (.pointer none)) : Yd P f (op1 d (.binOp .eql t x y yt) ty pos af) (.bool p.isNone) w :=
  Y.bin hx hy (by simp) (by simp) (run_eql_pointer_nil w t p und_pointee)
theorem Y.nepn {t e yt : TypeId} [h : Und P t (.pointer e)] {x y : Operand} {p : Option Addr} (hx : f.ev x = some (.pointer p)) (hy : f.ev y = some (.pointer none)) : Yd P f (op1 d (.binOp .neq t x y yt) ty pos af) (.bool (!p.isNone)) w :=
  Y.bin hx hy (by simp) (by simp) (run_neq_pointer_nil w t p und_pointee)
theorem Y.eqsn {t e yt : TypeId} [h : Und P t (.slice e)] {x y : Operand} {p : Option Addr} {n c : Nat} (hx : f.ev x = some (.slice p n c)) (hy : f.ev y = some (.slice none 0 0)) : Yd P f (op1 d (.binOp .eql t x y yt) ty pos af) (.bool p.isNone) w :=
  Y.bin hx hy (by simp) (by simp) (Lib.run_eql_slice_nil w t e p n c 0 0 h.out)

/-- A slice's length, whatever the slice. -/
theorem Y.lenx {t e : TypeId} [ht : Und P t (.slice e)] {x : Operand} {v : Value} {sz n : Nat} {xs : List Value} (hx : f.ev x = some v) (h : Sl w sz v n xs) : Yd P f (op1 d (.call { callee := .builtin .len, args := #[x], argTypes := #[t] }) ty pos af) (.int .i64 (n : Int)) w := by
  obtain ⟨p, cap, rfl⟩ := h.shape'
  exact Y.lenv hx

theorem RW.elemM {α : Type} [Inhabited α] {t e t2 ty2 : TypeId} {pos2 : String} {af2 : Array Edge} {d1 : Nat} {z : Value} {b : Nat} [ht : Und P t (.slice e)] [Inf P e z 1 b] [One P t2] {x y : Operand} {k : IntKind} {v : Value} {i : Int} {n : Nat} {l : List α} {enc : α → Value} (hx : f.ev x = some v) (hy : f.ev y = some (.int k i)) (hd : Nat.blt d f.n = true) (hd1 : Nat.blt d1 f.n = true)
    (hs : Sl w 1 v n (l.map enc)) (h0 : 0 ≤ i) (h1 : i < l.length)
    (kk : RW M P ops Q rest ((f.put d (.pointer (some (Value.spot v (i.toNat * 1))))).put d1 (enc (l.getD i.toNat default))) w) : RW M P ops Q (op1 d (.indexAddr t x y) ty pos af :: op1 d1 (.load t2 (.tmp d)) ty2 pos2 af2 :: rest) f w := by
  have hn : n = l.length := by have := hs.1; simpa using this.symm
  have hlt : i.toNat < l.length := by omega
  refine RW.elem hx hy hd hd1 hs h0 (by omega) ?_ kk
  simp [hlt]

/-- The same, the reading under a guard that holds. -/
theorem RW.elemOn {t e t2 ty2 : TypeId} {pos2 : String} {af2 : Array Edge} {d1 j s : Nat} {c : Bool} {z : Value} {b : Nat} [ht : Und P t (.slice e)] [Inf P e z 1 b] [One P t2] {x y : Operand} {k : IntKind} {v u : Value} {i : Int} {n : Nat} {xs : List Value} (hx : f.ev x = some v) (hy : f.ev y = some (.int k i)) (hd : Nat.blt d f.n = true) (hd1 : Nat.blt d1 f.n = true)
    (hs : Sl w 1 v n xs) (h0 : 0 ≤ i) (h1 : i < n) (hu : xs[i.toNat]? = some u) (hj : (ops[j]?).bind (·.dst) = some s) (hn : Nat.blt s f.n = true) (hv : look (f.put d (.pointer (some (Value.spot v (i.toNat * 1))))).e s = some (.bool c))
    (kk : RW M P ops Q rest ((f.put d (.pointer (some (Value.spot v (i.toNat * 1))))).put d1 u) w) : RW M P ops Q (op1 d (.indexAddr t x y) ty pos af :: { dst := some d1, op := .load t2 (.tmp d), type := ty2, pos := pos2, after := af2, guard := some (j, c) } :: rest) f w := by
  refine RW.y (Y.idx hx hy hs h0 h1) hd (RW.on hj hn hv (RW.y (Y.load1 (a := Value.spot v (i.toNat * 1)) ?_ (by rw [Nat.mul_one]; exact hs.cell hu)) hd1 kk))
  simp [Fr.ev, Fr.put, look]
theorem RW.elemBOn {t e t2 ty2 : TypeId} {pos2 : String} {af2 : Array Edge} {d1 j s : Nat} {c : Bool} {z : Value} {b : Nat} [ht : Und P t (.slice e)] [Inf P e z 1 b] [One P t2] {x y : Operand} {k : IntKind} {v : Value} {i : Int} {n : Nat} {l : List UInt8} (hx : f.ev x = some v) (hy : f.ev y = some (.int k i)) (hd : Nat.blt d f.n = true) (hd1 : Nat.blt d1 f.n = true)
    (hs : Sl w 1 v n (bv l)) (h0 : 0 ≤ i) (h1 : i < l.length) (hj : (ops[j]?).bind (·.dst) = some s) (hn : Nat.blt s f.n = true) (hv : look (f.put d (.pointer (some (Value.spot v (i.toNat * 1))))).e s = some (.bool c))
    (kk : RW M P ops Q rest ((f.put d (.pointer (some (Value.spot v (i.toNat * 1))))).put d1 (vb (l.getD i.toNat 0))) w) : RW M P ops Q (op1 d (.indexAddr t x y) ty pos af :: { dst := some d1, op := .load t2 (.tmp d), type := ty2, pos := pos2, after := af2, guard := some (j, c) } :: rest) f w := by
  have hn' : n = l.length := by have := hs.1; simpa using this.symm
  have hlt : i.toNat < l.length := by omega
  refine RW.elemOn hx hy hd hd1 hs h0 (by omega) ?_ hj hn hv kk
  simp [hlt]

/-- A struct built. -/
class StructT (P : Program) (t : TypeId) (pl : outParam (Array (Nat × Nat))) (z : outParam (Array Value)) : Prop where
  out : ∀ w parts, (Instr.build t parts).run P w = match Instr.fill (pl[·]?) z parts.toList with
    | some c => .ok (.agg c) w
    | none => .halt (.stuck "build: no such field, or a part of the wrong size") w
theorem StructT.of {t : TypeId} {fs : Array Field} (h : P.underlying t = some (.struct fs)) {zv : Value} {sz b : Nat} [Inf P t zv sz b] {pl : Array (Nat × Nat)} {z : Array Value} (hz : zv.cells = z)
    (hm : ∀ w, (fs.mapM (fun (x : Field) => (do pure (x.offset, ← sizeOf x.type) : Sem (Nat × Nat)))).run P w = .ok pl w) : StructT P t pl z :=
  ⟨fun w parts => by
    have h2 := run_zeroValue (P := P) (t := t) w
    simp only [Instr.build, Sem.run_bind, h2, Result.andThen_ok, hz, run_underlying h, hm]
    cases Instr.fill (pl[·]?) z parts.toList <;> rfl⟩
theorem Y.build {t : TypeId} {pl : Array (Nat × Nat)} {z : Array Value} [h : StructT P t pl z] {ps : List (Nat × Operand)} {l : List Value} {c : Array Value} (hx : f.evs (ps.map (·.2)) = some l) (hc : Instr.fill (pl[·]?) z ((ps.map (·.1)).zip l) = some c) :
    Yd P f (op1 d (.build t ps.toArray) ty pos af) (.agg c) w := by
  intro a ha
  have he := ha.evs _ _ hx
  have hp : (ps.toArray.map fun (i, x) => (i, a.eval x)).toList = (ps.map (·.1)).zip l := by
    rw [← he]
    simp only [List.map_toArray, List.map_map, List.zip_map', Function.comp_def]
  simp only [execOp, Sem.run_bind, h.out, hp, hc]
  rfl

theorem fill_nil (pl : Nat → Option (Nat × Nat)) (c : Array Value) : Instr.fill pl c [] = some c := rfl

/-- A closure made, a call of a closure. -/
theorem Y.makeFunc {fn : Fn} {xs ys : List Operand} {l l' : List Value} (hx : f.evs xs = some l) (hy : f.evs ys = some l') : Yd P f (op1 d (.makeFunc fn xs.toArray ys.toArray) ty pos af) (.func fn l.toArray l'.toArray) w := by
  intro a ha
  simp [execOp, Instr.makeFunc, ha.evs xs l hx, ha.evs ys l' hy]
theorem RW.fnv0 {k : FuncId} [he : Ent P k] {x : Operand} {xs : List Operand} {l cap : List Value} {at' : Array TypeId} (hf : f.ev x = some (.func (.func k) #[] cap.toArray)) (hv : f.evs xs = some l) (h : Calls P k (l ++ cap).toArray w (After0 M P ops Q rest f)) :
    RW M P ops Q (op0 (.call { callee := .value x, args := xs.toArray, argTypes := at' }) ty pos af :: rest) f w := by
  refine RW.call (args := (l ++ cap).toArray) rfl rfl (fun a ha => ?_) h fun e w' hR => by cases e <;> exact hR
  simp [execOp, resolve, ha.eval hf, Deferred.ofValue, invoke, he.out, ha.evs xs l hv]
theorem RW.fnv {k : FuncId} [he : Ent P k] {x : Operand} {xs : List Operand} {l cap : List Value} {at' : Array TypeId} (hf : f.ev x = some (.func (.func k) #[] cap.toArray)) (hv : f.evs xs = some l) (hd : Nat.blt d f.n = true) (h : Calls P k (l ++ cap).toArray w (After M P ops Q rest f d)) :
    RW M P ops Q (op1 d (.call { callee := .value x, args := xs.toArray, argTypes := at' }) ty pos af :: rest) f w := by
  refine RW.call (args := (l ++ cap).toArray) rfl hd (fun a ha => ?_) h fun e w' hR => by cases e <;> exact hR
  simp [execOp, resolve, ha.eval hf, Deferred.ofValue, invoke, he.out, ha.evs xs l hv]

/-- A value put into an interface. -/
class Conc (P : Program) (t : TypeId) : Prop where out : P.concrete t = true
theorem Y.iface {t : TypeId} [h : Conc P t] {x : Operand} {v : Value} (hx : f.ev x = some v) : Yd P f (op1 d (.makeInterface t x) ty pos af) (.iface t v) w := by
  intro a ha
  have := run_makeInterface (P := P) w t v h.out
  simp [execOp, ha.eval hx, this]
/-- panic(x) -/
theorem RW.panic {x : Operand} {t : TypeId} {v : Value} (hx : f.ev x = some (.iface t v)) (k : Q (.panic [{ v := .iface t v, recovered := false }]) f w) : RW M P ops Q (op0 (.panic x) ty pos af :: rest) f w :=
  RW.panics rfl (fun _ c => by cases c) (fun a ha => by simp [execOp, ha.eval hx, Instr.panic, goPanic, Sem.run]) k

/-- defer -/
theorem RW.defer {x : Operand} {xs : List Operand} {l : List Value} {at' : Array TypeId} {fn : Fn} {fst cap : Array Value} (hf : f.ev x = some (.func fn fst cap)) (hv : f.evs xs = some l)
    (k : RW none P ops Q rest ⟨f.n, { target := .fn fn cap, args := fst ++ l.toArray } :: f.ds, f.e⟩ w) : RW none P ops Q (op0 (.defer { callee := .value x, args := xs.toArray, argTypes := at' }) ty pos af :: rest) f w := by
  intro a ha
  refine wpList_plain rfl fun K hK => ?_
  unfold Oper.wp
  have : (execOp a.eval (op0 (.defer { callee := .value x, args := xs.toArray, argTypes := at' }) ty pos af)).run P w = .ok (.defer { target := .fn fn cap, args := fst ++ l.toArray }) w := by
    simp [execOp, resolve, ha.eval hf, Deferred.ofValue, ha.evs xs l hv]
  rw [this]
  exact hK _ _ (k _ ⟨ha.size, by simp [Act.put, ha.defers], ha.slot⟩)

/-- The end of a body that defers. -/
def DQ (P : Program) (fn : Func) (R : Ending → World → Prop) : Post
  | .normal, f, w | .ret, f, w => ∀ a, Ag f a → Leaves P fn a.tmps R f.ds .returning w
  | .panic chain, f, w => ∀ a, Ag f a → Leaves P fn a.tmps R f.ds (.panicking chain) w
  | _, _, _ => False
theorem enterD {k n : Nat} {fn : Func} {c : Code} {l : List Value} {R : Ending → World → Prop} (hf : P.funcs[k]? = some fn) (hn : fn.ntmps = n) (hb : fn.body = some c)
    (hl : Nat.ble l.length n = true) (h : CL none P (DQ P fn R) [c] ⟨n, [], args 0 l⟩ w) : Calls P k l.toArray w R := by
  refine calls_of_wp_defers hf hb (wp_mono (CL.one h _ ⟨?_, rfl, ?_⟩) fun e a w q => ?_)
  · have := ble_le hl
    simp [hn]; omega
  · intro t v hv
    obtain ⟨_, h2⟩ := look_args l 0 t v hv
    rw [Nat.sub_zero] at h2
    have hlt : t < l.length := (List.getElem?_eq_some_iff.1 h2).1
    simp only [Array.getD_eq_getD_getElem?]
    rw [Array.getElem?_append_left (by simpa using hlt)]
    simp [h2]
  · obtain ⟨f, hf', q⟩ := q
    cases e with
    | normal => show Leaves _ _ _ _ _ _ _; rw [hf'.defers]; exact q a hf'
    | ret => show Leaves _ _ _ _ _ _ _; rw [hf'.defers]; exact q a hf'
    | panic ch => show Leaves _ _ _ _ _ _ _; rw [hf'.defers]; exact q a hf'
    | exit k => exact q.elim
    | goto l => exact q.elim
    | outgrown => exact q.elim

/-- The address of an element of several cells. -/
theorem RW.idxA {t e : TypeId} {z : Value} {sz b : Nat} [ht : Und P t (.slice e)] [Inf P e z sz b] {x y : Operand} {k : IntKind} {v : Value} {i : Int} {n : Nat} {xs : List Value} (hx : f.ev x = some v) (hy : f.ev y = some (.int k i)) (hd : Nat.blt d f.n = true) (hs : Sl w sz v n xs) (h0 : 0 ≤ i) (h1 : i < n)
    (kk : ∀ g o, v.ownBlock = some g → (∀ j u, j < sz → xs[i.toNat * sz + j]? = some u → w.cell? ⟨g, o + j, none⟩ = some u) → RW M P ops Q rest (f.put d (.pointer (some ⟨g, o, none⟩))) w) : RW M P ops Q (op1 d (.indexAddr t x y) ty pos af :: rest) f w := by
  rcases hs.2.2 with ⟨_, rfl, h⟩ | ⟨g, off, cap, cur, e', fz, rfl, hg, hn, hm, ho, ht'⟩
  · omega
  · have hsp : Value.spot (.slice (some ⟨g, off, none⟩) n cap) (i.toNat * sz) = ⟨g, off + i.toNat * sz, none⟩ := by simp only [Value.spot, addr_add]
    refine RW.y (Y.idx hx hy hs h0 h1) hd ?_
    rw [hsp]
    refine kk g (off + i.toNat * sz) rfl fun j u _ hu => ?_
    have := hs.cell hu
    simp only [Value.spot, addr_add] at this
    rw [Nat.add_assoc]; exact this
theorem Y.load1A {t : TypeId} [h : One P t] {x : Operand} {g o : Nat} {v : Value} (hx : f.ev x = some (.pointer (some ⟨g, o, none⟩))) (hc : w.cell? ⟨g, o, none⟩ = some v) : Yd P f (op1 d (.load t x) ty pos af) v w := Y.load1 hx hc

/-- A test whose outcome is known. -/
theorem RW.known {l : List Oper} {t : Nat} {p : Prop} {_ : Decidable p} (hv : look f.e t = some (.bool (decide p))) (hp : p) (h1 : RW M P ops Q l (f.put t (.bool true)) w) : RW M P ops Q l f w :=
  RW.splitP hv (fun _ => h1) (fun h => absurd hp h)
theorem AW.split {S : World → Prop} {n : Nat} {l : Array Bool} {t : Nat} {a : Bool} (hv : look f.e t = some (.bool a)) (h1 : a = true → AW P ops Q S n l (f.put t (.bool true)) w) (h2 : a = false → AW P ops Q S n l (f.put t (.bool false)) w) : AW P ops Q S n l f w := by
  have key : ∀ c, a = c → ∀ x, Ag f x → Ag (f.put t (.bool c)) x := by
    intro c hc x hx
    refine ⟨hx.size, hx.defers, fun s v hs => ?_⟩
    simp only [Fr.put, look] at hs
    by_cases hk : t = s
    · subst hk; rw [beq_self] at hs; simp only [Option.some.injEq] at hs; rw [← hs, ← hc]; exact hx.slot t _ hv
    · rw [beq_ne hk] at hs; exact hx.slot s v hs
  intro x hx
  cases a with
  | true => exact h1 rfl x (key _ rfl x hx)
  | false => exact h2 rfl x (key _ rfl x hx)
theorem AW.known {S : World → Prop} {n : Nat} {l : Array Bool} {t : Nat} {p : Prop} {_ : Decidable p} (hv : look f.e t = some (.bool (decide p))) (hp : p) (h1 : AW P ops Q S n l (f.put t (.bool true)) w) : AW P ops Q S n l f w :=
  AW.split hv (fun _ => h1) (fun h => absurd hp (of_decide_eq_false h))
end
end Go.Proofs.YteihfeghbpklkaaDoor.H
