/-
  The rules of operations that touch no memory: moves, numbers, truths, texts, parts of structs.
-/
import Derived.Test.YteihfeghbpklkaaDoorH1
import Derived.WalkLawsBesides
namespace Go.Proofs.YteihfeghbpklkaaDoor.H
open Go.RowKit

abbrev B (l : List UInt8) : ByteArray := ⟨l.toArray⟩
theorem B_of (s : ByteArray) : s = B s.data.toList := by cases s; rfl
theorem B_toList (l : List UInt8) : (B l).toList = l := by rw [ByteArray.toList_eq]
theorem B_size (l : List UInt8) : (B l).size = l.length := by simp [ByteArray.size]

/-- What is known of a type. -/
class Und (P : Program) (t : TypeId) (d : outParam TypeDesc) : Prop where out : P.underlying t = some d
class Inf (P : Program) (t : TypeId) (z : outParam Value) (size bytes : outParam Nat) : Prop where out : (P.info? t).map (fun i => (i.zero, i.size, i.bytes)) = some (some z, size, bytes)
class Fld (P : Program) (s : TypeId) (i : Nat) (off ft : outParam Nat) : Prop where out : ∃ fs fd, P.underlying s = some (.struct fs) ∧ fs[i]? = some fd ∧ fd.offset = off ∧ fd.type = ft

section
variable {M : Option (Option Nat)} {P : Program} {ops : Array Oper} {Q : Post} {rest : List Oper} {f : Fr} {w : World} {d : Nat} {ty : TypeId} {pos : String} {af : Array Edge}

abbrev op1 (d : Nat) (op : Op) (ty : TypeId) (pos : String) (af : Array Edge) : Oper := { dst := some d, op := op, type := ty, pos := pos, after := af, guard := none }
abbrev op0 (op : Op) (ty : TypeId) (pos : String) (af : Array Edge) : Oper := { dst := none, op := op, type := ty, pos := pos, after := af, guard := none }

theorem run_sizeOf {t : TypeId} {z : Value} {s b : Nat} [h : Inf P t z s b] (w : World) : (sizeOf t).run P w = .ok s w := by
  have h := h.out
  cases hi : P.info? t with
  | none => simp [hi] at h
  | some i =>
    simp only [hi, Option.map_some, Option.some.injEq, Prod.mk.injEq] at h
    simp [sizeOf, typeInfo, hi, h.2.1]
theorem run_zeroValue {t : TypeId} {z : Value} {s b : Nat} [h : Inf P t z s b] (w : World) : (zeroValue t).run P w = .ok z w := by
  have h := h.out
  cases hi : P.info? t with
  | none => simp [hi] at h
  | some i =>
    simp only [hi, Option.map_some, Option.some.injEq, Prod.mk.injEq] at h
    simp [zeroValue, typeInfo, hi, h.1]

theorem Y.move {x : Operand} {v : Value} (hx : f.ev x = some v) : Yd P f (op1 d (.move x) ty pos af) v w := fun a ha => by simp [execOp, ha.eval hx]

theorem Y.assign {x : Operand} {v : Value} (hx : f.ev x = some v) : Yd P f (op1 d (.assign x) ty pos af) v w := fun a ha => by simp [execOp, ha.eval hx]

theorem Y.pickT {c x y : Operand} {v : Value} (hc : f.ev c = some (.bool true)) (hx : f.ev x = some v) : Yd P f (op1 d (.pick c x y) ty pos af) v w := fun a ha => by simp [execOp, ha.eval hx, ha.eval hc, asBool]

theorem Y.pickF {c x y : Operand} {v : Value} (hc : f.ev c = some (.bool false)) (hy : f.ev y = some v) : Yd P f (op1 d (.pick c x y) ty pos af) v w := fun a ha => by simp [execOp, ha.eval hy, ha.eval hc, asBool]

theorem noGuard (op : BinOp) (t : TypeId) (x y : Operand) (a b : Value) (h : ∀ z, a ≠ .agg z) (h2 : a ≠ .nilIface) : (eqGuard op t x y a b).run P w = .ok () w := by
  unfold eqGuard
  cases a <;> cases b <;> first | exact absurd rfl (h _) | exact absurd rfl h2 | (cases op <;> rfl)

theorem run_bin {op : BinOp} {t yt : TypeId} {x y : Operand} {u v r : Value} {ρ : Operand → Value} (hx : ρ x = u) (hy : ρ y = v) (h : ∀ z, u ≠ .agg z) (h2 : u ≠ .nilIface) (hr : (binOp op t u v).run P w = .ok r w) :
    (execOp ρ (op1 d (.binOp op t x y yt) ty pos af)).run P w = .ok (.value r) w := by
  simp [execOp, hx, hy, noGuard op t x y u v h h2, hr]

theorem Y.bin {op : BinOp} {t yt : TypeId} {x y : Operand} {u v r : Value} (hx : f.ev x = some u) (hy : f.ev y = some v) (h : ∀ z, u ≠ .agg z) (h2 : u ≠ .nilIface) (hr : (binOp op t u v).run P w = .ok r w) : Yd P f (op1 d (.binOp op t x y yt) ty pos af) r w := fun a ha => run_bin (ha.eval hx) (ha.eval hy) h h2 hr

theorem wrap64_id {z : Int} (h1 : -9223372036854775808 ≤ z) (h2 : z ≤ 9223372036854775807) : IntKind.i64.wrap z = z := by
  simp only [IntKind.wrap, IntKind.bits, IntKind.signed]; simp; omega
theorem wrapu64_id {z : Int} (h1 : 0 ≤ z) (h2 : z < 18446744073709551616) : IntKind.u64.wrap z = z := by
  simp only [IntKind.wrap, IntKind.bits, IntKind.signed]; simp; omega
theorem wrapu8 {z : Int} : IntKind.u8.wrap z = z % 256 := by
  simp only [IntKind.wrap, IntKind.bits, IntKind.signed]; simp
theorem wrapu64 {z : Int} : IntKind.u64.wrap z = z % 18446744073709551616 := by
  simp only [IntKind.wrap, IntKind.bits, IntKind.signed]; simp
theorem wrapu32 {z : Int} : IntKind.u32.wrap z = z % 4294967296 := by
  simp only [IntKind.wrap, IntKind.bits, IntKind.signed]; simp

section arith
variable {t yt : TypeId} {x y : Operand} {a b : Int} {k : IntKind}

theorem Y.add (hx : f.ev x = some (.int k a)) (hy : f.ev y = some (.int k b)) : Yd P f (op1 d (.binOp .add t x y yt) ty pos af) (.int k (k.wrap (a + b))) w :=
  Y.bin hx hy (by simp) (by simp) (by simp [binOp, Op.intArith])

theorem Y.sub (hx : f.ev x = some (.int k a)) (hy : f.ev y = some (.int k b)) : Yd P f (op1 d (.binOp .sub t x y yt) ty pos af) (.int k (k.wrap (a - b))) w :=
  Y.bin hx hy (by simp) (by simp) (by simp [binOp, Op.intArith])

theorem Y.mul (hx : f.ev x = some (.int k a)) (hy : f.ev y = some (.int k b)) : Yd P f (op1 d (.binOp .mul t x y yt) ty pos af) (.int k (k.wrap (a * b))) w :=
  Y.bin hx hy (by simp) (by simp) (by simp [binOp, Op.intArith])

theorem Y.add64 (hx : f.ev x = some (.int .i64 a)) (hy : f.ev y = some (.int .i64 b)) (h1 : -9223372036854775808 ≤ a + b) (h2 : a + b ≤ 9223372036854775807) : Yd P f (op1 d (.binOp .add t x y yt) ty pos af) (.int .i64 (a + b)) w := by
  have h := Y.add (P := P) (w := w) (d := d) (ty := ty) (pos := pos) (af := af) (t := t) (yt := yt) hx hy
  rw [wrap64_id h1 h2] at h
  exact h

theorem Y.sub64 (hx : f.ev x = some (.int .i64 a)) (hy : f.ev y = some (.int .i64 b)) (h1 : -9223372036854775808 ≤ a - b) (h2 : a - b ≤ 9223372036854775807) : Yd P f (op1 d (.binOp .sub t x y yt) ty pos af) (.int .i64 (a - b)) w := by
  have h := Y.sub (P := P) (w := w) (d := d) (ty := ty) (pos := pos) (af := af) (t := t) (yt := yt) hx hy
  rw [wrap64_id h1 h2] at h
  exact h

theorem Y.mul64 (hx : f.ev x = some (.int .i64 a)) (hy : f.ev y = some (.int .i64 b)) (h1 : -9223372036854775808 ≤ a * b) (h2 : a * b ≤ 9223372036854775807) : Yd P f (op1 d (.binOp .mul t x y yt) ty pos af) (.int .i64 (a * b)) w := by
  have h := Y.mul (P := P) (w := w) (d := d) (ty := ty) (pos := pos) (af := af) (t := t) (yt := yt) hx hy
  rw [wrap64_id h1 h2] at h
  exact h

theorem Y.quo (hx : f.ev x = some (.int k a)) (hy : f.ev y = some (.int k b)) (h0 : b ≠ 0) : Yd P f (op1 d (.binOp .quo t x y yt) ty pos af) (.int k (k.wrap (a.tdiv b))) w :=
  Y.bin hx hy (by simp) (by simp) (by simp [binOp, Op.intDiv, h0])

theorem Y.rem (hx : f.ev x = some (.int k a)) (hy : f.ev y = some (.int k b)) (h0 : b ≠ 0) : Yd P f (op1 d (.binOp .rem t x y yt) ty pos af) (.int k (a.tmod b)) w :=
  Y.bin hx hy (by simp) (by simp) (by simp [binOp, Op.intDiv, h0])

theorem Y.lss (hx : f.ev x = some (.int k a)) (hy : f.ev y = some (.int k b)) : Yd P f (op1 d (.binOp .lss t x y yt) ty pos af) (.bool (decide (a < b))) w :=
  Y.bin hx hy (by simp) (by simp) (by simp [binOp, Op.intCmp])

theorem Y.leq (hx : f.ev x = some (.int k a)) (hy : f.ev y = some (.int k b)) : Yd P f (op1 d (.binOp .leq t x y yt) ty pos af) (.bool (decide (a ≤ b))) w :=
  Y.bin hx hy (by simp) (by simp) (by simp [binOp, Op.intCmp])

theorem Y.gtr (hx : f.ev x = some (.int k a)) (hy : f.ev y = some (.int k b)) : Yd P f (op1 d (.binOp .gtr t x y yt) ty pos af) (.bool (decide (b < a))) w :=
  Y.bin hx hy (by simp) (by simp) (by simp [binOp, Op.intCmp])

theorem Y.geq (hx : f.ev x = some (.int k a)) (hy : f.ev y = some (.int k b)) : Yd P f (op1 d (.binOp .geq t x y yt) ty pos af) (.bool (decide (b ≤ a))) w :=
  Y.bin hx hy (by simp) (by simp) (by simp [binOp, Op.intCmp])

theorem Y.eqi (hx : f.ev x = some (.int k a)) (hy : f.ev y = some (.int k b)) : Yd P f (op1 d (.binOp .eql t x y yt) ty pos af) (.bool (decide (a = b))) w :=
  Y.bin hx hy (by simp) (by simp) (by simp [binOp, Op.intCmp, BEq.beq])

theorem Y.nei (hx : f.ev x = some (.int k a)) (hy : f.ev y = some (.int k b)) : Yd P f (op1 d (.binOp .neq t x y yt) ty pos af) (.bool (decide (a ≠ b))) w :=
  Y.bin hx hy (by simp) (by simp) (by simp [binOp, Op.intCmp, bne, BEq.beq])

theorem Y.bits {op : BinOp} (hop : op = .and ∨ op = .or ∨ op = .xor ∨ op = .andNot) (hx : f.ev x = some (.int k a)) (hy : f.ev y = some (.int k b)) : Yd P f (op1 d (.binOp op t x y yt) ty pos af) (.int k (bits op k a b)) w := by
  refine Y.bin hx hy (by simp) (by simp) ?_
  rcases hop with h | h | h | h <;> subst h <;> simp [binOp, Op.intBits, Go.bits]

theorem Y.shl {yk : IntKind} (hx : f.ev x = some (.int k a)) (hy : f.ev y = some (.int yk b)) (h0 : 0 ≤ b) : Yd P f (op1 d (.binOp .shl t x y yt) ty pos af) (.int k (k.wrap (a * 2 ^ (min b.toNat k.bits)))) w :=
  Y.bin hx hy (by simp) (by simp) (by simp only [binOp, Op.shift]; rw [if_neg (by omega)]; rfl)

theorem Y.shr {yk : IntKind} (hx : f.ev x = some (.int k a)) (hy : f.ev y = some (.int yk b)) (h0 : 0 ≤ b) : Yd P f (op1 d (.binOp .shr t x y yt) ty pos af) (.int k (a.fdiv (2 ^ (min b.toNat k.bits)))) w :=
  Y.bin hx hy (by simp) (by simp) (by simp only [binOp, Op.shift]; rw [if_neg (by omega)]; rfl)

theorem Y.conv {s t : TypeId} {k1 : IntKind} [h1 : Und P t (.int k)] (hx : f.ev x = some (.int k1 a)) (hs : (P.underlying s).isSome = true) : Yd P f (op1 d (.convert s t x) ty pos af) (.int k (k.wrap a)) w := by
  intro a' ha
  obtain ⟨u, hu⟩ := Option.isSome_iff_exists.1 hs
  simp [execOp, ha.eval hx, convert, run_underlying h1.out, run_underlying hu, Conv.intToInt]

theorem Y.neg {t : TypeId} (hx : f.ev x = some (.int k a)) : Yd P f (op1 d (.unOp .neg t x) ty pos af) (.int k (k.wrap (0 - a))) w := fun a' ha => by simp [execOp, ha.eval hx, Op.unary, Op.intArith]

end arith

section bools
variable {t yt : TypeId} {x y : Operand} {a b : Bool}
theorem Y.not {p : Prop} {_ : Decidable p} (hx : f.ev x = some (.bool (decide p))) : Yd P f (op1 d (.unOp .not t x) ty pos af) (.bool (decide (¬ p))) w := fun a' ha => by simp [execOp, ha.eval hx, Op.unary]

theorem Y.notb (hx : f.ev x = some (.bool a)) : Yd P f (op1 d (.unOp .not t x) ty pos af) (.bool (!a)) w := fun a' ha => by simp [execOp, ha.eval hx, Op.unary]

theorem Y.eqb [ht : Und P t .bool] (hx : f.ev x = some (.bool a)) (hy : f.ev y = some (.bool b)) : Yd P f (op1 d (.binOp .eql t x y yt) ty pos af) (.bool (decide (a = b))) w :=
  Y.bin hx hy (by simp) (by simp) (by rw [run_eql_bool w t a b ht.out]; cases a <;> cases b <;> rfl)

/-- A truth in a slot is parted. -/
theorem RW.split {l : List Oper} {t : Nat} (hv : look f.e t = some (.bool a)) (h1 : a = true → RW M P ops Q l (f.put t (.bool true)) w) (h2 : a = false → RW M P ops Q l (f.put t (.bool false)) w) : RW M P ops Q l f w := by
  have key : ∀ c, a = c → ∀ x, Ag f x → Ag (f.put t (.bool c)) x := by
    intro c hc x hx
    refine ⟨hx.size, hx.defers, fun s v hs => ?_⟩
    simp only [Fr.put, look] at hs
    by_cases hk : t = s
    · subst hk; rw [beq_self] at hs; simp only [Option.some.injEq] at hs; rw [← hs, ← hc]; exact hx.slot t _ hv
    · rw [beq_ne hk] at hs; exact hx.slot s v hs
  intro x hx
  cases a with
  | true => exact h1 rfl x (key _ rfl x hx)
  | false => exact h2 rfl x (key _ rfl x hx)
theorem RW.splitP {l : List Oper} {t : Nat} {p : Prop} {_ : Decidable p} (hv : look f.e t = some (.bool (decide p))) (h1 : p → RW M P ops Q l (f.put t (.bool true)) w) (h2 : ¬ p → RW M P ops Q l (f.put t (.bool false)) w) : RW M P ops Q l f w :=
  RW.split hv (fun h => h1 (of_decide_eq_true h)) (fun h => h2 (of_decide_eq_false h))
end bools

section texts
variable {t yt : TypeId} {x y z : Operand} {a b : List UInt8}
theorem Y.cat (hx : f.ev x = some (.string (B a))) (hy : f.ev y = some (.string (B b))) (hl : a.length + b.length ≤ 9223372036854775807) : Yd P f (op1 d (.binOp .add t x y yt) ty pos af) (.string (B (a ++ b))) w := by
  refine Y.bin hx hy (by simp) (by simp) ?_
  simp only [binOp, Op.stringOp]
  rw [if_neg (by simp only [B_size, IntKind.max, IntKind.signed, IntKind.bits]; simp; omega)]
  have : B a ++ B b = B (a ++ b) := by
    apply ByteArray.ext
    simp [ByteArray.data_append]
  rw [this]
  rfl

theorem Y.eqs (hx : f.ev x = some (.string (B a))) (hy : f.ev y = some (.string (B b))) : Yd P f (op1 d (.binOp .eql t x y yt) ty pos af) (.bool (decide (a = b))) w :=
  Y.bin hx hy (by simp) (by simp) (by simp only [binOp, Op.stringOp, B_toList]; by_cases h : a = b <;> simp [h])

theorem Y.nes (hx : f.ev x = some (.string (B a))) (hy : f.ev y = some (.string (B b))) : Yd P f (op1 d (.binOp .neq t x y yt) ty pos af) (.bool (decide (a ≠ b))) w :=
  Y.bin hx hy (by simp) (by simp) (by simp only [binOp, Op.stringOp, B_toList]; by_cases h : a = b <;> simp [h])

theorem Y.lts (hx : f.ev x = some (.string (B a))) (hy : f.ev y = some (.string (B b))) : Yd P f (op1 d (.binOp .lss t x y yt) ty pos af) (.bool (Op.bytesLess a b)) w :=
  Y.bin hx hy (by simp) (by simp) (by simp only [binOp, Op.stringOp, B_toList]; rfl)

theorem Y.gts (hx : f.ev x = some (.string (B a))) (hy : f.ev y = some (.string (B b))) : Yd P f (op1 d (.binOp .gtr t x y yt) ty pos af) (.bool (!(Op.bytesLess a b || a == b))) w :=
  Y.bin hx hy (by simp) (by simp) (by simp only [binOp, Op.stringOp, B_toList]; rfl)

theorem Y.ges (hx : f.ev x = some (.string (B a))) (hy : f.ev y = some (.string (B b))) : Yd P f (op1 d (.binOp .geq t x y yt) ty pos af) (.bool (!(Op.bytesLess a b))) w :=
  Y.bin hx hy (by simp) (by simp) (by simp only [binOp, Op.stringOp, B_toList]; rfl)

theorem Y.lens [ht : Und P t .string] (hx : f.ev x = some (.string (B a))) : Yd P f (op1 d (.call { callee := .builtin .len, args := #[x], argTypes := #[t] }) ty pos af) (.int .i64 (a.length : Int)) w := fun a' ha => by simp [execOp, resolve, invoke, builtin, Builtin.len_, ha.eval hx, run_underlying ht.out, goInt, B_size]

theorem Y.lenv {et : TypeId} [ht : Und P t (.slice et)] {p : Option Addr} {n c : Nat} (hx : f.ev x = some (.slice p n c)) : Yd P f (op1 d (.call { callee := .builtin .len, args := #[x], argTypes := #[t] }) ty pos af) (.int .i64 (n : Int)) w := fun a' ha => by simp [execOp, resolve, invoke, builtin, Builtin.len_, ha.eval hx, run_underlying ht.out, goInt]

theorem Y.idxs [ht : Und P t .string] {k : IntKind} {i : Int} (hx : f.ev x = some (.string (B a))) (hy : f.ev y = some (.int k i)) (h0 : 0 ≤ i) (h1 : i < a.length) : Yd P f (op1 d (.index t x y) ty pos af) (.int .u8 ((a.getD i.toNat 0).toNat : Int)) w := by
  intro a' ha
  have hlt : i.toNat < a.length := by omega
  have hs : (B a)[i.toNat]? = some (a.getD i.toNat 0) := by
    have h2 : i.toNat < (B a).size := by rw [B_size]; exact hlt
    rw [getElem?_pos (B a) i.toNat h2]
    simp only [List.getD_eq_getElem?_getD, List.getElem?_eq_getElem hlt, Option.getD_some]
    rfl
  simp [execOp, ha.eval hx, ha.eval hy, Instr.index, asIntOf, run_underlying ht.out, h0, hs]

end texts

section parts
variable {t : TypeId} {x y : Operand}
theorem Y.nilck {p : Addr} (hx : f.ev x = some (.pointer (some p))) : Yd P f (op1 d (.nilCheck x) ty pos af) (.pointer (some p)) w := fun a ha => by simp [execOp, ha.eval hx]

theorem Y.extract {i : Nat} {vs : Array Value} {v : Value} (hx : f.ev x = some (.tuple vs)) (hv : vs[i]? = some v) : Yd P f (op1 d (.extract x i) ty pos af) v w := fun a ha => by simp [execOp, ha.eval hx, Instr.extract, hv]

end parts
end

/-! What operation stands next: each law is the identity; it fits where that operation is next. -/
section
variable {M : Option (Option Nat)} {P : Program} {ops : Array Oper} {Q : Post} {rest : List Oper} {f : Fr} {w : World} {d : Nat} {ty : TypeId} {pos : String} {af : Array Edge}
theorem Gt.move {x : Operand} (h : RW M P ops Q ({ dst := some d, op := .move x, type := ty, pos := pos, after := af, guard := none } :: rest) f w) : RW M P ops Q ({ dst := some d, op := .move x, type := ty, pos := pos, after := af, guard := none } :: rest) f w := h
theorem Gt.assign {x : Operand} (h : RW M P ops Q ({ dst := some d, op := .assign x, type := ty, pos := pos, after := af, guard := none } :: rest) f w) : RW M P ops Q ({ dst := some d, op := .assign x, type := ty, pos := pos, after := af, guard := none } :: rest) f w := h
theorem Gt.nilck {x : Operand} (h : RW M P ops Q ({ dst := some d, op := .nilCheck x, type := ty, pos := pos, after := af, guard := none } :: rest) f w) : RW M P ops Q ({ dst := some d, op := .nilCheck x, type := ty, pos := pos, after := af, guard := none } :: rest) f w := h
theorem Gt.fieldAddr {s : TypeId} {x : Operand} {i : Nat} (h : RW M P ops Q ({ dst := some d, op := .fieldAddr s x i, type := ty, pos := pos, after := af, guard := none } :: rest) f w) : RW M P ops Q ({ dst := some d, op := .fieldAddr s x i, type := ty, pos := pos, after := af, guard := none } :: rest) f w := h
theorem Gt.load {t : TypeId} {x : Operand} (h : RW M P ops Q ({ dst := some d, op := .load t x, type := ty, pos := pos, after := af, guard := none } :: rest) f w) : RW M P ops Q ({ dst := some d, op := .load t x, type := ty, pos := pos, after := af, guard := none } :: rest) f w := h
theorem Gt.pick {c x y : Operand} (h : RW M P ops Q ({ dst := some d, op := .pick c x y, type := ty, pos := pos, after := af, guard := none } :: rest) f w) : RW M P ops Q ({ dst := some d, op := .pick c x y, type := ty, pos := pos, after := af, guard := none } :: rest) f w := h
theorem Gt.extract {x : Operand} {i : Nat} (h : RW M P ops Q ({ dst := some d, op := .extract x i, type := ty, pos := pos, after := af, guard := none } :: rest) f w) : RW M P ops Q ({ dst := some d, op := .extract x i, type := ty, pos := pos, after := af, guard := none } :: rest) f w := h
theorem Gt.makeFunc {fn : Fn} {xs ys : Array Operand} (h : RW M P ops Q ({ dst := some d, op := .makeFunc fn xs ys, type := ty, pos := pos, after := af, guard := none } :: rest) f w) : RW M P ops Q ({ dst := some d, op := .makeFunc fn xs ys, type := ty, pos := pos, after := af, guard := none } :: rest) f w := h
theorem Gt.iface {t : TypeId} {x : Operand} (h : RW M P ops Q ({ dst := some d, op := .makeInterface t x, type := ty, pos := pos, after := af, guard := none } :: rest) f w) : RW M P ops Q ({ dst := some d, op := .makeInterface t x, type := ty, pos := pos, after := af, guard := none } :: rest) f w := h
theorem Gt.index {t : TypeId} {x y : Operand} (h : RW M P ops Q ({ dst := some d, op := .index t x y, type := ty, pos := pos, after := af, guard := none } :: rest) f w) : RW M P ops Q ({ dst := some d, op := .index t x y, type := ty, pos := pos, after := af, guard := none } :: rest) f w := h
theorem Gt.convert {s t : TypeId} {x : Operand} (h : RW M P ops Q ({ dst := some d, op := .convert s t x, type := ty, pos := pos, after := af, guard := none } :: rest) f w) : RW M P ops Q ({ dst := some d, op := .convert s t x, type := ty, pos := pos, after := af, guard := none } :: rest) f w := h
theorem Gt.not {t : TypeId} {x : Operand} (h : RW M P ops Q ({ dst := some d, op := .unOp .not t x, type := ty, pos := pos, after := af, guard := none } :: rest) f w) : RW M P ops Q ({ dst := some d, op := .unOp .not t x, type := ty, pos := pos, after := af, guard := none } :: rest) f w := h
theorem Gt.neg {t : TypeId} {x : Operand} (h : RW M P ops Q ({ dst := some d, op := .unOp .neg t x, type := ty, pos := pos, after := af, guard := none } :: rest) f w) : RW M P ops Q ({ dst := some d, op := .unOp .neg t x, type := ty, pos := pos, after := af, guard := none } :: rest) f w := h
theorem Gt.len {xs : Array Operand} {ts : Array TypeId} (h : RW M P ops Q ({ dst := some d, op := .call { callee := .builtin .len, args := xs, argTypes := ts }, type := ty, pos := pos, after := af, guard := none } :: rest) f w) : RW M P ops Q ({ dst := some d, op := .call { callee := .builtin .len, args := xs, argTypes := ts }, type := ty, pos := pos, after := af, guard := none } :: rest) f w := h
theorem Gt.idx {t : TypeId} {x y : Operand} (h : RW M P ops Q ({ dst := some d, op := .indexAddr t x y, type := ty, pos := pos, after := af, guard := none } :: rest) f w) : RW M P ops Q ({ dst := some d, op := .indexAddr t x y, type := ty, pos := pos, after := af, guard := none } :: rest) f w := h
theorem Gt.eql {t yt : TypeId} {x y : Operand} (h : RW M P ops Q ({ dst := some d, op := .binOp .eql t x y yt, type := ty, pos := pos, after := af, guard := none } :: rest) f w) : RW M P ops Q ({ dst := some d, op := .binOp .eql t x y yt, type := ty, pos := pos, after := af, guard := none } :: rest) f w := h
theorem Gt.neq {t yt : TypeId} {x y : Operand} (h : RW M P ops Q ({ dst := some d, op := .binOp .neq t x y yt, type := ty, pos := pos, after := af, guard := none } :: rest) f w) : RW M P ops Q ({ dst := some d, op := .binOp .neq t x y yt, type := ty, pos := pos, after := af, guard := none } :: rest) f w := h
theorem Gt.lss {t yt : TypeId} {x y : Operand} (h : RW M P ops Q ({ dst := some d, op := .binOp .lss t x y yt, type := ty, pos := pos, after := af, guard := none } :: rest) f w) : RW M P ops Q ({ dst := some d, op := .binOp .lss t x y yt, type := ty, pos := pos, after := af, guard := none } :: rest) f w := h
theorem Gt.leq {t yt : TypeId} {x y : Operand} (h : RW M P ops Q ({ dst := some d, op := .binOp .leq t x y yt, type := ty, pos := pos, after := af, guard := none } :: rest) f w) : RW M P ops Q ({ dst := some d, op := .binOp .leq t x y yt, type := ty, pos := pos, after := af, guard := none } :: rest) f w := h
theorem Gt.gtr {t yt : TypeId} {x y : Operand} (h : RW M P ops Q ({ dst := some d, op := .binOp .gtr t x y yt, type := ty, pos := pos, after := af, guard := none } :: rest) f w) : RW M P ops Q ({ dst := some d, op := .binOp .gtr t x y yt, type := ty, pos := pos, after := af, guard := none } :: rest) f w := h
theorem Gt.geq {t yt : TypeId} {x y : Operand} (h : RW M P ops Q ({ dst := some d, op := .binOp .geq t x y yt, type := ty, pos := pos, after := af, guard := none } :: rest) f w) : RW M P ops Q ({ dst := some d, op := .binOp .geq t x y yt, type := ty, pos := pos, after := af, guard := none } :: rest) f w := h
theorem Gt.add {t yt : TypeId} {x y : Operand} (h : RW M P ops Q ({ dst := some d, op := .binOp .add t x y yt, type := ty, pos := pos, after := af, guard := none } :: rest) f w) : RW M P ops Q ({ dst := some d, op := .binOp .add t x y yt, type := ty, pos := pos, after := af, guard := none } :: rest) f w := h
theorem Gt.sub {t yt : TypeId} {x y : Operand} (h : RW M P ops Q ({ dst := some d, op := .binOp .sub t x y yt, type := ty, pos := pos, after := af, guard := none } :: rest) f w) : RW M P ops Q ({ dst := some d, op := .binOp .sub t x y yt, type := ty, pos := pos, after := af, guard := none } :: rest) f w := h
theorem Gt.mul {t yt : TypeId} {x y : Operand} (h : RW M P ops Q ({ dst := some d, op := .binOp .mul t x y yt, type := ty, pos := pos, after := af, guard := none } :: rest) f w) : RW M P ops Q ({ dst := some d, op := .binOp .mul t x y yt, type := ty, pos := pos, after := af, guard := none } :: rest) f w := h
theorem Gt.quo {t yt : TypeId} {x y : Operand} (h : RW M P ops Q ({ dst := some d, op := .binOp .quo t x y yt, type := ty, pos := pos, after := af, guard := none } :: rest) f w) : RW M P ops Q ({ dst := some d, op := .binOp .quo t x y yt, type := ty, pos := pos, after := af, guard := none } :: rest) f w := h
theorem Gt.rem {t yt : TypeId} {x y : Operand} (h : RW M P ops Q ({ dst := some d, op := .binOp .rem t x y yt, type := ty, pos := pos, after := af, guard := none } :: rest) f w) : RW M P ops Q ({ dst := some d, op := .binOp .rem t x y yt, type := ty, pos := pos, after := af, guard := none } :: rest) f w := h
theorem Gt.and {t yt : TypeId} {x y : Operand} (h : RW M P ops Q ({ dst := some d, op := .binOp .and t x y yt, type := ty, pos := pos, after := af, guard := none } :: rest) f w) : RW M P ops Q ({ dst := some d, op := .binOp .and t x y yt, type := ty, pos := pos, after := af, guard := none } :: rest) f w := h
theorem Gt.or {t yt : TypeId} {x y : Operand} (h : RW M P ops Q ({ dst := some d, op := .binOp .or t x y yt, type := ty, pos := pos, after := af, guard := none } :: rest) f w) : RW M P ops Q ({ dst := some d, op := .binOp .or t x y yt, type := ty, pos := pos, after := af, guard := none } :: rest) f w := h
theorem Gt.xor {t yt : TypeId} {x y : Operand} (h : RW M P ops Q ({ dst := some d, op := .binOp .xor t x y yt, type := ty, pos := pos, after := af, guard := none } :: rest) f w) : RW M P ops Q ({ dst := some d, op := .binOp .xor t x y yt, type := ty, pos := pos, after := af, guard := none } :: rest) f w := h
theorem Gt.andNot {t yt : TypeId} {x y : Operand} (h : RW M P ops Q ({ dst := some d, op := .binOp .andNot t x y yt, type := ty, pos := pos, after := af, guard := none } :: rest) f w) : RW M P ops Q ({ dst := some d, op := .binOp .andNot t x y yt, type := ty, pos := pos, after := af, guard := none } :: rest) f w := h
theorem Gt.shl {t yt : TypeId} {x y : Operand} (h : RW M P ops Q ({ dst := some d, op := .binOp .shl t x y yt, type := ty, pos := pos, after := af, guard := none } :: rest) f w) : RW M P ops Q ({ dst := some d, op := .binOp .shl t x y yt, type := ty, pos := pos, after := af, guard := none } :: rest) f w := h
theorem Gt.shr {t yt : TypeId} {x y : Operand} (h : RW M P ops Q ({ dst := some d, op := .binOp .shr t x y yt, type := ty, pos := pos, after := af, guard := none } :: rest) f w) : RW M P ops Q ({ dst := some d, op := .binOp .shr t x y yt, type := ty, pos := pos, after := af, guard := none } :: rest) f w := h
theorem Gt.guard {o : Option Nat} {op : Op} {j : Nat} {b : Bool} (h : RW M P ops Q ({ dst := o, op := op, type := ty, pos := pos, after := af, guard := some (j, b) } :: rest) f w) : RW M P ops Q ({ dst := o, op := op, type := ty, pos := pos, after := af, guard := some (j, b) } :: rest) f w := h
theorem Gt.nil (h : RW M P ops Q [] f w) : RW M P ops Q [] f w := h
theorem Gt.rw {o : Oper} (h : RW M P ops Q (o :: rest) f w) : RW M P ops Q (o :: rest) f w := h
end
end Go.Proofs.YteihfeghbpklkaaDoor.H
