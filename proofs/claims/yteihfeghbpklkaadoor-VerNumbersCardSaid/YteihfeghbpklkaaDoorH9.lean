/-
  Rules: interface values held against nil, asserted; deferred calls that recover; results in variables.
-/
import Derived.Test.YteihfeghbpklkaaDoorH8
import Derived.LaidEql
import Derived.WideLaws
namespace Go.Proofs.YteihfeghbpklkaaDoor.H
open Go.RowKit
section
variable {M : Option (Option Nat)} {P : Program} {ops : Array Oper} {Q : Post} {rest : List Oper} {f : Fr} {w : World} {d : Nat} {ty : TypeId} {pos : String} {af : Array Edge}

theorem mem_of_look {e : List (Nat × Value)} {t : Nat} {v : Value} (h : look e t = some v) : (t, v) ∈ e := by
  induction e with
  | nil => simp [look] at h
  | cons p r ih =>
    obtain ⟨k, u⟩ := p
    simp only [look] at h
    by_cases hk : k = t
    · subst hk; rw [beq_self] at h; simp only [Option.some.injEq] at h; subst h; simp
    · rw [beq_ne hk] at h; exact List.mem_cons_of_mem _ (ih h)

theorem Ag.of {n : Nat} {ds : List Deferred} {e : List (Nat × Value)} {a : Act} (hn : a.tmps.size = n) (hd : a.defers = ds) (h : ∀ p ∈ e, a.tmps.getD p.1 undef = p.2) : Ag ⟨n, ds, e⟩ a :=
  ⟨hn, hd, fun t v hv => h (t, v) (mem_of_look hv)⟩

theorem wpS_cl {c : Code} {a : Act} {cs : List Frame} {QS : Exit → Act → List Frame → World → Prop} (h : CL none P Q [c] f w) (ha : Ag f a) (hq : ∀ e f a w, Ag f a → Q e f w → QS e a cs w) : c.wpS P QS a cs w :=
  wpS_of_wp (wp_mono (CL.one h a ha) fun e a w ⟨g, hg, q⟩ => hq e g a w hg q)

/-- x.(T), v, ok -/
class NoIface (P : Program) (t : TypeId) : Prop where out : ∃ d, P.underlying t = some d ∧ ∀ ms, d ≠ .interface ms
theorem Y.assert {x : Operand} {xt t : TypeId} {v : Value} [h : NoIface P t] (hx : f.ev x = some (.iface t v)) : Yd P f (op1 d (.typeAssert x xt t true) ty pos af) (.tuple #[v, .bool true]) w := by
  intro a ha
  obtain ⟨dd, hd, hn⟩ := h.out
  simp only [execOp, ha.eval hx, Instr.typeAssert, Sem.run_bind, run_underlying hd, Result.andThen_ok]
  cases dd with
  | interface ms => exact absurd rfl (hn ms)
  | _ => simp

/-- an interface value against nil -/
class IfaceT (P : Program) (t : TypeId) : Prop where out : P.underlying t = some (.interface (P.methodsAt t))
theorem Y.neHeld {t yt u : TypeId} {x y : Operand} {v : Value} [h : IfaceT P t] (hx : f.ev x = some (.iface u v)) (hy : f.ev y = some .nilIface) : Yd P f (op1 d (.binOp .neq t x y yt) ty pos af) (.bool true) w :=
  Y.bin hx hy (by simp) (by simp) (run_neq_held_nil w t u v h.out)
theorem Y.neNil {t yt : TypeId} {x : Operand} [h : IfaceT P t] (hx : f.ev x = some .nilIface) : Yd P f (op1 d (.binOp .neq t x (.const .nilIface) yt) ty pos af) (.bool false) w := by
  intro a ha
  have hy : a.eval (.const .nilIface) = .nilIface := rfl
  simp [execOp, ha.eval hx, hy, eqGuard, run_neq_nil_nil w t h.out]

theorem results_cell {fn : Func} {t : Tmp} {u : TypeId} [h1 : One P u] (h : fn.results = #[.cell t u]) {tmps : Array Value} {p : Addr} {v : Value} (ht : tmps.getD t undef = .pointer (some p)) (hc : w.cell? p = some v) :
    (results fn tmps).run P w = .ok v w := by
  have ht' : tmps[t]?.getD undef = .pointer (some p) := by simpa using ht
  simp [results, h, ht', asAddr, loadVar, h1.agg, load, Sem.run, hc]
end
end Go.Proofs.YteihfeghbpklkaaDoor.H
