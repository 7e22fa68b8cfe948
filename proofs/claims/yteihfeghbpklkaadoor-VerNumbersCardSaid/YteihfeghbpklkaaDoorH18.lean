/-
  Results of any form: temporaries and variables, one behind the other.
-/
import Derived.Test.YteihfeghbpklkaaDoorH17
namespace Go.Proofs.YteihfeghbpklkaaDoor.H
open Go.RowKit
/-- What a list of results reads as. -/
def RS (P : Program) (f : Fr) (w : World) : List ResultVar → List Value → Prop
  | [], [] => True
  | .tmp t :: rs, v :: vs => look f.e t = some v ∧ RS P f w rs vs
  | .cell t u :: rs, v :: vs => (∃ p, look f.e t = some (.pointer (some p)) ∧ (loadVar u p).run P w = .ok v w) ∧ RS P f w rs vs
  | _, _ => False
section
variable {P : Program} {f : Fr} {w : World}
theorem load_one {u : TypeId} [h : One P u] {p : Addr} {v : Value} (hc : w.cell? p = some v) : (loadVar u p).run P w = .ok v w := by
  simp [loadVar, h.agg, load, Sem.run, hc]
theorem load_many {u : TypeId} {n : Nat} [h : Many P u n] {a : Addr} {cs : List Value} (hl : cs.length = n) (hc : ∀ j v, cs[j]? = some v → w.cell? (a.add j) = some v) : (loadVar u a).run P w = .ok (.agg cs.toArray) w := by
  have hr := run_loadCells_list (P := P) w a cs hc
  rw [hl] at hr
  simp [loadVar, h.agg, h.size, hr]
theorem load_block {u : TypeId} {n : Nat} [h : Many P u n] {g : Nat} {cs : List Value} {e : TypeId} {fz : Nat × Nat} (hb : w.heap[g]? = some (.cells cs.toArray e fz)) (hl : cs.length = n) : (loadVar u ⟨g, 0, none⟩).run P w = .ok (.agg cs.toArray) w :=
  load_many hl fun j v hv => by
    rw [addr_add, Nat.zero_add, cell_row (off := 0) hb]
    simpa using hv
theorem load_block1 {u : TypeId} [h : One P u] {g : Nat} {v : Value} {e : TypeId} {fz : Nat × Nat} (hb : w.heap[g]? = some (.cells #[v] e fz)) : (loadVar u ⟨g, 0, none⟩).run P w = .ok v w :=
  load_one (by rw [cell_row (off := 0) hb]; rfl)
abbrev rsM (tmps : Array Value) (r : ResultVar) : Sem Value := match r with
  | .tmp t => pure (tmps.getD t undef)
  | .cell t u => do loadVar u (← asAddr (tmps.getD t undef))
theorem rs_run {a : Act} (ha : Ag f a) : ∀ (rs : List ResultVar) (vs : List Value), RS P f w rs vs → (rs.mapM (rsM a.tmps)).run P w = .ok vs w := by
  intro rs
  induction rs with
  | nil => intro vs h; cases vs with | nil => rfl | cons => exact h.elim
  | cons r rs ih =>
    intro vs h
    cases vs with
    | nil => cases r <;> exact h.elim
    | cons v vs =>
      have h1 : (rsM a.tmps r).run P w = .ok v w := by
        cases r with
        | tmp t => simp only [rsM]; rw [ha.slot t v h.1]; rfl
        | cell t u =>
          obtain ⟨⟨p, hp, hl⟩, h2⟩ := h
          simp only [rsM]
          rw [ha.slot t _ hp]
          simp [asAddr, hl]
      have h2 := ih vs (by cases r <;> exact h.2)
      simp only [List.mapM_cons, Sem.run_bind, h1, Result.andThen, h2]
      rfl
theorem results_list {fn : Func} {rs : List ResultVar} {vs : List Value} (hr : fn.results = rs.toArray) (h : RS P f w rs vs) {a : Act} (ha : Ag f a) : (results fn a.tmps).run P w = .ok (if h : vs.toArray.size = 1 then vs.toArray[0] else .tuple vs.toArray) w := by
  have h2 := rs_run ha rs vs h
  have e : (fn.results.mapM (rsM a.tmps)).run P w = .ok vs.toArray w := by
    rw [hr, List.mapM_toArray]
    show (List.toArray <$> rs.mapM (rsM a.tmps)).run P w = _
    rw [map_eq_pure_bind, Sem.run_bind, h2]
    rfl
  unfold results
  rw [Sem.run_bind]
  exact (congrArg (fun (r : Result (Array Value)) => r.andThen fun vs w => (pure (if h : vs.size = 1 then vs[0] else Value.tuple vs) : Sem Value).run P w) e).trans rfl
/-- The end of a body, whatever the results' form. -/
theorem FQ.res {fn : Func} {R : Ending → World → Prop} {rs : List ResultVar} {vs : List Value} (hr : fn.results = rs.toArray) (hd : f.ds = []) (h : RS P f w rs vs) (hn : Nat.beq vs.length 1 = false) (hR : R (.returned (.tuple vs.toArray)) w) : FQ P fn R .ret f w :=
  ⟨hd, _, fun a ha => by rw [results_list hr h ha, dif_neg (by intro c; rw [List.size_toArray] at c; rw [c] at hn; cases hn)], hR⟩
theorem FQ.res1 {fn : Func} {R : Ending → World → Prop} {r : ResultVar} {v : Value} (hr : fn.results = #[r]) (hd : f.ds = []) (h : RS P f w [r] [v]) (hR : R (.returned v) w) : FQ P fn R .ret f w :=
  ⟨hd, _, fun a ha => by rw [results_list (rs := [r]) hr h ha]; rfl, hR⟩
end
end Go.Proofs.YteihfeghbpklkaaDoor.H
