/-
  Elements of several cells: one field read, the whole read.
-/
import Derived.Test.YteihfeghbpklkaaDoorH10
namespace Go.Proofs.YteihfeghbpklkaaDoor.H
open Go.RowKit
section
variable {M : Option (Option Nat)} {P : Program} {ops : Array Oper} {Q : Post} {rest : List Oper} {f : Fr} {w : World} {d : Nat} {ty : TypeId} {pos : String} {af : Array Edge}

theorem cells_at {α : Type} {enc : α → List Value} {sz : Nat} (he : ∀ x, (enc x).length = sz) : ∀ (l : List α) (i j : Nat) (x : α), l[i]? = some x → j < sz → (l.flatMap enc)[i * sz + j]? = (enc x)[j]? := by
  intro l
  induction l with
  | nil => intro i j x h; simp at h
  | cons a l ih =>
    intro i j x h hj
    rw [List.flatMap_cons]
    cases i with
    | zero =>
      simp only [List.length_cons, Nat.zero_lt_succ, List.getElem?_cons_zero, Option.some.injEq] at h
      subst h
      rw [Nat.zero_mul, Nat.zero_add, List.getElem?_append_left (by rw [he]; exact hj)]
    | succ i =>
      rw [List.getElem?_append_right (by rw [he, Nat.succ_mul]; omega), he]
      have : (i + 1) * sz + j - sz = i * sz + j := by rw [Nat.succ_mul]; omega
      rw [this]
      exact ih i j x (by simpa using h) hj
theorem cells_len {α : Type} {enc : α → List Value} {sz : Nat} (he : ∀ x, (enc x).length = sz) : ∀ (l : List α), (l.flatMap enc).length = l.length * sz := by
  intro l
  induction l with
  | nil => simp
  | cons a l ih => rw [List.flatMap_cons, List.length_append, he, ih, List.length_cons, Nat.succ_mul]; omega

theorem spot_ptr {w : World} {sz : Nat} {v : Value} {n : Nat} {xs : List Value} (hs : Sl w sz v n xs) (hn : 0 < n) (k : Nat) : ∃ g o, Value.spot v k = ⟨g, o, none⟩ ∧ ∀ j, Value.spot v (k + j) = ⟨g, o + j, none⟩ := by
  rcases hs.2.2 with ⟨_, rfl, h⟩ | ⟨g, off, cap, cur, e', fz, rfl, _⟩
  · omega
  · refine ⟨g, off + k, ?_, fun j => ?_⟩
    · simp [Value.spot, addr_add]
    · simp only [Value.spot, addr_add]; congr 1; omega

/-- A field of an element. -/
theorem RW.elemF {α : Type} [Inhabited α] {t e t2 ty2 ty3 s : TypeId} {fi off ft : Nat} {pos2 pos3 : String} {af2 af3 : Array Edge} {d1 d2 : Nat} {z zf : Value} {b sz szf bf : Nat} [ht : Und P t (.slice e)] [Inf P e z sz b] [hf : Fld P s fi off ft] [hfi : Inf P ft zf szf bf] [One P t2]
    {x y : Operand} {k : IntKind} {v u : Value} {i : Int} {n : Nat} {l : List α} {enc : α → List Value} (hx : f.ev x = some v) (hy : f.ev y = some (.int k i)) (hd : Nat.blt d f.n = true) (hd1 : Nat.blt d1 f.n = true) (hd2 : Nat.blt d2 f.n = true) (hzf : Nat.beq szf 0 = false)
    (hs : Sl w sz v n (l.flatMap enc)) (he : ∀ x, (enc x).length = sz) (hsz : Nat.blt off sz = true) (h0 : 0 ≤ i) (h1 : i < l.length) (hu : (enc (l.getD i.toNat default))[off]? = some u)
    (kk : ∀ p q, RW M P ops Q rest (((f.put d p).put d1 q).put d2 u) w) : RW M P ops Q (op1 d (.indexAddr t x y) ty pos af :: op1 d1 (.fieldAddr s (.tmp d) fi) ty2 pos2 af2 :: op1 d2 (.load t2 (.tmp d1)) ty3 pos3 af3 :: rest) f w := by
  have hlt : i.toNat < l.length := by omega
  have hsz' := blt_lt hsz
  have hn : n = l.length := by
    have := hs.1
    rw [cells_len he] at this
    exact Nat.eq_of_mul_eq_mul_right (by omega) this.symm
  subst hn
  obtain ⟨g, o, h2, h3⟩ := spot_ptr hs (by omega) (i.toNat * sz)
  refine RW.y (Y.idx hx hy hs h0 h1) hd ?_
  rw [h2]
  refine RW.y (Y.fieldAddr (by simp [Fr.ev, Fr.put, look]; exact ⟨rfl, rfl⟩) hzf) hd1 ?_
  refine RW.y (Y.load1 (a := ⟨g, o + off, none⟩) (by simp [Fr.ev, Fr.put, look]) ?_) hd2 (kk _ _)
  rw [← h3 off]
  refine hs.cell ?_
  rw [cells_at he l i.toNat off (l.getD i.toNat default) (by simp [List.getD_eq_getElem?_getD, hlt]) hsz', hu]

/-- An element read whole. -/
theorem RW.elemA {α : Type} [Inhabited α] {t e t2 ty2 : TypeId} {pos2 : String} {af2 : Array Edge} {d1 : Nat} {z : Value} {b sz : Nat} [ht : Und P t (.slice e)] [Inf P e z sz b] [Many P t2 sz]
    {x y : Operand} {k : IntKind} {v : Value} {i : Int} {n : Nat} {l : List α} {enc : α → List Value} (hx : f.ev x = some v) (hy : f.ev y = some (.int k i)) (hd : Nat.blt d f.n = true) (hd1 : Nat.blt d1 f.n = true)
    (hs : Sl w sz v n (l.flatMap enc)) (he : ∀ x, (enc x).length = sz) (hsz : Nat.blt 0 sz = true) (h0 : 0 ≤ i) (h1 : i < l.length)
    (kk : ∀ p, RW M P ops Q rest ((f.put d p).put d1 (.agg (enc (l.getD i.toNat default)).toArray)) w) : RW M P ops Q (op1 d (.indexAddr t x y) ty pos af :: op1 d1 (.load t2 (.tmp d)) ty2 pos2 af2 :: rest) f w := by
  have hlt : i.toNat < l.length := by omega
  have hsz' := blt_lt hsz
  have hn : n = l.length := by
    have := hs.1
    rw [cells_len he] at this
    exact Nat.eq_of_mul_eq_mul_right (by omega) this.symm
  subst hn
  obtain ⟨g, o, h2, h3⟩ := spot_ptr hs (by omega) (i.toNat * sz)
  refine RW.y (Y.idx hx hy hs h0 h1) hd ?_
  rw [h2]
  refine RW.loadN (a := ⟨g, o, none⟩) (by simp [Fr.ev, Fr.put, look]) (he _) (fun j u hj => ?_) hd1 (kk _)
  have : (Addr.mk g o none).add j = Value.spot v (i.toNat * sz + j) := by rw [h3]; simp [addr_add]
  rw [this]
  refine hs.cell ?_
  have hjs : j < sz := by
    have := (List.getElem?_eq_some_iff.1 hj).1
    rw [he] at this
    exact this
  rw [cells_at he l i.toNat j (l.getD i.toNat default) (by simp [List.getD_eq_getElem?_getD, hlt]) hjs, hj]
end
end Go.Proofs.YteihfeghbpklkaaDoor.H
