/-
  Versions: plain.
-/
import Derived.Test.YteihfeghbpklkaaDoorS0
import Derived.Lib.ItoaNum
import Derived.Lib.Atoi
import Derived.Lib.Join
import GoSem.Op.String
namespace Go.Proofs.YteihfeghbpklkaaDoor.Ve
open Go.Proofs.YteihfeghbpklkaaDoor.S
abbrev T := List UInt8

def isDig (c : UInt8) : Bool := decide (48 ≤ c.toNat) && decide (c.toNat ≤ 57)
def isSign (c : UInt8) : Bool := isDig c || (decide (97 ≤ c.toNat) && decide (c.toNat ≤ 122)) || (decide (65 ≤ c.toNat) && decide (c.toNat ≤ 90)) || decide (c.toNat = 45)
def digB (s : T) : Bool := decide (s ≠ []) && s.all isDig
/-- No nought ahead. -/
def plainB (s : T) : Bool := decide (s.length = 1) || decide (s.getD 0 0 ≠ 48)
def val (s : T) : Nat := s.foldl (fun n c => 10 * n + (c.toNat - 48)) 0
def numB (s : T) : Bool := digB s && decide (s.length ≤ 9) && plainB s
def markB (s : T) : Bool := decide (s ≠ []) && decide (s.length ≤ 16) && (!digB s || plainB s) && s.all isSign

theorem take_snoc {α : Type} (d : α) (l : List α) (i : Nat) (h : i < l.length) : l.take (i + 1) = l.take i ++ [l.getD i d] := by
  rw [List.take_succ_eq_append_getElem h, List.getD_eq_getElem?_getD, List.getElem?_eq_getElem h]; rfl
theorem getD_mem {α : Type} (d : α) {l : List α} {i : Nat} (h : i < l.length) : l.getD i d ∈ l := by
  rw [List.getD_eq_getElem?_getD, List.getElem?_eq_getElem h]; exact List.getElem_mem h
theorem all_false {α : Type} (d : α) {l : List α} {p : α → Bool} {i : Nat} (hi : i < l.length) (h : p (l.getD i d) = false) : l.all p = false := by
  rw [List.all_eq_false]
  exact ⟨_, getD_mem d hi, by rw [h]; decide⟩
theorem all_step {α : Type} (d : α) {l : List α} {p : α → Bool} {i : Nat} (hi : i < l.length) (h : (l.take i).all p = true) (hp : p (l.getD i d) = true) : (l.take (i + 1)).all p = true := by
  rw [take_snoc d l i hi, List.all_append, h, List.all_cons, hp]; rfl
theorem val_snoc (l : T) (c : UInt8) : val (l ++ [c]) = 10 * val l + (c.toNat - 48) := by simp [val]
theorem val_lt : ∀ (n : Nat) (l : T), l.length = n → l.all isDig = true → val l < 10 ^ n := by
  intro n
  induction n with
  | zero => intro l h _; rw [List.length_eq_zero_iff.1 h]; decide
  | succ n ih =>
    intro l h ha
    have hne : l ≠ [] := by rintro rfl; simp at h
    rw [← List.dropLast_concat_getLast hne] at ha ⊢
    rw [List.all_append] at ha
    simp only [Bool.and_eq_true, List.all_cons, List.all_nil, Bool.and_true] at ha
    have h1 := ih l.dropLast (by simp; omega) ha.1
    rw [val_snoc]
    have h2 := ha.2
    simp only [isDig, Bool.and_eq_true, decide_eq_true_eq] at h2
    rw [Nat.pow_succ]
    omega
/-- A number without a nought ahead is as great as its length says. -/
theorem val_ge : ∀ (n : Nat) (l : T), l.length = n + 1 → l.all isDig = true → l.getD 0 0 ≠ 48 → 10 ^ n ≤ val l := by
  intro n
  induction n with
  | zero =>
    intro l h ha h0
    match l, h with
    | [c], _ =>
      simp only [List.all_cons, List.all_nil, Bool.and_true, isDig, Bool.and_eq_true, decide_eq_true_eq] at ha
      have : c.toNat ≠ 48 := fun e => h0 (UInt8.toNat_inj.1 (by simpa using e))
      simp [val]
      omega
  | succ n ih =>
    intro l h ha h0
    have hne : l ≠ [] := by rintro rfl; simp at h
    have hd : l.dropLast.getD 0 0 = l.getD 0 0 := by
      match l, h with
      | a :: b :: r, _ => rfl
    rw [← List.dropLast_concat_getLast hne] at ha ⊢
    rw [List.all_append, Bool.and_eq_true] at ha
    have h1 := ih l.dropLast (by simp; omega) ha.1 (by rw [hd]; exact h0)
    rw [val_snoc, Nat.pow_succ]
    omega

/-- The reference's reading of a number says the same. -/
theorem num_ref (s : T) : (digB s = true ∧ ¬ (1 < s.length ∧ s.getD 0 0 = 48) ∧ s.length ≤ 10 ∧ val s ≤ 999999999) ↔ numB s = true := by
  unfold numB plainB
  simp only [Bool.and_eq_true, Bool.or_eq_true, decide_eq_true_eq]
  constructor
  · rintro ⟨h1, h2, h3, h4⟩
    have hd := h1
    simp only [digB, Bool.and_eq_true, decide_eq_true_eq] at hd
    have hpos : 0 < s.length := List.length_pos_iff.2 hd.1
    by_cases hl : s.length ≤ 9
    · refine ⟨⟨h1, hl⟩, ?_⟩
      by_cases h : s.length = 1
      · exact .inl h
      · exact .inr fun c => h2 ⟨by omega, c⟩
    · have h10 : s.length = 10 := by omega
      have := val_ge 9 s h10 hd.2 (fun c => h2 ⟨by omega, c⟩)
      omega
  · rintro ⟨⟨h1, h2⟩, h3⟩
    have hd := h1
    simp only [digB, Bool.and_eq_true, decide_eq_true_eq] at hd
    have hv := val_lt s.length s rfl hd.2
    have h9 : 10 ^ s.length ≤ 10 ^ 9 := Nat.pow_le_pow_right (by decide) h2
    have e9 : (10 : Nat) ^ 9 = 1000000000 := by decide
    refine ⟨h1, ?_, by omega, by omega⟩
    rintro ⟨c1, c2⟩
    rcases h3 with h3 | h3
    · omega
    · exact h3 c2

structure Ver where
  a : Int
  b : Int
  c : Int
  pre : List T
instance : Inhabited Ver := ⟨⟨0, 0, 0, []⟩⟩

/-- Out of the numbers' texts, what stands behind the first -, whether there is one. -/
def parseL (l : List T) (pre : T) (has : Bool) : Option Ver :=
  match l with
  | [x, y, z] => if (numB x && numB y && numB z) = true then
      (if has = true then (if (splitB 46 pre).length ≤ 5 ∧ (splitB 46 pre).all markB = true then some ⟨val x, val y, val z, splitB 46 pre⟩ else none)
      else some ⟨val x, val y, val z, []⟩) else none
  | _ => none
theorem parseL_ne {l : List T} {pre : T} {has : Bool} (h : l.length ≠ 3) : parseL l pre has = none := by
  match l, h with
  | [], _ => rfl
  | [_], _ => rfl
  | [_, _], _ => rfl
  | _ :: _ :: _ :: _ :: _, _ => rfl
  | [_, _, _], h => exact absurd rfl h
theorem len3 {l : List T} (h : l.length = 3) : ∃ x y z, l = [x, y, z] := by
  match l, h with
  | [x, y, z], _ => exact ⟨x, y, z, rfl⟩
def parseV (cut : T × T × Bool) : Option Ver := parseL (splitB 46 cut.1) cut.2.1 cut.2.2
/-- The version, the error's number. -/
def verR (o : Option Ver) : Ver × Int := match o with
  | none => (⟨0, 0, 0, []⟩, 60)
  | some v => (v, 0)

/-! The order. -/
def cmpI (a b : Int) : Int := if a < b then -1 else if b < a then 1 else 0
def cmpT (a b : T) : Int := if Op.bytesLess a b = true then -1 else if a = b then 0 else 1
def cmpM (a b : T) : Int :=
  if digB a = true ∧ digB b = true then (if cmpI a.length b.length ≠ 0 then cmpI a.length b.length else cmpT a b)
  else if digB a = true then -1 else if digB b = true then 1 else cmpT a b
def cmpL : List T → List T → Int
  | [], [] => 0
  | [], _ :: _ => -1
  | _ :: _, [] => 1
  | a :: x, b :: y => if cmpM a b ≠ 0 then cmpM a b else cmpL x y
def cmpP (x y : List T) : Int := if x = [] then (if y = [] then 0 else 1) else if y = [] then -1 else cmpL x y
def cmpV (x y : Ver) : Int :=
  if cmpI x.a y.a ≠ 0 then cmpI x.a y.a else if cmpI x.b y.b ≠ 0 then cmpI x.b y.b else if cmpI x.c y.c ≠ 0 then cmpI x.c y.c else cmpP x.pre y.pre

/-! The text. -/
/-- Texts with a byte between. -/
def glueC (c : UInt8) : List T → T
  | [] => []
  | [a] => a
  | a :: b :: r => a ++ c :: glueC c (b :: r)
theorem glueC_snoc (c : UInt8) : ∀ (l : List T) (x : T), glueC c (l ++ [x]) = if l = [] then x else glueC c l ++ [c] ++ x := by
  intro l
  induction l with
  | nil => intro x; rfl
  | cons a r ih =>
    intro x
    cases r with
    | nil => simp [glueC]
    | cons b r =>
      have := ih x
      simp only [List.cons_append, reduceCtorEq, if_false] at this ⊢
      rw [glueC, this, glueC]
      simp
theorem join_glueC (c : UInt8) : ∀ (l : List T), Go.Lib.join l [c] = glueC c l := by
  intro l
  unfold Go.Lib.join
  induction l with
  | nil => rfl
  | cons a r ih =>
    cases r with
    | nil => simp [glueC, List.intercalate]
    | cons b r =>
      rw [glueC, ← ih]
      simp [List.intercalate, List.intersperse]
theorem glueC_len (c : UInt8) (m : Nat) : ∀ (l : List T), (∀ s ∈ l, s.length ≤ m) → (glueC c l).length ≤ l.length * (m + 1)
  | [], _ => by simp [glueC]
  | [a], h => by have := h a (by simp); simp only [glueC, List.length_cons, List.length_nil]; omega
  | a :: b :: r, h => by
    have h1 := h a (by simp)
    have ih := glueC_len c m (b :: r) (fun s hs => h s (by simp only [List.mem_cons] at hs ⊢; exact .inr hs))
    simp only [glueC, List.length_append, List.length_cons] at ih ⊢
    have : (r.length + 1 + 1) * (m + 1) = (r.length + 1) * (m + 1) + (m + 1) := by rw [Nat.succ_mul]
    omega
def decI (n : Int) : T := Go.Lib.decDigits n.toNat
def textV (v : Ver) : T := decI v.a ++ [46] ++ decI v.b ++ [46] ++ decI v.c ++ (if v.pre = [] then [] else 45 :: glueC 46 v.pre)

/-! The next one. -/
def nextV (v : Ver) (part : Int) : Ver :=
  if part = 0 then (if v.a < 999999999 then ⟨v.a + 1, 0, 0, []⟩ else ⟨v.a, v.b, v.c, []⟩)
  else if part = 1 then (if v.b < 999999999 then ⟨v.a, v.b + 1, 0, []⟩ else ⟨v.a, v.b, v.c, []⟩)
  else if v.c < 999999999 then ⟨v.a, v.b, v.c + 1, []⟩ else ⟨v.a, v.b, v.c, []⟩
end Go.Proofs.YteihfeghbpklkaaDoor.Ve
