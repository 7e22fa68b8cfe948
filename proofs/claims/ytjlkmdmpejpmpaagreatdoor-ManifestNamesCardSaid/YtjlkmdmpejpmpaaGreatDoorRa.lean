/-
  A text parted at a byte: plain. Versions: plain. Texts in their order; lists put in order by names: plain. A small calculus over the kit's rules: frames as short lists of slots, code as a list that is left to do, one rule an operation. Nothing here speaks of one program. The rules of operations that touch no memory: moves, numbers, truths, texts, parts of structs. The rules of operations that read and write memory: what is kept, slices that can be read, rows that are the call's own. The rules of slices: literals, append, reslicing; texts cut and turned into bytes and back; calls. The rules of cutting texts and slices, of bytes and texts, of calls; how the end of a body is read. More rules: how exits pass, guards that part, indexed reads, and the like. Regions whose order is open: what yields one value in whatever world of a kind is taken first; calls come in their order. Rules: nil tests, structs built, closures made and called, deferred calls, panics, elements of several cells. Rules: interface values held against nil, asserted; deferred calls that recover; results in variables. Of each type of this translation: its form, zero value, size; of each function: that a call of it enters it. Written by a program. More rules: an operation whose guard was itself passed over. Elements of several cells: one field read, the whole read. append to a slice that is full, whosever it is; a slice cut off at its length. Elements read under a guard that holds. An element read whole in whatever world of a kind; a truth against itself. Rules: the greater and the lesser of two numbers, functions that the model itself gives, slices made, an element of a row of the call's own written. Functions of the package strings over texts: HasPrefix, LastIndexByte, Index and Count at one byte. A range over a function: what an iterator does; the statement; a call of yield; the entry of a function that holds such a statement. Rules: numbers that are not below 0 divided, numbers of any kind that stay in it, slice literals of any length, texts against themselves. Results of any form: temporaries and variables, one behind the other.
-/
import Derived.Lib.Bytealg
import Derived.Lib.ItoaNum
import Derived.Lib.Atoi
import Derived.Lib.Join
import GoSem.Op.String
import Derived.WalkKit
import Derived.Lib.Hide
import Derived.TacticsIn
import Derived.RangeFuncCalls
import Derived.OwnWalkIn
import Derived.WalkLawsBesides
import Derived.Lib.AppendStr
import Derived.Lib.Strings
import Derived.OrdersHeld
import Derived.Recover
import Derived.LaidEql
import Derived.WideLaws
import Derived.Test.YtjlkmdmpejpmpaaGreatDoorRows
import Derived.Laws.Small
import Derived.Laws.Cover1
import Derived.Laws.OwnMore
import Derived.Laws.Externs
import Derived.RangeFuncRecord
import Derived.RangeFuncSeq
set_option linter.unusedVariables false
namespace Go.Proofs.YtjlkmdmpejpmpaaGreatDoor.S

/-- What stands between the bytes c. -/
def splitB (c : UInt8) : List UInt8 → List (List UInt8)
  | [] => [[]]
  | x :: r => if x = c then [] :: splitB c r else (x :: (splitB c r).headD []) :: (splitB c r).tail

theorem idx_ge (c : UInt8) (l : List UInt8) : -1 ≤ Go.Lib.indexByte l c := Go.Lib.indexByte_ge l c

theorem split_idx (c : UInt8) : ∀ (l : List UInt8), (Go.Lib.indexByte l c = -1 ∧ l.count c = 0 ∧ splitB c l = [l]) ∨
    ∃ m : Nat, Go.Lib.indexByte l c = (m : Int) ∧ m < l.length ∧ l.count c = (l.drop (m + 1)).count c + 1 ∧ splitB c l = l.take m :: splitB c (l.drop (m + 1)) := by
  intro l
  induction l with
  | nil => exact .inl ⟨rfl, rfl, rfl⟩
  | cons x r ih =>
    by_cases hx : x = c
    · subst hx
      refine .inr ⟨0, ?_, by simp, by simp, ?_⟩
      · simp [Go.Lib.indexByte]
      · simp [splitB]
    · have hx' : (x == c) = false := by simpa using hx
      rcases ih with ⟨h1, h2, h3⟩ | ⟨m, h1, h2, h3, h4⟩
      · refine .inl ⟨?_, ?_, ?_⟩
        · simp [Go.Lib.indexByte, hx', h1]
        · rw [List.count_cons, hx', h2]; rfl
        · rw [splitB, if_neg hx, h3]; rfl
      · refine .inr ⟨m + 1, ?_, by simpa using h2, ?_, ?_⟩
        · have : ((m : Int) == -1) = false := by rw [beq_eq_false_iff_ne]; omega
          simp [Go.Lib.indexByte, hx', h1, this]
        · rw [List.count_cons, hx', h3]; rfl
        · rw [splitB, if_neg hx, h4]; rfl
theorem splitB_len (c : UInt8) : ∀ (l : List UInt8), (splitB c l).length = l.count c + 1 := by
  intro l
  induction l with
  | nil => rfl
  | cons x r ih =>
    rw [splitB, List.count_cons]
    by_cases hx : x = c
    · rw [if_pos hx, List.length_cons, ih]; simp [hx]
    · have hx' : (x == c) = false := by simpa using hx
      rw [if_neg hx, hx', List.length_cons, List.length_tail, ih]; rfl
theorem splitB_ne (c : UInt8) (l : List UInt8) : splitB c l ≠ [] := fun h => by have := splitB_len c l; rw [h] at this; simp at this
theorem splitB_mem_len (c : UInt8) : ∀ (l : List UInt8), ∀ s ∈ splitB c l, s.length ≤ l.length := by
  intro l
  induction l with
  | nil => intro s hs; simp [splitB] at hs; subst hs; simp
  | cons x r ih =>
    intro s hs
    rw [splitB] at hs
    split at hs
    · rcases List.mem_cons.1 hs with rfl | hs
      · simp
      · have := ih s hs; simp only [List.length_cons]; omega
    · rcases List.mem_cons.1 hs with rfl | hs
      · have hne := splitB_ne c r
        cases hsp : splitB c r with
        | nil => exact absurd hsp hne
        | cons a t =>
          have := ih a (by rw [hsp]; simp)
          simp only [List.headD_cons, List.length_cons]; omega
      · have := ih s (List.mem_of_mem_tail hs); simp only [List.length_cons]; omega
end Go.Proofs.YtjlkmdmpejpmpaaGreatDoor.S

namespace Go.Proofs.YtjlkmdmpejpmpaaGreatDoor.Ve
open Go.Proofs.YtjlkmdmpejpmpaaGreatDoor.S
abbrev T := List UInt8

def isDig (c : UInt8) : Bool := decide (48 ≤ c.toNat) && decide (c.toNat ≤ 57)
def isSign (c : UInt8) : Bool := isDig c || (decide (97 ≤ c.toNat) && decide (c.toNat ≤ 122)) || (decide (65 ≤ c.toNat) && decide (c.toNat ≤ 90)) || decide (c.toNat = 45)
def digB (s : T) : Bool := decide (s ≠ []) && s.all isDig
/-- No nought ahead. -/
def plainB (s : T) : Bool := decide (s.length = 1) || decide (s.getD 0 0 ≠ 48)
def val (s : T) : Nat := s.foldl (fun n c => 10 * n + (c.toNat - 48)) 0
def numB (s : T) : Bool := digB s && decide (s.length ≤ 9) && plainB s
def markB (s : T) : Bool := decide (s ≠ []) && decide (s.length ≤ 16) && (!digB s || plainB s) && s.all isSign

theorem take_snoc {α : Type} (d : α) (l : List α) (i : Nat) (h : i < l.length) : l.take (i + 1) = l.take i ++ [l.getD i d] := by
  rw [List.take_succ_eq_append_getElem h, List.getD_eq_getElem?_getD, List.getElem?_eq_getElem h]; rfl
theorem getD_mem {α : Type} (d : α) {l : List α} {i : Nat} (h : i < l.length) : l.getD i d ∈ l := by
  rw [List.getD_eq_getElem?_getD, List.getElem?_eq_getElem h]; exact List.getElem_mem h
theorem all_false {α : Type} (d : α) {l : List α} {p : α → Bool} {i : Nat} (hi : i < l.length) (h : p (l.getD i d) = false) : l.all p = false := by
  rw [List.all_eq_false]
  exact ⟨_, getD_mem d hi, by rw [h]; decide⟩
theorem all_step {α : Type} (d : α) {l : List α} {p : α → Bool} {i : Nat} (hi : i < l.length) (h : (l.take i).all p = true) (hp : p (l.getD i d) = true) : (l.take (i + 1)).all p = true := by
  rw [take_snoc d l i hi, List.all_append, h, List.all_cons, hp]; rfl
theorem val_snoc (l : T) (c : UInt8) : val (l ++ [c]) = 10 * val l + (c.toNat - 48) := by simp [val]
theorem val_lt : ∀ (n : Nat) (l : T), l.length = n → l.all isDig = true → val l < 10 ^ n := by
  intro n
  induction n with
  | zero => intro l h _; rw [List.length_eq_zero_iff.1 h]; decide
  | succ n ih =>
    intro l h ha
    have hne : l ≠ [] := by rintro rfl; simp at h
    rw [← List.dropLast_concat_getLast hne] at ha ⊢
    rw [List.all_append] at ha
    simp only [Bool.and_eq_true, List.all_cons, List.all_nil, Bool.and_true] at ha
    have h1 := ih l.dropLast (by simp; omega) ha.1
    rw [val_snoc]
    have h2 := ha.2
    simp only [isDig, Bool.and_eq_true, decide_eq_true_eq] at h2
    rw [Nat.pow_succ]
    omega
/-- A number without a nought ahead is as great as its length says. -/
theorem val_ge : ∀ (n : Nat) (l : T), l.length = n + 1 → l.all isDig = true → l.getD 0 0 ≠ 48 → 10 ^ n ≤ val l := by
  intro n
  induction n with
  | zero =>
    intro l h ha h0
    match l, h with
    | [c], _ =>
      simp only [List.all_cons, List.all_nil, Bool.and_true, isDig, Bool.and_eq_true, decide_eq_true_eq] at ha
      have : c.toNat ≠ 48 := fun e => h0 (UInt8.toNat_inj.1 (by simpa using e))
      simp [val]
      omega
  | succ n ih =>
    intro l h ha h0
    have hne : l ≠ [] := by rintro rfl; simp at h
    have hd : l.dropLast.getD 0 0 = l.getD 0 0 := by
      match l, h with
      | a :: b :: r, _ => rfl
    rw [← List.dropLast_concat_getLast hne] at ha ⊢
    rw [List.all_append, Bool.and_eq_true] at ha
    have h1 := ih l.dropLast (by simp; omega) ha.1 (by rw [hd]; exact h0)
    rw [val_snoc, Nat.pow_succ]
    omega

/-- The reference's reading of a number says the same. -/
theorem num_ref (s : T) : (digB s = true ∧ ¬ (1 < s.length ∧ s.getD 0 0 = 48) ∧ s.length ≤ 10 ∧ val s ≤ 999999999) ↔ numB s = true := by
  unfold numB plainB
  simp only [Bool.and_eq_true, Bool.or_eq_true, decide_eq_true_eq]
  constructor
  · rintro ⟨h1, h2, h3, h4⟩
    have hd := h1
    simp only [digB, Bool.and_eq_true, decide_eq_true_eq] at hd
    have hpos : 0 < s.length := List.length_pos_iff.2 hd.1
    by_cases hl : s.length ≤ 9
    · refine ⟨⟨h1, hl⟩, ?_⟩
      by_cases h : s.length = 1
      · exact .inl h
      · exact .inr fun c => h2 ⟨by omega, c⟩
    · have h10 : s.length = 10 := by omega
      have := val_ge 9 s h10 hd.2 (fun c => h2 ⟨by omega, c⟩)
      omega
  · rintro ⟨⟨h1, h2⟩, h3⟩
    have hd := h1
    simp only [digB, Bool.and_eq_true, decide_eq_true_eq] at hd
    have hv := val_lt s.length s rfl hd.2
    have h9 : 10 ^ s.length ≤ 10 ^ 9 := Nat.pow_le_pow_right (by decide) h2
    have e9 : (10 : Nat) ^ 9 = 1000000000 := by decide
    refine ⟨h1, ?_, by omega, by omega⟩
    rintro ⟨c1, c2⟩
    rcases h3 with h3 | h3
    · omega
    · exact h3 c2

structure Ver where
  a : Int
  b : Int
  c : Int
  pre : List T
instance : Inhabited Ver := ⟨⟨0, 0, 0, []⟩⟩

/-- Out of the numbers' texts, what stands behind the first -, whether there is one. -/
def parseL (l : List T) (pre : T) (has : Bool) : Option Ver :=
  match l with
  | [x, y, z] => if (numB x && numB y && numB z) = true then
      (if has = true then (if (splitB 46 pre).length ≤ 5 ∧ (splitB 46 pre).all markB = true then some ⟨val x, val y, val z, splitB 46 pre⟩ else none)
      else some ⟨val x, val y, val z, []⟩) else none
  | _ => none
theorem parseL_ne {l : List T} {pre : T} {has : Bool} (h : l.length ≠ 3) : parseL l pre has = none := by
  match l, h with
  | [], _ => rfl
  | [_], _ => rfl
  | [_, _], _ => rfl
  | _ :: _ :: _ :: _ :: _, _ => rfl
  | [_, _, _], h => exact absurd rfl h
theorem len3 {l : List T} (h : l.length = 3) : ∃ x y z, l = [x, y, z] := by
  match l, h with
  | [x, y, z], _ => exact ⟨x, y, z, rfl⟩
def parseV (cut : T × T × Bool) : Option Ver := parseL (splitB 46 cut.1) cut.2.1 cut.2.2
/-- The version, the error's number. -/
def verR (o : Option Ver) : Ver × Int := match o with
  | none => (⟨0, 0, 0, []⟩, 60)
  | some v => (v, 0)

/-! The order. -/
def cmpI (a b : Int) : Int := if a < b then -1 else if b < a then 1 else 0
def cmpT (a b : T) : Int := if Op.bytesLess a b = true then -1 else if a = b then 0 else 1
def cmpM (a b : T) : Int :=
  if digB a = true ∧ digB b = true then (if cmpI a.length b.length ≠ 0 then cmpI a.length b.length else cmpT a b)
  else if digB a = true then -1 else if digB b = true then 1 else cmpT a b
def cmpL : List T → List T → Int
  | [], [] => 0
  | [], _ :: _ => -1
  | _ :: _, [] => 1
  | a :: x, b :: y => if cmpM a b ≠ 0 then cmpM a b else cmpL x y
def cmpP (x y : List T) : Int := if x = [] then (if y = [] then 0 else 1) else if y = [] then -1 else cmpL x y
def cmpV (x y : Ver) : Int :=
  if cmpI x.a y.a ≠ 0 then cmpI x.a y.a else if cmpI x.b y.b ≠ 0 then cmpI x.b y.b else if cmpI x.c y.c ≠ 0 then cmpI x.c y.c else cmpP x.pre y.pre

/-! The text. -/
/-- Texts with a byte between. -/
def glueC (c : UInt8) : List T → T
  | [] => []
  | [a] => a
  | a :: b :: r => a ++ c :: glueC c (b :: r)
theorem glueC_snoc (c : UInt8) : ∀ (l : List T) (x : T), glueC c (l ++ [x]) = if l = [] then x else glueC c l ++ [c] ++ x := by
  intro l
  induction l with
  | nil => intro x; rfl
  | cons a r ih =>
    intro x
    cases r with
    | nil => simp [glueC]
    | cons b r =>
      have := ih x
      simp only [List.cons_append, reduceCtorEq, if_false] at this ⊢
      rw [glueC, this, glueC]
      simp
theorem join_glueC (c : UInt8) : ∀ (l : List T), Go.Lib.join l [c] = glueC c l := by
  intro l
  unfold Go.Lib.join
  induction l with
  | nil => rfl
  | cons a r ih =>
    cases r with
    | nil => simp [glueC, List.intercalate]
    | cons b r =>
      rw [glueC, ← ih]
      simp [List.intercalate, List.intersperse]
theorem glueC_len (c : UInt8) (m : Nat) : ∀ (l : List T), (∀ s ∈ l, s.length ≤ m) → (glueC c l).length ≤ l.length * (m + 1)
  | [], _ => by simp [glueC]
  | [a], h => by have := h a (by simp); simp only [glueC, List.length_cons, List.length_nil]; omega
  | a :: b :: r, h => by
    have h1 := h a (by simp)
    have ih := glueC_len c m (b :: r) (fun s hs => h s (by simp only [List.mem_cons] at hs ⊢; exact .inr hs))
    simp only [glueC, List.length_append, List.length_cons] at ih ⊢
    have : (r.length + 1 + 1) * (m + 1) = (r.length + 1) * (m + 1) + (m + 1) := by rw [Nat.succ_mul]
    omega
def decI (n : Int) : T := Go.Lib.decDigits n.toNat
def textV (v : Ver) : T := decI v.a ++ [46] ++ decI v.b ++ [46] ++ decI v.c ++ (if v.pre = [] then [] else 45 :: glueC 46 v.pre)

/-! The next one. -/
def nextV (v : Ver) (part : Int) : Ver :=
  if part = 0 then (if v.a < 999999999 then ⟨v.a + 1, 0, 0, []⟩ else ⟨v.a, v.b, v.c, []⟩)
  else if part = 1 then (if v.b < 999999999 then ⟨v.a, v.b + 1, 0, []⟩ else ⟨v.a, v.b, v.c, []⟩)
  else if v.c < 999999999 then ⟨v.a, v.b, v.c + 1, []⟩ else ⟨v.a, v.b, v.c, []⟩
end Go.Proofs.YtjlkmdmpejpmpaaGreatDoor.Ve

namespace Go.Proofs.YtjlkmdmpejpmpaaGreatDoor.Od
open Go.Proofs.YtjlkmdmpejpmpaaGreatDoor.S Go.Proofs.YtjlkmdmpejpmpaaGreatDoor.Ve
open Go
abbrev ltT (a b : T) : Bool := Op.bytesLess a b
theorem ltT_cons (a b : UInt8) (x y : T) : ltT (a :: x) (b :: y) = true ↔ a.toNat < b.toNat ∨ (a = b ∧ ltT x y = true) := by
  simp only [ltT, Op.bytesLess, Bool.or_eq_true, decide_eq_true_eq, Bool.and_eq_true, beq_iff_eq, UInt8.lt_iff_toNat_lt]
theorem ltT_irr : ∀ a : T, ltT a a = false
  | [] => rfl
  | c :: a => by
    rw [Bool.eq_false_iff]; intro h
    rcases (ltT_cons _ _ _ _).1 h with h | ⟨_, h⟩
    · omega
    · rw [ltT_irr a] at h; cases h
theorem ltT_trans : ∀ a b c : T, ltT a b = true → ltT b c = true → ltT a c = true
  | _, _, [], _, h => by simp [ltT, Op.bytesLess] at h
  | _, [], _ :: _, h, _ => by simp [ltT, Op.bytesLess] at h
  | [], _ :: _, _ :: _, _, _ => rfl
  | a :: x, b :: y, c :: z, h1, h2 => by
    rw [ltT_cons] at h1 h2 ⊢
    rcases h1 with h1 | ⟨rfl, h1⟩
    · rcases h2 with h2 | ⟨rfl, _⟩
      · left; omega
      · left; exact h1
    · rcases h2 with h2 | ⟨rfl, h2⟩
      · left; exact h2
      · right; exact ⟨rfl, ltT_trans x y z h1 h2⟩
theorem ltT_asym {a b : T} (h : ltT a b = true) : ltT b a = false := by
  rw [Bool.eq_false_iff]; intro c
  have := ltT_trans a b a h c
  rw [ltT_irr] at this; cases this
theorem ltT_tri : ∀ a b : T, ltT a b = false → ltT b a = false → a = b
  | [], [], _, _ => rfl
  | [], _ :: _, h, _ => by simp [ltT, Op.bytesLess] at h
  | _ :: _, [], _, h => by simp [ltT, Op.bytesLess] at h
  | a :: x, b :: y, h1, h2 => by
    have e1 := mt (ltT_cons a b x y).2 (by rw [h1]; decide)
    have e2 := mt (ltT_cons b a y x).2 (by rw [h2]; decide)
    have hab : a = b := UInt8.toNat_inj.1 (by omega)
    subst hab
    rw [ltT_tri x y (by rw [Bool.eq_false_iff]; exact fun c => e1 (.inr ⟨rfl, c⟩)) (by rw [Bool.eq_false_iff]; exact fun c => e2 (.inr ⟨rfl, c⟩))]
theorem gts_lt (a b : T) : (!(Op.bytesLess a b || a == b)) = ltT b a := by
  rcases hb : ltT b a with _ | _
  · rcases ha : ltT a b with _ | _
    · have := ltT_tri a b ha hb; subst this; simp
    · have : Op.bytesLess a b = true := ha
      simp [this]
  · have h1 : Op.bytesLess a b = false := ltT_asym hb
    have h2 : (a == b) = false := beq_eq_false_iff_ne.2 fun c => by subst c; rw [ltT_irr] at hb; cases hb
    simp [h1, h2]
theorem take_last {α : Type} (d : α) (l : List α) (a : Nat) (h0 : 0 < a) (h : a ≤ l.length) : l.take a = l.take (a - 1) ++ [l.getD (a - 1) d] := by
  have := take_snoc d l (a - 1) (by omega)
  rwa [show a - 1 + 1 = a from by omega] at this
theorem drop_mem {α : Type} (d : α) {l : List α} {a : Nat} (h0 : 0 < a) (h : a ≤ l.length) {q : α} (hq : q ∈ l.drop (a - 1)) : q = l.getD (a - 1) d ∨ q ∈ l.drop a := by
  rw [List.drop_eq_getElem_cons (by omega)] at hq
  rcases List.mem_cons.1 hq with e | e
  · left; rw [e, List.getD_eq_getElem?_getD, List.getElem?_eq_getElem (by omega)]; rfl
  · right; rwa [show a - 1 + 1 = a from by omega] at e
section
variable {α : Type} (nm : α → T)
def insN (p : α) : List α → List α
  | [] => [p]
  | q :: r => if ltT (nm p) (nm q) = true then p :: q :: r else q :: insN p r
def sortN (l : List α) : List α := l.foldl (fun acc p => insN nm p acc) []
def SrtN (l : List α) : Prop := l.Pairwise fun a b => ltT (nm b) (nm a) = false
theorem insN_mem (p : α) : ∀ (l : List α) (q : α), q ∈ insN nm p l ↔ q = p ∨ q ∈ l
  | [], q => by simp [insN]
  | a :: r, q => by
    rw [insN]
    split
    · simp
    · rw [List.mem_cons, insN_mem p r q, List.mem_cons]
      constructor
      · rintro (h | h | h) <;> simp [h]
      · rintro (h | h | h) <;> simp [h]
theorem insN_len (p : α) : ∀ l : List α, (insN nm p l).length = l.length + 1
  | [] => rfl
  | a :: r => by
    rw [insN]
    split
    · rfl
    · rw [List.length_cons, insN_len p r, List.length_cons]
theorem insN_srt (p : α) : ∀ l : List α, SrtN nm l → SrtN nm (insN nm p l)
  | [], _ => by simp [insN, SrtN]
  | a :: r, h => by
    have h' := List.pairwise_cons.1 h
    rw [insN]
    split
    · rename_i hlt
      refine List.pairwise_cons.2 ⟨fun q hq => ?_, h⟩
      rcases List.mem_cons.1 hq with rfl | hq
      · exact ltT_asym hlt
      · have h1 := h'.1 q hq
        cases hc : ltT (nm q) (nm p) with
        | false => rfl
        | true => rw [ltT_trans _ _ _ hc hlt] at h1; cases h1
    · rename_i hn
      refine List.pairwise_cons.2 ⟨fun q hq => ?_, insN_srt p r h'.2⟩
      rcases (insN_mem nm p r q).1 hq with rfl | hq
      · simpa using hn
      · exact h'.1 q hq
theorem foldN : ∀ (l acc : List α), SrtN nm acc → SrtN nm (l.foldl (fun acc p => insN nm p acc) acc) ∧ (l.foldl (fun acc p => insN nm p acc) acc).length = acc.length + l.length ∧ ∀ q, q ∈ l.foldl (fun acc p => insN nm p acc) acc ↔ q ∈ acc ∨ q ∈ l
  | [], acc, h => by simp [h]
  | p :: r, acc, h => by
    obtain ⟨h1, h2, h3⟩ := foldN r (insN nm p acc) (insN_srt nm p acc h)
    refine ⟨h1, by rw [List.foldl_cons, h2, insN_len, List.length_cons]; omega, fun q => ?_⟩
    rw [List.foldl_cons, h3, insN_mem, List.mem_cons]
    constructor
    · rintro ((h | h) | h) <;> simp [h]
    · rintro (h | h | h) <;> simp [h]
theorem sortN_srt (l : List α) : SrtN nm (sortN nm l) := (foldN nm l [] (by simp [SrtN])).1
theorem sortN_len (l : List α) : (sortN nm l).length = l.length := by have := (foldN nm l [] (by simp [SrtN])).2.1; simpa [sortN] using this
theorem sortN_mem (l : List α) (q : α) : q ∈ sortN nm l ↔ q ∈ l := by have := (foldN nm l [] (by simp [SrtN])).2.2 q; simpa [sortN] using this
theorem sortN_snoc (l : List α) (p : α) : sortN nm (l ++ [p]) = insN nm p (sortN nm l) := by simp [sortN]
theorem insN_end (p : α) : ∀ l : List α, (∀ q ∈ l, ltT (nm p) (nm q) = false) → insN nm p l = l ++ [p]
  | [], _ => rfl
  | a :: r, h => by
    rw [insN, if_neg (by rw [h a (by simp)]; simp), insN_end p r fun q hq => h q (by simp [hq])]; rfl
theorem insN_at (p : α) (b : List α) (hb : ∀ q r, b = q :: r → ltT (nm p) (nm q) = true) : ∀ a : List α, (∀ q ∈ a, ltT (nm p) (nm q) = false) → insN nm p (a ++ b) = a ++ p :: b
  | [], _ => by
    cases b with
    | nil => rfl
    | cons q r => rw [List.nil_append, insN, if_pos (hb q r rfl)]; rfl
  | x :: a, h => by
    rw [List.cons_append, insN, if_neg (by rw [h x (by simp)]; simp), insN_at p b hb a fun q hq => h q (by simp [hq])]; rfl
theorem srtN_last {p q : α} {a : List α} (h : SrtN nm (a ++ [q])) (hq : ltT (nm p) (nm q) = false) : ∀ z ∈ a ++ [q], ltT (nm p) (nm z) = false := by
  intro z hz
  rcases List.mem_append.1 hz with hz | hz
  · have h1 := (List.pairwise_append.1 h).2.2 z hz q (by simp)
    cases hc : ltT (nm p) (nm z) with
    | false => rfl
    | true =>
      rcases ht : ltT (nm z) (nm q) with _ | _
      · have he := ltT_tri _ _ ht h1
        rw [he, hq] at hc; cases hc
      · rw [ltT_trans _ _ _ hc ht] at hq; cases hq
  · rw [List.mem_singleton.1 hz]; exact hq
/-- Where a search from the end stops: what is put in there. -/
theorem insN_stop (d : α) (p : α) (A : List α) (hs : SrtN nm A) (a : Nat) (ha : a ≤ A.length) (h1 : ∀ q ∈ A.drop a, ltT (nm p) (nm q) = true) (h2 : a = 0 ∨ ltT (nm p) (nm (A.getD (a - 1) d)) = false) : insN nm p A = A.take a ++ p :: A.drop a := by
  have h := insN_at nm p (A.drop a) (fun q r e => h1 q (by rw [e]; simp)) (A.take a) ?_
  · rwa [List.take_append_drop] at h
  · rcases Nat.eq_zero_or_pos a with h0 | h0
    · subst h0; intro q hq; simp at hq
    · have h3 := h2.resolve_left (by omega)
      have e := take_last d A a h0 ha
      rw [e]
      refine srtN_last nm (a := A.take (a - 1)) ?_ h3
      rw [← e]
      have hs' : SrtN nm (A.take a ++ A.drop a) := by rw [List.take_append_drop]; exact hs
      exact (List.pairwise_append.1 hs').1
theorem sortN_from : ∀ (l acc : List α), SrtN nm (acc ++ l) → l.foldl (fun acc p => insN nm p acc) acc = acc ++ l
  | [], acc, _ => by simp
  | p :: r, acc, h => by
    rw [List.foldl_cons, insN_end nm p acc fun q hq => (List.pairwise_append.1 h).2.2 q hq p (by simp)]
    have := sortN_from r (acc ++ [p]) (by rw [List.append_assoc]; exact h)
    rw [this, List.append_assoc]; rfl
theorem sortN_same {l : List α} (h : SrtN nm l) : sortN nm l = l := sortN_from nm l [] h
end
theorem insN_map {α β : Type} (nm : β → T) (f : α → β) (p : α) : ∀ l : List α, (insN (fun x => nm (f x)) p l).map f = insN nm (f p) (l.map f)
  | [] => rfl
  | a :: r => by
    rw [insN, List.map_cons, insN]
    split
    · rfl
    · rw [List.map_cons, insN_map nm f p r]
theorem foldN_map {α β : Type} (nm : β → T) (f : α → β) : ∀ (l acc : List α), (l.foldl (fun acc p => insN (fun x => nm (f x)) p acc) acc).map f = (l.map f).foldl (fun acc p => insN nm p acc) (acc.map f)
  | [], _ => rfl
  | p :: r, acc => by rw [List.foldl_cons, foldN_map nm f r, insN_map, List.map_cons, List.foldl_cons]
theorem sortN_map {α β : Type} (nm : β → T) (f : α → β) (l : List α) : (sortN (fun x => nm (f x)) l).map f = sortN nm (l.map f) := foldN_map nm f l []
/-- A list whose part from a up to i is in order. -/
def segN {α : Type} (nm : α → T) (X : List α) (a i : Nat) : List α := X.take a ++ sortN nm ((X.take i).drop a) ++ X.drop i
theorem segN_all {α : Type} (nm : α → T) (X : List α) : segN nm X 0 X.length = sortN nm X := by simp [segN]
theorem segN_same {α : Type} (nm : α → T) (X : List α) (a i : Nat) (ha : a ≤ i) (h : SrtN nm X) : segN nm X a i = X := by
  have h1 : SrtN nm ((X.take i).drop a) := List.Pairwise.sublist ((List.drop_sublist _ _).trans (List.take_sublist _ _)) h
  rw [segN, sortN_same nm h1]
  have : X.take a = (X.take i).take a := by rw [List.take_take, Nat.min_eq_left ha]
  rw [this, List.take_append_drop, List.take_append_drop]
/-- The pin that is on its way to its place. -/
def wayN {α : Type} (nm : α → T) (d : α) (X : List α) (a i j : Nat) : List α := X.take a ++ (sortN nm ((X.take i).drop a)).take (j - a) ++ X.getD i d :: ((sortN nm ((X.take i).drop a)).drop (j - a) ++ X.drop (i + 1))
theorem cut_take_drop {α : Type} (X : List α) (a i : Nat) (hi : i ≤ X.length) : ((X.take i).drop a).length = i - a := by rw [List.length_drop, List.length_take]; omega
theorem wayN_first {α : Type} (nm : α → T) (d : α) (X : List α) (a i : Nat) (ha : a ≤ i) (hi : i < X.length) : segN nm X a i = wayN nm d X a i i := by
  have hl := sortN_len nm ((X.take i).drop a)
  rw [cut_take_drop X a i (by omega)] at hl
  rw [segN, wayN, List.take_of_length_le (l := sortN nm _) (by omega), List.drop_of_length_le (l := sortN nm _) (by omega), List.nil_append]
  congr 1
  rw [List.drop_eq_getElem_cons hi, List.getD_eq_getElem?_getD, List.getElem?_eq_getElem hi]; rfl
theorem wayN_last {α : Type} (nm : α → T) (d : α) (X : List α) (a i j : Nat) (ha : a ≤ j) (hj : j ≤ i) (hi : i < X.length) (h1 : ∀ q ∈ (sortN nm ((X.take i).drop a)).drop (j - a), ltT (nm (X.getD i d)) (nm q) = true) (h2 : j = a ∨ ltT (nm (X.getD i d)) (nm ((sortN nm ((X.take i).drop a)).getD (j - a - 1) d)) = false) : wayN nm d X a i j = segN nm X a (i + 1) := by
  have hl := sortN_len nm ((X.take i).drop a)
  rw [cut_take_drop X a i (by omega)] at hl
  have hs := insN_stop nm d (X.getD i d) _ (sortN_srt nm ((X.take i).drop a)) (j - a) (by omega) h1 (h2.imp (fun c => by omega) id)
  have hx : (X.take (i + 1)).drop a = (X.take i).drop a ++ [X.getD i d] := by
    rw [take_snoc d X i hi, List.drop_append_of_le_length (by rw [List.length_take]; omega)]
  rw [segN, hx, sortN_snoc, hs, wayN]
  simp only [List.append_assoc, List.cons_append]
theorem wayN_len {α : Type} (nm : α → T) (d : α) (X : List α) (a i j : Nat) (ha : a ≤ j) (hj : j ≤ i) (hi : i < X.length) : (wayN nm d X a i j).length = X.length := by
  have hl := sortN_len nm ((X.take i).drop a)
  rw [cut_take_drop X a i (by omega)] at hl
  simp only [wayN, List.length_append, List.length_cons, List.length_take, List.length_drop, hl]; omega
theorem wayN_at {α : Type} (nm : α → T) (d : α) (X : List α) (a i j : Nat) (ha : a ≤ j) (hj : j ≤ i) (hi : i < X.length) : (wayN nm d X a i j).getD j d = X.getD i d := by
  have hl := sortN_len nm ((X.take i).drop a)
  rw [cut_take_drop X a i (by omega)] at hl
  have hp : (X.take a ++ (sortN nm ((X.take i).drop a)).take (j - a)).length = j := by rw [List.length_append, List.length_take, List.length_take, hl]; omega
  rw [wayN, List.getD_eq_getElem?_getD, List.getElem?_append_right (by omega), hp, Nat.sub_self]; rfl
theorem wayN_prev {α : Type} (nm : α → T) (d : α) (X : List α) (a i j : Nat) (ha : a < j) (hj : j ≤ i) (hi : i < X.length) : (wayN nm d X a i j).getD (j - 1) d = (sortN nm ((X.take i).drop a)).getD (j - a - 1) d := by
  have hl := sortN_len nm ((X.take i).drop a)
  rw [cut_take_drop X a i (by omega)] at hl
  have hp : (X.take a).length = a := by rw [List.length_take]; omega
  have hq : ((sortN nm ((X.take i).drop a)).take (j - a)).length = j - a := by rw [List.length_take, hl]; omega
  rw [wayN, List.getD_eq_getElem?_getD, List.getElem?_append_left (by rw [List.length_append]; omega), List.getElem?_append_right (by omega), hp, List.getElem?_take, if_pos (by omega), show j - 1 - a = j - a - 1 from by omega, List.getD_eq_getElem?_getD]
theorem wayN_swap {α : Type} (nm : α → T) (d : α) (X : List α) (a i j : Nat) (ha : a < j) (hj : j ≤ i) (hi : i < X.length) : ((wayN nm d X a i j).set j ((wayN nm d X a i j).getD (j - 1) d)).set (j - 1) ((wayN nm d X a i j).getD j d) = wayN nm d X a i (j - 1) := by
  have hl := sortN_len nm ((X.take i).drop a)
  rw [cut_take_drop X a i (by omega)] at hl
  rw [wayN_at nm d X a i j (by omega) hj hi, wayN_prev nm d X a i j ha hj hi]
  generalize hS : sortN nm ((X.take i).drop a) = Sg at *
  have hp : (X.take a).length = a := by rw [List.length_take]; omega
  have ht : Sg.take (j - a) = Sg.take (j - a - 1) ++ [Sg.getD (j - a - 1) d] := take_last d Sg (j - a) (by omega) (by omega)
  have hd : Sg.drop (j - a - 1) = Sg.getD (j - a - 1) d :: Sg.drop (j - a) := by
    rw [List.drop_eq_getElem_cons (by omega), List.getD_eq_getElem?_getD, List.getElem?_eq_getElem (by omega), show j - a - 1 + 1 = j - a from by omega]; rfl
  rw [wayN, wayN, hS, ht, show j - 1 - a = j - a - 1 from by omega, hd]
  generalize hs : Sg.getD (j - a - 1) d = s at *
  generalize hx : X.getD i d = x at *
  have hA : (X.take a ++ Sg.take (j - a - 1)).length = j - 1 := by rw [List.length_append, hp, List.length_take]; omega
  have e1 : X.take a ++ (Sg.take (j - a - 1) ++ [s]) ++ x :: (Sg.drop (j - a) ++ X.drop (i + 1)) = (X.take a ++ Sg.take (j - a - 1)) ++ s :: x :: (Sg.drop (j - a) ++ X.drop (i + 1)) := by simp
  rw [e1]
  generalize X.take a ++ Sg.take (j - a - 1) = A at *
  generalize X.drop (i + 1) = D at *
  rw [List.set_append_right _ _ (by omega), hA, show j - (j - 1) = 1 from by omega, List.set_cons_succ, List.set_cons_zero, List.set_append_right _ _ (by omega), hA, Nat.sub_self, List.set_cons_zero]
  rfl
theorem wayN_mem {α : Type} (nm : α → T) (d : α) (X : List α) (a i j : Nat) (hi : i < X.length) (q : α) (h : q ∈ wayN nm d X a i j) : q ∈ X := by
  rw [wayN, List.mem_append, List.mem_append, List.mem_cons, List.mem_append] at h
  rcases h with (h | h) | h | h | h
  · exact List.mem_of_mem_take h
  · exact List.mem_of_mem_take (List.mem_of_mem_drop ((sortN_mem nm _ q).1 (List.mem_of_mem_take h)))
  · rw [h]; exact getD_mem d hi
  · exact List.mem_of_mem_take (List.mem_of_mem_drop ((sortN_mem nm _ q).1 (List.mem_of_mem_drop h)))
  · exact List.mem_of_mem_drop h
theorem cmpT_lt (a b : T) : decide (cmpT a b < 0) = ltT a b := by
  show decide ((if ltT a b = true then (-1 : Int) else if a = b then 0 else 1) < 0) = ltT a b
  cases h : ltT a b
  · rw [if_neg (by simp)]; split <;> rfl
  · rw [if_pos rfl]; rfl
end Go.Proofs.YtjlkmdmpejpmpaaGreatDoor.Od

namespace Go.Proofs.YtjlkmdmpejpmpaaGreatDoor.H
open Go.RowKit

/-- A frame: how many slots there are, the deferred calls, and what is known of some slots (the first entry of a slot counts). -/
structure Fr where
  n : Nat
  ds : List Deferred
  e : List (Nat × Value)

def look : List (Nat × Value) → Nat → Option Value
  | [], _ => none
  | (k, v) :: r, t => match Nat.beq k t with
    | true => some v
    | false => look r t

def Fr.ev (f : Fr) : Operand → Option Value
  | .tmp t => look f.e t
  | .const v => some v
  | .global g => some (.pointer (some ⟨g, 0, none⟩))
  | .func k => some (.func (.func k) #[] #[])

def Fr.put (f : Fr) (d : Nat) (v : Value) : Fr := ⟨f.n, f.ds, (d, v) :: f.e⟩

structure Ag (f : Fr) (a : Act) : Prop where
  size : a.tmps.size = f.n
  defers : a.defers = f.ds
  slot : ∀ t v, look f.e t = some v → a.tmps.getD t undef = v

theorem Ag.eval {f : Fr} {a : Act} (h : Ag f a) {x : Operand} {v : Value} (hx : f.ev x = some v) : a.eval x = v := by
  cases x with
  | tmp t => exact h.slot t v hx
  | const u => simpa [Fr.ev, Act.eval] using hx
  | global g => simpa [Fr.ev, Act.eval] using hx
  | func k => simpa [Fr.ev, Act.eval] using hx

theorem blt_lt {a b : Nat} (h : Nat.blt a b = true) : a < b := by simpa [Nat.blt_eq] using h
theorem ble_le {a b : Nat} (h : Nat.ble a b = true) : a ≤ b := by simpa [Nat.ble_eq] using h

theorem beq_ne {k t : Nat} (h : k ≠ t) : Nat.beq k t = false := by
  cases hb : Nat.beq k t with
  | false => rfl
  | true => exact absurd (Nat.eq_of_beq_eq_true hb) h

theorem beq_self (k : Nat) : Nat.beq k k = true := Nat.beq_refl k

theorem Ag.put {f : Fr} {a : Act} (h : Ag f a) {d : Nat} (v : Value) (hd : Nat.blt d f.n = true) : Ag (f.put d v) (a.put (some d) v) := by
  have hlt : d < a.tmps.size := by rw [h.size]; exact blt_lt hd
  refine ⟨by simp [Act.put, Fr.put, h.size], h.defers, fun t u hu => ?_⟩
  simp only [Fr.put, look] at hu
  by_cases hk : d = t
  · subst hk
    rw [beq_self] at hu
    cases hu
    simp [Act.put, hlt]
  · rw [beq_ne hk] at hu
    have := h.slot t u hu
    simp only [Act.put, Array.getD_eq_getD_getElem?] at this ⊢
    rw [Array.getElem?_setIfInBounds_ne hk]
    exact this

/-- Fewer slots are known. -/
def keep (l : List Nat) (e : List (Nat × Value)) : List (Nat × Value) :=
  match l with
  | [] => []
  | t :: r => match look e t with
    | some v => (t, v) :: keep r e
    | none => keep r e

theorem look_keep (l : List Nat) (e : List (Nat × Value)) (t : Nat) (v : Value) (h : look (keep l e) t = some v) : look e t = some v := by
  induction l with
  | nil => simp [keep, look] at h
  | cons k r ih =>
    simp only [keep] at h
    cases hk : look e k with
    | none => rw [hk] at h; exact ih h
    | some u =>
      rw [hk] at h
      simp only [look] at h
      by_cases hkt : k = t
      · subst hkt; rw [beq_self] at h; simp only at h; rw [hk]; exact h
      · rw [beq_ne hkt] at h; exact ih h

theorem Ag.weaken {f : Fr} {a : Act} (h : Ag f a) {e' : List (Nat × Value)} (hs : ∀ t v, look e' t = some v → look f.e t = some v) : Ag ⟨f.n, f.ds, e'⟩ a :=
  ⟨h.size, h.defers, fun t v hv => h.slot t v (hs t v hv)⟩

abbrev Post := Exit → Fr → World → Prop

def lift (Q : Post) : Exit → Act → World → Prop := fun x a w => ∃ f, Ag f a ∧ Q x f w

/-- Where a code runs: none: on its own, by the plain rules; some r: by the rules of a fence (some none: on its own, too; some (some l): in a round of the range over a function that l records). -/
abbrev Rd1 (r : Option Nat) : Fence := { Fence.wide with round := r }
def cwp (M : Option (Option Nat)) (P : Program) (c : Code) (Q : Exit → Act → World → Prop) (a : Act) (w : World) : Prop := match M with
  | none => c.wp P Q a w
  | some r => c.wpIn (Rd1 r) 0 P Q a w
def lwp (M : Option (Option Nat)) (P : Program) (ops : Array Oper) (Q : Exit → Act → World → Prop) (l : List Oper) (a : Act) (w : World) : Prop := match M with
  | none => wpList P ops Q l a w
  | some r => wpListIn (Rd1 r) 0 P ops Q l a w
def owp (M : Option (Option Nat)) (P : Program) (o : Oper) (a : Act) (w : World) (K : Act → World → Prop) (Q : Exit → Act → World → Prop) : Prop := match M with
  | none => o.wp P a w K Q
  | some r => o.wpIn (Rd1 r) 0 P a w K Q

section base
variable {M : Option (Option Nat)} {P : Program} {Q Q' : Exit → Act → World → Prop} {a : Act} {w w' : World} {K : Act → World → Prop} {o : Oper} {ops : Array Oper} {rest : List Oper}
theorem cwp_mono {c : Code} (h : cwp M P c Q a w) (hq : ∀ x a w, Q x a w → Q' x a w) : cwp M P c Q' a w := by
  cases M with
  | none => exact wp_mono h hq
  | some r => exact Go.wpIn_mono h hq
theorem cwp_seq {x y : Code} (h : cwp M P x (Exit.then (cwp M P y Q) Q) a w) : cwp M P (.seq x y) Q a w := by
  cases M with
  | none => exact wp_seq h
  | some r => exact wpIn_seq h
theorem cwp_skip (h : Q .normal a w) : cwp M P .skip Q a w := by
  cases M with
  | none => exact wp_skip h
  | some r => exact wpIn_skip h
theorem cwp_ret (h : Q .ret a w) : cwp M P .ret Q a w := by
  cases M with
  | none => exact wp_ret h
  | some r => exact wpIn_ret h
theorem cwp_exit {k : Nat} (h : Q (.exit k) a w) : cwp M P (.exit k) Q a w := by
  cases M with
  | none => exact wp_exit h
  | some r => exact wpIn_exit h
theorem cwp_cond {c : Operand} {x y : Code} {t : Bool} (hc : a.eval c = .bool t) (h : cwp M P (if t then x else y) Q a w) : cwp M P (.cond c x y) Q a w := by
  cases M with
  | none => exact wp_cond hc h
  | some r => exact wpIn_cond hc h
theorem cwp_block {k : Nat} {c : Code} (h : cwp M P c (Exit.inBlock k Q) a w) : cwp M P (.block k c) Q a w := by
  cases M with
  | none => exact wp_block h
  | some r => exact wpIn_block h
theorem cwp_region {id : Nat} {l : List Oper} (h : lwp M P l.toArray Q l a w) : cwp M P (.region id l.toArray false) Q a w := by
  cases M with
  | none => exact wp_region_lit h
  | some r => exact wpIn_region_lit h
theorem lwp_nil (h : Q .normal a w) : lwp M P ops Q [] a w := by
  cases M with
  | none => exact h
  | some r => exact h
theorem lwp_plain (hg : o.guard = none) (h : ∀ K : Act → World → Prop, (∀ a w, lwp M P ops Q rest a w → K a w) → owp M P o a w K Q) : lwp M P ops Q (o :: rest) a w := by
  cases M with
  | none => exact wpList_plain hg h
  | some r => exact wpListIn_plain hg h
theorem not_defer {ρ : Operand → Value} {x : Next} (h : (execOp ρ o).run P w = .ok x w') (hx : ∀ d, x ≠ .defer d) : ∀ c, o.op ≠ .defer c := by
  intro c hc
  simp only [execOp, hc, Sem.run_bind] at h
  cases hr : (resolve ρ c o.type).run P w with
  | ok d w1 => rw [hr] at h; simp [Result.andThen] at h; exact hx _ h.1.symm
  | halt r w1 => rw [hr] at h; simp [Result.andThen] at h
theorem owp_val {v : Value} (hr : (execOp a.eval o).run P w = .ok (.value v) w') (k : K (a.put o.dst v) w') : owp M P o a w K Q := by
  cases M with
  | none => show o.wp P a w K Q; unfold Oper.wp; rw [hr]; exact k
  | some r =>
    refine ⟨fun _ _ => trivial, ?_⟩
    rw [show (Rd1 r).round = r from rfl, Oper.semAt_eq r _ _ (not_defer hr (fun _ c => by cases c)), hr]; exact k
theorem owp_skip (hr : (execOp a.eval o).run P w = .ok .skip w') (k : K (a.put o.dst undef) w') : owp M P o a w K Q := by
  cases M with
  | none => show o.wp P a w K Q; unfold Oper.wp; rw [hr]; exact k
  | some r =>
    refine ⟨fun _ _ => trivial, ?_⟩
    rw [show (Rd1 r).round = r from rfl, Oper.semAt_eq r _ _ (not_defer hr (fun _ c => by cases c)), hr]; exact k
theorem owp_enter {k : FuncId} {args : Array Value} (hr : (execOp a.eval o).run P w = .ok (.enter k args) w) {R : Ending → World → Prop} (h : Calls P k args w R)
    (hq : ∀ e w', R e w' → match e with
      | .returned v => K (a.put o.dst v) w'
      | .panicked chain => Q (.panic chain) a w'
      | .outgrown => False) : owp M P o a w K Q := by
  cases M with
  | none =>
    show o.wp P a w K Q
    unfold Oper.wp
    rw [hr, Oper.upon_enter]
    refine h.mono fun e w' hR => ?_
    have q := hq e w' hR
    cases e with
    | returned v => exact q
    | panicked ch => exact q
    | outgrown => exact q.elim
  | some r =>
    refine ⟨fun _ _ => trivial, ?_⟩
    rw [show (Rd1 r).round = r from rfl, Oper.semAt_eq r _ _ (not_defer hr (fun _ c => by cases c)), hr, Oper.uponIn_enter]
    refine ⟨fun c => by simp [Fence.wide] at c, (show CallsIn (Rd1 r) (0 - 1) P k args w _ from callsIn_wide.2 h).mono fun e w' hR => ?_⟩
    have q := hq e w' hR
    cases e with
    | returned v => exact q
    | panicked ch => exact q
    | outgrown => exact q.elim
theorem exists_min {p : Nat → Prop} : ∀ n, p n → ∃ n, p n ∧ ∀ m, p m → n ≤ m := by
  intro n
  induction n using Nat.strongRecOn with
  | _ n ih =>
    intro h
    by_cases hm : ∃ m, m < n ∧ p m
    · obtain ⟨m, h1, h2⟩ := hm; exact ih m h1 h2
    · exact ⟨n, h, fun m hp => Nat.le_of_not_lt fun c => hm ⟨m, c, hp⟩⟩
theorem cwp_loop {c : Code} (I : Nat → Act → World → Prop) (m : Nat) (h0 : I m a w)
    (round : ∀ m a w, I m a w → cwp M P c (Exit.then (fun a' w' => ∃ m', m' < m ∧ I m' a' w') Q) a w) : cwp M P (.loop c) Q a w := by
  classical
  have hμ : ∃ μ : Act → World → Nat, ∀ a w m, I m a w → I (μ a w) a w ∧ μ a w ≤ m := by
    refine ⟨fun a w => if h : ∃ m, I m a w then Classical.choose (exists_min (p := fun m => I m a w) _ (Classical.choose_spec h)) else 0, fun a w m hm => ?_⟩
    have h : ∃ m, I m a w := ⟨m, hm⟩
    simp only [dif_pos h]
    have := Classical.choose_spec (exists_min (p := fun m => I m a w) _ (Classical.choose_spec h))
    exact ⟨this.1, this.2 m hm⟩
  obtain ⟨μ, hμ⟩ := hμ
  have step : ∀ a w, (∃ m, I m a w) → cwp M P c (Exit.then (fun a' w' => (∃ m, I m a' w') ∧ μ a' w' < μ a w) Q) a w := by
    intro a w ⟨m, hm⟩
    refine cwp_mono (round _ a w (hμ a w m hm).1) fun x a' w' q => ?_
    cases x with
    | normal =>
      obtain ⟨m', h1, h2⟩ := q
      exact ⟨⟨m', h2⟩, Nat.lt_of_le_of_lt (hμ a' w' m' h2).2 h1⟩
    | _ => exact q
  cases M with
  | none => exact wp_loop (fun a w => ∃ m, I m a w) μ ⟨m, h0⟩ step
  | some r => exact wpIn_loop (fun a w => ∃ m, I m a w) μ ⟨m, h0⟩ step
end base

/-- The code c, begun in a frame of which f is known. -/
def CW (M : Option (Option Nat)) (P : Program) (Q : Post) (c : Code) (f : Fr) (w : World) : Prop := ∀ a, Ag f a → cwp M P c (lift Q) a w

def thenK (K : Fr → World → Prop) (Q : Post) : Post
  | .normal, f, w => K f w
  | x, f, w => Q x f w

/-- A list of codes, one behind the other. -/
def CL (M : Option (Option Nat)) (P : Program) (Q : Post) : List Code → Fr → World → Prop
  | [], f, w => Q .normal f w
  | c :: cs, f, w => CW M P (thenK (CL M P Q cs) Q) c f w

theorem CW.mono {M : Option (Option Nat)} {P : Program} {Q Q' : Post} {c : Code} {f : Fr} {w : World} (h : CW M P Q c f w) (hq : ∀ x f w, Q x f w → Q' x f w) : CW M P Q' c f w :=
  fun a ha => cwp_mono (h a ha) fun _ _ _ ⟨g, hg, q⟩ => ⟨g, hg, hq _ _ _ q⟩

theorem CL.one {M : Option (Option Nat)} {P : Program} {Q : Post} {c : Code} {f : Fr} {w : World} (h : CL M P Q [c] f w) : CW M P Q c f w :=
  CW.mono h fun x _ _ q => by cases x <;> exact q

theorem CL.seq {M : Option (Option Nat)} {P : Program} {Q : Post} {x y : Code} {cs : List Code} {f : Fr} {w : World} (h : CL M P Q (x :: y :: cs) f w) : CL M P Q (.seq x y :: cs) f w := by
  intro a ha
  refine cwp_seq (cwp_mono (h a ha) fun e a' w' q => ?_)
  obtain ⟨f', hf', q⟩ := q
  cases e
  · exact q a' hf'
  all_goals exact ⟨f', hf', q⟩

theorem CL.skip {M : Option (Option Nat)} {P : Program} {Q : Post} {cs : List Code} {f : Fr} {w : World} (h : CL M P Q cs f w) : CL M P Q (.skip :: cs) f w :=
  fun _ ha => cwp_skip ⟨f, ha, h⟩

theorem CL.ret {M : Option (Option Nat)} {P : Program} {Q : Post} {cs : List Code} {f : Fr} {w : World} (h : Q .ret f w) : CL M P Q (.ret :: cs) f w :=
  fun _ ha => cwp_ret ⟨f, ha, h⟩

theorem CL.exit {M : Option (Option Nat)} {P : Program} {Q : Post} {cs : List Code} {k : Nat} {f : Fr} {w : World} (h : Q (.exit k) f w) : CL M P Q (.exit k :: cs) f w :=
  fun _ ha => cwp_exit ⟨f, ha, h⟩

theorem CL.cond {M : Option (Option Nat)} {P : Program} {Q : Post} {cs : List Code} {c : Operand} {x y : Code} {f : Fr} {w : World} {b : Bool} (hc : f.ev c = some (.bool b))
    (ht : b = true → CL M P Q (x :: cs) f w) (hf : b = false → CL M P Q (y :: cs) f w) : CL M P Q (.cond c x y :: cs) f w := by
  intro a ha
  cases b
  · exact cwp_cond (ha.eval hc) (hf rfl a ha)
  · exact cwp_cond (ha.eval hc) (ht rfl a ha)

theorem CL.condP {M : Option (Option Nat)} {P : Program} {Q : Post} {cs : List Code} {c : Operand} {x y : Code} {f : Fr} {w : World} {p : Prop} {_ : Decidable p} (hc : f.ev c = some (.bool (decide p)))
    (ht : p → CL M P Q (x :: cs) f w) (hf : ¬ p → CL M P Q (y :: cs) f w) : CL M P Q (.cond c x y :: cs) f w :=
  CL.cond hc (fun h => ht (of_decide_eq_true h)) (fun h => hf (of_decide_eq_false h))

theorem CL.condT {M : Option (Option Nat)} {P : Program} {Q : Post} {cs : List Code} {c : Operand} {x y : Code} {f : Fr} {w : World} (hc : f.ev c = some (.bool true))
    (ht : CL M P Q (x :: cs) f w) : CL M P Q (.cond c x y :: cs) f w := CL.cond hc (fun _ => ht) (fun h => by cases h)
theorem CL.condF {M : Option (Option Nat)} {P : Program} {Q : Post} {cs : List Code} {c : Operand} {x y : Code} {f : Fr} {w : World} (hc : f.ev c = some (.bool false))
    (hf : CL M P Q (y :: cs) f w) : CL M P Q (.cond c x y :: cs) f w := CL.cond hc (fun h => by cases h) (fun _ => hf)

/-- The exits of a block. -/
def blockQ (k : Nat) (K : Fr → World → Prop) (Q : Post) : Post
  | .normal, f, w => K f w
  | .exit j, f, w => match Nat.beq j k with
    | true => K f w
    | false => Q (.exit j) f w
  | x, f, w => Q x f w

theorem CL.block {M : Option (Option Nat)} {P : Program} {Q : Post} {cs : List Code} {k : Nat} {c : Code} {f : Fr} {w : World} (h : CL M P (blockQ k (CL M P Q cs) Q) [c] f w) : CL M P Q (.block k c :: cs) f w := by
  intro a ha
  refine cwp_block (cwp_mono (CL.one h a ha) fun e a' w' q => ?_)
  obtain ⟨f', hf', q⟩ := q
  cases e with
  | exit j =>
    simp only [blockQ] at q
    simp only [Exit.inBlock]
    by_cases hjk : j = k
    · subst hjk; rw [beq_self] at q; rw [if_pos rfl]; exact ⟨f', hf', q⟩
    · rw [beq_ne hjk] at q; rw [if_neg hjk]; exact ⟨f', hf', q⟩
  | _ => exact ⟨f', hf', q⟩

/-- A loop: what holds at each round's head, of a frame and a world; what each round lowers. -/
theorem CL.loop {M : Option (Option Nat)} {P : Program} {Q : Post} {cs : List Code} {c : Code} {f : Fr} {w : World} (I : Nat → Fr → World → Prop) (m : Nat) (h0 : I m f w)
    (round : ∀ m f w, I m f w → CL M P (thenK (fun f' w' => ∃ m', m' < m ∧ I m' f' w') Q) [c] f w) : CL M P Q (.loop c :: cs) f w := by
  intro a ha
  refine cwp_loop (fun m a w => ∃ f, Ag f a ∧ I m f w) m ⟨f, ha, h0⟩ fun m a w ⟨f, hf, hI⟩ => ?_
  refine cwp_mono (CL.one (round m f w hI) a hf) fun x a' w' q => ?_
  obtain ⟨f', hf', q⟩ := q
  cases x with
  | normal => obtain ⟨m', h1, h2⟩ := q; exact ⟨m', h1, f', hf', h2⟩
  | _ => exact ⟨f', hf', q⟩

/-- What holds behind a piece of code; then what follows. -/
theorem CL.cut {M : Option (Option Nat)} {P : Program} {Q : Post} {cs : List Code} {c : Code} {f : Fr} {w : World} (K : Fr → World → Prop) (h : CL M P (thenK K Q) [c] f w) (hk : ∀ f w, K f w → CL M P Q cs f w) : CL M P Q (c :: cs) f w :=
  CW.mono (CL.one h) fun x f w q => by cases x <;> first | exact hk f w q | exact q

/-- The end of a body. -/
def FQ (P : Program) (fn : Func) (R : Ending → World → Prop) : Post
  | .normal, f, w | .ret, f, w => f.ds = [] ∧ ∃ v, (∀ a, Ag f a → (results fn a.tmps).run P w = .ok v w) ∧ R (.returned v) w
  | .panic chain, f, w => f.ds = [] ∧ R (.panicked chain) w
  | _, _, _ => False

def args : Nat → List Value → List (Nat × Value)
  | _, [] => []
  | k, v :: r => (k, v) :: args (k + 1) r

theorem look_args (l : List Value) : ∀ k t v, look (args k l) t = some v → k ≤ t ∧ l[t - k]? = some v := by
  induction l with
  | nil => intro k t v h; simp [args, look] at h
  | cons u r ih =>
    intro k t v h
    simp only [args, look] at h
    by_cases hkt : k = t
    · subst hkt; rw [beq_self] at h; cases h; simp
    · rw [beq_ne hkt] at h
      obtain ⟨h1, h2⟩ := ih _ _ _ h
      have : t - k = (t - (k + 1)) + 1 := by omega
      exact ⟨by omega, by rw [this]; simpa using h2⟩

theorem enter {P : Program} {k n : Nat} {fn : Func} {c : Code} {l : List Value} {w : World} {R : Ending → World → Prop} (hf : P.funcs[k]? = some fn) (hn : fn.ntmps = n) (hb : fn.body = some c)
    (hl : Nat.ble l.length n = true) (h : CL none P (FQ P fn R) [c] ⟨n, [], args 0 l⟩ w) : Calls P k l.toArray w R := by
  refine calls_of_wp hf hb (wp_mono (CL.one h _ ⟨?_, rfl, ?_⟩) fun e a w q => ?_)
  · have := ble_le hl
    simp [hn]; omega
  · intro t v hv
    obtain ⟨_, h2⟩ := look_args l 0 t v hv
    rw [Nat.sub_zero] at h2
    have hlt : t < l.length := (List.getElem?_eq_some_iff.1 h2).1
    simp only [Array.getD_eq_getD_getElem?]
    rw [Array.getElem?_append_left (by simpa using hlt)]
    simp [h2]
  · obtain ⟨f, hf', q⟩ := q
    cases e with
    | normal => obtain ⟨hd, v, hv, hR⟩ := q; exact ⟨hf'.defers.trans hd, v, hv a hf', hR⟩
    | ret => obtain ⟨hd, v, hv, hR⟩ := q; exact ⟨hf'.defers.trans hd, v, hv a hf', hR⟩
    | panic ch => exact ⟨hf'.defers.trans q.1, q.2⟩
    | exit k => exact q.elim
    | goto l => exact q.elim
    | outgrown => exact q.elim

/-- The operations of a region that are left. -/
def RW (M : Option (Option Nat)) (P : Program) (ops : Array Oper) (Q : Post) (l : List Oper) (f : Fr) (w : World) : Prop := ∀ a, Ag f a → lwp M P ops (lift Q) l a w

theorem CL.region {M : Option (Option Nat)} {P : Program} {Q : Post} {cs : List Code} {id : Nat} {l : List Oper} {f : Fr} {w : World} (h : RW M P l.toArray (thenK (CL M P Q cs) Q) l f w) : CL M P Q (.region id l.toArray false :: cs) f w :=
  fun a ha => cwp_region (h a ha)

theorem RW.nil {M : Option (Option Nat)} {P : Program} {ops : Array Oper} {Q : Post} {f : Fr} {w : World} (h : Q .normal f w) : RW M P ops Q [] f w := fun _ ha => lwp_nil ⟨f, ha, h⟩

/-- One operation that yields a value. -/
theorem RW.val {M : Option (Option Nat)} {P : Program} {ops : Array Oper} {Q : Post} {o : Oper} {rest : List Oper} {f : Fr} {w w' : World} {d : Nat} {v : Value} (hg : o.guard = none) (hd : o.dst = some d) (hn : Nat.blt d f.n = true)
    (hr : ∀ a, Ag f a → (execOp a.eval o).run P w = .ok (.value v) w') (k : RW M P ops Q rest (f.put d v) w') : RW M P ops Q (o :: rest) f w := by
  intro a ha
  refine lwp_plain hg fun K hK => owp_val (hr a ha) ?_
  rw [hd]
  exact hK _ _ (k _ (ha.put v hn))

/-- What an operation yields, in a frame and a world, that it leaves as it is. -/
def Yd (P : Program) (f : Fr) (o : Oper) (v : Value) (w : World) : Prop := ∀ a, Ag f a → (execOp a.eval o).run P w = .ok (.value v) w

theorem RW.y {M : Option (Option Nat)} {P : Program} {ops : Array Oper} {Q : Post} {rest : List Oper} {f : Fr} {w : World} {v : Value} {d : Nat} {op : Op} {ty : TypeId} {pos : String} {af : Array Edge} (h : Yd P f { dst := some d, op := op, type := ty, pos := pos, after := af, guard := none } v w) (hd : Nat.blt d f.n = true)
    (k : RW M P ops Q rest (f.put d v) w) : RW M P ops Q ({ dst := some d, op := op, type := ty, pos := pos, after := af, guard := none } :: rest) f w := RW.val rfl rfl hd h k

/-- One operation that yields nothing. -/
theorem RW.act {M : Option (Option Nat)} {P : Program} {ops : Array Oper} {Q : Post} {o : Oper} {rest : List Oper} {f : Fr} {w w' : World} (hg : o.guard = none) (hd : o.dst = none)
    (hr : ∀ a, Ag f a → (execOp a.eval o).run P w = .ok .skip w') (k : RW M P ops Q rest f w') : RW M P ops Q (o :: rest) f w := by
  intro a ha
  refine lwp_plain hg fun K hK => owp_skip (hr a ha) ?_
  rw [hd]
  exact hK _ _ (k _ ha)

/-- One that enters a function. -/
theorem RW.call {M : Option (Option Nat)} {P : Program} {ops : Array Oper} {Q : Post} {o : Oper} {rest : List Oper} {f : Fr} {w : World} {k : FuncId} {args : Array Value} (hg : o.guard = none)
    (hn : (match o.dst with | some d => Nat.blt d f.n | none => true) = true) (hr : ∀ a, Ag f a → (execOp a.eval o).run P w = .ok (.enter k args) w)
    {R : Ending → World → Prop} (h : Calls P k args w R)
    (hq : ∀ e w', R e w' → match e with
      | .returned v => RW M P ops Q rest (match o.dst with | some d => f.put d v | none => f) w'
      | .panicked chain => Q (.panic chain) f w'
      | .outgrown => False) : RW M P ops Q (o :: rest) f w := by
  intro a ha
  refine lwp_plain hg fun K hK => owp_enter (hr a ha) h fun e w' hR => ?_
  have q := hq e w' hR
  cases e with
  | returned v =>
    refine hK _ _ ?_
    cases hd : o.dst with
    | none => rw [hd] at q; exact q _ ha
    | some d => rw [hd] at q hn; exact q _ (ha.put v hn)
  | panicked ch => exact ⟨f, ha, q⟩
  | outgrown => exact q.elim

theorem yields {f : Fr} {a : Act} (ha : Ag f a) {ops : Array Oper} {j t : Nat} {b : Bool} (hj : (ops[j]?).bind (·.dst) = some t) (hn : Nat.blt t f.n = true) (hv : look f.e t = some (.bool b)) : yielded ops a.tmps j = some b := by
  have h := ha.slot t _ hv
  have hlt : t < a.tmps.size := by rw [ha.size]; exact blt_lt hn
  have h2 : a.tmps[t]? = some (.bool b) := by
    rw [Array.getD_eq_getD_getElem?] at h
    rw [Array.getElem?_eq_getElem hlt] at h ⊢
    simpa using h
  simp [yielded, hj, h2]

/-- A guarded operation: its guard holds. -/
theorem RW.on {M : Option (Option Nat)} {P : Program} {ops : Array Oper} {Q : Post} {rest : List Oper} {f : Fr} {w : World} {dst : Option Tmp} {op : Op} {ty : TypeId} {pos : String} {af : Array Edge} {j t : Nat} {b : Bool} (hj : (ops[j]?).bind (·.dst) = some t) (hn : Nat.blt t f.n = true)
    (hv : look f.e t = some (.bool b)) (k : RW M P ops Q ({ dst := dst, op := op, type := ty, pos := pos, after := af, guard := none } :: rest) f w) :
    RW M P ops Q ({ dst := dst, op := op, type := ty, pos := pos, after := af, guard := some (j, b) } :: rest) f w := by
  intro a ha
  have h := k a ha
  have hw : Region.wanted ({ dst := dst, op := op, type := ty, pos := pos, after := af, guard := some (j, b) } : Oper) (yielded ops a.tmps) = true := by simp [Region.wanted, yields ha hj hn hv]
  have hw' : Region.wanted ({ dst := dst, op := op, type := ty, pos := pos, after := af, guard := none } : Oper) (yielded ops a.tmps) = true := by simp [Region.wanted]
  cases M with
  | none =>
    unfold lwp wpList at h ⊢
    rw [if_pos hw'] at h
    rw [if_pos hw]
    exact h
  | some r =>
    change wpListIn (Rd1 r) 0 P ops (lift Q) _ a w at h
    change wpListIn (Rd1 r) 0 P ops (lift Q) _ a w
    unfold wpListIn at h ⊢
    rw [if_pos hw'] at h
    rw [if_pos hw]
    exact h

/-- Its guard does not hold. -/
theorem RW.off {M : Option (Option Nat)} {P : Program} {ops : Array Oper} {Q : Post} {rest : List Oper} {f : Fr} {w : World} {dst : Option Tmp} {op : Op} {ty : TypeId} {pos : String} {af : Array Edge} {j t : Nat} {b c : Bool} (hj : (ops[j]?).bind (·.dst) = some t) (hn : Nat.blt t f.n = true)
    (hv : look f.e t = some (.bool c)) (hbc : (!c) = b) (hd : (match dst with | some d => Nat.blt d f.n | none => true) = true)
    (k : RW M P ops Q rest (match dst with | some d => f.put d undef | none => f) w) :
    RW M P ops Q ({ dst := dst, op := op, type := ty, pos := pos, after := af, guard := some (j, b) } :: rest) f w := by
  intro a ha
  have hw : Region.wanted ({ dst := dst, op := op, type := ty, pos := pos, after := af, guard := some (j, b) } : Oper) (yielded ops a.tmps) = false := by
    subst hbc
    cases c <;> simp [Region.wanted, yields ha hj hn hv]
  cases M with
  | none =>
    unfold lwp wpList
    rw [hw]
    simp only [Bool.false_eq_true, if_false]
    cases dst with
    | none => exact k _ ha
    | some d => exact k _ (ha.put undef hd)
  | some r =>
    change wpListIn (Rd1 r) 0 P ops (lift Q) _ a w
    unfold wpListIn
    rw [hw]
    simp only [Bool.false_eq_true, if_false]
    refine ⟨fun _ _ => trivial, ?_⟩
    cases dst with
    | none => exact k _ ha
    | some d => exact k _ (ha.put undef hd)

theorem RW.off1 {M : Option (Option Nat)} {P : Program} {ops : Array Oper} {Q : Post} {rest : List Oper} {f : Fr} {w : World} {d : Nat} {op : Op} {ty : TypeId} {pos : String} {af : Array Edge} {j t : Nat} {b c : Bool} (hj : (ops[j]?).bind (·.dst) = some t) (hn : Nat.blt t f.n = true)
    (hv : look f.e t = some (.bool c)) (hbc : (!c) = b) (hd : Nat.blt d f.n = true) (k : RW M P ops Q rest (f.put d undef) w) :
    RW M P ops Q ({ dst := some d, op := op, type := ty, pos := pos, after := af, guard := some (j, b) } :: rest) f w := RW.off hj hn hv hbc hd k

end Go.Proofs.YtjlkmdmpejpmpaaGreatDoor.H

namespace Go.Proofs.YtjlkmdmpejpmpaaGreatDoor.H
open Go.RowKit

abbrev B (l : List UInt8) : ByteArray := ⟨l.toArray⟩
theorem B_toList (l : List UInt8) : (B l).toList = l := by rw [ByteArray.toList_eq]
theorem B_size (l : List UInt8) : (B l).size = l.length := by simp [ByteArray.size]

/-- What is known of a type. -/
class Und (P : Program) (t : TypeId) (d : outParam TypeDesc) : Prop where out : P.underlying t = some d
class Inf (P : Program) (t : TypeId) (z : outParam Value) (size bytes : outParam Nat) : Prop where out : (P.info? t).map (fun i => (i.zero, i.size, i.bytes)) = some (some z, size, bytes)
class Fld (P : Program) (s : TypeId) (i : Nat) (off ft : outParam Nat) : Prop where out : ∃ fs fd, P.underlying s = some (.struct fs) ∧ fs[i]? = some fd ∧ fd.offset = off ∧ fd.type = ft

section
variable {M : Option (Option Nat)} {P : Program} {ops : Array Oper} {Q : Post} {rest : List Oper} {f : Fr} {w : World} {d : Nat} {ty : TypeId} {pos : String} {af : Array Edge}

abbrev op1 (d : Nat) (op : Op) (ty : TypeId) (pos : String) (af : Array Edge) : Oper := { dst := some d, op := op, type := ty, pos := pos, after := af, guard := none }
abbrev op0 (op : Op) (ty : TypeId) (pos : String) (af : Array Edge) : Oper := { dst := none, op := op, type := ty, pos := pos, after := af, guard := none }

theorem run_sizeOf {t : TypeId} {z : Value} {s b : Nat} [h : Inf P t z s b] (w : World) : (sizeOf t).run P w = .ok s w := by
  have h := h.out
  cases hi : P.info? t with
  | none => simp [hi] at h
  | some i =>
    simp only [hi, Option.map_some, Option.some.injEq, Prod.mk.injEq] at h
    simp [sizeOf, typeInfo, hi, h.2.1]
theorem run_zeroValue {t : TypeId} {z : Value} {s b : Nat} [h : Inf P t z s b] (w : World) : (zeroValue t).run P w = .ok z w := by
  have h := h.out
  cases hi : P.info? t with
  | none => simp [hi] at h
  | some i =>
    simp only [hi, Option.map_some, Option.some.injEq, Prod.mk.injEq] at h
    simp [zeroValue, typeInfo, hi, h.1]

theorem Y.move {x : Operand} {v : Value} (hx : f.ev x = some v) : Yd P f (op1 d (.move x) ty pos af) v w := fun a ha => by simp [execOp, ha.eval hx]

theorem Y.assign {x : Operand} {v : Value} (hx : f.ev x = some v) : Yd P f (op1 d (.assign x) ty pos af) v w := fun a ha => by simp [execOp, ha.eval hx]

theorem Y.pickT {c x y : Operand} {v : Value} (hc : f.ev c = some (.bool true)) (hx : f.ev x = some v) : Yd P f (op1 d (.pick c x y) ty pos af) v w := fun a ha => by simp [execOp, ha.eval hx, ha.eval hc, asBool]

theorem Y.pickF {c x y : Operand} {v : Value} (hc : f.ev c = some (.bool false)) (hy : f.ev y = some v) : Yd P f (op1 d (.pick c x y) ty pos af) v w := fun a ha => by simp [execOp, ha.eval hy, ha.eval hc, asBool]

theorem noGuard (op : BinOp) (t : TypeId) (x y : Operand) (a b : Value) (h : ∀ z, a ≠ .agg z) (h2 : a ≠ .nilIface) : (eqGuard op t x y a b).run P w = .ok () w := by
  unfold eqGuard
  cases a <;> cases b <;> first | exact absurd rfl (h _) | exact absurd rfl h2 | (cases op <;> rfl)

theorem run_bin {op : BinOp} {t yt : TypeId} {x y : Operand} {u v r : Value} {ρ : Operand → Value} (hx : ρ x = u) (hy : ρ y = v) (h : ∀ z, u ≠ .agg z) (h2 : u ≠ .nilIface) (hr : (binOp op t u v).run P w = .ok r w) :
    (execOp ρ (op1 d (.binOp op t x y yt) ty pos af)).run P w = .ok (.value r) w := by
  simp [execOp, hx, hy, noGuard op t x y u v h h2, hr]

theorem Y.bin {op : BinOp} {t yt : TypeId} {x y : Operand} {u v r : Value} (hx : f.ev x = some u) (hy : f.ev y = some v) (h : ∀ z, u ≠ .agg z) (h2 : u ≠ .nilIface) (hr : (binOp op t u v).run P w = .ok r w) : Yd P f (op1 d (.binOp op t x y yt) ty pos af) r w := fun a ha => run_bin (ha.eval hx) (ha.eval hy) h h2 hr

theorem wrap64_id {z : Int} (h1 : -9223372036854775808 ≤ z) (h2 : z ≤ 9223372036854775807) : IntKind.i64.wrap z = z := by
  simp only [IntKind.wrap, IntKind.bits, IntKind.signed]; simp; omega
theorem wrapu8 {z : Int} : IntKind.u8.wrap z = z % 256 := by
  simp only [IntKind.wrap, IntKind.bits, IntKind.signed]; simp
section arith
variable {t yt : TypeId} {x y : Operand} {a b : Int} {k : IntKind}

theorem Y.add (hx : f.ev x = some (.int k a)) (hy : f.ev y = some (.int k b)) : Yd P f (op1 d (.binOp .add t x y yt) ty pos af) (.int k (k.wrap (a + b))) w :=
  Y.bin hx hy (by simp) (by simp) (by simp [binOp, Op.intArith])

theorem Y.sub (hx : f.ev x = some (.int k a)) (hy : f.ev y = some (.int k b)) : Yd P f (op1 d (.binOp .sub t x y yt) ty pos af) (.int k (k.wrap (a - b))) w :=
  Y.bin hx hy (by simp) (by simp) (by simp [binOp, Op.intArith])

theorem Y.mul (hx : f.ev x = some (.int k a)) (hy : f.ev y = some (.int k b)) : Yd P f (op1 d (.binOp .mul t x y yt) ty pos af) (.int k (k.wrap (a * b))) w :=
  Y.bin hx hy (by simp) (by simp) (by simp [binOp, Op.intArith])

theorem Y.add64 (hx : f.ev x = some (.int .i64 a)) (hy : f.ev y = some (.int .i64 b)) (h1 : -9223372036854775808 ≤ a + b) (h2 : a + b ≤ 9223372036854775807) : Yd P f (op1 d (.binOp .add t x y yt) ty pos af) (.int .i64 (a + b)) w := by
  have h := Y.add (P := P) (w := w) (d := d) (ty := ty) (pos := pos) (af := af) (t := t) (yt := yt) hx hy
  rw [wrap64_id h1 h2] at h
  exact h

theorem Y.sub64 (hx : f.ev x = some (.int .i64 a)) (hy : f.ev y = some (.int .i64 b)) (h1 : -9223372036854775808 ≤ a - b) (h2 : a - b ≤ 9223372036854775807) : Yd P f (op1 d (.binOp .sub t x y yt) ty pos af) (.int .i64 (a - b)) w := by
  have h := Y.sub (P := P) (w := w) (d := d) (ty := ty) (pos := pos) (af := af) (t := t) (yt := yt) hx hy
  rw [wrap64_id h1 h2] at h
  exact h

theorem Y.mul64 (hx : f.ev x = some (.int .i64 a)) (hy : f.ev y = some (.int .i64 b)) (h1 : -9223372036854775808 ≤ a * b) (h2 : a * b ≤ 9223372036854775807) : Yd P f (op1 d (.binOp .mul t x y yt) ty pos af) (.int .i64 (a * b)) w := by
  have h := Y.mul (P := P) (w := w) (d := d) (ty := ty) (pos := pos) (af := af) (t := t) (yt := yt) hx hy
  rw [wrap64_id h1 h2] at h
  exact h

theorem Y.quo (hx : f.ev x = some (.int k a)) (hy : f.ev y = some (.int k b)) (h0 : b ≠ 0) : Yd P f (op1 d (.binOp .quo t x y yt) ty pos af) (.int k (k.wrap (a.tdiv b))) w :=
  Y.bin hx hy (by simp) (by simp) (by simp [binOp, Op.intDiv, h0])

theorem Y.rem (hx : f.ev x = some (.int k a)) (hy : f.ev y = some (.int k b)) (h0 : b ≠ 0) : Yd P f (op1 d (.binOp .rem t x y yt) ty pos af) (.int k (a.tmod b)) w :=
  Y.bin hx hy (by simp) (by simp) (by simp [binOp, Op.intDiv, h0])

theorem Y.lss (hx : f.ev x = some (.int k a)) (hy : f.ev y = some (.int k b)) : Yd P f (op1 d (.binOp .lss t x y yt) ty pos af) (.bool (decide (a < b))) w :=
  Y.bin hx hy (by simp) (by simp) (by simp [binOp, Op.intCmp])

theorem Y.leq (hx : f.ev x = some (.int k a)) (hy : f.ev y = some (.int k b)) : Yd P f (op1 d (.binOp .leq t x y yt) ty pos af) (.bool (decide (a ≤ b))) w :=
  Y.bin hx hy (by simp) (by simp) (by simp [binOp, Op.intCmp])

theorem Y.gtr (hx : f.ev x = some (.int k a)) (hy : f.ev y = some (.int k b)) : Yd P f (op1 d (.binOp .gtr t x y yt) ty pos af) (.bool (decide (b < a))) w :=
  Y.bin hx hy (by simp) (by simp) (by simp [binOp, Op.intCmp])

theorem Y.geq (hx : f.ev x = some (.int k a)) (hy : f.ev y = some (.int k b)) : Yd P f (op1 d (.binOp .geq t x y yt) ty pos af) (.bool (decide (b ≤ a))) w :=
  Y.bin hx hy (by simp) (by simp) (by simp [binOp, Op.intCmp])

theorem Y.eqi (hx : f.ev x = some (.int k a)) (hy : f.ev y = some (.int k b)) : Yd P f (op1 d (.binOp .eql t x y yt) ty pos af) (.bool (decide (a = b))) w :=
  Y.bin hx hy (by simp) (by simp) (by simp [binOp, Op.intCmp, BEq.beq])

theorem Y.nei (hx : f.ev x = some (.int k a)) (hy : f.ev y = some (.int k b)) : Yd P f (op1 d (.binOp .neq t x y yt) ty pos af) (.bool (decide (a ≠ b))) w :=
  Y.bin hx hy (by simp) (by simp) (by simp [binOp, Op.intCmp, bne, BEq.beq])

theorem Y.conv {s t : TypeId} {k1 : IntKind} [h1 : Und P t (.int k)] (hx : f.ev x = some (.int k1 a)) (hs : (P.underlying s).isSome = true) : Yd P f (op1 d (.convert s t x) ty pos af) (.int k (k.wrap a)) w := by
  intro a' ha
  obtain ⟨u, hu⟩ := Option.isSome_iff_exists.1 hs
  simp [execOp, ha.eval hx, convert, run_underlying h1.out, run_underlying hu, Conv.intToInt]

end arith

section bools
variable {t yt : TypeId} {x y : Operand} {a b : Bool}
theorem Y.not {p : Prop} {_ : Decidable p} (hx : f.ev x = some (.bool (decide p))) : Yd P f (op1 d (.unOp .not t x) ty pos af) (.bool (decide (¬ p))) w := fun a' ha => by simp [execOp, ha.eval hx, Op.unary]

theorem Y.notb (hx : f.ev x = some (.bool a)) : Yd P f (op1 d (.unOp .not t x) ty pos af) (.bool (!a)) w := fun a' ha => by simp [execOp, ha.eval hx, Op.unary]

theorem Y.eqb [ht : Und P t .bool] (hx : f.ev x = some (.bool a)) (hy : f.ev y = some (.bool b)) : Yd P f (op1 d (.binOp .eql t x y yt) ty pos af) (.bool (decide (a = b))) w :=
  Y.bin hx hy (by simp) (by simp) (by rw [run_eql_bool w t a b ht.out]; cases a <;> cases b <;> rfl)

/-- A truth in a slot is parted. -/
theorem RW.split {l : List Oper} {t : Nat} (hv : look f.e t = some (.bool a)) (h1 : a = true → RW M P ops Q l (f.put t (.bool true)) w) (h2 : a = false → RW M P ops Q l (f.put t (.bool false)) w) : RW M P ops Q l f w := by
  have key : ∀ c, a = c → ∀ x, Ag f x → Ag (f.put t (.bool c)) x := by
    intro c hc x hx
    refine ⟨hx.size, hx.defers, fun s v hs => ?_⟩
    simp only [Fr.put, look] at hs
    by_cases hk : t = s
    · subst hk; rw [beq_self] at hs; simp only [Option.some.injEq] at hs; rw [← hs, ← hc]; exact hx.slot t _ hv
    · rw [beq_ne hk] at hs; exact hx.slot s v hs
  intro x hx
  cases a with
  | true => exact h1 rfl x (key _ rfl x hx)
  | false => exact h2 rfl x (key _ rfl x hx)
theorem RW.splitP {l : List Oper} {t : Nat} {p : Prop} {_ : Decidable p} (hv : look f.e t = some (.bool (decide p))) (h1 : p → RW M P ops Q l (f.put t (.bool true)) w) (h2 : ¬ p → RW M P ops Q l (f.put t (.bool false)) w) : RW M P ops Q l f w :=
  RW.split hv (fun h => h1 (of_decide_eq_true h)) (fun h => h2 (of_decide_eq_false h))
end bools

section texts
variable {t yt : TypeId} {x y z : Operand} {a b : List UInt8}
theorem Y.cat (hx : f.ev x = some (.string (B a))) (hy : f.ev y = some (.string (B b))) (hl : a.length + b.length ≤ 9223372036854775807) : Yd P f (op1 d (.binOp .add t x y yt) ty pos af) (.string (B (a ++ b))) w := by
  refine Y.bin hx hy (by simp) (by simp) ?_
  simp only [binOp, Op.stringOp]
  rw [if_neg (by simp only [B_size, IntKind.max, IntKind.signed, IntKind.bits]; simp; omega)]
  have : B a ++ B b = B (a ++ b) := by
    apply ByteArray.ext
    simp [ByteArray.data_append]
  rw [this]
  rfl

theorem Y.eqs (hx : f.ev x = some (.string (B a))) (hy : f.ev y = some (.string (B b))) : Yd P f (op1 d (.binOp .eql t x y yt) ty pos af) (.bool (decide (a = b))) w :=
  Y.bin hx hy (by simp) (by simp) (by simp only [binOp, Op.stringOp, B_toList]; by_cases h : a = b <;> simp [h])

theorem Y.nes (hx : f.ev x = some (.string (B a))) (hy : f.ev y = some (.string (B b))) : Yd P f (op1 d (.binOp .neq t x y yt) ty pos af) (.bool (decide (a ≠ b))) w :=
  Y.bin hx hy (by simp) (by simp) (by simp only [binOp, Op.stringOp, B_toList]; by_cases h : a = b <;> simp [h])

theorem Y.lts (hx : f.ev x = some (.string (B a))) (hy : f.ev y = some (.string (B b))) : Yd P f (op1 d (.binOp .lss t x y yt) ty pos af) (.bool (Op.bytesLess a b)) w :=
  Y.bin hx hy (by simp) (by simp) (by simp only [binOp, Op.stringOp, B_toList]; rfl)

theorem Y.gts (hx : f.ev x = some (.string (B a))) (hy : f.ev y = some (.string (B b))) : Yd P f (op1 d (.binOp .gtr t x y yt) ty pos af) (.bool (!(Op.bytesLess a b || a == b))) w :=
  Y.bin hx hy (by simp) (by simp) (by simp only [binOp, Op.stringOp, B_toList]; rfl)

theorem Y.lens [ht : Und P t .string] (hx : f.ev x = some (.string (B a))) : Yd P f (op1 d (.call { callee := .builtin .len, args := #[x], argTypes := #[t] }) ty pos af) (.int .i64 (a.length : Int)) w := fun a' ha => by simp [execOp, resolve, invoke, builtin, Builtin.len_, ha.eval hx, run_underlying ht.out, goInt, B_size]

theorem Y.lenv {et : TypeId} [ht : Und P t (.slice et)] {p : Option Addr} {n c : Nat} (hx : f.ev x = some (.slice p n c)) : Yd P f (op1 d (.call { callee := .builtin .len, args := #[x], argTypes := #[t] }) ty pos af) (.int .i64 (n : Int)) w := fun a' ha => by simp [execOp, resolve, invoke, builtin, Builtin.len_, ha.eval hx, run_underlying ht.out, goInt]

theorem Y.idxs [ht : Und P t .string] {k : IntKind} {i : Int} (hx : f.ev x = some (.string (B a))) (hy : f.ev y = some (.int k i)) (h0 : 0 ≤ i) (h1 : i < a.length) : Yd P f (op1 d (.index t x y) ty pos af) (.int .u8 ((a.getD i.toNat 0).toNat : Int)) w := by
  intro a' ha
  have hlt : i.toNat < a.length := by omega
  have hs : (B a)[i.toNat]? = some (a.getD i.toNat 0) := by
    have h2 : i.toNat < (B a).size := by rw [B_size]; exact hlt
    rw [getElem?_pos (B a) i.toNat h2]
    simp only [List.getD_eq_getElem?_getD, List.getElem?_eq_getElem hlt, Option.getD_some]
    rfl
  simp [execOp, ha.eval hx, ha.eval hy, Instr.index, asIntOf, run_underlying ht.out, h0, hs]

end texts

section parts
variable {t : TypeId} {x y : Operand}
theorem Y.nilck {p : Addr} (hx : f.ev x = some (.pointer (some p))) : Yd P f (op1 d (.nilCheck x) ty pos af) (.pointer (some p)) w := fun a ha => by simp [execOp, ha.eval hx]

theorem Y.extract {i : Nat} {vs : Array Value} {v : Value} (hx : f.ev x = some (.tuple vs)) (hv : vs[i]? = some v) : Yd P f (op1 d (.extract x i) ty pos af) v w := fun a ha => by simp [execOp, ha.eval hx, Instr.extract, hv]

end parts
end

/-! What operation stands next: each law is the identity; it fits where that operation is next. -/
section
variable {M : Option (Option Nat)} {P : Program} {ops : Array Oper} {Q : Post} {rest : List Oper} {f : Fr} {w : World} {d : Nat} {ty : TypeId} {pos : String} {af : Array Edge}
theorem Gt.move {x : Operand} (h : RW M P ops Q ({ dst := some d, op := .move x, type := ty, pos := pos, after := af, guard := none } :: rest) f w) : RW M P ops Q ({ dst := some d, op := .move x, type := ty, pos := pos, after := af, guard := none } :: rest) f w := h
theorem Gt.assign {x : Operand} (h : RW M P ops Q ({ dst := some d, op := .assign x, type := ty, pos := pos, after := af, guard := none } :: rest) f w) : RW M P ops Q ({ dst := some d, op := .assign x, type := ty, pos := pos, after := af, guard := none } :: rest) f w := h
theorem Gt.nilck {x : Operand} (h : RW M P ops Q ({ dst := some d, op := .nilCheck x, type := ty, pos := pos, after := af, guard := none } :: rest) f w) : RW M P ops Q ({ dst := some d, op := .nilCheck x, type := ty, pos := pos, after := af, guard := none } :: rest) f w := h
theorem Gt.fieldAddr {s : TypeId} {x : Operand} {i : Nat} (h : RW M P ops Q ({ dst := some d, op := .fieldAddr s x i, type := ty, pos := pos, after := af, guard := none } :: rest) f w) : RW M P ops Q ({ dst := some d, op := .fieldAddr s x i, type := ty, pos := pos, after := af, guard := none } :: rest) f w := h
theorem Gt.load {t : TypeId} {x : Operand} (h : RW M P ops Q ({ dst := some d, op := .load t x, type := ty, pos := pos, after := af, guard := none } :: rest) f w) : RW M P ops Q ({ dst := some d, op := .load t x, type := ty, pos := pos, after := af, guard := none } :: rest) f w := h
theorem Gt.pick {c x y : Operand} (h : RW M P ops Q ({ dst := some d, op := .pick c x y, type := ty, pos := pos, after := af, guard := none } :: rest) f w) : RW M P ops Q ({ dst := some d, op := .pick c x y, type := ty, pos := pos, after := af, guard := none } :: rest) f w := h
theorem Gt.extract {x : Operand} {i : Nat} (h : RW M P ops Q ({ dst := some d, op := .extract x i, type := ty, pos := pos, after := af, guard := none } :: rest) f w) : RW M P ops Q ({ dst := some d, op := .extract x i, type := ty, pos := pos, after := af, guard := none } :: rest) f w := h
theorem Gt.makeFunc {fn : Fn} {xs ys : Array Operand} (h : RW M P ops Q ({ dst := some d, op := .makeFunc fn xs ys, type := ty, pos := pos, after := af, guard := none } :: rest) f w) : RW M P ops Q ({ dst := some d, op := .makeFunc fn xs ys, type := ty, pos := pos, after := af, guard := none } :: rest) f w := h
theorem Gt.index {t : TypeId} {x y : Operand} (h : RW M P ops Q ({ dst := some d, op := .index t x y, type := ty, pos := pos, after := af, guard := none } :: rest) f w) : RW M P ops Q ({ dst := some d, op := .index t x y, type := ty, pos := pos, after := af, guard := none } :: rest) f w := h
theorem Gt.convert {s t : TypeId} {x : Operand} (h : RW M P ops Q ({ dst := some d, op := .convert s t x, type := ty, pos := pos, after := af, guard := none } :: rest) f w) : RW M P ops Q ({ dst := some d, op := .convert s t x, type := ty, pos := pos, after := af, guard := none } :: rest) f w := h
theorem Gt.not {t : TypeId} {x : Operand} (h : RW M P ops Q ({ dst := some d, op := .unOp .not t x, type := ty, pos := pos, after := af, guard := none } :: rest) f w) : RW M P ops Q ({ dst := some d, op := .unOp .not t x, type := ty, pos := pos, after := af, guard := none } :: rest) f w := h
theorem Gt.len {xs : Array Operand} {ts : Array TypeId} (h : RW M P ops Q ({ dst := some d, op := .call { callee := .builtin .len, args := xs, argTypes := ts }, type := ty, pos := pos, after := af, guard := none } :: rest) f w) : RW M P ops Q ({ dst := some d, op := .call { callee := .builtin .len, args := xs, argTypes := ts }, type := ty, pos := pos, after := af, guard := none } :: rest) f w := h
theorem Gt.idx {t : TypeId} {x y : Operand} (h : RW M P ops Q ({ dst := some d, op := .indexAddr t x y, type := ty, pos := pos, after := af, guard := none } :: rest) f w) : RW M P ops Q ({ dst := some d, op := .indexAddr t x y, type := ty, pos := pos, after := af, guard := none } :: rest) f w := h
theorem Gt.eql {t yt : TypeId} {x y : Operand} (h : RW M P ops Q ({ dst := some d, op := .binOp .eql t x y yt, type := ty, pos := pos, after := af, guard := none } :: rest) f w) : RW M P ops Q ({ dst := some d, op := .binOp .eql t x y yt, type := ty, pos := pos, after := af, guard := none } :: rest) f w := h
theorem Gt.neq {t yt : TypeId} {x y : Operand} (h : RW M P ops Q ({ dst := some d, op := .binOp .neq t x y yt, type := ty, pos := pos, after := af, guard := none } :: rest) f w) : RW M P ops Q ({ dst := some d, op := .binOp .neq t x y yt, type := ty, pos := pos, after := af, guard := none } :: rest) f w := h
theorem Gt.lss {t yt : TypeId} {x y : Operand} (h : RW M P ops Q ({ dst := some d, op := .binOp .lss t x y yt, type := ty, pos := pos, after := af, guard := none } :: rest) f w) : RW M P ops Q ({ dst := some d, op := .binOp .lss t x y yt, type := ty, pos := pos, after := af, guard := none } :: rest) f w := h
theorem Gt.leq {t yt : TypeId} {x y : Operand} (h : RW M P ops Q ({ dst := some d, op := .binOp .leq t x y yt, type := ty, pos := pos, after := af, guard := none } :: rest) f w) : RW M P ops Q ({ dst := some d, op := .binOp .leq t x y yt, type := ty, pos := pos, after := af, guard := none } :: rest) f w := h
theorem Gt.gtr {t yt : TypeId} {x y : Operand} (h : RW M P ops Q ({ dst := some d, op := .binOp .gtr t x y yt, type := ty, pos := pos, after := af, guard := none } :: rest) f w) : RW M P ops Q ({ dst := some d, op := .binOp .gtr t x y yt, type := ty, pos := pos, after := af, guard := none } :: rest) f w := h
theorem Gt.geq {t yt : TypeId} {x y : Operand} (h : RW M P ops Q ({ dst := some d, op := .binOp .geq t x y yt, type := ty, pos := pos, after := af, guard := none } :: rest) f w) : RW M P ops Q ({ dst := some d, op := .binOp .geq t x y yt, type := ty, pos := pos, after := af, guard := none } :: rest) f w := h
theorem Gt.add {t yt : TypeId} {x y : Operand} (h : RW M P ops Q ({ dst := some d, op := .binOp .add t x y yt, type := ty, pos := pos, after := af, guard := none } :: rest) f w) : RW M P ops Q ({ dst := some d, op := .binOp .add t x y yt, type := ty, pos := pos, after := af, guard := none } :: rest) f w := h
theorem Gt.sub {t yt : TypeId} {x y : Operand} (h : RW M P ops Q ({ dst := some d, op := .binOp .sub t x y yt, type := ty, pos := pos, after := af, guard := none } :: rest) f w) : RW M P ops Q ({ dst := some d, op := .binOp .sub t x y yt, type := ty, pos := pos, after := af, guard := none } :: rest) f w := h
theorem Gt.mul {t yt : TypeId} {x y : Operand} (h : RW M P ops Q ({ dst := some d, op := .binOp .mul t x y yt, type := ty, pos := pos, after := af, guard := none } :: rest) f w) : RW M P ops Q ({ dst := some d, op := .binOp .mul t x y yt, type := ty, pos := pos, after := af, guard := none } :: rest) f w := h
theorem Gt.rem {t yt : TypeId} {x y : Operand} (h : RW M P ops Q ({ dst := some d, op := .binOp .rem t x y yt, type := ty, pos := pos, after := af, guard := none } :: rest) f w) : RW M P ops Q ({ dst := some d, op := .binOp .rem t x y yt, type := ty, pos := pos, after := af, guard := none } :: rest) f w := h
theorem Gt.guard {o : Option Nat} {op : Op} {j : Nat} {b : Bool} (h : RW M P ops Q ({ dst := o, op := op, type := ty, pos := pos, after := af, guard := some (j, b) } :: rest) f w) : RW M P ops Q ({ dst := o, op := op, type := ty, pos := pos, after := af, guard := some (j, b) } :: rest) f w := h
theorem Gt.nil (h : RW M P ops Q [] f w) : RW M P ops Q [] f w := h
end
end Go.Proofs.YtjlkmdmpejpmpaaGreatDoor.H

namespace Go.Proofs.YtjlkmdmpejpmpaaGreatDoor.H
open Go.RowKit

/-- w' is w but for new blocks and for blocks of S. -/
structure Kept (S : Nat → Prop) (w w' : World) : Prop where
  os : w'.os = w.os
  tape : w'.tape = w.tape
  output : w'.output = w.output
  size : w.heap.size ≤ w'.heap.size
  block : ∀ k, k < w.heap.size → ¬ S k → w'.heap[k]? = w.heap[k]?

abbrev K0 (w w' : World) : Prop := Kept (fun _ => False) w w'

theorem Kept.refl (S : Nat → Prop) (w : World) : Kept S w w := ⟨rfl, rfl, rfl, Nat.le_refl _, fun _ _ _ => rfl⟩
theorem Kept.mono {S T : Nat → Prop} {w w' : World} (h : Kept S w w') (hs : ∀ k, S k → T k) : Kept T w w' := ⟨h.os, h.tape, h.output, h.size, fun k hk hn => h.block k hk fun c => hn (hs k c)⟩
theorem Kept.of0 {S : Nat → Prop} {w w' : World} (h : K0 w w') : Kept S w w' := h.mono fun _ c => c.elim
theorem Kept.trans {S T : Nat → Prop} {a b c : World} (h : Kept S a b) (k : Kept T b c) (hT : ∀ k, T k → S k ∨ a.heap.size ≤ k) : Kept S a c :=
  ⟨k.os.trans h.os, k.tape.trans h.tape, k.output.trans h.output, Nat.le_trans h.size k.size, fun i hi hn =>
    (k.block i (Nat.lt_of_lt_of_le hi h.size) (fun t => (hT i t).elim hn (fun l => by omega))).trans (h.block i hi hn)⟩
theorem Kept.trans0 {S : Nat → Prop} {a b c : World} (h : Kept S a b) (k : K0 b c) : Kept S a c := h.trans k fun _ c => c.elim
theorem Kept.below {w w' : World} (h : K0 w w') : Below w.heap.size w w' := ⟨h.os, h.tape, h.output, h.size, fun k hk => h.block k hk fun c => c⟩
theorem Kept.of_below {w w' : World} (h : Below w.heap.size w w') : K0 w w' := ⟨h.os, h.tape, h.output, h.size, fun k hk _ => h.block k hk⟩
theorem Kept.of_grown {w w' : World} {row : Option Nat} (h : w.grownBy w' row) : Kept (fun k => row = some k) w w' :=
  ⟨h.os, h.tape, h.output, h.size, fun k hk hn => h.block k hk fun c => hn c.symm⟩
theorem Kept.alloc (w : World) (o : Obj) : K0 w (w.alloc o) := ⟨rfl, rfl, rfl, by simp, fun k hk _ => Below.heap_alloc w o k hk⟩
theorem Kept.drew (w : World) : K0 w w.drew := ⟨rfl, rfl, rfl, Nat.le_refl _, fun _ _ _ => rfl⟩
theorem Kept.setRow (w : World) (g : Nat) (c : Array Value) : Kept (fun k => k = g) w (w.setRow g c) :=
  ⟨rfl, rfl, rfl, by simp, fun k _ hn => setRow_other w g k c hn⟩

theorem Kept.at {S : Nat → Prop} {w w' : World} (h : Kept S w w') {g : Nat} {o : Obj} (ho : w.heap[g]? = some o) (hn : ¬ S g) : w'.heap[g]? = some o :=
  (h.block g (Array.getElem?_eq_some_iff.1 ho).1 hn).trans ho
theorem Kept.at0 {w w' : World} (h : K0 w w') {g : Nat} {o : Obj} (ho : w.heap[g]? = some o) : w'.heap[g]? = some o := h.at ho fun c => c
theorem lt_of_at {w : World} {g : Nat} {o : Obj} (ho : w.heap[g]? = some o) : g < w.heap.size := (Array.getElem?_eq_some_iff.1 ho).1
/-- The block of a slice's cells, where it has room for any. -/
def live : Value → Option Nat
  | .slice (some a) _ (_ + 1) => some a.block
  | _ => none
theorem live_own {v : Value} {g : Nat} (h : live v = some g) : v.ownBlock = some g := by
  unfold live at h
  split at h
  · cases h; rfl
  · cases h
theorem live_pos {p : Addr} {n cap : Nat} (h : 0 < cap) : live (.slice (some p) n cap) = some p.block := by
  cases cap with
  | zero => omega
  | succ k => rfl

/-- A slice that can be read: n elements of sz cells each, all its cells. -/
def Sl (w : World) (sz : Nat) (v : Value) (n : Nat) (xs : List Value) : Prop :=
  xs.length = n * sz ∧ n ≤ maxLen ∧
  ((∃ p, v = .slice p 0 0 ∧ n = 0) ∨
   ∃ g off cap cur e fz, v = .slice (some ⟨g, off, none⟩) n cap ∧ w.heap[g]? = some (.cells cur e fz) ∧ n ≤ cap ∧ cap ≤ maxLen ∧ off + cap * sz ≤ cur.size ∧ (cur.toList.drop off).take (n * sz) = xs)

theorem Sl.nil (w : World) (sz : Nat) : Sl w sz (.slice none 0 0) 0 [] := ⟨by simp, by simp, .inl ⟨_, rfl, rfl⟩⟩
theorem Sl.keep {S : Nat → Prop} {w w' : World} {sz : Nat} {v : Value} {n : Nat} {xs : List Value} (h : Sl w sz v n xs) (k : Kept S w w') (hn : ∀ g, live v = some g → ¬ S g) : Sl w' sz v n xs := by
  refine ⟨h.1, h.2.1, ?_⟩
  rcases h.2.2 with h | ⟨g, off, cap, cur, e, fz, hv, hg, hn', r⟩
  · exact .inl h
  · by_cases hc : 0 < cap
    · exact .inr ⟨g, off, cap, cur, e, fz, hv, k.at hg (hn g (by rw [hv]; exact live_pos hc)), hn', r⟩
    · have hc0 : cap = 0 := by omega
      subst hc0
      have hn0 : n = 0 := by omega
      subst hn0
      exact .inl ⟨_, hv, rfl⟩
theorem Sl.keep0 {w w' : World} {sz : Nat} {v : Value} {n : Nat} {xs : List Value} (h : Sl w sz v n xs) (k : K0 w w') : Sl w' sz v n xs := h.keep k fun _ _ c => c
theorem Sl.lt {w : World} {sz : Nat} {v : Value} {n : Nat} {xs : List Value} (h : Sl w sz v n xs) {g : Nat} (hg : live v = some g) : g < w.heap.size := by
  rcases h.2.2 with ⟨p, rfl, _⟩ | ⟨g', off, cap, cur, e, fz, rfl, hh, _⟩
  · cases p <;> cases hg
  · have := live_own hg; cases this; exact lt_of_at hh
theorem Sl.of_own {w : World} {base : Nat} {e : TypeId} {sz : Nat} {v : Value} {n : Nat} {xs : List Value} (h : w.ownsRow base e sz v n xs) : Sl w sz v n xs := by
  rcases h.2 with ⟨rfl, rfl⟩ | ⟨g, cap, cur, rfl, hb, hg, hn, hm, hs, ht⟩
  · exact ⟨h.1, by simp, .inl ⟨_, rfl, rfl⟩⟩
  · exact ⟨h.1, Nat.le_trans hn hm, .inr ⟨g, 0, cap, cur, e, (0, 0), rfl, hg, hn, hm, by omega, by simpa using ht⟩⟩

theorem addr_add (g off k : Nat) : (⟨g, off, none⟩ : Addr).add k = ⟨g, off + k, none⟩ := by
  unfold Addr.add; split <;> simp_all

theorem cell_row {w : World} {g off : Nat} {cur : Array Value} {e : TypeId} {fz : Nat × Nat} (h : w.heap[g]? = some (.cells cur e fz)) (j : Nat) : w.cell? ⟨g, j, none⟩ = cur[j]? := by
  simp [World.cell?, h]

/-- The address of a slice's first cell behind k cells. -/
def Value.spot (v : Value) (k : Nat) : Addr := match v with
  | .slice (some a) _ _ => a.add k
  | _ => ⟨0, 0, none⟩

theorem Sl.cell {w : World} {sz : Nat} {v : Value} {n : Nat} {xs : List Value} (h : Sl w sz v n xs) {j : Nat} {u : Value} (hu : xs[j]? = some u) : w.cell? (Value.spot v j) = some u := by
  have hj : j < xs.length := (List.getElem?_eq_some_iff.1 hu).1
  rcases h.2.2 with ⟨_, _, h0⟩ | ⟨g, off, cap, cur, e, fz, rfl, hg, hn, hm, ho, ht⟩
  · rw [h.1, h0] at hj; omega
  · simp only [Value.spot, addr_add]
    rw [cell_row (off := off) hg]
    rw [← ht] at hu
    rw [List.getElem?_take] at hu
    split at hu
    · simpa using hu
    · cases hu

section
variable {M : Option (Option Nat)} {P : Program} {ops : Array Oper} {Q : Post} {rest : List Oper} {f : Fr} {w : World} {d : Nat} {ty : TypeId} {pos : String} {af : Array Edge}

/-- A type of one cell; a type of several. -/
class One (P : Program) (t : TypeId) : Prop where
  agg : ∀ w, (isAgg t).run P w = .ok false w
  size : ∀ w, (sizeOf t).run P w = .ok 1 w
class Many (P : Program) (t : TypeId) (n : outParam Nat) : Prop where
  agg : ∀ w, (isAgg t).run P w = .ok true w
  size : ∀ w, (sizeOf t).run P w = .ok n w

theorem Y.load1 {t : TypeId} [h : One P t] {x : Operand} {a : Addr} {v : Value} (hx : f.ev x = some (.pointer (some a))) (hc : w.cell? a = some v) : Yd P f (op1 d (.load t x) ty pos af) v w := fun a' ha => by simp [execOp, ha.eval hx, Instr.loadAt, Instr.sureAddr, loadVar, h.agg, load, Sem.run, hc]

theorem Y.loadB {t : TypeId} [h : One P t] {x : Operand} {g j : Nat} {v : Value} {c : Array Value} {e : TypeId} {fz : Nat × Nat} (hx : f.ev x = some (.pointer (some ⟨g, j, none⟩))) (hb : w.heap[g]? = some (.cells c e fz)) (hc : c.toList[j]? = some v) : Yd P f (op1 d (.load t x) ty pos af) v w :=
  Y.load1 hx (by rw [cell_row (off := 0) hb]; simpa using hc)

theorem RW.loadN {t : TypeId} {n : Nat} [h : Many P t n] {x : Operand} {a : Addr} {cs : List Value} (hx : f.ev x = some (.pointer (some a))) (hl : cs.length = n) (hc : ∀ j v, cs[j]? = some v → w.cell? (a.add j) = some v) (hd : Nat.blt d f.n = true) (k : RW M P ops Q rest (f.put d (.agg cs.toArray)) w) :
    RW M P ops Q (op1 d (.load t x) ty pos af :: rest) f w :=
  RW.val rfl rfl hd (fun a' ha => by
    have hr := run_loadCells_list (P := P) w a cs hc
    rw [hl] at hr
    simp [execOp, ha.eval hx, Instr.loadAt, Instr.sureAddr, loadVar, h.agg, h.size, hr]) k

/-- A store of a value of n cells into a known block. -/
theorem RW.storeN {t : TypeId} {x y : Operand} {g j n : Nat} {u : Value} {c : Array Value} {e : TypeId} (hsz : ∀ w, (sizeOf t).run P w = .ok n w) (hx : f.ev x = some (.pointer (some ⟨g, j, none⟩))) (hy : f.ev y = some u) (hu : u.cells.size = n) (h1 : ∀ z ∈ u.cells.toList, z.oneCell' = true)
    (hb : w.heap[g]? = some (.cells c e (0, 0))) (hj : j + n ≤ c.size)
    (k : ∀ w', w'.heap[g]? = some (.cells (c.toList.take j ++ u.cells.toList ++ c.toList.drop (j + n)).toArray e (0, 0)) → Kept (fun k => k = g) w w' → RW M P ops Q rest f w') : RW M P ops Q (op0 (.store t x y) ty pos af :: rest) f w := by
  have hst := run_storeCells_at P g j e u.cells.toList 0 c w hb (by simp [hu]; omega) h1
  simp only [Nat.add_zero, Array.length_toList, hu] at hst
  refine RW.act rfl rfl (fun a ha => ?_) (k _ (setRow_heap w g c _ e (0, 0) hb) (Kept.setRow w g _))
  simp [execOp, ha.eval hx, ha.eval hy, Instr.storeAt, Instr.sureAddr, storeVar, hsz, hu, hst]

theorem take_set_drop (l : List Value) (j : Nat) (u : Value) (h : j < l.length) : l.take j ++ [u] ++ l.drop (j + 1) = l.set j u := by
  rw [List.set_eq_take_append_cons_drop, if_pos h]; simp

theorem RW.storeB {t : TypeId} [h : One P t] {x y : Operand} {g j : Nat} {u : Value} {c : Array Value} {e : TypeId} (hx : f.ev x = some (.pointer (some ⟨g, j, none⟩))) (hy : f.ev y = some u) (h1 : u.oneCell' = true) (hb : w.heap[g]? = some (.cells c e (0, 0))) (hj : j < c.size)
    (k : ∀ w', w'.heap[g]? = some (.cells (c.setIfInBounds j u) e (0, 0)) → Kept (fun k => k = g) w w' → RW M P ops Q rest f w') : RW M P ops Q (op0 (.store t x y) ty pos af :: rest) f w := by
  have hcs : u.cells = #[u] := by cases u <;> first | rfl | cases h1
  refine RW.storeN h.size hx hy (by rw [hcs]; rfl) (by rw [hcs]; simpa using h1) hb (by omega) fun w' hw => k w' ?_
  rw [hw, hcs]
  have := take_set_drop c.toList j u (by simpa using hj)
  rw [show ([u] : List Value) = [u] from rfl, this]
  congr 2
  apply Array.ext'
  simp

theorem Y.fieldAddr {s off ft : TypeId} {i : Nat} [h : Fld P s i off ft] {z : Value} {sz b : Nat} [h2 : Inf P ft z sz b] {x : Operand} {g o : Nat} (hx : f.ev x = some (.pointer (some ⟨g, o, none⟩))) (hz : Nat.beq sz 0 = false) : Yd P f (op1 d (.fieldAddr s x i) ty pos af) (.pointer (some ⟨g, o + off, none⟩)) w := by
  intro a ha
  obtain ⟨fs, fd, hs, hi, ho, hf⟩ := h.out
  have hz' : sz ≠ 0 := fun c => by subst c; simp at hz
  have h3 := run_sizeOf (P := P) (t := ft) w
  simp [execOp, ha.eval hx, Instr.fieldAt, run_underlying hs, hi, Instr.sureAddr, fieldPlace, hf, h3, hz', addr_add, ho]

/-- A new variable. -/
theorem RW.alloc {t : TypeId} {z : Value} {sz b : Nat} [h : Inf P t z sz b] (hd : Nat.blt d f.n = true)
    (k : ∀ w', w'.heap[w.heap.size]? = some (.cells z.cells t (0, 0)) → K0 w w' → w.heap.size < w'.heap.size → RW M P ops Q rest (f.put d (.pointer (some ⟨w.heap.size, 0, none⟩))) w') : RW M P ops Q (op1 d (.alloc t) ty pos af :: rest) f w := by
  refine RW.val rfl rfl hd (fun a ha => ?_) (k (w.alloc (.cells z.cells t)) (heap_alloc_new w _) (Kept.alloc w _) (by simp))
  have h3 := run_zeroValue (P := P) (t := t) w
  simp [execOp, Instr.alloc, h3, newVar, newRow, newObj, Sem.run]
theorem RW.box {t : TypeId} {x : Operand} {v : Value} (hx : f.ev x = some v) (hd : Nat.blt d f.n = true)
    (k : ∀ w', w'.heap[w.heap.size]? = some (.cells v.cells t (0, 0)) → K0 w w' → w.heap.size < w'.heap.size → RW M P ops Q rest (f.put d (.pointer (some ⟨w.heap.size, 0, none⟩))) w') : RW M P ops Q (op1 d (.box t x) ty pos af :: rest) f w := by
  refine RW.val rfl rfl hd (fun a ha => ?_) (k (w.alloc (.cells v.cells t)) (heap_alloc_new w _) (Kept.alloc w _) (by simp))
  simp [execOp, ha.eval hx, Instr.box, newVar, newRow, newObj, Sem.run]
end
end Go.Proofs.YtjlkmdmpejpmpaaGreatDoor.H

namespace Go.Proofs.YtjlkmdmpejpmpaaGreatDoor.H
open Go.RowKit

theorem foldl_set (l : List Value) (off : Nat) : ∀ (i : Nat) (cs : Array Value), off + i + l.length ≤ cs.size →
    ((l.zipIdx i).foldl (fun cs p => cs.setIfInBounds (off + p.2) p.1) cs).toList = cs.toList.take (off + i) ++ l ++ cs.toList.drop (off + i + l.length) := by
  induction l with
  | nil => intro i cs _; simp
  | cons v r ih =>
    intro i cs h
    simp only [List.length_cons] at h
    simp only [List.zipIdx_cons, List.foldl_cons]
    rw [ih (i + 1) _ (by simp; omega)]
    have e := list_seg_step cs.toList (off + i) v r (by simp; omega)
    simpa [Array.toList_setIfInBounds, Nat.add_assoc] using e

theorem fill_one (sz off : Nat) (place : Nat → Option (Nat × Nat)) (i : Nat) (v : Value) (cells : Array Value) (rest : List (Nat × Value)) (hp : place i = some (off, sz)) (hv : v.cells.size = sz) (hc : off + sz ≤ cells.size) :
    Instr.fill place cells ((i, v) :: rest) = Instr.fill place (cells.toList.take off ++ v.cells.toList ++ cells.toList.drop (off + sz)).toArray rest := by
  conv => lhs; unfold Instr.fill
  simp only [hp, hv]
  rw [if_neg (by simp; omega)]
  congr 1
  apply Array.ext'
  have := foldl_set v.cells.toList off 0 cells (by simp [hv]; omega)
  simp only [Nat.add_zero, Array.length_toList, hv] at this
  rw [← Array.foldl_toList]
  simp only [Array.toList_zipIdx]
  exact this

def catCells (vs : List Value) : List Value := vs.flatMap fun v => v.cells.toList

theorem fill_all (sz : Nat) (hsz : ∀ n : Nat, True) : ∀ (vs : List Value) (k : Nat) (cells : Array Value), (∀ v ∈ vs, v.cells.size = sz) → cells.size = (k + vs.length) * sz →
    Instr.fill (fun i => some (i * sz, sz)) cells ((vs.zipIdx k).map fun p => (p.2, p.1)) = some (cells.toList.take (k * sz) ++ catCells vs).toArray := by
  intro vs
  induction vs with
  | nil =>
    intro k cells _ hc
    simp only [List.zipIdx_nil, List.map_nil, Instr.fill, catCells, List.flatMap_nil, List.append_nil]
    rw [List.take_of_length_le (by simp at hc ⊢; omega)]
  | cons v r ih =>
    intro k cells hv hc
    have h0 := hv v (by simp)
    have hmul : (k + (v :: r).length) * sz = k * sz + sz + r.length * sz := by
      simp only [List.length_cons]; rw [Nat.add_mul, Nat.add_mul]; omega
    simp only [List.zipIdx_cons, List.map_cons]
    rw [fill_one sz (k * sz) _ k v cells _ rfl h0 (by omega)]
    rw [ih (k + 1) _ (fun x hx => hv x (by simp [hx])) ?_]
    · congr 2
      simp only [catCells, List.flatMap_cons, ← List.append_assoc]
      congr 1
      rw [List.take_append_of_le_length (by simp [h0]; rw [Nat.add_mul]; omega), List.take_of_length_le (by simp [h0]; rw [Nat.add_mul]; omega)]
    · simp [h0]; rw [Nat.add_mul, Nat.add_mul]; omega

section
variable {M : Option (Option Nat)} {P : Program} {ops : Array Oper} {Q : Post} {rest : List Oper} {f : Fr} {w : World} {d : Nat} {ty : TypeId} {pos : String} {af : Array Edge}

theorem run_buildSlice {t e : TypeId} {z : Value} {sz b : Nat} [ht : Und P t (.slice e)] [Inf P e z sz b] (vs : List Value) (parts : Array (Nat × Value)) (hp : parts.toList = (vs.zipIdx 0).map fun p => (p.2, p.1)) (hv : ∀ v ∈ vs, v.cells.size = sz) (hs : vs.length * sz ≤ 16777216) :
    (Instr.buildSlice t vs.length parts).run P w = .ok (.slice (some ⟨w.heap.size, 0, none⟩) vs.length vs.length) (w.alloc (.cells (catCells vs).toArray e)) := by
  have h1 := run_sizeOf (P := P) (t := e) w
  have h2 := run_zeroValue (P := P) (t := e) w
  have hf := fun cells hc => fill_all sz (fun _ => trivial) vs 0 cells hv hc
  simp only [Nat.zero_mul, List.take_zero, List.nil_append, Nat.zero_add] at hf
  by_cases h0 : vs.length * sz = 0
  · simp [Instr.buildSlice, run_underlying ht.out, h1, h0, hp, hf, newRow, newObj, Sem.run]
  · have hbig : ¬ (2 : Nat) ^ 24 < vs.length * sz := by simp only [show (2:Nat)^24 = 16777216 from rfl]; omega
    simp only [Instr.buildSlice, Sem.run_bind, run_underlying ht.out, h1, Result.andThen_ok, if_neg h0, if_neg (show ¬ (vs.length * sz > 2 ^ 24) from hbig), h2, Sem.run_pure, hp]
    rw [hf _ (by simp)]
    simp [newRow, newObj, Sem.run]

/-- A slice literal. -/
theorem RW.build1 {t e : TypeId} {z : Value} {sz b : Nat} [ht : Und P t (.slice e)] [Inf P e z sz b] {x : Operand} {v : Value} (hx : f.ev x = some v) (hv : v.cells.size = sz) (hs : Nat.ble sz 16777216 = true) (hd : Nat.blt d f.n = true)
    (k : ∀ w', w'.heap[w.heap.size]? = some (.cells v.cells e (0, 0)) → K0 w w' → w.heap.size < w'.heap.size → RW M P ops Q rest (f.put d (.slice (some ⟨w.heap.size, 0, none⟩) 1 1)) w') : RW M P ops Q (op1 d (.buildSlice t 1 #[(0, x)]) ty pos af :: rest) f w := by
  refine RW.val rfl rfl hd (fun a ha => ?_) (k (w.alloc (.cells v.cells e)) (heap_alloc_new w _) (Kept.alloc w _) (by simp))
  have := run_buildSlice (P := P) (w := w) (t := t) (z := z) [v] #[(0, v)] rfl (by simpa using hv) (by simpa using ble_le hs)
  simp only [List.length_singleton, catCells, List.flatMap_cons, List.flatMap_nil, List.append_nil, Array.toArray_toList] at this
  simp [execOp, ha.eval hx, this]
theorem RW.build0 {t e : TypeId} {z : Value} {sz b : Nat} [ht : Und P t (.slice e)] [Inf P e z sz b] (hd : Nat.blt d f.n = true)
    (k : ∀ w', w'.heap[w.heap.size]? = some (.cells #[] e (0, 0)) → K0 w w' → w.heap.size < w'.heap.size → RW M P ops Q rest (f.put d (.slice (some ⟨w.heap.size, 0, none⟩) 0 0)) w') : RW M P ops Q (op1 d (.buildSlice t 0 #[]) ty pos af :: rest) f w := by
  refine RW.val rfl rfl hd (fun a ha => ?_) (k (w.alloc (.cells #[] e)) (heap_alloc_new w _) (Kept.alloc w _) (by simp))
  have := run_buildSlice (P := P) (w := w) (t := t) (z := z) [] #[] rfl (by simp) (by simp)
  simp only [List.length_nil, catCells, List.flatMap_nil] at this
  simp [execOp, this]
theorem RW.build2 {t e : TypeId} {z : Value} {sz b : Nat} [ht : Und P t (.slice e)] [Inf P e z sz b] {x y : Operand} {u v : Value} (hx : f.ev x = some u) (hy : f.ev y = some v) (hu : u.cells.size = sz) (hv : v.cells.size = sz) (hs : Nat.ble (2 * sz) 16777216 = true) (hd : Nat.blt d f.n = true)
    (k : ∀ w', w'.heap[w.heap.size]? = some (.cells (u.cells.toList ++ v.cells.toList).toArray e (0, 0)) → K0 w w' → w.heap.size < w'.heap.size → RW M P ops Q rest (f.put d (.slice (some ⟨w.heap.size, 0, none⟩) 2 2)) w') : RW M P ops Q (op1 d (.buildSlice t 2 #[(0, x), (1, y)]) ty pos af :: rest) f w := by
  refine RW.val rfl rfl hd (fun a ha => ?_) (k (w.alloc (.cells _ e)) (heap_alloc_new w _) (Kept.alloc w _) (by simp))
  have := run_buildSlice (P := P) (w := w) (t := t) (z := z) [u, v] #[(0, u), (1, v)] rfl (by simp [hu, hv]) (by simpa using ble_le hs)
  simp only [List.length_cons, List.length_nil, catCells, List.flatMap_cons, List.flatMap_nil, List.append_nil] at this
  simp [execOp, ha.eval hx, ha.eval hy, this]

/-- What a new block is to who made it. -/
theorem own_new {w : World} {g : Nat} {c : Array Value} {e : TypeId} (h : w.heap[g]? = some (.cells c e (0, 0))) {n sz base : Nat} (hb : base ≤ g) (hn : c.size = n * sz) (hm : n ≤ maxLen) : w.ownsRow base e sz (.slice (some ⟨g, 0, none⟩) n n) n c.toList :=
  ⟨by simpa using hn, .inr ⟨g, n, c, rfl, hb, h, Nat.le_refl _, hm, hn, List.take_of_length_le (by simp; omega)⟩⟩

theorem own_kept {S : Nat → Prop} {w w' : World} {base : Nat} {e : TypeId} {sz : Nat} {v : Value} {n : Nat} {xs : List Value} (h : w.ownsRow base e sz v n xs) (k : Kept S w w') (hn : ∀ g, v.ownBlock = some g → ¬ S g) : w'.ownsRow base e sz v n xs := by
  refine ⟨h.1, ?_⟩
  rcases h.2 with h | ⟨g, cap, cur, rfl, hb, hg, r⟩
  · exact .inl h
  · exact .inr ⟨g, cap, cur, rfl, hb, k.at hg (hn g rfl), r⟩
theorem own_kept0 {w w' : World} {base : Nat} {e : TypeId} {sz : Nat} {v : Value} {n : Nat} {xs : List Value} (h : w.ownsRow base e sz v n xs) (k : K0 w w') : w'.ownsRow base e sz v n xs := own_kept h k fun _ _ c => c
theorem own_base {w : World} {base base' : Nat} {e : TypeId} {sz : Nat} {v : Value} {n : Nat} {xs : List Value} (h : w.ownsRow base e sz v n xs) (hb : ∀ g, v.ownBlock = some g → base' ≤ g) : w.ownsRow base' e sz v n xs := by
  refine ⟨h.1, ?_⟩
  rcases h.2 with h | ⟨g, cap, cur, rfl, _, r⟩
  · exact .inl h
  · exact .inr ⟨g, cap, cur, rfl, hb g rfl, r⟩

/-- Where the row of an appended slice lies: where it lay, or in a new block. -/
def Lies (w : World) (v v' : Value) : Prop := ∀ g, v'.ownBlock = some g → v.ownBlock = some g ∨ w.heap.size ≤ g

theorem run_app {t u e : TypeId} {z : Value} {sz b : Nat} [ht : Und P t (.slice e)] [hi : Inf P e z sz b] (base : Nat) (hz : z.cells.size = sz) (hsz : 0 < sz) {v : Value} {n : Nat} {xs : List Value} (hown : w.ownsRow base e sz v n xs)
    {vx : Value} {m : Nat} {news : List Value} (hsrc : Sl w sz vx m news) (h1 : ∀ u ∈ news, u.oneCell' = true) (h63 : n + m ≤ maxLen) (hbytes : (n + m) * b ≤ 140737488355328) (hbase : base ≤ w.heap.size) :
    ∃ v' w', (Builtin.append_ #[t, t] u #[v, vx]).run P w = .ok v' w' ∧ w'.ownsRow base e sz v' (n + m) (xs ++ news) ∧ w.grownBy w' v.ownBlock ∧ Lies w v v' := by
  have hi' := hi.out
  have h63' : n + m ≤ 9223372036854775807 := by simpa [maxLen] using h63
  cases hinf : P.info? e with
  | none => simp [hinf] at hi'
  | some i =>
    simp only [hinf, Option.map_some, Option.some.injEq, Prod.mk.injEq] at hi'
    obtain ⟨hz', hs', hb'⟩ := hi'
    have key : (vx = .slice none 0 0 ∧ m = 0) ∨ ∃ a cap, vx = .slice (some a) m cap ∧ ∀ j y, news[j]? = some y → w.cell? (a.add j) = some y := by
      rcases hsrc.2.2 with ⟨p, rfl, rfl⟩ | ⟨g, off, cap, cur, e', fz, rfl, hg, hn, hm, ho, htk⟩
      · have hx : news = [] := List.eq_nil_of_length_eq_zero (by simpa using hsrc.1)
        subst hx
        cases p with
        | none => exact .inl ⟨rfl, rfl⟩
        | some a => exact .inr ⟨a, 0, rfl, fun j y hy => by simp at hy⟩
      · exact .inr ⟨_, cap, rfl, fun j y hy => by have := hsrc.cell hy; simpa [Value.spot] using this⟩
    rcases key with ⟨rfl, rfl⟩ | ⟨a, cap, rfl, hcells⟩
    · have hx : news = [] := List.eq_nil_of_length_eq_zero (by simpa using hsrc.1)
      subst hx
      exact ⟨v, w, run_append_owned_none w base t u e i sz ht.out hinf v n xs hown, by simpa using hown, ⟨rfl, rfl, rfl, Nat.le_refl _, fun _ _ _ => rfl⟩, fun g h => .inl h⟩
    · rcases hown.2 with ⟨rfl, rfl⟩ | ⟨g0, cap0, cur0, rfl, hb0, hg0, hn0, hm0, hs0, ht0⟩
      · have hxs : xs = [] := List.eq_nil_of_length_eq_zero (by simpa using hown.1)
        subst hxs
        obtain ⟨v', w', h, h2, h3, _⟩ := run_append_own (P := P) w w.heap.size t u e i z sz b ht.out hinf hz' hs' hb' hz hsz _ 0 [] (World.ownsRow_nil _ _ _ _) a m cap news hsrc.1 hcells h1 h63 hbytes (Nat.le_refl _)
        exact ⟨v', w', h, own_base h2 fun k hk => Nat.le_trans hbase (h2.lt k hk).1, h3, fun k hk => .inr (h2.lt k hk).1⟩
      · by_cases hroom : n + m ≤ cap0
        · obtain ⟨w', h, h2, h3⟩ := run_append_fits (P := P) w base t u e i sz ht.out hinf hs' g0 n cap0 xs hown a m cap news hsrc.1 hcells h1 hroom
          exact ⟨_, w', h, h2, h3, fun k hk => .inl hk⟩
        · obtain ⟨v', w', h, h2, h3, _⟩ := run_append_own (P := P) w base t u e i z sz b ht.out hinf hz' hs' hb' hz hsz _ n xs hown a m cap news hsrc.1 hcells h1 h63 hbytes hbase
          have h4 := run_append_grow (P := P) w t u e i z ht.out hinf hz' ⟨g0, 0, none⟩ n cap0 xs (by rw [hs']; exact hown.1) (hown.cells (g := g0) rfl) a m cap news (by rw [hs']; exact hsrc.1) hcells (by omega) (by omega) (growslice_fits (by omega) (by rw [hb']; exact hbytes))
          have h5 := h.symm.trans h4
          simp only [Result.ok.injEq] at h5
          refine ⟨v', w', h, h2, h3, fun k hk => .inr ?_⟩
          rw [h5.1] at hk
          simp only [Value.ownBlock, Option.some.injEq] at hk
          omega

/-- append to a row of the call's own, of a slice's elements. -/
theorem RW.app {t e : TypeId} {z : Value} {sz b : Nat} [ht : Und P t (.slice e)] [hi : Inf P e z sz b] {s x : Operand} {v vx : Value} (hs : f.ev s = some v) (hx : f.ev x = some vx) (hd : Nat.blt d f.n = true) {base : Nat} (hz : z.cells.size = sz) (hsz : Nat.blt 0 sz = true) {n : Nat} {xs : List Value}
    (hown : w.ownsRow base e sz v n xs) {m : Nat} {news : List Value} (hsrc : Sl w sz vx m news) (h1 : ∀ u ∈ news, u.oneCell' = true) (h63 : n + m ≤ 9223372036854775807) (hbytes : (n + m) * b ≤ 140737488355328) (hbase : base ≤ w.heap.size)
    (k : ∀ v' w', w'.ownsRow base e sz v' (n + m) (xs ++ news) → Kept (fun k => v.ownBlock = some k) w w' → Lies w v v' → RW M P ops Q rest (f.put d v') w') :
    RW M P ops Q (op1 d (.call { callee := .builtin .append, args := #[s, x], argTypes := #[t, t] }) ty pos af :: rest) f w := by
  obtain ⟨v', w', h, h2, h3, h4⟩ := run_app (P := P) (t := t) (u := ty) base hz (blt_lt hsz) hown hsrc h1 (by simpa [maxLen] using h63) hbytes hbase
  refine RW.val rfl rfl hd (fun a ha => ?_) (k v' w' h2 (Kept.of_grown h3) h4)
  simp [execOp, resolve, invoke, builtin, ha.eval hs, ha.eval hx, h]

/-- append of one element, written out: the literal and the append together. -/
theorem RW.app1 {t e ty1 : TypeId} {d1 : Nat} {pos1 : String} {af1 : Array Edge} {z : Value} {sz b : Nat} [ht : Und P t (.slice e)] [hi : Inf P e z sz b] {s x : Operand} {v u : Value} (hx : f.ev x = some u) (hs : (f.put d1 (.slice (some ⟨w.heap.size, 0, none⟩) 1 1)).ev s = some v) (hd1 : Nat.blt d1 f.n = true) (hd : Nat.blt d f.n = true)
    {base : Nat} {n : Nat} {xs : List Value} (hown : w.ownsRow base e sz v n xs) (hz : z.cells.size = sz) (hu : u.cells.size = sz) (hsz : Nat.blt 0 sz = true) (hsz2 : Nat.ble sz 65536 = true) (h1 : ∀ y ∈ u.cells.toList, y.oneCell' = true) (hbase : base ≤ w.heap.size) (hbytes : (n + 1) * b ≤ 140737488355328) (h63 : n + 1 ≤ 9223372036854775807)
    (k : ∀ v' w', w'.ownsRow base e sz v' (n + 1) (xs ++ u.cells.toList) → Kept (fun k => v.ownBlock = some k) w w' → Lies w v v' → RW M P ops Q rest ((f.put d1 (.slice (some ⟨w.heap.size, 0, none⟩) 1 1)).put d v') w') :
    RW M P ops Q (op1 d1 (.buildSlice t 1 #[(0, x)]) ty1 pos1 af1 :: op1 d (.call { callee := .builtin .append, args := #[s, .tmp d1], argTypes := #[t, t] }) ty pos af :: rest) f w := by
  refine RW.build1 hx hu (by have := ble_le hsz2; simp [Nat.ble_eq]; omega) hd1 fun w1 hb hk hlt => ?_
  have hsl := Sl.of_own (own_new (sz := sz) (base := 0) hb (Nat.zero_le _) (n := 1) (by simpa using hu) (by simp [maxLen]))
  have hevx : (f.put d1 (.slice (some ⟨w.heap.size, 0, none⟩) 1 1)).ev (.tmp d1) = some (.slice (some ⟨w.heap.size, 0, none⟩) 1 1) := by simp [Fr.ev, Fr.put, look]
  refine RW.app hs hevx hd hz hsz (own_kept0 hown hk) hsl h1 h63 hbytes (by omega) fun v' w' ho hk' hl => ?_
  have hk2 : Kept (fun k => v.ownBlock = some k) w w' := (Kept.of0 hk).trans hk' fun _ c => .inl c
  exact k v' w' ho hk2 fun g hg => (hl g hg).imp id fun h => by have := hk.size; omega
end
end Go.Proofs.YtjlkmdmpejpmpaaGreatDoor.H

namespace Go.Proofs.YtjlkmdmpejpmpaaGreatDoor.H
open Go.RowKit

abbrev vb (c : UInt8) : Value := .int .u8 (c.toNat : Int)
abbrev vs (l : List UInt8) : Value := .string (B l)
abbrev bv (l : List UInt8) : List Value := l.map vb
abbrev sv (l : List (List UInt8)) : List Value := l.map vs

theorem B_extract (l : List UInt8) (a b : Nat) : (B l).extract a b = B ((l.drop a).take (b - a)) := by
  have := Go.Lib.extract_eq (B l) a b
  simpa using this
theorem B_extract' (l : List UInt8) (a b : Nat) : (B l).extract a b = B ((l.take b).drop a) := by
  rw [B_extract, List.drop_take]

section
variable {M : Option (Option Nat)} {P : Program} {ops : Array Oper} {Q : Post} {rest : List Oper} {f : Fr} {w : World} {d : Nat} {ty : TypeId} {pos : String} {af : Array Edge}

theorem Y.cuth {t : TypeId} [ht : Und P t .string] {x y : Operand} {k : IntKind} {l : List UInt8} {b : Int} (hx : f.ev x = some (.string (B l))) (hy : f.ev y = some (.int k b)) (h0 : 0 ≤ b) (h1 : b ≤ l.length) : Yd P f (op1 d (.slice t x none (some y) none) ty pos af) (.string (B (l.take b.toNat))) w := by
  intro a ha
  have h := run_slice_string_h (P := P) w t (B l) ht.out k b h0 (by rw [B_size]; omega)
  rw [B_extract' l 0] at h
  simp [execOp, ha.eval hx, ha.eval hy, Instr.sliceAt, run_underlying ht.out, h]

theorem Y.cutl {t : TypeId} [ht : Und P t .string] {x y : Operand} {k : IntKind} {l : List UInt8} {a : Int} (hx : f.ev x = some (.string (B l))) (hy : f.ev y = some (.int k a)) (h0 : 0 ≤ a) (h1 : a ≤ l.length) : Yd P f (op1 d (.slice t x (some y) none none) ty pos af) (.string (B (l.drop a.toNat))) w := by
  intro a' ha
  have h := run_slice_string_l (P := P) w t (B l) ht.out k a h0 (by rw [B_size]; omega)
  rw [B_extract' l, B_size, List.take_length] at h
  simp [execOp, ha.eval hx, ha.eval hy, Instr.sliceAt, run_underlying ht.out, h]

theorem Y.cutlh {t : TypeId} [ht : Und P t .string] {x y z : Operand} {k k2 : IntKind} {l : List UInt8} {a b : Int} (hx : f.ev x = some (.string (B l))) (hy : f.ev y = some (.int k a)) (hz : f.ev z = some (.int k2 b)) (h0 : 0 ≤ a) (h1 : a ≤ b) (h2 : b ≤ l.length) : Yd P f (op1 d (.slice t x (some y) (some z) none) ty pos af) (.string (B ((l.take b.toNat).drop a.toNat))) w := by
  intro a' ha
  have e1 := run_sliceBound (P := P) (w := w) k2 b l.length .sliceAlen (by omega) (by omega)
  have e2 := run_sliceBound (P := P) (w := w) k a b.toNat .sliceB (by omega) (by omega)
  simp [execOp, ha.eval hx, ha.eval hy, ha.eval hz, Instr.sliceAt, Instr.slice, run_underlying ht.out, Instr.sliceBounds, e1, e2, B_size, B_extract']

theorem seg_of (cur : List Value) (off n sz a b : Nat) (h1 : a ≤ b) (h2 : b ≤ n) : (cur.drop (off + a * sz)).take ((b - a) * sz) = (((cur.drop off).take (n * sz)).take (b * sz)).drop (a * sz) := by
  rw [List.take_take, Nat.min_eq_left (Nat.mul_le_mul_right _ h2), List.drop_take, List.drop_drop, Nat.sub_mul]

theorem Sl.sub {w : World} {sz : Nat} {v : Value} {n : Nat} {xs : List Value} (h : Sl w sz v n xs) {p : Option Addr} {cap : Nat} (hv : v = .slice p n cap) {a b m : Nat} (h1 : a ≤ b) (h2 : b ≤ n) (hm : b ≤ m) (hmc : m ≤ cap) :
    Sl w sz (.slice (if m = a then p else p.map (·.add (a * sz))) (b - a) (m - a)) (b - a) ((xs.take (b * sz)).drop (a * sz)) := by
  refine ⟨by rw [List.length_drop, List.length_take, h.1, Nat.sub_mul, Nat.min_eq_left (Nat.mul_le_mul_right _ h2)], Nat.le_trans (Nat.sub_le _ _) (Nat.le_trans h2 h.2.1), ?_⟩
  rcases h.2.2 with ⟨_, rfl, rfl⟩ | ⟨g, off, cp, cur, e, fz, rfl, hg, hn, hc, ho, ht⟩
  · cases hv
    have : b = 0 := by omega
    subst this
    have : a = 0 := by omega
    subst this
    have : m = 0 := by omega
    subst this
    exact .inl ⟨p, by simp, rfl⟩
  · cases hv
    have hasz : a * sz ≤ n * sz := Nat.mul_le_mul_right _ (by omega)
    have hncp : n * sz ≤ cap * sz := Nat.mul_le_mul_right _ hn
    by_cases hma : m = a
    · subst hma
      have hb : b = m := by omega
      subst hb
      refine .inr ⟨g, off, 0, cur, e, fz, by simp, hg, by omega, by omega, by omega, ?_⟩
      simp [← ht]
    · refine .inr ⟨g, off + a * sz, m - a, cur, e, fz, by simp [hma, addr_add], hg, by omega, by omega, ?_, ?_⟩
      · rw [Nat.sub_mul]
        have := Nat.mul_le_mul_right sz (show a ≤ m by omega)
        have := Nat.mul_le_mul_right sz hmc
        omega
      · rw [← ht]; exact seg_of cur.toList off n sz a b h1 h2

theorem Sl.shape {w : World} {sz : Nat} {v : Value} {n : Nat} {xs : List Value} (h : Sl w sz v n xs) : ∃ p cap, v = .slice p n cap ∧ n ≤ cap := by
  rcases h.2.2 with ⟨_, rfl, rfl⟩ | ⟨g, off, cp, cur, e, fz, rfl, _, hn, _⟩
  · exact ⟨_, _, rfl, by omega⟩
  · exact ⟨_, _, rfl, hn⟩

theorem add_block (x : Addr) (k : Nat) : (x.add k).block = x.block := by unfold Addr.add; split <;> rfl
theorem sub_block {p : Option Addr} {m a k n c n' c' : Nat} (hc : c ≤ c') : ∀ g, live (Value.slice (if m = a then p else p.map (·.add k)) n c) = some g → live (Value.slice p n' c') = some g := by
  intro g hg
  cases p with
  | none => by_cases h : m = a <;> simp [h, live] at hg
  | some x =>
    cases c with
    | zero => by_cases h : m = a <;> simp [h, live] at hg
    | succ c =>
      rw [live_pos (by omega)]
      by_cases h : m = a
      · simpa [h, live] using hg
      · simpa [h, live, add_block] using hg

theorem run_sub {t e : TypeId} {z : Value} {sz b : Nat} [ht : Und P t (.slice e)] [Inf P e z sz b] (p : Option Addr) (len cap : Nat) (lo hi : Option Value) (l h : Nat) (hlo : lo = none ∧ l = 0 ∨ ∃ k, lo = some (.int k (l : Int))) (hhi : hi = none ∧ h = len ∨ ∃ k, hi = some (.int k (h : Int))) (h1 : l ≤ h) (h2 : h ≤ cap) :
    (Instr.sliceAt t (.slice p len cap) lo hi none).run P w = .ok (.slice (if cap = l then p else p.map (·.add (l * sz))) (h - l) (cap - l)) w := by
  have hsz := run_sizeOf (P := P) (t := e) w
  have e1 : ∀ k, (Instr.sliceBound (.int k (h : Int)) cap .sliceAcap).run P w = .ok h w := fun k => by have := run_sliceBound (P := P) (w := w) k h cap .sliceAcap (by omega) (by omega); simpa using this
  have e2 : ∀ k, (Instr.sliceBound (.int k (l : Int)) h .sliceB).run P w = .ok l w := fun k => by have := run_sliceBound (P := P) (w := w) k l h .sliceB (by omega) (by omega); simpa using this
  rcases hlo with ⟨rfl, rfl⟩ | ⟨kl, rfl⟩ <;> rcases hhi with ⟨rfl, rfl⟩ | ⟨kh, rfl⟩ <;> simp [Instr.sliceAt, Instr.slice, run_underlying ht.out, Instr.sliceBounds, hsz, e1, e2]

/-- x[i:] -/
theorem RW.subl {t e : TypeId} {z : Value} {sz b : Nat} [ht : Und P t (.slice e)] [Inf P e z sz b] {x y : Operand} {k : IntKind} {v : Value} {i : Int} {n : Nat} {xs : List Value} (hx : f.ev x = some v) (hy : f.ev y = some (.int k i)) (hd : Nat.blt d f.n = true) (hs : Sl w sz v n xs) (h0 : 0 ≤ i) (h1 : i ≤ n)
    (kk : ∀ v', Sl w sz v' (n - i.toNat) (xs.drop (i.toNat * sz)) → (∀ g, live v' = some g → live v = some g) → RW M P ops Q rest (f.put d v') w) : RW M P ops Q (op1 d (.slice t x (some y) none none) ty pos af :: rest) f w := by
  obtain ⟨p, cap, rfl, hcap⟩ := hs.shape
  have hi : i = (i.toNat : Int) := by omega
  have hr := run_sub (P := P) (w := w) (t := t) (sz := sz) p n cap (some (.int k i)) none i.toNat n (.inr ⟨k, by rw [← hi]⟩) (.inl ⟨rfl, rfl⟩) (by omega) hcap
  refine RW.val (v := .slice (if cap = i.toNat then p else p.map (·.add (i.toNat * sz))) (n - i.toNat) (cap - i.toNat)) rfl rfl hd (fun a ha => ?_) (kk _ ?_ (sub_block (by omega)))
  · simp only [execOp, ha.eval hx, Option.map_some, Option.map_none, ha.eval hy, Sem.run_bind, hr]; rfl
  · have h := hs.sub (a := i.toNat) (b := n) (m := cap) rfl (by omega) (Nat.le_refl _) hcap (Nat.le_refl _)
    rw [List.take_of_length_le (by rw [hs.1]; exact Nat.le_refl _)] at h
    rcases h with ⟨a1, a2, a3⟩
    refine ⟨a1, a2, ?_⟩
    rcases a3 with ⟨p0, hv, h0⟩ | ⟨g, off, cp, cur, e', fz, hv, r⟩
    · left; refine ⟨p0, ?_, h0⟩; simp only [Value.slice.injEq] at hv ⊢; refine ⟨?_, h0, ?_⟩
      · exact hv.1
      · exact hv.2.2
    · right; exact ⟨g, off, cp, cur, e', fz, hv, r⟩

/-- x[:i] of a row of the call's own -/
theorem RW.ownh {t e : TypeId} {z : Value} {sz b : Nat} [ht : Und P t (.slice e)] [Inf P e z sz b] {x y : Operand} {k : IntKind} {v : Value} {i : Int} {base n : Nat} {xs : List Value} (hx : f.ev x = some v) (hy : f.ev y = some (.int k i)) (hd : Nat.blt d f.n = true) (hs : w.ownsRow base e sz v n xs) (h0 : 0 ≤ i) (h1 : i ≤ n)
    (kk : ∀ v', w.ownsRow base e sz v' i.toNat (xs.take (i.toNat * sz)) → v'.ownBlock = v.ownBlock → RW M P ops Q rest (f.put d v') w) : RW M P ops Q (op1 d (.slice t x none (some y) none) ty pos af :: rest) f w := by
  have hi : i = (i.toNat : Int) := by omega
  have key : ∃ p cap, v = .slice p n cap ∧ n ≤ cap ∧ w.ownsRow base e sz (.slice p i.toNat cap) i.toNat (xs.take (i.toNat * sz)) := by
    have hle : i.toNat * sz ≤ n * sz := Nat.mul_le_mul_right _ (by omega)
    rcases hs.2 with ⟨rfl, rfl⟩ | ⟨g, cap, cur, rfl, hb, hg, hn, hm, hc, ht⟩
    · have : i.toNat = 0 := by omega
      rw [this]
      exact ⟨none, 0, rfl, Nat.le_refl _, by simp, .inl ⟨rfl, rfl⟩⟩
    · refine ⟨_, cap, rfl, hn, by rw [List.length_take, hs.1, Nat.min_eq_left hle], .inr ⟨g, cap, cur, rfl, hb, hg, by omega, hm, hc, ?_⟩⟩
      rw [← ht, List.take_take, Nat.min_eq_left hle]
  obtain ⟨p, cap, rfl, hcap, ho⟩ := key
  have hr := run_sub (P := P) (w := w) (t := t) (sz := sz) p n cap none (some (.int k i)) 0 i.toNat (.inl ⟨rfl, rfl⟩) (.inr ⟨k, by rw [← hi]⟩) (by omega) (by omega)
  have hp : (if cap = 0 then p else p.map (·.add (0 * sz))) = p := by
    cases p <;> simp [Addr.add]
  rw [hp] at hr
  refine RW.val rfl rfl hd (fun a ha => ?_) (kk _ ho (by cases p <;> rfl))
  simp only [execOp, ha.eval hx, Option.map_some, Option.map_none, ha.eval hy, Sem.run_bind, hr]; rfl

/-- string(b) -/
theorem Y.strb {s t e : TypeId} [hs : Und P s (.slice e)] [he : Und P e (.int .u8)] [ht : Und P t .string] {x : Operand} {v : Value} {l : List UInt8} (hx : f.ev x = some v) (h : Sl w 1 v l.length (bv l)) : Yd P f (op1 d (.convert s t x) ty pos af) (.string (B l)) w := by
  intro a ha
  rcases h.2.2 with ⟨p, rfl, h0⟩ | ⟨g, off, cp, cur, e', fz, rfl, hg, hn, _, ho, htk⟩
  · have : l = [] := List.eq_nil_of_length_eq_zero h0
    subst this
    have hr2 : ∀ q, (Conv.bytesToString (.slice q 0 0)).run P w = .ok (.string (B [])) w := by
      intro q
      cases q with
      | none => simp only [Conv.bytesToString, Sem.run_pure]; rfl
      | some a =>
        have := run_bytesToString (P := P) w a 0 0 [] (run_loadCells_list (P := P) w a [] (fun j u hu => by simp at hu))
        rw [foldl_push_bytes] at this
        exact this
    simp only [execOp, ha.eval hx, Sem.run_bind, run_convert_bytes_string w s t e _ _ _ hs.out he.out ht.out, hr2]
    rfl
  · have hr := run_loadCells_list (P := P) w ⟨g, off, none⟩ (bv l) (fun j u hu => by have := h.cell hu; simpa [Value.spot] using this)
    have hr2 := run_bytesToString (P := P) w ⟨g, off, none⟩ l.length cp (l.map fun c => (c.toNat : Int)) (by
      simp only [List.length_map] at hr; rw [hr]; congr 2; simp [List.map_map, Function.comp_def])
    rw [foldl_push_bytes] at hr2
    have hB : (⟨ByteArray.empty.data ++ ((l.map fun c => (c.toNat : Int)).map fun n => UInt8.ofNat n.toNat).toArray⟩ : ByteArray) = B l := by
      apply ByteArray.ext
      simp [Function.comp_def]
    rw [hB] at hr2
    simp only [execOp, ha.eval hx, Sem.run_bind, run_convert_bytes_string w s t e _ _ _ hs.out he.out ht.out, hr2]
    rfl

/-- A function that is entered when it is called. -/
class Ent (P : Program) (k : FuncId) : Prop where out : ∀ args w, (callFunc k args).run P w = .ok (.enter k args) w
theorem Ent.of {k : FuncId} {fn : Func} (hf : P.funcs[k]? = some fn) (hname : (fn.name == "runtime.NumGoroutine") = false) (hb : fn.body.isSome = true) : Ent P k :=
  ⟨fun args w => by
    have hn : fn.body.isNone = false := by cases h : fn.body <;> simp_all
    simp only [callFunc, Sem.run_bind, run_program, Result.andThen_ok, hf, hname, hn, Bool.false_eq_true, if_false, Sem.run_pure]⟩

def Fr.evs (f : Fr) : List Operand → Option (List Value)
  | [] => some []
  | x :: r => match f.ev x with
    | some v => match f.evs r with
      | some l => some (v :: l)
      | none => none
    | none => none

theorem Ag.evs {a : Act} (ha : Ag f a) : ∀ (xs : List Operand) (l : List Value), f.evs xs = some l → xs.map a.eval = l := by
  intro xs
  induction xs with
  | nil => intro l h; cases h; rfl
  | cons x r ih =>
    intro l h
    simp only [Fr.evs] at h
    cases hx : f.ev x with
    | none => simp [hx] at h
    | some v =>
      cases hr : f.evs r with
      | none => simp [hx, hr] at h
      | some l' =>
        simp only [hx, hr, Option.some.injEq] at h
        rw [← h, List.map_cons, ha.eval hx, ih l' hr]

def TypeDesc.isOne : TypeDesc → Bool
  | .struct _ => false
  | .array _ _ => false
  | _ => true
def TypeDesc.isMany : TypeDesc → Bool
  | .struct _ => true
  | .array _ _ => true
  | _ => false
theorem One.of {t : TypeId} {desc : TypeDesc} (h : P.underlying t = some desc) (hd : TypeDesc.isOne desc = true) {z : Value} {b : Nat} [Inf P t z 1 b] : One P t :=
  ⟨fun w => by cases desc <;> first | (simp [isAgg, run_underlying h]; done) | (simp [TypeDesc.isOne] at hd), fun w => run_sizeOf (P := P) (t := t) w⟩
theorem Many.of {t : TypeId} {desc : TypeDesc} (h : P.underlying t = some desc) (hd : TypeDesc.isMany desc = true) {z : Value} {n b : Nat} [Inf P t z n b] : Many P t n :=
  ⟨fun w => by cases desc <;> first | (simp [isAgg, run_underlying h]; done) | (simp [TypeDesc.isMany] at hd), fun w => run_sizeOf (P := P) (t := t) w⟩

/-- What a call leads to. -/
def After (M : Option (Option Nat)) (P : Program) (ops : Array Oper) (Q : Post) (rest : List Oper) (f : Fr) (d : Nat) : Ending → World → Prop
  | .returned v, w => RW M P ops Q rest (f.put d v) w
  | .panicked chain, w => Q (.panic chain) f w
  | .outgrown, _ => False
def After0 (M : Option (Option Nat)) (P : Program) (ops : Array Oper) (Q : Post) (rest : List Oper) (f : Fr) : Ending → World → Prop
  | .returned _, w => RW M P ops Q rest f w
  | .panicked chain, w => Q (.panic chain) f w
  | .outgrown, _ => False

theorem RW.fn {k : FuncId} [he : Ent P k] {xs : List Operand} {l : List Value} {at' : Array TypeId} (hv : f.evs xs = some l) (hd : Nat.blt d f.n = true) (h : Calls P k l.toArray w (After M P ops Q rest f d)) :
    RW M P ops Q (op1 d (.call { callee := .value (.func k), args := xs.toArray, argTypes := at' }) ty pos af :: rest) f w := by
  refine RW.call (args := l.toArray) rfl hd (fun a ha => ?_) h fun e w' hR => by cases e <;> exact hR
  simp [execOp, resolve, Act.eval, Deferred.ofValue, invoke, he.out, ha.evs xs l hv]
/-- The end of a body, by the results' form. -/
theorem FQ.none {fn : Func} {R : Ending → World → Prop} (hr : fn.results = #[]) (hd : f.ds = []) (h : R (.returned (.tuple #[])) w) : FQ P fn R .ret f w :=
  ⟨hd, _, fun a _ => results_none hr a.tmps P w, h⟩
theorem FQ.one {fn : Func} {R : Ending → World → Prop} {t : Nat} {v : Value} (hr : fn.results = #[.tmp t]) (hd : f.ds = []) (hv : look f.e t = some v) (h : R (.returned v) w) : FQ P fn R .ret f w :=
  ⟨hd, _, fun a ha => by rw [results_tmp hr, ha.slot t v hv], h⟩
theorem FQ.two {fn : Func} {R : Ending → World → Prop} {t u : Nat} {v v2 : Value} (hr : fn.results = #[.tmp t, .tmp u]) (hd : f.ds = []) (hv : look f.e t = some v) (hv2 : look f.e u = some v2) (h : R (.returned (.tuple #[v, v2])) w) : FQ P fn R .ret f w :=
  ⟨hd, _, fun a ha => by rw [results_tmp2 hr, ha.slot t v hv, ha.slot u v2 hv2], h⟩
theorem FQ.norm {fn : Func} {R : Ending → World → Prop} (h : FQ P fn R .ret f w) : FQ P fn R .normal f w := h
end
end Go.Proofs.YtjlkmdmpejpmpaaGreatDoor.H

namespace Go.Proofs.YtjlkmdmpejpmpaaGreatDoor.H
open Go.RowKit

section
variable {M : Option (Option Nat)} {P : Program} {ops : Array Oper} {Q : Post} {rest : List Oper} {f : Fr} {w : World} {d : Nat} {ty : TypeId} {pos : String} {af : Array Edge} {K : Fr → World → Prop}

theorem CL.done (h : Q .normal f w) : CL M P Q [] f w := h
theorem Ex.then {x : Nat} (h : Q (.exit x) f w) : thenK K Q (.exit x) f w := h
theorem Ex.hit {x : Nat} (h : K f w) : blockQ x K Q (.exit x) f w := by simp only [blockQ, beq_self]; exact h
theorem Ex.miss {x y : Nat} (hb : Nat.beq x y = false) (h : Q (.exit x) f w) : blockQ y K Q (.exit x) f w := by simp only [blockQ, hb]; exact h
theorem Rt.then (h : Q .ret f w) : thenK K Q .ret f w := h
theorem Rt.block {x : Nat} (h : Q .ret f w) : blockQ x K Q .ret f w := h
theorem Nm.then (h : K f w) : thenK K Q .normal f w := h
theorem Nm.block {x : Nat} (h : K f w) : blockQ x K Q .normal f w := h

theorem RW.nilw {cs : List Code} (l : List Nat) (h : CL M P Q cs ⟨f.n, f.ds, keep l f.e⟩ w) : RW M P ops (thenK (CL M P Q cs) Q) [] f w :=
  fun _ ha => lwp_nil ⟨_, ha.weaken (look_keep l f.e), h⟩

theorem RW.part {o : Oper} {j t : Nat} {b : Bool} {p : Prop} {_ : Decidable p} (_hg : o.guard = some (j, b)) (_hj : (ops[j]?).bind (·.dst) = some t) (hv : look f.e t = some (.bool (decide p)))
    (h1 : p → RW M P ops Q (o :: rest) (f.put t (.bool true)) w) (h2 : ¬ p → RW M P ops Q (o :: rest) (f.put t (.bool false)) w) : RW M P ops Q (o :: rest) f w := RW.splitP hv h1 h2
theorem Y.convN {s t : TypeId} {x : Operand} {k k1 : IntKind} {a : Int} {ds : TypeDesc} [hs : Und P s ds] [h1 : Und P t (.int k)] (hx : f.ev x = some (.int k1 a)) (hk : k.wrap a = a) : Yd P f (op1 d (.convert s t x) ty pos af) (.int k a) w := by
  have h := Y.conv (P := P) (w := w) (d := d) (ty := ty) (pos := pos) (af := af) (s := s) (t := t) hx (by rw [hs.out]; rfl)
  rw [hk] at h
  exact h

theorem Y.convW {s t : TypeId} {x : Operand} {k k1 : IntKind} {a : Int} {ds : TypeDesc} [hs : Und P s ds] [h1 : Und P t (.int k)] (hx : f.ev x = some (.int k1 a)) : Yd P f (op1 d (.convert s t x) ty pos af) (.int k (k.wrap a)) w :=
  Y.conv hx (by rw [hs.out]; rfl)

def looks (e : List (Nat × Value)) : List Nat → Option (List Value)
  | [] => some []
  | t :: r => match look e t with
    | some v => match looks e r with
      | some l => some (v :: l)
      | none => none
    | none => none

theorem looks_zip (e : List (Nat × Value)) : ∀ (l : List Nat) (vals : List Value), looks e l = some vals → ∀ t v, look (l.zip vals) t = some v → look e t = some v := by
  intro l
  induction l with
  | nil => intro vals _ t v hv; simp [look] at hv
  | cons k r ih =>
    intro vals h t v hv
    simp only [looks] at h
    cases hk : look e k with
    | none => simp [hk] at h
    | some u =>
      cases hr : looks e r with
      | none => simp [hk, hr] at h
      | some l' =>
        simp only [hk, hr, Option.some.injEq] at h
        subst h
        simp only [List.zip_cons_cons, look] at hv
        by_cases hkt : k = t
        · subst hkt; rw [beq_self] at hv; simp only at hv; rw [hk]; exact hv
        · rw [beq_ne hkt] at hv; exact ih l' hr t v hv

/-- A loop, by the slots that its rounds turn. -/
theorem CL.loopS {cs : List Code} {c : Code} (l : List Nat) (I : Nat → List Value → World → Prop) (m : Nat) (h0 : ∃ vals, looks f.e l = some vals ∧ I m vals w)
    (round : ∀ m vals w, I m vals w → CL M P (thenK (fun f' w' => ∃ m' vals', looks f'.e l = some vals' ∧ f'.n = f.n ∧ f'.ds = f.ds ∧ m' < m ∧ I m' vals' w') Q) [c] ⟨f.n, f.ds, l.zip vals⟩ w) : CL M P Q (.loop c :: cs) f w := by
  obtain ⟨vals, hv, hi⟩ := h0
  have hl : CL M P Q (.loop c :: cs) ⟨f.n, f.ds, l.zip vals⟩ w := by
    refine CL.loop (fun m f' w' => ∃ vals', f' = ⟨f.n, f.ds, l.zip vals'⟩ ∧ I m vals' w') m ⟨vals, rfl, hi⟩ fun m f' w' ⟨vals', hf, hi'⟩ => ?_
    subst hf
    intro a ha
    refine cwp_mono (round m vals' w' hi' a ha) fun x a' w2 q => ?_
    obtain ⟨f2, hf2, q⟩ := q
    cases x with
    | normal =>
      obtain ⟨m', v2, h1, hn, hds, h2, h3⟩ := q
      refine ⟨⟨f2.n, f2.ds, l.zip v2⟩, hf2.weaken (looks_zip f2.e l v2 h1), ?_⟩
      rw [hn, hds]
      exact ⟨m', h2, v2, rfl, h3⟩
    | _ => exact ⟨f2, hf2, q⟩
  exact fun a ha => hl a (ha.weaken (looks_zip f.e l vals hv))

/-- The address of an element. -/
theorem Y.idx {t e : TypeId} {z : Value} {sz b : Nat} [ht : Und P t (.slice e)] [Inf P e z sz b] {x y : Operand} {k : IntKind} {v : Value} {i : Int} {n : Nat} {xs : List Value} (hx : f.ev x = some v) (hy : f.ev y = some (.int k i)) (hs : Sl w sz v n xs) (h0 : 0 ≤ i) (h1 : i < n) : Yd P f (op1 d (.indexAddr t x y) ty pos af) (.pointer (some (Value.spot v (i.toNat * sz)))) w := by
  intro a ha
  have hsz := run_sizeOf (P := P) (t := e) w
  rcases hs.2.2 with ⟨_, rfl, h⟩ | ⟨g, off, cap, cur, e', fz, rfl, _⟩
  · omega
  · simp [execOp, ha.eval hx, ha.eval hy, Instr.indexAt, asIntOf, run_underlying ht.out, h0, h1, hsz, Value.spot]

/-- An element of one cell is read. -/
theorem RW.elem {t e t2 ty2 : TypeId} {pos2 : String} {af2 : Array Edge} {d1 : Nat} {z : Value} {b : Nat} [ht : Und P t (.slice e)] [Inf P e z 1 b] [One P t2] {x y : Operand} {k : IntKind} {v u : Value} {i : Int} {n : Nat} {xs : List Value} (hx : f.ev x = some v) (hy : f.ev y = some (.int k i)) (hd : Nat.blt d f.n = true) (hd1 : Nat.blt d1 f.n = true)
    (hs : Sl w 1 v n xs) (h0 : 0 ≤ i) (h1 : i < n) (hu : xs[i.toNat]? = some u)
    (kk : RW M P ops Q rest ((f.put d (.pointer (some (Value.spot v (i.toNat * 1))))).put d1 u) w) : RW M P ops Q (op1 d (.indexAddr t x y) ty pos af :: op1 d1 (.load t2 (.tmp d)) ty2 pos2 af2 :: rest) f w := by
  refine RW.y (Y.idx hx hy hs h0 h1) hd (RW.y (Y.load1 (a := Value.spot v (i.toNat * 1)) ?_ (by rw [Nat.mul_one]; exact hs.cell hu)) hd1 kk)
  simp [Fr.ev, Fr.put, look]
theorem RW.elemB {t e t2 ty2 : TypeId} {pos2 : String} {af2 : Array Edge} {d1 : Nat} {z : Value} {b : Nat} [ht : Und P t (.slice e)] [Inf P e z 1 b] [One P t2] {x y : Operand} {k : IntKind} {v : Value} {i : Int} {n : Nat} {l : List UInt8} (hx : f.ev x = some v) (hy : f.ev y = some (.int k i)) (hd : Nat.blt d f.n = true) (hd1 : Nat.blt d1 f.n = true)
    (hs : Sl w 1 v n (bv l)) (h0 : 0 ≤ i) (h1 : i < l.length)
    (kk : RW M P ops Q rest ((f.put d (.pointer (some (Value.spot v (i.toNat * 1))))).put d1 (vb (l.getD i.toNat 0))) w) : RW M P ops Q (op1 d (.indexAddr t x y) ty pos af :: op1 d1 (.load t2 (.tmp d)) ty2 pos2 af2 :: rest) f w := by
  have hn : n = l.length := by have := hs.1; simpa using this.symm
  have hlt : i.toNat < l.length := by omega
  refine RW.elem hx hy hd hd1 hs h0 (by omega) ?_ kk
  simp [hlt]
theorem RW.elemS {t e t2 ty2 : TypeId} {pos2 : String} {af2 : Array Edge} {d1 : Nat} {z : Value} {b : Nat} [ht : Und P t (.slice e)] [Inf P e z 1 b] [One P t2] {x y : Operand} {k : IntKind} {v : Value} {i : Int} {n : Nat} {l : List (List UInt8)} (hx : f.ev x = some v) (hy : f.ev y = some (.int k i)) (hd : Nat.blt d f.n = true) (hd1 : Nat.blt d1 f.n = true)
    (hs : Sl w 1 v n (sv l)) (h0 : 0 ≤ i) (h1 : i < l.length)
    (kk : RW M P ops Q rest ((f.put d (.pointer (some (Value.spot v (i.toNat * 1))))).put d1 (vs (l.getD i.toNat []))) w) : RW M P ops Q (op1 d (.indexAddr t x y) ty pos af :: op1 d1 (.load t2 (.tmp d)) ty2 pos2 af2 :: rest) f w := by
  have hn : n = l.length := by have := hs.1; simpa using this.symm
  have hlt : i.toNat < l.length := by omega
  refine RW.elem hx hy hd hd1 hs h0 (by omega) ?_ kk
  simp [hlt]
end
end Go.Proofs.YtjlkmdmpejpmpaaGreatDoor.H

namespace Go.Proofs.YtjlkmdmpejpmpaaGreatDoor.H
open Go.RowKit

/-- A post that does not look at the frame where there is a panic. -/
class PI (Q : Post) : Prop where out : ∀ c f g w, f.ds = g.ds → Q (.panic c) f w → Q (.panic c) g w
instance {P : Program} {fn : Func} {R : Ending → World → Prop} : PI (FQ P fn R) := ⟨fun _ _ _ _ hd h => ⟨hd ▸ h.1, h.2⟩⟩
instance {K : Fr → World → Prop} {Q : Post} [h : PI Q] : PI (thenK K Q) := ⟨fun c f g w hd hq => h.out c f g w hd hq⟩
instance {k : Nat} {K : Fr → World → Prop} {Q : Post} [h : PI Q] : PI (blockQ k K Q) := ⟨fun c f g w hd hq => h.out c f g w hd hq⟩

theorem PI.lift {Q : Post} [h : PI Q] (d : Option Tmp) (v : Value) : ∀ c a w, lift Q (.panic c) (a.put d v) w → lift Q (.panic c) a w := by
  intro c a w ⟨f, hf, hq⟩
  have hds : a.defers = f.ds := by
    have := hf.defers
    cases d <;> exact this
  refine ⟨⟨a.tmps.size, a.defers, []⟩, ⟨rfl, rfl, fun t v hv => by simp [look] at hv⟩, h.out c f _ w hds.symm hq⟩

section
variable {P : Program} {ops : Array Oper} {Q : Post} {f : Fr} {w : World} {S : World → Prop}

def AW (P : Program) (ops : Array Oper) (Q : Post) (S : World → Prop) (n : Nat) (l : Array Bool) (f : Fr) (w : World) : Prop := ∀ a, Ag f a → wpAnyH P .any ops (lift Q) S n l a w

theorem CL.draw {cs : List Code} {id : Nat} (S : World → Prop) (hm : P.follows .mixedOrders = true) (h : ∀ w', w'.heap = w.heap → K0 w w' → AW P ops (thenK (CL none P Q cs) Q) S ops.size (Array.replicate ops.size false) f w') : CL none P Q (.region id ops true :: cs) f w :=
  fun a ha => wp_region_held hm (h { w with drawn := w.drawn + 1 } rfl (Kept.drew w) a ha)

theorem AW.take (i : Nat) {op : Op} {ty : TypeId} {pos : String} {af : Array Edge} {d : Nat} {v : Value} {n : Nat} {l : Array Bool} (hi : ops[i]? = some { dst := some d, op := op, type := ty, pos := pos, after := af, guard := none }) (hs : Region.noSelect ops = true) (hf : Region.free .any ops l i = true) (hr : (Region.ready .any ops l).contains i = true)
    [PI Q] (hd : Nat.blt d f.n = true) (hS : S w) (hy : ∀ w, S w → Yd P f { dst := some d, op := op, type := ty, pos := pos, after := af, guard := none } v w) (k : AW P ops Q S n (l.setIfInBounds i true) (f.put d v) w) : AW P ops Q S (n + 1) l f w := by
  intro a ha
  exact wpAnyH_take hi hs hf hr (PI.lift _ _) (.inl ⟨by simp [Region.wanted], fun w' hw' => hy w' hw' a ha⟩) hS (k _ (ha.put v hd))

theorem AW.takeOn (i : Nat) {op : Op} {ty : TypeId} {pos : String} {af : Array Edge} {d j t : Nat} {b : Bool} {v : Value} {n : Nat} {l : Array Bool} (hi : ops[i]? = some { dst := some d, op := op, type := ty, pos := pos, after := af, guard := some (j, b) }) (hs : Region.noSelect ops = true) (hf : Region.free .any ops l i = true) (hr : (Region.ready .any ops l).contains i = true)
    [PI Q] (hj : (ops[j]?).bind (·.dst) = some t) (hn : Nat.blt t f.n = true) (hv : look f.e t = some (.bool b)) (hd : Nat.blt d f.n = true) (hS : S w) (hy : ∀ w, S w → Yd P f { dst := some d, op := op, type := ty, pos := pos, after := af, guard := none } v w) (k : AW P ops Q S n (l.setIfInBounds i true) (f.put d v) w) : AW P ops Q S (n + 1) l f w := by
  intro a ha
  exact wpAnyH_take hi hs hf hr (PI.lift _ _) (.inl ⟨by simp [Region.wanted, yields ha hj hn hv], fun w' hw' => hy w' hw' a ha⟩) hS (k _ (ha.put v hd))

theorem AW.takeOff (i : Nat) {op : Op} {ty : TypeId} {pos : String} {af : Array Edge} {d j t : Nat} {b c : Bool} {n : Nat} {l : Array Bool} (hi : ops[i]? = some { dst := some d, op := op, type := ty, pos := pos, after := af, guard := some (j, b) }) (hs : Region.noSelect ops = true) (hf : Region.free .any ops l i = true) (hr : (Region.ready .any ops l).contains i = true)
    [PI Q] (hj : (ops[j]?).bind (·.dst) = some t) (hn : Nat.blt t f.n = true) (hv : look f.e t = some (.bool c)) (hbc : (!c) = b) (hd : Nat.blt d f.n = true) (hS : S w) (k : AW P ops Q S n (l.setIfInBounds i true) (f.put d undef) w) : AW P ops Q S (n + 1) l f w := by
  intro a ha
  subst hbc
  exact wpAnyH_take hi hs hf hr (PI.lift _ _) (.inr ⟨by cases c <;> simp [Region.wanted, yields ha hj hn hv], rfl⟩) hS (k _ (ha.put undef hd))

theorem AW.donew {cs : List Code} {n : Nat} {l : Array Bool} (g : List Nat) (hr : Region.ready .any ops l = []) (h : CL none P Q cs ⟨f.n, f.ds, keep g f.e⟩ w) : AW P ops (thenK (CL none P Q cs) Q) S n l f w :=
  fun _ ha => wpAnyH_done hr ⟨_, ha.weaken (look_keep g f.e), h⟩ _

theorem held_mono {S S' : World → Prop} (h : ∀ w, S' w → S w) {md : Region.Mode} {Q : Exit → Act → World → Prop} : ∀ (n : Nat) (l : Array Bool) (a : Act) (w : World), wpAnyH P md ops Q S' n l a w → wpAnyH P md ops Q S n l a w
  | 0, _, _, _, hh => hh
  | n + 1, _, _, _, hh => ⟨hh.1, fun i hi => wpOp_mono (fun a' w' hk => ⟨h w' hk.1, held_mono h n _ a' w' hk.2⟩) (hh.2 i hi)⟩
theorem AW.more {S' : World → Prop} (h : ∀ w, S' w → S w) {n : Nat} {l : Array Bool} (k : AW P ops Q S' n l f w) : AW P ops Q S n l f w :=
  fun a ha => held_mono h n l a w (k a ha)

theorem oper_mono {o : Oper} {a : Act} {K K' : Act → World → Prop} {Q Q' : Exit → Act → World → Prop} (h : ∀ a w, K a w → K' a w) (hq : ∀ c a w, Q (.panic c) a w → Q' (.panic c) a w) (ho : ∀ a w, Q .outgrown a w → Q' .outgrown a w) {w : World} (hh : o.wp P a w K Q) : o.wp P a w K' Q' := by
  unfold Oper.wp at *
  generalize (execOp a.eval o).run P w = r at *
  match r, hh with
  | .ok (.value v) w', hh => exact h _ _ hh
  | .ok .skip w', hh => exact h _ _ hh
  | .ok (.defer d) w', hh => exact h _ _ hh
  | .ok (.enter f args) w', hh =>
    refine Calls.mono hh fun e w'' he => ?_
    cases e with
    | returned v => exact h _ _ he
    | panicked c => exact hq _ _ _ he
    | outgrown => obtain ⟨a0, w0, h0⟩ := he; exact ⟨a0, w0, ho _ _ h0⟩
  | .ok (.row row args) w', hh => exact Rows.mono hh fun v w'' he => h _ _ he
  | .halt (.panic v) w', hh => exact hq _ _ _ hh

/-- The one that may come next is done, by the rules of a region in its order. -/
theorem AW.next (i : Nat) {o : Oper} {n : Nat} {l : Array Bool} (hi : ops[i]? = some o) (hr : Region.ready .any ops l = [i]) (k : RW none P ops (thenK (fun f w => S w ∧ AW P ops Q S n (l.setIfInBounds i true) f w) Q) [o] f w) : AW P ops Q S (n + 1) l f w := by
  intro a ha
  refine wpAnyH_all hr (by simp) fun j hj => ?_
  rw [List.mem_singleton.1 hj]
  have h : wpList P ops _ [o] a w := k a ha
  unfold wpList at h
  unfold wpOp
  simp only [hi]
  have hq : ∀ x a w, lift (thenK (fun f w => S w ∧ AW P ops Q S n (l.setIfInBounds i true) f w) Q) x a w → match x with
      | .normal => S w ∧ wpAnyH P .any ops (lift Q) S n (l.setIfInBounds i true) a w
      | x => lift Q x a w := by
    intro x a w ⟨g, hg, q⟩
    cases x with
    | normal => exact ⟨q.1, q.2 a hg⟩
    | _ => exact ⟨g, hg, q⟩
  by_cases hw : Region.wanted o (yielded ops a.tmps) = true
  · rw [if_pos hw] at h
    simp only [hw, if_true]
    rcases h with h | ⟨h1, a0, w0, h2⟩
    · left
      exact oper_mono (fun a w hk => hq .normal a w hk) (fun c a w hk => hq (.panic c) a w hk) (fun a w hk => hq .outgrown a w hk) h
    · exact .inr ⟨h1, a0, w0, hq .outgrown a0 w0 h2⟩
  · rw [if_neg hw] at h
    simp only [hw, if_false, Bool.false_eq_true]
    exact hq .normal _ _ h
end
end Go.Proofs.YtjlkmdmpejpmpaaGreatDoor.H

namespace Go.Proofs.YtjlkmdmpejpmpaaGreatDoor.H
open Go.RowKit

section
variable {M : Option (Option Nat)} {P : Program} {ops : Array Oper} {Q : Post} {rest : List Oper} {f : Fr} {w : World} {d : Nat} {ty : TypeId} {pos : String} {af : Array Edge}

theorem Sl.cells {sz : Nat} {v : Value} {n : Nat} {xs : List Value} (h : Sl w sz v n xs) : v.cells = #[v] := by
  obtain ⟨p, cap, rfl, _⟩ := h.shape; rfl
theorem Sl.one {sz : Nat} {v : Value} {n : Nat} {xs : List Value} (h : Sl w sz v n xs) : v.oneCell' = true := by
  obtain ⟨p, cap, rfl, _⟩ := h.shape; rfl
theorem Sl.shape' {sz : Nat} {v : Value} {n : Nat} {xs : List Value} (h : Sl w sz v n xs) : ∃ p cap, v = .slice p n cap := by
  obtain ⟨p, cap, hv, _⟩ := h.shape; exact ⟨p, cap, hv⟩

theorem Y.eqsn {t e yt : TypeId} [h : Und P t (.slice e)] {x y : Operand} {p : Option Addr} {n c : Nat} (hx : f.ev x = some (.slice p n c)) (hy : f.ev y = some (.slice none 0 0)) : Yd P f (op1 d (.binOp .eql t x y yt) ty pos af) (.bool p.isNone) w :=
  Y.bin hx hy (by simp) (by simp) (Lib.run_eql_slice_nil w t e p n c 0 0 h.out)

/-- A slice's length, whatever the slice. -/
theorem Y.lenx {t e : TypeId} [ht : Und P t (.slice e)] {x : Operand} {v : Value} {sz n : Nat} {xs : List Value} (hx : f.ev x = some v) (h : Sl w sz v n xs) : Yd P f (op1 d (.call { callee := .builtin .len, args := #[x], argTypes := #[t] }) ty pos af) (.int .i64 (n : Int)) w := by
  obtain ⟨p, cap, rfl⟩ := h.shape'
  exact Y.lenv hx

theorem RW.elemM {α : Type} [Inhabited α] {t e t2 ty2 : TypeId} {pos2 : String} {af2 : Array Edge} {d1 : Nat} {z : Value} {b : Nat} [ht : Und P t (.slice e)] [Inf P e z 1 b] [One P t2] {x y : Operand} {k : IntKind} {v : Value} {i : Int} {n : Nat} {l : List α} {enc : α → Value} (hx : f.ev x = some v) (hy : f.ev y = some (.int k i)) (hd : Nat.blt d f.n = true) (hd1 : Nat.blt d1 f.n = true)
    (hs : Sl w 1 v n (l.map enc)) (h0 : 0 ≤ i) (h1 : i < l.length)
    (kk : RW M P ops Q rest ((f.put d (.pointer (some (Value.spot v (i.toNat * 1))))).put d1 (enc (l.getD i.toNat default))) w) : RW M P ops Q (op1 d (.indexAddr t x y) ty pos af :: op1 d1 (.load t2 (.tmp d)) ty2 pos2 af2 :: rest) f w := by
  have hn : n = l.length := by have := hs.1; simpa using this.symm
  have hlt : i.toNat < l.length := by omega
  refine RW.elem hx hy hd hd1 hs h0 (by omega) ?_ kk
  simp [hlt]

/-- The same, the reading under a guard that holds. -/
theorem RW.elemOn {t e t2 ty2 : TypeId} {pos2 : String} {af2 : Array Edge} {d1 j s : Nat} {c : Bool} {z : Value} {b : Nat} [ht : Und P t (.slice e)] [Inf P e z 1 b] [One P t2] {x y : Operand} {k : IntKind} {v u : Value} {i : Int} {n : Nat} {xs : List Value} (hx : f.ev x = some v) (hy : f.ev y = some (.int k i)) (hd : Nat.blt d f.n = true) (hd1 : Nat.blt d1 f.n = true)
    (hs : Sl w 1 v n xs) (h0 : 0 ≤ i) (h1 : i < n) (hu : xs[i.toNat]? = some u) (hj : (ops[j]?).bind (·.dst) = some s) (hn : Nat.blt s f.n = true) (hv : look (f.put d (.pointer (some (Value.spot v (i.toNat * 1))))).e s = some (.bool c))
    (kk : RW M P ops Q rest ((f.put d (.pointer (some (Value.spot v (i.toNat * 1))))).put d1 u) w) : RW M P ops Q (op1 d (.indexAddr t x y) ty pos af :: { dst := some d1, op := .load t2 (.tmp d), type := ty2, pos := pos2, after := af2, guard := some (j, c) } :: rest) f w := by
  refine RW.y (Y.idx hx hy hs h0 h1) hd (RW.on hj hn hv (RW.y (Y.load1 (a := Value.spot v (i.toNat * 1)) ?_ (by rw [Nat.mul_one]; exact hs.cell hu)) hd1 kk))
  simp [Fr.ev, Fr.put, look]
theorem RW.elemBOn {t e t2 ty2 : TypeId} {pos2 : String} {af2 : Array Edge} {d1 j s : Nat} {c : Bool} {z : Value} {b : Nat} [ht : Und P t (.slice e)] [Inf P e z 1 b] [One P t2] {x y : Operand} {k : IntKind} {v : Value} {i : Int} {n : Nat} {l : List UInt8} (hx : f.ev x = some v) (hy : f.ev y = some (.int k i)) (hd : Nat.blt d f.n = true) (hd1 : Nat.blt d1 f.n = true)
    (hs : Sl w 1 v n (bv l)) (h0 : 0 ≤ i) (h1 : i < l.length) (hj : (ops[j]?).bind (·.dst) = some s) (hn : Nat.blt s f.n = true) (hv : look (f.put d (.pointer (some (Value.spot v (i.toNat * 1))))).e s = some (.bool c))
    (kk : RW M P ops Q rest ((f.put d (.pointer (some (Value.spot v (i.toNat * 1))))).put d1 (vb (l.getD i.toNat 0))) w) : RW M P ops Q (op1 d (.indexAddr t x y) ty pos af :: { dst := some d1, op := .load t2 (.tmp d), type := ty2, pos := pos2, after := af2, guard := some (j, c) } :: rest) f w := by
  have hn' : n = l.length := by have := hs.1; simpa using this.symm
  have hlt : i.toNat < l.length := by omega
  refine RW.elemOn hx hy hd hd1 hs h0 (by omega) ?_ hj hn hv kk
  simp [hlt]

/-- A struct built. -/
class StructT (P : Program) (t : TypeId) (pl : outParam (Array (Nat × Nat))) (z : outParam (Array Value)) : Prop where
  out : ∀ w parts, (Instr.build t parts).run P w = match Instr.fill (pl[·]?) z parts.toList with
    | some c => .ok (.agg c) w
    | none => .halt (.stuck "build: no such field, or a part of the wrong size") w
theorem StructT.of {t : TypeId} {fs : Array Field} (h : P.underlying t = some (.struct fs)) {zv : Value} {sz b : Nat} [Inf P t zv sz b] {pl : Array (Nat × Nat)} {z : Array Value} (hz : zv.cells = z)
    (hm : ∀ w, (fs.mapM (fun (x : Field) => (do pure (x.offset, ← sizeOf x.type) : Sem (Nat × Nat)))).run P w = .ok pl w) : StructT P t pl z :=
  ⟨fun w parts => by
    have h2 := run_zeroValue (P := P) (t := t) w
    simp only [Instr.build, Sem.run_bind, h2, Result.andThen_ok, hz, run_underlying h, hm]
    cases Instr.fill (pl[·]?) z parts.toList <;> rfl⟩
theorem Y.build {t : TypeId} {pl : Array (Nat × Nat)} {z : Array Value} [h : StructT P t pl z] {ps : List (Nat × Operand)} {l : List Value} {c : Array Value} (hx : f.evs (ps.map (·.2)) = some l) (hc : Instr.fill (pl[·]?) z ((ps.map (·.1)).zip l) = some c) :
    Yd P f (op1 d (.build t ps.toArray) ty pos af) (.agg c) w := by
  intro a ha
  have he := ha.evs _ _ hx
  have hp : (ps.toArray.map fun (i, x) => (i, a.eval x)).toList = (ps.map (·.1)).zip l := by
    rw [← he]
    simp only [List.map_toArray, List.map_map, List.zip_map', Function.comp_def]
  simp only [execOp, Sem.run_bind, h.out, hp, hc]
  rfl

/-- A closure made, a call of a closure. -/
theorem Y.makeFunc {fn : Fn} {xs ys : List Operand} {l l' : List Value} (hx : f.evs xs = some l) (hy : f.evs ys = some l') : Yd P f (op1 d (.makeFunc fn xs.toArray ys.toArray) ty pos af) (.func fn l.toArray l'.toArray) w := by
  intro a ha
  simp [execOp, Instr.makeFunc, ha.evs xs l hx, ha.evs ys l' hy]
theorem RW.fnv {k : FuncId} [he : Ent P k] {x : Operand} {xs : List Operand} {l cap : List Value} {at' : Array TypeId} (hf : f.ev x = some (.func (.func k) #[] cap.toArray)) (hv : f.evs xs = some l) (hd : Nat.blt d f.n = true) (h : Calls P k (l ++ cap).toArray w (After M P ops Q rest f d)) :
    RW M P ops Q (op1 d (.call { callee := .value x, args := xs.toArray, argTypes := at' }) ty pos af :: rest) f w := by
  refine RW.call (args := (l ++ cap).toArray) rfl hd (fun a ha => ?_) h fun e w' hR => by cases e <;> exact hR
  simp [execOp, resolve, ha.eval hf, Deferred.ofValue, invoke, he.out, ha.evs xs l hv]

/-- A value put into an interface. -/
class Conc (P : Program) (t : TypeId) : Prop where out : P.concrete t = true
/-- The end of a body that defers. -/
def DQ (P : Program) (fn : Func) (R : Ending → World → Prop) : Post
  | .normal, f, w | .ret, f, w => ∀ a, Ag f a → Leaves P fn a.tmps R f.ds .returning w
  | .panic chain, f, w => ∀ a, Ag f a → Leaves P fn a.tmps R f.ds (.panicking chain) w
  | _, _, _ => False
theorem Y.load1A {t : TypeId} [h : One P t] {x : Operand} {g o : Nat} {v : Value} (hx : f.ev x = some (.pointer (some ⟨g, o, none⟩))) (hc : w.cell? ⟨g, o, none⟩ = some v) : Yd P f (op1 d (.load t x) ty pos af) v w := Y.load1 hx hc

end
end Go.Proofs.YtjlkmdmpejpmpaaGreatDoor.H

namespace Go.Proofs.YtjlkmdmpejpmpaaGreatDoor.H
open Go.RowKit
section
variable {M : Option (Option Nat)} {P : Program} {ops : Array Oper} {Q : Post} {rest : List Oper} {f : Fr} {w : World} {d : Nat} {ty : TypeId} {pos : String} {af : Array Edge}

/-- x.(T), v, ok -/
class NoIface (P : Program) (t : TypeId) : Prop where out : ∃ d, P.underlying t = some d ∧ ∀ ms, d ≠ .interface ms
/-- an interface value against nil -/
class IfaceT (P : Program) (t : TypeId) : Prop where out : P.underlying t = some (.interface (P.methodsAt t))
end
end Go.Proofs.YtjlkmdmpejpmpaaGreatDoor.H

set_option maxRecDepth 100000
namespace Go.Proofs.YtjlkmdmpejpmpaaGreatDoor.H
instance : Inf Tryz.prog 1 (.nilFunc) 1 8 := ⟨by kernel_rfl⟩
instance : One Tryz.prog 1 := One.of Tryz.underlying1 rfl
instance : NoIface Tryz.prog 1 := ⟨_, Tryz.underlying1, by intro ms h; cases h⟩
instance : Conc Tryz.prog 1 := ⟨by kernel_rfl⟩
instance : Und Tryz.prog 2 (.int .i64) := ⟨Tryz.underlying2⟩
instance : Inf Tryz.prog 2 (.int .i64 0) 1 8 := ⟨by kernel_rfl⟩
instance : One Tryz.prog 2 := One.of Tryz.underlying2 rfl
instance : NoIface Tryz.prog 2 := ⟨_, Tryz.underlying2, by intro ms h; cases h⟩
instance : Conc Tryz.prog 2 := ⟨by kernel_rfl⟩
instance : Und Tryz.prog 3 (.int .i64) := ⟨Tryz.underlying3⟩
instance : Inf Tryz.prog 3 (.int .i64 0) 1 8 := ⟨by kernel_rfl⟩
instance : One Tryz.prog 3 := One.of Tryz.underlying3 rfl
instance : NoIface Tryz.prog 3 := ⟨_, Tryz.underlying3, by intro ms h; cases h⟩
instance : Conc Tryz.prog 3 := ⟨by kernel_rfl⟩
instance : Und Tryz.prog 4 (.bool) := ⟨Tryz.underlying4⟩
instance : Inf Tryz.prog 4 (.bool false) 1 1 := ⟨by kernel_rfl⟩
instance : One Tryz.prog 4 := One.of Tryz.underlying4 rfl
instance : NoIface Tryz.prog 4 := ⟨_, Tryz.underlying4, by intro ms h; cases h⟩
instance : Conc Tryz.prog 4 := ⟨by kernel_rfl⟩
instance : Und Tryz.prog 5 (.int .u8) := ⟨Tryz.underlying5⟩
instance : Inf Tryz.prog 5 (.int .u8 0) 1 1 := ⟨by kernel_rfl⟩
instance : One Tryz.prog 5 := One.of Tryz.underlying5 rfl
instance : NoIface Tryz.prog 5 := ⟨_, Tryz.underlying5, by intro ms h; cases h⟩
instance : Conc Tryz.prog 5 := ⟨by kernel_rfl⟩
instance : Und Tryz.prog 6 (.int .u8) := ⟨Tryz.underlying6⟩
instance : Inf Tryz.prog 6 (.int .u8 0) 1 1 := ⟨by kernel_rfl⟩
instance : One Tryz.prog 6 := One.of Tryz.underlying6 rfl
instance : NoIface Tryz.prog 6 := ⟨_, Tryz.underlying6, by intro ms h; cases h⟩
instance : Conc Tryz.prog 6 := ⟨by kernel_rfl⟩
instance : Inf Tryz.prog 7 (Value.agg #[.int .i64 0, .int .i64 0, .bool false, .int .u8 0]) 4 24 := ⟨by kernel_rfl⟩
instance : Many Tryz.prog 7 4 := Many.of Tryz.underlying7 rfl
instance : NoIface Tryz.prog 7 := ⟨_, Tryz.underlying7, by intro ms h; cases h⟩
instance : StructT Tryz.prog 7 #[(0, 1), (1, 1), (2, 1), (3, 1)] (Value.agg #[.int .i64 0, .int .i64 0, .bool false, .int .u8 0]).cells := StructT.of Tryz.underlying7 rfl (by intro w; simp [run_sizeOf])
instance : Conc Tryz.prog 7 := ⟨by kernel_rfl⟩
instance : Fld Tryz.prog 7 0 0 2 := ⟨⟨_, _, Tryz.underlying7, rfl, rfl, rfl⟩⟩
instance : Fld Tryz.prog 7 1 1 3 := ⟨⟨_, _, Tryz.underlying7, rfl, rfl, rfl⟩⟩
instance : Fld Tryz.prog 7 2 2 4 := ⟨⟨_, _, Tryz.underlying7, rfl, rfl, rfl⟩⟩
instance : Fld Tryz.prog 7 3 3 6 := ⟨⟨_, _, Tryz.underlying7, rfl, rfl, rfl⟩⟩
instance : Inf Tryz.prog 8 (Value.agg #[.int .i64 0, .int .i64 0, .bool false, .int .u8 0]) 4 24 := ⟨by kernel_rfl⟩
instance : Many Tryz.prog 8 4 := Many.of Tryz.underlying8 rfl
instance : NoIface Tryz.prog 8 := ⟨_, Tryz.underlying8, by intro ms h; cases h⟩
instance : StructT Tryz.prog 8 #[(0, 1), (1, 1), (2, 1), (3, 1)] (Value.agg #[.int .i64 0, .int .i64 0, .bool false, .int .u8 0]).cells := StructT.of Tryz.underlying8 rfl (by intro w; simp [run_sizeOf])
instance : Conc Tryz.prog 8 := ⟨by kernel_rfl⟩
instance : Fld Tryz.prog 8 0 0 2 := ⟨⟨_, _, Tryz.underlying8, rfl, rfl, rfl⟩⟩
instance : Fld Tryz.prog 8 1 1 3 := ⟨⟨_, _, Tryz.underlying8, rfl, rfl, rfl⟩⟩
instance : Fld Tryz.prog 8 2 2 4 := ⟨⟨_, _, Tryz.underlying8, rfl, rfl, rfl⟩⟩
instance : Fld Tryz.prog 8 3 3 6 := ⟨⟨_, _, Tryz.underlying8, rfl, rfl, rfl⟩⟩
instance : Und Tryz.prog 9 (.string) := ⟨Tryz.underlying9⟩
instance : Inf Tryz.prog 9 (.string (B [])) 1 16 := ⟨by kernel_rfl⟩
instance : One Tryz.prog 9 := One.of Tryz.underlying9 rfl
instance : NoIface Tryz.prog 9 := ⟨_, Tryz.underlying9, by intro ms h; cases h⟩
instance : Conc Tryz.prog 9 := ⟨by kernel_rfl⟩
instance : Und Tryz.prog 10 (.string) := ⟨Tryz.underlying10⟩
instance : Inf Tryz.prog 10 (.string (B [])) 1 16 := ⟨by kernel_rfl⟩
instance : One Tryz.prog 10 := One.of Tryz.underlying10 rfl
instance : NoIface Tryz.prog 10 := ⟨_, Tryz.underlying10, by intro ms h; cases h⟩
instance : Conc Tryz.prog 10 := ⟨by kernel_rfl⟩
instance : Und Tryz.prog 11 (.string) := ⟨Tryz.underlying11⟩
instance : Inf Tryz.prog 11 (.string (B [])) 1 16 := ⟨by kernel_rfl⟩
instance : One Tryz.prog 11 := One.of Tryz.underlying11 rfl
instance : NoIface Tryz.prog 11 := ⟨_, Tryz.underlying11, by intro ms h; cases h⟩
instance : Conc Tryz.prog 11 := ⟨by kernel_rfl⟩
instance : Und Tryz.prog 12 (.int .u64) := ⟨Tryz.underlying12⟩
instance : Inf Tryz.prog 12 (.int .u64 0) 1 8 := ⟨by kernel_rfl⟩
instance : One Tryz.prog 12 := One.of Tryz.underlying12 rfl
instance : NoIface Tryz.prog 12 := ⟨_, Tryz.underlying12, by intro ms h; cases h⟩
instance : Conc Tryz.prog 12 := ⟨by kernel_rfl⟩
instance : Inf Tryz.prog 13 (Value.agg #[.string (B []), .int .u64 0]) 2 24 := ⟨by kernel_rfl⟩
instance : Many Tryz.prog 13 2 := Many.of Tryz.underlying13 rfl
instance : NoIface Tryz.prog 13 := ⟨_, Tryz.underlying13, by intro ms h; cases h⟩
instance : StructT Tryz.prog 13 #[(0, 1), (1, 1)] (Value.agg #[.string (B []), .int .u64 0]).cells := StructT.of Tryz.underlying13 rfl (by intro w; simp [run_sizeOf])
instance : Conc Tryz.prog 13 := ⟨by kernel_rfl⟩
instance : Fld Tryz.prog 13 0 0 9 := ⟨⟨_, _, Tryz.underlying13, rfl, rfl, rfl⟩⟩
instance : Fld Tryz.prog 13 1 1 12 := ⟨⟨_, _, Tryz.underlying13, rfl, rfl, rfl⟩⟩
instance : Inf Tryz.prog 14 (Value.agg #[.string (B []), .int .u64 0]) 2 24 := ⟨by kernel_rfl⟩
instance : Many Tryz.prog 14 2 := Many.of Tryz.underlying14 rfl
instance : NoIface Tryz.prog 14 := ⟨_, Tryz.underlying14, by intro ms h; cases h⟩
instance : StructT Tryz.prog 14 #[(0, 1), (1, 1)] (Value.agg #[.string (B []), .int .u64 0]).cells := StructT.of Tryz.underlying14 rfl (by intro w; simp [run_sizeOf])
instance : Conc Tryz.prog 14 := ⟨by kernel_rfl⟩
instance : Fld Tryz.prog 14 0 0 9 := ⟨⟨_, _, Tryz.underlying14, rfl, rfl, rfl⟩⟩
instance : Fld Tryz.prog 14 1 1 12 := ⟨⟨_, _, Tryz.underlying14, rfl, rfl, rfl⟩⟩
instance : Und Tryz.prog 15 (.pointer 199) := ⟨Tryz.underlying15⟩
instance : Inf Tryz.prog 15 (.pointer none) 1 8 := ⟨by kernel_rfl⟩
instance : One Tryz.prog 15 := One.of Tryz.underlying15 rfl
instance : NoIface Tryz.prog 15 := ⟨_, Tryz.underlying15, by intro ms h; cases h⟩
instance : Conc Tryz.prog 15 := ⟨by kernel_rfl⟩
instance : Und Tryz.prog 16 (.pointer 202) := ⟨Tryz.underlying16⟩
instance : Inf Tryz.prog 16 (.pointer none) 1 8 := ⟨by kernel_rfl⟩
instance : One Tryz.prog 16 := One.of Tryz.underlying16 rfl
instance : NoIface Tryz.prog 16 := ⟨_, Tryz.underlying16, by intro ms h; cases h⟩
instance : Conc Tryz.prog 16 := ⟨by kernel_rfl⟩
instance : Und Tryz.prog 17 (.pointer 210) := ⟨Tryz.underlying17⟩
instance : Inf Tryz.prog 17 (.pointer none) 1 8 := ⟨by kernel_rfl⟩
instance : One Tryz.prog 17 := One.of Tryz.underlying17 rfl
instance : NoIface Tryz.prog 17 := ⟨_, Tryz.underlying17, by intro ms h; cases h⟩
instance : Conc Tryz.prog 17 := ⟨by kernel_rfl⟩
instance : Inf Tryz.prog 18 (Value.agg #[.pointer none]) 1 8 := ⟨by kernel_rfl⟩
instance : Many Tryz.prog 18 1 := Many.of Tryz.underlying18 rfl
instance : NoIface Tryz.prog 18 := ⟨_, Tryz.underlying18, by intro ms h; cases h⟩
instance : StructT Tryz.prog 18 #[(0, 1)] (Value.agg #[.pointer none]).cells := StructT.of Tryz.underlying18 rfl (by intro w; simp [run_sizeOf])
instance : Conc Tryz.prog 18 := ⟨by kernel_rfl⟩
instance : Fld Tryz.prog 18 0 0 17 := ⟨⟨_, _, Tryz.underlying18, rfl, rfl, rfl⟩⟩
instance : Inf Tryz.prog 19 (Value.agg #[.pointer none]) 1 8 := ⟨by kernel_rfl⟩
instance : Many Tryz.prog 19 1 := Many.of Tryz.underlying19 rfl
instance : NoIface Tryz.prog 19 := ⟨_, Tryz.underlying19, by intro ms h; cases h⟩
instance : StructT Tryz.prog 19 #[(0, 1)] (Value.agg #[.pointer none]).cells := StructT.of Tryz.underlying19 rfl (by intro w; simp [run_sizeOf])
instance : Conc Tryz.prog 19 := ⟨by kernel_rfl⟩
instance : Fld Tryz.prog 19 0 0 17 := ⟨⟨_, _, Tryz.underlying19, rfl, rfl, rfl⟩⟩
instance : Inf Tryz.prog 20 (.nilIface) 1 16 := ⟨by kernel_rfl⟩
instance : One Tryz.prog 20 := One.of Tryz.underlying20 rfl
instance : IfaceT Tryz.prog 20 := ⟨by kernel_rfl⟩
instance : Und Tryz.prog 21 (.int .i32) := ⟨Tryz.underlying21⟩
instance : Inf Tryz.prog 21 (.int .i32 0) 1 4 := ⟨by kernel_rfl⟩
instance : One Tryz.prog 21 := One.of Tryz.underlying21 rfl
instance : NoIface Tryz.prog 21 := ⟨_, Tryz.underlying21, by intro ms h; cases h⟩
instance : Conc Tryz.prog 21 := ⟨by kernel_rfl⟩
instance : Inf Tryz.prog 22 (.nilFunc) 1 8 := ⟨by kernel_rfl⟩
instance : One Tryz.prog 22 := One.of Tryz.underlying22 rfl
instance : NoIface Tryz.prog 22 := ⟨_, Tryz.underlying22, by intro ms h; cases h⟩
instance : Conc Tryz.prog 22 := ⟨by kernel_rfl⟩
instance : Und Tryz.prog 23 (.slice 9) := ⟨Tryz.underlying23⟩
instance : Inf Tryz.prog 23 (.slice none 0 0) 1 24 := ⟨by kernel_rfl⟩
instance : One Tryz.prog 23 := One.of Tryz.underlying23 rfl
instance : NoIface Tryz.prog 23 := ⟨_, Tryz.underlying23, by intro ms h; cases h⟩
instance : Conc Tryz.prog 23 := ⟨by kernel_rfl⟩
instance : Inf Tryz.prog 24 (Value.agg #[.int .i64 0, .int .i64 0, .int .i64 0, .slice none 0 0]) 4 48 := ⟨by kernel_rfl⟩
instance : Many Tryz.prog 24 4 := Many.of Tryz.underlying24 rfl
instance : NoIface Tryz.prog 24 := ⟨_, Tryz.underlying24, by intro ms h; cases h⟩
instance : StructT Tryz.prog 24 #[(0, 1), (1, 1), (2, 1), (3, 1)] (Value.agg #[.int .i64 0, .int .i64 0, .int .i64 0, .slice none 0 0]).cells := StructT.of Tryz.underlying24 rfl (by intro w; simp [run_sizeOf])
instance : Conc Tryz.prog 24 := ⟨by kernel_rfl⟩
instance : Fld Tryz.prog 24 0 0 3 := ⟨⟨_, _, Tryz.underlying24, rfl, rfl, rfl⟩⟩
instance : Fld Tryz.prog 24 1 1 3 := ⟨⟨_, _, Tryz.underlying24, rfl, rfl, rfl⟩⟩
instance : Fld Tryz.prog 24 2 2 3 := ⟨⟨_, _, Tryz.underlying24, rfl, rfl, rfl⟩⟩
instance : Fld Tryz.prog 24 3 3 23 := ⟨⟨_, _, Tryz.underlying24, rfl, rfl, rfl⟩⟩
instance : Inf Tryz.prog 25 (Value.agg #[.int .i64 0, .int .i64 0, .int .i64 0, .slice none 0 0]) 4 48 := ⟨by kernel_rfl⟩
instance : Many Tryz.prog 25 4 := Many.of Tryz.underlying25 rfl
instance : NoIface Tryz.prog 25 := ⟨_, Tryz.underlying25, by intro ms h; cases h⟩
instance : StructT Tryz.prog 25 #[(0, 1), (1, 1), (2, 1), (3, 1)] (Value.agg #[.int .i64 0, .int .i64 0, .int .i64 0, .slice none 0 0]).cells := StructT.of Tryz.underlying25 rfl (by intro w; simp [run_sizeOf])
instance : Conc Tryz.prog 25 := ⟨by kernel_rfl⟩
instance : Fld Tryz.prog 25 0 0 3 := ⟨⟨_, _, Tryz.underlying25, rfl, rfl, rfl⟩⟩
instance : Fld Tryz.prog 25 1 1 3 := ⟨⟨_, _, Tryz.underlying25, rfl, rfl, rfl⟩⟩
instance : Fld Tryz.prog 25 2 2 3 := ⟨⟨_, _, Tryz.underlying25, rfl, rfl, rfl⟩⟩
instance : Fld Tryz.prog 25 3 3 23 := ⟨⟨_, _, Tryz.underlying25, rfl, rfl, rfl⟩⟩
instance : Und Tryz.prog 26 (.slice 47) := ⟨Tryz.underlying26⟩
instance : Inf Tryz.prog 26 (.slice none 0 0) 1 24 := ⟨by kernel_rfl⟩
instance : One Tryz.prog 26 := One.of Tryz.underlying26 rfl
instance : NoIface Tryz.prog 26 := ⟨_, Tryz.underlying26, by intro ms h; cases h⟩
instance : Conc Tryz.prog 26 := ⟨by kernel_rfl⟩
instance : Inf Tryz.prog 27 (Value.agg #[.string (B []), .int .i64 0, .int .i64 0, .int .i64 0, .slice none 0 0, .slice none 0 0]) 6 88 := ⟨by kernel_rfl⟩
instance : Many Tryz.prog 27 6 := Many.of Tryz.underlying27 rfl
instance : NoIface Tryz.prog 27 := ⟨_, Tryz.underlying27, by intro ms h; cases h⟩
instance : StructT Tryz.prog 27 #[(0, 1), (1, 4), (5, 1)] (Value.agg #[.string (B []), .int .i64 0, .int .i64 0, .int .i64 0, .slice none 0 0, .slice none 0 0]).cells := StructT.of Tryz.underlying27 rfl (by intro w; simp [run_sizeOf])
instance : Conc Tryz.prog 27 := ⟨by kernel_rfl⟩
instance : Fld Tryz.prog 27 0 0 9 := ⟨⟨_, _, Tryz.underlying27, rfl, rfl, rfl⟩⟩
instance : Fld Tryz.prog 27 1 1 25 := ⟨⟨_, _, Tryz.underlying27, rfl, rfl, rfl⟩⟩
instance : Fld Tryz.prog 27 2 5 26 := ⟨⟨_, _, Tryz.underlying27, rfl, rfl, rfl⟩⟩
instance : Inf Tryz.prog 28 (Value.agg #[.string (B []), .int .i64 0, .int .i64 0, .int .i64 0, .slice none 0 0, .slice none 0 0]) 6 88 := ⟨by kernel_rfl⟩
instance : Many Tryz.prog 28 6 := Many.of Tryz.underlying28 rfl
instance : NoIface Tryz.prog 28 := ⟨_, Tryz.underlying28, by intro ms h; cases h⟩
instance : StructT Tryz.prog 28 #[(0, 1), (1, 4), (5, 1)] (Value.agg #[.string (B []), .int .i64 0, .int .i64 0, .int .i64 0, .slice none 0 0, .slice none 0 0]).cells := StructT.of Tryz.underlying28 rfl (by intro w; simp [run_sizeOf])
instance : Conc Tryz.prog 28 := ⟨by kernel_rfl⟩
instance : Fld Tryz.prog 28 0 0 9 := ⟨⟨_, _, Tryz.underlying28, rfl, rfl, rfl⟩⟩
instance : Fld Tryz.prog 28 1 1 25 := ⟨⟨_, _, Tryz.underlying28, rfl, rfl, rfl⟩⟩
instance : Fld Tryz.prog 28 2 5 26 := ⟨⟨_, _, Tryz.underlying28, rfl, rfl, rfl⟩⟩
instance : Und Tryz.prog 29 (.int .i64) := ⟨Tryz.underlying29⟩
instance : Inf Tryz.prog 29 (.int .i64 0) 1 8 := ⟨by kernel_rfl⟩
instance : One Tryz.prog 29 := One.of Tryz.underlying29 rfl
instance : NoIface Tryz.prog 29 := ⟨_, Tryz.underlying29, by intro ms h; cases h⟩
instance : Conc Tryz.prog 29 := ⟨by kernel_rfl⟩
instance : Inf Tryz.prog 31 (.nilFunc) 1 8 := ⟨by kernel_rfl⟩
instance : One Tryz.prog 31 := One.of Tryz.underlying31 rfl
instance : NoIface Tryz.prog 31 := ⟨_, Tryz.underlying31, by intro ms h; cases h⟩
instance : Conc Tryz.prog 31 := ⟨by kernel_rfl⟩
instance : Inf Tryz.prog 33 (.nilFunc) 1 8 := ⟨by kernel_rfl⟩
instance : One Tryz.prog 33 := One.of Tryz.underlying33 rfl
instance : NoIface Tryz.prog 33 := ⟨_, Tryz.underlying33, by intro ms h; cases h⟩
instance : Conc Tryz.prog 33 := ⟨by kernel_rfl⟩
instance : Inf Tryz.prog 34 (.nilFunc) 1 8 := ⟨by kernel_rfl⟩
instance : One Tryz.prog 34 := One.of Tryz.underlying34 rfl
instance : NoIface Tryz.prog 34 := ⟨_, Tryz.underlying34, by intro ms h; cases h⟩
instance : Conc Tryz.prog 34 := ⟨by kernel_rfl⟩
instance : Inf Tryz.prog 35 (.nilFunc) 1 8 := ⟨by kernel_rfl⟩
instance : One Tryz.prog 35 := One.of Tryz.underlying35 rfl
instance : NoIface Tryz.prog 35 := ⟨_, Tryz.underlying35, by intro ms h; cases h⟩
instance : Conc Tryz.prog 35 := ⟨by kernel_rfl⟩
instance : Inf Tryz.prog 36 (.nilFunc) 1 8 := ⟨by kernel_rfl⟩
instance : One Tryz.prog 36 := One.of Tryz.underlying36 rfl
instance : NoIface Tryz.prog 36 := ⟨_, Tryz.underlying36, by intro ms h; cases h⟩
instance : Conc Tryz.prog 36 := ⟨by kernel_rfl⟩
instance : Inf Tryz.prog 37 (.nilFunc) 1 8 := ⟨by kernel_rfl⟩
instance : One Tryz.prog 37 := One.of Tryz.underlying37 rfl
instance : NoIface Tryz.prog 37 := ⟨_, Tryz.underlying37, by intro ms h; cases h⟩
instance : Conc Tryz.prog 37 := ⟨by kernel_rfl⟩
instance : Inf Tryz.prog 38 (.nilFunc) 1 8 := ⟨by kernel_rfl⟩
instance : One Tryz.prog 38 := One.of Tryz.underlying38 rfl
instance : NoIface Tryz.prog 38 := ⟨_, Tryz.underlying38, by intro ms h; cases h⟩
instance : Conc Tryz.prog 38 := ⟨by kernel_rfl⟩
instance : Und Tryz.prog 39 (.slice 5) := ⟨Tryz.underlying39⟩
instance : Inf Tryz.prog 39 (.slice none 0 0) 1 24 := ⟨by kernel_rfl⟩
instance : One Tryz.prog 39 := One.of Tryz.underlying39 rfl
instance : NoIface Tryz.prog 39 := ⟨_, Tryz.underlying39, by intro ms h; cases h⟩
instance : Conc Tryz.prog 39 := ⟨by kernel_rfl⟩
instance : Inf Tryz.prog 40 (.nilFunc) 1 8 := ⟨by kernel_rfl⟩
instance : One Tryz.prog 40 := One.of Tryz.underlying40 rfl
instance : NoIface Tryz.prog 40 := ⟨_, Tryz.underlying40, by intro ms h; cases h⟩
instance : Conc Tryz.prog 40 := ⟨by kernel_rfl⟩
instance : Und Tryz.prog 41 (.slice 60) := ⟨Tryz.underlying41⟩
instance : Inf Tryz.prog 41 (.slice none 0 0) 1 24 := ⟨by kernel_rfl⟩
instance : One Tryz.prog 41 := One.of Tryz.underlying41 rfl
instance : NoIface Tryz.prog 41 := ⟨_, Tryz.underlying41, by intro ms h; cases h⟩
instance : Conc Tryz.prog 41 := ⟨by kernel_rfl⟩
instance : Inf Tryz.prog 42 (.nilFunc) 1 8 := ⟨by kernel_rfl⟩
instance : One Tryz.prog 42 := One.of Tryz.underlying42 rfl
instance : NoIface Tryz.prog 42 := ⟨_, Tryz.underlying42, by intro ms h; cases h⟩
instance : Conc Tryz.prog 42 := ⟨by kernel_rfl⟩
instance : Und Tryz.prog 43 (.slice 91) := ⟨Tryz.underlying43⟩
instance : Inf Tryz.prog 43 (.slice none 0 0) 1 24 := ⟨by kernel_rfl⟩
instance : One Tryz.prog 43 := One.of Tryz.underlying43 rfl
instance : NoIface Tryz.prog 43 := ⟨_, Tryz.underlying43, by intro ms h; cases h⟩
instance : Conc Tryz.prog 43 := ⟨by kernel_rfl⟩
instance : Inf Tryz.prog 44 (Value.agg #[.bool false, .slice none 0 0]) 2 32 := ⟨by kernel_rfl⟩
instance : Many Tryz.prog 44 2 := Many.of Tryz.underlying44 rfl
instance : NoIface Tryz.prog 44 := ⟨_, Tryz.underlying44, by intro ms h; cases h⟩
instance : StructT Tryz.prog 44 #[(0, 1), (1, 1)] (Value.agg #[.bool false, .slice none 0 0]).cells := StructT.of Tryz.underlying44 rfl (by intro w; simp [run_sizeOf])
instance : Conc Tryz.prog 44 := ⟨by kernel_rfl⟩
instance : Fld Tryz.prog 44 0 0 4 := ⟨⟨_, _, Tryz.underlying44, rfl, rfl, rfl⟩⟩
instance : Fld Tryz.prog 44 1 1 43 := ⟨⟨_, _, Tryz.underlying44, rfl, rfl, rfl⟩⟩
instance : Inf Tryz.prog 45 (Value.agg #[.bool false, .slice none 0 0]) 2 32 := ⟨by kernel_rfl⟩
instance : Many Tryz.prog 45 2 := Many.of Tryz.underlying45 rfl
instance : NoIface Tryz.prog 45 := ⟨_, Tryz.underlying45, by intro ms h; cases h⟩
instance : StructT Tryz.prog 45 #[(0, 1), (1, 1)] (Value.agg #[.bool false, .slice none 0 0]).cells := StructT.of Tryz.underlying45 rfl (by intro w; simp [run_sizeOf])
instance : Conc Tryz.prog 45 := ⟨by kernel_rfl⟩
instance : Fld Tryz.prog 45 0 0 4 := ⟨⟨_, _, Tryz.underlying45, rfl, rfl, rfl⟩⟩
instance : Fld Tryz.prog 45 1 1 43 := ⟨⟨_, _, Tryz.underlying45, rfl, rfl, rfl⟩⟩
instance : Inf Tryz.prog 46 (Value.agg #[.string (B []), .bool false, .slice none 0 0, .string (B [])]) 4 64 := ⟨by kernel_rfl⟩
instance : Many Tryz.prog 46 4 := Many.of Tryz.underlying46 rfl
instance : NoIface Tryz.prog 46 := ⟨_, Tryz.underlying46, by intro ms h; cases h⟩
instance : StructT Tryz.prog 46 #[(0, 1), (1, 2), (3, 1)] (Value.agg #[.string (B []), .bool false, .slice none 0 0, .string (B [])]).cells := StructT.of Tryz.underlying46 rfl (by intro w; simp [run_sizeOf])
instance : Conc Tryz.prog 46 := ⟨by kernel_rfl⟩
instance : Fld Tryz.prog 46 0 0 9 := ⟨⟨_, _, Tryz.underlying46, rfl, rfl, rfl⟩⟩
instance : Fld Tryz.prog 46 1 1 45 := ⟨⟨_, _, Tryz.underlying46, rfl, rfl, rfl⟩⟩
instance : Fld Tryz.prog 46 2 3 9 := ⟨⟨_, _, Tryz.underlying46, rfl, rfl, rfl⟩⟩
instance : Inf Tryz.prog 47 (Value.agg #[.string (B []), .bool false, .slice none 0 0, .string (B [])]) 4 64 := ⟨by kernel_rfl⟩
instance : Many Tryz.prog 47 4 := Many.of Tryz.underlying47 rfl
instance : NoIface Tryz.prog 47 := ⟨_, Tryz.underlying47, by intro ms h; cases h⟩
instance : StructT Tryz.prog 47 #[(0, 1), (1, 2), (3, 1)] (Value.agg #[.string (B []), .bool false, .slice none 0 0, .string (B [])]).cells := StructT.of Tryz.underlying47 rfl (by intro w; simp [run_sizeOf])
instance : Conc Tryz.prog 47 := ⟨by kernel_rfl⟩
instance : Fld Tryz.prog 47 0 0 9 := ⟨⟨_, _, Tryz.underlying47, rfl, rfl, rfl⟩⟩
instance : Fld Tryz.prog 47 1 1 45 := ⟨⟨_, _, Tryz.underlying47, rfl, rfl, rfl⟩⟩
instance : Fld Tryz.prog 47 2 3 9 := ⟨⟨_, _, Tryz.underlying47, rfl, rfl, rfl⟩⟩
instance : Inf Tryz.prog 49 (.nilFunc) 1 8 := ⟨by kernel_rfl⟩
instance : One Tryz.prog 49 := One.of Tryz.underlying49 rfl
instance : NoIface Tryz.prog 49 := ⟨_, Tryz.underlying49, by intro ms h; cases h⟩
instance : Conc Tryz.prog 49 := ⟨by kernel_rfl⟩
instance : Inf Tryz.prog 50 (.nilFunc) 1 8 := ⟨by kernel_rfl⟩
instance : One Tryz.prog 50 := One.of Tryz.underlying50 rfl
instance : NoIface Tryz.prog 50 := ⟨_, Tryz.underlying50, by intro ms h; cases h⟩
instance : Conc Tryz.prog 50 := ⟨by kernel_rfl⟩
instance : Und Tryz.prog 51 (.slice 4) := ⟨Tryz.underlying51⟩
instance : Inf Tryz.prog 51 (.slice none 0 0) 1 24 := ⟨by kernel_rfl⟩
instance : One Tryz.prog 51 := One.of Tryz.underlying51 rfl
instance : NoIface Tryz.prog 51 := ⟨_, Tryz.underlying51, by intro ms h; cases h⟩
instance : Conc Tryz.prog 51 := ⟨by kernel_rfl⟩
instance : Inf Tryz.prog 52 (.nilFunc) 1 8 := ⟨by kernel_rfl⟩
instance : One Tryz.prog 52 := One.of Tryz.underlying52 rfl
instance : NoIface Tryz.prog 52 := ⟨_, Tryz.underlying52, by intro ms h; cases h⟩
instance : Conc Tryz.prog 52 := ⟨by kernel_rfl⟩
instance : Inf Tryz.prog 54 (.nilFunc) 1 8 := ⟨by kernel_rfl⟩
instance : One Tryz.prog 54 := One.of Tryz.underlying54 rfl
instance : NoIface Tryz.prog 54 := ⟨_, Tryz.underlying54, by intro ms h; cases h⟩
instance : Conc Tryz.prog 54 := ⟨by kernel_rfl⟩
instance : Inf Tryz.prog 56 (.nilFunc) 1 8 := ⟨by kernel_rfl⟩
instance : One Tryz.prog 56 := One.of Tryz.underlying56 rfl
instance : NoIface Tryz.prog 56 := ⟨_, Tryz.underlying56, by intro ms h; cases h⟩
instance : Conc Tryz.prog 56 := ⟨by kernel_rfl⟩
instance : Inf Tryz.prog 58 (.nilFunc) 1 8 := ⟨by kernel_rfl⟩
instance : One Tryz.prog 58 := One.of Tryz.underlying58 rfl
instance : NoIface Tryz.prog 58 := ⟨_, Tryz.underlying58, by intro ms h; cases h⟩
instance : Conc Tryz.prog 58 := ⟨by kernel_rfl⟩
instance : Inf Tryz.prog 59 (.nilFunc) 1 8 := ⟨by kernel_rfl⟩
instance : One Tryz.prog 59 := One.of Tryz.underlying59 rfl
instance : NoIface Tryz.prog 59 := ⟨_, Tryz.underlying59, by intro ms h; cases h⟩
instance : Conc Tryz.prog 59 := ⟨by kernel_rfl⟩
instance : Und Tryz.prog 60 (.int .u16) := ⟨Tryz.underlying60⟩
instance : Inf Tryz.prog 60 (.int .u16 0) 1 2 := ⟨by kernel_rfl⟩
instance : One Tryz.prog 60 := One.of Tryz.underlying60 rfl
instance : NoIface Tryz.prog 60 := ⟨_, Tryz.underlying60, by intro ms h; cases h⟩
instance : Conc Tryz.prog 60 := ⟨by kernel_rfl⟩
instance : Inf Tryz.prog 61 (.nilFunc) 1 8 := ⟨by kernel_rfl⟩
instance : One Tryz.prog 61 := One.of Tryz.underlying61 rfl
instance : NoIface Tryz.prog 61 := ⟨_, Tryz.underlying61, by intro ms h; cases h⟩
instance : Conc Tryz.prog 61 := ⟨by kernel_rfl⟩
instance : Inf Tryz.prog 62 (.nilFunc) 1 8 := ⟨by kernel_rfl⟩
instance : One Tryz.prog 62 := One.of Tryz.underlying62 rfl
instance : NoIface Tryz.prog 62 := ⟨_, Tryz.underlying62, by intro ms h; cases h⟩
instance : Conc Tryz.prog 62 := ⟨by kernel_rfl⟩
instance : Inf Tryz.prog 63 (.nilFunc) 1 8 := ⟨by kernel_rfl⟩
instance : One Tryz.prog 63 := One.of Tryz.underlying63 rfl
instance : NoIface Tryz.prog 63 := ⟨_, Tryz.underlying63, by intro ms h; cases h⟩
instance : Conc Tryz.prog 63 := ⟨by kernel_rfl⟩
instance : Und Tryz.prog 64 (.pointer 28) := ⟨Tryz.underlying64⟩
instance : Inf Tryz.prog 64 (.pointer none) 1 8 := ⟨by kernel_rfl⟩
instance : One Tryz.prog 64 := One.of Tryz.underlying64 rfl
instance : NoIface Tryz.prog 64 := ⟨_, Tryz.underlying64, by intro ms h; cases h⟩
instance : Conc Tryz.prog 64 := ⟨by kernel_rfl⟩
instance : Inf Tryz.prog 65 (.nilFunc) 1 8 := ⟨by kernel_rfl⟩
instance : One Tryz.prog 65 := One.of Tryz.underlying65 rfl
instance : NoIface Tryz.prog 65 := ⟨_, Tryz.underlying65, by intro ms h; cases h⟩
instance : Conc Tryz.prog 65 := ⟨by kernel_rfl⟩
instance : Inf Tryz.prog 66 (.nilFunc) 1 8 := ⟨by kernel_rfl⟩
instance : One Tryz.prog 66 := One.of Tryz.underlying66 rfl
instance : NoIface Tryz.prog 66 := ⟨_, Tryz.underlying66, by intro ms h; cases h⟩
instance : Conc Tryz.prog 66 := ⟨by kernel_rfl⟩
instance : Inf Tryz.prog 67 (.nilFunc) 1 8 := ⟨by kernel_rfl⟩
instance : One Tryz.prog 67 := One.of Tryz.underlying67 rfl
instance : NoIface Tryz.prog 67 := ⟨_, Tryz.underlying67, by intro ms h; cases h⟩
instance : Conc Tryz.prog 67 := ⟨by kernel_rfl⟩
instance : Inf Tryz.prog 69 (.nilFunc) 1 8 := ⟨by kernel_rfl⟩
instance : One Tryz.prog 69 := One.of Tryz.underlying69 rfl
instance : NoIface Tryz.prog 69 := ⟨_, Tryz.underlying69, by intro ms h; cases h⟩
instance : Conc Tryz.prog 69 := ⟨by kernel_rfl⟩
instance : Inf Tryz.prog 71 (.nilFunc) 1 8 := ⟨by kernel_rfl⟩
instance : One Tryz.prog 71 := One.of Tryz.underlying71 rfl
instance : NoIface Tryz.prog 71 := ⟨_, Tryz.underlying71, by intro ms h; cases h⟩
instance : Conc Tryz.prog 71 := ⟨by kernel_rfl⟩
instance : Inf Tryz.prog 72 (.nilFunc) 1 8 := ⟨by kernel_rfl⟩
instance : One Tryz.prog 72 := One.of Tryz.underlying72 rfl
instance : NoIface Tryz.prog 72 := ⟨_, Tryz.underlying72, by intro ms h; cases h⟩
instance : Conc Tryz.prog 72 := ⟨by kernel_rfl⟩
instance : Inf Tryz.prog 73 (.nilFunc) 1 8 := ⟨by kernel_rfl⟩
instance : One Tryz.prog 73 := One.of Tryz.underlying73 rfl
instance : NoIface Tryz.prog 73 := ⟨_, Tryz.underlying73, by intro ms h; cases h⟩
instance : Conc Tryz.prog 73 := ⟨by kernel_rfl⟩
instance : Und Tryz.prog 74 (.pointer 76) := ⟨Tryz.underlying74⟩
instance : Inf Tryz.prog 74 (.pointer none) 1 8 := ⟨by kernel_rfl⟩
instance : One Tryz.prog 74 := One.of Tryz.underlying74 rfl
instance : NoIface Tryz.prog 74 := ⟨_, Tryz.underlying74, by intro ms h; cases h⟩
instance : Conc Tryz.prog 74 := ⟨by kernel_rfl⟩
instance : Inf Tryz.prog 75 (Value.agg #[.pointer none, .slice none 0 0]) 2 32 := ⟨by kernel_rfl⟩
instance : Many Tryz.prog 75 2 := Many.of Tryz.underlying75 rfl
instance : NoIface Tryz.prog 75 := ⟨_, Tryz.underlying75, by intro ms h; cases h⟩
instance : StructT Tryz.prog 75 #[(0, 1), (1, 1)] (Value.agg #[.pointer none, .slice none 0 0]).cells := StructT.of Tryz.underlying75 rfl (by intro w; simp [run_sizeOf])
instance : Conc Tryz.prog 75 := ⟨by kernel_rfl⟩
instance : Fld Tryz.prog 75 0 0 74 := ⟨⟨_, _, Tryz.underlying75, rfl, rfl, rfl⟩⟩
instance : Fld Tryz.prog 75 1 1 39 := ⟨⟨_, _, Tryz.underlying75, rfl, rfl, rfl⟩⟩
instance : Inf Tryz.prog 76 (Value.agg #[.pointer none, .slice none 0 0]) 2 32 := ⟨by kernel_rfl⟩
instance : Many Tryz.prog 76 2 := Many.of Tryz.underlying76 rfl
instance : NoIface Tryz.prog 76 := ⟨_, Tryz.underlying76, by intro ms h; cases h⟩
instance : StructT Tryz.prog 76 #[(0, 1), (1, 1)] (Value.agg #[.pointer none, .slice none 0 0]).cells := StructT.of Tryz.underlying76 rfl (by intro w; simp [run_sizeOf])
instance : Conc Tryz.prog 76 := ⟨by kernel_rfl⟩
instance : Fld Tryz.prog 76 0 0 74 := ⟨⟨_, _, Tryz.underlying76, rfl, rfl, rfl⟩⟩
instance : Fld Tryz.prog 76 1 1 39 := ⟨⟨_, _, Tryz.underlying76, rfl, rfl, rfl⟩⟩
instance : Inf Tryz.prog 77 (.nilIface) 1 16 := ⟨by kernel_rfl⟩
instance : One Tryz.prog 77 := One.of Tryz.underlying77 rfl
instance : IfaceT Tryz.prog 77 := ⟨by kernel_rfl⟩
instance : Inf Tryz.prog 78 (.nilIface) 1 16 := ⟨by kernel_rfl⟩
instance : One Tryz.prog 78 := One.of Tryz.underlying78 rfl
instance : IfaceT Tryz.prog 78 := ⟨by kernel_rfl⟩
instance : Inf Tryz.prog 80 (.nilFunc) 1 8 := ⟨by kernel_rfl⟩
instance : One Tryz.prog 80 := One.of Tryz.underlying80 rfl
instance : NoIface Tryz.prog 80 := ⟨_, Tryz.underlying80, by intro ms h; cases h⟩
instance : Conc Tryz.prog 80 := ⟨by kernel_rfl⟩
instance : Inf Tryz.prog 81 (.nilFunc) 1 8 := ⟨by kernel_rfl⟩
instance : One Tryz.prog 81 := One.of Tryz.underlying81 rfl
instance : NoIface Tryz.prog 81 := ⟨_, Tryz.underlying81, by intro ms h; cases h⟩
instance : Conc Tryz.prog 81 := ⟨by kernel_rfl⟩
instance : Inf Tryz.prog 82 (.nilFunc) 1 8 := ⟨by kernel_rfl⟩
instance : One Tryz.prog 82 := One.of Tryz.underlying82 rfl
instance : NoIface Tryz.prog 82 := ⟨_, Tryz.underlying82, by intro ms h; cases h⟩
instance : Conc Tryz.prog 82 := ⟨by kernel_rfl⟩
instance : Inf Tryz.prog 83 (.nilFunc) 1 8 := ⟨by kernel_rfl⟩
instance : One Tryz.prog 83 := One.of Tryz.underlying83 rfl
instance : NoIface Tryz.prog 83 := ⟨_, Tryz.underlying83, by intro ms h; cases h⟩
instance : Conc Tryz.prog 83 := ⟨by kernel_rfl⟩
instance : Inf Tryz.prog 84 (.nilFunc) 1 8 := ⟨by kernel_rfl⟩
instance : One Tryz.prog 84 := One.of Tryz.underlying84 rfl
instance : NoIface Tryz.prog 84 := ⟨_, Tryz.underlying84, by intro ms h; cases h⟩
instance : Conc Tryz.prog 84 := ⟨by kernel_rfl⟩
instance : Inf Tryz.prog 85 (.nilFunc) 1 8 := ⟨by kernel_rfl⟩
instance : One Tryz.prog 85 := One.of Tryz.underlying85 rfl
instance : NoIface Tryz.prog 85 := ⟨_, Tryz.underlying85, by intro ms h; cases h⟩
instance : Conc Tryz.prog 85 := ⟨by kernel_rfl⟩
instance : Inf Tryz.prog 87 (.nilFunc) 1 8 := ⟨by kernel_rfl⟩
instance : One Tryz.prog 87 := One.of Tryz.underlying87 rfl
instance : NoIface Tryz.prog 87 := ⟨_, Tryz.underlying87, by intro ms h; cases h⟩
instance : Conc Tryz.prog 87 := ⟨by kernel_rfl⟩
instance : Inf Tryz.prog 88 (.nilFunc) 1 8 := ⟨by kernel_rfl⟩
instance : One Tryz.prog 88 := One.of Tryz.underlying88 rfl
instance : NoIface Tryz.prog 88 := ⟨_, Tryz.underlying88, by intro ms h; cases h⟩
instance : Conc Tryz.prog 88 := ⟨by kernel_rfl⟩
instance : Inf Tryz.prog 90 (.nilFunc) 1 8 := ⟨by kernel_rfl⟩
instance : One Tryz.prog 90 := One.of Tryz.underlying90 rfl
instance : NoIface Tryz.prog 90 := ⟨_, Tryz.underlying90, by intro ms h; cases h⟩
instance : Conc Tryz.prog 90 := ⟨by kernel_rfl⟩
instance : Und Tryz.prog 91 (.slice 93) := ⟨Tryz.underlying91⟩
instance : Inf Tryz.prog 91 (.slice none 0 0) 1 24 := ⟨by kernel_rfl⟩
instance : One Tryz.prog 91 := One.of Tryz.underlying91 rfl
instance : NoIface Tryz.prog 91 := ⟨_, Tryz.underlying91, by intro ms h; cases h⟩
instance : Conc Tryz.prog 91 := ⟨by kernel_rfl⟩
instance : Inf Tryz.prog 92 (Value.agg #[.string (B []), .int .i64 0, .int .i64 0, .int .i64 0, .slice none 0 0]) 5 64 := ⟨by kernel_rfl⟩
instance : Many Tryz.prog 92 5 := Many.of Tryz.underlying92 rfl
instance : NoIface Tryz.prog 92 := ⟨_, Tryz.underlying92, by intro ms h; cases h⟩
instance : StructT Tryz.prog 92 #[(0, 1), (1, 4)] (Value.agg #[.string (B []), .int .i64 0, .int .i64 0, .int .i64 0, .slice none 0 0]).cells := StructT.of Tryz.underlying92 rfl (by intro w; simp [run_sizeOf])
instance : Conc Tryz.prog 92 := ⟨by kernel_rfl⟩
instance : Fld Tryz.prog 92 0 0 9 := ⟨⟨_, _, Tryz.underlying92, rfl, rfl, rfl⟩⟩
instance : Fld Tryz.prog 92 1 1 25 := ⟨⟨_, _, Tryz.underlying92, rfl, rfl, rfl⟩⟩
instance : Inf Tryz.prog 93 (Value.agg #[.string (B []), .int .i64 0, .int .i64 0, .int .i64 0, .slice none 0 0]) 5 64 := ⟨by kernel_rfl⟩
instance : Many Tryz.prog 93 5 := Many.of Tryz.underlying93 rfl
instance : NoIface Tryz.prog 93 := ⟨_, Tryz.underlying93, by intro ms h; cases h⟩
instance : StructT Tryz.prog 93 #[(0, 1), (1, 4)] (Value.agg #[.string (B []), .int .i64 0, .int .i64 0, .int .i64 0, .slice none 0 0]).cells := StructT.of Tryz.underlying93 rfl (by intro w; simp [run_sizeOf])
instance : Conc Tryz.prog 93 := ⟨by kernel_rfl⟩
instance : Fld Tryz.prog 93 0 0 9 := ⟨⟨_, _, Tryz.underlying93, rfl, rfl, rfl⟩⟩
instance : Fld Tryz.prog 93 1 1 25 := ⟨⟨_, _, Tryz.underlying93, rfl, rfl, rfl⟩⟩
instance : Inf Tryz.prog 94 (.nilFunc) 1 8 := ⟨by kernel_rfl⟩
instance : One Tryz.prog 94 := One.of Tryz.underlying94 rfl
instance : NoIface Tryz.prog 94 := ⟨_, Tryz.underlying94, by intro ms h; cases h⟩
instance : Conc Tryz.prog 94 := ⟨by kernel_rfl⟩
instance : Inf Tryz.prog 95 (.nilFunc) 1 8 := ⟨by kernel_rfl⟩
instance : One Tryz.prog 95 := One.of Tryz.underlying95 rfl
instance : NoIface Tryz.prog 95 := ⟨_, Tryz.underlying95, by intro ms h; cases h⟩
instance : Conc Tryz.prog 95 := ⟨by kernel_rfl⟩
instance : Inf Tryz.prog 96 (.nilFunc) 1 8 := ⟨by kernel_rfl⟩
instance : One Tryz.prog 96 := One.of Tryz.underlying96 rfl
instance : NoIface Tryz.prog 96 := ⟨_, Tryz.underlying96, by intro ms h; cases h⟩
instance : Conc Tryz.prog 96 := ⟨by kernel_rfl⟩
instance : Inf Tryz.prog 97 (.nilFunc) 1 8 := ⟨by kernel_rfl⟩
instance : One Tryz.prog 97 := One.of Tryz.underlying97 rfl
instance : NoIface Tryz.prog 97 := ⟨_, Tryz.underlying97, by intro ms h; cases h⟩
instance : Conc Tryz.prog 97 := ⟨by kernel_rfl⟩
instance : Inf Tryz.prog 98 (.nilFunc) 1 8 := ⟨by kernel_rfl⟩
instance : One Tryz.prog 98 := One.of Tryz.underlying98 rfl
instance : NoIface Tryz.prog 98 := ⟨_, Tryz.underlying98, by intro ms h; cases h⟩
instance : Conc Tryz.prog 98 := ⟨by kernel_rfl⟩
instance : Inf Tryz.prog 100 (.nilFunc) 1 8 := ⟨by kernel_rfl⟩
instance : One Tryz.prog 100 := One.of Tryz.underlying100 rfl
instance : NoIface Tryz.prog 100 := ⟨_, Tryz.underlying100, by intro ms h; cases h⟩
instance : Conc Tryz.prog 100 := ⟨by kernel_rfl⟩
instance : Inf Tryz.prog 102 (.nilFunc) 1 8 := ⟨by kernel_rfl⟩
instance : One Tryz.prog 102 := One.of Tryz.underlying102 rfl
instance : NoIface Tryz.prog 102 := ⟨_, Tryz.underlying102, by intro ms h; cases h⟩
instance : Conc Tryz.prog 102 := ⟨by kernel_rfl⟩
instance : Inf Tryz.prog 103 (.nilFunc) 1 8 := ⟨by kernel_rfl⟩
instance : One Tryz.prog 103 := One.of Tryz.underlying103 rfl
instance : NoIface Tryz.prog 103 := ⟨_, Tryz.underlying103, by intro ms h; cases h⟩
instance : Conc Tryz.prog 103 := ⟨by kernel_rfl⟩
instance : Inf Tryz.prog 104 (.nilFunc) 1 8 := ⟨by kernel_rfl⟩
instance : One Tryz.prog 104 := One.of Tryz.underlying104 rfl
instance : NoIface Tryz.prog 104 := ⟨_, Tryz.underlying104, by intro ms h; cases h⟩
instance : Conc Tryz.prog 104 := ⟨by kernel_rfl⟩
instance : Inf Tryz.prog 105 (.nilFunc) 1 8 := ⟨by kernel_rfl⟩
instance : One Tryz.prog 105 := One.of Tryz.underlying105 rfl
instance : NoIface Tryz.prog 105 := ⟨_, Tryz.underlying105, by intro ms h; cases h⟩
instance : Conc Tryz.prog 105 := ⟨by kernel_rfl⟩
instance : Inf Tryz.prog 106 (.nilFunc) 1 8 := ⟨by kernel_rfl⟩
instance : One Tryz.prog 106 := One.of Tryz.underlying106 rfl
instance : NoIface Tryz.prog 106 := ⟨_, Tryz.underlying106, by intro ms h; cases h⟩
instance : Conc Tryz.prog 106 := ⟨by kernel_rfl⟩
instance : Inf Tryz.prog 107 (.nilFunc) 1 8 := ⟨by kernel_rfl⟩
instance : One Tryz.prog 107 := One.of Tryz.underlying107 rfl
instance : NoIface Tryz.prog 107 := ⟨_, Tryz.underlying107, by intro ms h; cases h⟩
instance : Conc Tryz.prog 107 := ⟨by kernel_rfl⟩
instance : Und Tryz.prog 108 (.pointer 5) := ⟨Tryz.underlying108⟩
instance : Inf Tryz.prog 108 (.pointer none) 1 8 := ⟨by kernel_rfl⟩
instance : One Tryz.prog 108 := One.of Tryz.underlying108 rfl
instance : NoIface Tryz.prog 108 := ⟨_, Tryz.underlying108, by intro ms h; cases h⟩
instance : Conc Tryz.prog 108 := ⟨by kernel_rfl⟩
instance : Inf Tryz.prog 110 (.nilFunc) 1 8 := ⟨by kernel_rfl⟩
instance : One Tryz.prog 110 := One.of Tryz.underlying110 rfl
instance : NoIface Tryz.prog 110 := ⟨_, Tryz.underlying110, by intro ms h; cases h⟩
instance : Conc Tryz.prog 110 := ⟨by kernel_rfl⟩
instance : Inf Tryz.prog 111 (.nilFunc) 1 8 := ⟨by kernel_rfl⟩
instance : One Tryz.prog 111 := One.of Tryz.underlying111 rfl
instance : NoIface Tryz.prog 111 := ⟨_, Tryz.underlying111, by intro ms h; cases h⟩
instance : Conc Tryz.prog 111 := ⟨by kernel_rfl⟩
instance : Inf Tryz.prog 112 (.nilFunc) 1 8 := ⟨by kernel_rfl⟩
instance : One Tryz.prog 112 := One.of Tryz.underlying112 rfl
instance : NoIface Tryz.prog 112 := ⟨_, Tryz.underlying112, by intro ms h; cases h⟩
instance : Conc Tryz.prog 112 := ⟨by kernel_rfl⟩
instance : Inf Tryz.prog 113 (.nilFunc) 1 8 := ⟨by kernel_rfl⟩
instance : One Tryz.prog 113 := One.of Tryz.underlying113 rfl
instance : NoIface Tryz.prog 113 := ⟨_, Tryz.underlying113, by intro ms h; cases h⟩
instance : Conc Tryz.prog 113 := ⟨by kernel_rfl⟩
instance : Inf Tryz.prog 115 (.nilFunc) 1 8 := ⟨by kernel_rfl⟩
instance : One Tryz.prog 115 := One.of Tryz.underlying115 rfl
instance : NoIface Tryz.prog 115 := ⟨_, Tryz.underlying115, by intro ms h; cases h⟩
instance : Conc Tryz.prog 115 := ⟨by kernel_rfl⟩
instance : Und Tryz.prog 116 (.array 3 3) := ⟨Tryz.underlying116⟩
instance : Inf Tryz.prog 116 (Value.agg #[.int .i64 0, .int .i64 0, .int .i64 0]) 3 24 := ⟨by kernel_rfl⟩
instance : Many Tryz.prog 116 3 := Many.of Tryz.underlying116 rfl
instance : NoIface Tryz.prog 116 := ⟨_, Tryz.underlying116, by intro ms h; cases h⟩
instance : Conc Tryz.prog 116 := ⟨by kernel_rfl⟩
instance : Inf Tryz.prog 117 (.nilFunc) 1 8 := ⟨by kernel_rfl⟩
instance : One Tryz.prog 117 := One.of Tryz.underlying117 rfl
instance : NoIface Tryz.prog 117 := ⟨_, Tryz.underlying117, by intro ms h; cases h⟩
instance : Conc Tryz.prog 117 := ⟨by kernel_rfl⟩
instance : Inf Tryz.prog 118 (.nilFunc) 1 8 := ⟨by kernel_rfl⟩
instance : One Tryz.prog 118 := One.of Tryz.underlying118 rfl
instance : NoIface Tryz.prog 118 := ⟨_, Tryz.underlying118, by intro ms h; cases h⟩
instance : Conc Tryz.prog 118 := ⟨by kernel_rfl⟩
instance : Inf Tryz.prog 120 (.nilFunc) 1 8 := ⟨by kernel_rfl⟩
instance : One Tryz.prog 120 := One.of Tryz.underlying120 rfl
instance : NoIface Tryz.prog 120 := ⟨_, Tryz.underlying120, by intro ms h; cases h⟩
instance : Conc Tryz.prog 120 := ⟨by kernel_rfl⟩
instance : Inf Tryz.prog 121 (.nilFunc) 1 8 := ⟨by kernel_rfl⟩
instance : One Tryz.prog 121 := One.of Tryz.underlying121 rfl
instance : NoIface Tryz.prog 121 := ⟨_, Tryz.underlying121, by intro ms h; cases h⟩
instance : Conc Tryz.prog 121 := ⟨by kernel_rfl⟩
instance : Inf Tryz.prog 122 (.nilFunc) 1 8 := ⟨by kernel_rfl⟩
instance : One Tryz.prog 122 := One.of Tryz.underlying122 rfl
instance : NoIface Tryz.prog 122 := ⟨_, Tryz.underlying122, by intro ms h; cases h⟩
instance : Conc Tryz.prog 122 := ⟨by kernel_rfl⟩
instance : Inf Tryz.prog 123 (.pointer none) 1 8 := ⟨by kernel_rfl⟩
instance : Conc Tryz.prog 123 := ⟨by kernel_rfl⟩
instance : Inf Tryz.prog 124 (.nilFunc) 1 8 := ⟨by kernel_rfl⟩
instance : One Tryz.prog 124 := One.of Tryz.underlying124 rfl
instance : NoIface Tryz.prog 124 := ⟨_, Tryz.underlying124, by intro ms h; cases h⟩
instance : Conc Tryz.prog 124 := ⟨by kernel_rfl⟩
instance : Inf Tryz.prog 125 (.nilFunc) 1 8 := ⟨by kernel_rfl⟩
instance : One Tryz.prog 125 := One.of Tryz.underlying125 rfl
instance : NoIface Tryz.prog 125 := ⟨_, Tryz.underlying125, by intro ms h; cases h⟩
instance : Conc Tryz.prog 125 := ⟨by kernel_rfl⟩
instance : Inf Tryz.prog 126 (.nilFunc) 1 8 := ⟨by kernel_rfl⟩
instance : One Tryz.prog 126 := One.of Tryz.underlying126 rfl
instance : NoIface Tryz.prog 126 := ⟨_, Tryz.underlying126, by intro ms h; cases h⟩
instance : Conc Tryz.prog 126 := ⟨by kernel_rfl⟩
instance : Inf Tryz.prog 127 (.nilFunc) 1 8 := ⟨by kernel_rfl⟩
instance : One Tryz.prog 127 := One.of Tryz.underlying127 rfl
instance : NoIface Tryz.prog 127 := ⟨_, Tryz.underlying127, by intro ms h; cases h⟩
instance : Conc Tryz.prog 127 := ⟨by kernel_rfl⟩
instance : Inf Tryz.prog 128 (.nilFunc) 1 8 := ⟨by kernel_rfl⟩
instance : One Tryz.prog 128 := One.of Tryz.underlying128 rfl
instance : NoIface Tryz.prog 128 := ⟨_, Tryz.underlying128, by intro ms h; cases h⟩
instance : Conc Tryz.prog 128 := ⟨by kernel_rfl⟩
instance : Inf Tryz.prog 129 (.nilFunc) 1 8 := ⟨by kernel_rfl⟩
instance : One Tryz.prog 129 := One.of Tryz.underlying129 rfl
instance : NoIface Tryz.prog 129 := ⟨_, Tryz.underlying129, by intro ms h; cases h⟩
instance : Conc Tryz.prog 129 := ⟨by kernel_rfl⟩
instance : Inf Tryz.prog 130 (.nilFunc) 1 8 := ⟨by kernel_rfl⟩
instance : One Tryz.prog 130 := One.of Tryz.underlying130 rfl
instance : NoIface Tryz.prog 130 := ⟨_, Tryz.underlying130, by intro ms h; cases h⟩
instance : Conc Tryz.prog 130 := ⟨by kernel_rfl⟩
instance : Inf Tryz.prog 131 (.nilFunc) 1 8 := ⟨by kernel_rfl⟩
instance : One Tryz.prog 131 := One.of Tryz.underlying131 rfl
instance : NoIface Tryz.prog 131 := ⟨_, Tryz.underlying131, by intro ms h; cases h⟩
instance : Conc Tryz.prog 131 := ⟨by kernel_rfl⟩
instance : Inf Tryz.prog 132 (.nilFunc) 1 8 := ⟨by kernel_rfl⟩
instance : One Tryz.prog 132 := One.of Tryz.underlying132 rfl
instance : NoIface Tryz.prog 132 := ⟨_, Tryz.underlying132, by intro ms h; cases h⟩
instance : Conc Tryz.prog 132 := ⟨by kernel_rfl⟩
instance : Inf Tryz.prog 133 (.nilFunc) 1 8 := ⟨by kernel_rfl⟩
instance : One Tryz.prog 133 := One.of Tryz.underlying133 rfl
instance : NoIface Tryz.prog 133 := ⟨_, Tryz.underlying133, by intro ms h; cases h⟩
instance : Conc Tryz.prog 133 := ⟨by kernel_rfl⟩
instance : Inf Tryz.prog 134 (.nilFunc) 1 8 := ⟨by kernel_rfl⟩
instance : One Tryz.prog 134 := One.of Tryz.underlying134 rfl
instance : NoIface Tryz.prog 134 := ⟨_, Tryz.underlying134, by intro ms h; cases h⟩
instance : Conc Tryz.prog 134 := ⟨by kernel_rfl⟩
instance : Und Tryz.prog 135 (.int .u64) := ⟨Tryz.underlying135⟩
instance : Inf Tryz.prog 135 (.int .u64 0) 1 8 := ⟨by kernel_rfl⟩
instance : One Tryz.prog 135 := One.of Tryz.underlying135 rfl
instance : NoIface Tryz.prog 135 := ⟨_, Tryz.underlying135, by intro ms h; cases h⟩
instance : Conc Tryz.prog 135 := ⟨by kernel_rfl⟩
instance : Inf Tryz.prog 136 (.nilFunc) 1 8 := ⟨by kernel_rfl⟩
instance : One Tryz.prog 136 := One.of Tryz.underlying136 rfl
instance : NoIface Tryz.prog 136 := ⟨_, Tryz.underlying136, by intro ms h; cases h⟩
instance : Conc Tryz.prog 136 := ⟨by kernel_rfl⟩
instance : Inf Tryz.prog 137 (.nilFunc) 1 8 := ⟨by kernel_rfl⟩
instance : One Tryz.prog 137 := One.of Tryz.underlying137 rfl
instance : NoIface Tryz.prog 137 := ⟨_, Tryz.underlying137, by intro ms h; cases h⟩
instance : Conc Tryz.prog 137 := ⟨by kernel_rfl⟩
instance : Inf Tryz.prog 138 (.nilFunc) 1 8 := ⟨by kernel_rfl⟩
instance : One Tryz.prog 138 := One.of Tryz.underlying138 rfl
instance : NoIface Tryz.prog 138 := ⟨_, Tryz.underlying138, by intro ms h; cases h⟩
instance : Conc Tryz.prog 138 := ⟨by kernel_rfl⟩
instance : Inf Tryz.prog 140 (.nilFunc) 1 8 := ⟨by kernel_rfl⟩
instance : One Tryz.prog 140 := One.of Tryz.underlying140 rfl
instance : NoIface Tryz.prog 140 := ⟨_, Tryz.underlying140, by intro ms h; cases h⟩
instance : Conc Tryz.prog 140 := ⟨by kernel_rfl⟩
instance : Inf Tryz.prog 141 (.nilFunc) 1 8 := ⟨by kernel_rfl⟩
instance : One Tryz.prog 141 := One.of Tryz.underlying141 rfl
instance : NoIface Tryz.prog 141 := ⟨_, Tryz.underlying141, by intro ms h; cases h⟩
instance : Conc Tryz.prog 141 := ⟨by kernel_rfl⟩
instance : Inf Tryz.prog 142 (.nilFunc) 1 8 := ⟨by kernel_rfl⟩
instance : One Tryz.prog 142 := One.of Tryz.underlying142 rfl
instance : NoIface Tryz.prog 142 := ⟨_, Tryz.underlying142, by intro ms h; cases h⟩
instance : Conc Tryz.prog 142 := ⟨by kernel_rfl⟩
instance : Inf Tryz.prog 143 (.nilFunc) 1 8 := ⟨by kernel_rfl⟩
instance : One Tryz.prog 143 := One.of Tryz.underlying143 rfl
instance : NoIface Tryz.prog 143 := ⟨_, Tryz.underlying143, by intro ms h; cases h⟩
instance : Conc Tryz.prog 143 := ⟨by kernel_rfl⟩
instance : Und Tryz.prog 144 (.array 256 4) := ⟨Tryz.underlying144⟩
instance : NoIface Tryz.prog 144 := ⟨_, Tryz.underlying144, by intro ms h; cases h⟩
instance : Conc Tryz.prog 144 := ⟨by kernel_rfl⟩
instance : Und Tryz.prog 145 (.array 256 4) := ⟨Tryz.underlying145⟩
instance : NoIface Tryz.prog 145 := ⟨_, Tryz.underlying145, by intro ms h; cases h⟩
instance : Conc Tryz.prog 145 := ⟨by kernel_rfl⟩
instance : Inf Tryz.prog 147 (.nilFunc) 1 8 := ⟨by kernel_rfl⟩
instance : One Tryz.prog 147 := One.of Tryz.underlying147 rfl
instance : NoIface Tryz.prog 147 := ⟨_, Tryz.underlying147, by intro ms h; cases h⟩
instance : Conc Tryz.prog 147 := ⟨by kernel_rfl⟩
instance : Inf Tryz.prog 148 (.nilFunc) 1 8 := ⟨by kernel_rfl⟩
instance : One Tryz.prog 148 := One.of Tryz.underlying148 rfl
instance : NoIface Tryz.prog 148 := ⟨_, Tryz.underlying148, by intro ms h; cases h⟩
instance : Conc Tryz.prog 148 := ⟨by kernel_rfl⟩
instance : Und Tryz.prog 149 (.pointer 145) := ⟨Tryz.underlying149⟩
instance : Inf Tryz.prog 149 (.pointer none) 1 8 := ⟨by kernel_rfl⟩
instance : One Tryz.prog 149 := One.of Tryz.underlying149 rfl
instance : NoIface Tryz.prog 149 := ⟨_, Tryz.underlying149, by intro ms h; cases h⟩
instance : Conc Tryz.prog 149 := ⟨by kernel_rfl⟩
instance : Inf Tryz.prog 150 (.nilFunc) 1 8 := ⟨by kernel_rfl⟩
instance : One Tryz.prog 150 := One.of Tryz.underlying150 rfl
instance : NoIface Tryz.prog 150 := ⟨_, Tryz.underlying150, by intro ms h; cases h⟩
instance : Conc Tryz.prog 150 := ⟨by kernel_rfl⟩
instance : Und Tryz.prog 151 (.slice 153) := ⟨Tryz.underlying151⟩
instance : Inf Tryz.prog 151 (.slice none 0 0) 1 24 := ⟨by kernel_rfl⟩
instance : One Tryz.prog 151 := One.of Tryz.underlying151 rfl
instance : NoIface Tryz.prog 151 := ⟨_, Tryz.underlying151, by intro ms h; cases h⟩
instance : Conc Tryz.prog 151 := ⟨by kernel_rfl⟩
instance : Inf Tryz.prog 152 (Value.agg #[.int .i64 0, .int .i64 0]) 2 16 := ⟨by kernel_rfl⟩
instance : Many Tryz.prog 152 2 := Many.of Tryz.underlying152 rfl
instance : NoIface Tryz.prog 152 := ⟨_, Tryz.underlying152, by intro ms h; cases h⟩
instance : StructT Tryz.prog 152 #[(0, 1), (1, 1)] (Value.agg #[.int .i64 0, .int .i64 0]).cells := StructT.of Tryz.underlying152 rfl (by intro w; simp [run_sizeOf])
instance : Conc Tryz.prog 152 := ⟨by kernel_rfl⟩
instance : Fld Tryz.prog 152 0 0 3 := ⟨⟨_, _, Tryz.underlying152, rfl, rfl, rfl⟩⟩
instance : Fld Tryz.prog 152 1 1 3 := ⟨⟨_, _, Tryz.underlying152, rfl, rfl, rfl⟩⟩
instance : Inf Tryz.prog 153 (Value.agg #[.int .i64 0, .int .i64 0]) 2 16 := ⟨by kernel_rfl⟩
instance : Many Tryz.prog 153 2 := Many.of Tryz.underlying153 rfl
instance : NoIface Tryz.prog 153 := ⟨_, Tryz.underlying153, by intro ms h; cases h⟩
instance : StructT Tryz.prog 153 #[(0, 1), (1, 1)] (Value.agg #[.int .i64 0, .int .i64 0]).cells := StructT.of Tryz.underlying153 rfl (by intro w; simp [run_sizeOf])
instance : Conc Tryz.prog 153 := ⟨by kernel_rfl⟩
instance : Fld Tryz.prog 153 0 0 3 := ⟨⟨_, _, Tryz.underlying153, rfl, rfl, rfl⟩⟩
instance : Fld Tryz.prog 153 1 1 3 := ⟨⟨_, _, Tryz.underlying153, rfl, rfl, rfl⟩⟩
instance : Inf Tryz.prog 155 (.nilFunc) 1 8 := ⟨by kernel_rfl⟩
instance : One Tryz.prog 155 := One.of Tryz.underlying155 rfl
instance : NoIface Tryz.prog 155 := ⟨_, Tryz.underlying155, by intro ms h; cases h⟩
instance : Conc Tryz.prog 155 := ⟨by kernel_rfl⟩
instance : Und Tryz.prog 156 (.array 24 5) := ⟨Tryz.underlying156⟩
instance : Inf Tryz.prog 156 (Value.agg #[.int .u8 0, .int .u8 0, .int .u8 0, .int .u8 0, .int .u8 0, .int .u8 0, .int .u8 0, .int .u8 0, .int .u8 0, .int .u8 0, .int .u8 0, .int .u8 0, .int .u8 0, .int .u8 0, .int .u8 0, .int .u8 0, .int .u8 0, .int .u8 0, .int .u8 0, .int .u8 0, .int .u8 0, .int .u8 0, .int .u8 0, .int .u8 0]) 24 24 := ⟨by kernel_rfl⟩
instance : Many Tryz.prog 156 24 := Many.of Tryz.underlying156 rfl
instance : NoIface Tryz.prog 156 := ⟨_, Tryz.underlying156, by intro ms h; cases h⟩
instance : Conc Tryz.prog 156 := ⟨by kernel_rfl⟩
instance : Und Tryz.prog 157 (.int .u64) := ⟨Tryz.underlying157⟩
instance : Inf Tryz.prog 157 (.int .u64 0) 1 8 := ⟨by kernel_rfl⟩
instance : One Tryz.prog 157 := One.of Tryz.underlying157 rfl
instance : NoIface Tryz.prog 157 := ⟨_, Tryz.underlying157, by intro ms h; cases h⟩
instance : Conc Tryz.prog 157 := ⟨by kernel_rfl⟩
instance : Inf Tryz.prog 158 (.nilFunc) 1 8 := ⟨by kernel_rfl⟩
instance : One Tryz.prog 158 := One.of Tryz.underlying158 rfl
instance : NoIface Tryz.prog 158 := ⟨_, Tryz.underlying158, by intro ms h; cases h⟩
instance : Conc Tryz.prog 158 := ⟨by kernel_rfl⟩
instance : Inf Tryz.prog 159 (.nilFunc) 1 8 := ⟨by kernel_rfl⟩
instance : One Tryz.prog 159 := One.of Tryz.underlying159 rfl
instance : NoIface Tryz.prog 159 := ⟨_, Tryz.underlying159, by intro ms h; cases h⟩
instance : Conc Tryz.prog 159 := ⟨by kernel_rfl⟩
instance : Inf Tryz.prog 161 (.nilFunc) 1 8 := ⟨by kernel_rfl⟩
instance : One Tryz.prog 161 := One.of Tryz.underlying161 rfl
instance : NoIface Tryz.prog 161 := ⟨_, Tryz.underlying161, by intro ms h; cases h⟩
instance : Conc Tryz.prog 161 := ⟨by kernel_rfl⟩
instance : Inf Tryz.prog 162 (.nilFunc) 1 8 := ⟨by kernel_rfl⟩
instance : One Tryz.prog 162 := One.of Tryz.underlying162 rfl
instance : NoIface Tryz.prog 162 := ⟨_, Tryz.underlying162, by intro ms h; cases h⟩
instance : Conc Tryz.prog 162 := ⟨by kernel_rfl⟩
instance : Und Tryz.prog 163 (.int .i64) := ⟨Tryz.underlying163⟩
instance : Inf Tryz.prog 163 (.int .i64 0) 1 8 := ⟨by kernel_rfl⟩
instance : One Tryz.prog 163 := One.of Tryz.underlying163 rfl
instance : NoIface Tryz.prog 163 := ⟨_, Tryz.underlying163, by intro ms h; cases h⟩
instance : Conc Tryz.prog 163 := ⟨by kernel_rfl⟩
instance : Inf Tryz.prog 165 (.nilFunc) 1 8 := ⟨by kernel_rfl⟩
instance : One Tryz.prog 165 := One.of Tryz.underlying165 rfl
instance : NoIface Tryz.prog 165 := ⟨_, Tryz.underlying165, by intro ms h; cases h⟩
instance : Conc Tryz.prog 165 := ⟨by kernel_rfl⟩
instance : Und Tryz.prog 166 (.pointer 188) := ⟨Tryz.underlying166⟩
instance : Inf Tryz.prog 166 (.pointer none) 1 8 := ⟨by kernel_rfl⟩
instance : One Tryz.prog 166 := One.of Tryz.underlying166 rfl
instance : NoIface Tryz.prog 166 := ⟨_, Tryz.underlying166, by intro ms h; cases h⟩
instance : Conc Tryz.prog 166 := ⟨by kernel_rfl⟩
instance : Inf Tryz.prog 167 (.nilFunc) 1 8 := ⟨by kernel_rfl⟩
instance : One Tryz.prog 167 := One.of Tryz.underlying167 rfl
instance : NoIface Tryz.prog 167 := ⟨_, Tryz.underlying167, by intro ms h; cases h⟩
instance : Conc Tryz.prog 167 := ⟨by kernel_rfl⟩
instance : Inf Tryz.prog 168 (.nilFunc) 1 8 := ⟨by kernel_rfl⟩
instance : One Tryz.prog 168 := One.of Tryz.underlying168 rfl
instance : NoIface Tryz.prog 168 := ⟨_, Tryz.underlying168, by intro ms h; cases h⟩
instance : Conc Tryz.prog 168 := ⟨by kernel_rfl⟩
instance : Inf Tryz.prog 169 (.nilFunc) 1 8 := ⟨by kernel_rfl⟩
instance : One Tryz.prog 169 := One.of Tryz.underlying169 rfl
instance : NoIface Tryz.prog 169 := ⟨_, Tryz.underlying169, by intro ms h; cases h⟩
instance : Conc Tryz.prog 169 := ⟨by kernel_rfl⟩
instance : Und Tryz.prog 170 (.pointer 3) := ⟨Tryz.underlying170⟩
instance : Inf Tryz.prog 170 (.pointer none) 1 8 := ⟨by kernel_rfl⟩
instance : One Tryz.prog 170 := One.of Tryz.underlying170 rfl
instance : NoIface Tryz.prog 170 := ⟨_, Tryz.underlying170, by intro ms h; cases h⟩
instance : Conc Tryz.prog 170 := ⟨by kernel_rfl⟩
instance : Und Tryz.prog 171 (.slice 170) := ⟨Tryz.underlying171⟩
instance : Inf Tryz.prog 171 (.slice none 0 0) 1 24 := ⟨by kernel_rfl⟩
instance : One Tryz.prog 171 := One.of Tryz.underlying171 rfl
instance : NoIface Tryz.prog 171 := ⟨_, Tryz.underlying171, by intro ms h; cases h⟩
instance : Conc Tryz.prog 171 := ⟨by kernel_rfl⟩
instance : Inf Tryz.prog 172 (.nilFunc) 1 8 := ⟨by kernel_rfl⟩
instance : One Tryz.prog 172 := One.of Tryz.underlying172 rfl
instance : NoIface Tryz.prog 172 := ⟨_, Tryz.underlying172, by intro ms h; cases h⟩
instance : Conc Tryz.prog 172 := ⟨by kernel_rfl⟩
instance : Und Tryz.prog 173 (.array 20 157) := ⟨Tryz.underlying173⟩
instance : Inf Tryz.prog 173 (Value.agg #[.int .u64 0, .int .u64 0, .int .u64 0, .int .u64 0, .int .u64 0, .int .u64 0, .int .u64 0, .int .u64 0, .int .u64 0, .int .u64 0, .int .u64 0, .int .u64 0, .int .u64 0, .int .u64 0, .int .u64 0, .int .u64 0, .int .u64 0, .int .u64 0, .int .u64 0, .int .u64 0]) 20 160 := ⟨by kernel_rfl⟩
instance : Many Tryz.prog 173 20 := Many.of Tryz.underlying173 rfl
instance : NoIface Tryz.prog 173 := ⟨_, Tryz.underlying173, by intro ms h; cases h⟩
instance : Conc Tryz.prog 173 := ⟨by kernel_rfl⟩
instance : Und Tryz.prog 174 (.int .u32) := ⟨Tryz.underlying174⟩
instance : Inf Tryz.prog 174 (.int .u32 0) 1 4 := ⟨by kernel_rfl⟩
instance : One Tryz.prog 174 := One.of Tryz.underlying174 rfl
instance : NoIface Tryz.prog 174 := ⟨_, Tryz.underlying174, by intro ms h; cases h⟩
instance : Conc Tryz.prog 174 := ⟨by kernel_rfl⟩
instance : Und Tryz.prog 175 (.array 65 5) := ⟨Tryz.underlying175⟩
instance : NoIface Tryz.prog 175 := ⟨_, Tryz.underlying175, by intro ms h; cases h⟩
instance : Conc Tryz.prog 175 := ⟨by kernel_rfl⟩
instance : Inf Tryz.prog 176 (.nilFunc) 1 8 := ⟨by kernel_rfl⟩
instance : One Tryz.prog 176 := One.of Tryz.underlying176 rfl
instance : NoIface Tryz.prog 176 := ⟨_, Tryz.underlying176, by intro ms h; cases h⟩
instance : Conc Tryz.prog 176 := ⟨by kernel_rfl⟩
instance : Inf Tryz.prog 177 (.nilFunc) 1 8 := ⟨by kernel_rfl⟩
instance : One Tryz.prog 177 := One.of Tryz.underlying177 rfl
instance : NoIface Tryz.prog 177 := ⟨_, Tryz.underlying177, by intro ms h; cases h⟩
instance : Conc Tryz.prog 177 := ⟨by kernel_rfl⟩
instance : Und Tryz.prog 178 (.array 256 5) := ⟨Tryz.underlying178⟩
instance : NoIface Tryz.prog 178 := ⟨_, Tryz.underlying178, by intro ms h; cases h⟩
instance : Conc Tryz.prog 178 := ⟨by kernel_rfl⟩
instance : Inf Tryz.prog 179 (Value.agg #[.int .u8 0, .int .u8 0]) 2 2 := ⟨by kernel_rfl⟩
instance : Many Tryz.prog 179 2 := Many.of Tryz.underlying179 rfl
instance : NoIface Tryz.prog 179 := ⟨_, Tryz.underlying179, by intro ms h; cases h⟩
instance : StructT Tryz.prog 179 #[(0, 1), (1, 1)] (Value.agg #[.int .u8 0, .int .u8 0]).cells := StructT.of Tryz.underlying179 rfl (by intro w; simp [run_sizeOf])
instance : Conc Tryz.prog 179 := ⟨by kernel_rfl⟩
instance : Fld Tryz.prog 179 0 0 5 := ⟨⟨_, _, Tryz.underlying179, rfl, rfl, rfl⟩⟩
instance : Fld Tryz.prog 179 1 1 5 := ⟨⟨_, _, Tryz.underlying179, rfl, rfl, rfl⟩⟩
instance : Inf Tryz.prog 180 (Value.agg #[.int .u8 0, .int .u8 0]) 2 2 := ⟨by kernel_rfl⟩
instance : Many Tryz.prog 180 2 := Many.of Tryz.underlying180 rfl
instance : NoIface Tryz.prog 180 := ⟨_, Tryz.underlying180, by intro ms h; cases h⟩
instance : StructT Tryz.prog 180 #[(0, 1), (1, 1)] (Value.agg #[.int .u8 0, .int .u8 0]).cells := StructT.of Tryz.underlying180 rfl (by intro w; simp [run_sizeOf])
instance : Conc Tryz.prog 180 := ⟨by kernel_rfl⟩
instance : Fld Tryz.prog 180 0 0 5 := ⟨⟨_, _, Tryz.underlying180, rfl, rfl, rfl⟩⟩
instance : Fld Tryz.prog 180 1 1 5 := ⟨⟨_, _, Tryz.underlying180, rfl, rfl, rfl⟩⟩
instance : Und Tryz.prog 181 (.array 16 180) := ⟨Tryz.underlying181⟩
instance : Inf Tryz.prog 181 (Value.agg #[.int .u8 0, .int .u8 0, .int .u8 0, .int .u8 0, .int .u8 0, .int .u8 0, .int .u8 0, .int .u8 0, .int .u8 0, .int .u8 0, .int .u8 0, .int .u8 0, .int .u8 0, .int .u8 0, .int .u8 0, .int .u8 0, .int .u8 0, .int .u8 0, .int .u8 0, .int .u8 0, .int .u8 0, .int .u8 0, .int .u8 0, .int .u8 0, .int .u8 0, .int .u8 0, .int .u8 0, .int .u8 0, .int .u8 0, .int .u8 0, .int .u8 0, .int .u8 0]) 32 32 := ⟨by kernel_rfl⟩
instance : Many Tryz.prog 181 32 := Many.of Tryz.underlying181 rfl
instance : NoIface Tryz.prog 181 := ⟨_, Tryz.underlying181, by intro ms h; cases h⟩
instance : Conc Tryz.prog 181 := ⟨by kernel_rfl⟩
instance : Inf Tryz.prog 183 (.nilFunc) 1 8 := ⟨by kernel_rfl⟩
instance : One Tryz.prog 183 := One.of Tryz.underlying183 rfl
instance : NoIface Tryz.prog 183 := ⟨_, Tryz.underlying183, by intro ms h; cases h⟩
instance : Conc Tryz.prog 183 := ⟨by kernel_rfl⟩
instance : Inf Tryz.prog 185 (.nilFunc) 1 8 := ⟨by kernel_rfl⟩
instance : One Tryz.prog 185 := One.of Tryz.underlying185 rfl
instance : NoIface Tryz.prog 185 := ⟨_, Tryz.underlying185, by intro ms h; cases h⟩
instance : Conc Tryz.prog 185 := ⟨by kernel_rfl⟩
instance : Inf Tryz.prog 186 (.nilFunc) 1 8 := ⟨by kernel_rfl⟩
instance : One Tryz.prog 186 := One.of Tryz.underlying186 rfl
instance : NoIface Tryz.prog 186 := ⟨_, Tryz.underlying186, by intro ms h; cases h⟩
instance : Conc Tryz.prog 186 := ⟨by kernel_rfl⟩
instance : Inf Tryz.prog 187 (Value.agg #[.string (B []), .string (B []), .nilIface]) 3 48 := ⟨by kernel_rfl⟩
instance : Many Tryz.prog 187 3 := Many.of Tryz.underlying187 rfl
instance : NoIface Tryz.prog 187 := ⟨_, Tryz.underlying187, by intro ms h; cases h⟩
instance : StructT Tryz.prog 187 #[(0, 1), (1, 1), (2, 1)] (Value.agg #[.string (B []), .string (B []), .nilIface]).cells := StructT.of Tryz.underlying187 rfl (by intro w; simp [run_sizeOf])
instance : Conc Tryz.prog 187 := ⟨by kernel_rfl⟩
instance : Fld Tryz.prog 187 0 0 9 := ⟨⟨_, _, Tryz.underlying187, rfl, rfl, rfl⟩⟩
instance : Fld Tryz.prog 187 1 1 9 := ⟨⟨_, _, Tryz.underlying187, rfl, rfl, rfl⟩⟩
instance : Fld Tryz.prog 187 2 2 78 := ⟨⟨_, _, Tryz.underlying187, rfl, rfl, rfl⟩⟩
instance : Inf Tryz.prog 188 (Value.agg #[.string (B []), .string (B []), .nilIface]) 3 48 := ⟨by kernel_rfl⟩
instance : Many Tryz.prog 188 3 := Many.of Tryz.underlying188 rfl
instance : NoIface Tryz.prog 188 := ⟨_, Tryz.underlying188, by intro ms h; cases h⟩
instance : StructT Tryz.prog 188 #[(0, 1), (1, 1), (2, 1)] (Value.agg #[.string (B []), .string (B []), .nilIface]).cells := StructT.of Tryz.underlying188 rfl (by intro w; simp [run_sizeOf])
instance : Conc Tryz.prog 188 := ⟨by kernel_rfl⟩
instance : Fld Tryz.prog 188 0 0 9 := ⟨⟨_, _, Tryz.underlying188, rfl, rfl, rfl⟩⟩
instance : Fld Tryz.prog 188 1 1 9 := ⟨⟨_, _, Tryz.underlying188, rfl, rfl, rfl⟩⟩
instance : Fld Tryz.prog 188 2 2 78 := ⟨⟨_, _, Tryz.underlying188, rfl, rfl, rfl⟩⟩
instance : Inf Tryz.prog 189 (.nilFunc) 1 8 := ⟨by kernel_rfl⟩
instance : One Tryz.prog 189 := One.of Tryz.underlying189 rfl
instance : NoIface Tryz.prog 189 := ⟨_, Tryz.underlying189, by intro ms h; cases h⟩
instance : Conc Tryz.prog 189 := ⟨by kernel_rfl⟩
instance : Inf Tryz.prog 190 (.nilFunc) 1 8 := ⟨by kernel_rfl⟩
instance : One Tryz.prog 190 := One.of Tryz.underlying190 rfl
instance : NoIface Tryz.prog 190 := ⟨_, Tryz.underlying190, by intro ms h; cases h⟩
instance : Conc Tryz.prog 190 := ⟨by kernel_rfl⟩
instance : Inf Tryz.prog 191 (.nilFunc) 1 8 := ⟨by kernel_rfl⟩
instance : One Tryz.prog 191 := One.of Tryz.underlying191 rfl
instance : NoIface Tryz.prog 191 := ⟨_, Tryz.underlying191, by intro ms h; cases h⟩
instance : Conc Tryz.prog 191 := ⟨by kernel_rfl⟩
instance : Inf Tryz.prog 192 (.nilFunc) 1 8 := ⟨by kernel_rfl⟩
instance : One Tryz.prog 192 := One.of Tryz.underlying192 rfl
instance : NoIface Tryz.prog 192 := ⟨_, Tryz.underlying192, by intro ms h; cases h⟩
instance : Conc Tryz.prog 192 := ⟨by kernel_rfl⟩
instance : Und Tryz.prog 193 (.pointer 195) := ⟨Tryz.underlying193⟩
instance : Inf Tryz.prog 193 (.pointer none) 1 8 := ⟨by kernel_rfl⟩
instance : One Tryz.prog 193 := One.of Tryz.underlying193 rfl
instance : NoIface Tryz.prog 193 := ⟨_, Tryz.underlying193, by intro ms h; cases h⟩
instance : Conc Tryz.prog 193 := ⟨by kernel_rfl⟩
instance : Inf Tryz.prog 194 (Value.agg #[.string (B [])]) 1 16 := ⟨by kernel_rfl⟩
instance : Many Tryz.prog 194 1 := Many.of Tryz.underlying194 rfl
instance : NoIface Tryz.prog 194 := ⟨_, Tryz.underlying194, by intro ms h; cases h⟩
instance : StructT Tryz.prog 194 #[(0, 1)] (Value.agg #[.string (B [])]).cells := StructT.of Tryz.underlying194 rfl (by intro w; simp [run_sizeOf])
instance : Conc Tryz.prog 194 := ⟨by kernel_rfl⟩
instance : Fld Tryz.prog 194 0 0 9 := ⟨⟨_, _, Tryz.underlying194, rfl, rfl, rfl⟩⟩
instance : Inf Tryz.prog 195 (Value.agg #[.string (B [])]) 1 16 := ⟨by kernel_rfl⟩
instance : Many Tryz.prog 195 1 := Many.of Tryz.underlying195 rfl
instance : NoIface Tryz.prog 195 := ⟨_, Tryz.underlying195, by intro ms h; cases h⟩
instance : StructT Tryz.prog 195 #[(0, 1)] (Value.agg #[.string (B [])]).cells := StructT.of Tryz.underlying195 rfl (by intro w; simp [run_sizeOf])
instance : Conc Tryz.prog 195 := ⟨by kernel_rfl⟩
instance : Fld Tryz.prog 195 0 0 9 := ⟨⟨_, _, Tryz.underlying195, rfl, rfl, rfl⟩⟩
instance : Und Tryz.prog 196 (.array 32 5) := ⟨Tryz.underlying196⟩
instance : Inf Tryz.prog 196 (Value.agg #[.int .u8 0, .int .u8 0, .int .u8 0, .int .u8 0, .int .u8 0, .int .u8 0, .int .u8 0, .int .u8 0, .int .u8 0, .int .u8 0, .int .u8 0, .int .u8 0, .int .u8 0, .int .u8 0, .int .u8 0, .int .u8 0, .int .u8 0, .int .u8 0, .int .u8 0, .int .u8 0, .int .u8 0, .int .u8 0, .int .u8 0, .int .u8 0, .int .u8 0, .int .u8 0, .int .u8 0, .int .u8 0, .int .u8 0, .int .u8 0, .int .u8 0, .int .u8 0]) 32 32 := ⟨by kernel_rfl⟩
instance : Many Tryz.prog 196 32 := Many.of Tryz.underlying196 rfl
instance : NoIface Tryz.prog 196 := ⟨_, Tryz.underlying196, by intro ms h; cases h⟩
instance : Conc Tryz.prog 196 := ⟨by kernel_rfl⟩
instance : Und Tryz.prog 197 (.array 64 5) := ⟨Tryz.underlying197⟩
instance : Inf Tryz.prog 197 (Value.agg #[.int .u8 0, .int .u8 0, .int .u8 0, .int .u8 0, .int .u8 0, .int .u8 0, .int .u8 0, .int .u8 0, .int .u8 0, .int .u8 0, .int .u8 0, .int .u8 0, .int .u8 0, .int .u8 0, .int .u8 0, .int .u8 0, .int .u8 0, .int .u8 0, .int .u8 0, .int .u8 0, .int .u8 0, .int .u8 0, .int .u8 0, .int .u8 0, .int .u8 0, .int .u8 0, .int .u8 0, .int .u8 0, .int .u8 0, .int .u8 0, .int .u8 0, .int .u8 0, .int .u8 0, .int .u8 0, .int .u8 0, .int .u8 0, .int .u8 0, .int .u8 0, .int .u8 0, .int .u8 0, .int .u8 0, .int .u8 0, .int .u8 0, .int .u8 0, .int .u8 0, .int .u8 0, .int .u8 0, .int .u8 0, .int .u8 0, .int .u8 0, .int .u8 0, .int .u8 0, .int .u8 0, .int .u8 0, .int .u8 0, .int .u8 0, .int .u8 0, .int .u8 0, .int .u8 0, .int .u8 0, .int .u8 0, .int .u8 0, .int .u8 0, .int .u8 0]) 64 64 := ⟨by kernel_rfl⟩
instance : Many Tryz.prog 197 64 := Many.of Tryz.underlying197 rfl
instance : NoIface Tryz.prog 197 := ⟨_, Tryz.underlying197, by intro ms h; cases h⟩
instance : Conc Tryz.prog 197 := ⟨by kernel_rfl⟩
instance : Inf Tryz.prog 198 (Value.agg #[.pointer none, .pointer none, .pointer none, .string (B [])]) 4 40 := ⟨by kernel_rfl⟩
instance : Many Tryz.prog 198 4 := Many.of Tryz.underlying198 rfl
instance : NoIface Tryz.prog 198 := ⟨_, Tryz.underlying198, by intro ms h; cases h⟩
instance : StructT Tryz.prog 198 #[(0, 1), (1, 1), (2, 1), (3, 1)] (Value.agg #[.pointer none, .pointer none, .pointer none, .string (B [])]).cells := StructT.of Tryz.underlying198 rfl (by intro w; simp [run_sizeOf])
instance : Conc Tryz.prog 198 := ⟨by kernel_rfl⟩
instance : Fld Tryz.prog 198 0 0 17 := ⟨⟨_, _, Tryz.underlying198, rfl, rfl, rfl⟩⟩
instance : Fld Tryz.prog 198 1 1 17 := ⟨⟨_, _, Tryz.underlying198, rfl, rfl, rfl⟩⟩
instance : Fld Tryz.prog 198 2 2 17 := ⟨⟨_, _, Tryz.underlying198, rfl, rfl, rfl⟩⟩
instance : Fld Tryz.prog 198 3 3 9 := ⟨⟨_, _, Tryz.underlying198, rfl, rfl, rfl⟩⟩
instance : Inf Tryz.prog 199 (Value.agg #[.pointer none, .pointer none, .pointer none, .string (B [])]) 4 40 := ⟨by kernel_rfl⟩
instance : Many Tryz.prog 199 4 := Many.of Tryz.underlying199 rfl
instance : NoIface Tryz.prog 199 := ⟨_, Tryz.underlying199, by intro ms h; cases h⟩
instance : StructT Tryz.prog 199 #[(0, 1), (1, 1), (2, 1), (3, 1)] (Value.agg #[.pointer none, .pointer none, .pointer none, .string (B [])]).cells := StructT.of Tryz.underlying199 rfl (by intro w; simp [run_sizeOf])
instance : Conc Tryz.prog 199 := ⟨by kernel_rfl⟩
instance : Fld Tryz.prog 199 0 0 17 := ⟨⟨_, _, Tryz.underlying199, rfl, rfl, rfl⟩⟩
instance : Fld Tryz.prog 199 1 1 17 := ⟨⟨_, _, Tryz.underlying199, rfl, rfl, rfl⟩⟩
instance : Fld Tryz.prog 199 2 2 17 := ⟨⟨_, _, Tryz.underlying199, rfl, rfl, rfl⟩⟩
instance : Fld Tryz.prog 199 3 3 9 := ⟨⟨_, _, Tryz.underlying199, rfl, rfl, rfl⟩⟩
instance : Und Tryz.prog 200 (.array 0 16) := ⟨Tryz.underlying200⟩
instance : Inf Tryz.prog 200 (Value.agg #[]) 0 0 := ⟨by kernel_rfl⟩
instance : Many Tryz.prog 200 0 := Many.of Tryz.underlying200 rfl
instance : NoIface Tryz.prog 200 := ⟨_, Tryz.underlying200, by intro ms h; cases h⟩
instance : Conc Tryz.prog 200 := ⟨by kernel_rfl⟩
instance : Inf Tryz.prog 201 (Value.agg #[]) 0 0 := ⟨by kernel_rfl⟩
instance : Many Tryz.prog 201 0 := Many.of Tryz.underlying201 rfl
instance : NoIface Tryz.prog 201 := ⟨_, Tryz.underlying201, by intro ms h; cases h⟩
instance : StructT Tryz.prog 201 #[(0, 0)] (Value.agg #[]).cells := StructT.of Tryz.underlying201 rfl (by intro w; simp [run_sizeOf])
instance : Conc Tryz.prog 201 := ⟨by kernel_rfl⟩
instance : Fld Tryz.prog 201 0 0 200 := ⟨⟨_, _, Tryz.underlying201, rfl, rfl, rfl⟩⟩
instance : Inf Tryz.prog 202 (Value.agg #[]) 0 0 := ⟨by kernel_rfl⟩
instance : Many Tryz.prog 202 0 := Many.of Tryz.underlying202 rfl
instance : NoIface Tryz.prog 202 := ⟨_, Tryz.underlying202, by intro ms h; cases h⟩
instance : StructT Tryz.prog 202 #[(0, 0)] (Value.agg #[]).cells := StructT.of Tryz.underlying202 rfl (by intro w; simp [run_sizeOf])
instance : Conc Tryz.prog 202 := ⟨by kernel_rfl⟩
instance : Fld Tryz.prog 202 0 0 200 := ⟨⟨_, _, Tryz.underlying202, rfl, rfl, rfl⟩⟩
instance : Inf Tryz.prog 203 (.nilFunc) 1 8 := ⟨by kernel_rfl⟩
instance : One Tryz.prog 203 := One.of Tryz.underlying203 rfl
instance : NoIface Tryz.prog 203 := ⟨_, Tryz.underlying203, by intro ms h; cases h⟩
instance : Conc Tryz.prog 203 := ⟨by kernel_rfl⟩
instance : Und Tryz.prog 204 (.int .u8) := ⟨Tryz.underlying204⟩
instance : Inf Tryz.prog 204 (.int .u8 0) 1 1 := ⟨by kernel_rfl⟩
instance : One Tryz.prog 204 := One.of Tryz.underlying204 rfl
instance : NoIface Tryz.prog 204 := ⟨_, Tryz.underlying204, by intro ms h; cases h⟩
instance : Conc Tryz.prog 204 := ⟨by kernel_rfl⟩
instance : Und Tryz.prog 205 (.int .u8) := ⟨Tryz.underlying205⟩
instance : Inf Tryz.prog 205 (.int .u8 0) 1 1 := ⟨by kernel_rfl⟩
instance : One Tryz.prog 205 := One.of Tryz.underlying205 rfl
instance : NoIface Tryz.prog 205 := ⟨_, Tryz.underlying205, by intro ms h; cases h⟩
instance : Conc Tryz.prog 205 := ⟨by kernel_rfl⟩
instance : Inf Tryz.prog 206 (.nilFunc) 1 8 := ⟨by kernel_rfl⟩
instance : One Tryz.prog 206 := One.of Tryz.underlying206 rfl
instance : NoIface Tryz.prog 206 := ⟨_, Tryz.underlying206, by intro ms h; cases h⟩
instance : Conc Tryz.prog 206 := ⟨by kernel_rfl⟩
instance : Und Tryz.prog 207 (.int .i32) := ⟨Tryz.underlying207⟩
instance : Inf Tryz.prog 207 (.int .i32 0) 1 4 := ⟨by kernel_rfl⟩
instance : One Tryz.prog 207 := One.of Tryz.underlying207 rfl
instance : NoIface Tryz.prog 207 := ⟨_, Tryz.underlying207, by intro ms h; cases h⟩
instance : Conc Tryz.prog 207 := ⟨by kernel_rfl⟩
instance : Und Tryz.prog 208 (.int .i32) := ⟨Tryz.underlying208⟩
instance : Inf Tryz.prog 208 (.int .i32 0) 1 4 := ⟨by kernel_rfl⟩
instance : One Tryz.prog 208 := One.of Tryz.underlying208 rfl
instance : NoIface Tryz.prog 208 := ⟨_, Tryz.underlying208, by intro ms h; cases h⟩
instance : Conc Tryz.prog 208 := ⟨by kernel_rfl⟩
instance : Inf Tryz.prog 209 (Value.agg #[.int .u64 0, .int .u64 0, .int .u32 0, .int .u8 0, .int .u8 0, .int .u8 0, .int .u8 0, .nilFunc, .pointer none, .int .i32 0, .int .i32 0]) 11 48 := ⟨by kernel_rfl⟩
instance : Many Tryz.prog 209 11 := Many.of Tryz.underlying209 rfl
instance : NoIface Tryz.prog 209 := ⟨_, Tryz.underlying209, by intro ms h; cases h⟩
instance : StructT Tryz.prog 209 #[(0, 1), (1, 1), (2, 1), (3, 1), (4, 1), (5, 1), (6, 1), (7, 1), (8, 1), (9, 1), (10, 1)] (Value.agg #[.int .u64 0, .int .u64 0, .int .u32 0, .int .u8 0, .int .u8 0, .int .u8 0, .int .u8 0, .nilFunc, .pointer none, .int .i32 0, .int .i32 0]).cells := StructT.of Tryz.underlying209 rfl (by intro w; simp [run_sizeOf])
instance : Conc Tryz.prog 209 := ⟨by kernel_rfl⟩
instance : Fld Tryz.prog 209 0 0 12 := ⟨⟨_, _, Tryz.underlying209, rfl, rfl, rfl⟩⟩
instance : Fld Tryz.prog 209 1 1 12 := ⟨⟨_, _, Tryz.underlying209, rfl, rfl, rfl⟩⟩
instance : Fld Tryz.prog 209 2 2 174 := ⟨⟨_, _, Tryz.underlying209, rfl, rfl, rfl⟩⟩
instance : Fld Tryz.prog 209 3 3 204 := ⟨⟨_, _, Tryz.underlying209, rfl, rfl, rfl⟩⟩
instance : Fld Tryz.prog 209 4 4 5 := ⟨⟨_, _, Tryz.underlying209, rfl, rfl, rfl⟩⟩
instance : Fld Tryz.prog 209 5 5 5 := ⟨⟨_, _, Tryz.underlying209, rfl, rfl, rfl⟩⟩
instance : Fld Tryz.prog 209 6 6 205 := ⟨⟨_, _, Tryz.underlying209, rfl, rfl, rfl⟩⟩
instance : Fld Tryz.prog 209 7 7 206 := ⟨⟨_, _, Tryz.underlying209, rfl, rfl, rfl⟩⟩
instance : Fld Tryz.prog 209 8 8 108 := ⟨⟨_, _, Tryz.underlying209, rfl, rfl, rfl⟩⟩
instance : Fld Tryz.prog 209 9 9 207 := ⟨⟨_, _, Tryz.underlying209, rfl, rfl, rfl⟩⟩
instance : Fld Tryz.prog 209 10 10 208 := ⟨⟨_, _, Tryz.underlying209, rfl, rfl, rfl⟩⟩
instance : Inf Tryz.prog 210 (Value.agg #[.int .u64 0, .int .u64 0, .int .u32 0, .int .u8 0, .int .u8 0, .int .u8 0, .int .u8 0, .nilFunc, .pointer none, .int .i32 0, .int .i32 0]) 11 48 := ⟨by kernel_rfl⟩
instance : Many Tryz.prog 210 11 := Many.of Tryz.underlying210 rfl
instance : NoIface Tryz.prog 210 := ⟨_, Tryz.underlying210, by intro ms h; cases h⟩
instance : StructT Tryz.prog 210 #[(0, 1), (1, 1), (2, 1), (3, 1), (4, 1), (5, 1), (6, 1), (7, 1), (8, 1), (9, 1), (10, 1)] (Value.agg #[.int .u64 0, .int .u64 0, .int .u32 0, .int .u8 0, .int .u8 0, .int .u8 0, .int .u8 0, .nilFunc, .pointer none, .int .i32 0, .int .i32 0]).cells := StructT.of Tryz.underlying210 rfl (by intro w; simp [run_sizeOf])
instance : Conc Tryz.prog 210 := ⟨by kernel_rfl⟩
instance : Fld Tryz.prog 210 0 0 12 := ⟨⟨_, _, Tryz.underlying210, rfl, rfl, rfl⟩⟩
instance : Fld Tryz.prog 210 1 1 12 := ⟨⟨_, _, Tryz.underlying210, rfl, rfl, rfl⟩⟩
instance : Fld Tryz.prog 210 2 2 174 := ⟨⟨_, _, Tryz.underlying210, rfl, rfl, rfl⟩⟩
instance : Fld Tryz.prog 210 3 3 204 := ⟨⟨_, _, Tryz.underlying210, rfl, rfl, rfl⟩⟩
instance : Fld Tryz.prog 210 4 4 5 := ⟨⟨_, _, Tryz.underlying210, rfl, rfl, rfl⟩⟩
instance : Fld Tryz.prog 210 5 5 5 := ⟨⟨_, _, Tryz.underlying210, rfl, rfl, rfl⟩⟩
instance : Fld Tryz.prog 210 6 6 205 := ⟨⟨_, _, Tryz.underlying210, rfl, rfl, rfl⟩⟩
instance : Fld Tryz.prog 210 7 7 206 := ⟨⟨_, _, Tryz.underlying210, rfl, rfl, rfl⟩⟩
instance : Fld Tryz.prog 210 8 8 108 := ⟨⟨_, _, Tryz.underlying210, rfl, rfl, rfl⟩⟩
instance : Fld Tryz.prog 210 9 9 207 := ⟨⟨_, _, Tryz.underlying210, rfl, rfl, rfl⟩⟩
instance : Fld Tryz.prog 210 10 10 208 := ⟨⟨_, _, Tryz.underlying210, rfl, rfl, rfl⟩⟩
instance : Ent Tryz.prog 3 := Ent.of Tryz.func3 (by kernel_rfl) (by kernel_rfl)
instance : Ent Tryz.prog 4 := Ent.of Tryz.func4 (by kernel_rfl) (by kernel_rfl)
instance : Ent Tryz.prog 5 := Ent.of Tryz.func5 (by kernel_rfl) (by kernel_rfl)
instance : Ent Tryz.prog 6 := Ent.of Tryz.func6 (by kernel_rfl) (by kernel_rfl)
instance : Ent Tryz.prog 7 := Ent.of Tryz.func7 (by kernel_rfl) (by kernel_rfl)
instance : Ent Tryz.prog 8 := Ent.of Tryz.func8 (by kernel_rfl) (by kernel_rfl)
instance : Ent Tryz.prog 9 := Ent.of Tryz.func9 (by kernel_rfl) (by kernel_rfl)
instance : Ent Tryz.prog 10 := Ent.of Tryz.func10 (by kernel_rfl) (by kernel_rfl)
instance : Ent Tryz.prog 11 := Ent.of Tryz.func11 (by kernel_rfl) (by kernel_rfl)
instance : Ent Tryz.prog 12 := Ent.of Tryz.func12 (by kernel_rfl) (by kernel_rfl)
instance : Ent Tryz.prog 13 := Ent.of Tryz.func13 (by kernel_rfl) (by kernel_rfl)
instance : Ent Tryz.prog 14 := Ent.of Tryz.func14 (by kernel_rfl) (by kernel_rfl)
instance : Ent Tryz.prog 15 := Ent.of Tryz.func15 (by kernel_rfl) (by kernel_rfl)
instance : Ent Tryz.prog 16 := Ent.of Tryz.func16 (by kernel_rfl) (by kernel_rfl)
instance : Ent Tryz.prog 17 := Ent.of Tryz.func17 (by kernel_rfl) (by kernel_rfl)
instance : Ent Tryz.prog 18 := Ent.of Tryz.func18 (by kernel_rfl) (by kernel_rfl)
instance : Ent Tryz.prog 19 := Ent.of Tryz.func19 (by kernel_rfl) (by kernel_rfl)
instance : Ent Tryz.prog 20 := Ent.of Tryz.func20 (by kernel_rfl) (by kernel_rfl)
instance : Ent Tryz.prog 21 := Ent.of Tryz.func21 (by kernel_rfl) (by kernel_rfl)
instance : Ent Tryz.prog 22 := Ent.of Tryz.func22 (by kernel_rfl) (by kernel_rfl)
instance : Ent Tryz.prog 23 := Ent.of Tryz.func23 (by kernel_rfl) (by kernel_rfl)
instance : Ent Tryz.prog 24 := Ent.of Tryz.func24 (by kernel_rfl) (by kernel_rfl)
instance : Ent Tryz.prog 25 := Ent.of Tryz.func25 (by kernel_rfl) (by kernel_rfl)
instance : Ent Tryz.prog 26 := Ent.of Tryz.func26 (by kernel_rfl) (by kernel_rfl)
instance : Ent Tryz.prog 27 := Ent.of Tryz.func27 (by kernel_rfl) (by kernel_rfl)
instance : Ent Tryz.prog 28 := Ent.of Tryz.func28 (by kernel_rfl) (by kernel_rfl)
instance : Ent Tryz.prog 29 := Ent.of Tryz.func29 (by kernel_rfl) (by kernel_rfl)
instance : Ent Tryz.prog 30 := Ent.of Tryz.func30 (by kernel_rfl) (by kernel_rfl)
instance : Ent Tryz.prog 31 := Ent.of Tryz.func31 (by kernel_rfl) (by kernel_rfl)
instance : Ent Tryz.prog 32 := Ent.of Tryz.func32 (by kernel_rfl) (by kernel_rfl)
instance : Ent Tryz.prog 33 := Ent.of Tryz.func33 (by kernel_rfl) (by kernel_rfl)
instance : Ent Tryz.prog 34 := Ent.of Tryz.func34 (by kernel_rfl) (by kernel_rfl)
instance : Ent Tryz.prog 35 := Ent.of Tryz.func35 (by kernel_rfl) (by kernel_rfl)
instance : Ent Tryz.prog 36 := Ent.of Tryz.func36 (by kernel_rfl) (by kernel_rfl)
instance : Ent Tryz.prog 37 := Ent.of Tryz.func37 (by kernel_rfl) (by kernel_rfl)
instance : Ent Tryz.prog 38 := Ent.of Tryz.func38 (by kernel_rfl) (by kernel_rfl)
instance : Ent Tryz.prog 39 := Ent.of Tryz.func39 (by kernel_rfl) (by kernel_rfl)
instance : Ent Tryz.prog 40 := Ent.of Tryz.func40 (by kernel_rfl) (by kernel_rfl)
instance : Ent Tryz.prog 41 := Ent.of Tryz.func41 (by kernel_rfl) (by kernel_rfl)
instance : Ent Tryz.prog 42 := Ent.of Tryz.func42 (by kernel_rfl) (by kernel_rfl)
instance : Ent Tryz.prog 43 := Ent.of Tryz.func43 (by kernel_rfl) (by kernel_rfl)
instance : Ent Tryz.prog 44 := Ent.of Tryz.func44 (by kernel_rfl) (by kernel_rfl)
instance : Ent Tryz.prog 45 := Ent.of Tryz.func45 (by kernel_rfl) (by kernel_rfl)
instance : Ent Tryz.prog 46 := Ent.of Tryz.func46 (by kernel_rfl) (by kernel_rfl)
instance : Ent Tryz.prog 47 := Ent.of Tryz.func47 (by kernel_rfl) (by kernel_rfl)
instance : Ent Tryz.prog 48 := Ent.of Tryz.func48 (by kernel_rfl) (by kernel_rfl)
instance : Ent Tryz.prog 49 := Ent.of Tryz.func49 (by kernel_rfl) (by kernel_rfl)
instance : Ent Tryz.prog 50 := Ent.of Tryz.func50 (by kernel_rfl) (by kernel_rfl)
instance : Ent Tryz.prog 51 := Ent.of Tryz.func51 (by kernel_rfl) (by kernel_rfl)
instance : Ent Tryz.prog 52 := Ent.of Tryz.func52 (by kernel_rfl) (by kernel_rfl)
instance : Ent Tryz.prog 53 := Ent.of Tryz.func53 (by kernel_rfl) (by kernel_rfl)
instance : Ent Tryz.prog 54 := Ent.of Tryz.func54 (by kernel_rfl) (by kernel_rfl)
instance : Ent Tryz.prog 55 := Ent.of Tryz.func55 (by kernel_rfl) (by kernel_rfl)
instance : Ent Tryz.prog 56 := Ent.of Tryz.func56 (by kernel_rfl) (by kernel_rfl)
instance : Ent Tryz.prog 57 := Ent.of Tryz.func57 (by kernel_rfl) (by kernel_rfl)
instance : Ent Tryz.prog 58 := Ent.of Tryz.func58 (by kernel_rfl) (by kernel_rfl)
instance : Ent Tryz.prog 59 := Ent.of Tryz.func59 (by kernel_rfl) (by kernel_rfl)
instance : Ent Tryz.prog 60 := Ent.of Tryz.func60 (by kernel_rfl) (by kernel_rfl)
instance : Ent Tryz.prog 61 := Ent.of Tryz.func61 (by kernel_rfl) (by kernel_rfl)
instance : Ent Tryz.prog 62 := Ent.of Tryz.func62 (by kernel_rfl) (by kernel_rfl)
instance : Ent Tryz.prog 63 := Ent.of Tryz.func63 (by kernel_rfl) (by kernel_rfl)
instance : Ent Tryz.prog 64 := Ent.of Tryz.func64 (by kernel_rfl) (by kernel_rfl)
instance : Ent Tryz.prog 65 := Ent.of Tryz.func65 (by kernel_rfl) (by kernel_rfl)
instance : Ent Tryz.prog 66 := Ent.of Tryz.func66 (by kernel_rfl) (by kernel_rfl)
instance : Ent Tryz.prog 67 := Ent.of Tryz.func67 (by kernel_rfl) (by kernel_rfl)
instance : Ent Tryz.prog 68 := Ent.of Tryz.func68 (by kernel_rfl) (by kernel_rfl)
instance : Ent Tryz.prog 69 := Ent.of Tryz.func69 (by kernel_rfl) (by kernel_rfl)
instance : Ent Tryz.prog 70 := Ent.of Tryz.func70 (by kernel_rfl) (by kernel_rfl)
instance : Ent Tryz.prog 71 := Ent.of Tryz.func71 (by kernel_rfl) (by kernel_rfl)
instance : Ent Tryz.prog 72 := Ent.of Tryz.func72 (by kernel_rfl) (by kernel_rfl)
instance : Ent Tryz.prog 73 := Ent.of Tryz.func73 (by kernel_rfl) (by kernel_rfl)
instance : Ent Tryz.prog 74 := Ent.of Tryz.func74 (by kernel_rfl) (by kernel_rfl)
instance : Ent Tryz.prog 75 := Ent.of Tryz.func75 (by kernel_rfl) (by kernel_rfl)
instance : Ent Tryz.prog 76 := Ent.of Tryz.func76 (by kernel_rfl) (by kernel_rfl)
instance : Ent Tryz.prog 77 := Ent.of Tryz.func77 (by kernel_rfl) (by kernel_rfl)
instance : Ent Tryz.prog 78 := Ent.of Tryz.func78 (by kernel_rfl) (by kernel_rfl)
instance : Ent Tryz.prog 79 := Ent.of Tryz.func79 (by kernel_rfl) (by kernel_rfl)
instance : Ent Tryz.prog 80 := Ent.of Tryz.func80 (by kernel_rfl) (by kernel_rfl)
instance : Ent Tryz.prog 81 := Ent.of Tryz.func81 (by kernel_rfl) (by kernel_rfl)
instance : Ent Tryz.prog 83 := Ent.of Tryz.func83 (by kernel_rfl) (by kernel_rfl)
instance : Ent Tryz.prog 84 := Ent.of Tryz.func84 (by kernel_rfl) (by kernel_rfl)
instance : Ent Tryz.prog 85 := Ent.of Tryz.func85 (by kernel_rfl) (by kernel_rfl)
instance : Ent Tryz.prog 86 := Ent.of Tryz.func86 (by kernel_rfl) (by kernel_rfl)
instance : Ent Tryz.prog 87 := Ent.of Tryz.func87 (by kernel_rfl) (by kernel_rfl)
instance : Ent Tryz.prog 88 := Ent.of Tryz.func88 (by kernel_rfl) (by kernel_rfl)
instance : Ent Tryz.prog 89 := Ent.of Tryz.func89 (by kernel_rfl) (by kernel_rfl)
instance : Ent Tryz.prog 90 := Ent.of Tryz.func90 (by kernel_rfl) (by kernel_rfl)
instance : Ent Tryz.prog 91 := Ent.of Tryz.func91 (by kernel_rfl) (by kernel_rfl)
instance : Ent Tryz.prog 92 := Ent.of Tryz.func92 (by kernel_rfl) (by kernel_rfl)
instance : Ent Tryz.prog 93 := Ent.of Tryz.func93 (by kernel_rfl) (by kernel_rfl)
instance : Ent Tryz.prog 94 := Ent.of Tryz.func94 (by kernel_rfl) (by kernel_rfl)
instance : Ent Tryz.prog 95 := Ent.of Tryz.func95 (by kernel_rfl) (by kernel_rfl)
instance : Ent Tryz.prog 96 := Ent.of Tryz.func96 (by kernel_rfl) (by kernel_rfl)
instance : Ent Tryz.prog 97 := Ent.of Tryz.func97 (by kernel_rfl) (by kernel_rfl)
instance : Ent Tryz.prog 98 := Ent.of Tryz.func98 (by kernel_rfl) (by kernel_rfl)
instance : Ent Tryz.prog 99 := Ent.of Tryz.func99 (by kernel_rfl) (by kernel_rfl)
instance : Ent Tryz.prog 100 := Ent.of Tryz.func100 (by kernel_rfl) (by kernel_rfl)
instance : Ent Tryz.prog 101 := Ent.of Tryz.func101 (by kernel_rfl) (by kernel_rfl)
instance : Ent Tryz.prog 102 := Ent.of Tryz.func102 (by kernel_rfl) (by kernel_rfl)
instance : Ent Tryz.prog 103 := Ent.of Tryz.func103 (by kernel_rfl) (by kernel_rfl)
instance : Ent Tryz.prog 104 := Ent.of Tryz.func104 (by kernel_rfl) (by kernel_rfl)
instance : Ent Tryz.prog 105 := Ent.of Tryz.func105 (by kernel_rfl) (by kernel_rfl)
instance : Ent Tryz.prog 106 := Ent.of Tryz.func106 (by kernel_rfl) (by kernel_rfl)
instance : Ent Tryz.prog 108 := Ent.of Tryz.func108 (by kernel_rfl) (by kernel_rfl)
instance : Ent Tryz.prog 109 := Ent.of Tryz.func109 (by kernel_rfl) (by kernel_rfl)
instance : Ent Tryz.prog 110 := Ent.of Tryz.func110 (by kernel_rfl) (by kernel_rfl)
instance : Ent Tryz.prog 111 := Ent.of Tryz.func111 (by kernel_rfl) (by kernel_rfl)
instance : Ent Tryz.prog 112 := Ent.of Tryz.func112 (by kernel_rfl) (by kernel_rfl)
instance : Ent Tryz.prog 113 := Ent.of Tryz.func113 (by kernel_rfl) (by kernel_rfl)
instance : Ent Tryz.prog 114 := Ent.of Tryz.func114 (by kernel_rfl) (by kernel_rfl)
instance : Ent Tryz.prog 115 := Ent.of Tryz.func115 (by kernel_rfl) (by kernel_rfl)
instance : Ent Tryz.prog 116 := Ent.of Tryz.func116 (by kernel_rfl) (by kernel_rfl)
instance : Ent Tryz.prog 117 := Ent.of Tryz.func117 (by kernel_rfl) (by kernel_rfl)
instance : Ent Tryz.prog 118 := Ent.of Tryz.func118 (by kernel_rfl) (by kernel_rfl)
instance : Ent Tryz.prog 119 := Ent.of Tryz.func119 (by kernel_rfl) (by kernel_rfl)
instance : Ent Tryz.prog 120 := Ent.of Tryz.func120 (by kernel_rfl) (by kernel_rfl)
instance : Ent Tryz.prog 121 := Ent.of Tryz.func121 (by kernel_rfl) (by kernel_rfl)
instance : Ent Tryz.prog 122 := Ent.of Tryz.func122 (by kernel_rfl) (by kernel_rfl)
instance : Ent Tryz.prog 123 := Ent.of Tryz.func123 (by kernel_rfl) (by kernel_rfl)
instance : Ent Tryz.prog 124 := Ent.of Tryz.func124 (by kernel_rfl) (by kernel_rfl)
instance : Ent Tryz.prog 125 := Ent.of Tryz.func125 (by kernel_rfl) (by kernel_rfl)
instance : Ent Tryz.prog 127 := Ent.of Tryz.func127 (by kernel_rfl) (by kernel_rfl)
instance : Ent Tryz.prog 128 := Ent.of Tryz.func128 (by kernel_rfl) (by kernel_rfl)
instance : Ent Tryz.prog 130 := Ent.of Tryz.func130 (by kernel_rfl) (by kernel_rfl)
instance : Ent Tryz.prog 131 := Ent.of Tryz.func131 (by kernel_rfl) (by kernel_rfl)
instance : Ent Tryz.prog 132 := Ent.of Tryz.func132 (by kernel_rfl) (by kernel_rfl)
instance : Ent Tryz.prog 133 := Ent.of Tryz.func133 (by kernel_rfl) (by kernel_rfl)
instance : Ent Tryz.prog 134 := Ent.of Tryz.func134 (by kernel_rfl) (by kernel_rfl)
instance : Ent Tryz.prog 135 := Ent.of Tryz.func135 (by kernel_rfl) (by kernel_rfl)
instance : Ent Tryz.prog 136 := Ent.of Tryz.func136 (by kernel_rfl) (by kernel_rfl)
instance : Ent Tryz.prog 137 := Ent.of Tryz.func137 (by kernel_rfl) (by kernel_rfl)
instance : Ent Tryz.prog 138 := Ent.of Tryz.func138 (by kernel_rfl) (by kernel_rfl)
instance : Ent Tryz.prog 139 := Ent.of Tryz.func139 (by kernel_rfl) (by kernel_rfl)
instance : Ent Tryz.prog 140 := Ent.of Tryz.func140 (by kernel_rfl) (by kernel_rfl)
instance : Ent Tryz.prog 141 := Ent.of Tryz.func141 (by kernel_rfl) (by kernel_rfl)
instance : Ent Tryz.prog 142 := Ent.of Tryz.func142 (by kernel_rfl) (by kernel_rfl)
instance : Ent Tryz.prog 143 := Ent.of Tryz.func143 (by kernel_rfl) (by kernel_rfl)
instance : Ent Tryz.prog 144 := Ent.of Tryz.func144 (by kernel_rfl) (by kernel_rfl)
instance : Ent Tryz.prog 145 := Ent.of Tryz.func145 (by kernel_rfl) (by kernel_rfl)
instance : Ent Tryz.prog 146 := Ent.of Tryz.func146 (by kernel_rfl) (by kernel_rfl)
instance : Ent Tryz.prog 148 := Ent.of Tryz.func148 (by kernel_rfl) (by kernel_rfl)
instance : Ent Tryz.prog 149 := Ent.of Tryz.func149 (by kernel_rfl) (by kernel_rfl)
instance : Ent Tryz.prog 150 := Ent.of Tryz.func150 (by kernel_rfl) (by kernel_rfl)
instance : Ent Tryz.prog 151 := Ent.of Tryz.func151 (by kernel_rfl) (by kernel_rfl)
instance : Ent Tryz.prog 152 := Ent.of Tryz.func152 (by kernel_rfl) (by kernel_rfl)
instance : Ent Tryz.prog 153 := Ent.of Tryz.func153 (by kernel_rfl) (by kernel_rfl)
instance : Ent Tryz.prog 154 := Ent.of Tryz.func154 (by kernel_rfl) (by kernel_rfl)
instance : Ent Tryz.prog 155 := Ent.of Tryz.func155 (by kernel_rfl) (by kernel_rfl)
instance : Ent Tryz.prog 156 := Ent.of Tryz.func156 (by kernel_rfl) (by kernel_rfl)
instance : Ent Tryz.prog 157 := Ent.of Tryz.func157 (by kernel_rfl) (by kernel_rfl)
instance : Ent Tryz.prog 158 := Ent.of Tryz.func158 (by kernel_rfl) (by kernel_rfl)
instance : Ent Tryz.prog 159 := Ent.of Tryz.func159 (by kernel_rfl) (by kernel_rfl)
instance : Ent Tryz.prog 190 := Ent.of Tryz.func190 (by kernel_rfl) (by kernel_rfl)
end Go.Proofs.YtjlkmdmpejpmpaaGreatDoor.H

namespace Go.Proofs.YtjlkmdmpejpmpaaGreatDoor.H
open Go.RowKit
variable {M : Option (Option Nat)} {P : Program} {ops : Array Oper} {Q : Post} {rest : List Oper} {f : Fr} {w : World}

theorem yieldsU {f : Fr} {a : Act} (ha : Ag f a) {ops : Array Oper} {j t : Nat} (hj : (ops[j]?).bind (·.dst) = some t) (hn : Nat.blt t f.n = true) (hv : look f.e t = some undef) : yielded ops a.tmps j = none := by
  have h := ha.slot t _ hv
  have hlt : t < a.tmps.size := by rw [ha.size]; exact blt_lt hn
  have h2 : a.tmps[t]? = some undef := by
    rw [Array.getD_eq_getD_getElem?] at h
    rw [Array.getElem?_eq_getElem hlt] at h ⊢
    simpa using h
  simp [yielded, hj, h2, undef]

theorem RW.offu {d : Nat} {op : Op} {ty : TypeId} {pos : String} {af : Array Edge} {j t : Nat} {b : Bool} (hj : (ops[j]?).bind (·.dst) = some t) (hn : Nat.blt t f.n = true)
    (hv : look f.e t = some undef) (hd : Nat.blt d f.n = true) (k : RW M P ops Q rest (f.put d undef) w) :
    RW M P ops Q ({ dst := some d, op := op, type := ty, pos := pos, after := af, guard := some (j, b) } :: rest) f w := by
  intro a ha
  have hw : Region.wanted ({ dst := some d, op := op, type := ty, pos := pos, after := af, guard := some (j, b) } : Oper) (yielded ops a.tmps) = false := by
    cases b <;> simp [Region.wanted, yieldsU ha hj hn hv]
  cases M with
  | none =>
    unfold lwp wpList
    rw [hw]
    simp only [Bool.false_eq_true, if_false]
    exact k _ (ha.put undef hd)
  | some r =>
    change wpListIn (Rd1 r) 0 P ops (lift Q) _ a w
    unfold wpListIn
    rw [hw]
    simp only [Bool.false_eq_true, if_false]
    exact ⟨fun _ _ => trivial, k _ (ha.put undef hd)⟩
end Go.Proofs.YtjlkmdmpejpmpaaGreatDoor.H

namespace Go.Proofs.YtjlkmdmpejpmpaaGreatDoor.H
open Go.RowKit
section
variable {M : Option (Option Nat)} {P : Program} {ops : Array Oper} {Q : Post} {rest : List Oper} {f : Fr} {w : World} {d : Nat} {ty : TypeId} {pos : String} {af : Array Edge}

theorem cells_at {α : Type} {enc : α → List Value} {sz : Nat} (he : ∀ x, (enc x).length = sz) : ∀ (l : List α) (i j : Nat) (x : α), l[i]? = some x → j < sz → (l.flatMap enc)[i * sz + j]? = (enc x)[j]? := by
  intro l
  induction l with
  | nil => intro i j x h; simp at h
  | cons a l ih =>
    intro i j x h hj
    rw [List.flatMap_cons]
    cases i with
    | zero =>
      simp only [List.getElem?_cons_zero, Option.some.injEq] at h
      subst h
      rw [Nat.zero_mul, Nat.zero_add, List.getElem?_append_left (by rw [he]; exact hj)]
    | succ i =>
      rw [List.getElem?_append_right (by rw [he, Nat.succ_mul]; omega), he]
      have : (i + 1) * sz + j - sz = i * sz + j := by rw [Nat.succ_mul]; omega
      rw [this]
      exact ih i j x (by simpa using h) hj
theorem cells_len {α : Type} {enc : α → List Value} {sz : Nat} (he : ∀ x, (enc x).length = sz) : ∀ (l : List α), (l.flatMap enc).length = l.length * sz := by
  intro l
  induction l with
  | nil => simp
  | cons a l ih => rw [List.flatMap_cons, List.length_append, he, ih, List.length_cons, Nat.succ_mul]; omega

theorem spot_ptr {w : World} {sz : Nat} {v : Value} {n : Nat} {xs : List Value} (hs : Sl w sz v n xs) (hn : 0 < n) (k : Nat) : ∃ g o, Value.spot v k = ⟨g, o, none⟩ ∧ ∀ j, Value.spot v (k + j) = ⟨g, o + j, none⟩ := by
  rcases hs.2.2 with ⟨_, rfl, h⟩ | ⟨g, off, cap, cur, e', fz, rfl, _⟩
  · omega
  · refine ⟨g, off + k, ?_, fun j => ?_⟩
    · simp [Value.spot, addr_add]
    · simp only [Value.spot, addr_add]; congr 1; omega

/-- An element read whole. -/
theorem RW.elemA {α : Type} [Inhabited α] {t e t2 ty2 : TypeId} {pos2 : String} {af2 : Array Edge} {d1 : Nat} {z : Value} {b sz : Nat} [ht : Und P t (.slice e)] [Inf P e z sz b] [Many P t2 sz]
    {x y : Operand} {k : IntKind} {v : Value} {i : Int} {n : Nat} {l : List α} {enc : α → List Value} (hx : f.ev x = some v) (hy : f.ev y = some (.int k i)) (hd : Nat.blt d f.n = true) (hd1 : Nat.blt d1 f.n = true)
    (hs : Sl w sz v n (l.flatMap enc)) (he : ∀ x, (enc x).length = sz) (hsz : Nat.blt 0 sz = true) (h0 : 0 ≤ i) (h1 : i < l.length)
    (kk : ∀ p, RW M P ops Q rest ((f.put d p).put d1 (.agg (enc (l.getD i.toNat default)).toArray)) w) : RW M P ops Q (op1 d (.indexAddr t x y) ty pos af :: op1 d1 (.load t2 (.tmp d)) ty2 pos2 af2 :: rest) f w := by
  have hlt : i.toNat < l.length := by omega
  have hsz' := blt_lt hsz
  have hn : n = l.length := by
    have := hs.1
    rw [cells_len he] at this
    exact Nat.eq_of_mul_eq_mul_right (by omega) this.symm
  subst hn
  obtain ⟨g, o, h2, h3⟩ := spot_ptr hs (by omega) (i.toNat * sz)
  refine RW.y (Y.idx hx hy hs h0 h1) hd ?_
  rw [h2]
  refine RW.loadN (a := ⟨g, o, none⟩) (by simp [Fr.ev, Fr.put, look]) (he _) (fun j u hj => ?_) hd1 (kk _)
  have : (Addr.mk g o none).add j = Value.spot v (i.toNat * sz + j) := by rw [h3]; simp [addr_add]
  rw [this]
  refine hs.cell ?_
  have hjs : j < sz := by
    have := (List.getElem?_eq_some_iff.1 hj).1
    rw [he] at this
    exact this
  rw [cells_at he l i.toNat j (l.getD i.toNat default) (by simp [List.getD_eq_getElem?_getD, hlt]) hjs, hj]
end
end Go.Proofs.YtjlkmdmpejpmpaaGreatDoor.H

namespace Go.Proofs.YtjlkmdmpejpmpaaGreatDoor.H
open Go.RowKit
section
variable {M : Option (Option Nat)} {P : Program} {ops : Array Oper} {Q : Post} {rest : List Oper} {f : Fr} {w : World} {d : Nat} {ty : TypeId} {pos : String} {af : Array Edge}

theorem run_appc {t u e : TypeId} {z : Value} {sz b : Nat} [ht : Und P t (.slice e)] [hi : Inf P e z sz b] (hz : z.cells.size = sz) (hsz : 0 < sz) {p : Option Addr} {n : Nat} {xs : List Value} (hs : Sl w sz (.slice p n n) n xs)
    {vx : Value} {m : Nat} {news : List Value} (hm : 0 < m) (hsrc : Sl w sz vx m news) (h1 : ∀ u ∈ news, u.oneCell' = true) (h63 : n + m ≤ maxLen) (hbytes : (n + m) * b ≤ 140737488355328) :
    ∃ v' w', (Builtin.append_ #[t, t] u #[.slice p n n, vx]).run P w = .ok v' w' ∧ w'.ownsRow w.heap.size e sz v' (n + m) (xs ++ news) ∧ K0 w w' := by
  cases p with
  | none =>
    have hn : n = 0 := by
      rcases hs.2.2 with ⟨p, h, _⟩ | ⟨g, off, cap, cur, e', fz, h, _⟩
      · cases h; rfl
      · cases h
    subst hn
    have hx : xs = [] := List.eq_nil_of_length_eq_zero (by simpa using hs.1)
    subst hx
    obtain ⟨v', w', h, h2, h3, _⟩ := run_app (P := P) (t := t) (u := u) w.heap.size hz hsz (World.ownsRow_nil w w.heap.size e sz) hsrc h1 h63 hbytes (Nat.le_refl _)
    exact ⟨v', w', h, h2, (Kept.of_grown h3).mono fun k hk => by cases hk⟩
  | some a0 =>
    have hi' := hi.out
    have h63' : n + m ≤ 9223372036854775807 := by simpa [maxLen] using h63
    cases hinf : P.info? e with
    | none => simp [hinf] at hi'
    | some i =>
      simp only [hinf, Option.map_some, Option.some.injEq, Prod.mk.injEq] at hi'
      obtain ⟨hz', hs', hb'⟩ := hi'
      have ho : ∀ j y, xs[j]? = some y → w.cell? (a0.add j) = some y := fun j y hy => by have := hs.cell hy; simpa [Value.spot] using this
      have key : ∃ a cap, vx = .slice (some a) m cap ∧ ∀ j y, news[j]? = some y → w.cell? (a.add j) = some y := by
        rcases hsrc.2.2 with ⟨p, rfl, rfl⟩ | ⟨g, off, cap, cur, e', fz, rfl, hg, hn, hm, ho, htk⟩
        · omega
        · exact ⟨_, cap, rfl, fun j y hy => by have := hsrc.cell hy; simpa [Value.spot] using this⟩
      obtain ⟨a, cap, rfl, hcells⟩ := key
      have hr := run_append_grow (P := P) w t u e i z ht.out hinf hz' a0 n n xs (by rw [hs']; exact hs.1) ho a m cap news (by rw [hs']; exact hsrc.1) hcells (by omega) (by omega) (growslice_fits (by omega) (by rw [hb']; exact hbytes))
      have hge := grownCap_ge w (n + m) n e
      have hcm : grownCap w (n + m) n e ≤ maxLen := grownCap_le_maxLen w (n + m) n e h63
      have hlen : (xs ++ news).length = (n + m) * sz := by rw [List.length_append, hs.1, hsrc.1, Nat.add_mul]
      refine ⟨_, _, hr, ⟨hlen, .inr ⟨w.heap.size, _, _, rfl, Nat.le_refl _, heap_alloc_new w.drew _, hge, hcm, ?_, ?_⟩⟩, ⟨rfl, rfl, rfl, by simp, fun k hk _ => heap_alloc_old w.drew _ hk⟩⟩
      · simp only [Array.size_append, List.size_toArray, size_zeroCells, hz, hs.1, hsrc.1, ← Nat.add_mul]
        congr 1
        omega
      · simp only [Array.toList_append, List.append_assoc]
        rw [← List.append_assoc, ← hlen]
        exact List.take_left

/-- What append may go on from: a row of the call's own, or a slice that is full. row: the block that may be written. -/
def Ap (w : World) (base : Nat) (e : TypeId) (sz : Nat) (v : Value) (n : Nat) (xs : List Value) (row : Option Nat) : Prop :=
  (w.ownsRow base e sz v n xs ∧ row = v.ownBlock) ∨ (Sl w sz v n xs ∧ (∃ p, v = .slice p n n) ∧ row = none)
def LiesR (w : World) (row : Option Nat) (v' : Value) : Prop := ∀ g, v'.ownBlock = some g → row = some g ∨ w.heap.size ≤ g
theorem run_apA {t u e : TypeId} {z : Value} {sz b : Nat} [ht : Und P t (.slice e)] [hi : Inf P e z sz b] (base : Nat) (hz : z.cells.size = sz) (hsz : 0 < sz) {v : Value} {n : Nat} {xs : List Value} {row : Option Nat} (hown : Ap w base e sz v n xs row)
    {vx : Value} {m : Nat} {news : List Value} (hm : 0 < m) (hsrc : Sl w sz vx m news) (h1 : ∀ u ∈ news, u.oneCell' = true) (h63 : n + m ≤ maxLen) (hbytes : (n + m) * b ≤ 140737488355328) (hbase : base ≤ w.heap.size) :
    ∃ v' w', (Builtin.append_ #[t, t] u #[v, vx]).run P w = .ok v' w' ∧ w'.ownsRow base e sz v' (n + m) (xs ++ news) ∧ Kept (fun k => row = some k) w w' ∧ LiesR w row v' := by
  rcases hown with ⟨h, rfl⟩ | ⟨h, ⟨p, rfl⟩, rfl⟩
  · obtain ⟨v', w', h1, h2, h3, h4⟩ := run_app (P := P) (t := t) (u := u) base hz hsz h hsrc h1 h63 hbytes hbase
    exact ⟨v', w', h1, h2, Kept.of_grown h3, h4⟩
  · obtain ⟨v', w', h1, h2, h3⟩ := run_appc (P := P) (t := t) (u := u) hz hsz h hm hsrc h1 h63 hbytes
    exact ⟨v', w', h1, own_base h2 fun g hg => Nat.le_trans hbase (h2.lt g hg).1, Kept.of0 h3, fun g hg => .inr (h2.lt g hg).1⟩

end
end Go.Proofs.YtjlkmdmpejpmpaaGreatDoor.H

namespace Go.Proofs.YtjlkmdmpejpmpaaGreatDoor.H
open Go.RowKit
section
variable {M : Option (Option Nat)} {P : Program} {ops : Array Oper} {Q : Post} {rest : List Oper} {f : Fr} {w : World} {d : Nat} {ty : TypeId} {pos : String} {af : Array Edge}

theorem RW.elemMOn {α : Type} [Inhabited α] {t e t2 ty2 : TypeId} {pos2 : String} {af2 : Array Edge} {d1 j s : Nat} {c : Bool} {z : Value} {b : Nat} [ht : Und P t (.slice e)] [Inf P e z 1 b] [One P t2] {x y : Operand} {k : IntKind} {v : Value} {i : Int} {n : Nat} {l : List α} {enc : α → Value} (hx : f.ev x = some v) (hy : f.ev y = some (.int k i)) (hd : Nat.blt d f.n = true) (hd1 : Nat.blt d1 f.n = true)
    (hs : Sl w 1 v n (l.map enc)) (h0 : 0 ≤ i) (h1 : i < l.length) (hj : (ops[j]?).bind (·.dst) = some s) (hn : Nat.blt s f.n = true) (hv : look (f.put d (.pointer (some (Value.spot v (i.toNat * 1))))).e s = some (.bool c))
    (kk : RW M P ops Q rest ((f.put d (.pointer (some (Value.spot v (i.toNat * 1))))).put d1 (enc (l.getD i.toNat default))) w) : RW M P ops Q (op1 d (.indexAddr t x y) ty pos af :: { dst := some d1, op := .load t2 (.tmp d), type := ty2, pos := pos2, after := af2, guard := some (j, c) } :: rest) f w := by
  have hn' : n = l.length := by have := hs.1; simpa using this.symm
  have hlt : i.toNat < l.length := by omega
  refine RW.elemOn hx hy hd hd1 hs h0 (by omega) ?_ hj hn hv kk
  simp [hlt]
theorem RW.elemSOn {t e t2 ty2 : TypeId} {pos2 : String} {af2 : Array Edge} {d1 j s : Nat} {c : Bool} {z : Value} {b : Nat} [ht : Und P t (.slice e)] [Inf P e z 1 b] [One P t2] {x y : Operand} {k : IntKind} {v : Value} {i : Int} {n : Nat} {l : List (List UInt8)} (hx : f.ev x = some v) (hy : f.ev y = some (.int k i)) (hd : Nat.blt d f.n = true) (hd1 : Nat.blt d1 f.n = true)
    (hs : Sl w 1 v n (sv l)) (h0 : 0 ≤ i) (h1 : i < l.length) (hj : (ops[j]?).bind (·.dst) = some s) (hn : Nat.blt s f.n = true) (hv : look (f.put d (.pointer (some (Value.spot v (i.toNat * 1))))).e s = some (.bool c))
    (kk : RW M P ops Q rest ((f.put d (.pointer (some (Value.spot v (i.toNat * 1))))).put d1 (vs (l.getD i.toNat []))) w) : RW M P ops Q (op1 d (.indexAddr t x y) ty pos af :: { dst := some d1, op := .load t2 (.tmp d), type := ty2, pos := pos2, after := af2, guard := some (j, c) } :: rest) f w :=
  RW.elemMOn (enc := vs) (l := l) hx hy hd hd1 hs h0 h1 hj hn hv kk

end
end Go.Proofs.YtjlkmdmpejpmpaaGreatDoor.H

namespace Go.Proofs.YtjlkmdmpejpmpaaGreatDoor.H
open Go.RowKit
section
variable {M : Option (Option Nat)} {P : Program} {ops : Array Oper} {Q : Post} {rest : List Oper} {f : Fr} {w : World} {d : Nat} {ty : TypeId} {pos : String} {af : Array Edge}
theorem Y.loadN {t : TypeId} {n : Nat} [h : Many P t n] {x : Operand} {a : Addr} {cs : List Value} (hx : f.ev x = some (.pointer (some a))) (hl : cs.length = n) (hc : ∀ j v, cs[j]? = some v → w.cell? (a.add j) = some v) : Yd P f (op1 d (.load t x) ty pos af) (.agg cs.toArray) w := fun a' ha => by
  have hr := run_loadCells_list (P := P) w a cs hc
  rw [hl] at hr
  simp [execOp, ha.eval hx, Instr.loadAt, Instr.sureAddr, loadVar, h.agg, h.size, hr]
end
end Go.Proofs.YtjlkmdmpejpmpaaGreatDoor.H

namespace Go.Proofs.YtjlkmdmpejpmpaaGreatDoor.H
open Go.RowKit
section
variable {M : Option (Option Nat)} {P : Program} {ops : Array Oper} {Q : Post} {rest : List Oper} {f : Fr} {w : World} {d : Nat} {ty : TypeId} {pos : String} {af : Array Edge}

theorem Gt.slice {t : TypeId} {x : Operand} {a b c : Option Operand} (h : RW M P ops Q ({ dst := some d, op := .slice t x a b c, type := ty, pos := pos, after := af, guard := none } :: rest) f w) : RW M P ops Q ({ dst := some d, op := .slice t x a b c, type := ty, pos := pos, after := af, guard := none } :: rest) f w := h
theorem Gt.call {c : Call} (h : RW M P ops Q ({ dst := some d, op := .call c, type := ty, pos := pos, after := af, guard := none } :: rest) f w) : RW M P ops Q ({ dst := some d, op := .call c, type := ty, pos := pos, after := af, guard := none } :: rest) f w := h

theorem Y.max2 {x y : Operand} {k k2 : IntKind} {a b : Int} {ts : Array TypeId} (hx : f.ev x = some (.int k a)) (hy : f.ev y = some (.int k2 b)) : Yd P f (op1 d (.call { callee := .builtin .max, args := #[x, y], argTypes := ts }) ty pos af) (.int k (max a b)) w := by
  intro s hs
  have h := run_max_int2 (P := P) (w := w) ts ty k k2 a b
  have e : (if b > a then b else a) = max a b := by split <;> omega
  rw [e] at h
  simp [execOp, resolve, invoke, builtin, hs.eval hx, hs.eval hy, h]
theorem Y.min2 {x y : Operand} {k k2 : IntKind} {a b : Int} {ts : Array TypeId} (hx : f.ev x = some (.int k a)) (hy : f.ev y = some (.int k2 b)) : Yd P f (op1 d (.call { callee := .builtin .min, args := #[x, y], argTypes := ts }) ty pos af) (.int k (min a b)) w := by
  intro s hs
  have h := run_min_int2 (P := P) (w := w) ts ty k k2 a b
  have e : (if b < a then b else a) = min a b := by split <;> omega
  rw [e] at h
  simp [execOp, resolve, invoke, builtin, hs.eval hx, hs.eval hy, h]
/-- A function that the model itself gives. -/
theorem Y.ext {k : FuncId} {xs : List Operand} {l : List Value} {at' : Array TypeId} {v : Value} (hv : f.evs xs = some l) (hc : (callFunc k l.toArray).run P w = .ok (.value v) w) : Yd P f (op1 d (.call { callee := .value (.func k), args := xs.toArray, argTypes := at' }) ty pos af) v w := fun a ha => by
  simp [execOp, resolve, Act.eval, Deferred.ofValue, invoke, ha.evs xs l hv, hc]

theorem madeCells_one {z : Value} (n : Nat) : (madeCells #[z] n).toList = List.replicate n z := by
  apply List.ext_getElem?
  intro i
  simp only [madeCells, Array.toList_map, Array.toList_range, List.getElem?_map, List.getElem?_replicate]
  by_cases h : i < n <;> simp [h, Nat.mod_one]

/-- make([]T, n), T of one cell -/
theorem RW.make1 {t e : TypeId} {z : Value} {b : Nat} [ht : Und P t (.slice e)] [hi : Inf P e z 1 b] {x y : Operand} {k k2 : IntKind} {n : Nat} (hx : f.ev x = some (.int k (n : Int))) (hy : f.ev y = some (.int k2 (n : Int))) (hd : Nat.blt d f.n = true) (hz : z.cells = #[z]) (hn : n ≤ 16777216) (hb : b * n ≤ 281474976710656)
    (kk : ∀ v' w', w'.ownsRow w.heap.size e 1 v' n (List.replicate n z) → K0 w w' → RW M P ops Q rest (f.put d v') w') : RW M P ops Q (op1 d (.makeSlice t x y) ty pos af :: rest) f w := by
  have hi' := hi.out
  cases hinf : P.info? e with
  | none => simp [hinf] at hi'
  | some i =>
    simp only [hinf, Option.map_some, Option.some.injEq, Prod.mk.injEq] at hi'
    obtain ⟨hz', hs', hb'⟩ := hi'
    obtain ⟨w', hr, ho, hg⟩ := run_makeSlice_full (P := P) w w.heap.size t e i z 1 ht.out hinf hz' hs' k k2 n (by omega) (by rw [hb']; exact hb) (by simp only [maxLen]; omega) (Nat.le_refl _)
    rw [hz, Nat.mul_one, madeCells_one] at ho
    refine RW.val rfl rfl hd (fun a ha => ?_) (kk _ w' ho ((Kept.of_grown hg).mono fun k hk => by cases hk))
    simp [execOp, ha.eval hx, ha.eval hy, hr]

/-- An element of a row of the call's own is written. -/
theorem RW.setEl {t e t2 : TypeId} {ty2 : TypeId} {pos2 : String} {af2 : Array Edge} {z : Value} {b : Nat} [ht : Und P t (.slice e)] [Inf P e z 1 b] [One P t2] {x y q : Operand} {k : IntKind} {v u : Value} {i : Int} {base n : Nat} {xs : List Value} (hx : f.ev x = some v) (hy : f.ev y = some (.int k i)) (hd : Nat.blt d f.n = true)
    (hs : w.ownsRow base e 1 v n xs) (h0 : 0 ≤ i) (h1 : i < n) (hu : ∀ p, (f.put d p).ev q = some u) (hu1 : u.oneCell' = true)
    (kk : ∀ p w', w'.ownsRow base e 1 v n (xs.set i.toNat u) → Kept (fun k => v.ownBlock = some k) w w' → RW M P ops Q rest (f.put d p) w') : RW M P ops Q (op1 d (.indexAddr t x y) ty pos af :: op0 (.store t2 (.tmp d) q) ty2 pos2 af2 :: rest) f w := by
  have hlen := hs.1
  rcases hs.2 with ⟨rfl, h⟩ | ⟨g, cap, cur, rfl, hb, hg, hn, hm, hc, htk⟩
  · omega
  have hsp : Value.spot (.slice (some ⟨g, 0, none⟩) n cap) (i.toNat * 1) = ⟨g, i.toNat, none⟩ := by simp only [Value.spot, addr_add]; congr 1; omega
  refine RW.y (Y.idx hx hy (Sl.of_own hs) h0 h1) hd ?_
  rw [hsp]
  refine RW.storeB (g := g) (j := i.toNat) (by simp [Fr.ev, Fr.put, look]) (hu _) hu1 hg (by omega) (fun w' hw' hk => kk _ w' ?_ (hk.mono fun k h => by simp [Value.ownBlock, h]))
  refine ⟨by rw [List.length_set]; exact hlen, .inr ⟨g, cap, _, rfl, hb, hw', hn, hm, by simpa using hc, ?_⟩⟩
  rw [Array.toList_setIfInBounds, List.take_set, htk]
end
end Go.Proofs.YtjlkmdmpejpmpaaGreatDoor.H

namespace Go.Proofs.YtjlkmdmpejpmpaaGreatDoor.S
open Go.RowKit H
attribute [local irreducible] H.CL H.RW H.CW H.Yd H.thenK H.blockQ Go.Calls

/-- The place of the first c; -1 where there is none. -/
def idx (c : UInt8) (l : List UInt8) : Int := Go.Lib.indexByte l c
theorem byte_back (c : UInt8) : (((c.toNat : Int)).toNat).toUInt8 = c := by
  rw [Int.toNat_natCast]; simp

theorem ext_indexByte (l : List UInt8) (c : UInt8) (w : World) : (callFunc 147 #[vs l, vb c]).run Tryz.prog w = .ok (.value (.int .i64 (idx c l))) w := by
  rw [run_callFunc_extern Tryz.func147 (by kernel_rfl) (by kernel_rfl) (by kernel_rfl) (e := Extern.BytealgIndexByte.indexByte) (by kernel_rfl), Lib.run_indexByteString, byte_back]
  rfl
theorem ext_count (l : List UInt8) (c : UInt8) (w : World) : (callFunc 107 #[vs l, vb c]).run Tryz.prog w = .ok (.value (.int .i64 (l.count c : Nat))) w := by
  rw [run_callFunc_extern Tryz.func107 (by kernel_rfl) (by kernel_rfl) (by kernel_rfl) (e := Extern.BytealgCount.count) (by kernel_rfl), Lib.run_countString, byte_back]
  rfl

theorem sliteIndexByte (l : List UInt8) (c : UInt8) (w : World) : Calls Tryz.prog 128 #[vs l, vb c] w fun e w' => w = w' ∧ e = .returned (.int .i64 (idx c l)) := by
  refine H.enter Tryz.func128 Tryz.ntmps128 rfl rfl ?_; dsimp only [H.args]
  repeat' (first | (refine CL.seq ?_) | (refine CL.region ?_) | (refine CL.skip ?_) | (refine CL.condP rfl (fun _ => ?_) (fun _ => ?_) <;> try (exfalso; omega)) | (refine CL.condT rfl ?_) | (refine CL.condF rfl ?_) | (refine CL.cond rfl (fun _ => ?_) (fun _ => ?_)) | (refine CL.block ?_) | (refine CL.exit ?_) | (refine Ex.then ?_) | (refine Ex.hit ?_) | (refine Ex.miss rfl ?_) | (refine CL.ret ?_) | (refine Rt.then ?_) | (refine Rt.block ?_) | (refine Pn.then ?_) | (refine Pn.block ?_) | (refine CL.done ?_) | (refine Nm.block ?_) | (refine Nm.then ?_) | (refine Gt.nil ?_; refine RW.nilw [0, 1, 4] ?_; dsimp only [H.keep, H.look, H.Fr.put, Nat.beq]) | (refine Gt.assign ?_; refine RW.y (Y.assign rfl) rfl ?_) | (refine Gt.move ?_; refine RW.y (Y.move rfl) rfl ?_))
  refine RW.y (Y.ext rfl (ext_indexByte l c w)) rfl ?_
  repeat' (first | (refine CL.seq ?_) | (refine CL.region ?_) | (refine CL.skip ?_) | (refine CL.condP rfl (fun _ => ?_) (fun _ => ?_) <;> try (exfalso; omega)) | (refine CL.condT rfl ?_) | (refine CL.condF rfl ?_) | (refine CL.cond rfl (fun _ => ?_) (fun _ => ?_)) | (refine CL.block ?_) | (refine CL.exit ?_) | (refine Ex.then ?_) | (refine Ex.hit ?_) | (refine Ex.miss rfl ?_) | (refine CL.ret ?_) | (refine Rt.then ?_) | (refine Rt.block ?_) | (refine Pn.then ?_) | (refine Pn.block ?_) | (refine CL.done ?_) | (refine Nm.block ?_) | (refine Nm.then ?_) | (refine Gt.nil ?_; refine RW.nilw [0, 1, 4] ?_; dsimp only [H.keep, H.look, H.Fr.put, Nat.beq]) | (refine Gt.assign ?_; refine RW.y (Y.assign rfl) rfl ?_) | (refine Gt.move ?_; refine RW.y (Y.move rfl) rfl ?_))
  exact FQ.one rfl rfl rfl ⟨rfl, rfl⟩

set_option maxHeartbeats 400000 in
theorem sliteIndex (l : List UInt8) (c : UInt8) (w : World) : Calls Tryz.prog 108 #[vs l, vs [c]] w fun e w' => w = w' ∧ e = .returned (.int .i64 (idx c l)) := by
  have h1 : ([c] : List UInt8).length = 1 := rfl
  refine H.enter Tryz.func108 Tryz.ntmps108 rfl rfl ?_; dsimp only [H.args]
  repeat' (first | (refine CL.seq ?_) | (refine CL.region ?_) | (refine CL.skip ?_) | (refine CL.condP rfl (fun _ => ?_) (fun _ => ?_) <;> try (exfalso; omega)) | (refine CL.condT rfl ?_) | (refine CL.condF rfl ?_) | (refine CL.cond rfl (fun _ => ?_) (fun _ => ?_)) | (refine CL.block ?_) | (refine CL.exit ?_) | (refine Ex.then ?_) | (refine Ex.hit ?_) | (refine Ex.miss rfl ?_) | (refine CL.ret ?_) | (refine Rt.then ?_) | (refine Rt.block ?_) | (refine Pn.then ?_) | (refine Pn.block ?_) | (refine CL.done ?_) | (refine Nm.block ?_) | (refine Nm.then ?_) | (refine Gt.nil ?_; refine RW.nilw [0, 1, 4, 5, 6, 7, 8, 9, 10, 11, 12, 13, 16, 24, 31, 36, 59, 64, 73, 93, 107, 114, 132, 139] ?_; dsimp only [H.keep, H.look, H.Fr.put, Nat.beq]) | (refine Gt.move ?_; refine RW.y (Y.move rfl) rfl ?_) | (refine Gt.guard ?_; first | (refine RW.part rfl rfl rfl (fun _ => ?_) (fun _ => ?_) <;> try (exfalso; omega)) | (refine RW.on rfl rfl rfl ?_) | (refine RW.off1 rfl rfl rfl rfl rfl ?_) | (refine RW.off rfl rfl rfl rfl rfl ?_) | (refine RW.offu rfl rfl rfl rfl ?_) | (refine RW.partb rfl rfl rfl (fun _ => ?_) (fun _ => ?_))) | (refine Gt.assign ?_; refine RW.y (Y.assign rfl) rfl ?_) | (refine Gt.add ?_; refine RW.y (Y.add64 rfl rfl (by omega) (by omega)) rfl ?_) | (refine Gt.pick ?_; first | (refine RW.y (Y.pickT rfl rfl) rfl ?_) | (refine RW.y (Y.pickF rfl rfl) rfl ?_)) | (refine Gt.index ?_; refine RW.y (Y.idxs rfl rfl (by omega) (by omega)) rfl ?_) | (refine Gt.len ?_; refine RW.y (Y.lens rfl) rfl ?_) | (refine Gt.lss ?_; refine RW.y (Y.lss rfl rfl) rfl ?_) | (refine Gt.eql ?_; first | (refine RW.y (Y.eqi rfl rfl) rfl ?_) | (refine RW.y (Y.eqs rfl rfl) rfl ?_)) | (refine Gt.geq ?_; refine RW.y (Y.geq rfl rfl) rfl ?_) | (refine Gt.load ?_; refine RW.y (Y.loadB rfl (by assumption) rfl) rfl ?_) | (refine Gt.leq ?_; refine RW.y (Y.leq rfl rfl) rfl ?_) | (refine Gt.slice ?_; first | (refine RW.y (Y.cutlh rfl rfl rfl (by omega) (by omega) (by omega)) rfl ?_) | (refine RW.y (Y.cutl rfl rfl (by omega) (by omega)) rfl ?_)) | (refine Gt.gtr ?_; refine RW.y (Y.gtr rfl rfl) rfl ?_) | (refine Gt.sub ?_; refine RW.y (Y.sub64 rfl rfl (by omega) (by omega)) rfl ?_) | (refine Gt.neq ?_; refine RW.y (Y.nei rfl rfl) rfl ?_) | (refine Gt.shr ?_; refine RW.y (Y.shr rfl rfl (by omega)) rfl ?_))
  · rename_i h
    subst h
    refine FQ.one rfl rfl rfl ⟨rfl, ?_⟩
    simp [idx, Go.Lib.indexByte]
  refine RW.fn rfl rfl ((sliteIndexByte l c w).mono ?_)
  rintro e w1 ⟨rfl, rfl⟩
  repeat' (first | (refine CL.seq ?_) | (refine CL.region ?_) | (refine CL.skip ?_) | (refine CL.condP rfl (fun _ => ?_) (fun _ => ?_) <;> try (exfalso; omega)) | (refine CL.condT rfl ?_) | (refine CL.condF rfl ?_) | (refine CL.cond rfl (fun _ => ?_) (fun _ => ?_)) | (refine CL.block ?_) | (refine CL.exit ?_) | (refine Ex.then ?_) | (refine Ex.hit ?_) | (refine Ex.miss rfl ?_) | (refine CL.ret ?_) | (refine Rt.then ?_) | (refine Rt.block ?_) | (refine Pn.then ?_) | (refine Pn.block ?_) | (refine CL.done ?_) | (refine Nm.block ?_) | (refine Nm.then ?_) | (refine Gt.nil ?_; refine RW.nilw [0, 1, 4, 5, 6, 7, 8, 9, 10, 11, 12, 13, 16, 24, 31, 36, 59, 64, 73, 93, 107, 114, 132, 139] ?_; dsimp only [H.keep, H.look, H.Fr.put, Nat.beq]) | (refine Gt.move ?_; refine RW.y (Y.move rfl) rfl ?_) | (refine Gt.guard ?_; first | (refine RW.part rfl rfl rfl (fun _ => ?_) (fun _ => ?_) <;> try (exfalso; omega)) | (refine RW.on rfl rfl rfl ?_) | (refine RW.off1 rfl rfl rfl rfl rfl ?_) | (refine RW.off rfl rfl rfl rfl rfl ?_) | (refine RW.offu rfl rfl rfl rfl ?_) | (refine RW.partb rfl rfl rfl (fun _ => ?_) (fun _ => ?_))) | (refine Gt.assign ?_; refine RW.y (Y.assign rfl) rfl ?_) | (refine Gt.add ?_; refine RW.y (Y.add64 rfl rfl (by omega) (by omega)) rfl ?_) | (refine Gt.pick ?_; first | (refine RW.y (Y.pickT rfl rfl) rfl ?_) | (refine RW.y (Y.pickF rfl rfl) rfl ?_)) | (refine Gt.index ?_; refine RW.y (Y.idxs rfl rfl (by omega) (by omega)) rfl ?_) | (refine Gt.len ?_; refine RW.y (Y.lens rfl) rfl ?_) | (refine Gt.lss ?_; refine RW.y (Y.lss rfl rfl) rfl ?_) | (refine Gt.eql ?_; first | (refine RW.y (Y.eqi rfl rfl) rfl ?_) | (refine RW.y (Y.eqs rfl rfl) rfl ?_)) | (refine Gt.geq ?_; refine RW.y (Y.geq rfl rfl) rfl ?_) | (refine Gt.load ?_; refine RW.y (Y.loadB rfl (by assumption) rfl) rfl ?_) | (refine Gt.leq ?_; refine RW.y (Y.leq rfl rfl) rfl ?_) | (refine Gt.slice ?_; first | (refine RW.y (Y.cutlh rfl rfl rfl (by omega) (by omega) (by omega)) rfl ?_) | (refine RW.y (Y.cutl rfl rfl (by omega) (by omega)) rfl ?_)) | (refine Gt.gtr ?_; refine RW.y (Y.gtr rfl rfl) rfl ?_) | (refine Gt.sub ?_; refine RW.y (Y.sub64 rfl rfl (by omega) (by omega)) rfl ?_) | (refine Gt.neq ?_; refine RW.y (Y.nei rfl rfl) rfl ?_) | (refine Gt.shr ?_; refine RW.y (Y.shr rfl rfl (by omega)) rfl ?_))
  exact FQ.one rfl rfl rfl ⟨rfl, rfl⟩

theorem index (l : List UInt8) (c : UInt8) (w : World) : Calls Tryz.prog 88 #[vs l, vs [c]] w fun e w' => w = w' ∧ e = .returned (.int .i64 (idx c l)) := by
  refine H.enter Tryz.func88 Tryz.ntmps88 rfl rfl ?_; dsimp only [H.args]
  repeat' (first | (refine CL.seq ?_) | (refine CL.region ?_) | (refine CL.skip ?_) | (refine CL.condP rfl (fun _ => ?_) (fun _ => ?_) <;> try (exfalso; omega)) | (refine CL.condT rfl ?_) | (refine CL.condF rfl ?_) | (refine CL.cond rfl (fun _ => ?_) (fun _ => ?_)) | (refine CL.block ?_) | (refine CL.exit ?_) | (refine Ex.then ?_) | (refine Ex.hit ?_) | (refine Ex.miss rfl ?_) | (refine CL.ret ?_) | (refine Rt.then ?_) | (refine Rt.block ?_) | (refine Pn.then ?_) | (refine Pn.block ?_) | (refine CL.done ?_) | (refine Nm.block ?_) | (refine Nm.then ?_) | (refine Gt.nil ?_; refine RW.nilw [0, 1, 4] ?_; dsimp only [H.keep, H.look, H.Fr.put, Nat.beq]) | (refine Gt.assign ?_; refine RW.y (Y.assign rfl) rfl ?_) | (refine Gt.move ?_; refine RW.y (Y.move rfl) rfl ?_))
  refine RW.fn rfl rfl ((sliteIndex l c w).mono ?_)
  rintro e w1 ⟨rfl, rfl⟩
  repeat' (first | (refine CL.seq ?_) | (refine CL.region ?_) | (refine CL.skip ?_) | (refine CL.condP rfl (fun _ => ?_) (fun _ => ?_) <;> try (exfalso; omega)) | (refine CL.condT rfl ?_) | (refine CL.condF rfl ?_) | (refine CL.cond rfl (fun _ => ?_) (fun _ => ?_)) | (refine CL.block ?_) | (refine CL.exit ?_) | (refine Ex.then ?_) | (refine Ex.hit ?_) | (refine Ex.miss rfl ?_) | (refine CL.ret ?_) | (refine Rt.then ?_) | (refine Rt.block ?_) | (refine Pn.then ?_) | (refine Pn.block ?_) | (refine CL.done ?_) | (refine Nm.block ?_) | (refine Nm.then ?_) | (refine Gt.nil ?_; refine RW.nilw [0, 1, 4] ?_; dsimp only [H.keep, H.look, H.Fr.put, Nat.beq]) | (refine Gt.assign ?_; refine RW.y (Y.assign rfl) rfl ?_) | (refine Gt.move ?_; refine RW.y (Y.move rfl) rfl ?_))
  exact FQ.one rfl rfl rfl ⟨rfl, rfl⟩

theorem count (l : List UInt8) (c : UInt8) (w : World) : Calls Tryz.prog 87 #[vs l, vs [c]] w fun e w' => w = w' ∧ e = .returned (.int .i64 (l.count c : Nat)) := by
  have h1 : ([c] : List UInt8).length = 1 := rfl
  refine H.enter Tryz.func87 Tryz.ntmps87 rfl rfl ?_; dsimp only [H.args]
  repeat' (first | (refine CL.seq ?_) | (refine CL.region ?_) | (refine CL.skip ?_) | (refine CL.condP rfl (fun _ => ?_) (fun _ => ?_) <;> try (exfalso; omega)) | (refine CL.condT rfl ?_) | (refine CL.condF rfl ?_) | (refine CL.cond rfl (fun _ => ?_) (fun _ => ?_)) | (refine CL.block ?_) | (refine CL.exit ?_) | (refine Ex.then ?_) | (refine Ex.hit ?_) | (refine Ex.miss rfl ?_) | (refine CL.ret ?_) | (refine Rt.then ?_) | (refine Rt.block ?_) | (refine Pn.then ?_) | (refine Pn.block ?_) | (refine CL.done ?_) | (refine Nm.block ?_) | (refine Nm.then ?_) | (refine Gt.nil ?_; refine RW.nilw [0, 1, 4, 5, 6, 9, 15, 24] ?_; dsimp only [H.keep, H.look, H.Fr.put, Nat.beq]) | (refine Gt.move ?_; refine RW.y (Y.move rfl) rfl ?_) | (refine Gt.assign ?_; refine RW.y (Y.assign rfl) rfl ?_) | (refine Gt.len ?_; refine RW.y (Y.lens rfl) rfl ?_) | (refine Gt.eql ?_; refine RW.y (Y.eqi rfl rfl) rfl ?_) | (refine Gt.add ?_; refine RW.y (Y.add64 rfl rfl (by omega) (by omega)) rfl ?_) | (refine Gt.index ?_; refine RW.y (Y.idxs rfl rfl (by omega) (by omega)) rfl ?_) | (refine Gt.slice ?_; refine RW.y (Y.cutl rfl rfl (by omega) (by omega)) rfl ?_))
  refine RW.y (Y.ext rfl (ext_count l c w)) rfl ?_
  repeat' (first | (refine CL.seq ?_) | (refine CL.region ?_) | (refine CL.skip ?_) | (refine CL.condP rfl (fun _ => ?_) (fun _ => ?_) <;> try (exfalso; omega)) | (refine CL.condT rfl ?_) | (refine CL.condF rfl ?_) | (refine CL.cond rfl (fun _ => ?_) (fun _ => ?_)) | (refine CL.block ?_) | (refine CL.exit ?_) | (refine Ex.then ?_) | (refine Ex.hit ?_) | (refine Ex.miss rfl ?_) | (refine CL.ret ?_) | (refine Rt.then ?_) | (refine Rt.block ?_) | (refine Pn.then ?_) | (refine Pn.block ?_) | (refine CL.done ?_) | (refine Nm.block ?_) | (refine Nm.then ?_) | (refine Gt.nil ?_; refine RW.nilw [0, 1, 4, 5, 6, 9, 15, 24] ?_; dsimp only [H.keep, H.look, H.Fr.put, Nat.beq]) | (refine Gt.move ?_; refine RW.y (Y.move rfl) rfl ?_) | (refine Gt.assign ?_; refine RW.y (Y.assign rfl) rfl ?_) | (refine Gt.len ?_; refine RW.y (Y.lens rfl) rfl ?_) | (refine Gt.eql ?_; refine RW.y (Y.eqi rfl rfl) rfl ?_) | (refine Gt.add ?_; refine RW.y (Y.add64 rfl rfl (by omega) (by omega)) rfl ?_) | (refine Gt.index ?_; refine RW.y (Y.idxs rfl rfl (by omega) (by omega)) rfl ?_) | (refine Gt.slice ?_; refine RW.y (Y.cutl rfl rfl (by omega) (by omega)) rfl ?_))
  exact FQ.one rfl rfl rfl ⟨rfl, rfl⟩

theorem sliteHasPrefix (s p : List UInt8) (w : World) : Calls Tryz.prog 89 #[vs s, vs p] w fun e w' => w = w' ∧ e = .returned (.bool (decide (s.take p.length = p))) := by
  refine H.enter Tryz.func89 Tryz.ntmps89 rfl rfl ?_; dsimp only [H.args]
  repeat' (first | (refine CL.seq ?_) | (refine CL.region ?_) | (refine CL.skip ?_) | (refine CL.condP rfl (fun _ => ?_) (fun _ => ?_) <;> try (exfalso; omega)) | (refine CL.condT rfl ?_) | (refine CL.condF rfl ?_) | (refine CL.cond rfl (fun _ => ?_) (fun _ => ?_)) | (refine CL.block ?_) | (refine CL.exit ?_) | (refine Ex.then ?_) | (refine Ex.hit ?_) | (refine Ex.miss rfl ?_) | (refine CL.ret ?_) | (refine Rt.then ?_) | (refine Rt.block ?_) | (refine Pn.then ?_) | (refine Pn.block ?_) | (refine CL.done ?_) | (refine Nm.block ?_) | (refine Nm.then ?_) | (refine Gt.nil ?_; refine RW.nilw [0, 1, 4] ?_; dsimp only [H.keep, H.look, H.Fr.put, Nat.beq]) | (refine Gt.move ?_; refine RW.y (Y.move rfl) rfl ?_) | (refine Gt.guard ?_; first | (refine RW.part rfl rfl rfl (fun _ => ?_) (fun _ => ?_) <;> try (exfalso; omega)) | (refine RW.on rfl rfl rfl ?_) | (refine RW.off1 rfl rfl rfl rfl rfl ?_) | (refine RW.off rfl rfl rfl rfl rfl ?_) | (refine RW.offu rfl rfl rfl rfl ?_) | (refine RW.partb rfl rfl rfl (fun _ => ?_) (fun _ => ?_))) | (refine Gt.len ?_; refine RW.y (Y.lens rfl) rfl ?_) | (refine Gt.assign ?_; refine RW.y (Y.assign rfl) rfl ?_) | (refine Gt.geq ?_; refine RW.y (Y.geq rfl rfl) rfl ?_) | (refine Gt.slice ?_; refine RW.y (Y.cuth rfl rfl (by omega) (by omega)) rfl ?_) | (refine Gt.eql ?_; refine RW.y (Y.eqs rfl rfl) rfl ?_) | (refine Gt.pick ?_; first | (refine RW.y (Y.pickT rfl rfl) rfl ?_) | (refine RW.y (Y.pickF rfl rfl) rfl ?_)))
  · rw [Int.toNat_natCast]
    exact FQ.one rfl rfl rfl ⟨rfl, rfl⟩
  · refine FQ.one rfl rfl rfl ⟨rfl, ?_⟩
    rw [decide_eq_false]
    intro h
    have := congrArg List.length h
    rw [List.length_take] at this
    omega
theorem hasPrefix (s p : List UInt8) (w : World) : Calls Tryz.prog 141 #[vs s, vs p] w fun e w' => w = w' ∧ e = .returned (.bool (decide (s.take p.length = p))) := by
  refine H.enter Tryz.func141 Tryz.ntmps141 rfl rfl ?_; dsimp only [H.args]
  repeat' (first | (refine CL.seq ?_) | (refine CL.region ?_) | (refine CL.skip ?_) | (refine CL.condP rfl (fun _ => ?_) (fun _ => ?_) <;> try (exfalso; omega)) | (refine CL.condT rfl ?_) | (refine CL.condF rfl ?_) | (refine CL.cond rfl (fun _ => ?_) (fun _ => ?_)) | (refine CL.block ?_) | (refine CL.exit ?_) | (refine Ex.then ?_) | (refine Ex.hit ?_) | (refine Ex.miss rfl ?_) | (refine CL.ret ?_) | (refine Rt.then ?_) | (refine Rt.block ?_) | (refine Pn.then ?_) | (refine Pn.block ?_) | (refine CL.done ?_) | (refine Nm.block ?_) | (refine Nm.then ?_) | (refine Gt.nil ?_; refine RW.nilw [0, 1, 4] ?_; dsimp only [H.keep, H.look, H.Fr.put, Nat.beq]) | (refine Gt.assign ?_; refine RW.y (Y.assign rfl) rfl ?_) | (refine Gt.move ?_; refine RW.y (Y.move rfl) rfl ?_))
  refine RW.fn rfl rfl ((sliteHasPrefix s p w).mono ?_)
  rintro e w1 ⟨rfl, rfl⟩
  repeat' (first | (refine CL.seq ?_) | (refine CL.region ?_) | (refine CL.skip ?_) | (refine CL.condP rfl (fun _ => ?_) (fun _ => ?_) <;> try (exfalso; omega)) | (refine CL.condT rfl ?_) | (refine CL.condF rfl ?_) | (refine CL.cond rfl (fun _ => ?_) (fun _ => ?_)) | (refine CL.block ?_) | (refine CL.exit ?_) | (refine Ex.then ?_) | (refine Ex.hit ?_) | (refine Ex.miss rfl ?_) | (refine CL.ret ?_) | (refine Rt.then ?_) | (refine Rt.block ?_) | (refine Pn.then ?_) | (refine Pn.block ?_) | (refine CL.done ?_) | (refine Nm.block ?_) | (refine Nm.then ?_) | (refine Gt.nil ?_; refine RW.nilw [0, 1, 4] ?_; dsimp only [H.keep, H.look, H.Fr.put, Nat.beq]) | (refine Gt.assign ?_; refine RW.y (Y.assign rfl) rfl ?_) | (refine Gt.move ?_; refine RW.y (Y.move rfl) rfl ?_))
  exact FQ.one rfl rfl rfl ⟨rfl, rfl⟩
end Go.Proofs.YtjlkmdmpejpmpaaGreatDoor.S

namespace Go.Proofs.YtjlkmdmpejpmpaaGreatDoor.H
open Go.RowKit

/-- J abides a change of blocks of S, and new blocks. -/
def Abid {β : Type} (S : Nat → Prop) (J : β → World → Prop) : Prop := ∀ s W W', J s W → Kept S W W' → J s W'
/-- The blocks of S lie as they lay. -/
def Same (S : Nat → Prop) (W W' : World) : Prop := W.heap.size ≤ W'.heap.size ∧ ∀ k, S k → W'.heap[k]? = W.heap[k]?
theorem Same.of {S T : Nat → Prop} {W W' : World} (h : Kept T W W') (hS : ∀ k, S k → k < W.heap.size ∧ ¬ T k) : Same S W W' := ⟨h.size, fun k hk => h.block k (hS k hk).1 (hS k hk).2⟩
/-- What an iterator that yields the list xs does; S: the blocks that are its own, from one round to the next. -/
def SeqC {α : Type} (P : Program) (gf : Nat) (cap : List Value) (enc : α → List Value) (S : Nat → Prop) (Pre : World → Prop) (xs : List α) : Prop :=
  ∀ (l : Nat) (J Jx : List α → World → Prop) (W : World), Pre W → Abid S J → Abid S Jx →
    (∀ pre x W1, J pre W1 → (pre ++ [x]) <+: xs → YieldAt Fence.wide 0 P l (enc x).toArray W1 fun e W' =>
      (e = .returned (.bool true) ∧ J (pre ++ [x]) W' ∧ Same S W1 W') ∨ (e = .returned (.bool false) ∧ Jx (pre ++ [x]) W')) →
    J [] W → Calls P gf (.func (.yield l) #[] #[] :: cap).toArray W fun e W' => (∃ v, e = .returned v) ∧ (J xs W' ∨ ∃ pre, Jx pre W')

def Fr.puts (f : Fr) : List Nat → List Value → Fr
  | p :: ps, v :: vs => (f.put p v).puts ps vs
  | _, _ => f

theorem Ag.puts : ∀ (ps : List Nat) (vs : List Value) {f : Fr} {tmps : Array Value} (_ : Ag f { tmps := tmps, defers := [] }), (∀ p ∈ ps, Nat.blt p f.n = true) →
    Ag (f.puts ps vs) { tmps := (ps.zip vs).foldl (fun t (x : Nat × Value) => t.setIfInBounds x.1 x.2) tmps, defers := [] } := by
  intro ps
  induction ps with
  | nil => intro vs f tmps h _; cases vs <;> exact h
  | cons p ps ih =>
    intro vs f tmps h hp
    cases vs with
    | nil => exact h
    | cons v vs => exact ih vs (f := f.put p v) (h.put v (hp p (by simp))) fun q hq => hp q (List.mem_cons_of_mem _ hq)

/-- How a round's body may be left. -/
def RQ {α : Type} (S : Nat → Prop) (I : List α → World → Prop) (Ix : Option Nat → List α → World → Prop) (xs : List α) (W : World) : Post
  | .normal, _, W' => Same S W W' ∧ I xs W'
  | .ret, _, W' => Same S W W' ∧ Ix none xs W'
  | .exit k, _, W' => Same S W W' ∧ Ix (some k) xs W'
  | _, _, _ => False

def jumpOf : Option Nat → Code
  | none => .ret
  | some k => .exit k
abbrev markOf (D : Nat) : Deferred := { target := .collected D, args := #[] }

section
variable {P : Program} {Q : Post} {cs : List Code} {f : Fr} {w : World}
theorem kept_putObj (W : World) (l : Nat) (o : Obj) : Kept (fun k => k = l) W (W.putObj l o) :=
  ⟨rfl, rfl, rfl, by simp, fun k _ hk => World.putObj_heap_other hk⟩

/-- A call of yield. -/
theorem RW.yield {r : Option Nat} {ops : Array Oper} {rest : List Oper} {d : Nat} {ty : TypeId} {pos : String} {af : Array Edge} {l : Nat} {x : Operand} {xs : List Operand} {vs : List Value} {at' : Array TypeId} {R : Ending → World → Prop}
    (hf : f.ev x = some (.func (.yield l) #[] #[])) (hv : f.evs xs = some vs) (hd : Nat.blt d f.n = true) (h : YieldAt Fence.wide 0 P l vs.toArray w R)
    (hq : ∀ e w', R e w' → match e with
      | .returned v => RW (some r) P ops Q rest (f.put d v) w'
      | .panicked chain => Q (.panic chain) f w'
      | .outgrown => False) : RW (some r) P ops Q (op1 d (.call { callee := .value x, args := xs.toArray, argTypes := at' }) ty pos af :: rest) f w := by
  intro a ha
  obtain ⟨fn, tmps, assign, body, hy, hr⟩ := h
  refine lwp_plain rfl fun K hK => ?_
  have hrun : (execOp a.eval (op1 d (.call { callee := .value x, args := xs.toArray, argTypes := at' }) ty pos af)).run P w = .ok (.round l fn tmps assign body) w := by
    have h1 := ha.eval hf
    have h2 := ha.evs xs vs hv
    simp [execOp, resolve, h1, Deferred.ofValue, h2, invoke, hy]
  refine ⟨fun _ _ => trivial, ?_⟩
  rw [show (Rd1 r).round = r from rfl, Oper.semAt_eq r _ _ (by intro c; simp), hrun, Oper.uponIn_round]
  refine ⟨fun c => by simp [Fence.wide] at c, (show RoundIn (Rd1 r) (0 - 1) P l fn tmps assign body w _ from hr).mono fun e w' hR => ?_⟩
  have q := hq e w' hR
  cases e with
  | returned v => exact hK _ _ (q _ (ha.put v hd))
  | panicked ch => exact ⟨f, ha, q⟩
  | outgrown => exact q.elim

/-- The entry of a function by the rules of a fence. -/
theorem enterI {k n : Nat} {fn : Func} {c : Code} {l : List Value} {R : Ending → World → Prop} (hf : P.funcs[k]? = some fn) (hn : fn.ntmps = n) (hb : fn.body = some c)
    (hl : Nat.ble l.length n = true) (h : CL (some none) P (FQ P fn R) [c] ⟨n, [], args 0 l⟩ w) : Calls P k l.toArray w R := by
  refine calls_of_wp hf hb ((wpIn_wide (n := 0)).1 (wpIn_mono (show Code.wpIn Fence.wide 0 P c _ _ w from CL.one h _ ⟨?_, rfl, ?_⟩) fun e a w q => ?_))
  · have := ble_le hl
    simp [hn]; omega
  · intro t v hv
    obtain ⟨_, h2⟩ := look_args l 0 t v hv
    rw [Nat.sub_zero] at h2
    have hlt : t < l.length := (List.getElem?_eq_some_iff.1 h2).1
    simp only [Array.getD_eq_getD_getElem?]
    rw [Array.getElem?_append_left (by simpa using hlt)]
    simp [h2]
  · obtain ⟨f, hf', q⟩ := q
    cases e with
    | normal => obtain ⟨hd, v, hv, hR⟩ := q; exact ⟨hf'.defers.trans hd, v, hv a hf', hR⟩
    | ret => obtain ⟨hd, v, hv, hR⟩ := q; exact ⟨hf'.defers.trans hd, v, hv a hf', hR⟩
    | panic ch => exact ⟨hf'.defers.trans q.1, q.2⟩
    | exit k => exact q.elim
    | goto l => exact q.elim
    | outgrown => exact q.elim

/-- The end of a body that may hold a range over a function: no deferred calls; or the one mark. -/
def MQ (P : Program) (fn : Func) (R : Ending → World → Prop) : Post
  | .normal, f, w | .ret, f, w =>
    (f.ds = [] ∧ ∃ v, (∀ a, Ag f a → (results fn a.tmps).run P w = .ok v w) ∧ R (.returned v) w) ∨
    ∃ D, f.ds = [markOf D] ∧ w.heap[D]? = some (.deferred (some [])) ∧ ∀ w', Kept (fun k => k = D) w w' → ∃ v, (∀ a, Ag f a → (results fn a.tmps).run P w' = .ok v w') ∧ R (.returned v) w'
  | .panic chain, f, w => f.ds = [] ∧ R (.panicked chain) w
  | _, _, _ => False
theorem enterM {k n : Nat} {fn : Func} {c : Code} {l : List Value} {R : Ending → World → Prop} (hf : P.funcs[k]? = some fn) (hn : fn.ntmps = n) (hb : fn.body = some c)
    (hl : Nat.ble l.length n = true) (h : CL none P (MQ P fn R) [c] ⟨n, [], args 0 l⟩ w) : Calls P k l.toArray w R := by
  refine callsIn_wide.1 (callsIn_of_wp_marks (n := 0) (F := Fence.wide) hf hb trivial (wpIn_mono (wpIn_wide.2 (show Code.wp P c _ _ w from CL.one h _ ⟨?_, rfl, ?_⟩)) fun e a w q => ?_))
  · have := ble_le hl
    simp [hn]; omega
  · intro t v hv
    obtain ⟨_, h2⟩ := look_args l 0 t v hv
    rw [Nat.sub_zero] at h2
    have hlt : t < l.length := (List.getElem?_eq_some_iff.1 h2).1
    simp only [Array.getD_eq_getD_getElem?]
    rw [Array.getElem?_append_left (by simpa using hlt)]
    simp [h2]
  · obtain ⟨f, hf', q⟩ := q
    have ret : MQ P fn R .ret f w → LeavesInM Fence.wide 0 P fn a.tmps R a.defers .returning w := by
      rintro (⟨hd, v, hv, hR⟩ | ⟨D, hd, hD, hr⟩)
      · rw [hf'.defers, hd]
        exact ⟨v, hv a hf', hR⟩
      · rw [hf'.defers, hd]
        obtain ⟨v, hv, hR⟩ := hr _ (kept_putObj w D (.deferred none))
        exact ⟨by simp, .inl ⟨D, _, rfl, run_takeDeferred hD, ⟨v, hv a hf', hR⟩⟩⟩
    cases e with
    | normal => exact ret q
    | ret => exact ret q
    | panic ch =>
      show LeavesInM Fence.wide 0 P fn a.tmps R a.defers (.panicking ch) w
      rw [hf'.defers, q.1]
      exact q.2
    | exit k => exact q.elim
    | goto l => exact q.elim
    | outgrown => exact q.elim
end
end Go.Proofs.YtjlkmdmpejpmpaaGreatDoor.H

namespace Go.Proofs.YtjlkmdmpejpmpaaGreatDoor.H
open Go.RowKit
section
variable {M : Option (Option Nat)} {P : Program} {ops : Array Oper} {Q : Post} {rest : List Oper} {f : Fr} {w : World} {d : Nat} {ty : TypeId} {pos : String} {af : Array Edge}
theorem wrapu8_id {z : Int} (h1 : 0 ≤ z) (h2 : z < 256) : IntKind.u8.wrap z = z := by rw [wrapu8]; omega
theorem wrapu16_id {z : Int} (h1 : 0 ≤ z) (h2 : z < 65536) : IntKind.u16.wrap z = z := by
  have : IntKind.u16.wrap z = z % 65536 := by simp [IntKind.wrap, IntKind.bits, IntKind.signed]
  rw [this]; omega
section arith
variable {t yt : TypeId} {x y : Operand} {a b : Int} {k : IntKind}
theorem Y.remP (hx : f.ev x = some (.int k a)) (hy : f.ev y = some (.int k b)) (h0 : 0 ≤ a) (h1 : 0 < b) : Yd P f (op1 d (.binOp .rem t x y yt) ty pos af) (.int k (a % b)) w := by
  have h := Y.rem (P := P) (w := w) (d := d) (ty := ty) (pos := pos) (af := af) (t := t) (yt := yt) hx hy (by omega)
  rw [Int.tmod_eq_emod_of_nonneg h0] at h
  exact h
theorem Y.quoP (hx : f.ev x = some (.int k a)) (hy : f.ev y = some (.int k b)) (h0 : 0 ≤ a) (h1 : 0 < b) (hw : k.wrap (a / b) = a / b) : Yd P f (op1 d (.binOp .quo t x y yt) ty pos af) (.int k (a / b)) w := by
  have h := Y.quo (P := P) (w := w) (d := d) (ty := ty) (pos := pos) (af := af) (t := t) (yt := yt) hx hy (by omega)
  rw [Int.tdiv_eq_ediv_of_nonneg h0, hw] at h
  exact h
theorem Y.addN (hx : f.ev x = some (.int k a)) (hy : f.ev y = some (.int k b)) (hw : k.wrap (a + b) = a + b) : Yd P f (op1 d (.binOp .add t x y yt) ty pos af) (.int k (a + b)) w := by
  have h := Y.add (P := P) (w := w) (d := d) (ty := ty) (pos := pos) (af := af) (t := t) (yt := yt) hx hy
  rw [hw] at h
  exact h
theorem Y.subN (hx : f.ev x = some (.int k a)) (hy : f.ev y = some (.int k b)) (hw : k.wrap (a - b) = a - b) : Yd P f (op1 d (.binOp .sub t x y yt) ty pos af) (.int k (a - b)) w := by
  have h := Y.sub (P := P) (w := w) (d := d) (ty := ty) (pos := pos) (af := af) (t := t) (yt := yt) hx hy
  rw [hw] at h
  exact h
end arith
section same
variable {t yt : TypeId} {x y : Operand}
theorem Y.nesS {a : List UInt8} (hx : f.ev x = some (.string (B a))) (hy : f.ev y = some (.string (B a))) : Yd P f (op1 d (.binOp .neq t x y yt) ty pos af) (.bool false) w := by
  have := Y.nes (P := P) (w := w) (d := d) (t := t) (yt := yt) (ty := ty) (pos := pos) (af := af) hx hy
  simpa using this
theorem Y.neiS {k : IntKind} {a : Int} (hx : f.ev x = some (.int k a)) (hy : f.ev y = some (.int k a)) : Yd P f (op1 d (.binOp .neq t x y yt) ty pos af) (.bool false) w := by
  have := Y.nei (P := P) (w := w) (d := d) (t := t) (yt := yt) (ty := ty) (pos := pos) (af := af) hx hy
  simpa using this
end same
theorem zip_parts : ∀ (vs : List Value) (k : Nat) (ps : List (Nat × Operand)), ps.map (·.1) = List.range' k vs.length → ((ps.map (·.1)).zip vs) = (vs.zipIdx k).map fun p => (p.2, p.1) := by
  intro vs
  induction vs with
  | nil => intro k ps h; simp
  | cons v r ih =>
    intro k ps h
    cases ps with
    | nil => simp at h
    | cons p ps =>
      simp only [List.map_cons, List.length_cons, List.range'_succ, List.cons.injEq] at h
      have := ih (k + 1) ps h.2
      simp only [List.map_cons, List.zip_cons_cons, List.zipIdx_cons, this, h.1]
/-- A slice literal of any length. -/
theorem RW.buildL {t e n : TypeId} {z : Value} {sz b : Nat} [ht : Und P t (.slice e)] [Inf P e z sz b] {ps : List (Nat × Operand)} {l : List Value} (hx : f.evs (ps.map (·.2)) = some l) (hp : ps.map (·.1) = List.range' 0 l.length) (hn : l.length = n) (hu : ∀ v ∈ l, v.cells.size = sz) (hs : Nat.ble (n * sz) 16777216 = true) (hd : Nat.blt d f.n = true)
    (k : ∀ w', w'.heap[w.heap.size]? = some (.cells (catCells l).toArray e (0, 0)) → K0 w w' → w.heap.size < w'.heap.size → RW M P ops Q rest (f.put d (.slice (some ⟨w.heap.size, 0, none⟩) n n)) w') : RW M P ops Q (op1 d (.buildSlice t n ps.toArray) ty pos af :: rest) f w := by
  subst hn
  refine RW.val rfl rfl hd (fun a ha => ?_) (k (w.alloc (.cells _ e)) (heap_alloc_new w _) (Kept.alloc w _) (by simp))
  have hev := ha.evs _ l hx
  have hps : (ps.toArray.map fun (p : Nat × Operand) => (p.1, a.eval p.2)) = ((ps.map (·.1)).zip l).toArray := by
    rw [← hev]
    apply Array.ext'
    simp only [List.map_toArray, List.map_map]
    clear hx hp hu hs hev k
    induction ps with
    | nil => rfl
    | cons p ps ih => simpa using ih
  have := run_buildSlice (P := P) (w := w) (t := t) (z := z) (sz := sz) (b := b) l ((ps.map (·.1)).zip l).toArray (zip_parts l 0 ps hp) hu (by simpa using ble_le hs)
  simp only [execOp]
  rw [show (ps.toArray.map fun (x : Nat × Operand) => match x with | (i, x) => (i, a.eval x)) = ((ps.map (·.1)).zip l).toArray from hps, Sem.run_bind, this]
  rfl
end
end Go.Proofs.YtjlkmdmpejpmpaaGreatDoor.H

namespace Go.Proofs.YtjlkmdmpejpmpaaGreatDoor.H
open Go.RowKit
/-- What a list of results reads as. -/
def RS (P : Program) (f : Fr) (w : World) : List ResultVar → List Value → Prop
  | [], [] => True
  | .tmp t :: rs, v :: vs => look f.e t = some v ∧ RS P f w rs vs
  | .cell t u :: rs, v :: vs => (∃ p, look f.e t = some (.pointer (some p)) ∧ (loadVar u p).run P w = .ok v w) ∧ RS P f w rs vs
  | _, _ => False
section
variable {P : Program} {f : Fr} {w : World}
theorem load_one {u : TypeId} [h : One P u] {p : Addr} {v : Value} (hc : w.cell? p = some v) : (loadVar u p).run P w = .ok v w := by
  simp [loadVar, h.agg, load, Sem.run, hc]
theorem load_many {u : TypeId} {n : Nat} [h : Many P u n] {a : Addr} {cs : List Value} (hl : cs.length = n) (hc : ∀ j v, cs[j]? = some v → w.cell? (a.add j) = some v) : (loadVar u a).run P w = .ok (.agg cs.toArray) w := by
  have hr := run_loadCells_list (P := P) w a cs hc
  rw [hl] at hr
  simp [loadVar, h.agg, h.size, hr]
theorem load_block {u : TypeId} {n : Nat} [h : Many P u n] {g : Nat} {cs : List Value} {e : TypeId} {fz : Nat × Nat} (hb : w.heap[g]? = some (.cells cs.toArray e fz)) (hl : cs.length = n) : (loadVar u ⟨g, 0, none⟩).run P w = .ok (.agg cs.toArray) w :=
  load_many hl fun j v hv => by
    rw [addr_add, Nat.zero_add, cell_row (off := 0) hb]
    simpa using hv
theorem load_block1 {u : TypeId} [h : One P u] {g : Nat} {v : Value} {e : TypeId} {fz : Nat × Nat} (hb : w.heap[g]? = some (.cells #[v] e fz)) : (loadVar u ⟨g, 0, none⟩).run P w = .ok v w :=
  load_one (by rw [cell_row (off := 0) hb]; rfl)
abbrev rsM (tmps : Array Value) (r : ResultVar) : Sem Value := match r with
  | .tmp t => pure (tmps.getD t undef)
  | .cell t u => do loadVar u (← asAddr (tmps.getD t undef))
theorem rs_run {a : Act} (ha : Ag f a) : ∀ (rs : List ResultVar) (vs : List Value), RS P f w rs vs → (rs.mapM (rsM a.tmps)).run P w = .ok vs w := by
  intro rs
  induction rs with
  | nil => intro vs h; cases vs with | nil => rfl | cons => exact h.elim
  | cons r rs ih =>
    intro vs h
    cases vs with
    | nil => cases r <;> exact h.elim
    | cons v vs =>
      have h1 : (rsM a.tmps r).run P w = .ok v w := by
        cases r with
        | tmp t => simp only [rsM]; rw [ha.slot t v h.1]; rfl
        | cell t u =>
          obtain ⟨⟨p, hp, hl⟩, h2⟩ := h
          simp only [rsM]
          rw [ha.slot t _ hp]
          simp [asAddr, hl]
      have h2 := ih vs (by cases r <;> exact h.2)
      simp only [List.mapM_cons, Sem.run_bind, h1, Result.andThen, h2]
      rfl
theorem results_list {fn : Func} {rs : List ResultVar} {vs : List Value} (hr : fn.results = rs.toArray) (h : RS P f w rs vs) {a : Act} (ha : Ag f a) : (results fn a.tmps).run P w = .ok (if h : vs.toArray.size = 1 then vs.toArray[0] else .tuple vs.toArray) w := by
  have h2 := rs_run ha rs vs h
  have e : (fn.results.mapM (rsM a.tmps)).run P w = .ok vs.toArray w := by
    rw [hr, List.mapM_toArray]
    show (List.toArray <$> rs.mapM (rsM a.tmps)).run P w = _
    rw [map_eq_pure_bind, Sem.run_bind, h2]
    rfl
  unfold results
  rw [Sem.run_bind]
  exact (congrArg (fun (r : Result (Array Value)) => r.andThen fun vs w => (pure (if h : vs.size = 1 then vs[0] else Value.tuple vs) : Sem Value).run P w) e).trans rfl
/-- The end of a body, whatever the results' form. -/
theorem FQ.res {fn : Func} {R : Ending → World → Prop} {rs : List ResultVar} {vs : List Value} (hr : fn.results = rs.toArray) (hd : f.ds = []) (h : RS P f w rs vs) (hn : Nat.beq vs.length 1 = false) (hR : R (.returned (.tuple vs.toArray)) w) : FQ P fn R .ret f w :=
  ⟨hd, _, fun a ha => by rw [results_list hr h ha, dif_neg (by intro c; rw [List.size_toArray] at c; rw [c] at hn; cases hn)], hR⟩
theorem FQ.res1 {fn : Func} {R : Ending → World → Prop} {r : ResultVar} {v : Value} (hr : fn.results = #[r]) (hd : f.ds = []) (h : RS P f w [r] [v]) (hR : R (.returned v) w) : FQ P fn R .ret f w :=
  ⟨hd, _, fun a ha => by rw [results_list (rs := [r]) hr h ha]; rfl, hR⟩
end
end Go.Proofs.YtjlkmdmpejpmpaaGreatDoor.H

