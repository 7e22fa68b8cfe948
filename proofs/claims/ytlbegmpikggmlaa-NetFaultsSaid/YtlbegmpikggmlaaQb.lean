/-
  Arrays built; a number's bits turned. Functions of the package strings over texts: HasPrefix, LastIndexByte, Index and Count at one byte. strings.LastIndexByte and strings.Split at one byte. A text parted at a byte: plain. strings.Split at one byte. strings.Cut at one byte. Versions: plain. Versions, walked: digits, numbers, marks; the reference's. Versions, walked: the reference's split, digits, numbers, marks. Versions, walked: Parse. Versions, walked: the reference's VersionOf. Versions, walked: their order. The reference's sums: that they come to some bytes. Turned numbers, the table, the padding. The reference's sums: that they come to some bytes. The rounds. The reference's sums of parts; numbers written, files packed. Bytes of a text: of a constant one, of any. Files packed; the files of an archive. Rows that grow, whose elements point at memory of their own. Versions, walked: Cmp, the program's. Versions, walked: Cmp, the reference's. Versions, walked: their texts. Versions: plain laws of texts that are read.
-/
import Derived.Test.YtlbegmpikggmlaaQa
import Derived.Lib.Bytealg
import Derived.Lib.ItoaNum
import Derived.Lib.Atoi
import Derived.Lib.Join
import GoSem.Op.String
import Derived.Lib.ConvBytes
import Derived.Lib.SlBytesConst
set_option linter.unusedVariables false
namespace Go.Proofs.Ytlbegmpikggmlaa.H
open Go.RowKit
section
variable {M : Option (Option Nat)} {P : Program} {ops : Array Oper} {Q : Post} {rest : List Oper} {f : Fr} {w : World} {d : Nat} {ty : TypeId} {pos : String} {af : Array Edge}
/-- An array, all of its parts given. -/
theorem Y.buildA {t e n : TypeId} {z ze : Value} {sz b se be : Nat} [hu : Und P t (.array n e)] [hi : Inf P t z sz b] [he : Inf P e ze se be] {ps : List (Nat × Operand)} {l : List Value} (hx : f.evs (ps.map (·.2)) = some l) (hp : ps.map (·.1) = List.range' 0 l.length) (hv : ∀ v ∈ l, v.cells.size = se) (hz : Nat.beq z.cells.size (l.length * se) = true) :
    Yd P f (op1 d (.build t ps.toArray) ty pos af) (.agg (catCells l).toArray) w := by
  intro a ha
  have hev := ha.evs _ l hx
  have hps : (ps.toArray.map fun (p : Nat × Operand) => (p.1, a.eval p.2)) = ((ps.map (·.1)).zip l).toArray := by
    rw [← hev]
    apply Array.ext'
    simp only [List.map_toArray, List.map_map]
    clear hx hp hev hz hv
    induction ps with
    | nil => rfl
    | cons p ps ih => simpa using ih
  have hf := fill_all se (fun _ => trivial) l 0 z.cells hv (by rw [Nat.zero_add]; exact Nat.eq_of_beq_eq_true hz)
  rw [← zip_parts l 0 ps hp, Nat.zero_mul, List.take_zero, List.nil_append] at hf
  have h1 := run_zeroValue (P := P) (t := t) w
  have h2 := run_sizeOf (P := P) (t := e) w
  simp only [execOp]
  rw [show (ps.toArray.map fun (x : Nat × Operand) => match x with | (i, x) => (i, a.eval x)) = ((ps.map (·.1)).zip l).toArray from hps, Sem.run_bind]
  simp only [Instr.build, Sem.run_bind, h1, Result.andThen_ok, run_underlying hu.out, h2, hf]
  rfl
/-- All bits turned. -/
theorem Y.com {t : TypeId} {x : Operand} {k : IntKind} {a : Int} (hx : f.ev x = some (.int k a)) : Yd P f (op1 d (.unOp .xor t x) ty pos af) (.int k (Go.bits .xor k (if k.signed then -1 else k.max) a)) w := fun a' ha => by simp [execOp, ha.eval hx, Op.unary, Op.intBits, Go.bits]
end
/-- So many numbers of 32 bits. -/
def Us (c : Array Value) (n : Nat) : Prop := c.size = n ∧ ∀ i, i < n → ∃ x : Int, c[i]? = some (.int .u32 x)
theorem Us.set {c : Array Value} {n : Nat} (h : Us c n) (j : Nat) (x : Int) : Us (c.setIfInBounds j (.int .u32 x)) n := by
  refine ⟨by simp [h.1], fun i hi => ?_⟩
  by_cases hij : j = i
  · subst hij; exact ⟨x, by rw [Array.getElem?_setIfInBounds_self_of_lt (by rw [h.1]; exact hi)]⟩
  · obtain ⟨y, hy⟩ := h.2 i hi
    exact ⟨y, by rw [Array.getElem?_setIfInBounds_ne hij]; exact hy⟩
theorem Us.of (l : List Int) : Us (l.map (Value.int .u32)).toArray l.length := by
  refine ⟨by simp, fun i hi => ⟨l[i], by simp [hi]⟩⟩
theorem Us.ones {c : Array Value} {n : Nat} (h : Us c n) : ∀ z ∈ c.toList, z.oneCell' = true := by
  intro z hz
  obtain ⟨i, hi, rfl⟩ := List.getElem_of_mem hz
  obtain ⟨x, hx⟩ := h.2 i (by rw [← h.1]; simpa using hi)
  rw [Array.getElem_toList]
  rw [Array.getElem?_eq_getElem (by simpa using hi)] at hx
  rw [Option.some.inj hx]; rfl
theorem int_cells32 {k : IntKind} {l : List Int} : ∀ v ∈ l.map (Value.int k), v.cells.size = 1 := by
  intro v hv; obtain ⟨x, _, rfl⟩ := List.mem_map.1 hv; rfl
theorem cat_ints {k : IntKind} : ∀ (l : List Int), catCells (l.map (Value.int k)) = l.map (Value.int k)
  | [] => rfl
  | a :: r => by have := cat_ints (k := k) r; simp only [catCells] at this ⊢; rw [List.map_cons, List.flatMap_cons, this]; rfl
end Go.Proofs.Ytlbegmpikggmlaa.H

namespace Go.Proofs.Ytlbegmpikggmlaa.S
open Go.RowKit H
attribute [local irreducible] H.CL H.RW H.CW H.Yd H.thenK H.blockQ Go.Calls

theorem B_data (l : List UInt8) : (B l).data.toList = l := rfl

/-- The place of the first c; -1 where there is none. -/
def idx (c : UInt8) (l : List UInt8) : Int := Go.Lib.indexByte l c
theorem byte_back (c : UInt8) : (((c.toNat : Int)).toNat).toUInt8 = c := by
  rw [Int.toNat_natCast]; simp

end Go.Proofs.Ytlbegmpikggmlaa.S

namespace Go.Proofs.Ytlbegmpikggmlaa.S
open Go.RowKit H
attribute [local irreducible] H.CL H.RW H.CW H.Yd H.thenK H.blockQ Go.Calls

def lastIdxA (c : UInt8) (l : List UInt8) : Nat → Int
  | 0 => -1
  | n + 1 => if l.getD n 0 = c then (n : Int) else lastIdxA c l n
def lastIdx (c : UInt8) (l : List UInt8) : Int := lastIdxA c l l.length
theorem lastIdxA_bd (c : UInt8) (l : List UInt8) : ∀ n, -1 ≤ lastIdxA c l n ∧ lastIdxA c l n < (n : Int) := by
  intro n
  induction n with
  | zero => simp [lastIdxA]
  | succ n ih => unfold lastIdxA; split <;> omega
theorem lastIdx_bd (c : UInt8) (l : List UInt8) : -1 ≤ lastIdx c l ∧ lastIdx c l < (l.length : Int) := lastIdxA_bd c l _

theorem u8_eq {a b : UInt8} (h : (a.toNat : Int) = (b.toNat : Int)) : a = b := UInt8.toNat_inj.1 (by omega)

end Go.Proofs.Ytlbegmpikggmlaa.S

namespace Go.Proofs.Ytlbegmpikggmlaa.S

/-- What stands between the bytes c. -/
def splitB (c : UInt8) : List UInt8 → List (List UInt8)
  | [] => [[]]
  | x :: r => if x = c then [] :: splitB c r else (x :: (splitB c r).headD []) :: (splitB c r).tail

theorem idx_ge (c : UInt8) (l : List UInt8) : -1 ≤ Go.Lib.indexByte l c := Go.Lib.indexByte_ge l c

theorem split_idx (c : UInt8) : ∀ (l : List UInt8), (Go.Lib.indexByte l c = -1 ∧ l.count c = 0 ∧ splitB c l = [l]) ∨
    ∃ m : Nat, Go.Lib.indexByte l c = (m : Int) ∧ m < l.length ∧ l.count c = (l.drop (m + 1)).count c + 1 ∧ splitB c l = l.take m :: splitB c (l.drop (m + 1)) := by
  intro l
  induction l with
  | nil => exact .inl ⟨rfl, rfl, rfl⟩
  | cons x r ih =>
    by_cases hx : x = c
    · subst hx
      refine .inr ⟨0, ?_, by simp, by simp, ?_⟩
      · simp [Go.Lib.indexByte]
      · simp [splitB]
    · have hx' : (x == c) = false := by simpa using hx
      rcases ih with ⟨h1, h2, h3⟩ | ⟨m, h1, h2, h3, h4⟩
      · refine .inl ⟨?_, ?_, ?_⟩
        · simp [Go.Lib.indexByte, hx', h1]
        · rw [List.count_cons, hx', h2]; rfl
        · rw [splitB, if_neg hx, h3]; rfl
      · refine .inr ⟨m + 1, ?_, by simpa using h2, ?_, ?_⟩
        · have : ((m : Int) == -1) = false := by rw [beq_eq_false_iff_ne]; omega
          simp [Go.Lib.indexByte, hx', h1, this]
        · rw [List.count_cons, hx', h3]; rfl
        · rw [splitB, if_neg hx, h4]; rfl
theorem splitB_len (c : UInt8) : ∀ (l : List UInt8), (splitB c l).length = l.count c + 1 := by
  intro l
  induction l with
  | nil => rfl
  | cons x r ih =>
    rw [splitB, List.count_cons]
    by_cases hx : x = c
    · rw [if_pos hx, List.length_cons, ih]; simp [hx]
    · have hx' : (x == c) = false := by simpa using hx
      rw [if_neg hx, hx', List.length_cons, List.length_tail, ih]; rfl
theorem splitB_ne (c : UInt8) (l : List UInt8) : splitB c l ≠ [] := fun h => by have := splitB_len c l; rw [h] at this; simp at this
theorem splitB_mem_len (c : UInt8) : ∀ (l : List UInt8), ∀ s ∈ splitB c l, s.length ≤ l.length := by
  intro l
  induction l with
  | nil => intro s hs; simp [splitB] at hs; subst hs; simp
  | cons x r ih =>
    intro s hs
    rw [splitB] at hs
    split at hs
    · rcases List.mem_cons.1 hs with rfl | hs
      · simp
      · have := ih s hs; simp only [List.length_cons]; omega
    · rcases List.mem_cons.1 hs with rfl | hs
      · have hne := splitB_ne c r
        cases hsp : splitB c r with
        | nil => exact absurd hsp hne
        | cons a t =>
          have := ih a (by rw [hsp]; simp)
          simp only [List.headD_cons, List.length_cons]; omega
      · have := ih s (List.mem_of_mem_tail hs); simp only [List.length_cons]; omega
end Go.Proofs.Ytlbegmpikggmlaa.S

namespace Go.Proofs.Ytlbegmpikggmlaa.S
open Go.RowKit H
attribute [local irreducible] H.CL H.RW H.CW H.Yd H.thenK H.blockQ Go.Calls

abbrev strT : TypeId := 9
theorem set_rep (done : List (List UInt8)) (x : List UInt8) (k : Nat) : (sv done ++ List.replicate (k + 1) (vs [])).set done.length (vs x) = sv (done ++ [x]) ++ List.replicate k (vs []) := by
  rw [List.set_append_right _ _ (by simp)]
  simp [List.replicate_succ]

end Go.Proofs.Ytlbegmpikggmlaa.S

namespace Go.Proofs.Ytlbegmpikggmlaa.S
open Go.RowKit H
attribute [local irreducible] H.CL H.RW H.CW H.Yd H.thenK H.blockQ Go.Calls

/-- What stands ahead of the first c, and behind it. -/
def cutB (c : UInt8) (l : List UInt8) : List UInt8 × List UInt8 × Bool :=
  if idx c l < 0 then (l, [], false) else (l.take (idx c l).toNat, l.drop ((idx c l).toNat + 1), true)
theorem idx_lt (c : UInt8) (l : List UInt8) : idx c l < l.length ∨ idx c l < 0 := by
  rcases split_idx c l with ⟨h, _⟩ | ⟨m, h, h2, _⟩
  · right; rw [idx, h]; decide
  · left; rw [idx, h]; omega
def cutV (p : List UInt8 × List UInt8 × Bool) : Value := .tuple #[vs p.1, vs p.2.1, .bool p.2.2]

end Go.Proofs.Ytlbegmpikggmlaa.S

namespace Go.Proofs.Ytlbegmpikggmlaa.Ve
open Go.Proofs.Ytlbegmpikggmlaa.S
abbrev T := List UInt8

def isDig (c : UInt8) : Bool := decide (48 ≤ c.toNat) && decide (c.toNat ≤ 57)
def isSign (c : UInt8) : Bool := isDig c || (decide (97 ≤ c.toNat) && decide (c.toNat ≤ 122)) || (decide (65 ≤ c.toNat) && decide (c.toNat ≤ 90)) || decide (c.toNat = 45)
def digB (s : T) : Bool := decide (s ≠ []) && s.all isDig
/-- No nought ahead. -/
def plainB (s : T) : Bool := decide (s.length = 1) || decide (s.getD 0 0 ≠ 48)
def val (s : T) : Nat := s.foldl (fun n c => 10 * n + (c.toNat - 48)) 0
def numB (s : T) : Bool := digB s && decide (s.length ≤ 9) && plainB s
def markB (s : T) : Bool := decide (s ≠ []) && decide (s.length ≤ 16) && (!digB s || plainB s) && s.all isSign

theorem take_snoc {α : Type} (d : α) (l : List α) (i : Nat) (h : i < l.length) : l.take (i + 1) = l.take i ++ [l.getD i d] := by
  rw [List.take_succ_eq_append_getElem h, List.getD_eq_getElem?_getD, List.getElem?_eq_getElem h]; rfl
theorem getD_mem {α : Type} (d : α) {l : List α} {i : Nat} (h : i < l.length) : l.getD i d ∈ l := by
  rw [List.getD_eq_getElem?_getD, List.getElem?_eq_getElem h]; exact List.getElem_mem h
theorem all_false {α : Type} (d : α) {l : List α} {p : α → Bool} {i : Nat} (hi : i < l.length) (h : p (l.getD i d) = false) : l.all p = false := by
  rw [List.all_eq_false]
  exact ⟨_, getD_mem d hi, by rw [h]; decide⟩
theorem all_step {α : Type} (d : α) {l : List α} {p : α → Bool} {i : Nat} (hi : i < l.length) (h : (l.take i).all p = true) (hp : p (l.getD i d) = true) : (l.take (i + 1)).all p = true := by
  rw [take_snoc d l i hi, List.all_append, h, List.all_cons, hp]; rfl
theorem val_snoc (l : T) (c : UInt8) : val (l ++ [c]) = 10 * val l + (c.toNat - 48) := by simp [val]
theorem val_lt : ∀ (n : Nat) (l : T), l.length = n → l.all isDig = true → val l < 10 ^ n := by
  intro n
  induction n with
  | zero => intro l h _; rw [List.length_eq_zero_iff.1 h]; decide
  | succ n ih =>
    intro l h ha
    have hne : l ≠ [] := by rintro rfl; simp at h
    rw [← List.dropLast_concat_getLast hne] at ha ⊢
    rw [List.all_append] at ha
    simp only [Bool.and_eq_true, List.all_cons, List.all_nil, Bool.and_true] at ha
    have h1 := ih l.dropLast (by simp; omega) ha.1
    rw [val_snoc]
    have h2 := ha.2
    simp only [isDig, Bool.and_eq_true, decide_eq_true_eq] at h2
    rw [Nat.pow_succ]
    omega
/-- A number without a nought ahead is as great as its length says. -/
theorem val_ge : ∀ (n : Nat) (l : T), l.length = n + 1 → l.all isDig = true → l.getD 0 0 ≠ 48 → 10 ^ n ≤ val l := by
  intro n
  induction n with
  | zero =>
    intro l h ha h0
    match l, h with
    | [c], _ =>
      simp only [List.all_cons, List.all_nil, Bool.and_true, isDig, Bool.and_eq_true, decide_eq_true_eq] at ha
      have : c.toNat ≠ 48 := fun e => h0 (UInt8.toNat_inj.1 (by simpa using e))
      simp [val]
      omega
  | succ n ih =>
    intro l h ha h0
    have hne : l ≠ [] := by rintro rfl; simp at h
    have hd : l.dropLast.getD 0 0 = l.getD 0 0 := by
      match l, h with
      | a :: b :: r, _ => rfl
    rw [← List.dropLast_concat_getLast hne] at ha ⊢
    rw [List.all_append, Bool.and_eq_true] at ha
    have h1 := ih l.dropLast (by simp; omega) ha.1 (by rw [hd]; exact h0)
    rw [val_snoc, Nat.pow_succ]
    omega

/-- The reference's reading of a number says the same. -/
theorem num_ref (s : T) : (digB s = true ∧ ¬ (1 < s.length ∧ s.getD 0 0 = 48) ∧ s.length ≤ 10 ∧ val s ≤ 999999999) ↔ numB s = true := by
  unfold numB plainB
  simp only [Bool.and_eq_true, Bool.or_eq_true, decide_eq_true_eq]
  constructor
  · rintro ⟨h1, h2, h3, h4⟩
    have hd := h1
    simp only [digB, Bool.and_eq_true, decide_eq_true_eq] at hd
    have hpos : 0 < s.length := List.length_pos_iff.2 hd.1
    by_cases hl : s.length ≤ 9
    · refine ⟨⟨h1, hl⟩, ?_⟩
      by_cases h : s.length = 1
      · exact .inl h
      · exact .inr fun c => h2 ⟨by omega, c⟩
    · have h10 : s.length = 10 := by omega
      have := val_ge 9 s h10 hd.2 (fun c => h2 ⟨by omega, c⟩)
      omega
  · rintro ⟨⟨h1, h2⟩, h3⟩
    have hd := h1
    simp only [digB, Bool.and_eq_true, decide_eq_true_eq] at hd
    have hv := val_lt s.length s rfl hd.2
    have h9 : 10 ^ s.length ≤ 10 ^ 9 := Nat.pow_le_pow_right (by decide) h2
    have e9 : (10 : Nat) ^ 9 = 1000000000 := by decide
    refine ⟨h1, ?_, by omega, by omega⟩
    rintro ⟨c1, c2⟩
    rcases h3 with h3 | h3
    · omega
    · exact h3 c2

structure Ver where
  a : Int
  b : Int
  c : Int
  pre : List T
instance : Inhabited Ver := ⟨⟨0, 0, 0, []⟩⟩

/-- Out of the numbers' texts, what stands behind the first -, whether there is one. -/
def parseL (l : List T) (pre : T) (has : Bool) : Option Ver :=
  match l with
  | [x, y, z] => if (numB x && numB y && numB z) = true then
      (if has = true then (if (splitB 46 pre).length ≤ 5 ∧ (splitB 46 pre).all markB = true then some ⟨val x, val y, val z, splitB 46 pre⟩ else none)
      else some ⟨val x, val y, val z, []⟩) else none
  | _ => none
theorem parseL_ne {l : List T} {pre : T} {has : Bool} (h : l.length ≠ 3) : parseL l pre has = none := by
  match l, h with
  | [], _ => rfl
  | [_], _ => rfl
  | [_, _], _ => rfl
  | _ :: _ :: _ :: _ :: _, _ => rfl
  | [_, _, _], h => exact absurd rfl h
theorem len3 {l : List T} (h : l.length = 3) : ∃ x y z, l = [x, y, z] := by
  match l, h with
  | [x, y, z], _ => exact ⟨x, y, z, rfl⟩
def parseV (cut : T × T × Bool) : Option Ver := parseL (splitB 46 cut.1) cut.2.1 cut.2.2
/-- The version, the error's number. -/
def verR (o : Option Ver) : Ver × Int := match o with
  | none => (⟨0, 0, 0, []⟩, 60)
  | some v => (v, 0)

/-! The order. -/
def cmpI (a b : Int) : Int := if a < b then -1 else if b < a then 1 else 0
def cmpT (a b : T) : Int := if Op.bytesLess a b = true then -1 else if a = b then 0 else 1
def cmpM (a b : T) : Int :=
  if digB a = true ∧ digB b = true then (if cmpI a.length b.length ≠ 0 then cmpI a.length b.length else cmpT a b)
  else if digB a = true then -1 else if digB b = true then 1 else cmpT a b
def cmpL : List T → List T → Int
  | [], [] => 0
  | [], _ :: _ => -1
  | _ :: _, [] => 1
  | a :: x, b :: y => if cmpM a b ≠ 0 then cmpM a b else cmpL x y
def cmpP (x y : List T) : Int := if x = [] then (if y = [] then 0 else 1) else if y = [] then -1 else cmpL x y
def cmpV (x y : Ver) : Int :=
  if cmpI x.a y.a ≠ 0 then cmpI x.a y.a else if cmpI x.b y.b ≠ 0 then cmpI x.b y.b else if cmpI x.c y.c ≠ 0 then cmpI x.c y.c else cmpP x.pre y.pre

/-! The text. -/
/-- Texts with a byte between. -/
def glueC (c : UInt8) : List T → T
  | [] => []
  | [a] => a
  | a :: b :: r => a ++ c :: glueC c (b :: r)
theorem glueC_snoc (c : UInt8) : ∀ (l : List T) (x : T), glueC c (l ++ [x]) = if l = [] then x else glueC c l ++ [c] ++ x := by
  intro l
  induction l with
  | nil => intro x; rfl
  | cons a r ih =>
    intro x
    cases r with
    | nil => simp [glueC]
    | cons b r =>
      have := ih x
      simp only [List.cons_append, reduceCtorEq, if_false] at this ⊢
      rw [glueC, this, glueC]
      simp
theorem join_glueC (c : UInt8) : ∀ (l : List T), Go.Lib.join l [c] = glueC c l := by
  intro l
  unfold Go.Lib.join
  induction l with
  | nil => rfl
  | cons a r ih =>
    cases r with
    | nil => simp [glueC, List.intercalate]
    | cons b r =>
      rw [glueC, ← ih]
      simp [List.intercalate, List.intersperse]
theorem glueC_len (c : UInt8) (m : Nat) : ∀ (l : List T), (∀ s ∈ l, s.length ≤ m) → (glueC c l).length ≤ l.length * (m + 1)
  | [], _ => by simp [glueC]
  | [a], h => by have := h a (by simp); simp only [glueC, List.length_cons, List.length_nil]; omega
  | a :: b :: r, h => by
    have h1 := h a (by simp)
    have ih := glueC_len c m (b :: r) (fun s hs => h s (by simp only [List.mem_cons] at hs ⊢; exact .inr hs))
    simp only [glueC, List.length_append, List.length_cons] at ih ⊢
    have : (r.length + 1 + 1) * (m + 1) = (r.length + 1) * (m + 1) + (m + 1) := by rw [Nat.succ_mul]
    omega
def decI (n : Int) : T := Go.Lib.decDigits n.toNat
def textV (v : Ver) : T := decI v.a ++ [46] ++ decI v.b ++ [46] ++ decI v.c ++ (if v.pre = [] then [] else 45 :: glueC 46 v.pre)

/-! The next one. -/
def nextV (v : Ver) (part : Int) : Ver :=
  if part = 0 then (if v.a < 999999999 then ⟨v.a + 1, 0, 0, []⟩ else ⟨v.a, v.b, v.c, []⟩)
  else if part = 1 then (if v.b < 999999999 then ⟨v.a, v.b + 1, 0, []⟩ else ⟨v.a, v.b, v.c, []⟩)
  else if v.c < 999999999 then ⟨v.a, v.b, v.c + 1, []⟩ else ⟨v.a, v.b, v.c, []⟩
end Go.Proofs.Ytlbegmpikggmlaa.Ve

namespace Go.Proofs.Ytlbegmpikggmlaa.Ve
open Go.RowKit H S
attribute [local irreducible] H.CL H.RW H.CW H.Yd H.thenK H.blockQ Go.Calls

theorem dig_hi {c : UInt8} (h : ¬ ((c.toNat : Int) < 48)) (h2 : ¬ ((57 : Int) < c.toNat)) : isDig c = true := by
  simp only [isDig, Bool.and_eq_true, decide_eq_true_eq]; omega
theorem dig_lo {c : UInt8} (h : (c.toNat : Int) < 48) : isDig c = false := by
  simp only [isDig, Bool.and_eq_false_iff, decide_eq_false_iff_not]; omega
theorem dig_lo2 {c : UInt8} (h : (57 : Int) < c.toNat) : isDig c = false := by
  simp only [isDig, Bool.and_eq_false_iff, decide_eq_false_iff_not]; omega
theorem dig_all {l : T} (h : l.all isDig = true) : decide (l ≠ []) = digB l := by simp [digB, h]
theorem dig_none {l : T} (h : l.all isDig = false) : digB l = false := by simp [digB, h]

theorem retb {a b : Bool} (h : a = true ↔ b = true) : Ending.returned (.bool a) = .returned (.bool b) := by rw [Bool.eq_iff_iff.2 h]

theorem digits (l : T) (hl : l.length ≤ 1000000000000) (w : World) : Calls Try.prog 72 #[vs l] w fun e w' => w = w' ∧ e = .returned (.bool (digB l)) := by
  refine H.enter Try.func72 Try.ntmps72 rfl rfl ?_; dsimp only [H.args]
  repeat' (first | (refine CL.seq ?_) | (refine CL.region ?_) | (refine CL.skip ?_) | (refine CL.condP rfl (fun _ => ?_) (fun _ => ?_) <;> try (exfalso; omega)) | (refine CL.condT rfl ?_) | (refine CL.condF rfl ?_) | (refine CL.cond rfl (fun _ => ?_) (fun _ => ?_)) | (refine CL.block ?_) | (refine CL.exit ?_) | (refine Ex.then ?_) | (refine Ex.hit ?_) | (refine Ex.miss rfl ?_) | (refine CL.ret ?_) | (refine Rt.then ?_) | (refine Rt.block ?_) | (refine Pn.then ?_) | (refine Pn.block ?_) | (refine CL.done ?_) | (refine Nm.block ?_) | (refine Nm.then ?_) | (refine Gt.nil ?_; refine RW.nilw [0, 2, 3, 5, 6, 7, 18] ?_; dsimp only [H.keep, H.look, H.Fr.put, Nat.beq]) | (refine Gt.move ?_; refine RW.y (Y.move rfl) rfl ?_) | (refine Gt.guard ?_; first | (refine RW.part rfl rfl rfl (fun _ => ?_) (fun _ => ?_) <;> try (exfalso; omega)) | (refine RW.on rfl rfl rfl ?_) | (refine RW.off1 rfl rfl rfl rfl rfl ?_) | (refine RW.off rfl rfl rfl rfl rfl ?_) | (refine RW.offu rfl rfl rfl rfl ?_) | (refine RW.partb rfl rfl rfl (fun _ => ?_) (fun _ => ?_))) | (refine Gt.assign ?_; refine RW.y (Y.assign rfl) rfl ?_) | (refine Gt.lss ?_; refine RW.y (Y.lss rfl rfl) rfl ?_) | (refine Gt.index ?_; refine RW.y (Y.idxs rfl rfl (by omega) (by omega)) rfl ?_) | (refine Gt.len ?_; refine RW.y (Y.lens rfl) rfl ?_) | (refine Gt.gtr ?_; refine RW.y (Y.gtr rfl rfl) rfl ?_) | (refine Gt.pick ?_; first | (refine RW.y (Y.pickT rfl rfl) rfl ?_) | (refine RW.y (Y.pickF rfl rfl) rfl ?_)) | (refine Gt.add ?_; refine RW.y (Y.add64 rfl rfl (by omega) (by omega)) rfl ?_) | (refine Gt.neq ?_; refine RW.y (Y.nes rfl rfl) rfl ?_))
  refine CL.loopS [0, 2, 5, 6] (fun k vals wr => ∃ (i : Nat) (b : Bool), vals = [vs l, .bool b, .int .i64 (l.length : Int), .int .i64 (i : Int)] ∧ k = l.length - i ∧ i ≤ l.length ∧ (l.take i).all isDig = true ∧ wr = w) l.length ⟨_, rfl, 0, false, rfl, rfl, Nat.zero_le _, rfl, rfl⟩ ?_
  rintro k vals wr ⟨i, b, rfl, rfl, hi, hall, rfl⟩
  dsimp only [List.zip, List.zipWith]
  rcases Nat.lt_or_ge i l.length with hlt | hge
  · repeat' (first | (refine CL.seq ?_) | (refine CL.region ?_) | (refine CL.skip ?_) | (refine CL.condP rfl (fun _ => ?_) (fun _ => ?_) <;> try (exfalso; omega)) | (refine CL.condT rfl ?_) | (refine CL.condF rfl ?_) | (refine CL.cond rfl (fun _ => ?_) (fun _ => ?_)) | (refine CL.block ?_) | (refine CL.exit ?_) | (refine Ex.then ?_) | (refine Ex.hit ?_) | (refine Ex.miss rfl ?_) | (refine CL.ret ?_) | (refine Rt.then ?_) | (refine Rt.block ?_) | (refine Pn.then ?_) | (refine Pn.block ?_) | (refine CL.done ?_) | (refine Nm.block ?_) | (refine Nm.then ?_) | (refine Gt.nil ?_; refine RW.nilw [0, 2, 3, 5, 6, 7, 18] ?_; dsimp only [H.keep, H.look, H.Fr.put, Nat.beq]) | (refine Gt.move ?_; refine RW.y (Y.move rfl) rfl ?_) | (refine Gt.guard ?_; first | (refine RW.part rfl rfl rfl (fun _ => ?_) (fun _ => ?_) <;> try (exfalso; omega)) | (refine RW.on rfl rfl rfl ?_) | (refine RW.off1 rfl rfl rfl rfl rfl ?_) | (refine RW.off rfl rfl rfl rfl rfl ?_) | (refine RW.offu rfl rfl rfl rfl ?_) | (refine RW.partb rfl rfl rfl (fun _ => ?_) (fun _ => ?_))) | (refine Gt.assign ?_; refine RW.y (Y.assign rfl) rfl ?_) | (refine Gt.lss ?_; refine RW.y (Y.lss rfl rfl) rfl ?_) | (refine Gt.index ?_; refine RW.y (Y.idxs rfl rfl (by omega) (by omega)) rfl ?_) | (refine Gt.len ?_; refine RW.y (Y.lens rfl) rfl ?_) | (refine Gt.gtr ?_; refine RW.y (Y.gtr rfl rfl) rfl ?_) | (refine Gt.pick ?_; first | (refine RW.y (Y.pickT rfl rfl) rfl ?_) | (refine RW.y (Y.pickF rfl rfl) rfl ?_)) | (refine Gt.add ?_; refine RW.y (Y.add64 rfl rfl (by omega) (by omega)) rfl ?_) | (refine Gt.neq ?_; refine RW.y (Y.nes rfl rfl) rfl ?_))
    · rename_i h
      exact FQ.one rfl rfl rfl ⟨rfl, by rw [dig_none (all_false 0 hlt (dig_lo h))]⟩
    · rename_i h1 h2
      exact FQ.one rfl rfl rfl ⟨rfl, by rw [dig_none (all_false 0 hlt (dig_lo2 h2))]⟩
    · rename_i h1 h2
      exact ⟨l.length - (i + 1), _, rfl, rfl, rfl, by omega, i + 1, b, rfl, rfl, by omega, all_step 0 hlt hall (dig_hi h1 h2), rfl⟩
  · have hi : i = l.length := by omega
    subst hi
    rw [List.take_length] at hall
    repeat' (first | (refine CL.seq ?_) | (refine CL.region ?_) | (refine CL.skip ?_) | (refine CL.condP rfl (fun _ => ?_) (fun _ => ?_) <;> try (exfalso; omega)) | (refine CL.condT rfl ?_) | (refine CL.condF rfl ?_) | (refine CL.cond rfl (fun _ => ?_) (fun _ => ?_)) | (refine CL.block ?_) | (refine CL.exit ?_) | (refine Ex.then ?_) | (refine Ex.hit ?_) | (refine Ex.miss rfl ?_) | (refine CL.ret ?_) | (refine Rt.then ?_) | (refine Rt.block ?_) | (refine Pn.then ?_) | (refine Pn.block ?_) | (refine CL.done ?_) | (refine Nm.block ?_) | (refine Nm.then ?_) | (refine Gt.nil ?_; refine RW.nilw [0, 2, 3, 5, 6, 7, 18] ?_; dsimp only [H.keep, H.look, H.Fr.put, Nat.beq]) | (refine Gt.move ?_; refine RW.y (Y.move rfl) rfl ?_) | (refine Gt.guard ?_; first | (refine RW.part rfl rfl rfl (fun _ => ?_) (fun _ => ?_) <;> try (exfalso; omega)) | (refine RW.on rfl rfl rfl ?_) | (refine RW.off1 rfl rfl rfl rfl rfl ?_) | (refine RW.off rfl rfl rfl rfl rfl ?_) | (refine RW.offu rfl rfl rfl rfl ?_) | (refine RW.partb rfl rfl rfl (fun _ => ?_) (fun _ => ?_))) | (refine Gt.assign ?_; refine RW.y (Y.assign rfl) rfl ?_) | (refine Gt.lss ?_; refine RW.y (Y.lss rfl rfl) rfl ?_) | (refine Gt.index ?_; refine RW.y (Y.idxs rfl rfl (by omega) (by omega)) rfl ?_) | (refine Gt.len ?_; refine RW.y (Y.lens rfl) rfl ?_) | (refine Gt.gtr ?_; refine RW.y (Y.gtr rfl rfl) rfl ?_) | (refine Gt.pick ?_; first | (refine RW.y (Y.pickT rfl rfl) rfl ?_) | (refine RW.y (Y.pickF rfl rfl) rfl ?_)) | (refine Gt.add ?_; refine RW.y (Y.add64 rfl rfl (by omega) (by omega)) rfl ?_) | (refine Gt.neq ?_; refine RW.y (Y.nes rfl rfl) rfl ?_))
    exact FQ.one rfl rfl rfl ⟨rfl, by rw [dig_all hall]⟩

theorem decFrom_val : ∀ (l : T) (acc : Nat), l.all isDig = true → Go.Lib.decFrom acc l = some (l.foldl (fun n c => 10 * n + (c.toNat - 48)) acc) := by
  intro l
  induction l with
  | nil => intro acc _; rfl
  | cons c r ih =>
    intro acc h
    simp only [List.all_cons, Bool.and_eq_true] at h
    have hc := h.1
    simp only [isDig, Bool.and_eq_true, decide_eq_true_eq] at hc
    rw [Go.Lib.decFrom, Go.Lib.digitVal, if_pos hc]
    simp only [List.foldl_cons]
    rw [ih _ h.2, Nat.mul_comm]
theorem decNat_val (l : T) (h : digB l = true) : Go.Lib.atoi l = some (val l : Int) := by
  simp only [digB, Bool.and_eq_true, decide_eq_true_eq] at h
  obtain ⟨h0, ha⟩ := h
  cases l with
  | nil => exact absurd rfl h0
  | cons c r =>
    have hc := ha
    simp only [List.all_cons, Bool.and_eq_true, isDig, decide_eq_true_eq] at hc
    have n1 : (c == 45) = false := by rw [beq_eq_false_iff_ne]; rintro rfl; exact absurd hc.1.1 (by decide)
    have n2 : (c == 43) = false := by rw [beq_eq_false_iff_ne]; rintro rfl; exact absurd hc.1.1 (by decide)
    rw [Go.Lib.atoi, n1, n2]
    simp only [Bool.false_eq_true, if_false, Go.Lib.decNat, List.isEmpty_cons]
    rw [decFrom_val _ _ ha]
    rfl

theorem isSign_iff (c : UInt8) : isSign c = true ↔ (48 ≤ (c.toNat : Int) ∧ (c.toNat : Int) ≤ 57) ∨ (97 ≤ (c.toNat : Int) ∧ (c.toNat : Int) ≤ 122) ∨ (65 ≤ (c.toNat : Int) ∧ (c.toNat : Int) ≤ 90) ∨ (c.toNat : Int) = 45 := by
  simp only [isSign, isDig, Bool.or_eq_true, Bool.and_eq_true, decide_eq_true_eq]
  omega

theorem mark_iff (l : T) : markB l = true ↔ (l ≠ [] ∧ l.length ≤ 16 ∧ (digB l = true → plainB l = true)) ∧ l.all isSign = true := by
  simp only [markB, Bool.and_eq_true, Bool.or_eq_true, decide_eq_true_eq, Bool.not_eq_true']
  cases digB l <;> simp [and_assoc]

end Go.Proofs.Ytlbegmpikggmlaa.Ve

namespace Go.Proofs.Ytlbegmpikggmlaa.Ve
open Go.RowKit H S
attribute [local irreducible] H.CL H.RW H.CW H.Yd H.thenK H.blockQ Go.Calls
theorem one_vs (l : List UInt8) : ∀ y ∈ (vs l).cells.toList, y.oneCell' = true := by
  intro y hy
  simp only [Value.cells] at hy
  simp at hy
  subst hy
  rfl

set_option maxHeartbeats 400000 in
theorem refSplit (l : List UInt8) (c : UInt8) (hl : l.length ≤ 1000000000) (w : World) : Calls Try.prog 33 #[vs l, vb c] w fun e w' => ∃ v', e = .returned v' ∧ w'.ownsRow w.heap.size strT 1 v' (splitB c l).length (sv (splitB c l)) ∧ K0 w w' := by
  refine H.enter Try.func33 Try.ntmps33 rfl rfl ?_; dsimp only [H.args]
  repeat' (first | (refine CL.seq ?_) | (refine CL.region ?_) | (refine CL.block ?_) | (refine Gt.nil ?_; refine RW.nilw [0, 1, 4, 5, 6, 7, 11, 24] ?_; dsimp only [H.keep, H.look, H.Fr.put, Nat.beq]) | (refine Gt.assign ?_; refine RW.y (Y.assign rfl) rfl ?_))
  refine CL.loopS [0, 1, 5, 6, 7] (fun m vals wr => ∃ (i j : Nat) (u : Value) (done : List (List UInt8)), vals = [vs l, vb c, u, .int .i64 (j : Int), .int .i64 (i : Int)] ∧ m = l.length + 1 - i ∧ i ≤ l.length + 1 ∧ j ≤ i ∧ done.length ≤ i ∧ wr.ownsRow w.heap.size strT 1 u done.length (sv done) ∧ K0 w wr ∧
      (if i ≤ l.length then splitB c l = done ++ (((l.take i).drop j ++ (splitB c (l.drop i)).headD []) :: (splitB c (l.drop i)).tail) else splitB c l = done)) (l.length + 1) ⟨_, rfl, 0, 0, _, [], rfl, rfl, Nat.zero_le _, Nat.le_refl _, Nat.le_refl _, World.ownsRow_nil _ _ _ _, Kept.refl _ _, ?_⟩ ?_
  · rw [if_pos (Nat.zero_le _)]
    have := splitB_ne c l
    cases h : splitB c l with
    | nil => exact absurd h this
    | cons a r => simp [h]
  rintro m vals wr ⟨i, j, u, done, rfl, rfl, hil, hji, hdl, how, hk, hsp⟩
  dsimp only [List.zip, List.zipWith]
  have hsz := hk.size
  rcases Nat.lt_or_ge l.length i with hgt | hle
  · rw [if_neg (by omega)] at hsp
    have hd : done = splitB c l := hsp.symm
    subst hd
    repeat' (first | (refine CL.seq ?_) | (refine CL.region ?_) | (refine CL.condP rfl (fun _ => ?_) (fun _ => ?_) <;> try (exfalso; omega)) | (refine CL.exit ?_) | (refine Ex.then ?_) | (refine Ex.hit ?_) | (refine CL.ret ?_) | (refine Gt.nil ?_; refine RW.nilw [0, 1, 4, 5, 6, 7, 11, 24] ?_; dsimp only [H.keep, H.look, H.Fr.put, Nat.beq]) | (refine Gt.move ?_; refine RW.y (Y.move rfl) rfl ?_) | (refine Gt.assign ?_; refine RW.y (Y.assign rfl) rfl ?_) | (refine Gt.len ?_; refine RW.y (Y.lens rfl) rfl ?_) | (refine Gt.leq ?_; refine RW.y (Y.leq rfl rfl) rfl ?_))
    exact FQ.one rfl rfl rfl ⟨_, rfl, how, hk⟩
  rw [if_pos hle] at hsp
  rcases Nat.lt_or_ge i l.length with hlt | hge
  · have hdrop : l.drop i = l.getD i 0 :: l.drop (i + 1) := by rw [List.drop_eq_getElem_cons hlt]; simp [List.getD_eq_getElem?_getD, hlt]
    have htk : (l.take (i + 1)).drop j = (l.take i).drop j ++ [l.getD i 0] := by
      rw [List.take_succ_eq_append_getElem hlt, List.drop_append_of_le_length (by rw [List.length_take]; omega)]
      simp [List.getD_eq_getElem?_getD, hlt]
    have hlast : splitB c (l.drop (i + 1)) = (splitB c (l.drop (i + 1))).headD [] :: (splitB c (l.drop (i + 1))).tail := by
      have := splitB_ne c (l.drop (i + 1))
      cases h : splitB c (l.drop (i + 1)) with
      | nil => exact absurd h this
      | cons a r => rfl
    rw [hdrop, splitB] at hsp
    repeat' (first | (refine CL.seq ?_) | (refine CL.region ?_) | (refine CL.skip ?_) | (refine CL.condP rfl (fun _ => ?_) (fun _ => ?_) <;> try (exfalso; omega)) | (refine CL.block ?_) | (refine CL.done ?_) | (refine Nm.block ?_) | (refine Nm.then ?_) | (refine Gt.nil ?_; refine RW.nilw [0, 1, 4, 5, 6, 7, 11, 24] ?_; dsimp only [H.keep, H.look, H.Fr.put, Nat.beq]) | (refine Gt.move ?_; refine RW.y (Y.move rfl) rfl ?_) | (refine Gt.guard ?_; first | (refine RW.part rfl rfl rfl (fun _ => ?_) (fun _ => ?_) <;> try (exfalso; omega)) | (refine RW.on rfl rfl rfl ?_)) | (refine Gt.assign ?_; refine RW.y (Y.assign rfl) rfl ?_) | (refine Gt.len ?_; refine RW.y (Y.lens rfl) rfl ?_) | (refine Gt.eql ?_; refine RW.y (Y.eqi rfl rfl) rfl ?_) | (refine Gt.add ?_; refine RW.y (Y.add64 rfl rfl (by omega) (by omega)) rfl ?_) | (refine Gt.leq ?_; refine RW.y (Y.leq rfl rfl) rfl ?_) | (refine Gt.index ?_; refine RW.y (Y.idxs rfl rfl (by omega) (by omega)) rfl ?_) | (refine Gt.pick ?_; (refine RW.y (Y.pickF rfl rfl) rfl ?_)) | (refine Gt.slice ?_; refine RW.y (Y.cutlh rfl rfl rfl (by omega) (by omega) (by omega)) rfl ?_))
    · rename_i h
      rw [Int.toNat_natCast] at h
      have hx : l.getD i 0 = c := u8_eq h
      rw [if_pos hx] at hsp
      have hcut : (l.take ((i : Int)).toNat).drop ((j : Int)).toNat = (l.take i).drop j := by rw [Int.toNat_natCast, Int.toNat_natCast]
      rw [hcut]
      refine RW.app1 rfl rfl rfl rfl how rfl rfl rfl rfl (one_vs _) (by omega) (by omega) (by omega) (fun u' w1 how' hk' hl' => ?_)
      repeat' (first | (refine CL.region ?_) | (refine CL.done ?_) | (refine Nm.block ?_) | (refine Nm.then ?_) | (refine Gt.nil ?_; refine RW.nilw [0, 1, 4, 5, 6, 7, 11, 24] ?_; dsimp only [H.keep, H.look, H.Fr.put, Nat.beq]) | (refine Gt.move ?_; refine RW.y (Y.move rfl) rfl ?_) | (refine Gt.assign ?_; refine RW.y (Y.assign rfl) rfl ?_) | (refine Gt.add ?_; refine RW.y (Y.add64 rfl rfl (by omega) (by omega)) rfl ?_))
      refine ⟨l.length + 1 - (i + 1), _, rfl, rfl, rfl, by omega, i + 1, i + 1, u', done ++ [(l.take i).drop j], by simp, rfl, by omega, by omega, by simp; omega, by simpa [Value.cells] using how', hk.trans hk' fun k h => .inr (how.lt k h).1, ?_⟩
      rw [if_pos (by omega)]
      have : (l.take (i + 1)).drop (i + 1) = [] := by rw [List.drop_eq_nil_iff, List.length_take]; omega
      rw [this, List.nil_append, ← hlast, hsp]
      simp
    · rename_i h
      rw [Int.toNat_natCast] at h
      have hx : ¬ l.getD i 0 = c := fun q => h (by rw [q])
      rw [if_neg hx] at hsp
      refine ⟨l.length + 1 - (i + 1), _, rfl, rfl, rfl, by omega, i + 1, j, u, done, by simp, rfl, by omega, by omega, by omega, how, hk, ?_⟩
      rw [if_pos (by omega), htk, hsp]
      simp
  · have hi : i = l.length := by omega
    subst hi
    rw [List.drop_length] at hsp
    have hcut : (l.take ((l.length : Int)).toNat).drop ((j : Int)).toNat = (l.take l.length).drop j := by rw [Int.toNat_natCast, Int.toNat_natCast]
    repeat' (first | (refine CL.seq ?_) | (refine CL.region ?_) | (refine CL.skip ?_) | (refine CL.condP rfl (fun _ => ?_) (fun _ => ?_) <;> try (exfalso; omega)) | (refine CL.condT rfl ?_) | (refine CL.block ?_) | (refine Gt.nil ?_; refine RW.nilw [0, 1, 4, 5, 6, 7, 11, 24] ?_; dsimp only [H.keep, H.look, H.Fr.put, Nat.beq]) | (refine Gt.move ?_; refine RW.y (Y.move rfl) rfl ?_) | (refine Gt.guard ?_; first | (refine RW.part rfl rfl rfl (fun _ => ?_) (fun _ => ?_) <;> try (exfalso; omega)) | (refine RW.off1 rfl rfl rfl rfl rfl ?_)) | (refine Gt.len ?_; refine RW.y (Y.lens rfl) rfl ?_) | (refine Gt.eql ?_; refine RW.y (Y.eqi rfl rfl) rfl ?_) | (refine Gt.leq ?_; refine RW.y (Y.leq rfl rfl) rfl ?_) | (refine Gt.pick ?_; (refine RW.y (Y.pickT rfl rfl) rfl ?_)) | (refine Gt.slice ?_; refine RW.y (Y.cutlh rfl rfl rfl (by omega) (by omega) (by omega)) rfl ?_))
    rw [hcut]
    refine RW.app1 rfl rfl rfl rfl how rfl rfl rfl rfl (one_vs _) (by omega) (by omega) (by omega) (fun u' w1 how' hk' hl' => ?_)
    repeat' (first | (refine CL.region ?_) | (refine CL.done ?_) | (refine Nm.block ?_) | (refine Nm.then ?_) | (refine Gt.nil ?_; refine RW.nilw [0, 1, 4, 5, 6, 7, 11, 24] ?_; dsimp only [H.keep, H.look, H.Fr.put, Nat.beq]) | (refine Gt.move ?_; refine RW.y (Y.move rfl) rfl ?_) | (refine Gt.assign ?_; refine RW.y (Y.assign rfl) rfl ?_) | (refine Gt.add ?_; refine RW.y (Y.add64 rfl rfl (by omega) (by omega)) rfl ?_))
    refine ⟨l.length + 1 - (l.length + 1), _, rfl, rfl, rfl, by omega, l.length + 1, l.length + 1, u', done ++ [(l.take l.length).drop j], by simp, rfl, by omega, by omega, by simp; omega, by simpa [Value.cells] using how', hk.trans hk' fun k h => .inr (how.lt k h).1, ?_⟩
    rw [if_neg (by omega), hsp]
    simp [splitB]


theorem refDigits (l : T) (hl : l.length ≤ 1000000000000) (w : World) : Calls Try.prog 53 #[vs l] w fun e w' => w = w' ∧ e = .returned (.bool (digB l)) := by
  refine H.enter Try.func53 Try.ntmps53 rfl rfl ?_; dsimp only [H.args]
  repeat' (first | (refine CL.seq ?_) | (refine CL.region ?_) | (refine CL.block ?_) | (refine Gt.nil ?_; refine RW.nilw [0, 2, 3, 7, 19] ?_; dsimp only [H.keep, H.look, H.Fr.put, Nat.beq]) | (refine Gt.assign ?_; refine RW.y (Y.assign rfl) rfl ?_))
  refine CL.loopS [0, 2, 3] (fun k vals wr => ∃ (i : Nat) (b : Bool), vals = [vs l, .bool b, .int .i64 (i : Int)] ∧ k = l.length - i ∧ i ≤ l.length ∧ (l.take i).all isDig = true ∧ wr = w) l.length ⟨_, rfl, 0, false, rfl, rfl, Nat.zero_le _, rfl, rfl⟩ ?_
  rintro k vals wr ⟨i, b, rfl, rfl, hi, hall, rfl⟩
  dsimp only [List.zip, List.zipWith]
  rcases Nat.lt_or_ge i l.length with hlt | hge
  · repeat' (first | (refine CL.seq ?_) | (refine CL.region ?_) | (refine CL.skip ?_) | (refine CL.condP rfl (fun _ => ?_) (fun _ => ?_) <;> try (exfalso; omega)) | (refine CL.condT rfl ?_) | (refine CL.block ?_) | (refine CL.ret ?_) | (refine Rt.then ?_) | (refine Rt.block ?_) | (refine CL.done ?_) | (refine Nm.block ?_) | (refine Nm.then ?_) | (refine Gt.nil ?_; refine RW.nilw [0, 2, 3, 7, 19] ?_; dsimp only [H.keep, H.look, H.Fr.put, Nat.beq]) | (refine Gt.move ?_; refine RW.y (Y.move rfl) rfl ?_) | (refine Gt.guard ?_; first | (refine RW.part rfl rfl rfl (fun _ => ?_) (fun _ => ?_) <;> try (exfalso; omega)) | (refine RW.on rfl rfl rfl ?_) | (refine RW.off1 rfl rfl rfl rfl rfl ?_)) | (refine Gt.assign ?_; refine RW.y (Y.assign rfl) rfl ?_) | (refine Gt.lss ?_; refine RW.y (Y.lss rfl rfl) rfl ?_) | (refine Gt.index ?_; refine RW.y (Y.idxs rfl rfl (by omega) (by omega)) rfl ?_) | (refine Gt.len ?_; refine RW.y (Y.lens rfl) rfl ?_) | (refine Gt.gtr ?_; refine RW.y (Y.gtr rfl rfl) rfl ?_) | (refine Gt.pick ?_; first | (refine RW.y (Y.pickT rfl rfl) rfl ?_) | (refine RW.y (Y.pickF rfl rfl) rfl ?_)) | (refine Gt.add ?_; refine RW.y (Y.add64 rfl rfl (by omega) (by omega)) rfl ?_))
    · rename_i h
      exact FQ.one rfl rfl rfl ⟨rfl, by rw [dig_none (all_false 0 hlt (dig_lo h))]⟩
    · rename_i h1 h2
      exact FQ.one rfl rfl rfl ⟨rfl, by rw [dig_none (all_false 0 hlt (dig_lo2 h2))]⟩
    · rename_i h1 h2
      exact ⟨l.length - (i + 1), _, rfl, rfl, rfl, by omega, i + 1, b, rfl, rfl, by omega, all_step 0 hlt hall (dig_hi h1 h2), rfl⟩
  · have hi : i = l.length := by omega
    subst hi
    rw [List.take_length] at hall
    repeat' (first | (refine CL.seq ?_) | (refine CL.region ?_) | (refine CL.condP rfl (fun _ => ?_) (fun _ => ?_) <;> try (exfalso; omega)) | (refine CL.exit ?_) | (refine Ex.then ?_) | (refine Ex.hit ?_) | (refine CL.ret ?_) | (refine Gt.nil ?_; refine RW.nilw [0, 2, 3, 7, 19] ?_; dsimp only [H.keep, H.look, H.Fr.put, Nat.beq]) | (refine Gt.move ?_; refine RW.y (Y.move rfl) rfl ?_) | (refine Gt.assign ?_; refine RW.y (Y.assign rfl) rfl ?_) | (refine Gt.lss ?_; refine RW.y (Y.lss rfl rfl) rfl ?_) | (refine Gt.len ?_; refine RW.y (Y.lens rfl) rfl ?_) | (refine Gt.neq ?_; refine RW.y (Y.nes rfl rfl) rfl ?_))
    exact FQ.one rfl rfl rfl ⟨rfl, by rw [dig_all hall]⟩

theorem numB_of (l : T) (h : numB l = true) : digB l = true ∧ l.length ≤ 9 ∧ plainB l = true := by
  simp only [numB, Bool.and_eq_true, decide_eq_true_eq] at h
  exact ⟨h.1.1, h.1.2, h.2⟩

set_option maxHeartbeats 400000 in
theorem refNumber (l : T) (hl : l.length ≤ 1000000000000) (w : World) : Calls Try.prog 35 #[vs l, .int .i64 999999999] w fun e w' => w = w' ∧ ∃ n : Int, e = .returned (.tuple #[.int .i64 n, .bool (numB l)]) ∧ (numB l = true → n = val l) := by
  refine H.enter Try.func35 Try.ntmps35 rfl rfl ?_; dsimp only [H.args]
  repeat' (first | (refine CL.seq ?_) | (refine CL.region ?_) | (refine Gt.nil ?_; refine RW.nilw [0, 1, 4, 5, 6, 7, 25, 29] ?_; dsimp only [H.keep, H.look, H.Fr.put, Nat.beq]) | (refine Gt.move ?_; refine RW.y (Y.move rfl) rfl ?_) | (refine Gt.assign ?_; refine RW.y (Y.assign rfl) rfl ?_))
  refine RW.fn rfl rfl ((refDigits l hl w).mono ?_)
  rintro e w' ⟨rfl, rfl⟩
  have hr := num_ref l
  cases hd : digB l
  · have hn : numB l = false := by simp [numB, hd]
    rw [hn]
    repeat' (first | (refine CL.seq ?_) | (refine CL.region ?_) | (refine CL.condT rfl ?_) | (refine CL.ret ?_) | (refine Gt.nil ?_; refine RW.nilw [0, 1, 4, 5, 6, 7, 25, 29] ?_; dsimp only [H.keep, H.look, H.Fr.put, Nat.beq]) | (refine Gt.move ?_; refine RW.y (Y.move rfl) rfl ?_) | (refine Gt.guard ?_; first | (refine RW.off1 rfl rfl rfl rfl rfl ?_) | (refine RW.offu rfl rfl rfl rfl ?_)) | (refine Gt.assign ?_; refine RW.y (Y.assign rfl) rfl ?_) | (refine Gt.pick ?_; (refine RW.y (Y.pickT rfl rfl) rfl ?_)) | (refine Gt.not ?_; (refine RW.y (Y.notb rfl) rfl ?_)))
    exact FQ.res (rs := [.tmp 4, .tmp 5]) (vs := [_, _]) rfl rfl ⟨rfl, rfl, trivial⟩ rfl (⟨rfl, _, rfl, fun c => by cases c⟩)
  · rw [hd] at hr
    have hd' := hd
    simp only [digB, Bool.and_eq_true, decide_eq_true_eq] at hd'
    have hpos := List.length_pos_iff.2 hd'.1
    repeat' (first | (refine CL.seq ?_) | (refine CL.region ?_) | (refine CL.skip ?_) | (refine CL.condP rfl (fun _ => ?_) (fun _ => ?_) <;> try (exfalso; omega)) | (refine CL.condT rfl ?_) | (refine CL.block ?_) | (refine CL.ret ?_) | (refine Gt.nil ?_; refine RW.nilw [0, 1, 4, 5, 6, 7, 25, 29] ?_; dsimp only [H.keep, H.look, H.Fr.put, Nat.beq]) | (refine Gt.move ?_; refine RW.y (Y.move rfl) rfl ?_) | (refine Gt.guard ?_; first | (refine RW.part rfl rfl rfl (fun _ => ?_) (fun _ => ?_) <;> try (exfalso; omega)) | (refine RW.on rfl rfl rfl ?_) | (refine RW.off1 rfl rfl rfl rfl rfl ?_)) | (refine Gt.assign ?_; refine RW.y (Y.assign rfl) rfl ?_) | (refine Gt.len ?_; refine RW.y (Y.lens rfl) rfl ?_) | (refine Gt.pick ?_; first | (refine RW.y (Y.pickT rfl rfl) rfl ?_) | (refine RW.y (Y.pickF rfl rfl) rfl ?_)) | (refine Gt.gtr ?_; refine RW.y (Y.gtr rfl rfl) rfl ?_) | (refine Gt.index ?_; refine RW.y (Y.idxs rfl rfl (by omega) (by omega)) rfl ?_) | (refine Gt.not ?_; (refine RW.y (Y.notb rfl) rfl ?_)) | (refine Gt.eql ?_; refine RW.y (Y.eqi rfl rfl) rfl ?_))
    · rename_i h1 h2
      have hn : numB l = false := by rw [Bool.eq_false_iff, Ne, ← hr]; exact fun c => c.2.1 ⟨by omega, u8_eq (by simpa using h2)⟩
      rw [hn]
      exact FQ.res (rs := [.tmp 4, .tmp 5]) (vs := [_, _]) rfl rfl ⟨rfl, rfl, trivial⟩ rfl (⟨rfl, _, rfl, fun c => by cases c⟩)
    · have hn : numB l = false := by rw [Bool.eq_false_iff, Ne, ← hr]; exact fun c => by have := c.2.2.1; omega
      rw [hn]
      exact FQ.res (rs := [.tmp 4, .tmp 5]) (vs := [_, _]) rfl rfl ⟨rfl, rfl, trivial⟩ rfl (⟨rfl, _, rfl, fun c => by cases c⟩)
    · rename_i h1 h2 h3
      have hno : ¬ (1 < l.length ∧ l.getD 0 0 = 48) := fun c => h2 (by rw [show Int.toNat 0 = 0 from rfl, c.2]; rfl)
      refine CL.loopS [0, 1, 6, 7] (fun k vals wr => ∃ (i : Nat), vals = [vs l, .int .i64 999999999, .int .i64 (val (l.take i) : Int), .int .i64 (i : Int)] ∧ k = l.length - i ∧ i ≤ l.length ∧ wr = w) l.length ⟨_, rfl, 0, rfl, rfl, Nat.zero_le _, rfl⟩ ?_
      rintro k vals wr ⟨i, rfl, rfl, hi, rfl⟩
      dsimp only [List.zip, List.zipWith]
      rcases Nat.lt_or_ge i l.length with hlt | hge
      · have hv := val_lt (l.take i).length (l.take i) rfl (List.all_eq_true.2 fun x hx => List.all_eq_true.1 hd'.2 x (List.mem_of_mem_take hx))
        have hv2 : 10 ^ (l.take i).length ≤ 10 ^ 9 := Nat.pow_le_pow_right (by decide) (by rw [List.length_take]; omega)
        have e9 : (10 : Nat) ^ 9 = 1000000000 := by decide
        have hdg := List.all_eq_true.1 hd'.2 _ (getD_mem 0 hlt)
        simp only [isDig, Bool.and_eq_true, decide_eq_true_eq] at hdg
        have hi2 : ((i : Int)).toNat = i := Int.toNat_natCast i
        rw [← hi2] at hdg
        repeat' (first | (refine CL.seq ?_) | (refine CL.region ?_) | (refine CL.skip ?_) | (refine CL.condP rfl (fun _ => ?_) (fun _ => ?_) <;> try (exfalso; omega)) | (refine CL.block ?_) | (refine CL.done ?_) | (refine Nm.block ?_) | (refine Nm.then ?_) | (refine Gt.nil ?_; refine RW.nilw [0, 1, 4, 5, 6, 7, 25, 29] ?_; dsimp only [H.keep, H.look, H.Fr.put, Nat.beq]) | (refine Gt.move ?_; refine RW.y (Y.move rfl) rfl ?_) | (refine Gt.assign ?_; refine RW.y (Y.assign rfl) rfl ?_) | (refine Gt.len ?_; refine RW.y (Y.lens rfl) rfl ?_) | (refine Gt.index ?_; refine RW.y (Y.idxs rfl rfl (by omega) (by omega)) rfl ?_) | (refine Gt.add ?_; refine RW.y (Y.add64 rfl rfl (by omega) (by omega)) rfl ?_) | (refine Gt.lss ?_; refine RW.y (Y.lss rfl rfl) rfl ?_) | (refine Gt.mul ?_; (refine RW.y (Y.mul64 rfl rfl (by omega) (by omega)) rfl ?_)) | (refine Gt.sub ?_; refine RW.y (Y.subN rfl rfl (by exact wrapu8_id (by omega) (by omega))) rfl ?_) | (refine Gt.convert ?_; (refine RW.y (Y.convN rfl (by exact wrap64_id (by omega) (by omega))) rfl ?_)))
        refine ⟨l.length - (i + 1), _, rfl, rfl, rfl, by omega, i + 1, ?_, rfl, by omega, rfl⟩
        rw [take_snoc 0 l i hlt, val_snoc, hi2]
        rw [hi2] at hdg
        rw [show ((10 * val (l.take i) + ((l.getD i 0).toNat - 48) : Nat) : Int) = 10 * (val (l.take i) : Int) + (((l.getD i 0).toNat : Int) - 48) from by omega]
        rfl
      · have hi : i = l.length := by omega
        subst hi
        rw [List.take_length]
        repeat' (first | (refine CL.seq ?_) | (refine CL.region ?_) | (refine CL.condP rfl (fun _ => ?_) (fun _ => ?_) <;> try (exfalso; omega)) | (refine CL.exit ?_) | (refine Ex.then ?_) | (refine Ex.hit ?_) | (refine CL.ret ?_) | (refine Gt.nil ?_; refine RW.nilw [0, 1, 4, 5, 6, 7, 25, 29] ?_; dsimp only [H.keep, H.look, H.Fr.put, Nat.beq]) | (refine Gt.move ?_; refine RW.y (Y.move rfl) rfl ?_) | (refine Gt.assign ?_; refine RW.y (Y.assign rfl) rfl ?_) | (refine Gt.len ?_; refine RW.y (Y.lens rfl) rfl ?_) | (refine Gt.lss ?_; refine RW.y (Y.lss rfl rfl) rfl ?_) | (refine Gt.leq ?_; refine RW.y (Y.leq rfl rfl) rfl ?_))
        refine FQ.res (rs := [.tmp 4, .tmp 5]) (vs := [_, _]) rfl rfl ⟨rfl, rfl, trivial⟩ rfl (⟨rfl, _, congrArg Ending.returned (congrArg (fun b => Value.tuple #[_, .bool b]) ?_), fun _ => rfl⟩)
        rw [Bool.eq_iff_iff, ← hr, decide_eq_true_eq]
        exact ⟨fun c => ⟨rfl, hno, by omega, by omega⟩, fun c => by have := c.2.2.2; omega⟩
    · rename_i h1 h3
      have hno : ¬ (1 < l.length ∧ l.getD 0 0 = 48) := fun c => h1 (by omega)
      refine CL.loopS [0, 1, 6, 7] (fun k vals wr => ∃ (i : Nat), vals = [vs l, .int .i64 999999999, .int .i64 (val (l.take i) : Int), .int .i64 (i : Int)] ∧ k = l.length - i ∧ i ≤ l.length ∧ wr = w) l.length ⟨_, rfl, 0, rfl, rfl, Nat.zero_le _, rfl⟩ ?_
      rintro k vals wr ⟨i, rfl, rfl, hi, rfl⟩
      dsimp only [List.zip, List.zipWith]
      rcases Nat.lt_or_ge i l.length with hlt | hge
      · have hv := val_lt (l.take i).length (l.take i) rfl (List.all_eq_true.2 fun x hx => List.all_eq_true.1 hd'.2 x (List.mem_of_mem_take hx))
        have hv2 : 10 ^ (l.take i).length ≤ 10 ^ 9 := Nat.pow_le_pow_right (by decide) (by rw [List.length_take]; omega)
        have e9 : (10 : Nat) ^ 9 = 1000000000 := by decide
        have hdg := List.all_eq_true.1 hd'.2 _ (getD_mem 0 hlt)
        simp only [isDig, Bool.and_eq_true, decide_eq_true_eq] at hdg
        have hi2 : ((i : Int)).toNat = i := Int.toNat_natCast i
        rw [← hi2] at hdg
        repeat' (first | (refine CL.seq ?_) | (refine CL.region ?_) | (refine CL.skip ?_) | (refine CL.condP rfl (fun _ => ?_) (fun _ => ?_) <;> try (exfalso; omega)) | (refine CL.block ?_) | (refine CL.done ?_) | (refine Nm.block ?_) | (refine Nm.then ?_) | (refine Gt.nil ?_; refine RW.nilw [0, 1, 4, 5, 6, 7, 25, 29] ?_; dsimp only [H.keep, H.look, H.Fr.put, Nat.beq]) | (refine Gt.move ?_; refine RW.y (Y.move rfl) rfl ?_) | (refine Gt.assign ?_; refine RW.y (Y.assign rfl) rfl ?_) | (refine Gt.len ?_; refine RW.y (Y.lens rfl) rfl ?_) | (refine Gt.index ?_; refine RW.y (Y.idxs rfl rfl (by omega) (by omega)) rfl ?_) | (refine Gt.add ?_; refine RW.y (Y.add64 rfl rfl (by omega) (by omega)) rfl ?_) | (refine Gt.lss ?_; refine RW.y (Y.lss rfl rfl) rfl ?_) | (refine Gt.mul ?_; (refine RW.y (Y.mul64 rfl rfl (by omega) (by omega)) rfl ?_)) | (refine Gt.sub ?_; refine RW.y (Y.subN rfl rfl (by exact wrapu8_id (by omega) (by omega))) rfl ?_) | (refine Gt.convert ?_; (refine RW.y (Y.convN rfl (by exact wrap64_id (by omega) (by omega))) rfl ?_)))
        refine ⟨l.length - (i + 1), _, rfl, rfl, rfl, by omega, i + 1, ?_, rfl, by omega, rfl⟩
        rw [take_snoc 0 l i hlt, val_snoc, hi2]
        rw [hi2] at hdg
        rw [show ((10 * val (l.take i) + ((l.getD i 0).toNat - 48) : Nat) : Int) = 10 * (val (l.take i) : Int) + (((l.getD i 0).toNat : Int) - 48) from by omega]
        rfl
      · have hi : i = l.length := by omega
        subst hi
        rw [List.take_length]
        repeat' (first | (refine CL.seq ?_) | (refine CL.region ?_) | (refine CL.condP rfl (fun _ => ?_) (fun _ => ?_) <;> try (exfalso; omega)) | (refine CL.exit ?_) | (refine Ex.then ?_) | (refine Ex.hit ?_) | (refine CL.ret ?_) | (refine Gt.nil ?_; refine RW.nilw [0, 1, 4, 5, 6, 7, 25, 29] ?_; dsimp only [H.keep, H.look, H.Fr.put, Nat.beq]) | (refine Gt.move ?_; refine RW.y (Y.move rfl) rfl ?_) | (refine Gt.assign ?_; refine RW.y (Y.assign rfl) rfl ?_) | (refine Gt.len ?_; refine RW.y (Y.lens rfl) rfl ?_) | (refine Gt.lss ?_; refine RW.y (Y.lss rfl rfl) rfl ?_) | (refine Gt.leq ?_; refine RW.y (Y.leq rfl rfl) rfl ?_))
        refine FQ.res (rs := [.tmp 4, .tmp 5]) (vs := [_, _]) rfl rfl ⟨rfl, rfl, trivial⟩ rfl (⟨rfl, _, congrArg Ending.returned (congrArg (fun b => Value.tuple #[_, .bool b]) ?_), fun _ => rfl⟩)
        rw [Bool.eq_iff_iff, ← hr, decide_eq_true_eq]
        exact ⟨fun c => ⟨rfl, hno, by omega, by omega⟩, fun c => by have := c.2.2.2; omega⟩

set_option maxHeartbeats 1000000 in
theorem refMark (l : T) (hl : l.length ≤ 1000000000000) (w : World) : Calls Try.prog 34 #[vs l] w fun e w' => w = w' ∧ e = .returned (.bool (markB l)) := by
  refine H.enter Try.func34 Try.ntmps34 rfl rfl ?_; dsimp only [H.args]
  repeat' (first | (refine CL.seq ?_) | (refine CL.region ?_) | (refine CL.skip ?_) | (refine CL.condP rfl (fun _ => ?_) (fun _ => ?_) <;> try (exfalso; omega)) | (refine CL.condT rfl ?_) | (refine CL.block ?_) | (refine CL.ret ?_) | (refine Gt.nil ?_; refine RW.nilw [0, 2, 3, 4, 12, 16, 48] ?_; dsimp only [H.keep, H.look, H.Fr.put, Nat.beq]) | (refine Gt.move ?_; refine RW.y (Y.move rfl) rfl ?_) | (refine Gt.guard ?_; first | (refine RW.part rfl rfl rfl (fun _ => ?_) (fun _ => ?_) <;> try (exfalso; omega)) | (refine RW.on rfl rfl rfl ?_) | (refine RW.off1 rfl rfl rfl rfl rfl ?_)) | (refine Gt.pick ?_; first | (refine RW.y (Y.pickT rfl rfl) rfl ?_) | (refine RW.y (Y.pickF rfl rfl) rfl ?_)) | (refine Gt.assign ?_; refine RW.y (Y.assign rfl) rfl ?_) | (refine Gt.len ?_; refine RW.y (Y.lens rfl) rfl ?_) | (refine Gt.lss ?_; refine RW.y (Y.lss rfl rfl) rfl ?_) | (refine Gt.gtr ?_; refine RW.y (Y.gtr rfl rfl) rfl ?_))
  · exact FQ.one rfl rfl rfl ⟨rfl, retb (by rw [mark_iff]; refine iff_of_false (by simp) (fun c => ?_); have := List.length_pos_iff.2 c.1.1; omega)⟩
  · exact FQ.one rfl rfl rfl ⟨rfl, retb (by rw [mark_iff]; exact iff_of_false (by simp) (fun c => by have := c.1.2.1; omega))⟩
  rename_i h1 h16
  have hne : l ≠ [] := List.length_pos_iff.1 (by omega)
  refine CL.loopS [0, 2, 3] (fun k vals wr => ∃ (i : Nat) (b : Bool), vals = [vs l, .bool b, .int .i64 (i : Int)] ∧ k = l.length - i ∧ i ≤ l.length ∧ (l.take i).all isSign = true ∧ wr = w) l.length ⟨_, rfl, 0, false, rfl, rfl, Nat.zero_le _, rfl, rfl⟩ ?_
  rintro k vals wr ⟨i, b, rfl, rfl, hi, hall, rfl⟩
  dsimp only [List.zip, List.zipWith]
  rcases Nat.lt_or_ge i l.length with hlt | hge
  · have hi2 : ((i : Int)).toNat = i := Int.toNat_natCast i
    have hs := isSign_iff (l.getD ((i : Int)).toNat 0)
    have hbad : isSign (l.getD ((i : Int)).toNat 0) = false → markB l = false := fun c => by rw [hi2] at c; rw [Bool.eq_false_iff, Ne, mark_iff, all_false 0 hlt c]; simp
    have hst : isSign (l.getD ((i : Int)).toNat 0) = true → (l.take (i + 1)).all isSign = true := fun c => by rw [hi2] at c; exact all_step 0 hlt hall c
    repeat' (first | (refine CL.seq ?_) | (refine CL.region ?_) | (refine CL.skip ?_) | (refine CL.condP rfl (fun _ => ?_) (fun _ => ?_) <;> try (exfalso; omega)) | (refine CL.condF rfl ?_) | (refine CL.block ?_) | (refine CL.ret ?_) | (refine Rt.then ?_) | (refine Rt.block ?_) | (refine CL.done ?_) | (refine Nm.block ?_) | (refine Nm.then ?_) | (refine Gt.nil ?_; refine RW.nilw [0, 2, 3, 4, 12, 16, 48] ?_; dsimp only [H.keep, H.look, H.Fr.put, Nat.beq]) | (refine Gt.move ?_; refine RW.y (Y.move rfl) rfl ?_) | (refine Gt.guard ?_; first | (refine RW.part rfl rfl rfl (fun _ => ?_) (fun _ => ?_) <;> try (exfalso; omega)) | (refine RW.on rfl rfl rfl ?_) | (refine RW.off1 rfl rfl rfl rfl rfl ?_) | (refine RW.offu rfl rfl rfl rfl ?_)) | (refine Gt.pick ?_; first | (refine RW.y (Y.pickT rfl rfl) rfl ?_) | (refine RW.y (Y.pickF rfl rfl) rfl ?_)) | (refine Gt.assign ?_; refine RW.y (Y.assign rfl) rfl ?_) | (refine Gt.len ?_; refine RW.y (Y.lens rfl) rfl ?_) | (refine Gt.geq ?_; refine RW.y (Y.geq rfl rfl) rfl ?_) | (refine Gt.leq ?_; refine RW.y (Y.leq rfl rfl) rfl ?_) | (refine Gt.lss ?_; refine RW.y (Y.lss rfl rfl) rfl ?_) | (refine Gt.index ?_; refine RW.y (Y.idxs rfl rfl (by omega) (by omega)) rfl ?_) | (refine Gt.not ?_; first | (refine RW.y (Y.not rfl) rfl ?_) | (refine RW.y (Y.notb rfl) rfl ?_)) | (refine Gt.eql ?_; (refine RW.y (Y.eqi rfl rfl) rfl ?_)) | (refine Gt.add ?_; refine RW.y (Y.add64 rfl rfl (by omega) (by omega)) rfl ?_))
    all_goals first
      | exact FQ.one rfl rfl rfl ⟨rfl, by rw [hbad (by rw [Bool.eq_false_iff, Ne, hs]; omega)]⟩
      | exact ⟨l.length - (i + 1), _, rfl, rfl, rfl, by omega, i + 1, b, rfl, rfl, by omega, hst (by rw [hs]; omega), rfl⟩
  · have hi : i = l.length := by omega
    subst hi
    rw [List.take_length] at hall
    repeat' (first | (refine CL.seq ?_) | (refine CL.region ?_) | (refine CL.condP rfl (fun _ => ?_) (fun _ => ?_) <;> try (exfalso; omega)) | (refine CL.exit ?_) | (refine Ex.then ?_) | (refine Ex.hit ?_) | (refine Gt.nil ?_; refine RW.nilw [0, 2, 3, 4, 12, 16, 48] ?_; dsimp only [H.keep, H.look, H.Fr.put, Nat.beq]) | (refine Gt.move ?_; refine RW.y (Y.move rfl) rfl ?_) | (refine Gt.len ?_; refine RW.y (Y.lens rfl) rfl ?_) | (refine Gt.lss ?_; refine RW.y (Y.lss rfl rfl) rfl ?_))
    refine RW.fn rfl rfl ((refDigits l hl wr).mono ?_)
    rintro e w' ⟨rfl, rfl⟩
    cases hd : digB l
    · repeat' (first | (refine CL.ret ?_) | (refine Gt.nil ?_; refine RW.nilw [0, 2, 3, 4, 12, 16, 48] ?_; dsimp only [H.keep, H.look, H.Fr.put, Nat.beq]) | (refine Gt.move ?_; refine RW.y (Y.move rfl) rfl ?_) | (refine Gt.guard ?_; (refine RW.off1 rfl rfl rfl rfl rfl ?_)) | (refine Gt.pick ?_; (refine RW.y (Y.pickT rfl rfl) rfl ?_)) | (refine Gt.assign ?_; refine RW.y (Y.assign rfl) rfl ?_) | (refine Gt.not ?_; (refine RW.y (Y.notb rfl) rfl ?_)))
      exact FQ.one rfl rfl rfl ⟨rfl, retb (by rw [mark_iff]; exact iff_of_true rfl ⟨⟨hne, by omega, fun c => by rw [hd] at c; cases c⟩, hall⟩)⟩
    · repeat' (first | (refine CL.ret ?_) | (refine Gt.nil ?_; refine RW.nilw [0, 2, 3, 4, 12, 16, 48] ?_; dsimp only [H.keep, H.look, H.Fr.put, Nat.beq]) | (refine Gt.move ?_; refine RW.y (Y.move rfl) rfl ?_) | (refine Gt.guard ?_; first | (refine RW.part rfl rfl rfl (fun _ => ?_) (fun _ => ?_) <;> try (exfalso; omega)) | (refine RW.on rfl rfl rfl ?_) | (refine RW.off1 rfl rfl rfl rfl rfl ?_)) | (refine Gt.pick ?_; first | (refine RW.y (Y.pickT rfl rfl) rfl ?_) | (refine RW.y (Y.pickF rfl rfl) rfl ?_)) | (refine Gt.assign ?_; refine RW.y (Y.assign rfl) rfl ?_) | (refine Gt.index ?_; refine RW.y (Y.idxs rfl rfl (by omega) (by omega)) rfl ?_) | (refine Gt.not ?_; (refine RW.y (Y.notb rfl) rfl ?_)) | (refine Gt.eql ?_; (refine RW.y (Y.eqs rfl rfl) rfl ?_)) | (refine Gt.neq ?_; refine RW.y (Y.nei rfl rfl) rfl ?_))
      · rename_i h
        exact FQ.one rfl rfl rfl ⟨rfl, retb (by rw [mark_iff]; exact iff_of_true rfl ⟨⟨hne, by omega, fun _ => by rw [h]; rfl⟩, hall⟩)⟩
      · rename_i h
        refine FQ.one rfl rfl rfl ⟨rfl, retb (by
          rw [mark_iff, decide_eq_true_eq]
          constructor
          · intro c
            refine ⟨⟨hne, by omega, fun _ => ?_⟩, hall⟩
            simp only [plainB, Bool.or_eq_true, decide_eq_true_eq]
            exact .inr fun e => c (by rw [show Int.toNat 0 = 0 from rfl, e]; rfl)
          · rintro ⟨⟨_, _, c⟩, _⟩ e
            have c := c hd
            simp only [plainB, Bool.or_eq_true, decide_eq_true_eq] at c
            have e' : l.getD 0 0 = 48 := u8_eq (by simpa using e)
            rcases c with c | c
            · apply h
              match l, c, e' with
              | [x], _, e' => rw [show x = 48 from e']
            · exact c e')⟩
end Go.Proofs.Ytlbegmpikggmlaa.Ve

namespace Go.Proofs.Ytlbegmpikggmlaa.Ve
open Go.RowKit H S
attribute [local irreducible] H.CL H.RW H.CW H.Yd H.thenK H.blockQ Go.Calls
abbrev verT : TypeId := 40

/-- A value that is a version. -/
def verV (v : Ver) (p : Value) : Value := .agg #[.int .i64 v.a, .int .i64 v.b, .int .i64 v.c, p]
/-- Its marks lie in memory. -/
def VerAt (w : World) (V : Value) (v : Ver) : Prop := ∃ p, V = verV v p ∧ Sl w 1 p v.pre.length (sv v.pre)
/-- The same, in memory that was not there below B. -/
def VerNew (B : Nat) (w : World) (V : Value) (v : Ver) : Prop := ∃ p, V = verV v p ∧ Sl w 1 p v.pre.length (sv v.pre) ∧ ∀ g, live p = some g → B ≤ g
theorem VerNew.at {B : Nat} {w : World} {V : Value} {v : Ver} (h : VerNew B w V v) : VerAt w V v := by obtain ⟨p, h1, h2, _⟩ := h; exact ⟨p, h1, h2⟩
theorem nolive {B : Nat} : ∀ g, live (.slice none 0 0) = some g → B ≤ g := fun g h => by simp [live] at h
theorem VerAt.keep0 {w w' : World} {V : Value} {v : Ver} (h : VerAt w V v) (k : K0 w w') : VerAt w' V v := by
  obtain ⟨p, h1, h2⟩ := h; exact ⟨p, h1, h2.keep0 k⟩
theorem getD_all {α : Type} (d : α) {l : List α} {p : α → Bool} {i : Nat} (hi : i < l.length) (h : p (l.getD i d) = false) : l.all p = false := all_false d hi h

theorem cutB_len (c : UInt8) (l : T) : (cutB c l).1.length ≤ l.length ∧ (cutB c l).2.1.length ≤ l.length := by
  unfold cutB
  split
  · simp
  · simp; omega
theorem noCells {a b c : Int} : ∀ z ∈ (#[.int .i64 a, .int .i64 b, .int .i64 c, .slice none 0 0] : Array Value).toList, z.oneCell' = true := by
  intro z hz
  simp at hz
  rcases hz with rfl | rfl | rfl | rfl <;> rfl
theorem verCells {a b c : Int} {p : Value} (hp : p.oneCell' = true) : ∀ z ∈ (#[.int .i64 a, .int .i64 b, .int .i64 c, p] : Array Value).toList, z.oneCell' = true := by
  intro z hz
  simp at hz
  rcases hz with rfl | rfl | rfl | rfl <;> first | rfl | exact hp

end Go.Proofs.Ytlbegmpikggmlaa.Ve

namespace Go.Proofs.Ytlbegmpikggmlaa.Ve
open Go.RowKit H S
attribute [local irreducible] H.CL H.RW H.CW H.Yd H.thenK H.blockQ Go.Calls

theorem idx_none (c : UInt8) : ∀ (l : T), c ∉ l → idx c l = -1
  | [], _ => rfl
  | x :: r, h => by
    have hx : (x == c) = false := by rw [beq_eq_false_iff_ne]; rintro rfl; exact h (by simp)
    have ih := idx_none c r (fun q => h (by simp [q]))
    unfold idx at ih
    simp [idx, Go.Lib.indexByte, hx, ih]
theorem idx_some (c : UInt8) : ∀ (l : T) (i : Nat), i < l.length → c ∉ l.take i → l.getD i 0 = c → idx c l = (i : Int)
  | [], _, h, _, _ => by simp at h
  | x :: r, 0, _, _, h => by
    have hx : (x == c) = true := by simpa using h
    simp [idx, Go.Lib.indexByte, hx]
  | x :: r, i + 1, hi, hn, h => by
    have hx : (x == c) = false := by rw [beq_eq_false_iff_ne]; rintro rfl; exact hn (by simp)
    have ih := idx_some c r i (by simpa using hi) (fun q => hn (by simp [q])) (by simpa using h)
    unfold idx at ih
    have h2 : ((i : Int) == -1) = false := by rw [beq_eq_false_iff_ne]; omega
    simp [idx, Go.Lib.indexByte, hx, ih, h2]
theorem cut_none (c : UInt8) (l : T) (h : c ∉ l) : cutB c l = (l, [], false) := by rw [cutB, idx_none c l h, if_pos (by decide)]
theorem cut_some (c : UInt8) (l : T) (i : Nat) (hi : i < l.length) (hn : c ∉ l.take i) (h : l.getD i 0 = c) : cutB c l = (l.take i, l.drop (i + 1), true) := by
  rw [cutB, idx_some c l i hi hn h, if_neg (by omega), Int.toNat_natCast]

theorem parseL_bad {l : List T} {pre : T} (h : ¬ ((splitB 46 pre).length ≤ 5 ∧ (splitB 46 pre).all markB = true)) : parseL l pre true = none := by
  by_cases h3 : l.length = 3
  · obtain ⟨x, y, z, rfl⟩ := len3 h3
    simp only [parseL, if_true]
    rw [if_neg h]
    simp
  · exact parseL_ne h3

set_option maxHeartbeats 1000000 in
theorem versionOfN (s : T) (hl : s.length ≤ 2000000) (w : World) : Calls Try.prog 13 #[vs s] w fun e w' => K0 w w' ∧ ∃ V, e = .returned (.tuple #[V, .int .i64 (verR (parseV (cutB 45 s))).2]) ∧ VerNew w.heap.size w' V (verR (parseV (cutB 45 s))).1 := by
  refine H.enter Try.func13 Try.ntmps13 rfl rfl ?_; dsimp only [H.args]
  repeat' (first | (refine CL.seq ?_) | (refine CL.region ?_))
  refine RW.alloc rfl (fun w1 hb1 hk1 hlt1 => ?_)
  repeat' (first | (refine CL.seq ?_) | (refine CL.region ?_) | (refine Gt.nil ?_; refine RW.nilw [0, 2, 3, 4, 5, 6, 7, 8, 9, 10, 11, 12, 13, 14, 19, 25, 38, 44, 53, 59, 91] ?_; dsimp only [H.keep, H.look, H.Fr.put, Nat.beq]) | (refine Gt.assign ?_; refine RW.y (Y.assign rfl) rfl ?_))
  refine RW.alloc rfl (fun w2 hb2 hk2 hlt2 => ?_)
  repeat' (first | (refine CL.seq ?_) | (refine CL.region ?_) | (refine Gt.nil ?_; refine RW.nilw [0, 2, 3, 4, 5, 6, 7, 8, 9, 10, 11, 12, 13, 14, 19, 25, 38, 44, 53, 59, 91] ?_; dsimp only [H.keep, H.look, H.Fr.put, Nat.beq]) | (refine Gt.move ?_; refine RW.y (Y.move rfl) rfl ?_) | (refine Gt.assign ?_; refine RW.y (Y.assign rfl) rfl ?_))
  have hw12 : w.heap.size < w1.heap.size := hlt1
  have hbr2 := hk2.at0 hb1
  have hK2 : K0 w w2 := hk1.trans0 hk2
  refine CL.cutS [2, 3, 4, 5] (fun vals wr => ∃ (core pre : T) (has : Bool) (p : Value) (m : List T), vals = [.pointer (some ⟨w.heap.size, 0, none⟩), .int .i64 0, .pointer (some ⟨w1.heap.size, 0, none⟩), vs core] ∧ cutB 45 s = (core, pre, has) ∧ core.length ≤ s.length ∧ Kept (fun k => k = w1.heap.size) w2 wr ∧
      wr.heap[w1.heap.size]? = some (.cells #[.int .i64 0, .int .i64 0, .int .i64 0, p] verT (0, 0)) ∧ Sl wr 1 p m.length (sv m) ∧ (∀ g, live p = some g → w2.heap.size ≤ g) ∧ m = (if has = true then splitB 46 pre else []) ∧ (has = true → m.length ≤ 5 ∧ m.all markB = true)) (by simp) ?_ ?_
  · repeat' ((refine CL.block ?_))
    refine CL.loopS [0, 2, 3, 4, 5, 6] (fun k vals wr => ∃ (i : Nat), vals = [vs s, .pointer (some ⟨w.heap.size, 0, none⟩), .int .i64 0, .pointer (some ⟨w1.heap.size, 0, none⟩), vs s, .int .i64 (i : Int)] ∧ k = s.length - i ∧ i ≤ s.length ∧ 45 ∉ s.take i ∧ wr = w2) s.length ⟨_, rfl, 0, rfl, rfl, Nat.zero_le _, by simp, rfl⟩ ?_
    rintro k vals wr ⟨i, rfl, rfl, hi, hno, rfl⟩
    dsimp only [List.zip, List.zipWith]
    rcases Nat.lt_or_ge i s.length with hlt | hge
    · repeat' (first | (refine CL.seq ?_) | (refine CL.region ?_) | (refine CL.skip ?_) | (refine CL.condP rfl (fun _ => ?_) (fun _ => ?_) <;> try (exfalso; omega)) | (refine CL.block ?_) | (refine CL.done ?_) | (refine Nm.block ?_) | (refine Nm.then ?_) | (refine Gt.nil ?_; refine RW.nilw [0, 2, 3, 4, 5, 6, 7, 8, 9, 10, 11, 12, 13, 14, 19, 25, 38, 44, 53, 59, 91] ?_; dsimp only [H.keep, H.look, H.Fr.put, Nat.beq]) | (refine Gt.move ?_; refine RW.y (Y.move rfl) rfl ?_) | (refine Gt.assign ?_; refine RW.y (Y.assign rfl) rfl ?_) | (refine Gt.add ?_; refine RW.y (Y.add64 rfl rfl (by omega) (by omega)) rfl ?_) | (refine Gt.len ?_; (refine RW.y (Y.lens rfl) rfl ?_)) | (refine Gt.lss ?_; refine RW.y (Y.lss rfl rfl) rfl ?_) | (refine Gt.index ?_; refine RW.y (Y.idxs rfl rfl (by omega) (by omega)) rfl ?_) | (refine Gt.eql ?_; refine RW.y (Y.eqi rfl rfl) rfl ?_) | (refine Gt.slice ?_; first | (refine RW.y (Y.cuth rfl rfl (by omega) (by omega)) rfl ?_) | (refine RW.y (Y.cutl rfl rfl (by omega) (by omega)) rfl ?_)))
      · rename_i h
        rw [Int.toNat_natCast] at h
        have hc := cut_some 45 s i hlt hno (u8_eq (by simpa using h))
        have hdl : (s.drop ((i : Int) + 1).toNat).length ≤ 2000000 := by rw [List.length_drop]; omega
        have hti : ((i : Int) + 1).toNat = i + 1 := by omega
        have htk : ((i : Int)).toNat = i := by omega
        refine RW.fn rfl rfl ((refSplit _ 46 (by omega) wr).mono ?_)
        rintro e w3 ⟨v3, rfl, how3, hk3⟩
        rw [hti] at how3
        rw [htk]
        have hs3 := Sl.of_own how3
        have hbr3 := hk3.at0 hbr2
        have hb3 := hk3.at0 hb2
        have hw3 := hk3.size
        rw [hc, parseV]
        have hcl := cutB_len 45 s
        rw [hc] at hcl
        simp only at hcl ⊢
        have hml3 : ∀ x ∈ splitB 46 (s.drop (i + 1)), x.length ≤ 1000000000000 := fun x hx => Nat.le_trans (splitB_mem_len 46 _ x hx) (by omega)
        have hln3 : (splitB 46 (s.drop (i + 1))).length ≤ 2000001 := by rw [splitB_len]; have : (s.drop (i + 1)).count 46 ≤ (s.drop (i + 1)).length := List.count_le_length; omega
        have hpl : ¬ ((splitB 46 (s.drop (i + 1))).length ≤ 5 ∧ (splitB 46 (s.drop (i + 1))).all markB = true) → parseL (splitB 46 (s.take i)) (s.drop (i + 1)) true = none := parseL_bad
        generalize hle : splitB 46 (s.drop (i + 1)) = l at *
        repeat' ((refine Gt.fieldAddr ?_; refine RW.y (Y.fieldAddr rfl (by rfl)) rfl ?_))
        refine RW.storeB rfl rfl hs3.one hb3 (show (_ : Nat) < 4 from by decide) (fun w4 hb4 hk4 => ?_)
        have hs4 := hs3.keep hk4 fun g hg c => by have := how3.lt g (live_own hg); have c' : g = w1.heap.size := c; omega
        have hbr4 := hk4.at hbr3 (fun c => by have c' : w.heap.size = w1.heap.size := c; omega)
        have hK4 : K0 w w4 := (hK2.trans0 hk3).trans hk4 fun k h => .inr (by have h' : k = w1.heap.size := h; omega)
        repeat' (first | (refine CL.seq ?_) | (refine CL.region ?_) | (refine CL.skip ?_) | (refine CL.condP rfl (fun _ => ?_) (fun _ => ?_) <;> try (exfalso; omega)) | (refine CL.block ?_) | (refine Gt.nil ?_; refine RW.nilw [0, 2, 3, 4, 5, 6, 7, 8, 9, 10, 11, 12, 13, 14, 19, 25, 38, 44, 53, 59, 91] ?_; dsimp only [H.keep, H.look, H.Fr.put, Nat.beq]) | (refine RW.y (Y.build (ps := []) (l := []) rfl rfl) rfl ?_) | (refine Gt.assign ?_; refine RW.y (Y.assign rfl) rfl ?_) | (refine Gt.load ?_; (refine RW.y (Y.loadB rfl (by assumption) rfl) rfl ?_)) | (refine Gt.fieldAddr ?_; refine RW.y (Y.fieldAddr rfl (by rfl)) rfl ?_) | (refine Gt.len ?_; (refine RW.y (Y.lenx rfl (by assumption)) rfl ?_)) | (refine Gt.gtr ?_; refine RW.y (Y.gtr rfl rfl) rfl ?_))
        · rw [hpl (by omega)]
          simp only [verR]
          have hKc := hK4
          have hbr := hbr4
          refine RW.storeBlock rfl rfl rfl noCells hbr rfl (fun wz hbz hkz => ?_)
          repeat' (first | (refine CL.ret ?_) | (refine Rt.then ?_) | (refine Rt.block ?_) | (refine Gt.nil ?_; refine RW.nilw [0, 2, 3, 4, 5, 6, 7, 8, 9, 10, 11, 12, 13, 14, 19, 25, 38, 44, 53, 59, 91] ?_; dsimp only [H.keep, H.look, H.Fr.put, Nat.beq]) | (refine Gt.assign ?_; refine RW.y (Y.assign rfl) rfl ?_))
          exact FQ.res (rs := [.cell 2 40, .tmp 3]) (vs := [_, _]) rfl rfl ⟨⟨_, rfl, load_block hbz rfl⟩, rfl, trivial⟩ rfl (⟨hKc.trans hkz fun k h => .inr (by rw [h]; exact Nat.le_refl _), _, rfl, _, rfl, Sl.nil _ _, nolive⟩)
        refine CL.loopS [2, 3, 4, 5, 7] (fun k vals wr => ∃ (j : Nat), vals = [.pointer (some ⟨w.heap.size, 0, none⟩), .int .i64 0, .pointer (some ⟨w1.heap.size, 0, none⟩), vs (s.take i), .int .i64 (j : Int)] ∧ k = l.length - j ∧ j ≤ l.length ∧ (l.take j).all markB = true ∧ wr = w4) l.length ⟨_, rfl, 0, rfl, rfl, Nat.zero_le _, rfl, rfl⟩ ?_
        rintro k vals wr4 ⟨j, rfl, rfl, hj, hall, rfl⟩
        dsimp only [List.zip, List.zipWith]
        rcases Nat.lt_or_ge j l.length with hjl | hjg
        · repeat' (first | (refine CL.seq ?_) | (refine CL.region ?_) | (refine CL.skip ?_) | (refine CL.condP rfl (fun _ => ?_) (fun _ => ?_) <;> try (exfalso; omega)) | (refine CL.block ?_) | (refine Gt.nil ?_; refine RW.nilw [0, 2, 3, 4, 5, 6, 7, 8, 9, 10, 11, 12, 13, 14, 19, 25, 38, 44, 53, 59, 91] ?_; dsimp only [H.keep, H.look, H.Fr.put, Nat.beq]) | (refine Gt.move ?_; refine RW.y (Y.move rfl) rfl ?_) | (refine Gt.load ?_; (refine RW.y (Y.loadB rfl (by assumption) rfl) rfl ?_)) | (refine Gt.fieldAddr ?_; refine RW.y (Y.fieldAddr rfl (by rfl)) rfl ?_) | (refine Gt.idx ?_; refine RW.elemS rfl rfl rfl rfl (by assumption) (by omega) (by omega) ?_) | (refine Gt.len ?_; (refine RW.y (Y.lenx rfl (by assumption)) rfl ?_)) | (refine Gt.lss ?_; refine RW.y (Y.lss rfl rfl) rfl ?_))
          refine RW.fn rfl rfl ((refMark _ (hml3 _ (by rw [Int.toNat_natCast]; exact getD_mem [] hjl)) wr4).mono ?_)
          rintro e w5 ⟨rfl, rfl⟩
          rw [Int.toNat_natCast]
          cases hm : markB (l.getD j [])
          · repeat' (first | (refine CL.seq ?_) | (refine CL.region ?_) | (refine CL.condT rfl ?_) | (refine Gt.nil ?_; refine RW.nilw [0, 2, 3, 4, 5, 6, 7, 8, 9, 10, 11, 12, 13, 14, 19, 25, 38, 44, 53, 59, 91] ?_; dsimp only [H.keep, H.look, H.Fr.put, Nat.beq]) | (refine RW.y (Y.build (ps := []) (l := []) rfl rfl) rfl ?_) | (refine Gt.not ?_; (refine RW.y (Y.notb rfl) rfl ?_)))
            rw [hpl (fun c => by rw [all_false [] hjl hm] at c; exact absurd c.2 (by decide))]
            simp only [verR]
            have hKc := hK4
            have hbr := hbr4
            refine RW.storeBlock rfl rfl rfl noCells hbr rfl (fun wz hbz hkz => ?_)
            repeat' (first | (refine CL.ret ?_) | (refine Rt.then ?_) | (refine Rt.block ?_) | (refine Gt.nil ?_; refine RW.nilw [0, 2, 3, 4, 5, 6, 7, 8, 9, 10, 11, 12, 13, 14, 19, 25, 38, 44, 53, 59, 91] ?_; dsimp only [H.keep, H.look, H.Fr.put, Nat.beq]) | (refine Gt.assign ?_; refine RW.y (Y.assign rfl) rfl ?_))
            exact FQ.res (rs := [.cell 2 40, .tmp 3]) (vs := [_, _]) rfl rfl ⟨⟨_, rfl, load_block hbz rfl⟩, rfl, trivial⟩ rfl (⟨hKc.trans hkz fun k h => .inr (by rw [h]; exact Nat.le_refl _), _, rfl, _, rfl, Sl.nil _ _, nolive⟩)
          · repeat' (first | (refine CL.region ?_) | (refine CL.skip ?_) | (refine CL.condF rfl ?_) | (refine CL.done ?_) | (refine Nm.block ?_) | (refine Nm.then ?_) | (refine Gt.nil ?_; refine RW.nilw [0, 2, 3, 4, 5, 6, 7, 8, 9, 10, 11, 12, 13, 14, 19, 25, 38, 44, 53, 59, 91] ?_; dsimp only [H.keep, H.look, H.Fr.put, Nat.beq]) | (refine Gt.move ?_; refine RW.y (Y.move rfl) rfl ?_) | (refine Gt.assign ?_; refine RW.y (Y.assign rfl) rfl ?_) | (refine Gt.not ?_; (refine RW.y (Y.notb rfl) rfl ?_)) | (refine Gt.add ?_; refine RW.y (Y.add64 rfl rfl (by omega) (by omega)) rfl ?_))
            exact ⟨l.length - (j + 1), _, rfl, rfl, rfl, by omega, j + 1, rfl, rfl, by omega, all_step [] hjl hall hm, rfl⟩
        · have hj : j = l.length := by omega
          subst hj
          rw [List.take_length] at hall
          repeat' (first | (refine CL.seq ?_) | (refine CL.region ?_) | (refine CL.condP rfl (fun _ => ?_) (fun _ => ?_) <;> try (exfalso; omega)) | (refine CL.exit ?_) | (refine Ex.then ?_) | (refine Ex.hit ?_) | (refine Ex.miss rfl ?_) | (refine CL.done ?_) | (refine Nm.then ?_) | (refine Gt.nil ?_; refine RW.nilw [0, 2, 3, 4, 5, 6, 7, 8, 9, 10, 11, 12, 13, 14, 19, 25, 38, 44, 53, 59, 91] ?_; dsimp only [H.keep, H.look, H.Fr.put, Nat.beq]) | (refine Gt.move ?_; refine RW.y (Y.move rfl) rfl ?_) | (refine Gt.load ?_; (refine RW.y (Y.loadB rfl (by assumption) rfl) rfl ?_)) | (refine Gt.fieldAddr ?_; refine RW.y (Y.fieldAddr rfl (by rfl)) rfl ?_) | (refine Gt.len ?_; (refine RW.y (Y.lenx rfl (by assumption)) rfl ?_)) | (refine Gt.lss ?_; refine RW.y (Y.lss rfl rfl) rfl ?_))
          exact ⟨_, rfl, rfl, rfl, _, _, _, v3, l, rfl, rfl, by rw [List.length_take]; omega, (hk3.mono fun _ c => c.elim).trans hk4 fun k h => .inl h, hb4, hs4, fun g hg => (how3.lt g (live_own hg)).1, by rw [if_pos rfl, hle], fun _ => ⟨by omega, hall⟩⟩
      · rename_i h
        rw [Int.toNat_natCast] at h
        refine ⟨s.length - (i + 1), _, rfl, rfl, rfl, by omega, i + 1, rfl, rfl, by omega, ?_, rfl⟩
        rw [take_snoc 0 s i hlt]
        simp only [List.mem_append, List.mem_singleton, not_or]
        exact ⟨hno, fun q => h (by rw [← q]; rfl)⟩
    · have hi : i = s.length := by omega
      subst hi
      rw [List.take_length] at hno
      repeat' (first | (refine CL.seq ?_) | (refine CL.region ?_) | (refine CL.condP rfl (fun _ => ?_) (fun _ => ?_) <;> try (exfalso; omega)) | (refine CL.exit ?_) | (refine Ex.then ?_) | (refine Ex.hit ?_) | (refine CL.done ?_) | (refine Nm.then ?_) | (refine Gt.nil ?_; refine RW.nilw [0, 2, 3, 4, 5, 6, 7, 8, 9, 10, 11, 12, 13, 14, 19, 25, 38, 44, 53, 59, 91] ?_; dsimp only [H.keep, H.look, H.Fr.put, Nat.beq]) | (refine Gt.move ?_; refine RW.y (Y.move rfl) rfl ?_) | (refine Gt.len ?_; (refine RW.y (Y.lens rfl) rfl ?_)) | (refine Gt.lss ?_; refine RW.y (Y.lss rfl rfl) rfl ?_))
      exact ⟨_, rfl, rfl, rfl, s, [], false, .slice none 0 0, [], rfl, cut_none 45 s hno, Nat.le_refl _, Kept.refl _ _, hb2, Sl.nil _ _, fun g hg => by simp [live] at hg, rfl, fun c => by cases c⟩
  · rintro vals wr ⟨core, pre, has, p, m, rfl, hcut, hcl, hkr, hbl, hsl, hlv, hm, hok⟩
    dsimp only [List.zip, List.zipWith]
    have hwr := hkr.size
    have hbrr := hkr.at hbr2 (fun c => by have c' : w.heap.size = w1.heap.size := c; omega)
    have hKr : K0 w wr := hK2.trans hkr fun k h => .inr (by have h' : k = w1.heap.size := h; omega)
    rw [hcut, parseV]
    simp only
    have hpR : ∀ x y z, (numB x && numB y && numB z) = true → parseL [x, y, z] pre has = some ⟨val x, val y, val z, m⟩ := by
      intro x y z h3
      simp only [parseL]
      rw [if_pos h3]
      cases has with
      | false => rw [hm]; rfl
      | true => rw [if_pos rfl, if_pos (by have := hok rfl; rw [hm, if_pos rfl] at this; exact this), hm]; rfl
    have hml : ∀ x ∈ splitB 46 core, x.length ≤ 2000000 := fun x hx => Nat.le_trans (splitB_mem_len 46 core x hx) (by omega)
    repeat' (first | (refine CL.seq ?_) | (refine CL.region ?_) | (refine Gt.move ?_; refine RW.y (Y.move rfl) rfl ?_))
    refine RW.fn rfl rfl ((refSplit _ 46 (by omega) wr).mono ?_)
    rintro e w3 ⟨v3, rfl, how3, hk3⟩
    have hs3 := Sl.of_own how3
    have hbr3 := hk3.at0 hbrr
    have hb3 := hk3.at0 hbl
    have hsl3 := hsl.keep0 hk3
    have hK3 := hKr.trans0 hk3
    have hw3 := hk3.size
    generalize splitB 46 core = l at *
    repeat' (first | (refine CL.seq ?_) | (refine CL.region ?_) | (refine CL.skip ?_) | (refine CL.condP rfl (fun _ => ?_) (fun _ => ?_) <;> try (exfalso; omega)) | (refine Gt.nil ?_; refine RW.nilw [0, 2, 3, 4, 5, 6, 7, 8, 9, 10, 11, 12, 13, 14, 19, 25, 38, 44, 53, 59, 91] ?_; dsimp only [H.keep, H.look, H.Fr.put, Nat.beq]) | (refine RW.y (Y.build (ps := []) (l := []) rfl rfl) rfl ?_) | (refine Gt.move ?_; refine RW.y (Y.move rfl) rfl ?_) | (refine Gt.assign ?_; refine RW.y (Y.assign rfl) rfl ?_) | (refine Gt.idx ?_; refine RW.elemS rfl rfl rfl rfl (by assumption) (by omega) (by omega) ?_) | (refine Gt.len ?_; (refine RW.y (Y.lenx rfl (by assumption)) rfl ?_)) | (refine Gt.neq ?_; refine RW.y (Y.nei rfl rfl) rfl ?_))
    · rename_i h3
      rw [parseL_ne (by omega)]
      simp only [verR]
      have hKc := hK3
      have hbr := hbr3
      refine RW.storeBlock rfl rfl rfl noCells hbr rfl (fun wz hbz hkz => ?_)
      repeat' (first | (refine CL.ret ?_) | (refine Gt.nil ?_; refine RW.nilw [0, 2, 3, 4, 5, 6, 7, 8, 9, 10, 11, 12, 13, 14, 19, 25, 38, 44, 53, 59, 91] ?_; dsimp only [H.keep, H.look, H.Fr.put, Nat.beq]) | (refine Gt.assign ?_; refine RW.y (Y.assign rfl) rfl ?_))
      exact FQ.res (rs := [.cell 2 40, .tmp 3]) (vs := [_, _]) rfl rfl ⟨⟨_, rfl, load_block hbz rfl⟩, rfl, trivial⟩ rfl (⟨hKc.trans hkz fun k h => .inr (by rw [h]; exact Nat.le_refl _), _, rfl, _, rfl, Sl.nil _ _, nolive⟩)
    rename_i h3
    obtain ⟨x, y, z, rfl⟩ := len3 (show l.length = 3 by omega)
    have hx := hml x (by simp)
    have hy := hml y (by simp)
    have hz := hml z (by simp)
    have h3l : ([x, y, z] : List T).length = 3 := rfl
    skip
    refine RW.fn rfl rfl ((refNumber x (by omega) w3).mono ?_)
    rintro e w4 ⟨rfl, n1, rfl, hn1⟩
    repeat' (first | (refine CL.seq ?_) | (refine CL.region ?_) | (refine Gt.nil ?_; refine RW.nilw [0, 2, 3, 4, 5, 6, 7, 8, 9, 10, 11, 12, 13, 14, 19, 25, 38, 44, 53, 59, 91] ?_; dsimp only [H.keep, H.look, H.Fr.put, Nat.beq]) | (refine Gt.move ?_; refine RW.y (Y.move rfl) rfl ?_) | (refine Gt.assign ?_; refine RW.y (Y.assign rfl) rfl ?_) | (refine Gt.extract ?_; refine RW.y (Y.extract rfl rfl) rfl ?_) | (refine Gt.idx ?_; refine RW.elemS rfl rfl rfl rfl (by assumption) (by omega) (by omega) ?_))
    refine RW.fn rfl rfl ((refNumber y (by omega) w3).mono ?_)
    rintro e w4 ⟨rfl, n2, rfl, hn2⟩
    repeat' (first | (refine CL.seq ?_) | (refine CL.region ?_) | (refine Gt.nil ?_; refine RW.nilw [0, 2, 3, 4, 5, 6, 7, 8, 9, 10, 11, 12, 13, 14, 19, 25, 38, 44, 53, 59, 91] ?_; dsimp only [H.keep, H.look, H.Fr.put, Nat.beq]) | (refine Gt.move ?_; refine RW.y (Y.move rfl) rfl ?_) | (refine Gt.assign ?_; refine RW.y (Y.assign rfl) rfl ?_) | (refine Gt.extract ?_; refine RW.y (Y.extract rfl rfl) rfl ?_) | (refine Gt.idx ?_; refine RW.elemS rfl rfl rfl rfl (by assumption) (by omega) (by omega) ?_))
    refine RW.fn rfl rfl ((refNumber z (by omega) w3).mono ?_)
    rintro e w4 ⟨rfl, n3, rfl, hn3⟩
    by_cases hall : (numB x && numB y && numB z) = true
    · have hall' := hall
      simp only [Bool.and_eq_true] at hall'
      obtain ⟨⟨e1, e2⟩, e3⟩ := hall'
      rw [hpR x y z hall]
      have i1 := hn1 e1
      have i2 := hn2 e2
      have i3 := hn3 e3
      subst i1 i2 i3
      rw [e1, e2, e3]
      repeat' (first | (refine CL.seq ?_) | (refine CL.region ?_) | (refine CL.skip ?_) | (refine CL.condF rfl ?_) | (refine Gt.nil ?_; refine RW.nilw [0, 2, 3, 4, 5, 6, 7, 8, 9, 10, 11, 12, 13, 14, 19, 25, 38, 44, 53, 59, 91] ?_; dsimp only [H.keep, H.look, H.Fr.put, Nat.beq]) | (refine Gt.move ?_; refine RW.y (Y.move rfl) rfl ?_) | (refine Gt.guard ?_; (refine RW.on rfl rfl rfl ?_)) | (refine Gt.assign ?_; refine RW.y (Y.assign rfl) rfl ?_) | (refine Gt.fieldAddr ?_; refine RW.y (Y.fieldAddr rfl (by rfl)) rfl ?_) | (refine Gt.extract ?_; refine RW.y (Y.extract rfl rfl) rfl ?_) | (refine Gt.not ?_; (refine RW.y (Y.notb rfl) rfl ?_)) | (refine Gt.pick ?_; (refine RW.y (Y.pickF rfl rfl) rfl ?_)))
      refine RW.storeB rfl rfl rfl hb3 (show (_ : Nat) < 4 from by decide) (fun w4 hb4 hk4 => ?_)
      repeat' ((refine Gt.fieldAddr ?_; refine RW.y (Y.fieldAddr rfl (by rfl)) rfl ?_))
      refine RW.storeB rfl rfl rfl hb4 (show (_ : Nat) < 4 from by decide) (fun w5 hb5 hk5 => ?_)
      repeat' ((refine Gt.fieldAddr ?_; refine RW.y (Y.fieldAddr rfl (by rfl)) rfl ?_))
      refine RW.storeB rfl rfl rfl hb5 (show (_ : Nat) < 4 from by decide) (fun w6 hb6 hk6 => ?_)
      have hk36 : Kept (fun k => k = w1.heap.size) w3 w6 := (hk4.trans hk5 fun k h => .inl h).trans hk6 fun k h => .inl h
      have hbr6 := hk36.at hbr3 (fun c => by have c' : w.heap.size = w1.heap.size := c; omega)
      have hK6 : K0 w w6 := hK3.trans hk36 fun k h => .inr (by have h' : k = w1.heap.size := h; omega)
      have hs6 := hsl3.keep hk36 fun g hg c => by have := hlv g hg; have c' : g = w1.heap.size := c; omega
      repeat' (first | (refine CL.seq ?_) | (refine CL.region ?_) | (refine Gt.nil ?_; refine RW.nilw [0, 2, 3, 4, 5, 6, 7, 8, 9, 10, 11, 12, 13, 14, 19, 25, 38, 44, 53, 59, 91] ?_; dsimp only [H.keep, H.look, H.Fr.put, Nat.beq]) | (refine RW.y (Y.loadBlock rfl hb6 rfl) rfl ?_))
      refine RW.storeBlock rfl rfl rfl (verCells hs6.one) hbr6 rfl (fun w7 hb7 hk7 => ?_)
      repeat' (first | (refine CL.ret ?_) | (refine Gt.nil ?_; refine RW.nilw [0, 2, 3, 4, 5, 6, 7, 8, 9, 10, 11, 12, 13, 14, 19, 25, 38, 44, 53, 59, 91] ?_; dsimp only [H.keep, H.look, H.Fr.put, Nat.beq]) | (refine Gt.assign ?_; refine RW.y (Y.assign rfl) rfl ?_))
      exact FQ.res (rs := [.cell 2 40, .tmp 3]) (vs := [_, _]) rfl rfl ⟨⟨_, rfl, load_block hb7 rfl⟩, rfl, trivial⟩ rfl (⟨hK6.trans hk7 fun k h => .inr (by have h' : k = w.heap.size := h; omega), _, rfl, _, rfl, hs6.keep hk7 fun g hg c => by have := hlv g hg; have c' : g = w.heap.size := c; omega, fun g hg => by have := hlv g hg; have := hK2.size; omega⟩)
    · rw [show parseL [x, y, z] pre has = none from by simp only [parseL]; rw [if_neg hall]]
      simp only [verR]
      have hKc := hK3
      have hbr := hbr3
      cases e1 : numB x <;> cases e2 : numB y <;> cases e3 : numB z <;> first
        | (rw [e1, e2, e3] at hall; exact absurd rfl hall)
        | skip
      all_goals
        repeat' (first | (refine CL.seq ?_) | (refine CL.region ?_) | (refine CL.condT rfl ?_) | (refine Gt.nil ?_; refine RW.nilw [0, 2, 3, 4, 5, 6, 7, 8, 9, 10, 11, 12, 13, 14, 19, 25, 38, 44, 53, 59, 91] ?_; dsimp only [H.keep, H.look, H.Fr.put, Nat.beq]) | (refine RW.y (Y.build (ps := []) (l := []) rfl rfl) rfl ?_) | (refine Gt.move ?_; refine RW.y (Y.move rfl) rfl ?_) | (refine Gt.guard ?_; first | (refine RW.on rfl rfl rfl ?_) | (refine RW.off1 rfl rfl rfl rfl rfl ?_)) | (refine Gt.assign ?_; refine RW.y (Y.assign rfl) rfl ?_) | (refine Gt.extract ?_; refine RW.y (Y.extract rfl rfl) rfl ?_) | (refine Gt.not ?_; (refine RW.y (Y.notb rfl) rfl ?_)) | (refine Gt.pick ?_; first | (refine RW.y (Y.pickT rfl rfl) rfl ?_) | (refine RW.y (Y.pickF rfl rfl) rfl ?_)))
        refine RW.storeBlock rfl rfl rfl noCells hbr rfl (fun wz hbz hkz => ?_)
        repeat' (first | (refine CL.ret ?_) | (refine Gt.nil ?_; refine RW.nilw [0, 2, 3, 4, 5, 6, 7, 8, 9, 10, 11, 12, 13, 14, 19, 25, 38, 44, 53, 59, 91] ?_; dsimp only [H.keep, H.look, H.Fr.put, Nat.beq]) | (refine Gt.assign ?_; refine RW.y (Y.assign rfl) rfl ?_))
        exact FQ.res (rs := [.cell 2 40, .tmp 3]) (vs := [_, _]) rfl rfl ⟨⟨_, rfl, load_block hbz rfl⟩, rfl, trivial⟩ rfl (⟨hKc.trans hkz fun k h => .inr (by rw [h]; exact Nat.le_refl _), _, rfl, _, rfl, Sl.nil _ _, nolive⟩)
theorem versionOf (s : T) (hl : s.length ≤ 2000000) (w : World) : Calls Try.prog 13 #[vs s] w fun e w' => K0 w w' ∧ ∃ V, e = .returned (.tuple #[V, .int .i64 (verR (parseV (cutB 45 s))).2]) ∧ VerAt w' V (verR (parseV (cutB 45 s))).1 :=
  (versionOfN s hl w).mono fun _ _ ⟨h1, V, h2, h3⟩ => ⟨h1, V, h2, h3.at⟩
end Go.Proofs.Ytlbegmpikggmlaa.Ve

namespace Go.Proofs.Ytlbegmpikggmlaa.Ve
open Go.RowKit H S
attribute [local irreducible] H.CL H.RW H.CW H.Yd H.thenK H.blockQ Go.Calls

theorem ret_int {k : IntKind} {a b : Int} (h : a = b) : Ending.returned (.int k a) = .returned (.int k b) := by rw [h]
theorem nanI (a : Int) (w : World) : Calls Try.prog 71 #[.int .i64 a] w fun e w' => w = w' ∧ e = .returned (.bool false) := by
  refine H.enter Try.func71 Try.ntmps71 rfl rfl ?_; dsimp only [H.args]
  repeat' (first | (refine CL.seq ?_) | (refine CL.region ?_) | (refine CL.ret ?_) | (refine Gt.nil ?_; refine RW.nilw [0, 2] ?_; dsimp only [H.keep, H.look, H.Fr.put, Nat.beq]) | (refine RW.y (Y.neiS rfl rfl) rfl ?_) | (refine Gt.assign ?_; refine RW.y (Y.assign rfl) rfl ?_) | (refine Gt.move ?_; refine RW.y (Y.move rfl) rfl ?_))
  exact FQ.one rfl rfl rfl ⟨rfl, rfl⟩
theorem nanT (a : T) (w : World) : Calls Try.prog 74 #[vs a] w fun e w' => w = w' ∧ e = .returned (.bool false) := by
  refine H.enter Try.func74 Try.ntmps74 rfl rfl ?_; dsimp only [H.args]
  repeat' (first | (refine CL.seq ?_) | (refine CL.region ?_) | (refine CL.ret ?_) | (refine Gt.nil ?_; refine RW.nilw [0, 2] ?_; dsimp only [H.keep, H.look, H.Fr.put, Nat.beq]) | (refine RW.y (Y.nesS rfl rfl) rfl ?_) | (refine Gt.assign ?_; refine RW.y (Y.assign rfl) rfl ?_) | (refine Gt.move ?_; refine RW.y (Y.move rfl) rfl ?_))
  exact FQ.one rfl rfl rfl ⟨rfl, rfl⟩
theorem compareI (a b : Int) (w : World) : Calls Try.prog 65 #[.int .i64 a, .int .i64 b] w fun e w' => w = w' ∧ e = .returned (.int .i64 (cmpI a b)) := by
  refine H.enter Try.func65 Try.ntmps65 rfl rfl ?_; dsimp only [H.args]
  repeat' (first | (refine CL.seq ?_) | (refine CL.region ?_) | (refine Gt.nil ?_; refine RW.nilw [0, 1, 4, 5, 6, 11, 12, 13, 16, 19] ?_; dsimp only [H.keep, H.look, H.Fr.put, Nat.beq]) | (refine Gt.assign ?_; refine RW.y (Y.assign rfl) rfl ?_) | (refine Gt.move ?_; refine RW.y (Y.move rfl) rfl ?_))
  refine RW.fn rfl rfl ((nanI a w).mono ?_)
  rintro e w' ⟨rfl, rfl⟩
  repeat' (first | (refine CL.seq ?_) | (refine CL.region ?_) | (refine Gt.nil ?_; refine RW.nilw [0, 1, 4, 5, 6, 11, 12, 13, 16, 19] ?_; dsimp only [H.keep, H.look, H.Fr.put, Nat.beq]) | (refine Gt.assign ?_; refine RW.y (Y.assign rfl) rfl ?_) | (refine Gt.move ?_; refine RW.y (Y.move rfl) rfl ?_))
  refine RW.fn rfl rfl ((nanI b w).mono ?_)
  rintro e w' ⟨rfl, rfl⟩
  repeat' (first | (refine CL.seq ?_) | (refine CL.region ?_) | (refine CL.skip ?_) | (refine CL.condP rfl (fun _ => ?_) (fun _ => ?_) <;> try (exfalso; omega)) | (refine CL.condF rfl ?_) | (refine CL.ret ?_) | (refine Gt.nil ?_; refine RW.nilw [0, 1, 4, 5, 6, 11, 12, 13, 16, 19] ?_; dsimp only [H.keep, H.look, H.Fr.put, Nat.beq]) | (refine Gt.assign ?_; refine RW.y (Y.assign rfl) rfl ?_) | (refine Gt.move ?_; refine RW.y (Y.move rfl) rfl ?_) | (refine Gt.lss ?_; refine RW.y (Y.lss rfl rfl) rfl ?_) | (refine Gt.gtr ?_; refine RW.y (Y.gtr rfl rfl) rfl ?_))
  · exact FQ.one rfl rfl rfl ⟨rfl, ret_int (by rw [cmpI, if_pos (by assumption)])⟩
  · exact FQ.one rfl rfl rfl ⟨rfl, ret_int (by rw [cmpI, if_neg (by assumption), if_pos (by assumption)])⟩
  · exact FQ.one rfl rfl rfl ⟨rfl, ret_int (by rw [cmpI, if_neg (by assumption), if_neg (by assumption)])⟩
theorem compareT (a b : T) (w : World) : Calls Try.prog 73 #[vs a, vs b] w fun e w' => w = w' ∧ e = .returned (.int .i64 (cmpT a b)) := by
  refine H.enter Try.func73 Try.ntmps73 rfl rfl ?_; dsimp only [H.args]
  repeat' (first | (refine CL.seq ?_) | (refine CL.region ?_) | (refine Gt.nil ?_; refine RW.nilw [0, 1, 4, 5, 6, 11, 12, 13, 16, 19] ?_; dsimp only [H.keep, H.look, H.Fr.put, Nat.beq]) | (refine Gt.assign ?_; refine RW.y (Y.assign rfl) rfl ?_) | (refine Gt.move ?_; refine RW.y (Y.move rfl) rfl ?_))
  refine RW.fn rfl rfl ((nanT a w).mono ?_)
  rintro e w' ⟨rfl, rfl⟩
  repeat' (first | (refine CL.seq ?_) | (refine CL.region ?_) | (refine Gt.nil ?_; refine RW.nilw [0, 1, 4, 5, 6, 11, 12, 13, 16, 19] ?_; dsimp only [H.keep, H.look, H.Fr.put, Nat.beq]) | (refine Gt.assign ?_; refine RW.y (Y.assign rfl) rfl ?_) | (refine Gt.move ?_; refine RW.y (Y.move rfl) rfl ?_))
  refine RW.fn rfl rfl ((nanT b w).mono ?_)
  rintro e w' ⟨rfl, rfl⟩
  repeat' (first | (refine CL.seq ?_) | (refine CL.region ?_) | (refine CL.skip ?_) | (refine CL.condF rfl ?_) | (refine CL.cond rfl (fun _ => ?_) (fun _ => ?_)) | (refine CL.ret ?_) | (refine Gt.nil ?_; refine RW.nilw [0, 1, 4, 5, 6, 11, 12, 13, 16, 19] ?_; dsimp only [H.keep, H.look, H.Fr.put, Nat.beq]) | (refine Gt.assign ?_; refine RW.y (Y.assign rfl) rfl ?_) | (refine Gt.move ?_; refine RW.y (Y.move rfl) rfl ?_) | (refine Gt.lss ?_; refine RW.y (Y.lts rfl rfl) rfl ?_) | (refine Gt.gtr ?_; refine RW.y (Y.gts rfl rfl) rfl ?_))
  · rename_i h
    exact FQ.one rfl rfl rfl ⟨rfl, ret_int (by rw [cmpT, if_pos h])⟩
  · rename_i h h2
    exact FQ.one rfl rfl rfl ⟨rfl, ret_int (by rw [h] at h2; simp at h2; rw [cmpT, h, if_neg (by decide), if_neg h2])⟩
  · rename_i h h2
    exact FQ.one rfl rfl rfl ⟨rfl, ret_int (by rw [h] at h2; simp at h2; rw [cmpT, h, if_neg (by decide), if_pos h2])⟩

def orI : List Int → Int
  | [] => 0
  | x :: r => if x ≠ 0 then x else orI r
theorem orI_drop (l : List Int) (i : Nat) (h : i < l.length) : orI (l.drop i) = if l.getD i default ≠ 0 then l.getD i default else orI (l.drop (i + 1)) := by
  rw [List.drop_eq_getElem_cons h, List.getD_eq_getElem?_getD, List.getElem?_eq_getElem h]; rfl
theorem orInt (v : Value) (l : List Int) (w : World) (hl : l.length ≤ 1000) (hs : Sl w 1 v l.length (l.map (Value.int .i64))) : Calls Try.prog 64 #[v] w fun e w' => w = w' ∧ e = .returned (.int .i64 (orI l)) := by
  refine H.enter Try.func64 Try.ntmps64 rfl rfl ?_; dsimp only [H.args]
  repeat' (first | (refine CL.seq ?_) | (refine CL.region ?_) | (refine CL.block ?_) | (refine Gt.nil ?_; refine RW.nilw [0, 2, 3, 5, 6, 7, 8, 9, 14] ?_; dsimp only [H.keep, H.look, H.Fr.put, Nat.beq]) | (refine Gt.move ?_; refine RW.y (Y.move rfl) rfl ?_) | (refine Gt.assign ?_; refine RW.y (Y.assign rfl) rfl ?_) | (refine Gt.len ?_; (refine RW.y (Y.lenx rfl (by assumption)) rfl ?_)))
  refine CL.loopS [2, 3, 6, 7, 8] (fun k vals wr => ∃ (i : Nat) (n : Int), vals = [.int .i64 n, .int .i64 0, v, .int .i64 (l.length : Int), .int .i64 (i : Int)] ∧ k = l.length - i ∧ i ≤ l.length ∧ orI l = orI (l.drop i) ∧ wr = w) l.length ⟨_, rfl, 0, 0, rfl, rfl, Nat.zero_le _, rfl, rfl⟩ ?_
  rintro k vals wr ⟨i, n, rfl, rfl, hi, ho, rfl⟩
  dsimp only [List.zip, List.zipWith]
  rcases Nat.lt_or_ge i l.length with hlt | hge
  · have hd := orI_drop l i hlt
    have hi2 : ((i : Int)).toNat = i := Int.toNat_natCast i
    repeat' (first | (refine CL.seq ?_) | (refine CL.region ?_) | (refine CL.skip ?_) | (refine CL.condP rfl (fun _ => ?_) (fun _ => ?_) <;> try (exfalso; omega)) | (refine CL.block ?_) | (refine CL.ret ?_) | (refine Rt.then ?_) | (refine Rt.block ?_) | (refine CL.done ?_) | (refine Nm.block ?_) | (refine Nm.then ?_) | (refine Gt.nil ?_; refine RW.nilw [0, 2, 3, 5, 6, 7, 8, 9, 14] ?_; dsimp only [H.keep, H.look, H.Fr.put, Nat.beq]) | (refine Gt.move ?_; refine RW.y (Y.move rfl) rfl ?_) | (refine Gt.assign ?_; refine RW.y (Y.assign rfl) rfl ?_) | (refine Gt.lss ?_; refine RW.y (Y.lss rfl rfl) rfl ?_) | (refine Gt.idx ?_; refine RW.elemM rfl rfl rfl rfl (by assumption) (by omega) (by omega) ?_) | (refine Gt.neq ?_; refine RW.y (Y.nei rfl rfl) rfl ?_) | (refine Gt.add ?_; refine RW.y (Y.add64 rfl rfl (by omega) (by omega)) rfl ?_))
    · rename_i h
      rw [hi2] at h
      exact FQ.one rfl rfl rfl ⟨rfl, by rw [ho, hd, if_pos h, hi2]⟩
    · rename_i h
      rw [hi2] at h
      exact ⟨l.length - (i + 1), _, rfl, rfl, rfl, by omega, i + 1, n, rfl, rfl, by omega, by rw [ho, hd, if_neg h], rfl⟩
  · have hi : i = l.length := by omega
    subst hi
    rw [List.drop_length] at ho
    repeat' (first | (refine CL.seq ?_) | (refine CL.region ?_) | (refine CL.condP rfl (fun _ => ?_) (fun _ => ?_) <;> try (exfalso; omega)) | (refine CL.exit ?_) | (refine Ex.then ?_) | (refine Ex.hit ?_) | (refine CL.ret ?_) | (refine Gt.nil ?_; refine RW.nilw [0, 2, 3, 5, 6, 7, 8, 9, 14] ?_; dsimp only [H.keep, H.look, H.Fr.put, Nat.beq]) | (refine Gt.move ?_; refine RW.y (Y.move rfl) rfl ?_) | (refine Gt.assign ?_; refine RW.y (Y.assign rfl) rfl ?_) | (refine Gt.lss ?_; refine RW.y (Y.lss rfl rfl) rfl ?_))
    exact FQ.one rfl rfl rfl ⟨rfl, by rw [ho]; rfl⟩

theorem sl_new {w : World} {g : Nat} {c : Array Value} {e : TypeId} (h : w.heap[g]? = some (.cells c e (0, 0))) {n sz : Nat} (hn : c.size = n * sz) (hm : n ≤ 1000000) : Sl w sz (.slice (some ⟨g, 0, none⟩) n n) n c.toList :=
  Sl.of_own (own_new h (Nat.zero_le g) hn (by simp only [maxLen]; omega))
theorem int_cells {l : List Int} : ∀ v ∈ l.map (Value.int .i64), v.cells.size = 1 := by
  intro v hv
  obtain ⟨x, _, rfl⟩ := List.mem_map.1 hv
  rfl

theorem marks (a b : T) (ha : a.length ≤ 1000000000000) (hb : b.length ≤ 1000000000000) (w : World) : Calls Try.prog 67 #[vs a, vs b] w fun e w' => K0 w w' ∧ e = .returned (.int .i64 (cmpM a b)) := by
  refine H.enter Try.func67 Try.ntmps67 rfl rfl ?_; dsimp only [H.args]
  repeat' (first | (refine CL.seq ?_) | (refine CL.region ?_) | (refine Gt.nil ?_; refine RW.nilw [0, 1, 4, 5, 6, 11, 26, 28] ?_; dsimp only [H.keep, H.look, H.Fr.put, Nat.beq]) | (refine Gt.move ?_; refine RW.y (Y.move rfl) rfl ?_) | (refine Gt.assign ?_; refine RW.y (Y.assign rfl) rfl ?_))
  refine RW.fn rfl rfl ((digits a ha w).mono ?_)
  rintro e w' ⟨rfl, rfl⟩
  repeat' ((refine Gt.move ?_; refine RW.y (Y.move rfl) rfl ?_))
  refine RW.fn rfl rfl ((digits b hb w).mono ?_)
  rintro e w' ⟨rfl, rfl⟩
  unfold cmpM
  cases h1 : digB a <;> cases h2 : digB b
  · repeat' (first | (refine CL.seq ?_) | (refine CL.region ?_) | (refine CL.skip ?_) | (refine CL.condF rfl ?_) | (refine CL.block ?_) | (refine CL.done ?_) | (refine Nm.block ?_) | (refine Gt.nil ?_; refine RW.nilw [0, 1, 4, 5, 6, 11, 26, 28] ?_; dsimp only [H.keep, H.look, H.Fr.put, Nat.beq]) | (refine Gt.move ?_; refine RW.y (Y.move rfl) rfl ?_) | (refine Gt.guard ?_; (refine RW.off1 rfl rfl rfl rfl rfl ?_)) | (refine Gt.assign ?_; refine RW.y (Y.assign rfl) rfl ?_) | (refine Gt.pick ?_; (refine RW.y (Y.pickF rfl rfl) rfl ?_)))
    refine RW.fn rfl rfl ((compareT a b w).mono ?_)
    rintro e w' ⟨rfl, rfl⟩
    repeat' (first | (refine CL.ret ?_) | (refine Gt.nil ?_; refine RW.nilw [0, 1, 4, 5, 6, 11, 26, 28] ?_; dsimp only [H.keep, H.look, H.Fr.put, Nat.beq]) | (refine Gt.assign ?_; refine RW.y (Y.assign rfl) rfl ?_))
    exact FQ.one rfl rfl rfl ⟨Kept.refl _ _, by simp⟩
  · repeat' (first | (refine CL.seq ?_) | (refine CL.region ?_) | (refine CL.condT rfl ?_) | (refine CL.condF rfl ?_) | (refine CL.block ?_) | (refine CL.ret ?_) | (refine Rt.block ?_) | (refine Gt.nil ?_; refine RW.nilw [0, 1, 4, 5, 6, 11, 26, 28] ?_; dsimp only [H.keep, H.look, H.Fr.put, Nat.beq]) | (refine Gt.move ?_; refine RW.y (Y.move rfl) rfl ?_) | (refine Gt.guard ?_; (refine RW.off1 rfl rfl rfl rfl rfl ?_)) | (refine Gt.assign ?_; refine RW.y (Y.assign rfl) rfl ?_) | (refine Gt.pick ?_; (refine RW.y (Y.pickF rfl rfl) rfl ?_)))
    exact FQ.one rfl rfl rfl ⟨Kept.refl _ _, by simp⟩
  · repeat' (first | (refine CL.seq ?_) | (refine CL.region ?_) | (refine CL.condT rfl ?_) | (refine CL.condF rfl ?_) | (refine CL.block ?_) | (refine CL.ret ?_) | (refine Rt.block ?_) | (refine Gt.nil ?_; refine RW.nilw [0, 1, 4, 5, 6, 11, 26, 28] ?_; dsimp only [H.keep, H.look, H.Fr.put, Nat.beq]) | (refine Gt.move ?_; refine RW.y (Y.move rfl) rfl ?_) | (refine Gt.guard ?_; (refine RW.on rfl rfl rfl ?_)) | (refine Gt.assign ?_; refine RW.y (Y.assign rfl) rfl ?_) | (refine Gt.pick ?_; (refine RW.y (Y.pickT rfl rfl) rfl ?_)))
    exact FQ.one rfl rfl rfl ⟨Kept.refl _ _, by simp⟩
  · repeat' (first | (refine CL.seq ?_) | (refine CL.region ?_) | (refine CL.condT rfl ?_) | (refine CL.block ?_) | (refine Gt.nil ?_; refine RW.nilw [0, 1, 4, 5, 6, 11, 26, 28] ?_; dsimp only [H.keep, H.look, H.Fr.put, Nat.beq]) | (refine Gt.move ?_; refine RW.y (Y.move rfl) rfl ?_) | (refine Gt.guard ?_; (refine RW.on rfl rfl rfl ?_)) | (refine Gt.assign ?_; refine RW.y (Y.assign rfl) rfl ?_) | (refine Gt.len ?_; refine RW.y (Y.lens rfl) rfl ?_) | (refine Gt.pick ?_; (refine RW.y (Y.pickT rfl rfl) rfl ?_)))
    refine RW.fn rfl rfl ((compareI a.length b.length w).mono ?_)
    rintro e w' ⟨rfl, rfl⟩
    repeat' ((refine Gt.move ?_; refine RW.y (Y.move rfl) rfl ?_))
    refine RW.fn rfl rfl ((compareT a b w).mono ?_)
    rintro e w' ⟨rfl, rfl⟩
    skip
    refine RW.buildL (ps := [(0, _), (1, _)]) (l := [cmpI a.length b.length, cmpT a b].map (Value.int .i64)) rfl rfl rfl int_cells rfl rfl (fun w2 hb2 hk2 hlt2 => ?_)
    skip
    refine RW.fn rfl rfl ((orInt _ [cmpI a.length b.length, cmpT a b] w2 (show (2 : Nat) ≤ 1000 from by decide) (sl_new hb2 rfl (show (2 : Nat) ≤ 1000000 from by decide))).mono ?_)
    rintro e w3 ⟨rfl, rfl⟩
    repeat' (first | (refine CL.ret ?_) | (refine Rt.block ?_) | (refine Gt.nil ?_; refine RW.nilw [0, 1, 4, 5, 6, 11, 26, 28] ?_; dsimp only [H.keep, H.look, H.Fr.put, Nat.beq]) | (refine Gt.assign ?_; refine RW.y (Y.assign rfl) rfl ?_))
    refine FQ.one rfl rfl rfl ⟨hk2, ret_int ?_⟩
    simp only [orI, and_self, if_true]
    by_cases h : cmpT a b = 0 <;> simp [h]

theorem cmpL_drop (x y : List T) (i : Nat) (hx : i < x.length) (hy : i < y.length) : cmpL (x.drop i) (y.drop i) = if cmpM (x.getD i []) (y.getD i []) ≠ 0 then cmpM (x.getD i []) (y.getD i []) else cmpL (x.drop (i + 1)) (y.drop (i + 1)) := by
  rw [List.drop_eq_getElem_cons hx, List.drop_eq_getElem_cons hy, cmpL, List.getD_eq_getElem?_getD, List.getElem?_eq_getElem hx, List.getD_eq_getElem?_getD, List.getElem?_eq_getElem hy]; rfl
theorem cmpL_y (x y : List T) (i : Nat) (hx : i < x.length) (hy : y.length ≤ i) : cmpL (x.drop i) (y.drop i) = 1 := by
  rw [List.drop_eq_getElem_cons hx, List.drop_eq_nil_iff.2 hy, cmpL]
theorem cmpL_x (x y : List T) (i : Nat) (hx : x.length ≤ i) (hy : i < y.length) : cmpL (x.drop i) (y.drop i) = -1 := by
  rw [List.drop_eq_getElem_cons hy, List.drop_eq_nil_iff.2 hx, cmpL]
theorem cmpL_n (x y : List T) (i : Nat) (hx : x.length ≤ i) (hy : y.length ≤ i) : cmpL (x.drop i) (y.drop i) = 0 := by
  rw [List.drop_eq_nil_iff.2 hy, List.drop_eq_nil_iff.2 hx, cmpL]

set_option maxHeartbeats 400000 in
theorem compareMarks (v u : Value) (x y : List T) (w : World) (hx : x.length ≤ 1000000000000) (hy : y.length ≤ 1000000000000) (bx : ∀ s ∈ x, s.length ≤ 1000000000000) (by' : ∀ s ∈ y, s.length ≤ 1000000000000) (hs : Sl w 1 v x.length (sv x)) (ht : Sl w 1 u y.length (sv y)) :
    Calls Try.prog 66 #[v, u, .func (.func 67) #[] #[]] w fun e w' => K0 w w' ∧ e = .returned (.int .i64 (cmpL x y)) := by
  refine H.enter Try.func66 Try.ntmps66 rfl rfl ?_; dsimp only [H.args]
  repeat' (first | (refine CL.seq ?_) | (refine CL.region ?_) | (refine CL.block ?_) | (refine Gt.nil ?_; refine RW.nilw [0, 1, 2, 6, 7, 8, 9, 10, 11, 12, 13, 14, 21, 31, 38] ?_; dsimp only [H.keep, H.look, H.Fr.put, Nat.beq]) | (refine Gt.move ?_; refine RW.y (Y.move rfl) rfl ?_) | (refine Gt.assign ?_; refine RW.y (Y.assign rfl) rfl ?_) | (refine Gt.len ?_; (refine RW.y (Y.lenx rfl (by assumption)) rfl ?_)))
  refine CL.loopS [0, 1, 2, 6, 11, 12, 13] (fun k vals wr => ∃ (i : Nat) (n : Int), vals = [v, u, .func (.func 67) #[] #[], .int .i64 n, v, .int .i64 (x.length : Int), .int .i64 (i : Int)] ∧ k = x.length - i ∧ i ≤ x.length ∧ (i ≤ y.length) ∧ cmpL x y = cmpL (x.drop i) (y.drop i) ∧ K0 w wr) x.length ⟨_, rfl, 0, 0, rfl, rfl, Nat.zero_le _, Nat.zero_le _, rfl, Kept.refl _ _⟩ ?_
  rintro k vals wr ⟨i, n, rfl, rfl, hi, hiy, hc, hk⟩
  dsimp only [List.zip, List.zipWith]
  have hsr := hs.keep0 hk
  have htr := ht.keep0 hk
  have hi2 : ((i : Int)).toNat = i := Int.toNat_natCast i
  rcases Nat.lt_or_ge i x.length with hlt | hge
  · rcases Nat.lt_or_ge i y.length with hly | hgy
    · have hd := cmpL_drop x y i hlt hly
      repeat' (first | (refine CL.seq ?_) | (refine CL.region ?_) | (refine CL.skip ?_) | (refine CL.condP rfl (fun _ => ?_) (fun _ => ?_) <;> try (exfalso; omega)) | (refine CL.block ?_) | (refine Gt.nil ?_; refine RW.nilw [0, 1, 2, 6, 7, 8, 9, 10, 11, 12, 13, 14, 21, 31, 38] ?_; dsimp only [H.keep, H.look, H.Fr.put, Nat.beq]) | (refine Gt.move ?_; refine RW.y (Y.move rfl) rfl ?_) | (refine Gt.assign ?_; refine RW.y (Y.assign rfl) rfl ?_) | (refine Gt.len ?_; (refine RW.y (Y.lenx rfl (by assumption)) rfl ?_)) | (refine Gt.lss ?_; refine RW.y (Y.lss rfl rfl) rfl ?_) | (refine Gt.idx ?_; refine RW.elemS rfl rfl rfl rfl (by assumption) (by omega) (by omega) ?_) | (refine Gt.geq ?_; refine RW.y (Y.geq rfl rfl) rfl ?_))
      refine RW.fnv (cap := []) rfl rfl rfl ((marks _ _ (bx _ (getD_mem [] (by omega))) (by' _ (getD_mem [] (by omega))) wr).mono ?_)
      rintro e w2 ⟨hk2, rfl⟩
      rw [hi2]
      repeat' (first | (refine CL.seq ?_) | (refine CL.region ?_) | (refine CL.skip ?_) | (refine CL.condP rfl (fun _ => ?_) (fun _ => ?_) <;> try (exfalso; omega)) | (refine CL.ret ?_) | (refine Rt.then ?_) | (refine Rt.block ?_) | (refine CL.done ?_) | (refine Nm.block ?_) | (refine Nm.then ?_) | (refine Gt.nil ?_; refine RW.nilw [0, 1, 2, 6, 7, 8, 9, 10, 11, 12, 13, 14, 21, 31, 38] ?_; dsimp only [H.keep, H.look, H.Fr.put, Nat.beq]) | (refine Gt.move ?_; refine RW.y (Y.move rfl) rfl ?_) | (refine Gt.assign ?_; refine RW.y (Y.assign rfl) rfl ?_) | (refine Gt.neq ?_; refine RW.y (Y.nei rfl rfl) rfl ?_) | (refine Gt.add ?_; refine RW.y (Y.add64 rfl rfl (by omega) (by omega)) rfl ?_))
      · rename_i h
        exact FQ.one rfl rfl rfl ⟨hk.trans0 hk2, by rw [hc, hd, if_pos h]⟩
      · rename_i h
        exact ⟨x.length - (i + 1), _, rfl, rfl, rfl, by omega, i + 1, n, rfl, rfl, by omega, by omega, by rw [hc, hd, if_neg h], hk.trans0 hk2⟩
    · have hd := cmpL_y x y i hlt hgy
      repeat' (first | (refine CL.seq ?_) | (refine CL.region ?_) | (refine CL.skip ?_) | (refine CL.condP rfl (fun _ => ?_) (fun _ => ?_) <;> try (exfalso; omega)) | (refine CL.block ?_) | (refine CL.ret ?_) | (refine Rt.then ?_) | (refine Rt.block ?_) | (refine Gt.nil ?_; refine RW.nilw [0, 1, 2, 6, 7, 8, 9, 10, 11, 12, 13, 14, 21, 31, 38] ?_; dsimp only [H.keep, H.look, H.Fr.put, Nat.beq]) | (refine Gt.move ?_; refine RW.y (Y.move rfl) rfl ?_) | (refine Gt.assign ?_; refine RW.y (Y.assign rfl) rfl ?_) | (refine Gt.len ?_; (refine RW.y (Y.lenx rfl (by assumption)) rfl ?_)) | (refine Gt.lss ?_; refine RW.y (Y.lss rfl rfl) rfl ?_) | (refine Gt.idx ?_; refine RW.elemS rfl rfl rfl rfl (by assumption) (by omega) (by omega) ?_) | (refine Gt.geq ?_; refine RW.y (Y.geq rfl rfl) rfl ?_))
      exact FQ.one rfl rfl rfl ⟨hk, by rw [hc, hd]⟩
  · have hi : i = x.length := by omega
    subst hi
    rcases Nat.lt_or_ge x.length y.length with hly | hgy
    · repeat' (first | (refine CL.seq ?_) | (refine CL.region ?_) | (refine CL.condP rfl (fun _ => ?_) (fun _ => ?_) <;> try (exfalso; omega)) | (refine CL.exit ?_) | (refine Ex.then ?_) | (refine Ex.hit ?_) | (refine CL.ret ?_) | (refine Gt.nil ?_; refine RW.nilw [0, 1, 2, 6, 7, 8, 9, 10, 11, 12, 13, 14, 21, 31, 38] ?_; dsimp only [H.keep, H.look, H.Fr.put, Nat.beq]) | (refine Gt.move ?_; refine RW.y (Y.move rfl) rfl ?_) | (refine Gt.assign ?_; refine RW.y (Y.assign rfl) rfl ?_) | (refine Gt.len ?_; (refine RW.y (Y.lenx rfl (by assumption)) rfl ?_)) | (refine Gt.lss ?_; refine RW.y (Y.lss rfl rfl) rfl ?_))
      exact FQ.one rfl rfl rfl ⟨hk, by rw [hc, cmpL_x x y _ (Nat.le_refl _) hly]⟩
    · repeat' (first | (refine CL.seq ?_) | (refine CL.region ?_) | (refine CL.skip ?_) | (refine CL.condP rfl (fun _ => ?_) (fun _ => ?_) <;> try (exfalso; omega)) | (refine CL.exit ?_) | (refine Ex.then ?_) | (refine Ex.hit ?_) | (refine CL.ret ?_) | (refine Gt.nil ?_; refine RW.nilw [0, 1, 2, 6, 7, 8, 9, 10, 11, 12, 13, 14, 21, 31, 38] ?_; dsimp only [H.keep, H.look, H.Fr.put, Nat.beq]) | (refine Gt.move ?_; refine RW.y (Y.move rfl) rfl ?_) | (refine Gt.assign ?_; refine RW.y (Y.assign rfl) rfl ?_) | (refine Gt.len ?_; (refine RW.y (Y.lenx rfl (by assumption)) rfl ?_)) | (refine Gt.lss ?_; refine RW.y (Y.lss rfl rfl) rfl ?_))
      exact FQ.one rfl rfl rfl ⟨hk, by rw [hc, cmpL_n x y _ (Nat.le_refl _) hgy]⟩
end Go.Proofs.Ytlbegmpikggmlaa.Ve

namespace Go.Proofs.Ytlbegmpikggmlaa.Ne
open Go.RowKit H S Ve
attribute [local irreducible] H.CL H.RW H.CW H.Yd H.thenK H.blockQ Go.Calls

theorem turn (x n : Int) (h0 : 0 ≤ n) (h1 : n ≤ 32) (w : World) : Calls Try.prog 62 #[.int .u32 x, .int .i64 n] w fun e w' => K0 w w' ∧ ∃ y, e = .returned (.int .u32 y) := by
  refine H.enter Try.func62 Try.ntmps62 rfl rfl ?_; dsimp only [H.args]
  repeat' (first | (refine CL.seq ?_) | (refine CL.region ?_) | (refine Gt.nil ?_; refine RW.nilw [0, 1, 4] ?_; dsimp only [H.keep, H.look, H.Fr.put, Nat.beq]) | (refine Gt.assign ?_; refine RW.y (Y.assign rfl) rfl ?_))
  refine CL.draw (fun w' => K0 w w') (by kernel_rfl) (fun w1 hheap hk1 => ?_)
  have hS : K0 w w1 := hk1
  skip
  refine AW.take 0 rfl (by kernel_rfl) (by kernel_rfl) (by kernel_rfl) rfl (by assumption) (fun w hS => Y.move rfl) ?_
  refine AW.take 1 rfl (by kernel_rfl) (by kernel_rfl) (by kernel_rfl) rfl (by assumption) (fun w hS => Y.move rfl) ?_
  refine AW.take 2 rfl (by kernel_rfl) (by kernel_rfl) (by kernel_rfl) rfl (by assumption) (fun w hS => Y.shr rfl rfl (by omega)) ?_
  refine AW.take 3 rfl (by kernel_rfl) (by kernel_rfl) (by kernel_rfl) rfl (by assumption) (fun w hS => Y.move rfl) ?_
  refine AW.take 4 rfl (by kernel_rfl) (by kernel_rfl) (by kernel_rfl) rfl (by assumption) (fun w hS => Y.move rfl) ?_
  refine AW.take 5 rfl (by kernel_rfl) (by kernel_rfl) (by kernel_rfl) rfl (by assumption) (fun w hS => by exact Y.sub64 rfl rfl (by omega) (by omega)) ?_
  refine AW.take 6 rfl (by kernel_rfl) (by kernel_rfl) (by kernel_rfl) rfl (by assumption) (fun w hS => Y.shl rfl rfl (by omega)) ?_
  refine AW.take 7 rfl (by kernel_rfl) (by kernel_rfl) (by kernel_rfl) rfl (by assumption) (fun w hS => Y.bits (by exact .inr (.inl rfl)) rfl rfl) ?_
  refine AW.take 8 rfl (by kernel_rfl) (by kernel_rfl) (by kernel_rfl) rfl (by assumption) (fun w hS => Y.assign rfl) ?_
  refine AW.donew [4] (by kernel_rfl) ?_
  dsimp only [H.keep, H.look, H.Fr.put, Nat.beq]
  repeat' ((refine CL.ret ?_))
  exact FQ.one rfl rfl rfl ⟨hk1, _, rfl⟩
abbrev wrdT : TypeId := 122
def tabL : List Int := [1116352408, 1899447441, 3049323471, 3921009573, 961987163, 1508970993, 2453635748, 2870763221, 3624381080, 310598401, 607225278, 1426881987, 1925078388, 2162078206, 2614888103, 3248222580, 3835390401, 4022224774, 264347078, 604807628, 770255983, 1249150122, 1555081692, 1996064986, 2554220882, 2821834349, 2952996808, 3210313671, 3336571891, 3584528711, 113926993, 338241895, 666307205, 773529912, 1294757372, 1396182291, 1695183700, 1986661051, 2177026350, 2456956037, 2730485921, 2820302411, 3259730800, 3345764771, 3516065817, 3600352804, 4094571909, 275423344, 430227734, 506948616, 659060556, 883997877, 958139571, 1322822218, 1537002063, 1747873779, 1955562222, 2024104815, 2227730452, 2361852424, 2428436474, 2756734187, 3204031479, 3329325298]
theorem table (w : World) : Calls Try.prog 60 #[] w fun e w' => K0 w w' ∧ ∃ c, e = .returned (.agg c) ∧ Us c 64 := by
  refine H.enter Try.func60 Try.ntmps60 rfl rfl ?_; dsimp only [H.args]
  repeat' (first | (refine CL.seq ?_) | (refine CL.region ?_))
  refine RW.alloc rfl (fun w1 hb1 hk1 hlt1 => ?_)
  repeat' (first | (refine CL.seq ?_) | (refine CL.region ?_) | (refine Gt.nil ?_; refine RW.nilw [0] ?_; dsimp only [H.keep, H.look, H.Fr.put, Nat.beq]))
  refine RW.y (Y.buildA (ps := [(0, _), (1, _), (2, _), (3, _), (4, _), (5, _), (6, _), (7, _), (8, _), (9, _), (10, _), (11, _), (12, _), (13, _), (14, _), (15, _), (16, _), (17, _), (18, _), (19, _), (20, _), (21, _), (22, _), (23, _), (24, _), (25, _), (26, _), (27, _), (28, _), (29, _), (30, _), (31, _), (32, _), (33, _), (34, _), (35, _), (36, _), (37, _), (38, _), (39, _), (40, _), (41, _), (42, _), (43, _), (44, _), (45, _), (46, _), (47, _), (48, _), (49, _), (50, _), (51, _), (52, _), (53, _), (54, _), (55, _), (56, _), (57, _), (58, _), (59, _), (60, _), (61, _), (62, _), (63, _)]) (l := tabL.map (Value.int .u32)) rfl rfl int_cells32 rfl) rfl ?_
  rw [cat_ints]
  have hU : Us (tabL.map (Value.int .u32)).toArray 64 := Us.of tabL
  generalize (tabL.map (Value.int .u32)).toArray = c at hU ⊢
  refine RW.storeBlock rfl rfl (by rw [hU.1]; rfl) hU.ones hb1 rfl (fun w2 hb2 hk2 => ?_)
  repeat' (first | (refine CL.ret ?_) | (refine Gt.nil ?_; refine RW.nilw [0] ?_; dsimp only [H.keep, H.look, H.Fr.put, Nat.beq]))
  have hc : c = c.toList.toArray := by simp
  exact FQ.res1 (v := .agg c.toList.toArray) rfl rfl ⟨⟨_, rfl, load_block (by rw [← hc]; exact hb2) (by rw [Array.length_toList]; exact hU.1)⟩, trivial⟩ ⟨hk1.trans hk2 fun k h => .inr (by rw [show k = w.heap.size from h]; exact Nat.le_refl _), c, by rw [← hc], hU⟩

abbrev u8T : TypeId := 5
theorem byte_of (a : Int) : ∃ c : UInt8, Value.int .u8 (IntKind.u8.wrap a) = vb c := by
  refine ⟨UInt8.ofNat (a % 256).toNat, ?_⟩
  simp only [vb, wrapu8, UInt8.toNat_ofNat']
  congr 1
  omega
set_option maxHeartbeats 1000000 in
theorem pad (v : Value) (l : List UInt8) (w : World) (hs : Sl w 1 v l.length (bv l)) (hl : l.length ≤ 1000000) : Calls Try.prog 61 #[v] w fun e w' => K0 w w' ∧ ∃ u m, e = .returned u ∧ w'.ownsRow w.heap.size u8T 1 u m.length (bv m) ∧ m.length % 64 = 0 ∧ m.length ≤ l.length + 200 := by
  refine H.enter Try.func61 Try.ntmps61 rfl rfl ?_; dsimp only [H.args]
  repeat' (first | (refine CL.seq ?_) | (refine CL.region ?_) | (refine Gt.nil ?_; refine RW.nilw [0, 2, 3, 4, 5, 13, 22] ?_; dsimp only [H.keep, H.look, H.Fr.put, Nat.beq]) | (refine Gt.move ?_; refine RW.y (Y.move rfl) rfl ?_) | (refine Gt.assign ?_; refine RW.y (Y.assign rfl) rfl ?_))
  refine RW.app (sz := 1) rfl rfl rfl rfl rfl (World.ownsRow_nil w w.heap.size u8T 1) hs (bv_one l) (by omega) (by omega) (Nat.le_refl _) (fun u1 w1 how1 hk1 hl1 => ?_)
  rw [Nat.zero_add, List.nil_append] at how1
  have hk1' : K0 w w1 := hk1.mono fun k h => by cases h
  have hz1 := hk1'.size
  refine RW.app1 rfl rfl rfl rfl how1 rfl rfl rfl rfl (fun y hy => by simp [Value.cells] at hy; rw [hy]; rfl) (by omega) (by omega) (by omega) (fun u2 w2 how2 hk2 hl2 => ?_)
  have how2' : w2.ownsRow w.heap.size u8T 1 u2 (l ++ [128]).length (bv (l ++ [128])) := own_snoc how2
  have hK2 : K0 w w2 := hk1'.trans hk2 fun k h => .inr (how1.lt k h).1
  repeat' (first | (refine CL.seq ?_) | (refine CL.block ?_) | (refine Gt.nil ?_; refine RW.nilw [0, 2, 3, 4, 5, 13, 22] ?_; dsimp only [H.keep, H.look, H.Fr.put, Nat.beq]) | (refine Gt.assign ?_; refine RW.y (Y.assign rfl) rfl ?_))
  refine CL.loopS [0, 3] (fun k vals wr => ∃ u m, vals = [v, u] ∧ k = (120 - m.length % 64) % 64 ∧ m.length + (120 - m.length % 64) % 64 ≤ l.length + 70 ∧ wr.ownsRow w.heap.size u8T 1 u m.length (bv m) ∧ K0 w wr) ((120 - (l ++ [128]).length % 64) % 64) ⟨_, rfl, u2, l ++ [128], rfl, rfl, by rw [List.length_append, List.length_singleton]; omega, how2', hK2⟩ ?_
  rintro k vals wr ⟨u, m, rfl, rfl, hm, how, hkr⟩
  dsimp only [List.zip, List.zipWith]
  have hsr := Sl.of_own how
  have hsv := hs.keep0 hkr
  have hzr := hkr.size
  repeat' (first | (refine CL.seq ?_) | (refine CL.region ?_) | (refine CL.skip ?_) | (refine CL.condP rfl (fun _ => ?_) (fun _ => ?_) <;> try (exfalso; omega)) | (refine CL.block ?_) | (refine CL.exit ?_) | (refine Ex.then ?_) | (refine Ex.hit ?_) | (refine Gt.nil ?_; refine RW.nilw [0, 2, 3, 4, 5, 13, 22] ?_; dsimp only [H.keep, H.look, H.Fr.put, Nat.beq]) | (refine Gt.move ?_; refine RW.y (Y.move rfl) rfl ?_) | (refine Gt.assign ?_; refine RW.y (Y.assign rfl) rfl ?_) | (refine Gt.len ?_; (refine RW.y (Y.lenx rfl (by assumption)) rfl ?_)) | (refine Gt.convert ?_; (refine RW.y (Y.convN rfl (by exact wrapu64_id (by omega) (by omega))) rfl ?_)) | (refine Gt.rem ?_; (refine RW.y (Y.remP rfl rfl (by omega) (by omega)) rfl ?_)) | (refine Gt.neq ?_; refine RW.y (Y.nei rfl rfl) rfl ?_) | (refine Gt.mul ?_; (refine RW.y (Y.mulN rfl rfl (by exact wrapu64_id (by omega) (by omega))) rfl ?_)))
  · rename_i g1
    refine RW.app1 rfl rfl rfl rfl how rfl rfl rfl rfl (fun y hy => by simp [Value.cells] at hy; rw [hy]; rfl) (by omega) (by omega) (by omega) (fun u3 w3 how3 hk3 hl3 => ?_)
    have how3' : w3.ownsRow w.heap.size u8T 1 u3 (m ++ [0]).length (bv (m ++ [0])) := own_snoc how3
    repeat' (first | (refine CL.done ?_) | (refine Nm.block ?_) | (refine Nm.then ?_) | (refine Gt.nil ?_; refine RW.nilw [0, 2, 3, 4, 5, 13, 22] ?_; dsimp only [H.keep, H.look, H.Fr.put, Nat.beq]) | (refine Gt.assign ?_; refine RW.y (Y.assign rfl) rfl ?_))
    refine ⟨(120 - (m ++ [0]).length % 64) % 64, _, rfl, rfl, rfl, ?_, u3, m ++ [0], rfl, rfl, ?_, how3', hkr.trans hk3 fun k h => .inr (how.lt k h).1⟩
    · rw [List.length_append, List.length_singleton]; omega
    · rw [List.length_append, List.length_singleton]; omega
  · rename_i g1
    refine CL.loopS [3, 4, 5] (fun k vals wv => ∃ (i : Int) (u : Value) (q : List UInt8) (z : Int), vals = [u, .int .u64 z, .int .i64 i] ∧ -1 ≤ i ∧ i ≤ 7 ∧ k = (i + 1).toNat ∧ q.length = m.length + (7 - i).toNat ∧ wv.ownsRow w.heap.size u8T 1 u q.length (bv q) ∧ K0 w wv) 8 ⟨_, rfl, 7, u, m, _, rfl, by omega, by omega, rfl, by simp, how, hkr⟩ ?_
    rintro k vals wv ⟨i, x, q, z, rfl, hi0, hi1, rfl, hq, hoq, hkv⟩
    dsimp only [List.zip, List.zipWith]
    have hzv := hkv.size
    repeat' (first | (refine CL.seq ?_) | (refine CL.region ?_) | (refine CL.skip ?_) | (refine CL.condP rfl (fun _ => ?_) (fun _ => ?_) <;> try (exfalso; omega)) | (refine CL.block ?_) | (refine CL.exit ?_) | (refine Ex.then ?_) | (refine Ex.hit ?_) | (refine CL.ret ?_) | (refine Gt.nil ?_; refine RW.nilw [0, 2, 3, 4, 5, 13, 22] ?_; dsimp only [H.keep, H.look, H.Fr.put, Nat.beq]) | (refine RW.y (Y.convW rfl) rfl ?_) | (refine Gt.move ?_; refine RW.y (Y.move rfl) rfl ?_) | (refine Gt.assign ?_; refine RW.y (Y.assign rfl) rfl ?_) | (refine Gt.mul ?_; (refine RW.y (Y.mulN rfl rfl (by exact wrap64_id (by omega) (by omega))) rfl ?_)) | (refine Gt.geq ?_; refine RW.y (Y.geq rfl rfl) rfl ?_) | (refine Gt.shr ?_; refine RW.y (Y.shr rfl rfl (by omega)) rfl ?_))
    · rename_i g2
      obtain ⟨c, hc⟩ := byte_of (z.fdiv (2 ^ (min (8 * i).toNat IntKind.u64.bits)))
      rw [hc]
      refine RW.app1 rfl rfl rfl rfl hoq rfl rfl rfl rfl (fun y hy => by simp [Value.cells] at hy; rw [hy]; rfl) (by omega) (by omega) (by omega) (fun x3 w3 how3 hk3 hl3 => ?_)
      have how3' : w3.ownsRow w.heap.size u8T 1 x3 (q ++ [c]).length (bv (q ++ [c])) := own_snoc how3
      repeat' (first | (refine CL.region ?_) | (refine CL.done ?_) | (refine Nm.block ?_) | (refine Nm.then ?_) | (refine Gt.nil ?_; refine RW.nilw [0, 2, 3, 4, 5, 13, 22] ?_; dsimp only [H.keep, H.look, H.Fr.put, Nat.beq]) | (refine Gt.move ?_; refine RW.y (Y.move rfl) rfl ?_) | (refine Gt.assign ?_; refine RW.y (Y.assign rfl) rfl ?_) | (refine Gt.sub ?_; refine RW.y (Y.sub64 rfl rfl (by omega) (by omega)) rfl ?_))
      refine ⟨(i - 1 + 1).toNat, _, rfl, rfl, rfl, by omega, i - 1, x3, q ++ [c], z, rfl, by omega, by omega, rfl, ?_, how3', hkv.trans hk3 fun k h => .inr (hoq.lt k h).1⟩
      rw [List.length_append, List.length_singleton]; omega
    · rename_i g2
      have : i = -1 := by omega
      subst this
      refine FQ.one rfl rfl rfl ⟨hkv, _, q, rfl, hoq, ?_, ?_⟩ <;> omega
end Go.Proofs.Ytlbegmpikggmlaa.Ne

namespace Go.Proofs.Ytlbegmpikggmlaa.Ne
open Go.RowKit H S Ve
attribute [local irreducible] H.CL H.RW H.CW H.Yd H.thenK H.blockQ Go.Calls

abbrev keyT : TypeId := 41
abbrev stT : TypeId := 121
/-- So many bytes. -/
def Bs (c : Array Value) (n : Nat) : Prop := c.size = n ∧ ∀ i, i < n → ∃ x : UInt8, c[i]? = some (vb x)
theorem Bs.set {c : Array Value} {n : Nat} (h : Bs c n) (j : Nat) (x : UInt8) : Bs (c.setIfInBounds j (vb x)) n := by
  refine ⟨by simp [h.1], fun i hi => ?_⟩
  by_cases hij : j = i
  · subst hij; exact ⟨x, by rw [Array.getElem?_setIfInBounds_self_of_lt (by rw [h.1]; exact hi)]⟩
  · obtain ⟨y, hy⟩ := h.2 i hi
    exact ⟨y, by rw [Array.getElem?_setIfInBounds_ne hij]; exact hy⟩
theorem Bs.ones {c : Array Value} {n : Nat} (h : Bs c n) : ∀ z ∈ c.toList, z.oneCell' = true := by
  intro z hz
  obtain ⟨i, hi, rfl⟩ := List.getElem_of_mem hz
  obtain ⟨x, hx⟩ := h.2 i (by rw [← h.1]; simpa using hi)
  rw [Array.getElem_toList]
  rw [Array.getElem?_eq_getElem (by simpa using hi)] at hx
  rw [Option.some.inj hx]; rfl
theorem Us.at {c : Array Value} {n : Nat} (h : Us c n) {z : Int} (h0 : 0 ≤ z) (h1 : z < n) : ∃ x : Int, c[0 + z.toNat * 1]? = some (.int .u32 x) := by
  obtain ⟨x, hx⟩ := h.2 z.toNat (by omega)
  exact ⟨x, by rw [Nat.zero_add, Nat.mul_one]; exact hx⟩
theorem Us.rep (n : Nat) : Us (List.replicate n (Value.int .u32 0)).toArray n := by
  refine ⟨by simp, fun i hi => ⟨0, by simp [hi]⟩⟩
theorem Bs.rep (n : Nat) : Bs (List.replicate n (Value.int .u8 0)).toArray n := by
  refine ⟨by simp, fun i hi => ⟨0, by simp [hi]⟩⟩
theorem Us.eight {c : Array Value} (h : Us c 8) : ∃ a b d e f g i j : Int, c = #[.int .u32 a, .int .u32 b, .int .u32 d, .int .u32 e, .int .u32 f, .int .u32 g, .int .u32 i, .int .u32 j] := by
  obtain ⟨h0, h⟩ := h
  obtain ⟨a, ha⟩ := h 0 (by decide)
  obtain ⟨b, hb⟩ := h 1 (by decide)
  obtain ⟨d, hd⟩ := h 2 (by decide)
  obtain ⟨e, he⟩ := h 3 (by decide)
  obtain ⟨f, hf⟩ := h 4 (by decide)
  obtain ⟨g, hg⟩ := h 5 (by decide)
  obtain ⟨i, hi⟩ := h 6 (by decide)
  obtain ⟨j, hj⟩ := h 7 (by decide)
  refine ⟨a, b, d, e, f, g, i, j, ?_⟩
  apply Array.ext
  · simp [h0]
  · intro k hk1 hk2
    have : k = 0 ∨ k = 1 ∨ k = 2 ∨ k = 3 ∨ k = 4 ∨ k = 5 ∨ k = 6 ∨ k = 7 := by omega
    rw [Array.getElem?_eq_getElem (by omega)] at ha hb hd he hf hg hi hj
    rcases this with rfl | rfl | rfl | rfl | rfl | rfl | rfl | rfl
    · exact Option.some.inj ha
    · exact Option.some.inj hb
    · exact Option.some.inj hd
    · exact Option.some.inj he
    · exact Option.some.inj hf
    · exact Option.some.inj hg
    · exact Option.some.inj hi
    · exact Option.some.inj hj
theorem ldU {w : World} {g j : Nat} {c : Array Value} {e : TypeId} {fz : Nat × Nat} {v : Value} (h : w.heap[g]? = some (.cells c e fz)) (hx : c[j]? = some v) : w.cell? ⟨g, j, none⟩ = some v := by rw [cell_row (off := 0) h]; exact hx
/-- In a round: the words lie as they lay, but for one. -/
def SS (w7 : World) (g j : Nat) (wc : Array Value) (w' : World) : Prop := Kept (fun k => k = g) w7 w' ∧ ∃ c, w'.heap[g]? = some (.cells c wrdT (0, 0)) ∧ ∀ i, i ≠ j → c[i]? = wc[i]?
theorem SS.keep0 {w7 w' w'' : World} {g j : Nat} {wc : Array Value} (h : SS w7 g j wc w') (k : K0 w' w'') : SS w7 g j wc w'' := by
  obtain ⟨h1, c, h2, h3⟩ := h
  exact ⟨h1.trans0 k, c, k.at0 h2, h3⟩
theorem SS.ld {w7 w' : World} {g j : Nat} {wc : Array Value} (h : SS w7 g j wc w') {z : Int} {x : Value} (hx : wc[0 + z.toNat * 1]? = some x) (hz : 0 + z.toNat * 1 ≠ j) : w'.cell? ⟨g, 0 + z.toNat * 1, none⟩ = some x := by
  obtain ⟨_, c, h2, h3⟩ := h
  rw [cell_row (off := 0) h2, h3 _ hz]; exact hx
def begL : List Int := [1779033703, 3144134277, 1013904242, 2773480762, 1359893119, 2600822924, 528734635, 1541459225]

set_option maxHeartbeats 8000000 in
theorem refSum (v : Value) (l : List UInt8) (w : World) (hs : Sl w 1 v l.length (bv l)) (hl : l.length ≤ 1000000) : Calls Try.prog 41 #[v] w fun e w' => K0 w w' ∧ ∃ c, e = .returned (.agg c) ∧ Bs c 32 := by
  refine H.enter Try.func41 Try.ntmps41 rfl rfl ?_; dsimp only [H.args]
  repeat' (first | (refine CL.seq ?_) | (refine CL.region ?_))
  refine RW.alloc rfl (fun w1 hb1 hk1 hlt1 => ?_)
  repeat' (first | (refine CL.seq ?_) | (refine CL.region ?_) | (refine Gt.nil ?_; refine RW.nilw [0, 2, 3, 4, 5, 6, 7, 8, 9, 10, 11, 12, 13, 14, 15, 16, 17, 18, 19, 20, 21, 22, 23, 24, 32, 36, 83, 140, 243] ?_; dsimp only [H.keep, H.look, H.Fr.put, Nat.beq]))
  refine RW.y (Y.buildA (ps := [(0, _), (1, _), (2, _), (3, _), (4, _), (5, _), (6, _), (7, _)]) (l := begL.map (Value.int .u32)) rfl rfl int_cells32 rfl) rfl ?_
  rw [cat_ints]
  have hU0 : Us (begL.map (Value.int .u32)).toArray 8 := Us.of begL
  generalize (begL.map (Value.int .u32)).toArray = c0 at hU0 ⊢
  refine RW.varN rfl (by rw [hU0.1]; rfl) rfl hU0.ones rfl (fun w2 hb2 hk2 hlt2 => ?_)
  repeat' (first | (refine CL.seq ?_) | (refine CL.region ?_) | (refine Gt.nil ?_; refine RW.nilw [0, 2, 3, 4, 5, 6, 7, 8, 9, 10, 11, 12, 13, 14, 15, 16, 17, 18, 19, 20, 21, 22, 23, 24, 32, 36, 83, 140, 243] ?_; dsimp only [H.keep, H.look, H.Fr.put, Nat.beq]))
  refine RW.fn rfl rfl ((table w2).mono ?_)
  rintro e w3 ⟨hk3, ct, rfl, hUt⟩
  refine RW.varN rfl (by rw [hUt.1]; rfl) rfl hUt.ones rfl (fun w4 hb4 hk4 hlt4 => ?_)
  have hK4 := ((hk1.trans0 hk2).trans0 hk3).trans0 hk4
  repeat' (first | (refine CL.seq ?_) | (refine CL.region ?_) | (refine Gt.nil ?_; refine RW.nilw [0, 2, 3, 4, 5, 6, 7, 8, 9, 10, 11, 12, 13, 14, 15, 16, 17, 18, 19, 20, 21, 22, 23, 24, 32, 36, 83, 140, 243] ?_; dsimp only [H.keep, H.look, H.Fr.put, Nat.beq]) | (refine Gt.move ?_; refine RW.y (Y.move rfl) rfl ?_))
  refine RW.fn rfl rfl ((pad v l w4 (hs.keep0 hK4) hl).mono ?_)
  rintro e w5 ⟨hk5, u, m, rfl, hom, hm64, hml⟩
  have hsm := Sl.of_own hom
  have hul : ∀ g, live u = some g → w4.heap.size ≤ g := fun g hg => (hom.lt g (live_own hg)).1
  have hK5 := hK4.trans0 hk5
  have hz1 := hk1.size
  have hz2 := hk2.size
  have hz3 := hk3.size
  have hz4 := hk4.size
  have hz5 := hk5.size
  have hR5 := (((hk2.trans0 hk3).trans0 hk4).trans0 hk5).at0 hb1
  have hs5 := ((hk3.trans0 hk4).trans0 hk5).at0 hb2
  have ht5 := hk5.at0 hb4
  repeat' (first | (refine CL.seq ?_) | (refine CL.region ?_) | (refine CL.block ?_) | (refine Gt.nil ?_; refine RW.nilw [0, 2, 3, 4, 5, 6, 7, 8, 9, 10, 11, 12, 13, 14, 15, 16, 17, 18, 19, 20, 21, 22, 23, 24, 32, 36, 83, 140, 243] ?_; dsimp only [H.keep, H.look, H.Fr.put, Nat.beq]) | (refine Gt.assign ?_; refine RW.y (Y.assign rfl) rfl ?_))
  refine CL.loopS [2, 3, 4, 5, 6] (fun k vals wr => ∃ (at' : Nat) (cs : Array Value), vals = [.pointer (some ⟨w.heap.size, 0, none⟩), .pointer (some ⟨w1.heap.size, 0, none⟩), .pointer (some ⟨w3.heap.size, 0, none⟩), u, .int .i64 (at' : Int)] ∧ k = m.length + 64 - at' ∧ at' % 64 = 0 ∧ at' ≤ m.length ∧ wr.heap[w1.heap.size]? = some (.cells cs stT (0, 0)) ∧ Us cs 8 ∧ Kept (fun k => k = w1.heap.size) w5 wr) (m.length + 64) ⟨_, rfl, 0, c0, rfl, rfl, rfl, Nat.zero_le _, hs5, hU0, Kept.refl _ _⟩ ?_
  rintro k vals wr ⟨at', cs, rfl, rfl, hat, hle, hcs, hU, hkr⟩
  dsimp only [List.zip, List.zipWith]
  have hzr := hkr.size
  have hsr := hsm.keep hkr fun g hg c => by have := hul g hg; have c' : g = w1.heap.size := c; omega
  have hRr := hkr.at hR5 fun c => by have c' : w.heap.size = w1.heap.size := c; omega
  have htr := hkr.at ht5 fun c => by have c' : w3.heap.size = w1.heap.size := c; omega
  repeat' (first | (refine CL.seq ?_) | (refine CL.region ?_) | (refine CL.skip ?_) | (refine CL.condP rfl (fun _ => ?_) (fun _ => ?_) <;> try (exfalso; omega)) | (refine CL.block ?_) | (refine CL.exit ?_) | (refine Ex.then ?_) | (refine Ex.hit ?_) | (refine Gt.nil ?_; refine RW.nilw [0, 2, 3, 4, 5, 6, 7, 8, 9, 10, 11, 12, 13, 14, 15, 16, 17, 18, 19, 20, 21, 22, 23, 24, 32, 36, 83, 140, 243] ?_; dsimp only [H.keep, H.look, H.Fr.put, Nat.beq]) | (refine Gt.move ?_; refine RW.y (Y.move rfl) rfl ?_) | (refine Gt.lss ?_; refine RW.y (Y.lss rfl rfl) rfl ?_) | (refine Gt.len ?_; (refine RW.y (Y.lenx rfl (by assumption)) rfl ?_)))
  · rename_i g1
    have hat2 : at' + 64 ≤ m.length := by omega
    refine RW.alloc rfl (fun w6 hb6 hk6 hlt6 => ?_)
    have hz6 := hk6.size
    repeat' (first | (refine CL.seq ?_) | (refine CL.region ?_) | (refine CL.block ?_) | (refine Gt.nil ?_; refine RW.nilw [0, 2, 3, 4, 5, 6, 7, 8, 9, 10, 11, 12, 13, 14, 15, 16, 17, 18, 19, 20, 21, 22, 23, 24, 32, 36, 83, 140, 243] ?_; dsimp only [H.keep, H.look, H.Fr.put, Nat.beq]) | (refine Gt.assign ?_; refine RW.y (Y.assign rfl) rfl ?_))
    refine CL.loopS [2, 3, 4, 5, 6, 7, 8] (fun k vals wv => ∃ (i : Nat) (wc : Array Value), vals = [.pointer (some ⟨w.heap.size, 0, none⟩), .pointer (some ⟨w1.heap.size, 0, none⟩), .pointer (some ⟨w3.heap.size, 0, none⟩), u, .int .i64 (at' : Int), .pointer (some ⟨wr.heap.size, 0, none⟩), .int .i64 (i : Int)] ∧ k = 16 - i ∧ i ≤ 16 ∧ wv.heap[wr.heap.size]? = some (.cells wc wrdT (0, 0)) ∧ Us wc 64 ∧ Kept (fun k => k = wr.heap.size) w6 wv) 16 ⟨_, rfl, 0, _, rfl, rfl, Nat.zero_le _, hb6, Us.rep 64, Kept.refl _ _⟩ ?_
    rintro k vals wv ⟨i, wc, rfl, rfl, hi, hwc, hUw, hkv⟩
    dsimp only [List.zip, List.zipWith]
    have hsv := (hsr.keep0 hk6).keep hkv fun g hg c => by have c' : g = wr.heap.size := c; have := hsr.lt hg; omega
    repeat' (first | (refine CL.seq ?_) | (refine CL.region ?_) | (refine CL.skip ?_) | (refine CL.condP rfl (fun _ => ?_) (fun _ => ?_) <;> try (exfalso; omega)) | (refine CL.block ?_) | (refine CL.exit ?_) | (refine Ex.then ?_) | (refine Ex.hit ?_) | (refine Gt.nil ?_; refine RW.nilw [0, 2, 3, 4, 5, 6, 7, 8, 9, 10, 11, 12, 13, 14, 15, 16, 17, 18, 19, 20, 21, 22, 23, 24, 32, 36, 83, 140, 243] ?_; dsimp only [H.keep, H.look, H.Fr.put, Nat.beq]) | (refine Gt.move ?_; refine RW.y (Y.move rfl) rfl ?_) | (refine Gt.assign ?_; refine RW.y (Y.assign rfl) rfl ?_) | (refine Gt.lss ?_; refine RW.y (Y.lss rfl rfl) rfl ?_))
    · rename_i g2
      have hcb : ∀ z : Int, 0 ≤ z → z < m.length → ∀ w', Kept (fun k => k = wr.heap.size) wv w' → w'.cell? (Value.spot u (z.toNat * 1)) = some (vb (m.getD z.toNat 0)) := fun z h0 h1 w' h => by
        have h5 := hsv.keep h fun g hg c => by have c' : g = wr.heap.size := c; have := hsr.lt hg; omega
        rw [Nat.mul_one]
        refine h5.cell ?_
        rw [List.getElem?_map, List.getD_eq_getElem?_getD, List.getElem?_eq_getElem (by omega)]; rfl
      refine CL.draw (fun w' => Kept (fun k => k = wr.heap.size) wv w') (by kernel_rfl) (fun w7 hheap hk7 => ?_)
      have hS : Kept (fun k => k = wr.heap.size) wv w7 := hk7.of0
      have hsS : ∀ {w'}, Kept (fun k => k = wr.heap.size) wv w' → Sl w' 1 u m.length (bv m) := fun h => hsv.keep h fun g hg c => by have c' : g = wr.heap.size := c; have := hsr.lt hg; omega
      skip
      refine AW.take 0 rfl (by kernel_rfl) (by kernel_rfl) (by kernel_rfl) rfl (by assumption) (fun w hS => Y.move rfl) ?_
      refine AW.take 1 rfl (by kernel_rfl) (by kernel_rfl) (by kernel_rfl) rfl (by assumption) (fun w hS => Y.move rfl) ?_
      refine AW.take 2 rfl (by kernel_rfl) (by kernel_rfl) (by kernel_rfl) rfl (by assumption) (fun w hS => Y.move rfl) ?_
      refine AW.take 3 rfl (by kernel_rfl) (by kernel_rfl) (by kernel_rfl) rfl (by assumption) (fun w hS => Y.move rfl) ?_
      refine AW.take 4 rfl (by kernel_rfl) (by kernel_rfl) (by kernel_rfl) rfl (by assumption) (fun w hS => by exact Y.mul64 rfl rfl (by omega) (by omega)) ?_
      refine AW.take 5 rfl (by kernel_rfl) (by kernel_rfl) (by kernel_rfl) rfl (by assumption) (fun w hS => by exact Y.add64 rfl rfl (by omega) (by omega)) ?_
      refine AW.take 6 rfl (by kernel_rfl) (by kernel_rfl) (by kernel_rfl) rfl (by assumption) (fun w hS => Y.idx rfl rfl (hsS hS) (by omega) (by omega)) ?_
      refine AW.take 7 rfl (by kernel_rfl) (by kernel_rfl) (by kernel_rfl) rfl (by assumption) (fun w hS => Y.load1 rfl (hcb _ (by omega) (by omega) _ hS)) ?_
      refine AW.take 8 rfl (by kernel_rfl) (by kernel_rfl) (by kernel_rfl) rfl (by assumption) (fun w hS => Y.convW rfl) ?_
      refine AW.take 9 rfl (by kernel_rfl) (by kernel_rfl) (by kernel_rfl) rfl (by assumption) (fun w hS => Y.shl rfl rfl (by omega)) ?_
      refine AW.take 10 rfl (by kernel_rfl) (by kernel_rfl) (by kernel_rfl) rfl (by assumption) (fun w hS => Y.move rfl) ?_
      refine AW.take 11 rfl (by kernel_rfl) (by kernel_rfl) (by kernel_rfl) rfl (by assumption) (fun w hS => Y.move rfl) ?_
      refine AW.take 12 rfl (by kernel_rfl) (by kernel_rfl) (by kernel_rfl) rfl (by assumption) (fun w hS => Y.move rfl) ?_
      refine AW.take 13 rfl (by kernel_rfl) (by kernel_rfl) (by kernel_rfl) rfl (by assumption) (fun w hS => by exact Y.mul64 rfl rfl (by omega) (by omega)) ?_
      refine AW.take 14 rfl (by kernel_rfl) (by kernel_rfl) (by kernel_rfl) rfl (by assumption) (fun w hS => by exact Y.add64 rfl rfl (by omega) (by omega)) ?_
      refine AW.take 15 rfl (by kernel_rfl) (by kernel_rfl) (by kernel_rfl) rfl (by assumption) (fun w hS => by exact Y.add64 rfl rfl (by omega) (by omega)) ?_
      refine AW.take 16 rfl (by kernel_rfl) (by kernel_rfl) (by kernel_rfl) rfl (by assumption) (fun w hS => Y.idx rfl rfl (hsS hS) (by omega) (by omega)) ?_
      refine AW.take 17 rfl (by kernel_rfl) (by kernel_rfl) (by kernel_rfl) rfl (by assumption) (fun w hS => Y.load1 rfl (hcb _ (by omega) (by omega) _ hS)) ?_
      refine AW.take 18 rfl (by kernel_rfl) (by kernel_rfl) (by kernel_rfl) rfl (by assumption) (fun w hS => Y.convW rfl) ?_
      refine AW.take 19 rfl (by kernel_rfl) (by kernel_rfl) (by kernel_rfl) rfl (by assumption) (fun w hS => Y.shl rfl rfl (by omega)) ?_
      refine AW.take 20 rfl (by kernel_rfl) (by kernel_rfl) (by kernel_rfl) rfl (by assumption) (fun w hS => Y.bits (by exact .inr (.inl rfl)) rfl rfl) ?_
      refine AW.take 21 rfl (by kernel_rfl) (by kernel_rfl) (by kernel_rfl) rfl (by assumption) (fun w hS => Y.move rfl) ?_
      refine AW.take 22 rfl (by kernel_rfl) (by kernel_rfl) (by kernel_rfl) rfl (by assumption) (fun w hS => Y.move rfl) ?_
      refine AW.take 23 rfl (by kernel_rfl) (by kernel_rfl) (by kernel_rfl) rfl (by assumption) (fun w hS => Y.move rfl) ?_
      refine AW.take 24 rfl (by kernel_rfl) (by kernel_rfl) (by kernel_rfl) rfl (by assumption) (fun w hS => by exact Y.mul64 rfl rfl (by omega) (by omega)) ?_
      refine AW.take 25 rfl (by kernel_rfl) (by kernel_rfl) (by kernel_rfl) rfl (by assumption) (fun w hS => by exact Y.add64 rfl rfl (by omega) (by omega)) ?_
      refine AW.take 26 rfl (by kernel_rfl) (by kernel_rfl) (by kernel_rfl) rfl (by assumption) (fun w hS => by exact Y.add64 rfl rfl (by omega) (by omega)) ?_
      refine AW.take 27 rfl (by kernel_rfl) (by kernel_rfl) (by kernel_rfl) rfl (by assumption) (fun w hS => Y.idx rfl rfl (hsS hS) (by omega) (by omega)) ?_
      refine AW.take 28 rfl (by kernel_rfl) (by kernel_rfl) (by kernel_rfl) rfl (by assumption) (fun w hS => Y.load1 rfl (hcb _ (by omega) (by omega) _ hS)) ?_
      refine AW.take 29 rfl (by kernel_rfl) (by kernel_rfl) (by kernel_rfl) rfl (by assumption) (fun w hS => Y.convW rfl) ?_
      refine AW.take 30 rfl (by kernel_rfl) (by kernel_rfl) (by kernel_rfl) rfl (by assumption) (fun w hS => Y.shl rfl rfl (by omega)) ?_
      refine AW.take 31 rfl (by kernel_rfl) (by kernel_rfl) (by kernel_rfl) rfl (by assumption) (fun w hS => Y.bits (by exact .inr (.inl rfl)) rfl rfl) ?_
      refine AW.take 32 rfl (by kernel_rfl) (by kernel_rfl) (by kernel_rfl) rfl (by assumption) (fun w hS => Y.move rfl) ?_
      refine AW.take 33 rfl (by kernel_rfl) (by kernel_rfl) (by kernel_rfl) rfl (by assumption) (fun w hS => Y.move rfl) ?_
      refine AW.take 34 rfl (by kernel_rfl) (by kernel_rfl) (by kernel_rfl) rfl (by assumption) (fun w hS => Y.move rfl) ?_
      refine AW.take 35 rfl (by kernel_rfl) (by kernel_rfl) (by kernel_rfl) rfl (by assumption) (fun w hS => by exact Y.mul64 rfl rfl (by omega) (by omega)) ?_
      refine AW.take 36 rfl (by kernel_rfl) (by kernel_rfl) (by kernel_rfl) rfl (by assumption) (fun w hS => by exact Y.add64 rfl rfl (by omega) (by omega)) ?_
      refine AW.take 37 rfl (by kernel_rfl) (by kernel_rfl) (by kernel_rfl) rfl (by assumption) (fun w hS => by exact Y.add64 rfl rfl (by omega) (by omega)) ?_
      refine AW.take 38 rfl (by kernel_rfl) (by kernel_rfl) (by kernel_rfl) rfl (by assumption) (fun w hS => Y.idx rfl rfl (hsS hS) (by omega) (by omega)) ?_
      refine AW.take 39 rfl (by kernel_rfl) (by kernel_rfl) (by kernel_rfl) rfl (by assumption) (fun w hS => Y.load1 rfl (hcb _ (by omega) (by omega) _ hS)) ?_
      refine AW.take 40 rfl (by kernel_rfl) (by kernel_rfl) (by kernel_rfl) rfl (by assumption) (fun w hS => Y.convW rfl) ?_
      refine AW.take 41 rfl (by kernel_rfl) (by kernel_rfl) (by kernel_rfl) rfl (by assumption) (fun w hS => Y.bits (by exact .inr (.inl rfl)) rfl rfl) ?_
      refine AW.take 42 rfl (by kernel_rfl) (by kernel_rfl) (by kernel_rfl) rfl (by assumption) (fun w hS => Y.idxP rfl rfl (by omega) (by omega)) ?_
      refine AW.next 43 rfl (by kernel_rfl) ?_
      refine RW.storeB rfl rfl rfl (hk7.at0 hwc) (by rw [hUw.1]; omega) (fun w8 hb8 hk8 => ?_)
      refine RW.nil (Nm.then ⟨hS.trans hk8 fun k h => .inl h, ?_⟩)
      refine AW.donew [2, 3, 4, 5, 6, 7, 8] (by kernel_rfl) ?_
      dsimp only [H.keep, H.look, H.Fr.put, Nat.beq]
      repeat' (first | (refine CL.region ?_) | (refine CL.done ?_) | (refine Nm.block ?_) | (refine Nm.then ?_) | (refine Gt.nil ?_; refine RW.nilw [0, 2, 3, 4, 5, 6, 7, 8, 9, 10, 11, 12, 13, 14, 15, 16, 17, 18, 19, 20, 21, 22, 23, 24, 32, 36, 83, 140, 243] ?_; dsimp only [H.keep, H.look, H.Fr.put, Nat.beq]) | (refine Gt.move ?_; refine RW.y (Y.move rfl) rfl ?_) | (refine Gt.assign ?_; refine RW.y (Y.assign rfl) rfl ?_) | (refine Gt.add ?_; (refine RW.y (Y.add64 rfl rfl (by omega) (by omega)) rfl ?_)))
      exact ⟨16 - (i + 1), _, rfl, rfl, rfl, by omega, i + 1, _, rfl, rfl, by omega, hb8, hUw.set _ _, (hkv.trans0 hk7).trans hk8 fun k h => .inl h⟩
    · rename_i g2
      refine CL.loopS [2, 3, 4, 5, 6, 7, 9] (fun k vals wx => ∃ (j : Nat) (wc : Array Value), vals = [.pointer (some ⟨w.heap.size, 0, none⟩), .pointer (some ⟨w1.heap.size, 0, none⟩), .pointer (some ⟨w3.heap.size, 0, none⟩), u, .int .i64 (at' : Int), .pointer (some ⟨wr.heap.size, 0, none⟩), .int .i64 (j : Int)] ∧ k = 64 - j ∧ 16 ≤ j ∧ j ≤ 64 ∧ wx.heap[wr.heap.size]? = some (.cells wc wrdT (0, 0)) ∧ Us wc 64 ∧ Kept (fun k => k = wr.heap.size) w6 wx) 48 ⟨_, rfl, 16, wc, rfl, rfl, by omega, by omega, hwc, hUw, hkv⟩ ?_
      clear hwc hUw hkv hsv wc
      rintro k vals wx ⟨j, wc, rfl, rfl, hj0, hj, hwc, hUw, hkx⟩
      dsimp only [List.zip, List.zipWith]
      repeat' (first | (refine CL.seq ?_) | (refine CL.region ?_) | (refine CL.skip ?_) | (refine CL.condP rfl (fun _ => ?_) (fun _ => ?_) <;> try (exfalso; omega)) | (refine CL.block ?_) | (refine CL.exit ?_) | (refine Ex.then ?_) | (refine Ex.hit ?_) | (refine Gt.nil ?_; refine RW.nilw [0, 2, 3, 4, 5, 6, 7, 8, 9, 10, 11, 12, 13, 14, 15, 16, 17, 18, 19, 20, 21, 22, 23, 24, 32, 36, 83, 140, 243] ?_; dsimp only [H.keep, H.look, H.Fr.put, Nat.beq]) | (refine Gt.move ?_; refine RW.y (Y.move rfl) rfl ?_) | (refine Gt.lss ?_; refine RW.y (Y.lss rfl rfl) rfl ?_))
      · rename_i g3
        obtain ⟨x15, h15⟩ := Us.at hUw (z := (j : Int) - 15) (by omega) (by omega)
        obtain ⟨x2, h2⟩ := Us.at hUw (z := (j : Int) - 2) (by omega) (by omega)
        obtain ⟨x16, h16⟩ := Us.at hUw (z := (j : Int) - 16) (by omega) (by omega)
        obtain ⟨x7, h7⟩ := Us.at hUw (z := (j : Int) - 7) (by omega) (by omega)
        refine CL.draw (fun w' => K0 wx w') (by kernel_rfl) (fun w7 hheap hk7 => ?_)
        have hS : K0 wx w7 := hk7
        skip
        refine AW.take 0 rfl (by kernel_rfl) (by kernel_rfl) (by kernel_rfl) rfl (by assumption) (fun w hS => Y.move rfl) ?_
        refine AW.take 1 rfl (by kernel_rfl) (by kernel_rfl) (by kernel_rfl) rfl (by assumption) (fun w hS => by exact Y.sub64 rfl rfl (by omega) (by omega)) ?_
        refine AW.take 2 rfl (by kernel_rfl) (by kernel_rfl) (by kernel_rfl) rfl (by assumption) (fun w hS => Y.idxP rfl rfl (by omega) (by omega)) ?_
        refine AW.take 3 rfl (by kernel_rfl) (by kernel_rfl) (by kernel_rfl) rfl (by assumption) (fun w hS => Y.load1A rfl (ldU (hS.at0 hwc) h15)) ?_
        refine AW.take 4 rfl (by kernel_rfl) (by kernel_rfl) (by kernel_rfl) rfl (by assumption) (fun w hS => Y.move rfl) ?_
        refine AW.take 5 rfl (by kernel_rfl) (by kernel_rfl) (by kernel_rfl) rfl (by assumption) (fun w hS => by exact Y.sub64 rfl rfl (by omega) (by omega)) ?_
        refine AW.take 6 rfl (by kernel_rfl) (by kernel_rfl) (by kernel_rfl) rfl (by assumption) (fun w hS => Y.idxP rfl rfl (by omega) (by omega)) ?_
        refine AW.take 7 rfl (by kernel_rfl) (by kernel_rfl) (by kernel_rfl) rfl (by assumption) (fun w hS => Y.load1A rfl (ldU (hS.at0 hwc) h2)) ?_
        refine AW.take 8 rfl (by kernel_rfl) (by kernel_rfl) (by kernel_rfl) rfl (by assumption) (fun w hS => Y.assign rfl) ?_
        refine AW.take 9 rfl (by kernel_rfl) (by kernel_rfl) (by kernel_rfl) rfl (by assumption) (fun w hS => Y.assign rfl) ?_
        refine AW.donew [2, 3, 4, 5, 6, 7, 9, 10, 11] (by kernel_rfl) ?_
        dsimp only [H.keep, H.look, H.Fr.put, Nat.beq]
        skip
        refine CL.draw (SS w7 wr.heap.size j wc) (by kernel_rfl) (fun w8 hheap8 hk8 => ?_)
        have hwc8 := (hk7.trans0 hk8).at0 hwc
        have hS : SS w7 wr.heap.size j wc w8 := ⟨hk8.of0, wc, hwc8, fun _ _ => rfl⟩
        skip
        refine AW.take 0 rfl (by kernel_rfl) (by kernel_rfl) (by kernel_rfl) rfl (by assumption) (fun w hS => Y.move rfl) ?_
        refine AW.take 1 rfl (by kernel_rfl) (by kernel_rfl) (by kernel_rfl) rfl (by assumption) (fun w hS => Y.move rfl) ?_
        refine AW.take 2 rfl (by kernel_rfl) (by kernel_rfl) (by kernel_rfl) rfl (by assumption) (fun w hS => by exact Y.sub64 rfl rfl (by omega) (by omega)) ?_
        refine AW.take 3 rfl (by kernel_rfl) (by kernel_rfl) (by kernel_rfl) rfl (by assumption) (fun w hS => Y.idxP rfl rfl (by omega) (by omega)) ?_
        refine AW.take 4 rfl (by kernel_rfl) (by kernel_rfl) (by kernel_rfl) rfl (by assumption) (fun w hS => Y.load1A rfl (hS.ld h16 (by omega))) ?_
        refine AW.take 5 rfl (by kernel_rfl) (by kernel_rfl) (by kernel_rfl) rfl (by assumption) (fun w hS => Y.move rfl) ?_
        refine AW.take 7 rfl (by kernel_rfl) (by kernel_rfl) (by kernel_rfl) rfl (by assumption) (fun w hS => Y.move rfl) ?_
        refine AW.take 10 rfl (by kernel_rfl) (by kernel_rfl) (by kernel_rfl) rfl (by assumption) (fun w hS => Y.move rfl) ?_
        refine AW.take 11 rfl (by kernel_rfl) (by kernel_rfl) (by kernel_rfl) rfl (by assumption) (fun w hS => Y.shr rfl rfl (by omega)) ?_
        refine AW.take 14 rfl (by kernel_rfl) (by kernel_rfl) (by kernel_rfl) rfl (by assumption) (fun w hS => Y.move rfl) ?_
        refine AW.take 15 rfl (by kernel_rfl) (by kernel_rfl) (by kernel_rfl) rfl (by assumption) (fun w hS => by exact Y.sub64 rfl rfl (by omega) (by omega)) ?_
        refine AW.take 16 rfl (by kernel_rfl) (by kernel_rfl) (by kernel_rfl) rfl (by assumption) (fun w hS => Y.idxP rfl rfl (by omega) (by omega)) ?_
        refine AW.take 17 rfl (by kernel_rfl) (by kernel_rfl) (by kernel_rfl) rfl (by assumption) (fun w hS => Y.load1A rfl (hS.ld h7 (by omega))) ?_
        refine AW.take 19 rfl (by kernel_rfl) (by kernel_rfl) (by kernel_rfl) rfl (by assumption) (fun w hS => Y.move rfl) ?_
        refine AW.take 21 rfl (by kernel_rfl) (by kernel_rfl) (by kernel_rfl) rfl (by assumption) (fun w hS => Y.move rfl) ?_
        refine AW.take 24 rfl (by kernel_rfl) (by kernel_rfl) (by kernel_rfl) rfl (by assumption) (fun w hS => Y.move rfl) ?_
        refine AW.take 25 rfl (by kernel_rfl) (by kernel_rfl) (by kernel_rfl) rfl (by assumption) (fun w hS => Y.shr rfl rfl (by omega)) ?_
        refine AW.next 6 rfl (by kernel_rfl) ?_
        refine RW.fn rfl rfl ((turn _ 7 (by omega) (by omega) w8).mono ?_)
        rintro e w9 ⟨hk9, y1, rfl⟩
        have hS := hS.keep0 hk9
        refine RW.nil (Nm.then ⟨hS, ?_⟩)
        skip
        refine AW.next 8 rfl (by kernel_rfl) ?_
        refine RW.fn rfl rfl ((turn _ 18 (by omega) (by omega) w9).mono ?_)
        rintro e w10 ⟨hk10, y2, rfl⟩
        have hS := hS.keep0 hk10
        refine RW.nil (Nm.then ⟨hS, ?_⟩)
        refine AW.take 9 rfl (by kernel_rfl) (by kernel_rfl) (by kernel_rfl) rfl (by assumption) (fun w hS => Y.bits (by exact .inr (.inr (.inl rfl))) rfl rfl) ?_
        refine AW.take 12 rfl (by kernel_rfl) (by kernel_rfl) (by kernel_rfl) rfl (by assumption) (fun w hS => Y.bits (by exact .inr (.inr (.inl rfl))) rfl rfl) ?_
        refine AW.take 13 rfl (by kernel_rfl) (by kernel_rfl) (by kernel_rfl) rfl (by assumption) (fun w hS => Y.add rfl rfl) ?_
        refine AW.take 18 rfl (by kernel_rfl) (by kernel_rfl) (by kernel_rfl) rfl (by assumption) (fun w hS => Y.add rfl rfl) ?_
        refine AW.next 20 rfl (by kernel_rfl) ?_
        refine RW.fn rfl rfl ((turn _ 17 (by omega) (by omega) w10).mono ?_)
        rintro e w11 ⟨hk11, y3, rfl⟩
        have hS := hS.keep0 hk11
        refine RW.nil (Nm.then ⟨hS, ?_⟩)
        skip
        refine AW.next 22 rfl (by kernel_rfl) ?_
        refine RW.fn rfl rfl ((turn _ 19 (by omega) (by omega) w11).mono ?_)
        rintro e w12 ⟨hk12, y4, rfl⟩
        have hS := hS.keep0 hk12
        refine RW.nil (Nm.then ⟨hS, ?_⟩)
        refine AW.take 23 rfl (by kernel_rfl) (by kernel_rfl) (by kernel_rfl) rfl (by assumption) (fun w hS => Y.bits (by exact .inr (.inr (.inl rfl))) rfl rfl) ?_
        refine AW.take 26 rfl (by kernel_rfl) (by kernel_rfl) (by kernel_rfl) rfl (by assumption) (fun w hS => Y.bits (by exact .inr (.inr (.inl rfl))) rfl rfl) ?_
        refine AW.take 27 rfl (by kernel_rfl) (by kernel_rfl) (by kernel_rfl) rfl (by assumption) (fun w hS => Y.add rfl rfl) ?_
        refine AW.take 28 rfl (by kernel_rfl) (by kernel_rfl) (by kernel_rfl) rfl (by assumption) (fun w hS => Y.idxP rfl rfl (by omega) (by omega)) ?_
        refine AW.next 29 rfl (by kernel_rfl) ?_
        have hk712 := ((hk8.trans0 hk9).trans0 hk10).trans0 (hk11.trans0 hk12)
        refine RW.storeB rfl rfl rfl ((hk7.trans0 hk712).at0 hwc) (by rw [hUw.1]; omega) (fun w13 hb13 hk13 => ?_)
        refine RW.nil (Nm.then ⟨⟨hk712.of0.trans hk13 fun k h => .inl h, _, hb13, fun i hi => ?_⟩, ?_⟩)
        · rw [Array.getElem?_setIfInBounds_ne (by omega)]
        refine AW.donew [2, 3, 4, 5, 6, 7, 9] (by kernel_rfl) ?_
        dsimp only [H.keep, H.look, H.Fr.put, Nat.beq]
        repeat' (first | (refine CL.region ?_) | (refine CL.done ?_) | (refine Nm.block ?_) | (refine Nm.then ?_) | (refine Gt.nil ?_; refine RW.nilw [0, 2, 3, 4, 5, 6, 7, 8, 9, 10, 11, 12, 13, 14, 15, 16, 17, 18, 19, 20, 21, 22, 23, 24, 32, 36, 83, 140, 243] ?_; dsimp only [H.keep, H.look, H.Fr.put, Nat.beq]) | (refine Gt.move ?_; refine RW.y (Y.move rfl) rfl ?_) | (refine Gt.assign ?_; refine RW.y (Y.assign rfl) rfl ?_) | (refine Gt.add ?_; (refine RW.y (Y.add64 rfl rfl (by omega) (by omega)) rfl ?_)))
        exact ⟨64 - (j + 1), _, rfl, rfl, rfl, by omega, j + 1, _, rfl, rfl, by omega, by omega, hb13, hUw.set _ _, (hkx.trans0 (hk7.trans0 hk712)).trans hk13 fun k h => .inl h⟩
      · rename_i g3
        obtain ⟨a0, a1, a2, a3, a4, a5, a6, a7, rfl⟩ := Us.eight hU
        have hzx := hkx.size
        have hsx := (hk6.at0 hcs)
        have hsx := hkx.at hsx fun c => by have c' : w1.heap.size = wr.heap.size := c; omega
        have htx := hkx.at (hk6.at0 htr) fun c => by have c' : w3.heap.size = wr.heap.size := c; omega
        refine CL.draw (fun w' => K0 wx w') (by kernel_rfl) (fun w7 hheap hk7 => ?_)
        have hS : K0 wx w7 := hk7
        skip
        refine AW.take 0 rfl (by kernel_rfl) (by kernel_rfl) (by kernel_rfl) rfl (by assumption) (fun w hS => Y.idxP rfl rfl (by omega) (by omega)) ?_
        refine AW.take 1 rfl (by kernel_rfl) (by kernel_rfl) (by kernel_rfl) rfl (by assumption) (fun w hS => Y.loadB rfl (hS.at0 hsx) rfl) ?_
        refine AW.take 2 rfl (by kernel_rfl) (by kernel_rfl) (by kernel_rfl) rfl (by assumption) (fun w hS => Y.idxP rfl rfl (by omega) (by omega)) ?_
        refine AW.take 3 rfl (by kernel_rfl) (by kernel_rfl) (by kernel_rfl) rfl (by assumption) (fun w hS => Y.loadB rfl (hS.at0 hsx) rfl) ?_
        refine AW.take 4 rfl (by kernel_rfl) (by kernel_rfl) (by kernel_rfl) rfl (by assumption) (fun w hS => Y.idxP rfl rfl (by omega) (by omega)) ?_
        refine AW.take 5 rfl (by kernel_rfl) (by kernel_rfl) (by kernel_rfl) rfl (by assumption) (fun w hS => Y.loadB rfl (hS.at0 hsx) rfl) ?_
        refine AW.take 6 rfl (by kernel_rfl) (by kernel_rfl) (by kernel_rfl) rfl (by assumption) (fun w hS => Y.idxP rfl rfl (by omega) (by omega)) ?_
        refine AW.take 7 rfl (by kernel_rfl) (by kernel_rfl) (by kernel_rfl) rfl (by assumption) (fun w hS => Y.loadB rfl (hS.at0 hsx) rfl) ?_
        refine AW.take 8 rfl (by kernel_rfl) (by kernel_rfl) (by kernel_rfl) rfl (by assumption) (fun w hS => Y.idxP rfl rfl (by omega) (by omega)) ?_
        refine AW.take 9 rfl (by kernel_rfl) (by kernel_rfl) (by kernel_rfl) rfl (by assumption) (fun w hS => Y.loadB rfl (hS.at0 hsx) rfl) ?_
        refine AW.take 10 rfl (by kernel_rfl) (by kernel_rfl) (by kernel_rfl) rfl (by assumption) (fun w hS => Y.idxP rfl rfl (by omega) (by omega)) ?_
        refine AW.take 11 rfl (by kernel_rfl) (by kernel_rfl) (by kernel_rfl) rfl (by assumption) (fun w hS => Y.loadB rfl (hS.at0 hsx) rfl) ?_
        refine AW.take 12 rfl (by kernel_rfl) (by kernel_rfl) (by kernel_rfl) rfl (by assumption) (fun w hS => Y.idxP rfl rfl (by omega) (by omega)) ?_
        refine AW.take 13 rfl (by kernel_rfl) (by kernel_rfl) (by kernel_rfl) rfl (by assumption) (fun w hS => Y.loadB rfl (hS.at0 hsx) rfl) ?_
        refine AW.take 14 rfl (by kernel_rfl) (by kernel_rfl) (by kernel_rfl) rfl (by assumption) (fun w hS => Y.idxP rfl rfl (by omega) (by omega)) ?_
        refine AW.take 15 rfl (by kernel_rfl) (by kernel_rfl) (by kernel_rfl) rfl (by assumption) (fun w hS => Y.loadB rfl (hS.at0 hsx) rfl) ?_
        refine AW.take 16 rfl (by kernel_rfl) (by kernel_rfl) (by kernel_rfl) rfl (by assumption) (fun w hS => Y.assign rfl) ?_
        refine AW.take 17 rfl (by kernel_rfl) (by kernel_rfl) (by kernel_rfl) rfl (by assumption) (fun w hS => Y.assign rfl) ?_
        refine AW.take 18 rfl (by kernel_rfl) (by kernel_rfl) (by kernel_rfl) rfl (by assumption) (fun w hS => Y.assign rfl) ?_
        refine AW.take 19 rfl (by kernel_rfl) (by kernel_rfl) (by kernel_rfl) rfl (by assumption) (fun w hS => Y.assign rfl) ?_
        refine AW.take 20 rfl (by kernel_rfl) (by kernel_rfl) (by kernel_rfl) rfl (by assumption) (fun w hS => Y.assign rfl) ?_
        refine AW.take 21 rfl (by kernel_rfl) (by kernel_rfl) (by kernel_rfl) rfl (by assumption) (fun w hS => Y.assign rfl) ?_
        refine AW.take 22 rfl (by kernel_rfl) (by kernel_rfl) (by kernel_rfl) rfl (by assumption) (fun w hS => Y.assign rfl) ?_
        refine AW.take 23 rfl (by kernel_rfl) (by kernel_rfl) (by kernel_rfl) rfl (by assumption) (fun w hS => Y.assign rfl) ?_
        refine AW.donew [2, 3, 4, 5, 6, 7, 12, 13, 14, 15, 16, 17, 18, 19] (by kernel_rfl) ?_
        dsimp only [H.keep, H.look, H.Fr.put, Nat.beq]
        repeat' (first | (refine CL.seq ?_) | (refine CL.region ?_) | (refine CL.block ?_) | (refine Gt.nil ?_; refine RW.nilw [0, 2, 3, 4, 5, 6, 7, 8, 9, 10, 11, 12, 13, 14, 15, 16, 17, 18, 19, 20, 21, 22, 23, 24, 32, 36, 83, 140, 243] ?_; dsimp only [H.keep, H.look, H.Fr.put, Nat.beq]) | (refine Gt.assign ?_; refine RW.y (Y.assign rfl) rfl ?_))
        have hs7 := hk7.at0 hsx
        have ht7 := hk7.at0 htx
        have hw7 := hk7.at0 hwc
        refine CL.loopS [2, 3, 4, 5, 6, 7, 12, 13, 14, 15, 16, 17, 18, 19, 20] (fun k vals wy => ∃ (n : Nat) (b0 b1 b2 b3 b4 b5 b6 b7 : Int), vals = [.pointer (some ⟨w.heap.size, 0, none⟩), .pointer (some ⟨w1.heap.size, 0, none⟩), .pointer (some ⟨w3.heap.size, 0, none⟩), u, .int .i64 (at' : Int), .pointer (some ⟨wr.heap.size, 0, none⟩), .int .u32 b0, .int .u32 b1, .int .u32 b2, .int .u32 b3, .int .u32 b4, .int .u32 b5, .int .u32 b6, .int .u32 b7, .int .i64 (n : Int)] ∧ k = 64 - n ∧ n ≤ 64 ∧ K0 w7 wy) 64 ⟨_, rfl, 0, _, _, _, _, _, _, _, _, rfl, rfl, Nat.zero_le _, Kept.refl _ _⟩ ?_
        rintro k vals wy ⟨n, b0, b1, b2, b3, b4, b5, b6, b7, rfl, rfl, hn, hky⟩
        dsimp only [List.zip, List.zipWith]
        repeat' (first | (refine CL.seq ?_) | (refine CL.region ?_) | (refine CL.skip ?_) | (refine CL.condP rfl (fun _ => ?_) (fun _ => ?_) <;> try (exfalso; omega)) | (refine CL.block ?_) | (refine CL.exit ?_) | (refine Ex.then ?_) | (refine Ex.hit ?_) | (refine Gt.nil ?_; refine RW.nilw [0, 2, 3, 4, 5, 6, 7, 8, 9, 10, 11, 12, 13, 14, 15, 16, 17, 18, 19, 20, 21, 22, 23, 24, 32, 36, 83, 140, 243] ?_; dsimp only [H.keep, H.look, H.Fr.put, Nat.beq]) | (refine Gt.move ?_; refine RW.y (Y.move rfl) rfl ?_) | (refine Gt.idx ?_; (refine RW.y (Y.idxP rfl rfl (by omega) (by omega)) rfl ?_)) | (refine Gt.lss ?_; refine RW.y (Y.lss rfl rfl) rfl ?_))
        · rename_i g4
          have hty := hky.at0 ht7
          have hwy := hky.at0 hw7
          obtain ⟨yt, hyt⟩ := Us.at hUt (z := (n : Int)) (by omega) (by omega)
          obtain ⟨yw, hyw⟩ := Us.at hUw (z := (n : Int)) (by omega) (by omega)
          refine CL.draw (fun w' => K0 wy w') (by kernel_rfl) (fun y1 hheapy hy1 => ?_)
          have hS : K0 wy y1 := hy1
          skip
          refine AW.take 0 rfl (by kernel_rfl) (by kernel_rfl) (by kernel_rfl) rfl (by assumption) (fun w hS => Y.move rfl) ?_
          refine AW.take 1 rfl (by kernel_rfl) (by kernel_rfl) (by kernel_rfl) rfl (by assumption) (fun w hS => Y.move rfl) ?_
          refine AW.take 3 rfl (by kernel_rfl) (by kernel_rfl) (by kernel_rfl) rfl (by assumption) (fun w hS => Y.move rfl) ?_
          refine AW.take 6 rfl (by kernel_rfl) (by kernel_rfl) (by kernel_rfl) rfl (by assumption) (fun w hS => Y.move rfl) ?_
          refine AW.take 10 rfl (by kernel_rfl) (by kernel_rfl) (by kernel_rfl) rfl (by assumption) (fun w hS => Y.move rfl) ?_
          refine AW.take 11 rfl (by kernel_rfl) (by kernel_rfl) (by kernel_rfl) rfl (by assumption) (fun w hS => Y.move rfl) ?_
          refine AW.take 12 rfl (by kernel_rfl) (by kernel_rfl) (by kernel_rfl) rfl (by assumption) (fun w hS => Y.bits (by exact .inl rfl) rfl rfl) ?_
          refine AW.take 13 rfl (by kernel_rfl) (by kernel_rfl) (by kernel_rfl) rfl (by assumption) (fun w hS => Y.move rfl) ?_
          refine AW.take 14 rfl (by kernel_rfl) (by kernel_rfl) (by kernel_rfl) rfl (by assumption) (fun w hS => Y.com rfl) ?_
          refine AW.take 15 rfl (by kernel_rfl) (by kernel_rfl) (by kernel_rfl) rfl (by assumption) (fun w hS => Y.move rfl) ?_
          refine AW.take 16 rfl (by kernel_rfl) (by kernel_rfl) (by kernel_rfl) rfl (by assumption) (fun w hS => Y.bits (by exact .inl rfl) rfl rfl) ?_
          refine AW.take 17 rfl (by kernel_rfl) (by kernel_rfl) (by kernel_rfl) rfl (by assumption) (fun w hS => Y.bits (by exact .inr (.inr (.inl rfl))) rfl rfl) ?_
          refine AW.take 19 rfl (by kernel_rfl) (by kernel_rfl) (by kernel_rfl) rfl (by assumption) (fun w hS => Y.move rfl) ?_
          refine AW.take 20 rfl (by kernel_rfl) (by kernel_rfl) (by kernel_rfl) rfl (by assumption) (fun w hS => Y.idxP rfl rfl (by omega) (by omega)) ?_
          refine AW.take 21 rfl (by kernel_rfl) (by kernel_rfl) (by kernel_rfl) rfl (by assumption) (fun w hS => Y.load1A rfl (ldU (hS.at0 hty) hyt)) ?_
          refine AW.take 23 rfl (by kernel_rfl) (by kernel_rfl) (by kernel_rfl) rfl (by assumption) (fun w hS => Y.move rfl) ?_
          refine AW.take 24 rfl (by kernel_rfl) (by kernel_rfl) (by kernel_rfl) rfl (by assumption) (fun w hS => Y.idxP rfl rfl (by omega) (by omega)) ?_
          refine AW.take 25 rfl (by kernel_rfl) (by kernel_rfl) (by kernel_rfl) rfl (by assumption) (fun w hS => Y.load1A rfl (ldU (hS.at0 hwy) hyw)) ?_
          refine AW.next 2 rfl (by kernel_rfl) ?_
          refine RW.fn rfl rfl ((turn _ 6 (by omega) (by omega) y1).mono ?_)
          rintro e y2 ⟨hy2, q1, rfl⟩
          refine RW.nil (Nm.then (rebase0 hS hy2 fun hS => ?_))
          skip
          refine AW.next 4 rfl (by kernel_rfl) ?_
          refine RW.fn rfl rfl ((turn _ 11 (by omega) (by omega) y2).mono ?_)
          rintro e y3 ⟨hy3, q2, rfl⟩
          refine RW.nil (Nm.then (rebase0 hS hy3 fun hS => ?_))
          refine AW.take 5 rfl (by kernel_rfl) (by kernel_rfl) (by kernel_rfl) rfl (by assumption) (fun w hS => Y.bits (by exact .inr (.inr (.inl rfl))) rfl rfl) ?_
          refine AW.next 7 rfl (by kernel_rfl) ?_
          refine RW.fn rfl rfl ((turn _ 25 (by omega) (by omega) y3).mono ?_)
          rintro e y4 ⟨hy4, q3, rfl⟩
          refine RW.nil (Nm.then (rebase0 hS hy4 fun hS => ?_))
          refine AW.take 8 rfl (by kernel_rfl) (by kernel_rfl) (by kernel_rfl) rfl (by assumption) (fun w hS => Y.bits (by exact .inr (.inr (.inl rfl))) rfl rfl) ?_
          refine AW.take 9 rfl (by kernel_rfl) (by kernel_rfl) (by kernel_rfl) rfl (by assumption) (fun w hS => Y.add rfl rfl) ?_
          refine AW.take 18 rfl (by kernel_rfl) (by kernel_rfl) (by kernel_rfl) rfl (by assumption) (fun w hS => Y.add rfl rfl) ?_
          refine AW.take 22 rfl (by kernel_rfl) (by kernel_rfl) (by kernel_rfl) rfl (by assumption) (fun w hS => Y.add rfl rfl) ?_
          refine AW.take 26 rfl (by kernel_rfl) (by kernel_rfl) (by kernel_rfl) rfl (by assumption) (fun w hS => Y.add rfl rfl) ?_
          refine AW.take 27 rfl (by kernel_rfl) (by kernel_rfl) (by kernel_rfl) rfl (by assumption) (fun w hS => Y.assign rfl) ?_
          refine AW.donew [2, 3, 4, 5, 6, 7, 12, 13, 14, 15, 16, 17, 18, 19, 20, 21] (by kernel_rfl) ?_
          dsimp only [H.keep, H.look, H.Fr.put, Nat.beq]
          have hyy := ((hy1.trans0 hy2).trans0 hy3).trans0 hy4
          repeat' (first | (refine CL.seq ?_) | (refine CL.region ?_) | (refine Gt.move ?_; refine RW.y (Y.move rfl) rfl ?_))
          refine RW.fn rfl rfl ((turn _ 2 (by omega) (by omega) y4).mono ?_)
          rintro e y5 ⟨hy5, q4, rfl⟩
          repeat' ((refine Gt.move ?_; refine RW.y (Y.move rfl) rfl ?_))
          refine RW.fn rfl rfl ((turn _ 13 (by omega) (by omega) y5).mono ?_)
          rintro e y6 ⟨hy6, q5, rfl⟩
          repeat' (first | (refine Gt.move ?_; refine RW.y (Y.move rfl) rfl ?_) | (refine Gt.xor ?_; refine RW.y (Y.bits (by exact .inr (.inr (.inl rfl))) rfl rfl) rfl ?_))
          refine RW.fn rfl rfl ((turn _ 22 (by omega) (by omega) y6).mono ?_)
          rintro e y7 ⟨hy7, q6, rfl⟩
          repeat' (first | (refine CL.region ?_) | (refine CL.done ?_) | (refine Nm.block ?_) | (refine Nm.then ?_) | (refine Gt.nil ?_; refine RW.nilw [0, 2, 3, 4, 5, 6, 7, 8, 9, 10, 11, 12, 13, 14, 15, 16, 17, 18, 19, 20, 21, 22, 23, 24, 32, 36, 83, 140, 243] ?_; dsimp only [H.keep, H.look, H.Fr.put, Nat.beq]) | (refine Gt.move ?_; refine RW.y (Y.move rfl) rfl ?_) | (refine Gt.assign ?_; refine RW.y (Y.assign rfl) rfl ?_) | (refine Gt.add ?_; first | (refine RW.y (Y.add64 rfl rfl (by omega) (by omega)) rfl ?_) | (refine RW.y (Y.add rfl rfl) rfl ?_)) | (refine Gt.xor ?_; refine RW.y (Y.bits (by exact .inr (.inr (.inl rfl))) rfl rfl) rfl ?_) | (refine Gt.and ?_; refine RW.y (Y.bits (by exact .inl rfl) rfl rfl) rfl ?_))
          exact ⟨64 - (n + 1), _, rfl, rfl, rfl, by omega, n + 1, _, _, _, _, _, _, _, _, rfl, rfl, by omega, (hky.trans0 hyy).trans0 ((hy5.trans0 hy6).trans0 hy7)⟩
        · rename_i g4
          have hsy := hky.at0 hs7
          repeat' (first | (refine Gt.move ?_; refine RW.y (Y.move rfl) rfl ?_) | (refine Gt.idx ?_; (refine RW.y (Y.idxP rfl rfl (by omega) (by omega)) rfl ?_)) | (refine Gt.load ?_; refine RW.y (Y.loadB rfl (by assumption) rfl) rfl ?_) | (refine Gt.add ?_; (refine RW.y (Y.add rfl rfl) rfl ?_)))
          refine RW.storeB rfl rfl rfl hsy (show (_ : Nat) < 8 from by decide) (fun v1 hv1 hkv1 => ?_)
          repeat' ((refine Gt.idx ?_; (refine RW.y (Y.idxP rfl rfl (by omega) (by omega)) rfl ?_)))
          refine RW.storeB rfl rfl rfl hv1 (show (_ : Nat) < 8 from by decide) (fun v2 hv2 hkv2 => ?_)
          repeat' ((refine Gt.idx ?_; (refine RW.y (Y.idxP rfl rfl (by omega) (by omega)) rfl ?_)))
          refine RW.storeB rfl rfl rfl hv2 (show (_ : Nat) < 8 from by decide) (fun v3 hv3 hkv3 => ?_)
          repeat' ((refine Gt.idx ?_; (refine RW.y (Y.idxP rfl rfl (by omega) (by omega)) rfl ?_)))
          refine RW.storeB rfl rfl rfl hv3 (show (_ : Nat) < 8 from by decide) (fun v4 hv4 hkv4 => ?_)
          repeat' (first | (refine CL.region ?_) | (refine Gt.nil ?_; refine RW.nilw [0, 2, 3, 4, 5, 6, 7, 8, 9, 10, 11, 12, 13, 14, 15, 16, 17, 18, 19, 20, 21, 22, 23, 24, 32, 36, 83, 140, 243] ?_; dsimp only [H.keep, H.look, H.Fr.put, Nat.beq]) | (refine Gt.move ?_; refine RW.y (Y.move rfl) rfl ?_) | (refine Gt.idx ?_; (refine RW.y (Y.idxP rfl rfl (by omega) (by omega)) rfl ?_)) | (refine Gt.load ?_; refine RW.y (Y.loadB rfl (by assumption) rfl) rfl ?_) | (refine Gt.add ?_; (refine RW.y (Y.add rfl rfl) rfl ?_)))
          refine RW.storeB rfl rfl rfl hv4 (show (_ : Nat) < 8 from by decide) (fun v5 hv5 hkv5 => ?_)
          repeat' ((refine Gt.idx ?_; (refine RW.y (Y.idxP rfl rfl (by omega) (by omega)) rfl ?_)))
          refine RW.storeB rfl rfl rfl hv5 (show (_ : Nat) < 8 from by decide) (fun v6 hv6 hkv6 => ?_)
          repeat' ((refine Gt.idx ?_; (refine RW.y (Y.idxP rfl rfl (by omega) (by omega)) rfl ?_)))
          refine RW.storeB rfl rfl rfl hv6 (show (_ : Nat) < 8 from by decide) (fun v7 hv7 hkv7 => ?_)
          repeat' ((refine Gt.idx ?_; (refine RW.y (Y.idxP rfl rfl (by omega) (by omega)) rfl ?_)))
          refine RW.storeB rfl rfl rfl hv7 (show (_ : Nat) < 8 from by decide) (fun v8 hv8 hkv8 => ?_)
          repeat' (first | (refine CL.region ?_) | (refine CL.done ?_) | (refine Nm.block ?_) | (refine Nm.then ?_) | (refine Gt.nil ?_; refine RW.nilw [0, 2, 3, 4, 5, 6, 7, 8, 9, 10, 11, 12, 13, 14, 15, 16, 17, 18, 19, 20, 21, 22, 23, 24, 32, 36, 83, 140, 243] ?_; dsimp only [H.keep, H.look, H.Fr.put, Nat.beq]) | (refine Gt.move ?_; refine RW.y (Y.move rfl) rfl ?_) | (refine Gt.assign ?_; refine RW.y (Y.assign rfl) rfl ?_) | (refine Gt.add ?_; (refine RW.y (Y.add64 rfl rfl (by omega) (by omega)) rfl ?_)))
          have hkk : Kept (fun k => k = w1.heap.size) wy v8 := ((((((hkv1.trans hkv2 fun k h => .inl h).trans hkv3 fun k h => .inl h).trans hkv4 fun k h => .inl h).trans hkv5 fun k h => .inl h).trans hkv6 fun k h => .inl h).trans hkv7 fun k h => .inl h).trans hkv8 fun k h => .inl h
          exact ⟨m.length + 64 - (at' + 64), _, rfl, rfl, rfl, by omega, at' + 64, _, rfl, rfl, by omega, by omega, hv8, (((((((hU.set _ _).set _ _).set _ _).set _ _).set _ _).set _ _).set _ _).set _ _, (((hkr.trans0 hk6).trans hkx fun k h => .inr (by have h' : k = wr.heap.size := h; omega)).trans0 (hk7.trans0 hky)).trans hkk fun k h => .inl h⟩
  · rename_i g1
    refine RW.alloc rfl (fun w6 hb6 hk6 hlt6 => ?_)
    have hs6 := hk6.at0 hcs
    have hR6 := hk6.at0 hRr
    repeat' (first | (refine CL.seq ?_) | (refine CL.region ?_) | (refine CL.block ?_) | (refine Gt.nil ?_; refine RW.nilw [0, 2, 3, 4, 5, 6, 7, 8, 9, 10, 11, 12, 13, 14, 15, 16, 17, 18, 19, 20, 21, 22, 23, 24, 32, 36, 83, 140, 243] ?_; dsimp only [H.keep, H.look, H.Fr.put, Nat.beq]) | (refine Gt.assign ?_; refine RW.y (Y.assign rfl) rfl ?_))
    refine CL.loopS [2, 3, 23, 24] (fun k vals wv => ∃ (i : Nat) (kc : Array Value), vals = [.pointer (some ⟨w.heap.size, 0, none⟩), .pointer (some ⟨w1.heap.size, 0, none⟩), .pointer (some ⟨wr.heap.size, 0, none⟩), .int .i64 (i : Int)] ∧ k = 32 - i ∧ i ≤ 32 ∧ wv.heap[wr.heap.size]? = some (.cells kc keyT (0, 0)) ∧ Bs kc 32 ∧ Kept (fun k => k = wr.heap.size) w6 wv) 32 ⟨_, rfl, 0, _, rfl, rfl, Nat.zero_le _, hb6, Bs.rep 32, Kept.refl _ _⟩ ?_
    rintro k vals wv ⟨i, kc, rfl, rfl, hi, hkc, hB, hkv⟩
    dsimp only [List.zip, List.zipWith]
    have hsv := hkv.at hs6 fun c => by have c' : w1.heap.size = wr.heap.size := c; omega
    have hRv := hkv.at hR6 fun c => by have c' : w.heap.size = wr.heap.size := c; omega
    repeat' (first | (refine CL.seq ?_) | (refine CL.region ?_) | (refine CL.skip ?_) | (refine CL.condP rfl (fun _ => ?_) (fun _ => ?_) <;> try (exfalso; omega)) | (refine CL.block ?_) | (refine CL.exit ?_) | (refine Ex.then ?_) | (refine Ex.hit ?_) | (refine Gt.nil ?_; refine RW.nilw [0, 2, 3, 4, 5, 6, 7, 8, 9, 10, 11, 12, 13, 14, 15, 16, 17, 18, 19, 20, 21, 22, 23, 24, 32, 36, 83, 140, 243] ?_; dsimp only [H.keep, H.look, H.Fr.put, Nat.beq]) | (refine Gt.move ?_; refine RW.y (Y.move rfl) rfl ?_) | (refine Gt.idx ?_; (refine RW.y (Y.idxP rfl rfl (by omega) (by omega)) rfl ?_)) | (refine Gt.lss ?_; refine RW.y (Y.lss rfl rfl) rfl ?_) | (refine Gt.quo ?_; refine RW.y (Y.quoP rfl rfl (by omega) (by omega) (by exact wrap64_id (by omega) (by omega))) rfl ?_))
    · rename_i g2
      obtain ⟨x, hx⟩ := Us.at hU (z := (i : Int) / 4) (by omega) (by omega)
      refine RW.y (Y.load1A rfl (ldU hsv hx)) rfl ?_
      repeat' (first | (refine RW.y (Y.convW rfl) rfl ?_) | (refine Gt.move ?_; refine RW.y (Y.move rfl) rfl ?_) | (refine Gt.idx ?_; (refine RW.y (Y.idxP rfl rfl (by omega) (by omega)) rfl ?_)) | (refine Gt.mul ?_; (refine RW.y (Y.mul64 rfl rfl (by omega) (by omega)) rfl ?_)) | (refine Gt.sub ?_; refine RW.y (Y.sub64 rfl rfl (by omega) (by omega)) rfl ?_) | (refine Gt.shr ?_; refine RW.y (Y.shr rfl rfl (by omega)) rfl ?_) | (refine Gt.rem ?_; (refine RW.y (Y.remP rfl rfl (by omega) (by omega)) rfl ?_)))
      obtain ⟨c, hc⟩ := byte_of (x.fdiv (2 ^ (min (24 - 8 * ((i : Int) % 4)).toNat IntKind.u32.bits)))
      rw [hc]
      refine RW.storeB rfl rfl rfl hkc (by rw [hB.1]; omega) (fun w8 hb8 hk8 => ?_)
      repeat' (first | (refine CL.region ?_) | (refine CL.done ?_) | (refine Nm.block ?_) | (refine Nm.then ?_) | (refine Gt.nil ?_; refine RW.nilw [0, 2, 3, 4, 5, 6, 7, 8, 9, 10, 11, 12, 13, 14, 15, 16, 17, 18, 19, 20, 21, 22, 23, 24, 32, 36, 83, 140, 243] ?_; dsimp only [H.keep, H.look, H.Fr.put, Nat.beq]) | (refine Gt.move ?_; refine RW.y (Y.move rfl) rfl ?_) | (refine Gt.assign ?_; refine RW.y (Y.assign rfl) rfl ?_) | (refine Gt.add ?_; (refine RW.y (Y.add64 rfl rfl (by omega) (by omega)) rfl ?_)))
      exact ⟨32 - (i + 1), _, rfl, rfl, rfl, by omega, i + 1, _, rfl, rfl, by omega, hb8, Bs.set hB _ _, hkv.trans hk8 fun k h => .inl h⟩
    · rename_i g2
      refine RW.y (Y.loadBlock rfl hkc (by rw [hB.1]; rfl)) rfl ?_
      refine RW.storeBlock rfl rfl (by rw [hB.1]; rfl) (Bs.ones hB) hRv rfl (fun w7 hb7 hk7 => ?_)
      repeat' (first | (refine CL.ret ?_) | (refine Gt.nil ?_; refine RW.nilw [0, 2, 3, 4, 5, 6, 7, 8, 9, 10, 11, 12, 13, 14, 15, 16, 17, 18, 19, 20, 21, 22, 23, 24, 32, 36, 83, 140, 243] ?_; dsimp only [H.keep, H.look, H.Fr.put, Nat.beq]))
      have hc : kc = kc.toList.toArray := by simp
      exact FQ.res1 (v := .agg kc.toList.toArray) rfl rfl ⟨⟨_, rfl, load_block (by rw [← hc]; exact hb7) (by rw [Array.length_toList]; exact hB.1)⟩, trivial⟩ ⟨(((hK5.trans hkr fun k h => .inr (by have h' : k = w1.heap.size := h; omega)).trans0 hk6).trans hkv fun k h => .inr (by have h' : k = wr.heap.size := h; omega)).trans hk7 fun k h => .inr (by have h' : k = w.heap.size := h; omega), kc, by rw [← hc], hB⟩
end Go.Proofs.Ytlbegmpikggmlaa.Ne

namespace Go.Proofs.Ytlbegmpikggmlaa.Ne
open Go.RowKit H S Ve
attribute [local irreducible] H.CL H.RW H.CW H.Yd H.thenK H.blockQ Go.Calls

/-- Texts of bytes in memory. -/
def ArcsAt (w : World) (v : Value) (l : List (List UInt8)) : Prop := ∃ L : List (List UInt8 × Value), L.map (·.1) = l ∧ Sl w 1 v L.length (L.map (·.2)) ∧ ∀ x ∈ L, Sl w 1 x.2 x.1.length (bv x.1)
theorem ArcsAt.keep0 {w w' : World} {v : Value} {l : List (List UInt8)} (h : ArcsAt w v l) (k : K0 w w') : ArcsAt w' v l := by
  obtain ⟨L, h1, h2, h3⟩ := h; exact ⟨L, h1, h2.keep0 k, fun x hx => (h3 x hx).keep0 k⟩
theorem flat_take (L : List (List UInt8 × Value)) (i : Nat) : ((L.take i).map (·.1)).flatten.length ≤ (L.map (·.1)).flatten.length := by
  conv => rhs; rw [← List.take_append_drop i L]
  rw [List.map_append, List.flatten_append, List.length_append]; omega
theorem refOf (v : Value) (l : List (List UInt8)) (w : World) (hv : ArcsAt w v l) (hl : l.flatten.length ≤ 1000000) : Calls Try.prog 24 #[v] w fun e w' => K0 w w' ∧ ∃ c, e = .returned (.agg c) ∧ Bs c 32 := by
  obtain ⟨L, rfl, hs, hm⟩ := hv
  have hmx : L.length ≤ 9223372036854775807 := by have := hs.2.1; simpa [maxLen] using this
  refine H.enter Try.func24 Try.ntmps24 rfl rfl ?_; dsimp only [H.args]
  repeat' (first | (refine CL.seq ?_) | (refine CL.region ?_))
  refine RW.alloc rfl (fun w1 hb1 hk1 hlt1 => ?_)
  have hs1 := hs.keep0 hk1
  repeat' (first | (refine CL.seq ?_) | (refine CL.region ?_) | (refine CL.block ?_) | (refine Gt.nil ?_; refine RW.nilw [0, 2, 3, 4, 8] ?_; dsimp only [H.keep, H.look, H.Fr.put, Nat.beq]) | (refine Gt.assign ?_; refine RW.y (Y.assign rfl) rfl ?_))
  refine CL.loopS [0, 2, 3, 4] (fun k vals wr => ∃ (i : Nat) (u : Value), vals = [v, .pointer (some ⟨w.heap.size, 0, none⟩), u, .int .i64 (i : Int)] ∧ k = L.length - i ∧ i ≤ L.length ∧ wr.ownsRow w1.heap.size u8T 1 u ((L.take i).map (·.1)).flatten.length (bv ((L.take i).map (·.1)).flatten) ∧ K0 w1 wr) L.length ⟨_, rfl, 0, _, rfl, rfl, Nat.zero_le _, World.ownsRow_nil _ _ _ _, Kept.refl _ _⟩ ?_
  rintro k vals wr ⟨i, u, rfl, rfl, hi, how, hkr⟩
  dsimp only [List.zip, List.zipWith]
  have hsr := hs1.keep0 hkr
  have hzr := hkr.size
  rcases Nat.lt_or_ge i L.length with hlt | hge
  · have hmem : L.getD i default ∈ L := getD_mem default hlt
    have hx := (hm _ hmem).keep0 (hk1.trans0 hkr)
    have ht := flat_take L i
    have ht2 := flat_take L (i + 1)
    have hst : ((L.take (i + 1)).map (·.1)).flatten = ((L.take i).map (·.1)).flatten ++ (L.getD i default).1 := by rw [take_snoc default L i hlt, List.map_append, List.flatten_append]; simp
    rw [hst, List.length_append] at ht2
    repeat' (first | (refine CL.seq ?_) | (refine CL.region ?_) | (refine CL.skip ?_) | (refine CL.condP rfl (fun _ => ?_) (fun _ => ?_) <;> try (exfalso; omega)) | (refine CL.block ?_) | (refine Gt.nil ?_; refine RW.nilw [0, 2, 3, 4, 8] ?_; dsimp only [H.keep, H.look, H.Fr.put, Nat.beq]) | (refine Gt.move ?_; refine RW.y (Y.move rfl) rfl ?_) | (refine Gt.len ?_; (refine RW.y (Y.lenx rfl (by assumption)) rfl ?_)) | (refine Gt.lss ?_; refine RW.y (Y.lss rfl rfl) rfl ?_) | (refine Gt.idx ?_; refine RW.elemM rfl rfl rfl rfl (by assumption) (by omega) (by omega) ?_))
    rw [Int.toNat_natCast]
    refine RW.app (sz := 1) rfl rfl rfl rfl rfl how hx (bv_one _) (by omega) (by omega) (by omega) (fun u' w2 how2 hk2 hl2 => ?_)
    repeat' (first | (refine CL.region ?_) | (refine CL.done ?_) | (refine Nm.block ?_) | (refine Nm.then ?_) | (refine Gt.nil ?_; refine RW.nilw [0, 2, 3, 4, 8] ?_; dsimp only [H.keep, H.look, H.Fr.put, Nat.beq]) | (refine Gt.move ?_; refine RW.y (Y.move rfl) rfl ?_) | (refine Gt.assign ?_; refine RW.y (Y.assign rfl) rfl ?_) | (refine Gt.add ?_; refine RW.y (Y.add64 rfl rfl (by omega) (by omega)) rfl ?_))
    refine ⟨L.length - (i + 1), _, rfl, rfl, rfl, by omega, i + 1, u', rfl, rfl, by omega, ?_, hkr.trans hk2 fun k h => .inr (how.lt k h).1⟩
    rw [hst, List.length_append, bv, List.map_append]; exact how2
  · have hi : i = L.length := by omega
    subst hi
    rw [List.take_length] at how
    repeat' (first | (refine CL.seq ?_) | (refine CL.region ?_) | (refine CL.condP rfl (fun _ => ?_) (fun _ => ?_) <;> try (exfalso; omega)) | (refine CL.exit ?_) | (refine Ex.then ?_) | (refine Ex.hit ?_) | (refine Gt.nil ?_; refine RW.nilw [0, 2, 3, 4, 8] ?_; dsimp only [H.keep, H.look, H.Fr.put, Nat.beq]) | (refine Gt.move ?_; refine RW.y (Y.move rfl) rfl ?_) | (refine Gt.len ?_; (refine RW.y (Y.lenx rfl (by assumption)) rfl ?_)) | (refine Gt.lss ?_; refine RW.y (Y.lss rfl rfl) rfl ?_))
    refine RW.fn rfl rfl ((refSum u _ wr (Sl.of_own how) hl).mono ?_)
    rintro e w2 ⟨hk2, c, rfl, hB⟩
    refine RW.storeBlock rfl rfl (by rw [hB.1]; rfl) (Bs.ones hB) ((hkr.trans0 hk2).at0 hb1) rfl (fun w3 hb3 hk3 => ?_)
    repeat' (first | (refine CL.ret ?_) | (refine Gt.nil ?_; refine RW.nilw [0, 2, 3, 4, 8] ?_; dsimp only [H.keep, H.look, H.Fr.put, Nat.beq]))
    have hc : c = c.toList.toArray := by simp
    exact FQ.res1 (v := .agg c.toList.toArray) rfl rfl ⟨⟨_, rfl, load_block (by rw [← hc]; exact hb3) (by rw [Array.length_toList]; exact hB.1)⟩, trivial⟩ ⟨((hk1.trans0 hkr).trans0 hk2).trans hk3 fun k h => .inr (by rw [show k = w.heap.size from h]; exact Nat.le_refl _), c, by rw [← hc], hB⟩

/-- A number's bytes behind others: so many more. -/
theorem number (v : Value) (l : List UInt8) (n i : Int) (B : Nat) (w : World) (how : w.ownsRow B u8T 1 v l.length (bv l)) (hl : l.length ≤ 1000000) (hB : B ≤ w.heap.size) (h0 : 0 ≤ i) (h8 : i ≤ 8) (hn0 : 0 ≤ n) : Calls Try.prog 40 #[v, .int .u64 n, .int .i64 i] w fun e w' => ∃ u q, e = .returned u ∧ q.length = i.toNat ∧ w'.ownsRow B u8T 1 u (l ++ q).length (bv (l ++ q)) ∧ Kept (fun k => v.ownBlock = some k) w w' ∧ Lies w v u := by
  refine H.enter Try.func40 Try.ntmps40 rfl rfl ?_; dsimp only [H.args]
  repeat' (first | (refine CL.seq ?_) | (refine CL.region ?_) | (refine CL.block ?_) | (refine Gt.nil ?_; refine RW.nilw [0, 1, 2, 6, 7, 11] ?_; dsimp only [H.keep, H.look, H.Fr.put, Nat.beq]) | (refine Gt.move ?_; refine RW.y (Y.move rfl) rfl ?_) | (refine Gt.assign ?_; refine RW.y (Y.assign rfl) rfl ?_) | (refine Gt.sub ?_; refine RW.y (Y.sub64 rfl rfl (by omega) (by omega)) rfl ?_))
  refine CL.loopS [0, 1, 7] (fun k vals wr => ∃ (j : Int) (u : Value) (q : List UInt8), vals = [u, .int .u64 n, .int .i64 j] ∧ -1 ≤ j ∧ j < i ∧ k = (j + 1).toNat ∧ q.length = (i - 1 - j).toNat ∧ wr.ownsRow B u8T 1 u (l ++ q).length (bv (l ++ q)) ∧ Kept (fun k => v.ownBlock = some k) w wr ∧ Lies w v u) i.toNat ⟨_, rfl, i - 1, v, [], rfl, by omega, by omega, by omega, by simp, by rw [List.append_nil]; exact how, Kept.refl _ _, fun g hg => .inl hg⟩ ?_
  rintro k vals wr ⟨j, u, q, rfl, hj0, hj1, rfl, hq, hoq, hkr, hlr⟩
  dsimp only [List.zip, List.zipWith]
  have hzr := hkr.size
  have hql : (l ++ q).length = l.length + q.length := List.length_append
  repeat' (first | (refine CL.seq ?_) | (refine CL.region ?_) | (refine CL.skip ?_) | (refine CL.condP rfl (fun _ => ?_) (fun _ => ?_) <;> try (exfalso; omega)) | (refine CL.block ?_) | (refine CL.exit ?_) | (refine Ex.then ?_) | (refine Ex.hit ?_) | (refine CL.ret ?_) | (refine Gt.nil ?_; refine RW.nilw [0, 1, 2, 6, 7, 11] ?_; dsimp only [H.keep, H.look, H.Fr.put, Nat.beq]) | (refine RW.y (Y.convW rfl) rfl ?_) | (refine Gt.move ?_; refine RW.y (Y.move rfl) rfl ?_) | (refine Gt.assign ?_; refine RW.y (Y.assign rfl) rfl ?_) | (refine Gt.geq ?_; refine RW.y (Y.geq rfl rfl) rfl ?_) | (refine Gt.mul ?_; (refine RW.y (Y.mul64 rfl rfl (by omega) (by omega)) rfl ?_)) | (refine Gt.shr ?_; refine RW.y (Y.shr rfl rfl (by omega)) rfl ?_))
  · rename_i g2
    obtain ⟨c, hc⟩ := byte_of (n.fdiv (2 ^ (min (8 * j).toNat IntKind.u64.bits)))
    rw [hc]
    refine RW.app1 rfl rfl rfl rfl hoq rfl rfl rfl rfl (fun y hy => by simp [Value.cells] at hy; rw [hy]; rfl) (by omega) (by omega) (by omega) (fun x3 w3 how3 hk3 hl3 => ?_)
    have how3' : w3.ownsRow B u8T 1 x3 ((l ++ q) ++ [c]).length (bv ((l ++ q) ++ [c])) := own_snoc how3
    rw [List.append_assoc] at how3'
    repeat' (first | (refine CL.region ?_) | (refine CL.done ?_) | (refine Nm.block ?_) | (refine Nm.then ?_) | (refine Gt.nil ?_; refine RW.nilw [0, 1, 2, 6, 7, 11] ?_; dsimp only [H.keep, H.look, H.Fr.put, Nat.beq]) | (refine Gt.move ?_; refine RW.y (Y.move rfl) rfl ?_) | (refine Gt.assign ?_; refine RW.y (Y.assign rfl) rfl ?_) | (refine Gt.sub ?_; refine RW.y (Y.sub64 rfl rfl (by omega) (by omega)) rfl ?_))
    refine ⟨(j - 1 + 1).toNat, _, rfl, rfl, rfl, by omega, j - 1, x3, q ++ [c], rfl, by omega, by omega, rfl, by rw [List.length_append, List.length_singleton]; omega, how3', hkr.trans hk3 fun k h => ?_, fun g hg => ?_⟩
    · exact (hlr k h).imp id (fun h => h)
    · rcases hl3 g hg with h | h
      · exact hlr g h
      · exact .inr (by omega)
  · rename_i g2
    exact FQ.one rfl rfl rfl ⟨_, q, rfl, by omega, hoq, hkr, hlr⟩
end Go.Proofs.Ytlbegmpikggmlaa.Ne

namespace Go.Proofs.Ytlbegmpikggmlaa.H
open Go.RowKit
section
variable {M : Option (Option Nat)} {P : Program} {ops : Array Oper} {Q : Post} {rest : List Oper} {f : Fr} {w : World} {d : Nat} {ty : TypeId} {pos : String} {af : Array Edge}
/-- []byte of a text. -/
theorem RW.strBytes {s t e : TypeId} [hs : Und P s .string] [ht : Und P t (.slice e)] [he : Und P e (.int .u8)] {x : Operand} {l : List UInt8} (hx : f.ev x = some (.string (B l))) (hd : Nat.blt d f.n = true) (hl : l.length ≤ 1000000)
    (k : ∀ v' w', Sl w' 1 v' l.length (bv l) → (∀ g, live v' = some g → w.heap.size ≤ g) → K0 w w' → RW M P ops Q rest (f.put d v') w') : RW M P ops Q (op1 d (.convert s t x) ty pos af :: rest) f w := by
  have hmax : (1000000 : Nat) ≤ maxLen := by simp [maxLen]
  have hsz : (B l).size = l.length := B_size l
  have hge : l.length ≤ grownCap w l.length 0 e := grownCap_ge w l.length 0 e
  have hle : grownCap w l.length 0 e ≤ maxLen := grownCap_le_maxLen w l.length 0 e (by omega)
  refine RW.val rfl rfl hd (fun a ha => ?_) (k _ _ ?_ ?_ ?_) (v := .slice (some ⟨w.heap.size, 0, none⟩) l.length (grownCap w l.length 0 e)) (w' := Go.Lib.bytesWorld w e (B l))
  · have := Go.Lib.run_convert_string_bytes (P := P) w s t e (B l) hs.out ht.out he.out
    rw [hsz] at this
    simp [execOp, ha.eval hx, this]
  · refine ⟨by simp, by omega, .inr ⟨w.heap.size, 0, grownCap w l.length 0 e, _, e, _, rfl, Go.Lib.bytesWorld_at_new w e (B l), hge, hle, ?_, ?_⟩⟩
    · simp only [Go.Lib.bytesCells, hsz, Array.size_append, Array.size_map, Array.size_replicate]
      simp
      omega
    · simp only [Go.Lib.bytesCells, hsz, Array.toList_append, Array.toList_map, List.drop_zero, Nat.mul_one]
      rw [List.take_append_of_le_length (by simp)]
      rw [List.take_of_length_le (by simp)]
  · intro g hg
    have := live_own hg
    simp [Value.ownBlock] at this
    omega
  · refine ⟨rfl, rfl, rfl, by rw [Go.Lib.bytesWorld_size]; omega, fun j hj _ => Go.Lib.bytesWorld_at_old w e (B l) j hj⟩
/-- []byte of a constant text: the literal and the mark together. -/
theorem RW.bytesConst {t e n ty1 : TypeId} {d1 : Nat} {pos1 : String} {af1 : Array Edge} {z : Value} {sz b : Nat} [ht : Und P t (.slice e)] [he : Und P e (.int .u8)] [Inf P e z sz b] {ps : List (Nat × Operand)} {l : List UInt8} (hx : f.evs (ps.map (·.2)) = some (bv l)) (hp : ps.map (·.1) = List.range' 0 l.length) (hn : l.length = n) (h1 : Nat.beq sz 1 = true) (hs : Nat.ble n 65536 = true) (hd1 : Nat.blt d1 f.n = true) (hd : Nat.blt d f.n = true)
    (k : ∀ w', Sl w' 1 (.slice (some ⟨w.heap.size, 0, none⟩) n n) l.length (bv l) → K0 w w' → w.heap.size < w'.heap.size → RW M P ops Q rest ((f.put d1 (.slice (some ⟨w.heap.size, 0, none⟩) n n)).put d (.slice (some ⟨w.heap.size, 0, none⟩) n n)) w') : RW M P ops Q (op1 d1 (.buildSlice t n ps.toArray) ty1 pos1 af1 :: op1 d (.convert t t (.tmp d1)) ty pos af :: rest) f w := by
  subst hn
  have hs' := ble_le hs
  have h1' := Nat.eq_of_beq_eq_true h1
  subst h1'
  have hcell : ∀ u ∈ bv l, u.cells.size = 1 := by intro u hu; obtain ⟨c, _, rfl⟩ := List.mem_map.1 hu; rfl
  have hcat : catCells (bv l) = bv l := by
    have := cat_ints (k := .u8) (l.map fun c => (c.toNat : Int))
    rw [List.map_map] at this; exact this
  refine RW.val (v := .slice (some ⟨w.heap.size, 0, none⟩) l.length l.length) (w' := w.alloc (.cells (bv l).toArray e)) rfl rfl hd1 (fun a ha => ?_) ?_
  · have hev := ha.evs _ _ hx
    have hps : (ps.toArray.map fun (p : Nat × Operand) => (p.1, a.eval p.2)) = ((ps.map (·.1)).zip (bv l)).toArray := by
      rw [← hev]
      apply Array.ext'
      simp only [List.map_toArray, List.map_map]
      clear hx hp hev k hcell hcat
      induction ps with
      | nil => rfl
      | cons p ps ih => simpa using ih
    have := run_buildSlice (P := P) (w := w) (t := t) (z := z) (sz := 1) (b := b) (bv l) ((ps.map (·.1)).zip (bv l)).toArray (zip_parts (bv l) 0 ps (by rw [hp]; simp)) hcell (by simp; omega)
    simp only [execOp]
    rw [show (ps.toArray.map fun (x : Nat × Operand) => match x with | (i, x) => (i, a.eval x)) = ((ps.map (·.1)).zip (bv l)).toArray from hps, Sem.run_bind]
    rw [hcat] at this
    simp only [List.length_map] at this
    rw [this]; rfl
  · refine RW.val (v := .slice (some ⟨w.heap.size, 0, none⟩) l.length l.length) (w' := w.alloc (.cells (bv l).toArray e ((bv l).toArray.size, (bv l).toArray.size + 1))) rfl rfl hd (fun a ha => ?_) (k _ ?_ ?_ ?_)
    · have hev : a.eval (.tmp d1) = .slice (some ⟨w.heap.size, 0, none⟩) l.length l.length := ha.eval (by simp [Fr.ev, Fr.put, look])
      have := Go.Lib.run_convert_bytes_const (P := P) w t e (bv l).toArray l.length l.length ht.out he.out
      simp [execOp, hev, this]
    · refine ⟨by simp, by simp [maxLen]; omega, .inr ⟨w.heap.size, 0, l.length, _, e, _, rfl, heap_alloc_new w _, Nat.le_refl _, by simp [maxLen]; omega, by simp, ?_⟩⟩
      simp only [List.drop_zero, Nat.mul_one]
      rw [List.take_of_length_le (by simp)]
    · exact Kept.alloc w _
    · simp
end
end Go.Proofs.Ytlbegmpikggmlaa.H

namespace Go.Proofs.Ytlbegmpikggmlaa.Ne
open Go.RowKit H S Ve
attribute [local irreducible] H.CL H.RW H.CW H.Yd H.thenK H.blockQ Go.Calls

structure Fl where
  path : T
  dir : Bool
  b : List UInt8
instance : Inhabited Fl := ⟨⟨[], false, []⟩⟩
def flC (x : Fl × Value) : List Value := [vs x.1.path, .bool x.1.dir, x.2]
theorem flC_len : ∀ x, (flC x).length = 3 := fun _ => rfl
def FilesAt (w : World) (v : Value) (l : List Fl) : Prop := ∃ L : List (Fl × Value), L.map (·.1) = l ∧ Sl w 3 v L.length (L.flatMap flC) ∧ ∀ x ∈ L, Sl w 1 x.2 x.1.b.length (bv x.1.b)
theorem FilesAt.keep0 {w w' : World} {v : Value} {l : List Fl} (h : FilesAt w v l) (k : K0 w w') : FilesAt w' v l := by
  obtain ⟨L, h1, h2, h3⟩ := h; exact ⟨L, h1, h2.keep0 k, fun x hx => (h3 x hx).keep0 k⟩
/-- Files that fit. -/
def FitF (l : List Fl) : Prop := l.length ≤ 10 ∧ ∀ x ∈ l, x.path.length ≤ 100 ∧ x.b.length ≤ 1000
theorem ap_bytes {w w' : World} {B : Nat} {v v' : Value} {q r : List UInt8} {n : Nat} (h : w'.ownsRow B u8T 1 v' (q.length + n) (bv q ++ bv r)) (hr : r.length = n) : w'.ownsRow B u8T 1 v' (q ++ r).length (bv (q ++ r)) := by
  rw [List.length_append, hr, bv, List.map_append]; exact h

set_option maxHeartbeats 4000000 in
theorem pack (v : Value) (l : List Fl) (w : World) (hv : FilesAt w v l) (hl : FitF l) : Calls Try.prog 22 #[v] w fun e w' => K0 w w' ∧ ∃ u q, e = .returned u ∧ w'.ownsRow w.heap.size u8T 1 u q.length (bv q) ∧ q.take 4 = [80, 65, 75, 49] ∧ q.length ≤ 20000 := by
  obtain ⟨L, rfl, hs, hm⟩ := hv
  obtain ⟨hl1, hl2⟩ := hl
  rw [List.length_map] at hl1
  refine H.enter Try.func22 Try.ntmps22 rfl rfl ?_; dsimp only [H.args]
  repeat' (first | (refine CL.seq ?_) | (refine CL.region ?_) | (refine Gt.nil ?_; refine RW.nilw [0, 2, 3, 4, 5, 6, 12, 22, 29, 45] ?_; dsimp only [H.keep, H.look, H.Fr.put, Nat.beq]) | (refine Gt.assign ?_; refine RW.y (Y.assign rfl) rfl ?_))
  refine RW.bytesConst (ps := [(0, _), (1, _), (2, _), (3, _)]) (l := [80, 65, 75, 49]) rfl rfl rfl rfl rfl rfl rfl (fun w1 hs1 hk1 hlt1 => ?_)
  repeat' (first | (refine CL.seq ?_) | (refine CL.region ?_) | (refine CL.block ?_) | (refine Gt.nil ?_; refine RW.nilw [0, 2, 3, 4, 5, 6, 12, 22, 29, 45] ?_; dsimp only [H.keep, H.look, H.Fr.put, Nat.beq]) | (refine Gt.assign ?_; refine RW.y (Y.assign rfl) rfl ?_))
  refine CL.loopS [0, 3, 4] (fun k vals wr => ∃ (i : Nat) (u : Value) (q : List UInt8) (row : Option Nat), vals = [v, u, .int .i64 (i : Int)] ∧ k = L.length - i ∧ i ≤ L.length ∧ Ap wr w.heap.size u8T 1 u q.length (bv q) row ∧ (∀ g, row = some g → w.heap.size ≤ g) ∧ q.take 4 = [80, 65, 75, 49] ∧ q.length ≤ 4 + i * 1111 ∧ K0 w wr) L.length ⟨_, rfl, 0, _, [80, 65, 75, 49], none, rfl, rfl, Nat.zero_le _, .inr ⟨hs1, ⟨_, rfl⟩, rfl⟩, (fun g h => nomatch h), rfl, Nat.le_refl _, hk1⟩ ?_
  rintro k vals wr ⟨i, u, q, row, rfl, rfl, hi, hap, hrow, hq4, hql, hKr⟩
  dsimp only [List.zip, List.zipWith]
  have hsr := hs.keep0 hKr
  have hzr := hKr.size
  rcases Nat.lt_or_ge i L.length with hlt | hge
  · have hmem : L.getD i default ∈ L := getD_mem default hlt
    have hx := (hm _ hmem).keep0 hKr
    have hf := hl2 (L.getD i default).1 (List.mem_map_of_mem hmem)
    have hti : ((i : Int)).toNat = i := Int.toNat_natCast i
    rw [← hti] at hf hx
    repeat' (first | (refine CL.seq ?_) | (refine CL.region ?_) | (refine CL.skip ?_) | (refine CL.condP rfl (fun _ => ?_) (fun _ => ?_) <;> try (exfalso; omega)) | (refine CL.cond rfl (fun _ => ?_) (fun _ => ?_)) | (refine CL.block ?_) | (refine Gt.nil ?_; refine RW.nilw [0, 2, 3, 4, 5, 6, 12, 22, 29, 45] ?_; dsimp only [H.keep, H.look, H.Fr.put, Nat.beq]) | (refine Gt.move ?_; refine RW.y (Y.move rfl) rfl ?_) | (refine Gt.assign ?_; refine RW.y (Y.assign rfl) rfl ?_) | (refine Gt.idx ?_; (refine RW.elemF rfl rfl rfl rfl rfl rfl (by assumption) (fun _ => by rfl) rfl (by omega) (by omega) (by rfl) (fun _ _ => ?_))) | (refine Gt.len ?_; first | (refine RW.y (Y.lenx rfl (by assumption)) rfl ?_) | (refine RW.y (Y.lens rfl) rfl ?_)) | (refine Gt.lss ?_; refine RW.y (Y.lss rfl rfl) rfl ?_) | (refine Gt.gtr ?_; refine RW.y (Y.gtr rfl rfl) rfl ?_))
    · rename_i hdir
      refine RW.appA1 rfl rfl rfl rfl hap rfl rfl rfl rfl (fun y hy => by simp [Value.cells] at hy; rw [hy]; rfl) (by omega) (by omega) (by omega) (fun u2 w2 how2 hk2 hl2 => ?_)
      have how2' : w2.ownsRow w.heap.size u8T 1 u2 (q ++ [1]).length (bv (q ++ [1])) := own_snoc how2
      have hz2 := hk2.size
      have hql2 : (q ++ [1]).length = q.length + 1 := by simp
      repeat' (first | (refine Gt.move ?_; refine RW.y (Y.move rfl) rfl ?_) | (refine Gt.convert ?_; (refine RW.y (Y.convN rfl (by exact wrapu64_id (by omega) (by omega))) rfl ?_)) | (refine Gt.len ?_; (refine RW.y (Y.lens rfl) rfl ?_)))
      refine RW.fn rfl rfl ((number u2 (q ++ [1]) _ 2 w.heap.size w2 how2' (by omega) (by omega) (by omega) (by omega) (by omega)).mono ?_)
      rintro e w3 ⟨u3, q3, rfl, hq3, how3, hk3, hl3⟩
      have hz3 := hk3.size
      have hql3 : ((q ++ [1]) ++ q3).length = q.length + 3 := by rw [List.length_append, hql2, hq3]; omega
      repeat' ((refine Gt.move ?_; refine RW.y (Y.move rfl) rfl ?_))
      refine RW.apps rfl rfl rfl how3 (by omega) (by omega) (fun u4 w4 how4 hk4 hl4 => ?_)
      have hz4 := hk4.size
      have how4' : w4.ownsRow w.heap.size u8T 1 u4 (((q ++ [1]) ++ q3) ++ (L.getD ((i : Int)).toNat default).1.path).length (bv (((q ++ [1]) ++ q3) ++ (L.getD ((i : Int)).toNat default).1.path)) := by rw [List.length_append, bv, List.map_append]; exact how4
      have hql4 : (((q ++ [1]) ++ q3) ++ (L.getD ((i : Int)).toNat default).1.path).length = q.length + 3 + (L.getD ((i : Int)).toNat default).1.path.length := by rw [List.length_append, hql3]
      have hK4 : K0 w w4 := ((hKr.trans hk2 fun k h => .inr (hrow k h)).trans hk3 fun k h => .inr (how2'.lt k h).1).trans hk4 fun k h => .inr (how3.lt k h).1
      have hq44 : (((q ++ [1]) ++ q3) ++ (L.getD ((i : Int)).toNat default).1.path).take 4 = [80, 65, 75, 49] := by
        have hl4 : 4 ≤ q.length := by have := congrArg List.length hq4; rw [List.length_take] at this; simp at this; omega
        rw [List.append_assoc, List.append_assoc, List.take_append_of_le_length hl4]; exact hq4
      have hx4 := (hm _ hmem).keep0 hK4
      rw [← hti] at hx4
      have hs4 := hs.keep0 hK4
      obtain ⟨y, hyd⟩ : ∃ y, y = ((q ++ [1]) ++ q3) ++ (L.getD ((i : Int)).toNat default).1.path := ⟨_, rfl⟩
      rw [← hyd] at how4' hq44 hql4
      repeat' (first | (refine CL.seq ?_) | (refine CL.region ?_) | (refine CL.skip ?_) | (refine CL.cond rfl (fun _ => ?_) (fun _ => ?_)) | (refine CL.done ?_) | (refine Nm.block ?_) | (refine Nm.then ?_) | (refine Gt.nil ?_; refine RW.nilw [0, 2, 3, 4, 5, 6, 12, 22, 29, 45] ?_; dsimp only [H.keep, H.look, H.Fr.put, Nat.beq]) | (refine Gt.move ?_; refine RW.y (Y.move rfl) rfl ?_) | (refine Gt.assign ?_; refine RW.y (Y.assign rfl) rfl ?_) | (refine Gt.idx ?_; (refine RW.elemF rfl rfl rfl rfl rfl rfl (by assumption) (fun _ => by rfl) rfl (by omega) (by omega) (by rfl) (fun _ _ => ?_))) | (refine Gt.not ?_; (refine RW.y (Y.notb rfl) rfl ?_)) | (refine Gt.add ?_; refine RW.y (Y.add64 rfl rfl (by omega) (by omega)) rfl ?_))
      · have hout : ∀ g, live v = some g → ¬ u4.ownBlock = some g := fun g hg c => by have := hs.lt hg; have := (how4'.lt g c).1; omega
        have hsx := hm _ hmem
        rw [← hti] at hsx
        have houx : ∀ g, live (L.getD ((i : Int)).toNat default).2 = some g → ¬ u4.ownBlock = some g := fun g hg c => by have := hsx.lt hg; have := (how4'.lt g c).1; omega
        obtain ⟨g, o, hsp⟩ := elPtr hs4 (by omega) ((i : Int).toNat * 3)
        have hcl : ∀ {w' : World}, Kept (fun k => u4.ownBlock = some k) w4 w' → w'.cell? ⟨g, o + 2, none⟩ = some (L.getD ((i : Int)).toNat default).2 := fun h => by
          have := elCells (hs4.keep h hout) flC_len hlt 2 (L.getD i default).2 rfl
          rw [hsp, addr_add] at this
          rw [hti]; exact this
        refine CL.draw (fun w' => Kept (fun k => u4.ownBlock = some k) w4 w') (by kernel_rfl) (fun w5 hheap hk5 => ?_)
        have hS : Kept (fun k => u4.ownBlock = some k) w4 w5 := hk5.of0
        skip
        refine AW.take 0 rfl (by kernel_rfl) (by kernel_rfl) (by kernel_rfl) rfl (by assumption) (fun w hS => Y.move rfl) ?_
        refine AW.take 1 rfl (by kernel_rfl) (by kernel_rfl) (by kernel_rfl) rfl (by assumption) (fun w hS => Y.move rfl) ?_
        refine AW.take 2 rfl (by kernel_rfl) (by kernel_rfl) (by kernel_rfl) rfl (by assumption) (fun w hS => Y.move rfl) ?_
        refine AW.take 3 rfl (by kernel_rfl) (by kernel_rfl) (by kernel_rfl) rfl (by assumption) (fun w hS => Y.idx rfl rfl (hs4.keep hS hout) (by omega) (by omega)) ?_
        refine AW.take 4 rfl (by kernel_rfl) (by kernel_rfl) (by kernel_rfl) rfl (by assumption) (fun w hS => Y.fieldAddr (congrArg (fun a => some (Value.pointer (some a))) hsp) (by rfl)) ?_
        refine AW.take 5 rfl (by kernel_rfl) (by kernel_rfl) (by kernel_rfl) rfl (by assumption) (fun w hS => Y.load1A rfl (hcl hS)) ?_
        refine AW.take 6 rfl (by kernel_rfl) (by kernel_rfl) (by kernel_rfl) rfl (by assumption) (fun w hS => Y.lenx rfl (hx4.keep hS houx)) ?_
        refine AW.take 7 rfl (by kernel_rfl) (by kernel_rfl) (by kernel_rfl) rfl (by assumption) (fun w hS => Y.convN rfl (by exact wrapu64_id (by omega) (by omega))) ?_
        refine AW.take 9 rfl (by kernel_rfl) (by kernel_rfl) (by kernel_rfl) rfl (by assumption) (fun w hS => Y.move rfl) ?_
        refine AW.take 10 rfl (by kernel_rfl) (by kernel_rfl) (by kernel_rfl) rfl (by assumption) (fun w hS => Y.move rfl) ?_
        refine AW.take 11 rfl (by kernel_rfl) (by kernel_rfl) (by kernel_rfl) rfl (by assumption) (fun w hS => Y.idx rfl rfl (hs4.keep hS hout) (by omega) (by omega)) ?_
        refine AW.take 12 rfl (by kernel_rfl) (by kernel_rfl) (by kernel_rfl) rfl (by assumption) (fun w hS => Y.fieldAddr (congrArg (fun a => some (Value.pointer (some a))) hsp) (by rfl)) ?_
        refine AW.take 13 rfl (by kernel_rfl) (by kernel_rfl) (by kernel_rfl) rfl (by assumption) (fun w hS => Y.load1A rfl (hcl hS)) ?_
        refine AW.next 8 rfl (by kernel_rfl) ?_
        refine RW.fn rfl rfl ((number u4 y _ 8 w.heap.size w5 (own_kept0 how4' hk5) (by omega) (by have := hk5.size; omega) (by omega) (by omega) (by omega)).mono ?_)
        rintro e w6 ⟨u6, q6, rfl, hq6, how6, hk6, hl6⟩
        have hS6 := hS.trans hk6 fun k h => Or.inl h
        have hz6 := hS6.size
        refine RW.nil (Nm.then ⟨hS6, ?_⟩)
        have hql6 : (y ++ q6).length = y.length + 8 := by rw [List.length_append, hq6]; omega
        skip
        refine AW.next 14 rfl (by kernel_rfl) ?_
        have hx6 := hx4.keep hS6 houx
        refine RW.app (sz := 1) rfl rfl rfl rfl rfl how6 hx6 (bv_one _) (by omega) (by omega) (by omega) (fun u7 w7 how7 hk7 hl7 => ?_)
        have hS7 : Kept (fun k => u4.ownBlock = some k) w4 w7 := hS6.trans hk7 fun k h => (hl6 k h).imp id fun h => by have := hk5.size; omega
        refine RW.nil (Nm.then ⟨hS7, ?_⟩)
        refine AW.take 15 rfl (by kernel_rfl) (by kernel_rfl) (by kernel_rfl) rfl (by assumption) (fun w hS => Y.assign rfl) ?_
        refine AW.donew [0, 3, 4] (by kernel_rfl) ?_
        dsimp only [H.keep, H.look, H.Fr.put, Nat.beq]
        repeat' (first | (refine CL.region ?_) | (refine CL.done ?_) | (refine Nm.block ?_) | (refine Nm.then ?_) | (refine Gt.nil ?_; refine RW.nilw [0, 2, 3, 4, 5, 6, 12, 22, 29, 45] ?_; dsimp only [H.keep, H.look, H.Fr.put, Nat.beq]) | (refine Gt.move ?_; refine RW.y (Y.move rfl) rfl ?_) | (refine Gt.assign ?_; refine RW.y (Y.assign rfl) rfl ?_) | (refine Gt.add ?_; refine RW.y (Y.add64 rfl rfl (by omega) (by omega)) rfl ?_))
        have how7' : w7.ownsRow w.heap.size u8T 1 u7 ((y ++ q6) ++ (L.getD ((i : Int)).toNat default).1.b).length (bv ((y ++ q6) ++ (L.getD ((i : Int)).toNat default).1.b)) := by rw [List.length_append, bv, List.map_append]; exact how7
        have hly : 4 ≤ y.length := by have := congrArg List.length hq44; rw [List.length_take] at this; simp at this; omega
        exact ⟨L.length - (i + 1), _, rfl, rfl, rfl, by omega, i + 1, u7, _, u7.ownBlock, rfl, rfl, by omega, Ap.own how7', fun g hg => (how7'.lt g hg).1, by rw [List.append_assoc, List.take_append_of_le_length hly]; exact hq44, by rw [List.length_append, hql6]; omega, hK4.trans hS7 fun k h => .inr (how4'.lt k h).1⟩
      · exact ⟨L.length - (i + 1), _, rfl, rfl, rfl, by omega, i + 1, u4, y, u4.ownBlock, rfl, rfl, by omega, Ap.own how4', fun g hg => (how4'.lt g hg).1, hq44, by omega, hK4⟩
    · rename_i hdir
      refine RW.appA1 rfl rfl rfl rfl hap rfl rfl rfl rfl (fun y hy => by simp [Value.cells] at hy; rw [hy]; rfl) (by omega) (by omega) (by omega) (fun u2 w2 how2 hk2 hl2 => ?_)
      have how2' : w2.ownsRow w.heap.size u8T 1 u2 (q ++ [0]).length (bv (q ++ [0])) := own_snoc how2
      have hz2 := hk2.size
      have hql2 : (q ++ [0]).length = q.length + 1 := by simp
      repeat' (first | (refine Gt.move ?_; refine RW.y (Y.move rfl) rfl ?_) | (refine Gt.convert ?_; (refine RW.y (Y.convN rfl (by exact wrapu64_id (by omega) (by omega))) rfl ?_)) | (refine Gt.len ?_; (refine RW.y (Y.lens rfl) rfl ?_)))
      refine RW.fn rfl rfl ((number u2 (q ++ [0]) _ 2 w.heap.size w2 how2' (by omega) (by omega) (by omega) (by omega) (by omega)).mono ?_)
      rintro e w3 ⟨u3, q3, rfl, hq3, how3, hk3, hl3⟩
      have hz3 := hk3.size
      have hql3 : ((q ++ [0]) ++ q3).length = q.length + 3 := by rw [List.length_append, hql2, hq3]; omega
      repeat' ((refine Gt.move ?_; refine RW.y (Y.move rfl) rfl ?_))
      refine RW.apps rfl rfl rfl how3 (by omega) (by omega) (fun u4 w4 how4 hk4 hl4 => ?_)
      have hz4 := hk4.size
      have how4' : w4.ownsRow w.heap.size u8T 1 u4 (((q ++ [0]) ++ q3) ++ (L.getD ((i : Int)).toNat default).1.path).length (bv (((q ++ [0]) ++ q3) ++ (L.getD ((i : Int)).toNat default).1.path)) := by rw [List.length_append, bv, List.map_append]; exact how4
      have hql4 : (((q ++ [0]) ++ q3) ++ (L.getD ((i : Int)).toNat default).1.path).length = q.length + 3 + (L.getD ((i : Int)).toNat default).1.path.length := by rw [List.length_append, hql3]
      have hK4 : K0 w w4 := ((hKr.trans hk2 fun k h => .inr (hrow k h)).trans hk3 fun k h => .inr (how2'.lt k h).1).trans hk4 fun k h => .inr (how3.lt k h).1
      have hq44 : (((q ++ [0]) ++ q3) ++ (L.getD ((i : Int)).toNat default).1.path).take 4 = [80, 65, 75, 49] := by
        have hl4 : 4 ≤ q.length := by have := congrArg List.length hq4; rw [List.length_take] at this; simp at this; omega
        rw [List.append_assoc, List.append_assoc, List.take_append_of_le_length hl4]; exact hq4
      have hx4 := (hm _ hmem).keep0 hK4
      rw [← hti] at hx4
      have hs4 := hs.keep0 hK4
      obtain ⟨y, hyd⟩ : ∃ y, y = ((q ++ [0]) ++ q3) ++ (L.getD ((i : Int)).toNat default).1.path := ⟨_, rfl⟩
      rw [← hyd] at how4' hq44 hql4
      repeat' (first | (refine CL.seq ?_) | (refine CL.region ?_) | (refine CL.skip ?_) | (refine CL.cond rfl (fun _ => ?_) (fun _ => ?_)) | (refine CL.done ?_) | (refine Nm.block ?_) | (refine Nm.then ?_) | (refine Gt.nil ?_; refine RW.nilw [0, 2, 3, 4, 5, 6, 12, 22, 29, 45] ?_; dsimp only [H.keep, H.look, H.Fr.put, Nat.beq]) | (refine Gt.move ?_; refine RW.y (Y.move rfl) rfl ?_) | (refine Gt.assign ?_; refine RW.y (Y.assign rfl) rfl ?_) | (refine Gt.idx ?_; (refine RW.elemF rfl rfl rfl rfl rfl rfl (by assumption) (fun _ => by rfl) rfl (by omega) (by omega) (by rfl) (fun _ _ => ?_))) | (refine Gt.not ?_; (refine RW.y (Y.notb rfl) rfl ?_)) | (refine Gt.add ?_; refine RW.y (Y.add64 rfl rfl (by omega) (by omega)) rfl ?_))
      · have hout : ∀ g, live v = some g → ¬ u4.ownBlock = some g := fun g hg c => by have := hs.lt hg; have := (how4'.lt g c).1; omega
        have hsx := hm _ hmem
        rw [← hti] at hsx
        have houx : ∀ g, live (L.getD ((i : Int)).toNat default).2 = some g → ¬ u4.ownBlock = some g := fun g hg c => by have := hsx.lt hg; have := (how4'.lt g c).1; omega
        obtain ⟨g, o, hsp⟩ := elPtr hs4 (by omega) ((i : Int).toNat * 3)
        have hcl : ∀ {w' : World}, Kept (fun k => u4.ownBlock = some k) w4 w' → w'.cell? ⟨g, o + 2, none⟩ = some (L.getD ((i : Int)).toNat default).2 := fun h => by
          have := elCells (hs4.keep h hout) flC_len hlt 2 (L.getD i default).2 rfl
          rw [hsp, addr_add] at this
          rw [hti]; exact this
        refine CL.draw (fun w' => Kept (fun k => u4.ownBlock = some k) w4 w') (by kernel_rfl) (fun w5 hheap hk5 => ?_)
        have hS : Kept (fun k => u4.ownBlock = some k) w4 w5 := hk5.of0
        skip
        refine AW.take 0 rfl (by kernel_rfl) (by kernel_rfl) (by kernel_rfl) rfl (by assumption) (fun w hS => Y.move rfl) ?_
        refine AW.take 1 rfl (by kernel_rfl) (by kernel_rfl) (by kernel_rfl) rfl (by assumption) (fun w hS => Y.move rfl) ?_
        refine AW.take 2 rfl (by kernel_rfl) (by kernel_rfl) (by kernel_rfl) rfl (by assumption) (fun w hS => Y.move rfl) ?_
        refine AW.take 3 rfl (by kernel_rfl) (by kernel_rfl) (by kernel_rfl) rfl (by assumption) (fun w hS => Y.idx rfl rfl (hs4.keep hS hout) (by omega) (by omega)) ?_
        refine AW.take 4 rfl (by kernel_rfl) (by kernel_rfl) (by kernel_rfl) rfl (by assumption) (fun w hS => Y.fieldAddr (congrArg (fun a => some (Value.pointer (some a))) hsp) (by rfl)) ?_
        refine AW.take 5 rfl (by kernel_rfl) (by kernel_rfl) (by kernel_rfl) rfl (by assumption) (fun w hS => Y.load1A rfl (hcl hS)) ?_
        refine AW.take 6 rfl (by kernel_rfl) (by kernel_rfl) (by kernel_rfl) rfl (by assumption) (fun w hS => Y.lenx rfl (hx4.keep hS houx)) ?_
        refine AW.take 7 rfl (by kernel_rfl) (by kernel_rfl) (by kernel_rfl) rfl (by assumption) (fun w hS => Y.convN rfl (by exact wrapu64_id (by omega) (by omega))) ?_
        refine AW.take 9 rfl (by kernel_rfl) (by kernel_rfl) (by kernel_rfl) rfl (by assumption) (fun w hS => Y.move rfl) ?_
        refine AW.take 10 rfl (by kernel_rfl) (by kernel_rfl) (by kernel_rfl) rfl (by assumption) (fun w hS => Y.move rfl) ?_
        refine AW.take 11 rfl (by kernel_rfl) (by kernel_rfl) (by kernel_rfl) rfl (by assumption) (fun w hS => Y.idx rfl rfl (hs4.keep hS hout) (by omega) (by omega)) ?_
        refine AW.take 12 rfl (by kernel_rfl) (by kernel_rfl) (by kernel_rfl) rfl (by assumption) (fun w hS => Y.fieldAddr (congrArg (fun a => some (Value.pointer (some a))) hsp) (by rfl)) ?_
        refine AW.take 13 rfl (by kernel_rfl) (by kernel_rfl) (by kernel_rfl) rfl (by assumption) (fun w hS => Y.load1A rfl (hcl hS)) ?_
        refine AW.next 8 rfl (by kernel_rfl) ?_
        refine RW.fn rfl rfl ((number u4 y _ 8 w.heap.size w5 (own_kept0 how4' hk5) (by omega) (by have := hk5.size; omega) (by omega) (by omega) (by omega)).mono ?_)
        rintro e w6 ⟨u6, q6, rfl, hq6, how6, hk6, hl6⟩
        have hS6 := hS.trans hk6 fun k h => Or.inl h
        have hz6 := hS6.size
        refine RW.nil (Nm.then ⟨hS6, ?_⟩)
        have hql6 : (y ++ q6).length = y.length + 8 := by rw [List.length_append, hq6]; omega
        skip
        refine AW.next 14 rfl (by kernel_rfl) ?_
        have hx6 := hx4.keep hS6 houx
        refine RW.app (sz := 1) rfl rfl rfl rfl rfl how6 hx6 (bv_one _) (by omega) (by omega) (by omega) (fun u7 w7 how7 hk7 hl7 => ?_)
        have hS7 : Kept (fun k => u4.ownBlock = some k) w4 w7 := hS6.trans hk7 fun k h => (hl6 k h).imp id fun h => by have := hk5.size; omega
        refine RW.nil (Nm.then ⟨hS7, ?_⟩)
        refine AW.take 15 rfl (by kernel_rfl) (by kernel_rfl) (by kernel_rfl) rfl (by assumption) (fun w hS => Y.assign rfl) ?_
        refine AW.donew [0, 3, 4] (by kernel_rfl) ?_
        dsimp only [H.keep, H.look, H.Fr.put, Nat.beq]
        repeat' (first | (refine CL.region ?_) | (refine CL.done ?_) | (refine Nm.block ?_) | (refine Nm.then ?_) | (refine Gt.nil ?_; refine RW.nilw [0, 2, 3, 4, 5, 6, 12, 22, 29, 45] ?_; dsimp only [H.keep, H.look, H.Fr.put, Nat.beq]) | (refine Gt.move ?_; refine RW.y (Y.move rfl) rfl ?_) | (refine Gt.assign ?_; refine RW.y (Y.assign rfl) rfl ?_) | (refine Gt.add ?_; refine RW.y (Y.add64 rfl rfl (by omega) (by omega)) rfl ?_))
        have how7' : w7.ownsRow w.heap.size u8T 1 u7 ((y ++ q6) ++ (L.getD ((i : Int)).toNat default).1.b).length (bv ((y ++ q6) ++ (L.getD ((i : Int)).toNat default).1.b)) := by rw [List.length_append, bv, List.map_append]; exact how7
        have hly : 4 ≤ y.length := by have := congrArg List.length hq44; rw [List.length_take] at this; simp at this; omega
        exact ⟨L.length - (i + 1), _, rfl, rfl, rfl, by omega, i + 1, u7, _, u7.ownBlock, rfl, rfl, by omega, Ap.own how7', fun g hg => (how7'.lt g hg).1, by rw [List.append_assoc, List.take_append_of_le_length hly]; exact hq44, by rw [List.length_append, hql6]; omega, hK4.trans hS7 fun k h => .inr (how4'.lt k h).1⟩
      · exact ⟨L.length - (i + 1), _, rfl, rfl, rfl, by omega, i + 1, u4, y, u4.ownBlock, rfl, rfl, by omega, Ap.own how4', fun g hg => (how4'.lt g hg).1, hq44, by omega, hK4⟩
  · have hi : i = L.length := by omega
    subst hi
    repeat' (first | (refine CL.seq ?_) | (refine CL.region ?_) | (refine CL.condP rfl (fun _ => ?_) (fun _ => ?_) <;> try (exfalso; omega)) | (refine CL.exit ?_) | (refine Ex.then ?_) | (refine Ex.hit ?_) | (refine Gt.nil ?_; refine RW.nilw [0, 2, 3, 4, 5, 6, 12, 22, 29, 45] ?_; dsimp only [H.keep, H.look, H.Fr.put, Nat.beq]) | (refine Gt.move ?_; refine RW.y (Y.move rfl) rfl ?_) | (refine Gt.len ?_; (refine RW.y (Y.lenx rfl (by assumption)) rfl ?_)) | (refine Gt.lss ?_; refine RW.y (Y.lss rfl rfl) rfl ?_))
    refine RW.appA1 rfl rfl rfl rfl hap rfl rfl rfl rfl (fun y hy => by simp [Value.cells] at hy; rw [hy]; rfl) (by omega) (by omega) (by omega) (fun u' w2 how2 hk2 hl2 => ?_)
    have how2' : w2.ownsRow w.heap.size u8T 1 u' (q ++ [255]).length (bv (q ++ [255])) := own_snoc how2
    repeat' (first | (refine CL.ret ?_) | (refine Gt.nil ?_; refine RW.nilw [0, 2, 3, 4, 5, 6, 12, 22, 29, 45] ?_; dsimp only [H.keep, H.look, H.Fr.put, Nat.beq]) | (refine Gt.assign ?_; refine RW.y (Y.assign rfl) rfl ?_))
    refine FQ.one rfl rfl rfl ⟨hKr.trans hk2 fun k h => .inr (hrow k h), _, _, rfl, how2', ?_, ?_⟩
    · rw [List.take_append_of_le_length (by have := congrArg List.length hq4; rw [List.length_take] at this; simp at this; omega)]; exact hq4
    · rw [List.length_append, List.length_singleton]; omega
end Go.Proofs.Ytlbegmpikggmlaa.Ne

namespace Go.Proofs.Ytlbegmpikggmlaa.H
open Go.RowKit
/-- A kind of elements: their cells, what they point at, in which blocks that lies. -/
structure Dp (α : Type) where
  sz : Nat
  enc : α → List Value
  D : World → α → Prop
  R : α → Nat → Prop
  len : ∀ x, (enc x).length = sz
  ones : ∀ w x, D w x → ∀ z ∈ enc x, z.oneCell' = true
  keep : ∀ (S : Nat → Prop) w w' x, D w x → Kept S w w' → (∀ g, g < w.heap.size → R x g → ¬ S g) → D w' x
  lt : ∀ w x g, D w x → R x g → g < w.heap.size
theorem Dp.keep0 {α : Type} (K : Dp α) {w w' : World} {x : α} (h : K.D w x) (k : K0 w w') : K.D w' x := K.keep _ w w' x h k fun _ _ _ c => c
/-- Elements in memory. -/
def GA {α : Type} (K : Dp α) (w : World) (v : Value) (L : List α) : Prop := Sl w K.sz v L.length (L.flatMap K.enc) ∧ ∀ x ∈ L, K.D w x
theorem GA.keep0 {α : Type} {K : Dp α} {w w' : World} {v : Value} {L : List α} (h : GA K w v L) (k : K0 w w') : GA K w' v L := ⟨h.1.keep0 k, fun x hx => K.keep0 (h.2 x hx) k⟩
/-- A row of the call's own. -/
def GI {α : Type} (K : Dp α) (w : World) (B : Nat) (e : TypeId) (u : Value) (L : List α) : Prop := w.ownsRow B e K.sz u L.length (L.flatMap K.enc) ∧ ∀ x ∈ L, K.D w x ∧ ∀ g, K.R x g → u.ownBlock ≠ some g
theorem GI.nil {α : Type} (K : Dp α) (w : World) (B : Nat) (e : TypeId) : GI K w B e (.slice none 0 0) [] := ⟨World.ownsRow_nil _ _ _ _, fun x hx => by cases hx⟩
theorem GI.ga {α : Type} {K : Dp α} {w : World} {B : Nat} {e : TypeId} {u : Value} {L : List α} (h : GI K w B e u L) : GA K w u L := ⟨Sl.of_own h.1, fun x hx => (h.2 x hx).1⟩
theorem GI.keep0 {α : Type} {K : Dp α} {w w' : World} {B : Nat} {e : TypeId} {u : Value} {L : List α} (h : GI K w B e u L) (k : K0 w w') : GI K w' B e u L := ⟨own_kept0 h.1 k, fun x hx => ⟨K.keep0 (h.2 x hx).1 k, (h.2 x hx).2⟩⟩
theorem GI.keep {α : Type} {K : Dp α} {w w' : World} {B : Nat} {e : TypeId} {u : Value} {L : List α} (h : GI K w B e u L) {S : Nat → Prop} (k : Kept S w w') (hS : ∀ g, g < w.heap.size → (u.ownBlock = some g ∨ ∃ x ∈ L, K.R x g) → ¬ S g) : GI K w' B e u L :=
  ⟨own_kept h.1 k fun g hg => hS g (h.1.lt g hg).2 (.inl hg), fun x hx => ⟨K.keep _ w w' x (h.2 x hx).1 k fun g hl hr => hS g hl (.inr ⟨x, hx, hr⟩), (h.2 x hx).2⟩⟩
theorem GI.lt {α : Type} {K : Dp α} {w : World} {B : Nat} {e : TypeId} {u : Value} {L : List α} (h : GI K w B e u L) : ∀ g, u.ownBlock = some g → B ≤ g ∧ g < w.heap.size := fun g hg => h.1.lt g hg
/-- A row just laid. -/
theorem GI.new {α : Type} {K : Dp α} {w : World} {g B : Nat} {e : TypeId} {L : List α} (hb : w.heap[g]? = some (.cells (L.flatMap K.enc).toArray e (0, 0))) (hB : B ≤ g) (hl : L.length ≤ 1000000) (hD : ∀ x ∈ L, K.D w x ∧ ∀ k, K.R x k → k ≠ g) : GI K w B e (.slice (some ⟨g, 0, none⟩) L.length L.length) L :=
  ⟨own_new hb hB (by rw [List.size_toArray, cells_len K.len]) (by simp [maxLen]; omega), fun x hx => ⟨(hD x hx).1, fun k hk c => (hD x hx).2 k hk (by simpa [Value.ownBlock] using c.symm)⟩⟩
section
variable {M : Option (Option Nat)} {P : Program} {ops : Array Oper} {Q : Post} {rest : List Oper} {f : Fr} {w : World} {d : Nat} {ty : TypeId} {pos : String} {af : Array Edge}
/-- append of one element, written out. -/
theorem RW.appG {α : Type} (K : Dp α) {t e ty1 : TypeId} {d1 : Nat} {pos1 : String} {af1 : Array Edge} {z : Value} {b : Nat} [ht : Und P t (.slice e)] [hi : Inf P e z K.sz b] {s x : Operand} {v u : Value} (y : α) (hx : f.ev x = some u) (hs : (f.put d1 (.slice (some ⟨w.heap.size, 0, none⟩) 1 1)).ev s = some v) (hd1 : Nat.blt d1 f.n = true) (hd : Nat.blt d f.n = true)
    {B : Nat} {L : List α} (h : GI K w B e v L) (hu : u.cells = (K.enc y).toArray) (hz : z.cells.size = K.sz) (hsz : Nat.blt 0 K.sz = true) (hsz2 : Nat.ble K.sz 65536 = true) (hD : K.D w y) (hR : ∀ g, K.R y g → v.ownBlock ≠ some g) (hB : B ≤ w.heap.size) (hl : L.length ≤ 1000000) (hb : Nat.ble b 100000 = true)
    (k : ∀ v' w', GI K w' B e v' (L ++ [y]) → Kept (fun k => v.ownBlock = some k) w w' → Lies w v v' → RW M P ops Q rest ((f.put d1 (.slice (some ⟨w.heap.size, 0, none⟩) 1 1)).put d v') w') :
    RW M P ops Q (op1 d1 (.buildSlice t 1 #[(0, x)]) ty1 pos1 af1 :: op1 d (.call { callee := .builtin .append, args := #[s, .tmp d1], argTypes := #[t, t] }) ty pos af :: rest) f w := by
  have hb' := ble_le hb
  have hbb : (L.length + 1) * b ≤ 1000001 * 100000 := Nat.mul_le_mul (by omega) hb'
  have hlen := K.len y
  refine RW.app1 (sz := K.sz) hx hs hd1 hd h.1 hz (by rw [hu, List.size_toArray, hlen]) hsz hsz2 (fun q hq => K.ones w y hD q (by rw [hu] at hq; simpa using hq)) hB (by omega) (by omega) fun v' w' how hk hl' => k v' w' ⟨?_, ?_⟩ hk hl'
  · rw [List.length_append, List.length_singleton, List.flatMap_append, List.flatMap_cons, List.flatMap_nil, List.append_nil]
    rw [hu] at how; simpa using how
  · intro x hx
    have hold : K.D w x ∧ ∀ g, K.R x g → v.ownBlock ≠ some g := by
      rcases List.mem_append.1 hx with hx | hx
      · exact h.2 x hx
      · rw [List.mem_singleton.1 hx]; exact ⟨hD, hR⟩
    refine ⟨K.keep _ w w' x hold.1 hk fun g _ hr => hold.2 g hr, fun g hr c => ?_⟩
    rcases hl' g c with e | e
    · exact hold.2 g hr e
    · have := K.lt w x g hold.1 hr; omega
end
end Go.Proofs.Ytlbegmpikggmlaa.H

namespace Go.Proofs.Ytlbegmpikggmlaa.Ve
open Go.RowKit H S
attribute [local irreducible] H.CL H.RW H.CW H.Yd H.thenK H.blockQ Go.Calls

/-- A version whose marks are short enough for a machine. -/
def Fit (v : Ver) : Prop := v.pre.length ≤ 1000000 ∧ ∀ s ∈ v.pre, s.length ≤ 1000000
theorem cmpI_bd (a b : Int) : -1 ≤ cmpI a b ∧ cmpI a b ≤ 1 := by unfold cmpI; split <;> (try split) <;> omega

theorem cmp0 (l : List T) : cmpI l.length 0 = if l = [] then 0 else 1 := by
  cases l with
  | nil => rfl
  | cons a r => rw [if_neg (by simp), cmpI, if_neg (by omega), if_pos (by simp)]

set_option maxHeartbeats 1000000 in
theorem cmpW (X Y : Value) (x y : Ver) (w : World) (hX : VerAt w X x) (hY : VerAt w Y y) (fx : Fit x) (fy : Fit y) : Calls Try.prog 52 #[X, Y] w fun e w' => K0 w w' ∧ e = .returned (.int .i64 (cmpV x y)) := by
  obtain ⟨p, rfl, hp⟩ := hX
  obtain ⟨q, rfl, hq⟩ := hY
  refine H.enter Try.func52 Try.ntmps52 rfl rfl ?_; dsimp only [H.args]
  repeat' (first | (refine CL.seq ?_) | (refine CL.region ?_) | (refine CL.skip ?_) | (refine CL.condP rfl (fun _ => ?_) (fun _ => ?_) <;> try (exfalso; omega)) | (refine CL.condT rfl ?_) | (refine CL.condF rfl ?_) | (refine CL.cond rfl (fun _ => ?_) (fun _ => ?_)) | (refine CL.block ?_) | (refine CL.exit ?_) | (refine Ex.then ?_) | (refine Ex.hit ?_) | (refine Ex.miss rfl ?_) | (refine CL.ret ?_) | (refine Rt.then ?_) | (refine Rt.block ?_) | (refine Pn.then ?_) | (refine Pn.block ?_) | (refine CL.done ?_) | (refine Nm.block ?_) | (refine Nm.then ?_) | (refine Gt.nil ?_; refine RW.nilw [0, 1, 2, 3, 4, 5, 23, 27] ?_; dsimp only [H.keep, H.look, H.Fr.put, Nat.beq]) | (refine Gt.fieldAddr ?_; refine RW.y (Y.fieldAddr rfl (by rfl)) rfl ?_) | (refine Gt.guard ?_; first | (refine RW.part rfl rfl rfl (fun _ => ?_) (fun _ => ?_) <;> try (exfalso; omega)) | (refine RW.on rfl rfl rfl ?_) | (refine RW.off1 rfl rfl rfl rfl rfl ?_) | (refine RW.off rfl rfl rfl rfl rfl ?_) | (refine RW.offu rfl rfl rfl rfl ?_) | (refine RW.partb rfl rfl rfl (fun _ => ?_) (fun _ => ?_))) | (refine Gt.load ?_; refine RW.y (Y.loadB rfl (by assumption) rfl) rfl ?_) | (refine Gt.assign ?_; refine RW.y (Y.assign rfl) rfl ?_) | (refine Gt.len ?_; first | (refine RW.y (Y.lenv rfl) rfl ?_) | (refine RW.y (Y.lenx rfl (by assumption)) rfl ?_)) | (refine Gt.move ?_; refine RW.y (Y.move rfl) rfl ?_) | (refine Gt.eql ?_; refine RW.y (Y.eqi rfl rfl) rfl ?_) | (refine Gt.neq ?_; refine RW.y (Y.nei rfl rfl) rfl ?_) | (refine Gt.pick ?_; first | (refine RW.y (Y.pickT rfl rfl) rfl ?_) | (refine RW.y (Y.pickF rfl rfl) rfl ?_)) | (refine Gt.sub ?_; refine RW.y (Y.sub64 rfl rfl (by omega) (by omega)) rfl ?_))
  refine RW.box rfl rfl (fun w1 hb1 hk1 hlt1 => ?_)
  repeat' (first | (refine CL.seq ?_) | (refine CL.region ?_) | (refine CL.skip ?_) | (refine CL.condP rfl (fun _ => ?_) (fun _ => ?_) <;> try (exfalso; omega)) | (refine CL.condT rfl ?_) | (refine CL.condF rfl ?_) | (refine CL.cond rfl (fun _ => ?_) (fun _ => ?_)) | (refine CL.block ?_) | (refine CL.exit ?_) | (refine Ex.then ?_) | (refine Ex.hit ?_) | (refine Ex.miss rfl ?_) | (refine CL.ret ?_) | (refine Rt.then ?_) | (refine Rt.block ?_) | (refine Pn.then ?_) | (refine Pn.block ?_) | (refine CL.done ?_) | (refine Nm.block ?_) | (refine Nm.then ?_) | (refine Gt.nil ?_; refine RW.nilw [0, 1, 2, 3, 4, 5, 23, 27] ?_; dsimp only [H.keep, H.look, H.Fr.put, Nat.beq]) | (refine Gt.fieldAddr ?_; refine RW.y (Y.fieldAddr rfl (by rfl)) rfl ?_) | (refine Gt.guard ?_; first | (refine RW.part rfl rfl rfl (fun _ => ?_) (fun _ => ?_) <;> try (exfalso; omega)) | (refine RW.on rfl rfl rfl ?_) | (refine RW.off1 rfl rfl rfl rfl rfl ?_) | (refine RW.off rfl rfl rfl rfl rfl ?_) | (refine RW.offu rfl rfl rfl rfl ?_) | (refine RW.partb rfl rfl rfl (fun _ => ?_) (fun _ => ?_))) | (refine Gt.load ?_; refine RW.y (Y.loadB rfl (by assumption) rfl) rfl ?_) | (refine Gt.assign ?_; refine RW.y (Y.assign rfl) rfl ?_) | (refine Gt.len ?_; first | (refine RW.y (Y.lenv rfl) rfl ?_) | (refine RW.y (Y.lenx rfl (by assumption)) rfl ?_)) | (refine Gt.move ?_; refine RW.y (Y.move rfl) rfl ?_) | (refine Gt.eql ?_; refine RW.y (Y.eqi rfl rfl) rfl ?_) | (refine Gt.neq ?_; refine RW.y (Y.nei rfl rfl) rfl ?_) | (refine Gt.pick ?_; first | (refine RW.y (Y.pickT rfl rfl) rfl ?_) | (refine RW.y (Y.pickF rfl rfl) rfl ?_)) | (refine Gt.sub ?_; refine RW.y (Y.sub64 rfl rfl (by omega) (by omega)) rfl ?_))
  refine RW.box rfl rfl (fun w2 hb2 hk2 hlt2 => ?_)
  have hX2 : w2.heap[w.heap.size]? = some (.cells #[.int .i64 x.a, .int .i64 x.b, .int .i64 x.c, p] verT (0, 0)) := hk2.at0 hb1
  have hY2 : w2.heap[w1.heap.size]? = some (.cells #[.int .i64 y.a, .int .i64 y.b, .int .i64 y.c, q] verT (0, 0)) := hb2
  have hK2 : K0 w w2 := hk1.trans0 hk2
  repeat' (first | (refine CL.seq ?_) | (refine CL.region ?_) | (refine CL.skip ?_) | (refine CL.condP rfl (fun _ => ?_) (fun _ => ?_) <;> try (exfalso; omega)) | (refine CL.condT rfl ?_) | (refine CL.condF rfl ?_) | (refine CL.cond rfl (fun _ => ?_) (fun _ => ?_)) | (refine CL.block ?_) | (refine CL.exit ?_) | (refine Ex.then ?_) | (refine Ex.hit ?_) | (refine Ex.miss rfl ?_) | (refine CL.ret ?_) | (refine Rt.then ?_) | (refine Rt.block ?_) | (refine Pn.then ?_) | (refine Pn.block ?_) | (refine CL.done ?_) | (refine Nm.block ?_) | (refine Nm.then ?_) | (refine Gt.nil ?_; refine RW.nilw [0, 1, 2, 3, 4, 5, 23, 27] ?_; dsimp only [H.keep, H.look, H.Fr.put, Nat.beq]) | (refine Gt.fieldAddr ?_; refine RW.y (Y.fieldAddr rfl (by rfl)) rfl ?_) | (refine Gt.guard ?_; first | (refine RW.part rfl rfl rfl (fun _ => ?_) (fun _ => ?_) <;> try (exfalso; omega)) | (refine RW.on rfl rfl rfl ?_) | (refine RW.off1 rfl rfl rfl rfl rfl ?_) | (refine RW.off rfl rfl rfl rfl rfl ?_) | (refine RW.offu rfl rfl rfl rfl ?_) | (refine RW.partb rfl rfl rfl (fun _ => ?_) (fun _ => ?_))) | (refine Gt.load ?_; refine RW.y (Y.loadB rfl (by assumption) rfl) rfl ?_) | (refine Gt.assign ?_; refine RW.y (Y.assign rfl) rfl ?_) | (refine Gt.len ?_; first | (refine RW.y (Y.lenv rfl) rfl ?_) | (refine RW.y (Y.lenx rfl (by assumption)) rfl ?_)) | (refine Gt.move ?_; refine RW.y (Y.move rfl) rfl ?_) | (refine Gt.eql ?_; refine RW.y (Y.eqi rfl rfl) rfl ?_) | (refine Gt.neq ?_; refine RW.y (Y.nei rfl rfl) rfl ?_) | (refine Gt.pick ?_; first | (refine RW.y (Y.pickT rfl rfl) rfl ?_) | (refine RW.y (Y.pickF rfl rfl) rfl ?_)) | (refine Gt.sub ?_; refine RW.y (Y.sub64 rfl rfl (by omega) (by omega)) rfl ?_))
  refine CL.draw (fun w' => K0 w2 w') (by kernel_rfl) (fun w3 hheap hk3 => ?_)
  have hS : K0 w2 w3 := hk3
  skip
  refine AW.take 0 rfl (by kernel_rfl) (by kernel_rfl) (by kernel_rfl) rfl (by assumption) (fun w hS => Y.fieldAddr rfl (by rfl)) ?_
  refine AW.take 1 rfl (by kernel_rfl) (by kernel_rfl) (by kernel_rfl) rfl (by assumption) (fun w hS => Y.loadB rfl (hS.at0 hX2) rfl) ?_
  refine AW.take 2 rfl (by kernel_rfl) (by kernel_rfl) (by kernel_rfl) rfl (by assumption) (fun w hS => Y.fieldAddr rfl (by rfl)) ?_
  refine AW.take 3 rfl (by kernel_rfl) (by kernel_rfl) (by kernel_rfl) rfl (by assumption) (fun w hS => Y.loadB rfl (hS.at0 hY2) rfl) ?_
  refine AW.take 5 rfl (by kernel_rfl) (by kernel_rfl) (by kernel_rfl) rfl (by assumption) (fun w hS => Y.fieldAddr rfl (by rfl)) ?_
  refine AW.take 6 rfl (by kernel_rfl) (by kernel_rfl) (by kernel_rfl) rfl (by assumption) (fun w hS => Y.loadB rfl (hS.at0 hX2) rfl) ?_
  refine AW.take 7 rfl (by kernel_rfl) (by kernel_rfl) (by kernel_rfl) rfl (by assumption) (fun w hS => Y.fieldAddr rfl (by rfl)) ?_
  refine AW.take 8 rfl (by kernel_rfl) (by kernel_rfl) (by kernel_rfl) rfl (by assumption) (fun w hS => Y.loadB rfl (hS.at0 hY2) rfl) ?_
  refine AW.take 10 rfl (by kernel_rfl) (by kernel_rfl) (by kernel_rfl) rfl (by assumption) (fun w hS => Y.fieldAddr rfl (by rfl)) ?_
  refine AW.take 11 rfl (by kernel_rfl) (by kernel_rfl) (by kernel_rfl) rfl (by assumption) (fun w hS => Y.loadB rfl (hS.at0 hX2) rfl) ?_
  refine AW.take 12 rfl (by kernel_rfl) (by kernel_rfl) (by kernel_rfl) rfl (by assumption) (fun w hS => Y.fieldAddr rfl (by rfl)) ?_
  refine AW.take 13 rfl (by kernel_rfl) (by kernel_rfl) (by kernel_rfl) rfl (by assumption) (fun w hS => Y.loadB rfl (hS.at0 hY2) rfl) ?_
  refine AW.next 4 rfl (by kernel_rfl) ?_
  refine RW.fn rfl rfl ((compareI x.a y.a w3).mono ?_)
  rintro e w' ⟨rfl, rfl⟩
  refine RW.nil (Nm.then ⟨hS, ?_⟩)
  refine AW.next 9 rfl (by kernel_rfl) ?_
  refine RW.fn rfl rfl ((compareI x.b y.b w3).mono ?_)
  rintro e w' ⟨rfl, rfl⟩
  refine RW.nil (Nm.then ⟨hS, ?_⟩)
  refine AW.next 14 rfl (by kernel_rfl) ?_
  refine RW.fn rfl rfl ((compareI x.c y.c w3).mono ?_)
  rintro e w' ⟨rfl, rfl⟩
  refine RW.nil (Nm.then ⟨hS, ?_⟩)
  refine AW.next 15 rfl (by kernel_rfl) ?_
  refine RW.buildL (ps := [(0, _), (1, _), (2, _)]) (l := [cmpI x.a y.a, cmpI x.b y.b, cmpI x.c y.c].map (Value.int .i64)) rfl rfl rfl int_cells rfl rfl (fun w4 hb4 hk4 hlt4 => ?_)
  have hK4 : K0 w w4 := (hK2.trans0 hk3).trans0 hk4
  have hX4 := hk4.at0 (hS.at0 hX2)
  have hY4 := hk4.at0 (hS.at0 hY2)
  refine RW.nil (Nm.then (rebase0 hS hk4 fun hS => ?_))
  refine AW.next 16 rfl (by kernel_rfl) ?_
  refine RW.fn rfl rfl ((orInt _ [cmpI x.a y.a, cmpI x.b y.b, cmpI x.c y.c] w4 (show (3 : Nat) ≤ 1000 from by decide) (sl_new hb4 rfl (show (3 : Nat) ≤ 1000000 from by decide))).mono ?_)
  rintro e w' ⟨rfl, rfl⟩
  refine RW.nil (Nm.then ⟨hS, ?_⟩)
  refine AW.take 17 rfl (by kernel_rfl) (by kernel_rfl) (by kernel_rfl) rfl (by assumption) (fun w hS => Y.assign rfl) ?_
  refine AW.donew [2, 3, 4, 5] (by kernel_rfl) ?_
  dsimp only [H.keep, H.look, H.Fr.put, Nat.beq]
  have hp4 := hp.keep0 hK4
  have hq4 := hq.keep0 hK4
  have hor : cmpV x y = if orI [cmpI x.a y.a, cmpI x.b y.b, cmpI x.c y.c] ≠ 0 then orI [cmpI x.a y.a, cmpI x.b y.b, cmpI x.c y.c] else cmpP x.pre y.pre := by
    simp only [cmpV, orI]
    by_cases h1 : cmpI x.a y.a = 0 <;> by_cases h2 : cmpI x.b y.b = 0 <;> by_cases h3 : cmpI x.c y.c = 0 <;> simp [h1, h2, h3]
  have c1 := cmpI_bd x.pre.length 0
  have c2 := cmpI_bd y.pre.length 0
  generalize orI [cmpI x.a y.a, cmpI x.b y.b, cmpI x.c y.c] = o at *
  repeat' (first | (refine CL.seq ?_) | (refine CL.region ?_) | (refine CL.skip ?_) | (refine CL.condP rfl (fun _ => ?_) (fun _ => ?_) <;> try (exfalso; omega)) | (refine CL.condT rfl ?_) | (refine CL.condF rfl ?_) | (refine CL.cond rfl (fun _ => ?_) (fun _ => ?_)) | (refine CL.block ?_) | (refine CL.exit ?_) | (refine Ex.then ?_) | (refine Ex.hit ?_) | (refine Ex.miss rfl ?_) | (refine CL.ret ?_) | (refine Rt.then ?_) | (refine Rt.block ?_) | (refine Pn.then ?_) | (refine Pn.block ?_) | (refine CL.done ?_) | (refine Nm.block ?_) | (refine Nm.then ?_) | (refine Gt.nil ?_; refine RW.nilw [0, 1, 2, 3, 4, 5, 23, 27] ?_; dsimp only [H.keep, H.look, H.Fr.put, Nat.beq]) | (refine Gt.fieldAddr ?_; refine RW.y (Y.fieldAddr rfl (by rfl)) rfl ?_) | (refine Gt.guard ?_; first | (refine RW.part rfl rfl rfl (fun _ => ?_) (fun _ => ?_) <;> try (exfalso; omega)) | (refine RW.on rfl rfl rfl ?_) | (refine RW.off1 rfl rfl rfl rfl rfl ?_) | (refine RW.off rfl rfl rfl rfl rfl ?_) | (refine RW.offu rfl rfl rfl rfl ?_) | (refine RW.partb rfl rfl rfl (fun _ => ?_) (fun _ => ?_))) | (refine Gt.load ?_; refine RW.y (Y.loadB rfl (by assumption) rfl) rfl ?_) | (refine Gt.assign ?_; refine RW.y (Y.assign rfl) rfl ?_) | (refine Gt.len ?_; first | (refine RW.y (Y.lenv rfl) rfl ?_) | (refine RW.y (Y.lenx rfl (by assumption)) rfl ?_)) | (refine Gt.move ?_; refine RW.y (Y.move rfl) rfl ?_) | (refine Gt.eql ?_; refine RW.y (Y.eqi rfl rfl) rfl ?_) | (refine Gt.neq ?_; refine RW.y (Y.nei rfl rfl) rfl ?_) | (refine Gt.pick ?_; first | (refine RW.y (Y.pickT rfl rfl) rfl ?_) | (refine RW.y (Y.pickF rfl rfl) rfl ?_)) | (refine Gt.sub ?_; refine RW.y (Y.sub64 rfl rfl (by omega) (by omega)) rfl ?_))
  · rename_i h
    exact FQ.one rfl rfl rfl ⟨hK4, ret_int (by rw [hor, if_pos h])⟩
  · rename_i h h1
    have hx0 : x.pre = [] := List.length_eq_zero_iff.1 (by omega)
    refine CL.draw (fun w' => K0 w4 w') (by kernel_rfl) (fun w5 hheap5 hk5 => ?_)
    have hS : K0 w4 w5 := hk5
    skip
    refine AW.take 0 rfl (by kernel_rfl) (by kernel_rfl) (by kernel_rfl) rfl (by assumption) (fun w hS => Y.fieldAddr rfl (by rfl)) ?_
    refine AW.take 1 rfl (by kernel_rfl) (by kernel_rfl) (by kernel_rfl) rfl (by assumption) (fun w hS => Y.loadB rfl (hS.at0 hY4) rfl) ?_
    refine AW.take 2 rfl (by kernel_rfl) (by kernel_rfl) (by kernel_rfl) rfl (by assumption) (fun w hS => Y.lenx rfl (hq4.keep0 hS)) ?_
    refine AW.take 4 rfl (by kernel_rfl) (by kernel_rfl) (by kernel_rfl) rfl (by assumption) (fun w hS => Y.fieldAddr rfl (by rfl)) ?_
    refine AW.take 5 rfl (by kernel_rfl) (by kernel_rfl) (by kernel_rfl) rfl (by assumption) (fun w hS => Y.loadB rfl (hS.at0 hX4) rfl) ?_
    refine AW.take 6 rfl (by kernel_rfl) (by kernel_rfl) (by kernel_rfl) rfl (by assumption) (fun w hS => Y.lenx rfl (hp4.keep0 hS)) ?_
    refine AW.next 3 rfl (by kernel_rfl) ?_
    refine RW.fn rfl rfl ((compareI y.pre.length 0 w5).mono ?_)
    rintro e w' ⟨rfl, rfl⟩
    refine RW.nil (Nm.then ⟨hS, ?_⟩)
    refine AW.next 7 rfl (by kernel_rfl) ?_
    refine RW.fn rfl rfl ((compareI x.pre.length 0 w5).mono ?_)
    rintro e w' ⟨rfl, rfl⟩
    refine RW.nil (Nm.then ⟨hS, ?_⟩)
    refine AW.take 8 rfl (by kernel_rfl) (by kernel_rfl) (by kernel_rfl) rfl (by assumption) (fun w hS => by first | exact Y.sub64 rfl rfl (by omega) (by omega) | exact Y.subN rfl rfl (by first | exact wrap64_id (by omega) (by omega) | exact wrapu64_id (by omega) (by omega) | exact wrapu8_id (by omega) (by omega) | exact wrapu16_id (by omega) (by omega) | exact wrapu32_id (by omega) (by omega))) ?_
    refine AW.take 9 rfl (by kernel_rfl) (by kernel_rfl) (by kernel_rfl) rfl (by assumption) (fun w hS => Y.assign rfl) ?_
    refine AW.donew [4] (by kernel_rfl) ?_
    dsimp only [H.keep, H.look, H.Fr.put, Nat.beq]
    repeat' (first | (refine CL.seq ?_) | (refine CL.region ?_) | (refine CL.skip ?_) | (refine CL.condP rfl (fun _ => ?_) (fun _ => ?_) <;> try (exfalso; omega)) | (refine CL.condT rfl ?_) | (refine CL.condF rfl ?_) | (refine CL.cond rfl (fun _ => ?_) (fun _ => ?_)) | (refine CL.block ?_) | (refine CL.exit ?_) | (refine Ex.then ?_) | (refine Ex.hit ?_) | (refine Ex.miss rfl ?_) | (refine CL.ret ?_) | (refine Rt.then ?_) | (refine Rt.block ?_) | (refine Pn.then ?_) | (refine Pn.block ?_) | (refine CL.done ?_) | (refine Nm.block ?_) | (refine Nm.then ?_) | (refine Gt.nil ?_; refine RW.nilw [0, 1, 2, 3, 4, 5, 23, 27] ?_; dsimp only [H.keep, H.look, H.Fr.put, Nat.beq]) | (refine Gt.fieldAddr ?_; refine RW.y (Y.fieldAddr rfl (by rfl)) rfl ?_) | (refine Gt.guard ?_; first | (refine RW.part rfl rfl rfl (fun _ => ?_) (fun _ => ?_) <;> try (exfalso; omega)) | (refine RW.on rfl rfl rfl ?_) | (refine RW.off1 rfl rfl rfl rfl rfl ?_) | (refine RW.off rfl rfl rfl rfl rfl ?_) | (refine RW.offu rfl rfl rfl rfl ?_) | (refine RW.partb rfl rfl rfl (fun _ => ?_) (fun _ => ?_))) | (refine Gt.load ?_; refine RW.y (Y.loadB rfl (by assumption) rfl) rfl ?_) | (refine Gt.assign ?_; refine RW.y (Y.assign rfl) rfl ?_) | (refine Gt.len ?_; first | (refine RW.y (Y.lenv rfl) rfl ?_) | (refine RW.y (Y.lenx rfl (by assumption)) rfl ?_)) | (refine Gt.move ?_; refine RW.y (Y.move rfl) rfl ?_) | (refine Gt.eql ?_; refine RW.y (Y.eqi rfl rfl) rfl ?_) | (refine Gt.neq ?_; refine RW.y (Y.nei rfl rfl) rfl ?_) | (refine Gt.pick ?_; first | (refine RW.y (Y.pickT rfl rfl) rfl ?_) | (refine RW.y (Y.pickF rfl rfl) rfl ?_)) | (refine Gt.sub ?_; refine RW.y (Y.sub64 rfl rfl (by omega) (by omega)) rfl ?_))
    refine FQ.one rfl rfl rfl ⟨hK4.trans0 hk5, ret_int ?_⟩
    rw [hor, if_neg h, cmp0, cmp0, cmpP]
    first
      | (rw [if_pos hx0, if_pos hx0]; by_cases c : y.pre = [] <;> simp [c])
      | (rw [if_pos hy0, if_neg (fun c => h1 (by rw [c]; rfl)), if_neg (fun c => h1 (by rw [c]; rfl)), if_pos hy0]; rfl)
  · rename_i h h1 h2
    have hy0 : y.pre = [] := List.length_eq_zero_iff.1 (by omega)
    refine CL.draw (fun w' => K0 w4 w') (by kernel_rfl) (fun w5 hheap5 hk5 => ?_)
    have hS : K0 w4 w5 := hk5
    skip
    refine AW.take 0 rfl (by kernel_rfl) (by kernel_rfl) (by kernel_rfl) rfl (by assumption) (fun w hS => Y.fieldAddr rfl (by rfl)) ?_
    refine AW.take 1 rfl (by kernel_rfl) (by kernel_rfl) (by kernel_rfl) rfl (by assumption) (fun w hS => Y.loadB rfl (hS.at0 hY4) rfl) ?_
    refine AW.take 2 rfl (by kernel_rfl) (by kernel_rfl) (by kernel_rfl) rfl (by assumption) (fun w hS => Y.lenx rfl (hq4.keep0 hS)) ?_
    refine AW.take 4 rfl (by kernel_rfl) (by kernel_rfl) (by kernel_rfl) rfl (by assumption) (fun w hS => Y.fieldAddr rfl (by rfl)) ?_
    refine AW.take 5 rfl (by kernel_rfl) (by kernel_rfl) (by kernel_rfl) rfl (by assumption) (fun w hS => Y.loadB rfl (hS.at0 hX4) rfl) ?_
    refine AW.take 6 rfl (by kernel_rfl) (by kernel_rfl) (by kernel_rfl) rfl (by assumption) (fun w hS => Y.lenx rfl (hp4.keep0 hS)) ?_
    refine AW.next 3 rfl (by kernel_rfl) ?_
    refine RW.fn rfl rfl ((compareI y.pre.length 0 w5).mono ?_)
    rintro e w' ⟨rfl, rfl⟩
    refine RW.nil (Nm.then ⟨hS, ?_⟩)
    refine AW.next 7 rfl (by kernel_rfl) ?_
    refine RW.fn rfl rfl ((compareI x.pre.length 0 w5).mono ?_)
    rintro e w' ⟨rfl, rfl⟩
    refine RW.nil (Nm.then ⟨hS, ?_⟩)
    refine AW.take 8 rfl (by kernel_rfl) (by kernel_rfl) (by kernel_rfl) rfl (by assumption) (fun w hS => by first | exact Y.sub64 rfl rfl (by omega) (by omega) | exact Y.subN rfl rfl (by first | exact wrap64_id (by omega) (by omega) | exact wrapu64_id (by omega) (by omega) | exact wrapu8_id (by omega) (by omega) | exact wrapu16_id (by omega) (by omega) | exact wrapu32_id (by omega) (by omega))) ?_
    refine AW.take 9 rfl (by kernel_rfl) (by kernel_rfl) (by kernel_rfl) rfl (by assumption) (fun w hS => Y.assign rfl) ?_
    refine AW.donew [4] (by kernel_rfl) ?_
    dsimp only [H.keep, H.look, H.Fr.put, Nat.beq]
    repeat' (first | (refine CL.seq ?_) | (refine CL.region ?_) | (refine CL.skip ?_) | (refine CL.condP rfl (fun _ => ?_) (fun _ => ?_) <;> try (exfalso; omega)) | (refine CL.condT rfl ?_) | (refine CL.condF rfl ?_) | (refine CL.cond rfl (fun _ => ?_) (fun _ => ?_)) | (refine CL.block ?_) | (refine CL.exit ?_) | (refine Ex.then ?_) | (refine Ex.hit ?_) | (refine Ex.miss rfl ?_) | (refine CL.ret ?_) | (refine Rt.then ?_) | (refine Rt.block ?_) | (refine Pn.then ?_) | (refine Pn.block ?_) | (refine CL.done ?_) | (refine Nm.block ?_) | (refine Nm.then ?_) | (refine Gt.nil ?_; refine RW.nilw [0, 1, 2, 3, 4, 5, 23, 27] ?_; dsimp only [H.keep, H.look, H.Fr.put, Nat.beq]) | (refine Gt.fieldAddr ?_; refine RW.y (Y.fieldAddr rfl (by rfl)) rfl ?_) | (refine Gt.guard ?_; first | (refine RW.part rfl rfl rfl (fun _ => ?_) (fun _ => ?_) <;> try (exfalso; omega)) | (refine RW.on rfl rfl rfl ?_) | (refine RW.off1 rfl rfl rfl rfl rfl ?_) | (refine RW.off rfl rfl rfl rfl rfl ?_) | (refine RW.offu rfl rfl rfl rfl ?_) | (refine RW.partb rfl rfl rfl (fun _ => ?_) (fun _ => ?_))) | (refine Gt.load ?_; refine RW.y (Y.loadB rfl (by assumption) rfl) rfl ?_) | (refine Gt.assign ?_; refine RW.y (Y.assign rfl) rfl ?_) | (refine Gt.len ?_; first | (refine RW.y (Y.lenv rfl) rfl ?_) | (refine RW.y (Y.lenx rfl (by assumption)) rfl ?_)) | (refine Gt.move ?_; refine RW.y (Y.move rfl) rfl ?_) | (refine Gt.eql ?_; refine RW.y (Y.eqi rfl rfl) rfl ?_) | (refine Gt.neq ?_; refine RW.y (Y.nei rfl rfl) rfl ?_) | (refine Gt.pick ?_; first | (refine RW.y (Y.pickT rfl rfl) rfl ?_) | (refine RW.y (Y.pickF rfl rfl) rfl ?_)) | (refine Gt.sub ?_; refine RW.y (Y.sub64 rfl rfl (by omega) (by omega)) rfl ?_))
    refine FQ.one rfl rfl rfl ⟨hK4.trans0 hk5, ret_int ?_⟩
    rw [hor, if_neg h, cmp0, cmp0, cmpP]
    first
      | (rw [if_pos hx0, if_pos hx0]; by_cases c : y.pre = [] <;> simp [c])
      | (rw [if_pos hy0, if_neg (fun c => h1 (by rw [c]; rfl)), if_neg (fun c => h1 (by rw [c]; rfl)), if_pos hy0]; rfl)
  · rename_i h h1 h2
    refine RW.fn rfl rfl ((compareMarks p q x.pre y.pre w4 (by have := fx.1; omega) (by have := fy.1; omega) (fun s h => Nat.le_trans (fx.2 s h) (by decide)) (fun s h => Nat.le_trans (fy.2 s h) (by decide)) hp4 hq4).mono ?_)
    rintro e w5 ⟨hk5, rfl⟩
    repeat' (first | (refine CL.seq ?_) | (refine CL.region ?_) | (refine CL.skip ?_) | (refine CL.condP rfl (fun _ => ?_) (fun _ => ?_) <;> try (exfalso; omega)) | (refine CL.condT rfl ?_) | (refine CL.condF rfl ?_) | (refine CL.cond rfl (fun _ => ?_) (fun _ => ?_)) | (refine CL.block ?_) | (refine CL.exit ?_) | (refine Ex.then ?_) | (refine Ex.hit ?_) | (refine Ex.miss rfl ?_) | (refine CL.ret ?_) | (refine Rt.then ?_) | (refine Rt.block ?_) | (refine Pn.then ?_) | (refine Pn.block ?_) | (refine CL.done ?_) | (refine Nm.block ?_) | (refine Nm.then ?_) | (refine Gt.nil ?_; refine RW.nilw [0, 1, 2, 3, 4, 5, 23, 27] ?_; dsimp only [H.keep, H.look, H.Fr.put, Nat.beq]) | (refine Gt.fieldAddr ?_; refine RW.y (Y.fieldAddr rfl (by rfl)) rfl ?_) | (refine Gt.guard ?_; first | (refine RW.part rfl rfl rfl (fun _ => ?_) (fun _ => ?_) <;> try (exfalso; omega)) | (refine RW.on rfl rfl rfl ?_) | (refine RW.off1 rfl rfl rfl rfl rfl ?_) | (refine RW.off rfl rfl rfl rfl rfl ?_) | (refine RW.offu rfl rfl rfl rfl ?_) | (refine RW.partb rfl rfl rfl (fun _ => ?_) (fun _ => ?_))) | (refine Gt.load ?_; refine RW.y (Y.loadB rfl (by assumption) rfl) rfl ?_) | (refine Gt.assign ?_; refine RW.y (Y.assign rfl) rfl ?_) | (refine Gt.len ?_; first | (refine RW.y (Y.lenv rfl) rfl ?_) | (refine RW.y (Y.lenx rfl (by assumption)) rfl ?_)) | (refine Gt.move ?_; refine RW.y (Y.move rfl) rfl ?_) | (refine Gt.eql ?_; refine RW.y (Y.eqi rfl rfl) rfl ?_) | (refine Gt.neq ?_; refine RW.y (Y.nei rfl rfl) rfl ?_) | (refine Gt.pick ?_; first | (refine RW.y (Y.pickT rfl rfl) rfl ?_) | (refine RW.y (Y.pickF rfl rfl) rfl ?_)) | (refine Gt.sub ?_; refine RW.y (Y.sub64 rfl rfl (by omega) (by omega)) rfl ?_))
    exact FQ.one rfl rfl rfl ⟨hK4.trans0 hk5, ret_int (by rw [hor, if_neg h, cmpP, if_neg (fun c => h1 (by rw [c]; rfl)), if_neg (fun c => h2 (by rw [c]; rfl))])⟩
end Go.Proofs.Ytlbegmpikggmlaa.Ve

namespace Go.Proofs.Ytlbegmpikggmlaa.Ve
open Go.RowKit H S
attribute [local irreducible] H.CL H.RW H.CW H.Yd H.thenK H.blockQ Go.Calls

theorem refCmpI (a b : Int) (w : World) : Calls Try.prog 57 #[.int .i64 a, .int .i64 b] w fun e w' => w = w' ∧ e = .returned (.int .i64 (cmpI a b)) := by
  refine H.enter Try.func57 Try.ntmps57 rfl rfl ?_; dsimp only [H.args]
  repeat' (first | (refine CL.seq ?_) | (refine CL.region ?_) | (refine CL.skip ?_) | (refine CL.condP rfl (fun _ => ?_) (fun _ => ?_) <;> try (exfalso; omega)) | (refine CL.block ?_) | (refine CL.ret ?_) | (refine Rt.block ?_) | (refine CL.done ?_) | (refine Nm.block ?_) | (refine Gt.nil ?_; refine RW.nilw [0, 1, 4, 5, 9] ?_; dsimp only [H.keep, H.look, H.Fr.put, Nat.beq]) | (refine Gt.assign ?_; refine RW.y (Y.assign rfl) rfl ?_) | (refine Gt.move ?_; refine RW.y (Y.move rfl) rfl ?_) | (refine Gt.lss ?_; refine RW.y (Y.lss rfl rfl) rfl ?_) | (refine Gt.gtr ?_; refine RW.y (Y.gtr rfl rfl) rfl ?_))
  · exact FQ.one rfl rfl rfl ⟨rfl, ret_int (by rw [cmpI, if_pos (by assumption)])⟩
  · exact FQ.one rfl rfl rfl ⟨rfl, ret_int (by rw [cmpI, if_neg (by assumption), if_pos (by assumption)])⟩
  · exact FQ.one rfl rfl rfl ⟨rfl, ret_int (by rw [cmpI, if_neg (by assumption), if_neg (by assumption)])⟩
theorem refText (a b : T) (w : World) : Calls Try.prog 59 #[vs a, vs b] w fun e w' => w = w' ∧ e = .returned (.int .i64 (cmpT a b)) := by
  refine H.enter Try.func59 Try.ntmps59 rfl rfl ?_; dsimp only [H.args]
  repeat' (first | (refine CL.seq ?_) | (refine CL.region ?_) | (refine CL.skip ?_) | (refine CL.cond rfl (fun _ => ?_) (fun _ => ?_)) | (refine CL.block ?_) | (refine CL.ret ?_) | (refine Rt.block ?_) | (refine CL.done ?_) | (refine Nm.block ?_) | (refine Gt.nil ?_; refine RW.nilw [0, 1, 4, 5, 9] ?_; dsimp only [H.keep, H.look, H.Fr.put, Nat.beq]) | (refine Gt.assign ?_; refine RW.y (Y.assign rfl) rfl ?_) | (refine Gt.move ?_; refine RW.y (Y.move rfl) rfl ?_) | (refine Gt.lss ?_; refine RW.y (Y.lts rfl rfl) rfl ?_) | (refine Gt.gtr ?_; refine RW.y (Y.gts rfl rfl) rfl ?_))
  · rename_i h
    exact FQ.one rfl rfl rfl ⟨rfl, ret_int (by rw [cmpT, if_pos h])⟩
  · rename_i h h2
    exact FQ.one rfl rfl rfl ⟨rfl, ret_int (by rw [h] at h2; simp at h2; rw [cmpT, h, if_neg (by decide), if_neg h2])⟩
  · rename_i h h2
    exact FQ.one rfl rfl rfl ⟨rfl, ret_int (by rw [h] at h2; simp at h2; rw [cmpT, h, if_neg (by decide), if_pos h2])⟩
theorem refOneIf (b : Bool) (w : World) : Calls Try.prog 58 #[.bool b] w fun e w' => w = w' ∧ e = .returned (.int .i64 (if b = true then 1 else 0)) := by
  refine H.enter Try.func58 Try.ntmps58 rfl rfl ?_; dsimp only [H.args]
  cases b
  · repeat' (first | (refine CL.seq ?_) | (refine CL.region ?_) | (refine CL.skip ?_) | (refine CL.condF rfl ?_) | (refine CL.ret ?_) | (refine Gt.nil ?_; refine RW.nilw [0, 2, 3] ?_; dsimp only [H.keep, H.look, H.Fr.put, Nat.beq]) | (refine Gt.assign ?_; refine RW.y (Y.assign rfl) rfl ?_) | (refine Gt.move ?_; refine RW.y (Y.move rfl) rfl ?_))
    exact FQ.one rfl rfl rfl ⟨rfl, rfl⟩
  · repeat' (first | (refine CL.seq ?_) | (refine CL.region ?_) | (refine CL.condT rfl ?_) | (refine CL.ret ?_) | (refine Gt.nil ?_; refine RW.nilw [0, 2, 3] ?_; dsimp only [H.keep, H.look, H.Fr.put, Nat.beq]) | (refine Gt.assign ?_; refine RW.y (Y.assign rfl) rfl ?_) | (refine Gt.move ?_; refine RW.y (Y.move rfl) rfl ?_))
    exact FQ.one rfl rfl rfl ⟨rfl, rfl⟩

theorem sv_at {l : List T} {i : Nat} (h : i < l.length) : (sv l)[i]? = some (vs (l.getD i [])) := by
  simp [sv, List.getD_eq_getElem?_getD, List.getElem?_eq_getElem h]
theorem refEmpty (x y : List T) (h : x = [] ∨ y = []) : cmpI y.length x.length * (if decide ((x.length : Int) ≠ (y.length : Int)) = true then 1 else 0) = cmpP x y := by
  cases x with
  | nil => cases y with
    | nil => rfl
    | cons a r =>
      have e1 : cmpI ((a :: r).length : Nat) (([] : List T).length : Nat) = 1 := by simp only [List.length_nil, List.length_cons, cmpI]; rw [if_neg (by omega), if_pos (by omega)]
      have e2 : decide (((([] : List T).length : Nat) : Int) ≠ (((a :: r).length : Nat) : Int)) = true := decide_eq_true (by simp only [List.length_nil, List.length_cons]; omega)
      rw [e1, e2]; rfl
  | cons b s => cases y with
    | nil =>
      have e1 : cmpI (([] : List T).length : Nat) ((b :: s).length : Nat) = -1 := by simp only [List.length_nil, List.length_cons, cmpI]; rw [if_pos (by omega)]
      have e2 : decide ((((b :: s).length : Nat) : Int) ≠ ((([] : List T).length : Nat) : Int)) = true := decide_eq_true (by simp only [List.length_nil, List.length_cons]; omega)
      rw [e1, e2]; rfl
    | cons a r => simp at h
theorem mulEq {P : Program} {f : Fr} {w : World} {d : Nat} {t yt ty : TypeId} {pos : String} {af : Array Edge} {x y : Operand} {a b c : Int} (hx : f.ev x = some (.int .i64 a)) (hy : f.ev y = some (.int .i64 b)) (h : a * b = c) (h1 : -9223372036854775808 ≤ c) (h2 : c ≤ 9223372036854775807) : Yd P f (op1 d (.binOp .mul t x y yt) ty pos af) (.int .i64 c) w := by
  subst h
  exact Y.mul64 hx hy h1 h2

set_option maxHeartbeats 1000000 in
theorem refCmp (X Y : Value) (x y : Ver) (w : World) (hX : VerAt w X x) (hY : VerAt w Y y) (fx : Fit x) (fy : Fit y) : Calls Try.prog 39 #[X, Y] w fun e w' => K0 w w' ∧ e = .returned (.int .i64 (cmpV x y)) := by
  obtain ⟨p, rfl, hp⟩ := hX
  obtain ⟨q, rfl, hq⟩ := hY
  obtain ⟨fx1, fx2⟩ := fx
  obtain ⟨fy1, fy2⟩ := fy
  refine H.enter Try.func39 Try.ntmps39 rfl rfl ?_; dsimp only [H.args]
  repeat' (first | (refine CL.seq ?_) | (refine CL.region ?_))
  refine RW.box rfl rfl (fun w1 hb1 hk1 hlt1 => ?_)
  skip
  refine RW.box rfl rfl (fun w2 hb2 hk2 hlt2 => ?_)
  have hX2 : w2.heap[w.heap.size]? = some (.cells #[.int .i64 x.a, .int .i64 x.b, .int .i64 x.c, p] verT (0, 0)) := hk2.at0 hb1
  have hY2 : w2.heap[w1.heap.size]? = some (.cells #[.int .i64 y.a, .int .i64 y.b, .int .i64 y.c, q] verT (0, 0)) := hb2
  have hK2 : K0 w w2 := hk1.trans0 hk2
  have hp2 := hp.keep0 hK2
  have hq2 := hq.keep0 hK2
  repeat' (first | (refine CL.seq ?_) | (refine CL.region ?_) | (refine Gt.nil ?_; refine RW.nilw [0, 1, 2, 3, 4, 5, 6, 7, 8, 9, 10, 11, 18, 26, 34, 45, 73, 89, 102, 106, 109, 113] ?_; dsimp only [H.keep, H.look, H.Fr.put, Nat.beq]) | (refine Gt.assign ?_; refine RW.y (Y.assign rfl) rfl ?_) | (refine Gt.load ?_; refine RW.y (Y.loadB rfl (by assumption) rfl) rfl ?_) | (refine Gt.fieldAddr ?_; refine RW.y (Y.fieldAddr rfl (by rfl)) rfl ?_))
  refine RW.fn rfl rfl ((refCmpI x.a y.a w2).mono ?_)
  rintro e w' ⟨rfl, rfl⟩
  repeat' (first | (refine CL.seq ?_) | (refine CL.region ?_) | (refine CL.skip ?_) | (refine CL.condP rfl (fun _ => ?_) (fun _ => ?_) <;> try (exfalso; omega)) | (refine CL.ret ?_) | (refine Gt.nil ?_; refine RW.nilw [0, 1, 2, 3, 4, 5, 6, 7, 8, 9, 10, 11, 18, 26, 34, 45, 73, 89, 102, 106, 109, 113] ?_; dsimp only [H.keep, H.look, H.Fr.put, Nat.beq]) | (refine Gt.move ?_; refine RW.y (Y.move rfl) rfl ?_) | (refine Gt.assign ?_; refine RW.y (Y.assign rfl) rfl ?_) | (refine Gt.load ?_; refine RW.y (Y.loadB rfl (by assumption) rfl) rfl ?_) | (refine Gt.fieldAddr ?_; refine RW.y (Y.fieldAddr rfl (by rfl)) rfl ?_) | (refine Gt.neq ?_; refine RW.y (Y.nei rfl rfl) rfl ?_))
  · rename_i h
    exact FQ.one rfl rfl rfl ⟨hK2, ret_int (by rw [cmpV, if_pos h])⟩
  rename_i e1
  refine RW.fn rfl rfl ((refCmpI x.b y.b w2).mono ?_)
  rintro e w' ⟨rfl, rfl⟩
  repeat' (first | (refine CL.seq ?_) | (refine CL.region ?_) | (refine CL.skip ?_) | (refine CL.condP rfl (fun _ => ?_) (fun _ => ?_) <;> try (exfalso; omega)) | (refine CL.ret ?_) | (refine Gt.nil ?_; refine RW.nilw [0, 1, 2, 3, 4, 5, 6, 7, 8, 9, 10, 11, 18, 26, 34, 45, 73, 89, 102, 106, 109, 113] ?_; dsimp only [H.keep, H.look, H.Fr.put, Nat.beq]) | (refine Gt.move ?_; refine RW.y (Y.move rfl) rfl ?_) | (refine Gt.assign ?_; refine RW.y (Y.assign rfl) rfl ?_) | (refine Gt.load ?_; refine RW.y (Y.loadB rfl (by assumption) rfl) rfl ?_) | (refine Gt.fieldAddr ?_; refine RW.y (Y.fieldAddr rfl (by rfl)) rfl ?_) | (refine Gt.neq ?_; refine RW.y (Y.nei rfl rfl) rfl ?_))
  · rename_i h
    exact FQ.one rfl rfl rfl ⟨hK2, ret_int (by rw [cmpV, if_neg e1, if_pos h])⟩
  rename_i e2
  refine RW.fn rfl rfl ((refCmpI x.c y.c w2).mono ?_)
  rintro e w' ⟨rfl, rfl⟩
  repeat' (first | (refine CL.seq ?_) | (refine CL.region ?_) | (refine CL.skip ?_) | (refine CL.condP rfl (fun _ => ?_) (fun _ => ?_) <;> try (exfalso; omega)) | (refine CL.condT rfl ?_) | (refine CL.block ?_) | (refine CL.ret ?_) | (refine Gt.nil ?_; refine RW.nilw [0, 1, 2, 3, 4, 5, 6, 7, 8, 9, 10, 11, 18, 26, 34, 45, 73, 89, 102, 106, 109, 113] ?_; dsimp only [H.keep, H.look, H.Fr.put, Nat.beq]) | (refine Gt.move ?_; refine RW.y (Y.move rfl) rfl ?_) | (refine Gt.guard ?_; first | (refine RW.part rfl rfl rfl (fun _ => ?_) (fun _ => ?_) <;> try (exfalso; omega)) | (refine RW.on rfl rfl rfl ?_) | (refine RW.off1 rfl rfl rfl rfl rfl ?_)) | (refine Gt.assign ?_; refine RW.y (Y.assign rfl) rfl ?_) | (refine Gt.load ?_; refine RW.y (Y.loadB rfl (by assumption) rfl) rfl ?_) | (refine Gt.fieldAddr ?_; refine RW.y (Y.fieldAddr rfl (by rfl)) rfl ?_) | (refine Gt.len ?_; (refine RW.y (Y.lenx rfl (by assumption)) rfl ?_)) | (refine Gt.neq ?_; refine RW.y (Y.nei rfl rfl) rfl ?_) | (refine Gt.eql ?_; refine RW.y (Y.eqi rfl rfl) rfl ?_) | (refine Gt.pick ?_; first | (refine RW.y (Y.pickT rfl rfl) rfl ?_) | (refine RW.y (Y.pickF rfl rfl) rfl ?_)))
  · rename_i h
    exact FQ.one rfl rfl rfl ⟨hK2, ret_int (by rw [cmpV, if_neg e1, if_neg e2, if_pos h])⟩
  · rename_i e3 h1
    have hE : x.pre = [] ∨ y.pre = [] := .inl (List.length_eq_zero_iff.1 (by omega))
    refine CL.draw (fun w' => K0 w2 w') (by kernel_rfl) (fun w5 hheap5 hk5 => ?_)
    have hS : K0 w2 w5 := hk5
    skip
    refine AW.take 0 rfl (by kernel_rfl) (by kernel_rfl) (by kernel_rfl) rfl (by assumption) (fun w hS => Y.fieldAddr rfl (by rfl)) ?_
    refine AW.take 1 rfl (by kernel_rfl) (by kernel_rfl) (by kernel_rfl) rfl (by assumption) (fun w hS => Y.loadB rfl (hS.at0 hY2) rfl) ?_
    refine AW.take 2 rfl (by kernel_rfl) (by kernel_rfl) (by kernel_rfl) rfl (by assumption) (fun w hS => Y.lenx rfl (hq2.keep0 hS)) ?_
    refine AW.take 3 rfl (by kernel_rfl) (by kernel_rfl) (by kernel_rfl) rfl (by assumption) (fun w hS => Y.fieldAddr rfl (by rfl)) ?_
    refine AW.take 4 rfl (by kernel_rfl) (by kernel_rfl) (by kernel_rfl) rfl (by assumption) (fun w hS => Y.loadB rfl (hS.at0 hX2) rfl) ?_
    refine AW.take 5 rfl (by kernel_rfl) (by kernel_rfl) (by kernel_rfl) rfl (by assumption) (fun w hS => Y.lenx rfl (hp2.keep0 hS)) ?_
    refine AW.take 7 rfl (by kernel_rfl) (by kernel_rfl) (by kernel_rfl) rfl (by assumption) (fun w hS => Y.fieldAddr rfl (by rfl)) ?_
    refine AW.take 8 rfl (by kernel_rfl) (by kernel_rfl) (by kernel_rfl) rfl (by assumption) (fun w hS => Y.loadB rfl (hS.at0 hX2) rfl) ?_
    refine AW.take 9 rfl (by kernel_rfl) (by kernel_rfl) (by kernel_rfl) rfl (by assumption) (fun w hS => Y.lenx rfl (hp2.keep0 hS)) ?_
    refine AW.take 10 rfl (by kernel_rfl) (by kernel_rfl) (by kernel_rfl) rfl (by assumption) (fun w hS => Y.fieldAddr rfl (by rfl)) ?_
    refine AW.take 11 rfl (by kernel_rfl) (by kernel_rfl) (by kernel_rfl) rfl (by assumption) (fun w hS => Y.loadB rfl (hS.at0 hY2) rfl) ?_
    refine AW.take 12 rfl (by kernel_rfl) (by kernel_rfl) (by kernel_rfl) rfl (by assumption) (fun w hS => Y.lenx rfl (hq2.keep0 hS)) ?_
    refine AW.take 13 rfl (by kernel_rfl) (by kernel_rfl) (by kernel_rfl) rfl (by assumption) (fun w hS => by exact Y.nei rfl rfl) ?_
    refine AW.next 6 rfl (by kernel_rfl) ?_
    refine RW.fn rfl rfl ((refCmpI y.pre.length x.pre.length w5).mono ?_)
    rintro e w' ⟨rfl, rfl⟩
    refine RW.nil (Nm.then ⟨hS, ?_⟩)
    refine AW.next 14 rfl (by kernel_rfl) ?_
    refine RW.fn rfl rfl ((refOneIf _ w5).mono ?_)
    rintro e w' ⟨rfl, rfl⟩
    refine RW.nil (Nm.then ⟨hS, ?_⟩)
    have cb := cmpI_bd y.pre.length x.pre.length
    have hmul := refEmpty x.pre y.pre hE
    have hmb : -1 ≤ cmpP x.pre y.pre ∧ cmpP x.pre y.pre ≤ 1 := by rw [← hmul]; split <;> omega
    refine AW.take 15 rfl (by kernel_rfl) (by kernel_rfl) (by kernel_rfl) rfl (by assumption) (fun w hS => mulEq rfl rfl hmul (by omega) (by omega)) ?_
    refine AW.take 16 rfl (by kernel_rfl) (by kernel_rfl) (by kernel_rfl) rfl (by assumption) (fun w hS => Y.assign rfl) ?_
    refine AW.donew [4] (by kernel_rfl) ?_
    dsimp only [H.keep, H.look, H.Fr.put, Nat.beq]
    repeat' ((refine CL.ret ?_))
    exact FQ.one rfl rfl rfl ⟨hK2.trans0 hk5, ret_int (by rw [cmpV, if_neg e1, if_neg e2, if_neg e3])⟩
  · rename_i e3 h1 h2
    have hE : x.pre = [] ∨ y.pre = [] := .inr (List.length_eq_zero_iff.1 (by omega))
    refine CL.draw (fun w' => K0 w2 w') (by kernel_rfl) (fun w5 hheap5 hk5 => ?_)
    have hS : K0 w2 w5 := hk5
    skip
    refine AW.take 0 rfl (by kernel_rfl) (by kernel_rfl) (by kernel_rfl) rfl (by assumption) (fun w hS => Y.fieldAddr rfl (by rfl)) ?_
    refine AW.take 1 rfl (by kernel_rfl) (by kernel_rfl) (by kernel_rfl) rfl (by assumption) (fun w hS => Y.loadB rfl (hS.at0 hY2) rfl) ?_
    refine AW.take 2 rfl (by kernel_rfl) (by kernel_rfl) (by kernel_rfl) rfl (by assumption) (fun w hS => Y.lenx rfl (hq2.keep0 hS)) ?_
    refine AW.take 3 rfl (by kernel_rfl) (by kernel_rfl) (by kernel_rfl) rfl (by assumption) (fun w hS => Y.fieldAddr rfl (by rfl)) ?_
    refine AW.take 4 rfl (by kernel_rfl) (by kernel_rfl) (by kernel_rfl) rfl (by assumption) (fun w hS => Y.loadB rfl (hS.at0 hX2) rfl) ?_
    refine AW.take 5 rfl (by kernel_rfl) (by kernel_rfl) (by kernel_rfl) rfl (by assumption) (fun w hS => Y.lenx rfl (hp2.keep0 hS)) ?_
    refine AW.take 7 rfl (by kernel_rfl) (by kernel_rfl) (by kernel_rfl) rfl (by assumption) (fun w hS => Y.fieldAddr rfl (by rfl)) ?_
    refine AW.take 8 rfl (by kernel_rfl) (by kernel_rfl) (by kernel_rfl) rfl (by assumption) (fun w hS => Y.loadB rfl (hS.at0 hX2) rfl) ?_
    refine AW.take 9 rfl (by kernel_rfl) (by kernel_rfl) (by kernel_rfl) rfl (by assumption) (fun w hS => Y.lenx rfl (hp2.keep0 hS)) ?_
    refine AW.take 10 rfl (by kernel_rfl) (by kernel_rfl) (by kernel_rfl) rfl (by assumption) (fun w hS => Y.fieldAddr rfl (by rfl)) ?_
    refine AW.take 11 rfl (by kernel_rfl) (by kernel_rfl) (by kernel_rfl) rfl (by assumption) (fun w hS => Y.loadB rfl (hS.at0 hY2) rfl) ?_
    refine AW.take 12 rfl (by kernel_rfl) (by kernel_rfl) (by kernel_rfl) rfl (by assumption) (fun w hS => Y.lenx rfl (hq2.keep0 hS)) ?_
    refine AW.take 13 rfl (by kernel_rfl) (by kernel_rfl) (by kernel_rfl) rfl (by assumption) (fun w hS => by exact Y.nei rfl rfl) ?_
    refine AW.next 6 rfl (by kernel_rfl) ?_
    refine RW.fn rfl rfl ((refCmpI y.pre.length x.pre.length w5).mono ?_)
    rintro e w' ⟨rfl, rfl⟩
    refine RW.nil (Nm.then ⟨hS, ?_⟩)
    refine AW.next 14 rfl (by kernel_rfl) ?_
    refine RW.fn rfl rfl ((refOneIf _ w5).mono ?_)
    rintro e w' ⟨rfl, rfl⟩
    refine RW.nil (Nm.then ⟨hS, ?_⟩)
    have cb := cmpI_bd y.pre.length x.pre.length
    have hmul := refEmpty x.pre y.pre hE
    have hmb : -1 ≤ cmpP x.pre y.pre ∧ cmpP x.pre y.pre ≤ 1 := by rw [← hmul]; split <;> omega
    refine AW.take 15 rfl (by kernel_rfl) (by kernel_rfl) (by kernel_rfl) rfl (by assumption) (fun w hS => mulEq rfl rfl hmul (by omega) (by omega)) ?_
    refine AW.take 16 rfl (by kernel_rfl) (by kernel_rfl) (by kernel_rfl) rfl (by assumption) (fun w hS => Y.assign rfl) ?_
    refine AW.donew [4] (by kernel_rfl) ?_
    dsimp only [H.keep, H.look, H.Fr.put, Nat.beq]
    repeat' ((refine CL.ret ?_))
    exact FQ.one rfl rfl rfl ⟨hK2.trans0 hk5, ret_int (by rw [cmpV, if_neg e1, if_neg e2, if_neg e3])⟩
  rename_i e3 h1 h2
  have hx1 : x.pre ≠ [] := fun c => h1 (by rw [c]; rfl)
  have hy1 : y.pre ≠ [] := fun c => h2 (by rw [c]; rfl)
  have hcv : cmpV x y = cmpL x.pre y.pre := by rw [cmpV, if_neg e1, if_neg e2, if_neg e3, cmpP, if_neg hx1, if_neg hy1]
  rw [hcv]
  refine CL.loopS [2, 3, 4, 8] (fun k vals wr => ∃ (i : Nat) (n : Int), vals = [.pointer (some ⟨w.heap.size, 0, none⟩), .pointer (some ⟨w1.heap.size, 0, none⟩), .int .i64 n, .int .i64 (i : Int)] ∧ k = x.pre.length - i ∧ i ≤ x.pre.length ∧ i ≤ y.pre.length ∧ cmpL x.pre y.pre = cmpL (x.pre.drop i) (y.pre.drop i) ∧ K0 w2 wr) x.pre.length ⟨_, rfl, 0, 0, rfl, rfl, Nat.zero_le _, Nat.zero_le _, rfl, Kept.refl _ _⟩ ?_
  rintro k vals wr ⟨i, n, rfl, rfl, hi, hiy, hc, hk⟩
  dsimp only [List.zip, List.zipWith]
  have hpr := hp2.keep0 hk
  have hqr := hq2.keep0 hk
  have hXr := hk.at0 hX2
  have hYr := hk.at0 hY2
  have hi2 : ((i : Int)).toNat = i := Int.toNat_natCast i
  by_cases hboth : i < x.pre.length ∧ i < y.pre.length
  · obtain ⟨hlt, hly⟩ := hboth
    have hd := cmpL_drop x.pre y.pre i hlt hly
    have bx : (x.pre.getD i []).length ≤ 1000000000000 := Nat.le_trans (fx2 _ (getD_mem [] hlt)) (by decide)
    have by' : (y.pre.getD i []).length ≤ 1000000000000 := Nat.le_trans (fy2 _ (getD_mem [] hly)) (by decide)
    repeat' (first | (refine CL.seq ?_) | (refine CL.region ?_) | (refine CL.skip ?_) | (refine CL.condP rfl (fun _ => ?_) (fun _ => ?_) <;> try (exfalso; omega)) | (refine CL.block ?_) | (refine Gt.nil ?_; refine RW.nilw [0, 1, 2, 3, 4, 5, 6, 7, 8, 9, 10, 11, 18, 26, 34, 45, 73, 89, 102, 106, 109, 113] ?_; dsimp only [H.keep, H.look, H.Fr.put, Nat.beq]) | (refine Gt.move ?_; refine RW.y (Y.move rfl) rfl ?_) | (refine Gt.guard ?_; first | (refine RW.part rfl rfl rfl (fun _ => ?_) (fun _ => ?_) <;> try (exfalso; omega)) | (refine RW.on rfl rfl rfl ?_)) | (refine Gt.load ?_; refine RW.y (Y.loadB rfl (by assumption) rfl) rfl ?_) | (refine Gt.fieldAddr ?_; refine RW.y (Y.fieldAddr rfl (by rfl)) rfl ?_) | (refine Gt.len ?_; (refine RW.y (Y.lenx rfl (by assumption)) rfl ?_)) | (refine Gt.pick ?_; (refine RW.y (Y.pickT rfl rfl) rfl ?_)) | (refine Gt.lss ?_; refine RW.y (Y.lss rfl rfl) rfl ?_))
    refine CL.draw (fun w' => K0 wr w') (by kernel_rfl) (fun w3 hheap3 hk3 => ?_)
    have hS : K0 wr w3 := hk3
    have ex : ∀ {w' : World}, K0 wr w' → w'.cell? (Value.spot p ((i : Int).toNat * 1)) = some (vs (x.pre.getD i [])) := fun h => (hpr.keep0 h).cell (by rw [hi2, Nat.mul_one]; exact sv_at hlt)
    have ey : ∀ {w' : World}, K0 wr w' → w'.cell? (Value.spot q ((i : Int).toNat * 1)) = some (vs (y.pre.getD i [])) := fun h => (hqr.keep0 h).cell (by rw [hi2, Nat.mul_one]; exact sv_at hly)
    skip
    refine AW.take 0 rfl (by kernel_rfl) (by kernel_rfl) (by kernel_rfl) rfl (by assumption) (fun w hS => Y.fieldAddr rfl (by rfl)) ?_
    refine AW.take 1 rfl (by kernel_rfl) (by kernel_rfl) (by kernel_rfl) rfl (by assumption) (fun w hS => Y.loadB rfl (hS.at0 hXr) rfl) ?_
    refine AW.take 2 rfl (by kernel_rfl) (by kernel_rfl) (by kernel_rfl) rfl (by assumption) (fun w hS => Y.move rfl) ?_
    refine AW.take 3 rfl (by kernel_rfl) (by kernel_rfl) (by kernel_rfl) rfl (by assumption) (fun w hS => Y.idx rfl rfl (hpr.keep0 hS) (by omega) (by omega)) ?_
    refine AW.take 4 rfl (by kernel_rfl) (by kernel_rfl) (by kernel_rfl) rfl (by assumption) (fun w hS => Y.load1 rfl (ex hS)) ?_
    refine AW.take 5 rfl (by kernel_rfl) (by kernel_rfl) (by kernel_rfl) rfl (by assumption) (fun w hS => Y.fieldAddr rfl (by rfl)) ?_
    refine AW.take 6 rfl (by kernel_rfl) (by kernel_rfl) (by kernel_rfl) rfl (by assumption) (fun w hS => Y.loadB rfl (hS.at0 hYr) rfl) ?_
    refine AW.take 7 rfl (by kernel_rfl) (by kernel_rfl) (by kernel_rfl) rfl (by assumption) (fun w hS => Y.move rfl) ?_
    refine AW.take 8 rfl (by kernel_rfl) (by kernel_rfl) (by kernel_rfl) rfl (by assumption) (fun w hS => Y.idx rfl rfl (hqr.keep0 hS) (by omega) (by omega)) ?_
    refine AW.take 9 rfl (by kernel_rfl) (by kernel_rfl) (by kernel_rfl) rfl (by assumption) (fun w hS => Y.load1 rfl (ey hS)) ?_
    refine AW.take 10 rfl (by kernel_rfl) (by kernel_rfl) (by kernel_rfl) rfl (by assumption) (fun w hS => Y.assign rfl) ?_
    refine AW.take 11 rfl (by kernel_rfl) (by kernel_rfl) (by kernel_rfl) rfl (by assumption) (fun w hS => Y.assign rfl) ?_
    refine AW.donew [2, 3, 4, 8, 9, 10] (by kernel_rfl) ?_
    dsimp only [H.keep, H.look, H.Fr.put, Nat.beq]
    have hK3 : K0 w w3 := (hK2.trans0 hk).trans0 hk3
    generalize x.pre.getD i [] = s at *
    generalize y.pre.getD i [] = t at *
    repeat' (first | (refine CL.seq ?_) | (refine CL.region ?_) | (refine Gt.nil ?_; refine RW.nilw [0, 1, 2, 3, 4, 5, 6, 7, 8, 9, 10, 11, 18, 26, 34, 45, 73, 89, 102, 106, 109, 113] ?_; dsimp only [H.keep, H.look, H.Fr.put, Nat.beq]) | (refine Gt.assign ?_; refine RW.y (Y.assign rfl) rfl ?_))
    refine CL.cutS [2, 3, 4, 8, 11] (fun vals wz => vals = [.pointer (some ⟨w.heap.size, 0, none⟩), .pointer (some ⟨w1.heap.size, 0, none⟩), .int .i64 n, .int .i64 (i : Int), .int .i64 (cmpM s t)] ∧ wz = w3) (by simp) ?_ ?_
    · repeat' (first | (refine CL.seq ?_) | (refine CL.region ?_) | (refine CL.block ?_) | (refine Gt.move ?_; refine RW.y (Y.move rfl) rfl ?_))
      refine RW.fn rfl rfl ((refDigits s bx w3).mono ?_)
      rintro e w' ⟨rfl, rfl⟩
      unfold cmpM
      cases h1 : digB s
      · repeat' (first | (refine CL.seq ?_) | (refine CL.region ?_) | (refine CL.condF rfl ?_) | (refine Gt.nil ?_; refine RW.nilw [0, 1, 2, 3, 4, 5, 6, 7, 8, 9, 10, 11, 18, 26, 34, 45, 73, 89, 102, 106, 109, 113] ?_; dsimp only [H.keep, H.look, H.Fr.put, Nat.beq]) | (refine Gt.move ?_; refine RW.y (Y.move rfl) rfl ?_) | (refine Gt.guard ?_; (refine RW.off1 rfl rfl rfl rfl rfl ?_)) | (refine Gt.assign ?_; refine RW.y (Y.assign rfl) rfl ?_) | (refine Gt.pick ?_; (refine RW.y (Y.pickF rfl rfl) rfl ?_)))
        refine RW.fn rfl rfl ((refDigits s bx w3).mono ?_)
        rintro e w' ⟨rfl, rfl⟩
        rw [h1]
        repeat' (first | (refine CL.seq ?_) | (refine CL.region ?_) | (refine CL.condF rfl ?_) | (refine Gt.nil ?_; refine RW.nilw [0, 1, 2, 3, 4, 5, 6, 7, 8, 9, 10, 11, 18, 26, 34, 45, 73, 89, 102, 106, 109, 113] ?_; dsimp only [H.keep, H.look, H.Fr.put, Nat.beq]) | (refine Gt.move ?_; refine RW.y (Y.move rfl) rfl ?_) | (refine Gt.assign ?_; refine RW.y (Y.assign rfl) rfl ?_))
        refine RW.fn rfl rfl ((refDigits t by' w3).mono ?_)
        rintro e w' ⟨rfl, rfl⟩
        cases h2 : digB t
        · repeat' (first | (refine CL.region ?_) | (refine CL.condF rfl ?_) | (refine Gt.nil ?_; refine RW.nilw [0, 1, 2, 3, 4, 5, 6, 7, 8, 9, 10, 11, 18, 26, 34, 45, 73, 89, 102, 106, 109, 113] ?_; dsimp only [H.keep, H.look, H.Fr.put, Nat.beq]) | (refine Gt.move ?_; refine RW.y (Y.move rfl) rfl ?_) | (refine Gt.assign ?_; refine RW.y (Y.assign rfl) rfl ?_))
          refine RW.fn rfl rfl ((refText s t w3).mono ?_)
          rintro e w' ⟨rfl, rfl⟩
          repeat' (first | (refine CL.done ?_) | (refine Nm.block ?_) | (refine Nm.then ?_) | (refine Gt.nil ?_; refine RW.nilw [0, 1, 2, 3, 4, 5, 6, 7, 8, 9, 10, 11, 18, 26, 34, 45, 73, 89, 102, 106, 109, 113] ?_; dsimp only [H.keep, H.look, H.Fr.put, Nat.beq]) | (refine Gt.assign ?_; refine RW.y (Y.assign rfl) rfl ?_))
          exact ⟨_, rfl, rfl, rfl, by simp, rfl⟩
        · repeat' (first | (refine CL.region ?_) | (refine CL.condT rfl ?_) | (refine CL.done ?_) | (refine Nm.block ?_) | (refine Nm.then ?_) | (refine Gt.nil ?_; refine RW.nilw [0, 1, 2, 3, 4, 5, 6, 7, 8, 9, 10, 11, 18, 26, 34, 45, 73, 89, 102, 106, 109, 113] ?_; dsimp only [H.keep, H.look, H.Fr.put, Nat.beq]) | (refine Gt.assign ?_; refine RW.y (Y.assign rfl) rfl ?_))
          exact ⟨_, rfl, rfl, rfl, by simp, rfl⟩
      · repeat' (first | (refine Gt.move ?_; refine RW.y (Y.move rfl) rfl ?_) | (refine Gt.guard ?_; (refine RW.on rfl rfl rfl ?_)))
        refine RW.fn rfl rfl ((refDigits t by' w3).mono ?_)
        rintro e w' ⟨rfl, rfl⟩
        cases h2 : digB t
        · repeat' (first | (refine CL.seq ?_) | (refine CL.region ?_) | (refine CL.condF rfl ?_) | (refine Gt.nil ?_; refine RW.nilw [0, 1, 2, 3, 4, 5, 6, 7, 8, 9, 10, 11, 18, 26, 34, 45, 73, 89, 102, 106, 109, 113] ?_; dsimp only [H.keep, H.look, H.Fr.put, Nat.beq]) | (refine Gt.move ?_; refine RW.y (Y.move rfl) rfl ?_) | (refine Gt.assign ?_; refine RW.y (Y.assign rfl) rfl ?_) | (refine Gt.pick ?_; (refine RW.y (Y.pickT rfl rfl) rfl ?_)))
          refine RW.fn rfl rfl ((refDigits s bx w3).mono ?_)
          rintro e w' ⟨rfl, rfl⟩
          rw [h1]
          repeat' (first | (refine CL.region ?_) | (refine CL.condT rfl ?_) | (refine CL.done ?_) | (refine Nm.block ?_) | (refine Nm.then ?_) | (refine Gt.nil ?_; refine RW.nilw [0, 1, 2, 3, 4, 5, 6, 7, 8, 9, 10, 11, 18, 26, 34, 45, 73, 89, 102, 106, 109, 113] ?_; dsimp only [H.keep, H.look, H.Fr.put, Nat.beq]) | (refine Gt.assign ?_; refine RW.y (Y.assign rfl) rfl ?_))
          exact ⟨_, rfl, rfl, rfl, by simp, rfl⟩
        · repeat' (first | (refine CL.seq ?_) | (refine CL.region ?_) | (refine CL.condT rfl ?_) | (refine Gt.nil ?_; refine RW.nilw [0, 1, 2, 3, 4, 5, 6, 7, 8, 9, 10, 11, 18, 26, 34, 45, 73, 89, 102, 106, 109, 113] ?_; dsimp only [H.keep, H.look, H.Fr.put, Nat.beq]) | (refine Gt.move ?_; refine RW.y (Y.move rfl) rfl ?_) | (refine Gt.assign ?_; refine RW.y (Y.assign rfl) rfl ?_) | (refine Gt.len ?_; (refine RW.y (Y.lens rfl) rfl ?_)) | (refine Gt.pick ?_; (refine RW.y (Y.pickT rfl rfl) rfl ?_)))
          refine RW.fn rfl rfl ((refCmpI s.length t.length w3).mono ?_)
          rintro e w' ⟨rfl, rfl⟩
          repeat' (first | (refine CL.seq ?_) | (refine CL.region ?_) | (refine CL.skip ?_) | (refine CL.condP rfl (fun _ => ?_) (fun _ => ?_) <;> try (exfalso; omega)) | (refine CL.done ?_) | (refine Nm.block ?_) | (refine Nm.then ?_) | (refine Gt.nil ?_; refine RW.nilw [0, 1, 2, 3, 4, 5, 6, 7, 8, 9, 10, 11, 18, 26, 34, 45, 73, 89, 102, 106, 109, 113] ?_; dsimp only [H.keep, H.look, H.Fr.put, Nat.beq]) | (refine Gt.move ?_; refine RW.y (Y.move rfl) rfl ?_) | (refine Gt.assign ?_; refine RW.y (Y.assign rfl) rfl ?_) | (refine Gt.eql ?_; refine RW.y (Y.eqi rfl rfl) rfl ?_))
          · refine RW.fn rfl rfl ((refText s t w3).mono ?_)
            rintro e w' ⟨rfl, rfl⟩
            repeat' (first | (refine CL.done ?_) | (refine Nm.block ?_) | (refine Nm.then ?_) | (refine Gt.nil ?_; refine RW.nilw [0, 1, 2, 3, 4, 5, 6, 7, 8, 9, 10, 11, 18, 26, 34, 45, 73, 89, 102, 106, 109, 113] ?_; dsimp only [H.keep, H.look, H.Fr.put, Nat.beq]) | (refine Gt.assign ?_; refine RW.y (Y.assign rfl) rfl ?_))
            rename_i h
            exact ⟨_, rfl, rfl, rfl, by simp [h], rfl⟩
          · rename_i h
            exact ⟨_, rfl, rfl, rfl, by simp [h], rfl⟩
    · rintro vals wz ⟨rfl, rfl⟩
      dsimp only [List.zip, List.zipWith]
      repeat' (first | (refine CL.seq ?_) | (refine CL.region ?_) | (refine CL.skip ?_) | (refine CL.condP rfl (fun _ => ?_) (fun _ => ?_) <;> try (exfalso; omega)) | (refine CL.ret ?_) | (refine Rt.then ?_) | (refine Rt.block ?_) | (refine CL.done ?_) | (refine Nm.block ?_) | (refine Nm.then ?_) | (refine Gt.nil ?_; refine RW.nilw [0, 1, 2, 3, 4, 5, 6, 7, 8, 9, 10, 11, 18, 26, 34, 45, 73, 89, 102, 106, 109, 113] ?_; dsimp only [H.keep, H.look, H.Fr.put, Nat.beq]) | (refine Gt.move ?_; refine RW.y (Y.move rfl) rfl ?_) | (refine Gt.assign ?_; refine RW.y (Y.assign rfl) rfl ?_) | (refine Gt.neq ?_; refine RW.y (Y.nei rfl rfl) rfl ?_) | (refine Gt.add ?_; refine RW.y (Y.add64 rfl rfl (by omega) (by omega)) rfl ?_))
      · rename_i h
        exact FQ.one rfl rfl rfl ⟨hK3, ret_int (by rw [hc, hd, if_pos h])⟩
      · rename_i h
        exact ⟨x.pre.length - (i + 1), _, rfl, rfl, rfl, by omega, i + 1, n, rfl, rfl, by omega, by omega, by rw [hc, hd, if_neg h], hk.trans0 hk3⟩
  · have hcc : cmpI x.pre.length y.pre.length = cmpL x.pre y.pre := by
      rw [hc]
      rcases Nat.lt_or_ge i x.pre.length with hlt | hge
      · rw [cmpL_y _ _ i hlt (by omega), cmpI, if_neg (by omega), if_pos (by omega)]
      · rcases Nat.lt_or_ge i y.pre.length with hlt2 | hge2
        · rw [cmpL_x _ _ i hge hlt2, cmpI, if_pos (by omega)]
        · rw [cmpL_n _ _ i hge hge2, cmpI, if_neg (by omega), if_neg (by omega)]
    repeat' (first | (refine CL.seq ?_) | (refine CL.region ?_) | (refine CL.condP rfl (fun _ => ?_) (fun _ => ?_) <;> try (exfalso; omega)) | (refine CL.condF rfl ?_) | (refine CL.exit ?_) | (refine Ex.then ?_) | (refine Ex.hit ?_) | (refine Gt.nil ?_; refine RW.nilw [0, 1, 2, 3, 4, 5, 6, 7, 8, 9, 10, 11, 18, 26, 34, 45, 73, 89, 102, 106, 109, 113] ?_; dsimp only [H.keep, H.look, H.Fr.put, Nat.beq]) | (refine Gt.move ?_; refine RW.y (Y.move rfl) rfl ?_) | (refine Gt.guard ?_; first | (refine RW.part rfl rfl rfl (fun _ => ?_) (fun _ => ?_) <;> try (exfalso; omega)) | (refine RW.on rfl rfl rfl ?_) | (refine RW.off1 rfl rfl rfl rfl rfl ?_)) | (refine Gt.load ?_; refine RW.y (Y.loadB rfl (by assumption) rfl) rfl ?_) | (refine Gt.fieldAddr ?_; refine RW.y (Y.fieldAddr rfl (by rfl)) rfl ?_) | (refine Gt.len ?_; (refine RW.y (Y.lenx rfl (by assumption)) rfl ?_)) | (refine Gt.pick ?_; first | (refine RW.y (Y.pickT rfl rfl) rfl ?_) | (refine RW.y (Y.pickF rfl rfl) rfl ?_)) | (refine Gt.lss ?_; refine RW.y (Y.lss rfl rfl) rfl ?_))
    all_goals
      refine RW.fn rfl rfl ((refCmpI x.pre.length y.pre.length wr).mono ?_)
      rintro e w' ⟨rfl, rfl⟩
      rw [hcc]
      repeat' (first | (refine CL.ret ?_) | (refine Gt.nil ?_; refine RW.nilw [0, 1, 2, 3, 4, 5, 6, 7, 8, 9, 10, 11, 18, 26, 34, 45, 73, 89, 102, 106, 109, 113] ?_; dsimp only [H.keep, H.look, H.Fr.put, Nat.beq]) | (refine Gt.assign ?_; refine RW.y (Y.assign rfl) rfl ?_))
      exact FQ.one rfl rfl rfl ⟨hK2.trans0 hk, rfl⟩
end Go.Proofs.Ytlbegmpikggmlaa.Ve

namespace Go.Proofs.Ytlbegmpikggmlaa.Ve
open Go.RowKit H S
attribute [local irreducible] H.CL H.RW H.CW H.Yd H.thenK H.blockQ Go.Calls

theorem dec_len : ∀ (k u : Nat), u < 10 ^ (k + 1) → (Go.Lib.decDigits u).length ≤ k + 1
  | 0, u, h => by rw [Go.Lib.decDigits, dif_pos (by simpa using h)]; simp
  | k + 1, u, h => by
    rw [Go.Lib.decDigits]
    split
    · simp
    · have := dec_len k (u / 10) (by rw [Nat.pow_succ] at h; omega)
      simp only [List.length_append, List.length_cons, List.length_nil]
      omega
theorem decI_len (n : Int) (h : n ≤ 9223372036854775807) : (decI n).length ≤ 19 :=
  dec_len 18 n.toNat (by have : (10 : Nat) ^ 19 = 10000000000000000000 := by decide
                         omega)

theorem decI_max (n : Int) : decI (max n 0) = decI n := by
  unfold decI
  rw [show (max n 0).toNat = n.toNat from by omega]

theorem dig_cut (n : Int) (h0 : 0 ≤ n) (h1 : n < 10) : ((([48, 49, 50, 51, 52, 53, 54, 55, 56, 57] : T).take (n + 1).toNat).drop n.toNat) = [UInt8.ofNat (48 + n.toNat)] := by
  obtain ⟨k, rfl⟩ : ∃ k : Nat, n = k := ⟨n.toNat, by omega⟩
  have h2 : ((k : Int) + 1).toNat = k + 1 := by omega
  rw [h2, Int.toNat_natCast]
  have : k = 0 ∨ k = 1 ∨ k = 2 ∨ k = 3 ∨ k = 4 ∨ k = 5 ∨ k = 6 ∨ k = 7 ∨ k = 8 ∨ k = 9 := by omega
  rcases this with rfl | rfl | rfl | rfl | rfl | rfl | rfl | rfl | rfl | rfl <;> rfl

theorem refDecSmall (n : Int) (h10 : n < 10) (w : World) : Calls Try.prog 46 #[.int .i64 n] w fun e w' => K0 w w' ∧ e = .returned (vs (decI n)) := by
  refine H.enter Try.func46 Try.ntmps46 rfl rfl ?_; dsimp only [H.args]
  repeat' (first | (refine CL.seq ?_) | (refine CL.region ?_) | (refine CL.condP rfl (fun _ => ?_) (fun _ => ?_) <;> try (exfalso; omega)) | (refine Gt.nil ?_; refine RW.nilw [0, 2, 4] ?_; dsimp only [H.keep, H.look, H.Fr.put, Nat.beq]) | (refine Gt.move ?_; refine RW.y (Y.move rfl) rfl ?_) | (refine Gt.assign ?_; refine RW.y (Y.assign rfl) rfl ?_) | (refine Gt.add ?_; (refine RW.y (Y.add64 rfl rfl (by omega) (by omega)) rfl ?_)) | (refine Gt.lss ?_; refine RW.y (Y.lss rfl rfl) rfl ?_) | (refine Gt.call ?_; refine RW.y (Y.max2 rfl rfl) rfl ?_))
  refine RW.y (Y.cutlh (l := [48, 49, 50, 51, 52, 53, 54, 55, 56, 57]) rfl rfl rfl (by omega) (by omega) (show (_ : Int) ≤ ((10 : Nat) : Int) from by omega)) rfl ?_
  repeat' (first | (refine CL.ret ?_) | (refine Gt.nil ?_; refine RW.nilw [0, 2, 4] ?_; dsimp only [H.keep, H.look, H.Fr.put, Nat.beq]) | (refine Gt.assign ?_; refine RW.y (Y.assign rfl) rfl ?_))
  refine FQ.one rfl rfl rfl ⟨Kept.refl _ _, ?_⟩
  rw [dig_cut _ (by omega) (by omega), decI, Go.Lib.decDigits, dif_pos (by omega), show (max n 0).toNat = n.toNat from by omega]

set_option maxHeartbeats 400000 in
theorem refDec : ∀ (m : Nat) (n : Int), n.toNat ≤ m → n ≤ 9223372036854775807 → ∀ (w : World), Calls Try.prog 46 #[.int .i64 n] w fun e w' => K0 w w' ∧ e = .returned (vs (decI n)) := by
  intro m
  induction m with
  | zero => exact fun n hm _ w => refDecSmall n (by omega) w
  | succ m ih =>
    intro n hm h1 w
    by_cases h10 : n < 10
    · exact refDecSmall n h10 w
    have hl := decI_len (n / 10) (by omega)
    refine H.enter Try.func46 Try.ntmps46 rfl rfl ?_; dsimp only [H.args]
    repeat' (first | (refine CL.seq ?_) | (refine CL.region ?_) | (refine CL.skip ?_) | (refine CL.condP rfl (fun _ => ?_) (fun _ => ?_) <;> try (exfalso; omega)) | (refine Gt.nil ?_; refine RW.nilw [0, 2, 4] ?_; dsimp only [H.keep, H.look, H.Fr.put, Nat.beq]) | (refine Gt.move ?_; refine RW.y (Y.move rfl) rfl ?_) | (refine Gt.assign ?_; refine RW.y (Y.assign rfl) rfl ?_) | (refine Gt.lss ?_; refine RW.y (Y.lss rfl rfl) rfl ?_))
    refine CL.draw (fun w' => K0 w w') (by kernel_rfl) (fun w1 hheap hk1 => ?_)
    have hS : K0 w w1 := hk1
    skip
    refine AW.take 0 rfl (by kernel_rfl) (by kernel_rfl) (by kernel_rfl) rfl (by assumption) (fun w hS => Y.move rfl) ?_
    refine AW.take 1 rfl (by kernel_rfl) (by kernel_rfl) (by kernel_rfl) rfl (by assumption) (fun w hS => Y.quoP rfl rfl (by omega) (by omega) (by exact wrap64_id (by omega) (by omega))) ?_
    refine AW.take 3 rfl (by kernel_rfl) (by kernel_rfl) (by kernel_rfl) rfl (by assumption) (fun w hS => Y.move rfl) ?_
    refine AW.take 4 rfl (by kernel_rfl) (by kernel_rfl) (by kernel_rfl) rfl (by assumption) (fun w hS => by exact Y.remP rfl rfl (by omega) (by omega)) ?_
    refine AW.take 5 rfl (by kernel_rfl) (by kernel_rfl) (by kernel_rfl) rfl (by assumption) (fun w hS => Y.move rfl) ?_
    refine AW.take 6 rfl (by kernel_rfl) (by kernel_rfl) (by kernel_rfl) rfl (by assumption) (fun w hS => by exact Y.remP rfl rfl (by omega) (by omega)) ?_
    refine AW.take 7 rfl (by kernel_rfl) (by kernel_rfl) (by kernel_rfl) rfl (by assumption) (fun w hS => by exact Y.add64 rfl rfl (by omega) (by omega)) ?_
    refine AW.take 8 rfl (by kernel_rfl) (by kernel_rfl) (by kernel_rfl) rfl (by assumption) (fun w hS => Y.cutlh (l := [48, 49, 50, 51, 52, 53, 54, 55, 56, 57]) rfl rfl rfl (by omega) (by omega) (show (_ : Int) ≤ ((10 : Nat) : Int) from by omega)) ?_
    refine AW.next 2 rfl (by kernel_rfl) ?_
    refine RW.fn rfl rfl ((ih (n / 10) (by omega) (by omega) w1).mono ?_)
    rintro e w2 ⟨hk2, rfl⟩
    refine RW.nil (Nm.then (rebase0 hS hk2 fun hS => ?_))
    rw [dig_cut _ (by omega) (by omega)]
    have k1 : ∀ c : UInt8, ([c] : T).length = 1 := fun _ => rfl
    refine AW.take 9 rfl (by kernel_rfl) (by kernel_rfl) (by kernel_rfl) rfl (by assumption) (fun w hS => Y.cat rfl rfl (by rw [k1]; omega)) ?_
    refine AW.take 10 rfl (by kernel_rfl) (by kernel_rfl) (by kernel_rfl) rfl (by assumption) (fun w hS => Y.assign rfl) ?_
    refine AW.donew [2] (by kernel_rfl) ?_
    dsimp only [H.keep, H.look, H.Fr.put, Nat.beq]
    repeat' ((refine CL.ret ?_))
    refine FQ.one rfl rfl rfl ⟨hk1.trans0 hk2, ?_⟩
    conv => rhs; rw [decI, Go.Lib.decDigits, dif_neg (by omega)]
    rw [decI, show (n / 10).toNat = n.toNat / 10 from by omega, show (n % 10).toNat = n.toNat % 10 from by omega]

theorem dec (n : Int) (h1 : n ≤ 9223372036854775807) (w : World) : Calls Try.prog 46 #[.int .i64 n] w fun e w' => K0 w w' ∧ e = .returned (vs (decI n)) := refDec n.toNat n (Nat.le_refl _) h1 w

def markT (l : List T) : T := if l = [] then [] else 45 :: glueC 46 l
theorem markT_snoc (l : List T) (x : T) : markT (l ++ [x]) = if l = [] then 45 :: x else markT l ++ [46] ++ x := by
  unfold markT
  rw [if_neg (by simp), glueC_snoc]
  by_cases h : l = []
  · simp [h]
  · simp [h]

set_option maxHeartbeats 1000000 in
theorem refVText (X : Value) (x : Ver) (w : World) (hX : VerAt w X x) (fx : Fit x) (b1 : x.a ≤ 9223372036854775807) (b2 : x.b ≤ 9223372036854775807) (b3 : x.c ≤ 9223372036854775807) : Calls Try.prog 44 #[X] w fun e w' => K0 w w' ∧ e = .returned (vs (textV x)) := by
  obtain ⟨p, rfl, hp⟩ := hX
  have l1 := decI_len x.a b1
  have l2 := decI_len x.b b2
  have l3 := decI_len x.c b3
  have lf := fx.1
  have k1 : ([46] : T).length = 1 := rfl
  have k2 : ([45] : T).length = 1 := rfl
  refine H.enter Try.func44 Try.ntmps44 rfl rfl ?_; dsimp only [H.args]
  repeat' (first | (refine CL.seq ?_) | (refine CL.region ?_))
  refine RW.box rfl rfl (fun w1 hb1 hk1 hlt1 => ?_)
  have hX1 : w1.heap[w.heap.size]? = some (.cells #[.int .i64 x.a, .int .i64 x.b, .int .i64 x.c, p] verT (0, 0)) := hb1
  repeat' (first | (refine CL.seq ?_) | (refine Gt.nil ?_; refine RW.nilw [0, 1, 2, 3, 4, 22, 26] ?_; dsimp only [H.keep, H.look, H.Fr.put, Nat.beq]) | (refine Gt.assign ?_; refine RW.y (Y.assign rfl) rfl ?_))
  refine CL.draw (fun w' => K0 w1 w') (by kernel_rfl) (fun w2 hheap hk2 => ?_)
  have hS : K0 w1 w2 := hk2
  skip
  refine AW.take 0 rfl (by kernel_rfl) (by kernel_rfl) (by kernel_rfl) rfl (by assumption) (fun w hS => Y.fieldAddr rfl (by rfl)) ?_
  refine AW.take 1 rfl (by kernel_rfl) (by kernel_rfl) (by kernel_rfl) rfl (by assumption) (fun w hS => Y.loadB rfl (hS.at0 hX1) rfl) ?_
  refine AW.take 4 rfl (by kernel_rfl) (by kernel_rfl) (by kernel_rfl) rfl (by assumption) (fun w hS => Y.fieldAddr rfl (by rfl)) ?_
  refine AW.take 5 rfl (by kernel_rfl) (by kernel_rfl) (by kernel_rfl) rfl (by assumption) (fun w hS => Y.loadB rfl (hS.at0 hX1) rfl) ?_
  refine AW.take 9 rfl (by kernel_rfl) (by kernel_rfl) (by kernel_rfl) rfl (by assumption) (fun w hS => Y.fieldAddr rfl (by rfl)) ?_
  refine AW.take 10 rfl (by kernel_rfl) (by kernel_rfl) (by kernel_rfl) rfl (by assumption) (fun w hS => Y.loadB rfl (hS.at0 hX1) rfl) ?_
  refine AW.next 2 rfl (by kernel_rfl) ?_
  refine RW.fn rfl rfl ((dec _ (by omega) w2).mono ?_)
  rintro e w3 ⟨hk3, rfl⟩
  refine RW.nil (Nm.then (rebase0 hS hk3 fun hS => ?_))
  refine AW.take 3 rfl (by kernel_rfl) (by kernel_rfl) (by kernel_rfl) rfl (by assumption) (fun w hS => by exact Y.cat rfl rfl (by omega)) ?_
  refine AW.next 6 rfl (by kernel_rfl) ?_
  refine RW.fn rfl rfl ((dec _ (by omega) w3).mono ?_)
  rintro e w4 ⟨hk4, rfl⟩
  refine RW.nil (Nm.then (rebase0 hS hk4 fun hS => ?_))
  refine AW.take 7 rfl (by kernel_rfl) (by kernel_rfl) (by kernel_rfl) rfl (by assumption) (fun w hS => by exact Y.cat rfl rfl (by (simp only [List.length_append, List.length_cons, List.length_nil]; omega))) ?_
  refine AW.take 8 rfl (by kernel_rfl) (by kernel_rfl) (by kernel_rfl) rfl (by assumption) (fun w hS => by exact Y.cat rfl rfl (by (simp only [List.length_append, List.length_cons, List.length_nil]; omega))) ?_
  refine AW.next 11 rfl (by kernel_rfl) ?_
  refine RW.fn rfl rfl ((dec _ (by omega) w4).mono ?_)
  rintro e w5 ⟨hk5, rfl⟩
  refine RW.nil (Nm.then (rebase0 hS hk5 fun hS => ?_))
  refine AW.take 12 rfl (by kernel_rfl) (by kernel_rfl) (by kernel_rfl) rfl (by assumption) (fun w hS => by exact Y.cat rfl rfl (by (simp only [List.length_append, List.length_cons, List.length_nil]; omega))) ?_
  refine AW.take 13 rfl (by kernel_rfl) (by kernel_rfl) (by kernel_rfl) rfl (by assumption) (fun w hS => Y.assign rfl) ?_
  refine AW.donew [1, 2, 3] (by kernel_rfl) ?_
  dsimp only [H.keep, H.look, H.Fr.put, Nat.beq]
  have hK15 : K0 w1 w5 := ((hk2.trans0 hk3).trans0 hk4).trans0 hk5
  have hX5 := hK15.at0 hX1
  have hK5 : K0 w w5 := hk1.trans0 hK15
  have hp5 := hp.keep0 hK5
  have hbl : (decI x.a ++ [46] ++ decI x.b ++ [46] ++ decI x.c).length ≤ 100 := by simp only [List.length_append]; omega
  have htx : textV x = decI x.a ++ [46] ++ decI x.b ++ [46] ++ decI x.c ++ markT x.pre := rfl
  rw [htx]
  generalize decI x.a ++ [46] ++ decI x.b ++ [46] ++ decI x.c = base at *
  repeat' (first | (refine CL.seq ?_) | (refine CL.region ?_) | (refine CL.block ?_) | (refine Gt.nil ?_; refine RW.nilw [0, 1, 2, 3, 4, 22, 26] ?_; dsimp only [H.keep, H.look, H.Fr.put, Nat.beq]) | (refine Gt.assign ?_; refine RW.y (Y.assign rfl) rfl ?_))
  refine CL.loopS [1, 3, 4] (fun k vals wr => ∃ (i : Nat), vals = [.pointer (some ⟨w.heap.size, 0, none⟩), vs (base ++ markT (x.pre.take i)), .int .i64 (i : Int)] ∧ k = x.pre.length - i ∧ i ≤ x.pre.length ∧ (markT (x.pre.take i)).length ≤ i * 1000001 ∧ wr = w5) x.pre.length ⟨_, rfl, 0, by simp [markT], rfl, Nat.zero_le _, by simp [markT], rfl⟩ ?_
  rintro k vals wr ⟨i, rfl, rfl, hi, hml, rfl⟩
  dsimp only [List.zip, List.zipWith]
  have hi2 : ((i : Int)).toNat = i := Int.toNat_natCast i
  rcases Nat.lt_or_ge i x.pre.length with hlt | hge
  · have hsn := markT_snoc (x.pre.take i) (x.pre.getD i [])
    rw [← take_snoc [] x.pre i hlt] at hsn
    have hb := fx.2 _ (getD_mem [] hlt)
    have hu : (x.pre.getD ((i : Int)).toNat []).length ≤ 1000000 := by rw [hi2]; exact hb
    rcases Nat.eq_zero_or_pos i with h0 | h0
    · subst h0
      rw [if_pos (by simp)] at hsn
      repeat' (first | (refine CL.seq ?_) | (refine CL.region ?_) | (refine CL.skip ?_) | (refine CL.condP rfl (fun _ => ?_) (fun _ => ?_) <;> try (exfalso; omega)) | (refine CL.block ?_) | (refine CL.done ?_) | (refine Nm.block ?_) | (refine Nm.then ?_) | (refine Gt.nil ?_; refine RW.nilw [0, 1, 2, 3, 4, 22, 26] ?_; dsimp only [H.keep, H.look, H.Fr.put, Nat.beq]) | (refine Gt.assign ?_; refine RW.y (Y.assign rfl) rfl ?_) | (refine Gt.move ?_; refine RW.y (Y.move rfl) rfl ?_) | (refine Gt.add ?_; first | (refine RW.y (Y.cat rfl rfl (by (simp only [List.length_append, List.length_cons, List.length_nil]; omega))) rfl ?_) | (refine RW.y (Y.add64 rfl rfl (by omega) (by omega)) rfl ?_)) | (refine Gt.load ?_; refine RW.y (Y.loadB rfl (by assumption) rfl) rfl ?_) | (refine Gt.fieldAddr ?_; refine RW.y (Y.fieldAddr rfl (by rfl)) rfl ?_) | (refine Gt.len ?_; (refine RW.y (Y.lenx rfl (by assumption)) rfl ?_)) | (refine Gt.lss ?_; refine RW.y (Y.lss rfl rfl) rfl ?_) | (refine Gt.eql ?_; refine RW.y (Y.eqi rfl rfl) rfl ?_) | (refine Gt.idx ?_; refine RW.elemS rfl rfl rfl rfl (by assumption) (by omega) (by omega) ?_))
      refine ⟨x.pre.length - (0 + 1), _, rfl, rfl, rfl, by omega, 0 + 1, ?_, rfl, by omega, by rw [hsn, List.length_cons]; omega, rfl⟩
      rw [hsn]
      simp [markT]
    · have hne : x.pre.take i ≠ [] := fun h => by have := congrArg List.length h; rw [List.length_take] at this; simp only [List.length_nil] at this; omega
      rw [if_neg hne] at hsn
      repeat' (first | (refine CL.seq ?_) | (refine CL.region ?_) | (refine CL.skip ?_) | (refine CL.condP rfl (fun _ => ?_) (fun _ => ?_) <;> try (exfalso; omega)) | (refine CL.block ?_) | (refine CL.done ?_) | (refine Nm.block ?_) | (refine Nm.then ?_) | (refine Gt.nil ?_; refine RW.nilw [0, 1, 2, 3, 4, 22, 26] ?_; dsimp only [H.keep, H.look, H.Fr.put, Nat.beq]) | (refine Gt.assign ?_; refine RW.y (Y.assign rfl) rfl ?_) | (refine Gt.move ?_; refine RW.y (Y.move rfl) rfl ?_) | (refine Gt.add ?_; first | (refine RW.y (Y.cat rfl rfl (by (simp only [List.length_append, List.length_cons, List.length_nil]; omega))) rfl ?_) | (refine RW.y (Y.add64 rfl rfl (by omega) (by omega)) rfl ?_)) | (refine Gt.load ?_; refine RW.y (Y.loadB rfl (by assumption) rfl) rfl ?_) | (refine Gt.fieldAddr ?_; refine RW.y (Y.fieldAddr rfl (by rfl)) rfl ?_) | (refine Gt.len ?_; (refine RW.y (Y.lenx rfl (by assumption)) rfl ?_)) | (refine Gt.lss ?_; refine RW.y (Y.lss rfl rfl) rfl ?_) | (refine Gt.eql ?_; refine RW.y (Y.eqi rfl rfl) rfl ?_) | (refine Gt.idx ?_; refine RW.elemS rfl rfl rfl rfl (by assumption) (by omega) (by omega) ?_))
      refine ⟨x.pre.length - (i + 1), _, rfl, rfl, rfl, by omega, i + 1, ?_, rfl, by omega, by rw [hsn]; simp only [List.length_append]; omega, rfl⟩
      rw [hsn, hi2]
      simp
  · have hi : i = x.pre.length := by omega
    subst hi
    rw [List.take_length]
    repeat' (first | (refine CL.seq ?_) | (refine CL.region ?_) | (refine CL.condP rfl (fun _ => ?_) (fun _ => ?_) <;> try (exfalso; omega)) | (refine CL.exit ?_) | (refine Ex.then ?_) | (refine Ex.hit ?_) | (refine CL.ret ?_) | (refine Gt.nil ?_; refine RW.nilw [0, 1, 2, 3, 4, 22, 26] ?_; dsimp only [H.keep, H.look, H.Fr.put, Nat.beq]) | (refine Gt.assign ?_; refine RW.y (Y.assign rfl) rfl ?_) | (refine Gt.move ?_; refine RW.y (Y.move rfl) rfl ?_) | (refine Gt.load ?_; refine RW.y (Y.loadB rfl (by assumption) rfl) rfl ?_) | (refine Gt.fieldAddr ?_; refine RW.y (Y.fieldAddr rfl (by rfl)) rfl ?_) | (refine Gt.len ?_; (refine RW.y (Y.lenx rfl (by assumption)) rfl ?_)) | (refine Gt.lss ?_; refine RW.y (Y.lss rfl rfl) rfl ?_))
    exact FQ.one rfl rfl rfl ⟨hK5, rfl⟩
end Go.Proofs.Ytlbegmpikggmlaa.Ve

namespace Go.Proofs.Ytlbegmpikggmlaa.Ve
open S

theorem glueC_split (c : UInt8) : ∀ (x : T), glueC c (splitB c x) = x := by
  intro x
  induction x with
  | nil => rfl
  | cons a r ih =>
    have hne := splitB_ne c r
    by_cases h : a = c
    · rw [splitB, if_pos h]
      cases hs : splitB c r with
      | nil => exact absurd hs hne
      | cons b m => rw [hs] at ih; rw [glueC, ih, h]; rfl
    · rw [splitB, if_neg h]
      cases hs : splitB c r with
      | nil => exact absurd hs hne
      | cons b m =>
        rw [hs] at ih
        cases m with
        | nil => simpa [glueC] using ih
        | cons d m => simp only [List.headD_cons, List.tail_cons, glueC, List.cons_append] at ih ⊢; rw [ih]

theorem cut_glue (c : UInt8) (l : T) : l = (cutB c l).1 ++ (if (cutB c l).2.2 = true then c :: (cutB c l).2.1 else []) := by
  by_cases h : c ∈ l
  · obtain ⟨i, hi, hn, he⟩ : ∃ i, i < l.length ∧ c ∉ l.take i ∧ l.getD i 0 = c := by
      induction l with
      | nil => simp at h
      | cons a r ih =>
        by_cases ha : a = c
        · exact ⟨0, by simp, by simp, by simp [ha]⟩
        · have ha' : ¬ c = a := fun q => ha q.symm
          obtain ⟨i, h1, h2, h3⟩ := ih (by simpa [ha'] using h)
          exact ⟨i + 1, by simpa using h1, by simpa [ha'] using h2, by simpa using h3⟩
    rw [cut_some c l i hi hn he, if_pos rfl]
    have hd : l.drop i = c :: l.drop (i + 1) := by
      rw [List.drop_eq_getElem_cons hi]
      rw [List.getD_eq_getElem?_getD, List.getElem?_eq_getElem hi] at he
      simp only [Option.getD_some] at he
      rw [he]
    rw [← hd, List.take_append_drop]
  · rw [cut_none c l h]; simp

theorem ofNat_dig {c : UInt8} (h : isDig c = true) : UInt8.ofNat (48 + (c.toNat - 48)) = c := by
  simp only [isDig, Bool.and_eq_true, decide_eq_true_eq] at h
  rw [show 48 + (c.toNat - 48) = c.toNat from by omega]
  simp
theorem dec_val : ∀ (n : Nat) (l : T), l.length = n + 1 → l.all isDig = true → (n = 0 ∨ l.getD 0 0 ≠ 48) → Go.Lib.decDigits (val l) = l := by
  intro n
  induction n with
  | zero =>
    intro l h ha _
    match l, h with
    | [c], _ =>
      simp only [List.all_cons, List.all_nil, Bool.and_true] at ha
      have ho := ofNat_dig ha
      simp only [isDig, Bool.and_eq_true, decide_eq_true_eq] at ha
      have hv : val [c] = c.toNat - 48 := by simp [val]
      rw [hv, Go.Lib.decDigits, dif_pos (by omega), ho]
  | succ n ih =>
    intro l h ha h0
    have h0 : l.getD 0 0 ≠ 48 := by rcases h0 with h0 | h0; { omega }; exact h0
    have hne : l ≠ [] := by rintro rfl; simp at h
    have hd : l.dropLast.getD 0 0 = l.getD 0 0 := by
      match l, h with
      | a :: b :: r, _ => rfl
    have hl := List.dropLast_concat_getLast hne
    rw [← hl] at ha
    rw [List.all_append, Bool.and_eq_true] at ha
    have hlen : l.dropLast.length = n + 1 := by simp; omega
    have h1 := ih l.dropLast hlen ha.1 (.inr (by rw [hd]; exact h0))
    have hg := val_ge n l.dropLast hlen ha.1 (by rw [hd]; exact h0)
    have hp : 1 ≤ 10 ^ n := Nat.one_le_pow n 10 (by decide)
    have hc := ha.2
    simp only [List.all_cons, List.all_nil, Bool.and_true] at hc
    have ho := ofNat_dig hc
    simp only [isDig, Bool.and_eq_true, decide_eq_true_eq] at hc
    conv => lhs; rw [← hl, val_snoc]
    rw [Go.Lib.decDigits, dif_neg (by omega), show (10 * val l.dropLast + ((l.getLast hne).toNat - 48)) / 10 = val l.dropLast from by omega, show (10 * val l.dropLast + ((l.getLast hne).toNat - 48)) % 10 = (l.getLast hne).toNat - 48 from by omega, h1, ho, hl]
theorem num_dec {l : T} (h : numB l = true) : decI (val l : Int) = l := by
  simp only [numB, plainB, digB, Bool.and_eq_true, Bool.or_eq_true, decide_eq_true_eq] at h
  obtain ⟨⟨⟨h1, h2⟩, h3⟩, h4⟩ := h
  have := List.length_pos_iff.2 h1
  rw [decI, Int.toNat_natCast]
  exact dec_val (l.length - 1) l (by omega) h2 (by rcases h4 with h | h; { left; omega }; exact .inr h)

/-- What is read is told as it was. -/
theorem parse_text {s : T} {v : Ver} (h : parseV (cutB 45 s) = some v) : textV v = s := by
  have hs := cut_glue 45 s
  rcases hc : cutB 45 s with ⟨three, pre, has⟩
  rw [hc] at h hs
  simp only [parseV] at h
  have h3 : (splitB 46 three).length = 3 := Decidable.byContradiction fun c => by rw [parseL_ne c] at h; cases h
  obtain ⟨x, y, z, he⟩ := len3 h3
  have hg := glueC_split 46 three
  rw [he] at h hg
  simp only [parseL] at h
  split at h
  · rename_i hn
    simp only [Bool.and_eq_true] at hn
    obtain ⟨⟨n1, n2⟩, n3⟩ := hn
    have hg2 : three = x ++ [46] ++ y ++ [46] ++ z := by rw [← hg]; simp [glueC]
    cases has with
    | false =>
      simp only [Bool.false_eq_true, if_false, Option.some.injEq] at h
      subst h
      simp only [Bool.false_eq_true, if_false, List.append_nil] at hs
      rw [textV]
      simp only [num_dec n1, num_dec n2, num_dec n3, if_true, List.append_nil]
      rw [hs, hg2]
    | true =>
      simp only [if_true] at h hs
      split at h
      · simp only [Option.some.injEq] at h
        subst h
        rw [textV]
        simp only [num_dec n1, num_dec n2, num_dec n3]
        rw [if_neg (splitB_ne 46 pre), glueC_split, hs, hg2]
      · cases h
  · cases h
/-- The parts of what is read. -/
theorem parse_parts {s : T} {v : Ver} (h : parseV (cutB 45 s) = some v) : v.pre.length ≤ 5 ∧ v.pre.all markB = true ∧ (0 ≤ v.a ∧ v.a ≤ 999999999) ∧ (0 ≤ v.b ∧ v.b ≤ 999999999) ∧ (0 ≤ v.c ∧ v.c ≤ 999999999) := by
  rcases hc : cutB 45 s with ⟨three, pre, has⟩
  rw [hc] at h
  simp only [parseV] at h
  have h3 : (splitB 46 three).length = 3 := Decidable.byContradiction fun c => by rw [parseL_ne c] at h; cases h
  obtain ⟨x, y, z, he⟩ := len3 h3
  rw [he] at h
  simp only [parseL] at h
  split at h
  · rename_i hn
    simp only [Bool.and_eq_true] at hn
    obtain ⟨⟨n1, n2⟩, n3⟩ := hn
    have b1 := ((num_ref x).2 n1).2.2.2
    have b2 := ((num_ref y).2 n2).2.2.2
    have b3 := ((num_ref z).2 n3).2.2.2
    cases has with
    | false =>
      simp only [Bool.false_eq_true, if_false, Option.some.injEq] at h
      subst h
      exact ⟨by simp, rfl, by simp only; omega, by simp only; omega, by simp only; omega⟩
    | true =>
      simp only [if_true] at h
      split at h
      · rename_i hm
        simp only [Option.some.injEq] at h
        subst h
        exact ⟨hm.1, hm.2, by simp only; omega, by simp only; omega, by simp only; omega⟩
      · cases h
  · cases h
theorem mark_len {l : T} (h : markB l = true) : l ≠ [] ∧ l.length ≤ 16 := by rw [mark_iff] at h; exact ⟨h.1.1, h.1.2.1⟩
theorem parse_fit (s : T) : Fit (verR (parseV (cutB 45 s))).1 := by
  cases h : parseV (cutB 45 s) with
  | none => exact ⟨by simp [verR], by simp [verR]⟩
  | some v =>
    obtain ⟨h1, h2, _⟩ := parse_parts h
    refine ⟨by simp only [verR]; omega, fun x hx => ?_⟩
    have := mark_len (List.all_eq_true.1 h2 x hx)
    omega
theorem parse_bd (s : T) : (0 ≤ (verR (parseV (cutB 45 s))).1.a ∧ (verR (parseV (cutB 45 s))).1.a ≤ 999999999) ∧ (0 ≤ (verR (parseV (cutB 45 s))).1.b ∧ (verR (parseV (cutB 45 s))).1.b ≤ 999999999) ∧ (0 ≤ (verR (parseV (cutB 45 s))).1.c ∧ (verR (parseV (cutB 45 s))).1.c ≤ 999999999) := by
  cases h : parseV (cutB 45 s) with
  | none => simp [verR]
  | some v => obtain ⟨_, _, h3⟩ := parse_parts h; exact h3
end Go.Proofs.Ytlbegmpikggmlaa.Ve

