/-
  Numbers and texts as bytes: plain functions, and the arithmetic of the two texts' operations. No program here.
-/
import Derived.Test.YtblbibdjddmfiaaH8
import Derived.Laws.BitsAllLaws
import Derived.Laws.Bits64
namespace Go.Proofs.Ytblbibdjddmfiaa.Co
open Go.RowKit H

/-- A number's bytes: seven bits a byte. -/
def numL (n : Nat) : List UInt8 := if h : n < 128 then [UInt8.ofNat n] else UInt8.ofNat (n % 128 + 128) :: numL (n / 128)
theorem numL_small {n : Nat} (h : n < 128) : numL n = [UInt8.ofNat n] := by rw [numL, dif_pos h]
theorem numL_big {n : Nat} (h : ¬ n < 128) : numL n = UInt8.ofNat (n % 128 + 128) :: numL (n / 128) := by rw [numL, dif_neg h]
theorem numL_len : ∀ (k n : Nat), n < 128 ^ (k + 1) → (numL n).length ≤ k + 1 := by
  intro k
  induction k with
  | zero => intro n h; rw [numL_small (by simpa using h)]; simp
  | succ k ih =>
    intro n h
    by_cases hn : n < 128
    · rw [numL_small hn]; simp
    · rw [numL_big hn, List.length_cons]
      have := ih (n / 128) (by rw [Nat.div_lt_iff_lt_mul (by omega)]; rw [Nat.pow_succ] at h; exact h)
      omega
theorem numL_len10 {n : Nat} (h : n < 18446744073709551616) : (numL n).length ≤ 10 := by
  have e : (128:Nat) ^ (9+1) = 1180591620717411303424 := by decide
  exact numL_len 9 n (by omega)
theorem numL_pos (n : Nat) : 1 ≤ (numL n).length := by
  by_cases h : n < 128
  · rw [numL_small h]; simp
  · rw [numL_big h]; simp

def zz (x : Int) : Nat := if 0 ≤ x then 2 * x.toNat else 2 * (-x - 1).toNat + 1
def unzz (n : Nat) : Int := if n % 2 = 0 then ((n / 2 : Nat) : Int) else -((n / 2 : Nat) : Int) - 1
theorem unzz_zz (x : Int) : unzz (zz x) = x := by unfold unzz zz; split <;> split <;> omega
theorem zz_lt {x : Int} (h1 : -9223372036854775808 ≤ x) (h2 : x ≤ 9223372036854775807) : zz x < 18446744073709551616 := by unfold zz; split <;> omega
theorem zz_inj {x y : Int} (h : zz x = zz y) : x = y := by rw [← unzz_zz x, h, unzz_zz]
theorem unzz_bd {n : Nat} (h : n < 18446744073709551616) : -9223372036854775808 ≤ unzz n ∧ unzz n ≤ 9223372036854775807 := by unfold unzz; split <;> omega

def textL (s : List UInt8) : List UInt8 := numL s.length ++ s
def boolL (b : Bool) : List UInt8 := numL (if b then 1 else 0)

/-- A number read: i bytes came, n they say. -/
def rdNumA : Nat → Nat → List UInt8 → Option (Nat × List UInt8)
  | _, _, [] => none
  | i, n, x :: r =>
    if 10 ≤ i then none else if i = 9 ∧ 1 < x.toNat then none else
    if x.toNat < 128 then (if x.toNat = 0 ∧ 0 < i then none else some (n + (x.toNat % 128) * 2 ^ (7 * i), r))
    else rdNumA (i + 1) (n + (x.toNat % 128) * 2 ^ (7 * i)) r
def rdNum (l : List UInt8) : Option (Nat × List UInt8) := rdNumA 0 0 l
def rdText (l : List UInt8) : Option (List UInt8 × List UInt8) := match rdNum l with
  | some (n, r) => if n ≤ r.length then some (r.take n, r.drop n) else none
  | none => none
def rdBool : List UInt8 → Option (Bool × List UInt8)
  | [] => none
  | x :: r => if x.toNat ≤ 1 then some (decide (x.toNat = 1), r) else none

/-- A reader's state: what is left, or that it failed. -/
abbrev St := Option (List UInt8)
def stepR {α : Type} (z : α) (rd : List UInt8 → Option (α × List UInt8)) : St → α × St
  | none => (z, none)
  | some l => match rd l with
    | none => (z, none)
    | some (a, r) => (a, some r)
def numS : St → Nat × St := stepR 0 rdNum
def intS : St → Int × St := stepR 0 fun l => (rdNum l).map fun (n, r) => (unzz n, r)
def textS : St → List UInt8 × St := stepR [] rdText
def boolS : St → Bool × St := stepR false rdBool

theorem rdNumA_lt : ∀ (l : List UInt8) (i n m : Nat) (r : List UInt8), i ≤ 10 → n < 2 ^ (7 * i) → rdNumA i n l = some (m, r) → m < 18446744073709551616 := by
  intro l
  induction l with
  | nil => intro i n m r _ _ h; simp [rdNumA] at h
  | cons x l ih =>
    intro i n m r hi hn h
    have hx := x.toNat_lt
    simp only [rdNumA] at h
    have hp : (2:Nat) ^ (7 * (i + 1)) = 128 * 2 ^ (7 * i) := by rw [Nat.mul_add, Nat.pow_add]; omega
    have hlt : n + x.toNat % 128 * 2 ^ (7 * i) < 2 ^ (7 * (i + 1)) := by
      rw [hp]
      have : x.toNat % 128 * 2 ^ (7 * i) ≤ 127 * 2 ^ (7 * i) := Nat.mul_le_mul_right _ (by omega)
      omega
    split at h
    · cases h
    · split at h
      · cases h
      · rename_i h10 h9
        split at h
        · split at h
          · cases h
          · simp only [Option.some.injEq, Prod.mk.injEq] at h
            rw [← h.1]
            by_cases h99 : i = 9
            · subst h99
              have : x.toNat ≤ 1 := by omega
              have : x.toNat % 128 * 2 ^ (7 * 9) ≤ 1 * 2 ^ (7 * 9) := Nat.mul_le_mul_right _ (by omega)
              simp only [show (2:Nat) ^ (7 * 9) = 9223372036854775808 from by decide] at *
              omega
            · have : (2:Nat) ^ (7 * (i + 1)) ≤ 2 ^ 63 := Nat.pow_le_pow_right (by omega) (by omega)
              simp only [show (2:Nat) ^ 63 = 9223372036854775808 from by decide] at *
              omega
        · exact ih (i + 1) _ m r (by omega) hlt h
theorem rdNum_lt {l : List UInt8} {m : Nat} {r : List UInt8} (h : rdNum l = some (m, r)) : m < 18446744073709551616 := rdNumA_lt l 0 0 m r (by omega) (by decide) h

/-! The operations' arithmetic. -/
theorem shr7 (k : Nat) : ((k : Int)).fdiv (2 ^ (min (Int.toNat 7) (IntKind.u64.bits))) = ((k / 128 : Nat) : Int) := by
  show ((k : Int)).fdiv (128 : Nat) = _
  rw [Int.fdiv_eq_ediv_of_nonneg _ (by omega)]; rfl
theorem or128 (k : Nat) : bits .or .u8 (IntKind.u8.wrap (k : Int)) 128 = ((UInt8.ofNat (k % 128 + 128)).toNat : Int) := by
  have e : IntKind.u8.wrap (k : Int) = ((k % 256 : Nat) : Int) := by rw [wrapu8]; omega
  rw [e]
  have h := u8_or_nat (k % 256) 128 (by omega) (by omega)
  refine h.trans ?_
  congr 1
  have key : ∀ m : Fin 256, m.val ||| 128 = m.val % 128 + 128 := by decide +kernel
  have := key ⟨k % 256, by omega⟩
  simp only at this
  rw [this]
  simp; omega
theorem low8 {k : Nat} (h : k < 128) : IntKind.u8.wrap (k : Int) = ((UInt8.ofNat k).toNat : Int) := by
  rw [wrapu8]; simp
theorem zz_prog {x : Int} (h1 : -9223372036854775808 ≤ x) (h2 : x ≤ 9223372036854775807) :
    bits .xor .u64 (IntKind.u64.wrap (IntKind.u64.wrap x * 2 ^ (min (Int.toNat 1) IntKind.u64.bits))) (IntKind.u64.wrap (x.fdiv (2 ^ (min (Int.toNat 63) IntKind.i64.bits)))) = (zz x : Int) := by
  have e1 : (2 : Int) ^ (min (Int.toNat 1) IntKind.u64.bits) = 2 := by decide
  have e2 : (2 : Int) ^ (min (Int.toNat 63) IntKind.i64.bits) = 9223372036854775808 := by decide
  rw [e1, e2, Int.fdiv_eq_ediv_of_nonneg _ (by omega), wrapu64, wrapu64, wrapu64]
  by_cases hx : 0 ≤ x
  · have a1 : x % 18446744073709551616 * 2 % 18446744073709551616 = ((2 * x.toNat : Nat) : Int) := by omega
    have a2 : x / 9223372036854775808 % 18446744073709551616 = ((0 : Nat) : Int) := by omega
    rw [a1, a2, bits_xor_u64_nat _ _ (by omega) (by omega), Nat.xor_zero]
    unfold zz; rw [if_pos hx]
  · have a1 : x % 18446744073709551616 * 2 % 18446744073709551616 = ((18446744073709551615 - (2 * (-x - 1).toNat + 1) : Nat) : Int) := by omega
    have a2 : x / 9223372036854775808 % 18446744073709551616 = ((18446744073709551615 : Nat) : Int) := by omega
    rw [a1, a2, bits_xor_u64_nat _ _ (by omega) (by omega)]
    unfold zz; rw [if_neg hx]
    congr 1
    have key : ∀ m : Nat, m < 2 ^ 64 → (2 ^ 64 - 1 - m) ^^^ (2 ^ 64 - 1) = m := by
      intro m hm
      apply Nat.eq_of_testBit_eq
      intro i
      rw [Nat.testBit_xor, Nat.testBit_two_pow_sub_one]
      have : 2 ^ 64 - 1 - m = 2 ^ 64 - (m + 1) := by omega
      rw [this, Nat.testBit_two_pow_sub_succ hm]
      by_cases hi : i < 64
      · simp [hi]
      · simp only [hi, decide_false, Bool.false_and, Bool.xor_false]
        exact (Nat.testBit_lt_two_pow (Nat.lt_of_lt_of_le hm (Nat.pow_le_pow_right (by omega) (by omega)))).symm
    exact key (2 * (-x - 1).toNat + 1) (by simp only [show (2:Nat)^64 = 18446744073709551616 from by decide]; omega)

theorem and127 {x : Nat} (h : x < 256) : bits .andNot .u8 (x : Int) 128 = ((x % 128 : Nat) : Int) := by
  have h1 := u8_andNot_nat x 128 h (by omega)
  refine h1.trans ?_
  congr 1
  have key : ∀ m : Fin 256, m.val &&& (255 - 128) = m.val % 128 := by decide +kernel
  exact key ⟨x, h⟩
theorem and127' {x : Nat} (h : x < 256) : bits .and .u8 (x : Int) 127 = ((x % 128 : Nat) : Int) := by
  have h1 := u8_and_nat x 127 h (by omega)
  refine h1.trans ?_
  congr 1
  have key : ∀ m : Fin 256, m.val &&& 127 = m.val % 128 := by decide +kernel
  exact key ⟨x, h⟩
theorem and128 {x : Nat} (h : x < 256) : bits .and .u8 (x : Int) 128 = if x < 128 then 0 else 128 := by
  have h1 := u8_and_nat x 128 h (by omega)
  refine h1.trans ?_
  have key : ∀ m : Fin 256, m.val &&& 128 = if m.val < 128 then 0 else 128 := by decide +kernel
  have := key ⟨x, h⟩
  simp only at this
  rw [this]
  split <;> rfl
/-- a new seven bits -/
theorem or_step {n x i : Nat} (hn : n < 2 ^ (7 * i)) (hi : i ≤ 9) (hx : i = 9 → x % 128 ≤ 1) :
    bits .or .u64 (n : Int) (IntKind.u64.wrap (((x % 128 : Nat) : Int) * 2 ^ (min (Int.toNat ((7 * i : Nat) : Int)) IntKind.u64.bits))) = ((n + x % 128 * 2 ^ (7 * i) : Nat) : Int) := by
  have hm : min (Int.toNat ((7 * i : Nat) : Int)) IntKind.u64.bits = 7 * i := by
    simp only [Int.toNat_natCast, IntKind.bits]; omega
  rw [hm]
  have hb : x % 128 * 2 ^ (7 * i) < 18446744073709551616 := by
    by_cases h9 : i = 9
    · subst h9
      have := hx rfl
      have : x % 128 * 2 ^ (7 * 9) ≤ 1 * 2 ^ (7 * 9) := Nat.mul_le_mul_right _ (by omega)
      simp only [show (2:Nat) ^ (7 * 9) = 9223372036854775808 from by decide] at *
      omega
    · have h1 : x % 128 * 2 ^ (7 * i) ≤ 127 * 2 ^ (7 * i) := Nat.mul_le_mul_right _ (by omega)
      have h2 : (2:Nat) ^ (7 * i) ≤ 2 ^ 56 := Nat.pow_le_pow_right (by omega) (by omega)
      simp only [show (2:Nat) ^ 56 = 72057594037927936 from by decide] at *
      omega
  have e : ((x % 128 : Nat) : Int) * 2 ^ (7 * i) = ((x % 128 * 2 ^ (7 * i) : Nat) : Int) := by simp
  rw [e, wrapu64]
  have e2 : ((x % 128 * 2 ^ (7 * i) : Nat) : Int) % 18446744073709551616 = ((x % 128 * 2 ^ (7 * i) : Nat) : Int) := by omega
  have hn64 : n < 18446744073709551616 := by
    have h2 : (2:Nat) ^ (7 * i) ≤ 2 ^ 63 := Nat.pow_le_pow_right (by omega) (by omega)
    simp only [show (2:Nat) ^ 63 = 9223372036854775808 from by decide] at *
    omega
  rw [e2, u64_or_nat _ _ hn64 hb]
  congr 1
  have := Nat.two_pow_add_eq_or_of_lt hn (x % 128)
  rw [Nat.or_comm, Nat.mul_comm, ← this, Nat.mul_comm]; omega
end Go.Proofs.Ytblbibdjddmfiaa.Co
