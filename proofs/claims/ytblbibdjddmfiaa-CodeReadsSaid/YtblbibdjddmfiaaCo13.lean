/-
  Plain laws of the coding: what is written is read back; lengths; nothing else reads the same.
-/
import Derived.Test.YtblbibdjddmfiaaCo12
namespace Go.Proofs.Ytblbibdjddmfiaa.Co
open Go.RowKit H

theorem rdNumA_numL : ∀ (n i m : Nat) (r : List UInt8), n * 2 ^ (7 * i) < 18446744073709551616 → i ≤ 9 → (i = 0 ∨ 0 < n) → rdNumA i m (numL n ++ r) = some (m + n * 2 ^ (7 * i), r) := by
  intro n
  induction n using Nat.strongRecOn with
  | _ n ih =>
  intro i m r hb hi h0
  have hp63 : i = 9 → (2:Nat) ^ (7 * i) = 9223372036854775808 := by intro h; subst h; decide
  by_cases hn : n < 128
  · rw [numL_small hn]
    show rdNumA i m (UInt8.ofNat n :: r) = _
    have hx : (UInt8.ofNat n).toNat = n := by simp; omega
    have h9 : i = 9 → n ≤ 1 := by
      intro h
      rw [hp63 h] at hb
      omega
    rw [rdNumA, hx, if_neg (by omega), if_neg (by omega), if_pos hn, if_neg (by omega), Nat.mod_eq_of_lt hn]
  · rw [numL_big hn]
    show rdNumA i m (UInt8.ofNat (n % 128 + 128) :: (numL (n / 128) ++ r)) = _
    have hx : (UInt8.ofNat (n % 128 + 128)).toNat = n % 128 + 128 := by simp; omega
    have h9 : i ≠ 9 := by
      intro h
      rw [hp63 h] at hb
      omega
    have hp : (2:Nat) ^ (7 * (i + 1)) = 128 * 2 ^ (7 * i) := by rw [Nat.mul_add, Nat.pow_add]; omega
    have hle : n / 128 * (128 * 2 ^ (7 * i)) ≤ n * 2 ^ (7 * i) := by
      rw [← Nat.mul_assoc]; exact Nat.mul_le_mul_right _ (by omega)
    rw [rdNumA, hx, if_neg (by omega), if_neg (by omega), if_neg (by omega), ih (n / 128) (by omega) (i + 1) _ r (by rw [hp]; omega) (by omega) (by omega), hp]
    congr 2
    have e1 : n / 128 * (128 * 2 ^ (7 * i)) = (n / 128 * 128) * 2 ^ (7 * i) := by rw [Nat.mul_assoc]
    have e2 : (n % 128 + 128) % 128 = n % 128 := by omega
    rw [e1, e2, Nat.add_assoc, ← Nat.add_mul]
    congr 2; omega
theorem rdNum_numL {n : Nat} (h : n < 18446744073709551616) (r : List UInt8) : rdNum (numL n ++ r) = some (n, r) := by
  have := rdNumA_numL n 0 0 r (by simpa using h) (by omega) (.inl rfl)
  simpa [rdNum] using this
theorem rdText_textL {s : List UInt8} (h : s.length < 18446744073709551616) (r : List UInt8) : rdText (textL s ++ r) = some (s, r) := by
  unfold textL rdText
  rw [List.append_assoc, rdNum_numL h]
  simp
theorem rdBool_boolL (b : Bool) (r : List UInt8) : rdBool (boolL b ++ r) = some (b, r) := by
  rw [boolL_one]
  cases b <;> rfl
theorem rdInt_numL {x : Int} (h1 : -9223372036854775808 ≤ x) (h2 : x ≤ 9223372036854775807) (r : List UInt8) : intS (some (numL (zz x) ++ r)) = (x, some r) := by
  simp only [intS, stepR, rdNum_numL (zz_lt h1 h2) r, Option.map_some, unzz_zz]
theorem numS_numL {n : Nat} (h : n < 18446744073709551616) (r : List UInt8) : numS (some (numL n ++ r)) = (n, some r) := by
  simp only [numS, stepR, rdNum_numL h r]
theorem textS_textL {s : List UInt8} (h : s.length < 18446744073709551616) (r : List UInt8) : textS (some (textL s ++ r)) = (s, some r) := by
  simp only [textS, stepR, rdText_textL h r]
theorem boolS_boolL (b : Bool) (r : List UInt8) : boolS (some (boolL b ++ r)) = (b, some r) := by
  simp only [boolS, stepR, rdBool_boolL b r]
theorem numL_inj {a b : Nat} (ha : a < 18446744073709551616) (hb : b < 18446744073709551616) (h : numL a = numL b) : a = b := by
  have h1 := rdNum_numL ha []
  rw [h, rdNum_numL hb []] at h1
  simpa using h1.symm
theorem numL_mono : ∀ (b a : Nat), a ≤ b → (numL a).length ≤ (numL b).length := by
  intro b
  induction b using Nat.strongRecOn with
  | _ b ih =>
  intro a h
  by_cases ha : a < 128
  · rw [numL_small ha]; exact numL_pos b
  · have hb : ¬ b < 128 := by omega
    rw [numL_big ha, numL_big hb, List.length_cons, List.length_cons]
    have := ih (b / 128) (by omega) (a / 128) (by omega)
    omega
end Go.Proofs.Ytblbibdjddmfiaa.Co
