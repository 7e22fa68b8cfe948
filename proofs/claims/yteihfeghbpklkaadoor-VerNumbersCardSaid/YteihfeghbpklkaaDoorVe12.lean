/-
  Versions: plain laws of texts that are read.
-/
import Derived.Test.YteihfeghbpklkaaDoorVe8
namespace Go.Proofs.YteihfeghbpklkaaDoor.Ve
open S

theorem glueC_split (c : UInt8) : ∀ (x : T), glueC c (splitB c x) = x := by
  intro x
  induction x with
  | nil => rfl
  | cons a r ih =>
    have hne := splitB_ne c r
    by_cases h : a = c
    · rw [splitB, if_pos h]
      cases hs : splitB c r with
      | nil => exact absurd hs hne
      | cons b m => rw [hs] at ih; rw [glueC, ih, h]; rfl
    · rw [splitB, if_neg h]
      cases hs : splitB c r with
      | nil => exact absurd hs hne
      | cons b m =>
        rw [hs] at ih
        cases m with
        | nil => simpa [glueC] using ih
        | cons d m => simp only [List.headD_cons, List.tail_cons, glueC, List.cons_append] at ih ⊢; rw [ih]

theorem cut_glue (c : UInt8) (l : T) : l = (cutB c l).1 ++ (if (cutB c l).2.2 = true then c :: (cutB c l).2.1 else []) := by
  by_cases h : c ∈ l
  · obtain ⟨i, hi, hn, he⟩ : ∃ i, i < l.length ∧ c ∉ l.take i ∧ l.getD i 0 = c := by
      induction l with
      | nil => simp at h
      | cons a r ih =>
        by_cases ha : a = c
        · exact ⟨0, by simp, by simp, by simp [ha]⟩
        · have ha' : ¬ c = a := fun q => ha q.symm
          obtain ⟨i, h1, h2, h3⟩ := ih (by simpa [ha'] using h)
          exact ⟨i + 1, by simpa using h1, by simpa [ha'] using h2, by simpa using h3⟩
    rw [cut_some c l i hi hn he, if_pos rfl]
    have hd : l.drop i = c :: l.drop (i + 1) := by
      rw [List.drop_eq_getElem_cons hi]
      rw [List.getD_eq_getElem?_getD, List.getElem?_eq_getElem hi] at he
      simp only [Option.getD_some] at he
      rw [he]
    rw [← hd, List.take_append_drop]
  · rw [cut_none c l h]; simp

theorem ofNat_dig {c : UInt8} (h : isDig c = true) : UInt8.ofNat (48 + (c.toNat - 48)) = c := by
  simp only [isDig, Bool.and_eq_true, decide_eq_true_eq] at h
  rw [show 48 + (c.toNat - 48) = c.toNat from by omega]
  simp
theorem dec_val : ∀ (n : Nat) (l : T), l.length = n + 1 → l.all isDig = true → (n = 0 ∨ l.getD 0 0 ≠ 48) → Go.Lib.decDigits (val l) = l := by
  intro n
  induction n with
  | zero =>
    intro l h ha _
    match l, h with
    | [c], _ =>
      simp only [List.all_cons, List.all_nil, Bool.and_true] at ha
      have ho := ofNat_dig ha
      simp only [isDig, Bool.and_eq_true, decide_eq_true_eq] at ha
      have hv : val [c] = c.toNat - 48 := by simp [val]
      rw [hv, Go.Lib.decDigits, dif_pos (by omega), ho]
  | succ n ih =>
    intro l h ha h0
    have h0 : l.getD 0 0 ≠ 48 := by rcases h0 with h0 | h0; { omega }; exact h0
    have hne : l ≠ [] := by rintro rfl; simp at h
    have hd : l.dropLast.getD 0 0 = l.getD 0 0 := by
      match l, h with
      | a :: b :: r, _ => rfl
    have hl := List.dropLast_concat_getLast hne
    rw [← hl] at ha
    rw [List.all_append, Bool.and_eq_true] at ha
    have hlen : l.dropLast.length = n + 1 := by simp; omega
    have h1 := ih l.dropLast hlen ha.1 (.inr (by rw [hd]; exact h0))
    have hg := val_ge n l.dropLast hlen ha.1 (by rw [hd]; exact h0)
    have hp : 1 ≤ 10 ^ n := Nat.one_le_pow n 10 (by decide)
    have hc := ha.2
    simp only [List.all_cons, List.all_nil, Bool.and_true] at hc
    have ho := ofNat_dig hc
    simp only [isDig, Bool.and_eq_true, decide_eq_true_eq] at hc
    conv => lhs; rw [← hl, val_snoc]
    rw [Go.Lib.decDigits, dif_neg (by omega), show (10 * val l.dropLast + ((l.getLast hne).toNat - 48)) / 10 = val l.dropLast from by omega, show (10 * val l.dropLast + ((l.getLast hne).toNat - 48)) % 10 = (l.getLast hne).toNat - 48 from by omega, h1, ho, hl]
theorem num_dec {l : T} (h : numB l = true) : decI (val l : Int) = l := by
  simp only [numB, plainB, digB, Bool.and_eq_true, Bool.or_eq_true, decide_eq_true_eq] at h
  obtain ⟨⟨⟨h1, h2⟩, h3⟩, h4⟩ := h
  have := List.length_pos_iff.2 h1
  rw [decI, Int.toNat_natCast]
  exact dec_val (l.length - 1) l (by omega) h2 (by rcases h4 with h | h; { left; omega }; exact .inr h)

/-- What is read is told as it was. -/
theorem parse_text {s : T} {v : Ver} (h : parseV (cutB 45 s) = some v) : textV v = s := by
  have hs := cut_glue 45 s
  rcases hc : cutB 45 s with ⟨three, pre, has⟩
  rw [hc] at h hs
  simp only [parseV] at h
  have h3 : (splitB 46 three).length = 3 := Decidable.byContradiction fun c => by rw [parseL_ne c] at h; cases h
  obtain ⟨x, y, z, he⟩ := len3 h3
  have hg := glueC_split 46 three
  rw [he] at h hg
  simp only [parseL] at h
  split at h
  · rename_i hn
    simp only [Bool.and_eq_true] at hn
    obtain ⟨⟨n1, n2⟩, n3⟩ := hn
    have hg2 : three = x ++ [46] ++ y ++ [46] ++ z := by rw [← hg]; simp [glueC]
    cases has with
    | false =>
      simp only [Bool.false_eq_true, if_false, Option.some.injEq] at h
      subst h
      simp only [Bool.false_eq_true, if_false, List.append_nil] at hs
      rw [textV]
      simp only [num_dec n1, num_dec n2, num_dec n3, if_true, List.append_nil]
      rw [hs, hg2]
    | true =>
      simp only [if_true] at h hs
      split at h
      · simp only [Option.some.injEq] at h
        subst h
        rw [textV]
        simp only [num_dec n1, num_dec n2, num_dec n3]
        rw [if_neg (splitB_ne 46 pre), glueC_split, hs, hg2]
      · cases h
  · cases h
/-- The parts of what is read. -/
theorem parse_parts {s : T} {v : Ver} (h : parseV (cutB 45 s) = some v) : v.pre.length ≤ 5 ∧ v.pre.all markB = true ∧ (0 ≤ v.a ∧ v.a ≤ 999999999) ∧ (0 ≤ v.b ∧ v.b ≤ 999999999) ∧ (0 ≤ v.c ∧ v.c ≤ 999999999) := by
  rcases hc : cutB 45 s with ⟨three, pre, has⟩
  rw [hc] at h
  simp only [parseV] at h
  have h3 : (splitB 46 three).length = 3 := Decidable.byContradiction fun c => by rw [parseL_ne c] at h; cases h
  obtain ⟨x, y, z, he⟩ := len3 h3
  rw [he] at h
  simp only [parseL] at h
  split at h
  · rename_i hn
    simp only [Bool.and_eq_true] at hn
    obtain ⟨⟨n1, n2⟩, n3⟩ := hn
    have b1 := ((num_ref x).2 n1).2.2.2
    have b2 := ((num_ref y).2 n2).2.2.2
    have b3 := ((num_ref z).2 n3).2.2.2
    cases has with
    | false =>
      simp only [Bool.false_eq_true, if_false, Option.some.injEq] at h
      subst h
      exact ⟨by simp, rfl, by simp only; omega, by simp only; omega, by simp only; omega⟩
    | true =>
      simp only [if_true] at h
      split at h
      · rename_i hm
        simp only [Option.some.injEq] at h
        subst h
        exact ⟨hm.1, hm.2, by simp only; omega, by simp only; omega, by simp only; omega⟩
      · cases h
  · cases h
theorem mark_len {l : T} (h : markB l = true) : l ≠ [] ∧ l.length ≤ 16 := by rw [mark_iff] at h; exact ⟨h.1.1, h.1.2.1⟩
theorem parse_fit (s : T) : Fit (verR (parseV (cutB 45 s))).1 := by
  cases h : parseV (cutB 45 s) with
  | none => exact ⟨by simp [verR], by simp [verR]⟩
  | some v =>
    obtain ⟨h1, h2, _⟩ := parse_parts h
    refine ⟨by simp only [verR]; omega, fun x hx => ?_⟩
    have := mark_len (List.all_eq_true.1 h2 x hx)
    omega
theorem parse_bd (s : T) : (0 ≤ (verR (parseV (cutB 45 s))).1.a ∧ (verR (parseV (cutB 45 s))).1.a ≤ 999999999) ∧ (0 ≤ (verR (parseV (cutB 45 s))).1.b ∧ (verR (parseV (cutB 45 s))).1.b ≤ 999999999) ∧ (0 ≤ (verR (parseV (cutB 45 s))).1.c ∧ (verR (parseV (cutB 45 s))).1.c ≤ 999999999) := by
  cases h : parseV (cutB 45 s) with
  | none => simp [verR]
  | some v => obtain ⟨_, _, h3⟩ := parse_parts h; exact h3
end Go.Proofs.YteihfeghbpklkaaDoor.Ve
