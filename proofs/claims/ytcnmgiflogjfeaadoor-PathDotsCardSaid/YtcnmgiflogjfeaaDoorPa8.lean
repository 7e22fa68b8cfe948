/-
  Paths: plain laws: what a clean path is, its parts, what is put behind a directory.
-/
import Derived.Test.YtcnmgiflogjfeaaDoorPa6
namespace Go.Proofs.YtcnmgiflogjfeaaDoor.Pa
open S

theorem split_app (y : List UInt8) : ∀ (x : List UInt8), splitB 47 (x ++ 47 :: y) = splitB 47 x ++ splitB 47 y
  | [] => by simp [splitB]
  | c :: r => by
    have ih := split_app y r
    have hne := splitB_ne 47 r
    by_cases h : c = 47
    · simp [splitB, h, ih]
    · simp only [List.cons_append, splitB, if_neg h, ih]
      cases hr : splitB 47 r with
      | nil => exact absurd hr hne
      | cons a b => simp

theorem cleanA_app (stay : Nat) (r : List (List UInt8)) : ∀ (l out : List (List UInt8)), cleanA stay out (l ++ r) = (match cleanA stay out l with | .error e => .error e | .ok o => cleanA stay o r) := by
  intro l
  induction l with
  | nil => intro out; rfl
  | cons p l ih =>
    intro out
    simp only [List.cons_append, cleanA]
    split
    · exact ih _
    · split
      · split
        · rfl
        · exact ih _
      · split
        · rfl
        · exact ih _

/-- A part that may stand. -/
def Good (p : List UInt8) : Prop := p ≠ [] ∧ p ≠ [46] ∧ p ≠ [46, 46] ∧ badL p = false ∧ (47 : UInt8) ∉ p

theorem splitB_no : ∀ (s : List UInt8), ∀ p ∈ splitB 47 s, (47 : UInt8) ∉ p
  | [] => by simp [splitB]
  | c :: r => by
    have ih := splitB_no r
    intro p hp
    by_cases h : c = 47
    · simp only [splitB, if_pos h, List.mem_cons] at hp
      rcases hp with rfl | hp
      · simp
      · exact ih p hp
    · simp only [splitB, if_neg h, List.mem_cons] at hp
      cases hr : splitB 47 r with
      | nil => exact absurd hr (splitB_ne 47 r)
      | cons a b =>
        rw [hr] at hp ih
        simp only [List.headD_cons, List.tail_cons] at hp
        rcases hp with rfl | hp
        · have := ih a (by simp)
          simp only [List.mem_cons, not_or]
          exact ⟨fun q => h q.symm, this⟩
        · exact ih p (by simp [hp])

theorem cleanA_out {stay : Nat} : ∀ (xs : List (List UInt8)) {out r : List (List UInt8)}, (∀ p ∈ xs, (47 : UInt8) ∉ p) → (∀ p ∈ out, Good p) → cleanA stay out xs = .ok r → ∀ p ∈ r, Good p := by
  intro xs
  induction xs with
  | nil => intro out r _ h2 h; cases h; exact h2
  | cons p xs ih =>
    intro out r h1 h2 h
    have h1' : ∀ q ∈ xs, (47 : UInt8) ∉ q := fun q hq => h1 q (by simp [hq])
    simp only [cleanA] at h
    split at h
    · exact ih h1' h2 h
    · rename_i hn
      split at h
      · split at h
        · cases h
        · exact ih h1' (fun q hq => h2 q ((List.dropLast_sublist _).subset hq)) h
      · rename_i hd
        split at h
        · cases h
        · rename_i hb
          refine ih h1' (fun q hq => ?_) h
          rcases List.mem_append.1 hq with hq | hq
          · exact h2 q hq
          · rw [List.mem_singleton.1 hq]
            exact ⟨fun c => hn (.inl c), fun c => hn (.inr c), hd, by simpa using hb, h1 p (by simp)⟩

theorem cleanA_good {stay : Nat} : ∀ (xs : List (List UInt8)) {out : List (List UInt8)}, (∀ p ∈ xs, Good p) → cleanA stay out xs = .ok (out ++ xs) := by
  intro xs
  induction xs with
  | nil => intro out _; simp [cleanA]
  | cons p xs ih =>
    intro out h
    obtain ⟨g1, g2, g3, g4, _⟩ := h p (by simp)
    rw [cleanA, if_neg (by simp [g1, g2]), if_neg g3, if_neg (by simp [g4]), ih (fun q hq => h q (by simp [hq]))]
    simp

theorem cleanA_pre {base : List (List UInt8)} : ∀ (xs : List (List UInt8)) {m r : List (List UInt8)}, cleanA base.length (base ++ m) xs = .ok r → ∃ m', r = base ++ m' := by
  intro xs
  induction xs with
  | nil => intro m r h; cases h; exact ⟨m, rfl⟩
  | cons p xs ih =>
    intro m r h
    simp only [cleanA] at h
    split at h
    · exact ih h
    · split at h
      · split at h
        · cases h
        · rename_i hl
          have hm : m ≠ [] := by rintro rfl; simp at hl
          rw [List.dropLast_append_of_ne_nil hm] at h
          exact ih h
      · split at h
        · cases h
        · rw [List.append_assoc] at h
          exact ih h

theorem split_glue : ∀ (out : List (List UInt8)), out ≠ [] → (∀ p ∈ out, (47 : UInt8) ∉ p) → splitB 47 (glueL out) = out
  | [], h, _ => absurd rfl h
  | [a], _, h => by rw [glueL]; exact split_none a (h a (by simp))
  | a :: b :: r, _, h => by
    rw [glueL, split_app, split_none a (h a (by simp)), split_glue (b :: r) (by simp) (fun p hp => h p (by simp only [List.mem_cons] at hp ⊢; exact .inr hp))]
    rfl

theorem total_cons (a : List UInt8) (r : List (List UInt8)) : total (a :: r) = a.length + 1 + total r := by simp [total]
theorem glue_total : ∀ (out : List (List UInt8)), out ≠ [] → (glueL out).length + 1 = total out
  | [], h => absurd rfl h
  | [a], _ => by simp [glueL, total]
  | a :: b :: r, _ => by
    have := glue_total (b :: r) (by simp)
    rw [glueL, total_cons]
    simp only [List.length_append, List.length_cons]
    omega
theorem split_total (s : List UInt8) : total (splitB 47 s) = s.length + 1 := by
  rw [← glue_total _ (splitB_ne 47 s), glue_split]

theorem glue_nil (out : List (List UInt8)) (h : ∀ p ∈ out, p ≠ []) : glueL out = [] ↔ out = [] := by
  constructor
  · intro hg
    cases out with
    | nil => rfl
    | cons a r =>
      have := h a (by simp)
      cases r with
      | nil => exact absurd hg this
      | cons b r => simp [glueL] at hg
  · rintro rfl; rfl

/-- What a clean path is. -/
theorem clean_ok {s p : List UInt8} (h : joinL [] s = (p, 0)) : ∃ out, p = glueL out ∧ cleanA 0 [] (splitB 47 s) = .ok out ∧ out.length ≤ 12 ∧ (∀ x ∈ out, Good x) ∧ p.length ≤ 200 := by
  unfold joinL cleanL at h
  simp only [ne_eq, not_true_eq_false, false_and, if_false, partsL, if_true, List.length_nil] at h
  split at h
  · cases h
  · rename_i hl
    split at h
    · cases h
    · cases hc : cleanA 0 [] (splitB 47 s) with
      | error e =>
        rw [hc] at h
        simp only [Prod.mk.injEq] at h
        rcases cleanA_err_no _ hc with rfl | rfl <;> simp at h
      | ok out =>
        rw [hc] at h
        simp only at h
        split at h
        · simp at h
        · rename_i h12
          simp only [Prod.mk.injEq, and_true] at h
          have ht := cleanA_total _ hc
          rw [split_total] at ht
          refine ⟨out, h.symm, rfl, by omega, cleanA_out _ (splitB_no s) (by simp) hc, ?_⟩
          rw [← h]
          by_cases ho : out = []
          · subst ho; simp [glueL]
          · have := glue_total out ho
            simp only [total, List.map_nil, List.sum_nil] at ht
            simp only [total] at this
            omega

theorem parts_glue {out : List (List UInt8)} (h : ∀ x ∈ out, Good x) : partsL (glueL out) = out := by
  unfold partsL
  by_cases ho : out = []
  · subst ho; rfl
  · rw [if_neg (fun c => ho ((glue_nil out (fun p hp => (h p hp).1)).1 c)), split_glue out ho (fun p hp => (h p hp).2.2.2.2)]

theorem take1_glue {out : List (List UInt8)} (h : ∀ x ∈ out, Good x) : (glueL out).take 1 ≠ [47] := by
  cases out with
  | nil => simp [glueL]
  | cons a r =>
    obtain ⟨g1, _, _, _, g5⟩ := h a (by simp)
    cases a with
    | nil => exact absurd rfl g1
    | cons c a =>
      have hc : c ≠ 47 := fun q => g5 (by simp [q])
      cases r <;> simp [glueL, hc]

/-- Parts that may stand, glued, are clean. -/
theorem clean_glue {out : List (List UInt8)} (h : ∀ x ∈ out, Good x) (hl : (glueL out).length ≤ 200) (h12 : out.length ≤ 12) : joinL [] (glueL out) = (glueL out, 0) := by
  unfold joinL cleanL
  simp only [ne_eq, not_true_eq_false, false_and, if_false, partsL, if_true, List.length_nil]
  rw [if_neg (by omega), if_neg (take1_glue h)]
  by_cases ho : out = []
  · subst ho; rfl
  · rw [split_glue out ho (fun p hp => (h p hp).2.2.2.2), cleanA_good out h]
    simp only [List.nil_append]
    rw [if_neg (by omega)]

theorem parent_base {out : List (List UInt8)} (h : ∀ x ∈ out, Good x) : (if parentL (glueL out) ≠ [] then parentL (glueL out) ++ [47] else parentL (glueL out)) ++ baseL (glueL out) = glueL out := by
  unfold parentL baseL
  rw [parts_glue h]
  by_cases ho : out = []
  · subst ho; rfl
  · have hd : out = out.dropLast ++ [out.getLast ho] := (List.dropLast_concat_getLast ho).symm
    have hg : out.getLastD [] = out.getLast ho := by rw [List.getLastD_eq_getLast?, List.getLast?_eq_some_getLast ho]; rfl
    rw [hg]
    conv => rhs; rw [hd, glueL_snoc]
    by_cases hdl : out.dropLast = []
    · rw [hdl]; simp [glueL]
    · have hn : glueL out.dropLast ≠ [] := fun c => hdl ((glue_nil _ (fun p hp => (h p ((List.dropLast_sublist _).subset hp)).1)).1 c)
      rw [if_pos hn, if_neg hdl]

theorem take_mid (a : List UInt8) (x : UInt8) (r : List UInt8) : (a ++ x :: r).take (a.length + 1) = a ++ [x] := by
  induction a with
  | nil => simp
  | cons b a ih => simpa using ih
theorem within_parent {out : List (List UInt8)} (h : ∀ x ∈ out, Good x) : withinL (glueL out) (parentL (glueL out)) = true := by
  unfold withinL parentL
  rw [parts_glue h]
  by_cases ho : out = []
  · subst ho; rfl
  · have hd : out = out.dropLast ++ [out.getLast ho] := (List.dropLast_concat_getLast ho).symm
    by_cases hdl : out.dropLast = []
    · rw [hdl]; simp [glueL]
    · have he : glueL out = glueL out.dropLast ++ [47] ++ out.getLast ho := by
        conv => lhs; rw [hd, glueL_snoc]
        rw [if_neg hdl]
      refine decide_eq_true (.inr (.inr ?_))
      rw [he, List.append_assoc]
      exact take_mid _ _ _
theorem within_nil (p : List UInt8) : withinL p [] = true := by simp [withinL]

theorem glue_more : ∀ (b m : List (List UInt8)), b ≠ [] → m ≠ [] → glueL (b ++ m) = glueL b ++ 47 :: glueL m
  | [], _, h, _ => absurd rfl h
  | [a], m, _, hm => by
    cases m with
    | nil => exact absurd rfl hm
    | cons c m => rfl
  | a :: b :: r, m, _, hm => by
    have := glue_more (b :: r) m (by simp) hm
    simp only [List.cons_append] at this ⊢
    rw [glueL, this, glueL]
    simp

/-- Behind a directory: below it. -/
theorem within_join {d s p : List UInt8} (h : joinL d s = (p, 0)) : withinL p d = true := by
  by_cases hd : d = []
  · subst hd; exact within_nil p
  · unfold joinL cleanL at h
    split at h
    · simp at h
    · split at h
      · simp at h
      · split at h
        · simp at h
        · split at h
          · rename_i e hc
            simp only [Prod.mk.injEq] at h
            rcases cleanA_err_no _ hc with rfl | rfl <;> simp at h
          · rename_i out hc
            split at h
            · simp at h
            · simp only [Prod.mk.injEq, and_true] at h
              have hc' : cleanA (partsL d).length (partsL d ++ []) (splitB 47 s) = .ok out := by rw [List.append_nil]; exact hc
              obtain ⟨m, rfl⟩ := cleanA_pre _ hc'
              rw [partsL, if_neg hd] at h
              unfold withinL
              refine decide_eq_true ?_
              by_cases hm : m = []
              · subst hm; rw [List.append_nil, glue_split] at h; exact .inr (.inl h.symm)
              · rw [glue_more _ _ (splitB_ne 47 d) hm, glue_split] at h
                refine .inr (.inr ?_)
                rw [← h]
                exact take_mid _ _ _
end Go.Proofs.YtcnmgiflogjfeaaDoor.Pa
