/-
  A text parted at a byte: plain.
-/
import Derived.Lib.Bytealg
namespace Go.Proofs.YteihfeghbpklkaaDoor.S

/-- What stands between the bytes c. -/
def splitB (c : UInt8) : List UInt8 → List (List UInt8)
  | [] => [[]]
  | x :: r => if x = c then [] :: splitB c r else (x :: (splitB c r).headD []) :: (splitB c r).tail

theorem idx_ge (c : UInt8) (l : List UInt8) : -1 ≤ Go.Lib.indexByte l c := Go.Lib.indexByte_ge l c

theorem split_idx (c : UInt8) : ∀ (l : List UInt8), (Go.Lib.indexByte l c = -1 ∧ l.count c = 0 ∧ splitB c l = [l]) ∨
    ∃ m : Nat, Go.Lib.indexByte l c = (m : Int) ∧ m < l.length ∧ l.count c = (l.drop (m + 1)).count c + 1 ∧ splitB c l = l.take m :: splitB c (l.drop (m + 1)) := by
  intro l
  induction l with
  | nil => exact .inl ⟨rfl, rfl, rfl⟩
  | cons x r ih =>
    by_cases hx : x = c
    · subst hx
      refine .inr ⟨0, ?_, by simp, by simp, ?_⟩
      · simp [Go.Lib.indexByte]
      · simp [splitB]
    · have hx' : (x == c) = false := by simpa using hx
      rcases ih with ⟨h1, h2, h3⟩ | ⟨m, h1, h2, h3, h4⟩
      · refine .inl ⟨?_, ?_, ?_⟩
        · simp [Go.Lib.indexByte, hx', h1]
        · rw [List.count_cons, hx', h2]; rfl
        · rw [splitB, if_neg hx, h3]; rfl
      · refine .inr ⟨m + 1, ?_, by simpa using h2, ?_, ?_⟩
        · have : ((m : Int) == -1) = false := by rw [beq_eq_false_iff_ne]; omega
          simp [Go.Lib.indexByte, hx', h1, this]
        · rw [List.count_cons, hx', h3]; rfl
        · rw [splitB, if_neg hx, h4]; rfl
theorem splitB_len (c : UInt8) : ∀ (l : List UInt8), (splitB c l).length = l.count c + 1 := by
  intro l
  induction l with
  | nil => rfl
  | cons x r ih =>
    rw [splitB, List.count_cons]
    by_cases hx : x = c
    · rw [if_pos hx, List.length_cons, ih]; simp [hx]
    · have hx' : (x == c) = false := by simpa using hx
      rw [if_neg hx, hx', List.length_cons, List.length_tail, ih]; rfl
theorem splitB_ne (c : UInt8) (l : List UInt8) : splitB c l ≠ [] := fun h => by have := splitB_len c l; rw [h] at this; simp at this
theorem splitB_mem_len (c : UInt8) : ∀ (l : List UInt8), ∀ s ∈ splitB c l, s.length ≤ l.length := by
  intro l
  induction l with
  | nil => intro s hs; simp [splitB] at hs; subst hs; simp
  | cons x r ih =>
    intro s hs
    rw [splitB] at hs
    split at hs
    · rcases List.mem_cons.1 hs with rfl | hs
      · simp
      · have := ih s hs; simp only [List.length_cons]; omega
    · rcases List.mem_cons.1 hs with rfl | hs
      · have hne := splitB_ne c r
        cases hsp : splitB c r with
        | nil => exact absurd hsp hne
        | cons a t =>
          have := ih a (by rw [hsp]; simp)
          simp only [List.headD_cons, List.length_cons]; omega
      · have := ih s (List.mem_of_mem_tail hs); simp only [List.length_cons]; omega
end Go.Proofs.YteihfeghbpklkaaDoor.S
