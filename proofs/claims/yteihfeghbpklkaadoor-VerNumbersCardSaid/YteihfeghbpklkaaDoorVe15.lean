/-
  Orders: plain laws.
-/
import Derived.Test.YteihfeghbpklkaaDoorVe12
import Derived.Test.YteihfeghbpklkaaDoorVe6
namespace Go.Proofs.YteihfeghbpklkaaDoor.Ve
open S

/-- An order by signs. -/
structure OrdC {α : Type} (c : α → α → Int) : Prop where
  anti : ∀ a b, c b a = - c a b
  trans : ∀ a b d, c a b ≤ 0 → c b d ≤ 0 → c a d ≤ 0
  eq : ∀ a b, c a b = 0 → a = b
theorem OrdC.self {α : Type} {c : α → α → Int} (h : OrdC c) (a : α) : c a a = 0 := by have := h.anti a a; omega
theorem OrdC.lt {α : Type} {c : α → α → Int} (h : OrdC c) {a b d : α} (h1 : c a b ≤ 0) (h2 : c b d < 0) : c a d < 0 := by
  have h3 := h.trans a b d h1 (by omega)
  rcases Int.lt_or_eq_of_le h3 with h4 | h4
  · exact h4
  · have := h.eq a d h4
    subst this
    have := h.anti a b
    omega
theorem OrdC.lt' {α : Type} {c : α → α → Int} (h : OrdC c) {a b d : α} (h1 : c a b < 0) (h2 : c b d ≤ 0) : c a d < 0 := by
  have h3 := h.trans a b d (by omega) h2
  rcases Int.lt_or_eq_of_le h3 with h4 | h4
  · exact h4
  · have := h.eq a d h4
    subst this
    have := h.anti a b
    omega
theorem OrdC.ge {α : Type} {c : α → α → Int} (h : OrdC c) {a b d : α} (h1 : 0 ≤ c a b) (h2 : 0 ≤ c b d) : 0 ≤ c a d := by
  have e1 := h.anti a b
  have e2 := h.anti b d
  have e3 := h.anti a d
  have := h.trans d b a (by omega) (by omega)
  omega

def lexC {α : Type} (c : α → α → Int) : List α → List α → Int
  | [], [] => 0
  | [], _ :: _ => -1
  | _ :: _, [] => 1
  | a :: x, b :: y => if c a b ≠ 0 then c a b else lexC c x y
theorem lexC_ord {α : Type} {c : α → α → Int} (h : OrdC c) : OrdC (lexC c) := by
  have anti : ∀ a b, lexC c b a = - lexC c a b := by
    intro a
    induction a with
    | nil => intro b; cases b <;> simp [lexC]
    | cons x r ih =>
      intro b
      cases b with
      | nil => simp [lexC]
      | cons y s =>
        have h1 := h.anti x y
        have h2 := ih s
        simp only [lexC]
        by_cases h0 : c x y = 0
        · rw [if_neg (by omega), if_neg (by omega)]; exact h2
        · rw [if_pos (by omega), if_pos h0]; exact h1
  refine ⟨anti, ?_, ?_⟩
  · intro a
    induction a with
    | nil => intro b d h1 h2; cases d <;> simp [lexC]
    | cons x r ih =>
      intro b d h1 h2
      cases b with
      | nil => simp [lexC] at h1
      | cons y s =>
        cases d with
        | nil => simp [lexC] at h2
        | cons z t =>
          simp only [lexC] at h1 h2 ⊢
          by_cases e1 : c x y = 0
          · have := h.eq x y e1
            subst this
            rw [if_neg (by omega)] at h1
            by_cases e2 : c x z = 0
            · rw [if_neg (by omega)] at h2
              rw [if_neg (by omega)]
              exact ih s t h1 h2
            · rw [if_pos e2] at h2 ⊢
              exact h2
          · rw [if_pos e1] at h1
            by_cases e2 : c y z = 0
            · have := h.eq y z e2
              subst this
              rw [if_pos e1]
              exact h1
            · rw [if_pos e2] at h2
              have := h.lt' (show c x y < 0 by omega) h2
              rw [if_pos (by omega)]
              omega
  · intro a
    induction a with
    | nil => intro b h1; cases b <;> simp [lexC] at h1 ⊢
    | cons x r ih =>
      intro b h1
      cases b with
      | nil => simp [lexC] at h1
      | cons y s =>
        simp only [lexC] at h1
        by_cases e1 : c x y = 0
        · rw [if_neg (by omega)] at h1
          rw [h.eq x y e1, ih s h1]
        · rw [if_pos e1] at h1; exact absurd h1 e1

theorem cmpI_ord : OrdC cmpI := by
  refine ⟨fun a b => ?_, fun a b d => ?_, fun a b => ?_⟩ <;> unfold cmpI <;> (repeat' split) <;> omega
def cmpB (a b : UInt8) : Int := cmpI a.toNat b.toNat
theorem cmpB_ord : OrdC cmpB := ⟨fun a b => cmpI_ord.anti _ _, fun a b d => cmpI_ord.trans _ _ _, fun a b h => by have := cmpI_ord.eq _ _ h; exact UInt8.toNat_inj.1 (by omega)⟩
theorem cmpT_lex : ∀ (a b : T), cmpT a b = lexC cmpB a b
  | [], [] => rfl
  | [], _ :: _ => by simp [cmpT, lexC, Op.bytesLess]
  | _ :: _, [] => by simp [cmpT, lexC, Op.bytesLess]
  | a :: x, b :: y => by
    have ih := cmpT_lex x y
    have hlt : (a < b) ↔ a.toNat < b.toNat := UInt8.lt_iff_toNat_lt
    simp only [cmpT, lexC, Op.bytesLess, Bool.or_eq_true, decide_eq_true_eq, Bool.and_eq_true, beq_iff_eq, List.cons.injEq] at ih ⊢
    by_cases h1 : a = b
    · subst h1
      rw [if_neg (show ¬ cmpB a a ≠ 0 from by simp [cmpB, cmpI_ord.self]), ← ih]
      have : ¬ a < a := by rw [hlt]; omega
      simp [this]
    · have hne : a.toNat ≠ b.toNat := fun c => h1 (UInt8.toNat_inj.1 c)
      by_cases h2 : a < b
      · have e : cmpB a b = -1 := by rw [cmpB, cmpI, if_pos (by have := hlt.1 h2; omega)]
        rw [if_pos (.inl h2), e]; rfl
      · have hn : ¬ a.toNat < b.toNat := fun c => h2 (hlt.2 c)
        have e : cmpB a b = 1 := by rw [cmpB, cmpI, if_neg (by omega), if_pos (by omega)]
        rw [if_neg (by rintro (c | c); exact h2 c; exact h1 c.1), if_neg (fun c => h1 c.1), e]; rfl
theorem cmpT_ord : OrdC cmpT := by
  have : cmpT = lexC cmpB := by funext a b; exact cmpT_lex a b
  rw [this]; exact lexC_ord cmpB_ord
theorem cmpM_ord : OrdC cmpM := by
  have hI := cmpI_ord
  have hT := cmpT_ord
  refine ⟨fun a b => ?_, fun a b d => ?_, fun a b => ?_⟩
  · unfold cmpM
    have h1 := hI.anti a.length b.length
    have h2 := hT.anti a b
    cases digB a <;> cases digB b <;> simp only [Bool.false_eq_true, false_and, and_false, and_self, if_false, if_true]
    all_goals first
      | exact h2
      | rfl
      | (by_cases h0 : cmpI a.length b.length = 0
         · rw [if_neg (by omega), if_neg (by omega)]; exact h2
         · rw [if_pos (by omega), if_pos h0]; exact h1)
  · unfold cmpM
    cases digB a <;> cases digB b <;> cases digB d <;> simp only [Bool.false_eq_true, false_and, and_false, and_self, if_false, if_true]
    · exact hT.trans a b d
    · intros; omega
    · intros; omega
    · intros; omega
    · intros; omega
    · intros; omega
    · intros; omega
    · by_cases e1 : cmpI a.length b.length = 0
      · have e1' := hI.eq _ _ e1
        rw [if_neg (by omega), e1']
        by_cases e2 : cmpI b.length d.length = 0
        · rw [if_neg (by omega), if_neg (by omega)]; exact hT.trans a b d
        · rw [if_pos e2, if_pos e2]; exact fun _ h => h
      · rw [if_pos e1]
        by_cases e2 : cmpI b.length d.length = 0
        · have e2' := hI.eq _ _ e2
          rw [if_neg (by omega), ← e2', if_pos e1]; exact fun h _ => h
        · rw [if_pos e2]
          intro h1 h2
          have := hI.lt' (show cmpI a.length b.length < 0 by omega) h2
          rw [if_pos (by omega)]; omega
  · unfold cmpM
    cases digB a <;> cases digB b <;> simp only [Bool.false_eq_true, false_and, and_false, and_self, if_false, if_true]
    · exact hT.eq a b
    · intro h; omega
    · intro h; omega
    · split
      · intro h; contradiction
      · exact hT.eq a b
theorem cmpL_lex : ∀ (a b : List T), cmpL a b = lexC cmpM a b
  | [], [] => rfl
  | [], _ :: _ => rfl
  | _ :: _, [] => rfl
  | a :: x, b :: y => by rw [cmpL, lexC, cmpL_lex x y]
theorem cmpL_ord : OrdC cmpL := by
  have : cmpL = lexC cmpM := by funext a b; exact cmpL_lex a b
  rw [this]; exact lexC_ord cmpM_ord
theorem cmpP_ord : OrdC cmpP := by
  have hL := cmpL_ord
  refine ⟨fun a b => ?_, fun a b d => ?_, fun a b => ?_⟩ <;> unfold cmpP
  · by_cases ha : a = [] <;> by_cases hb : b = [] <;> simp [ha, hb, hL.anti a b]
  · by_cases ha : a = [] <;> by_cases hb : b = [] <;> by_cases hd : d = [] <;> simp [ha, hb, hd]
    exact hL.trans a b d
  · by_cases ha : a = [] <;> by_cases hb : b = [] <;> simp [ha, hb]
    exact hL.eq a b
/-- One order ahead of another. -/
def bothC {α β : Type} (c : α → α → Int) (d : β → β → Int) : α × β → α × β → Int := fun x y => if c x.1 y.1 ≠ 0 then c x.1 y.1 else d x.2 y.2
theorem bothC_ord {α β : Type} {c : α → α → Int} {d : β → β → Int} (hc : OrdC c) (hd : OrdC d) : OrdC (bothC c d) := by
  refine ⟨fun x y => ?_, fun x y z => ?_, fun x y => ?_⟩ <;> unfold bothC
  · have h1 := hc.anti x.1 y.1
    by_cases h0 : c x.1 y.1 = 0
    · rw [if_neg (by omega), if_neg (by omega)]; exact hd.anti _ _
    · rw [if_pos (by omega), if_pos h0]; exact h1
  · by_cases e1 : c x.1 y.1 = 0
    · have e1' := hc.eq _ _ e1
      rw [if_neg (by omega), e1']
      by_cases e2 : c y.1 z.1 = 0
      · rw [if_neg (by omega), if_neg (by omega)]; exact hd.trans _ _ _
      · rw [if_pos e2, if_pos e2]; exact fun _ h => h
    · rw [if_pos e1]
      by_cases e2 : c y.1 z.1 = 0
      · have e2' := hc.eq _ _ e2
        rw [if_neg (by omega), ← e2', if_pos e1]; exact fun h _ => h
      · rw [if_pos e2]
        intro h1 h2
        have := hc.lt' (show c x.1 y.1 < 0 by omega) h2
        rw [if_pos (by omega)]; omega
  · split
    · intro h; contradiction
    · rename_i h0
      intro h
      exact Prod.ext (hc.eq _ _ (Decidable.not_not.1 h0)) (hd.eq _ _ h)
def tupV (v : Ver) : Int × Int × Int × List T := (v.a, v.b, v.c, v.pre)
theorem cmpV_tup (x y : Ver) : cmpV x y = bothC cmpI (bothC cmpI (bothC cmpI cmpP)) (tupV x) (tupV y) := rfl
theorem cmpV_ord : OrdC cmpV := by
  have h := bothC_ord cmpI_ord (bothC_ord cmpI_ord (bothC_ord cmpI_ord cmpP_ord))
  refine ⟨fun x y => by rw [cmpV_tup, cmpV_tup]; exact h.anti _ _, fun x y z => by rw [cmpV_tup, cmpV_tup, cmpV_tup]; exact h.trans _ _ _, fun x y e => ?_⟩
  rw [cmpV_tup] at e
  have := h.eq _ _ e
  cases x
  cases y
  simp only [tupV, Prod.mk.injEq] at this
  obtain ⟨rfl, rfl, rfl, rfl⟩ := this
  rfl

theorem cmpT_bd (a b : T) : -1 ≤ cmpT a b ∧ cmpT a b ≤ 1 := by
  unfold cmpT
  repeat' split
  all_goals omega
theorem cmpM_bd (a b : T) : -1 ≤ cmpM a b ∧ cmpM a b ≤ 1 := by
  have h1 := cmpI_bd a.length b.length
  have h2 := cmpT_bd a b
  unfold cmpM
  repeat' split
  all_goals omega
theorem cmpL_bd : ∀ (a b : List T), -1 ≤ cmpL a b ∧ cmpL a b ≤ 1
  | [], [] => by simp [cmpL]
  | [], _ :: _ => by simp [cmpL]
  | _ :: _, [] => by simp [cmpL]
  | a :: x, b :: y => by
    have h1 := cmpM_bd a b
    have h2 := cmpL_bd x y
    rw [cmpL]
    split <;> omega
theorem cmpP_bd (a b : List T) : -1 ≤ cmpP a b ∧ cmpP a b ≤ 1 := by
  have := cmpL_bd a b
  unfold cmpP
  repeat' split
  all_goals omega
theorem cmpV_bd (x y : Ver) : -1 ≤ cmpV x y ∧ cmpV x y ≤ 1 := by
  have h1 := cmpI_bd x.a y.a
  have h2 := cmpI_bd x.b y.b
  have h3 := cmpI_bd x.c y.c
  have h4 := cmpP_bd x.pre y.pre
  unfold cmpV
  repeat' split
  all_goals omega

theorem parse_inj {s t : T} {x y : Ver} (hx : parseV (cutB 45 s) = some x) (hy : parseV (cutB 45 t) = some y) : cmpV x y = 0 ↔ textV x = textV y := by
  constructor
  · intro h; rw [cmpV_ord.eq _ _ h]
  · intro h
    rw [parse_text hx, parse_text hy] at h
    subst h
    rw [hx] at hy
    cases hy
    exact cmpV_ord.self x
end Go.Proofs.YteihfeghbpklkaaDoor.Ve
