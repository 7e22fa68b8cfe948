/-
  Plain laws: ways up and down; dots and ways there and back.
-/
import Derived.Test.YtcnmgiflogjfeaaDoorPa8
namespace Go.Proofs.YtcnmgiflogjfeaaDoor.Pa
open S

/-- How deep a way leads; none: out. -/
def go : Nat → List Bool → Option Nat
  | n, [] => some n
  | n, true :: r => go (n + 1) r
  | 0, false :: _ => none
  | n + 1, false :: r => go n r

theorem go_snoc (b : Bool) : ∀ (l : List Bool) (n : Nat), go n (l ++ [b]) = (match go n l with | none => none | some m => go m [b]) := by
  intro l
  induction l with
  | nil => intro n; cases h : go n [b] <;> simp [go, h]
  | cons a r ih =>
    intro n
    cases a
    · cases n with
      | zero => simp [go]
      | succ n => simpa [go] using ih n
    · simpa [go] using ih (n + 1)

def wayS (b : Bool) : List UInt8 := if b then [97, 47] else [46, 46, 47]
def wayP (b : Bool) : List UInt8 := if b then [97] else [46, 46]
theorem way_split : ∀ (l : List Bool), splitB 47 (l.flatMap wayS) = l.map wayP ++ [[]] := by
  intro l
  induction l with
  | nil => rfl
  | cons b r ih =>
    cases b
    · simp [wayS, wayP, splitB] at ih ⊢; exact ih
    · simp [wayS, wayP, splitB] at ih ⊢; exact ih
theorem good97 : Good [97] := ⟨by decide, by decide, by decide, by decide, by decide⟩
theorem way_clean : ∀ (l : List Bool) (n : Nat), cleanA 0 (List.replicate n [97]) (l.map wayP ++ [[]]) = (match go n l with | none => .error 51 | some m => .ok (List.replicate m [97])) := by
  intro l
  induction l with
  | nil => intro n; simp [cleanA, go]
  | cons b r ih =>
    intro n
    cases b
    · cases n with
      | zero => simp [cleanA, go, wayP]
      | succ n =>
        have := ih n
        simp only [List.map_cons, List.cons_append, cleanA, wayP, go, Bool.false_eq_true, if_false]
        rw [if_neg (by decide), if_pos trivial, if_neg (by simp), List.dropLast_replicate]
        exact this
    · have := ih (n + 1)
      simp only [List.map_cons, List.cons_append, cleanA, wayP, go, if_true]
      rw [if_neg (by decide), if_neg (by decide), if_neg (by decide), ← List.replicate_succ']
      exact this
theorem way_len (l : List Bool) : (l.flatMap wayS).length ≤ 3 * l.length := by
  induction l with
  | nil => simp
  | cons b r ih => cases b <;> simp [wayS] at ih ⊢ <;> omega
theorem way_one (l : List Bool) : (l.flatMap wayS).take 1 ≠ [47] := by
  cases l with
  | nil => simp
  | cons b r => cases b <;> simp [wayS]
theorem way_join (l : List Bool) (hl : l.length ≤ 30) : joinL [] (l.flatMap wayS) = (match go 0 l with | none => ([], 51) | some m => if 12 < m then ([], 50) else (glueL (List.replicate m [97]), 0)) := by
  have h1 := way_len l
  unfold joinL cleanL
  simp only [ne_eq, not_true_eq_false, false_and, if_false, partsL, if_true, List.length_nil]
  rw [if_neg (by omega), if_neg (way_one l), way_split]
  have := way_clean l 0
  simp only [List.replicate_zero] at this
  rw [this]
  cases go 0 l <;> simp

/-! Dots. -/
def tab : List (List UInt8) := [[], [46, 47], [47], [120, 47, 46, 46, 47], [121, 47, 122, 47, 46, 46, 47, 46, 46, 47]]
def nm (x : UInt8) : UInt8 := UInt8.ofNat (97 + x.toNat % 8)
def seg (h n : UInt8) : List UInt8 := tab.getD (h.toNat % 5) [] ++ [nm n]
theorem nm_good (x : UInt8) : Good [nm x] := by
  unfold nm
  have : x.toNat % 8 < 8 := Nat.mod_lt _ (by decide)
  generalize x.toNat % 8 = k at this
  have h : k = 0 ∨ k = 1 ∨ k = 2 ∨ k = 3 ∨ k = 4 ∨ k = 5 ∨ k = 6 ∨ k = 7 := by omega
  rcases h with rfl | rfl | rfl | rfl | rfl | rfl | rfl | rfl <;> exact ⟨by decide, by decide, by decide, by decide, by decide⟩
theorem seg_clean (h n : UInt8) (out : List (List UInt8)) : cleanA 0 out (splitB 47 (seg h n)) = .ok (out ++ [[nm n]]) := by
  have hg := nm_good n
  unfold seg
  generalize nm n = c at hg
  obtain ⟨g1, g2, g3, g4, g5⟩ := hg
  have hc : c ≠ 47 := fun q => g5 (by simp [q])
  have h1 : cleanA 0 out [[c]] = .ok (out ++ [[c]]) := by
    rw [cleanA, if_neg (by simp only [not_or]; exact ⟨g1, g2⟩), if_neg g3, if_neg (by rw [g4]; decide)]; rfl
  have : h.toNat % 5 < 5 := Nat.mod_lt _ (by decide)
  generalize h.toNat % 5 = k at this
  have hk : k = 0 ∨ k = 1 ∨ k = 2 ∨ k = 3 ∨ k = 4 := by omega
  rcases hk with rfl | rfl | rfl | rfl | rfl
  · simpa [tab, splitB, hc] using h1
  · simpa [tab, splitB, hc, cleanA] using h1
  · simpa [tab, splitB, hc, cleanA] using h1
  · have e : splitB 47 ([120, 47, 46, 46, 47] ++ [c]) = [[120], [46, 46], [c]] := by simp [splitB, hc]
    show cleanA 0 out (splitB 47 ([120, 47, 46, 46, 47] ++ [c])) = _
    rw [e, cleanA, if_neg (by decide), if_neg (by decide), if_neg (by decide), cleanA, if_neg (by decide), if_pos rfl, if_neg (by simp), List.dropLast_concat]
    exact h1
  · have e : splitB 47 ([121, 47, 122, 47, 46, 46, 47, 46, 46, 47] ++ [c]) = [[121], [122], [46, 46], [46, 46], [c]] := by simp [splitB, hc]
    show cleanA 0 out (splitB 47 ([121, 47, 122, 47, 46, 46, 47, 46, 46, 47] ++ [c])) = _
    rw [e, cleanA, if_neg (by decide), if_neg (by decide), if_neg (by decide), cleanA, if_neg (by decide), if_neg (by decide), if_neg (by decide), cleanA, if_neg (by decide), if_pos rfl, if_neg (by simp), List.dropLast_concat, cleanA, if_neg (by decide), if_pos rfl, if_neg (by simp), List.dropLast_concat]
    exact h1
theorem split_glues : ∀ (l : List (List UInt8)), l ≠ [] → splitB 47 (glueL l) = l.flatMap (splitB 47)
  | [], h => absurd rfl h
  | [a], _ => by simp [glueL]
  | a :: b :: r, _ => by
    rw [glueL, split_app, split_glues (b :: r) (by simp)]
    rfl
theorem segs_clean : ∀ (l : List (UInt8 × UInt8)) (out : List (List UInt8)), cleanA 0 out ((l.map fun p => seg p.1 p.2).flatMap (splitB 47)) = .ok (out ++ l.map fun p => [nm p.2]) := by
  intro l
  induction l with
  | nil => intro out; simp [cleanA]
  | cons p l ih =>
    intro out
    rw [List.map_cons, List.flatMap_cons, cleanA_app, seg_clean]
    simp only
    rw [ih]
    simp
theorem tab_len (k : Nat) : (tab.getD k []).length ≤ 10 := by
  rcases Nat.lt_or_ge k 5 with h | h
  · have hk : k = 0 ∨ k = 1 ∨ k = 2 ∨ k = 3 ∨ k = 4 := by omega
    rcases hk with rfl | rfl | rfl | rfl | rfl <;> decide
  · rw [List.getD_eq_getElem?_getD, List.getElem?_eq_none (by simpa [tab] using h)]; decide
theorem segs_len (l : List (UInt8 × UInt8)) : (glueL (l.map fun p => seg p.1 p.2)).length ≤ 12 * l.length := by
  refine Nat.le_trans (glueL_len _) ?_
  induction l with
  | nil => simp [total]
  | cons p l ih =>
    have := tab_len (p.1.toNat % 5)
    have h2 : (seg p.1 p.2).length ≤ 11 := by rw [seg, List.length_append]; simp only [List.length_cons, List.length_nil]; omega
    rw [List.map_cons, total_cons]
    simp only [List.length_cons]
    omega
theorem dots_one (p : UInt8 × UInt8) (l : List (UInt8 × UInt8)) : (glueL ((p :: l).map fun p => seg p.1 p.2)).take 1 = [47] ↔ p.1.toNat % 5 = 2 := by
  have hg : (nm p.2) ≠ 47 := fun q => (nm_good p.2).2.2.2.2 (by simp [q])
  have h1 : (glueL ((p :: l).map fun p => seg p.1 p.2)).take 1 = (seg p.1 p.2).take 1 := by
    have hs : seg p.1 p.2 ≠ [] := by simp [seg]
    cases l with
    | nil => simp [glueL]
    | cons q l =>
      simp only [List.map_cons, glueL]
      cases h : seg p.1 p.2 with
      | nil => exact absurd h hs
      | cons a b => simp
  rw [h1, seg]
  have : p.1.toNat % 5 < 5 := Nat.mod_lt _ (by decide)
  generalize p.1.toNat % 5 = k at this
  have hk : k = 0 ∨ k = 1 ∨ k = 2 ∨ k = 3 ∨ k = 4 := by omega
  rcases hk with rfl | rfl | rfl | rfl | rfl <;> simp [tab, hg]
theorem dots_join (l : List (UInt8 × UInt8)) (hl : l.length ≤ 8) : joinL [] (glueL (l.map fun p => seg p.1 p.2)) = if l ≠ [] ∧ (l.headD (0, 0)).1.toNat % 5 = 2 then ([], 51) else (glueL (l.map fun p => [nm p.2]), 0) := by
  cases l with
  | nil => rfl
  | cons p l =>
    have h1 := segs_len (p :: l)
    unfold joinL cleanL
    simp only [ne_eq, not_true_eq_false, false_and, if_false, partsL, if_true, List.length_nil]
    rw [if_neg (by omega)]
    by_cases h2 : p.1.toNat % 5 = 2
    · rw [if_pos ((dots_one p l).2 h2), if_pos ⟨by simp, h2⟩]
    · rw [if_neg (fun c => h2 ((dots_one p l).1 c)), if_neg (fun c => h2 c.2), split_glues _ (by simp), segs_clean]
      simp only [List.nil_append, List.length_map]
      rw [if_neg (by omega)]
theorem names_good (l : List (UInt8 × UInt8)) : ∀ x ∈ l.map (fun p => [nm p.2]), Good x := by
  intro x hx
  obtain ⟨p, _, rfl⟩ := List.mem_map.1 hx
  exact nm_good p.2
theorem names_len (l : List (UInt8 × UInt8)) : (glueL (l.map fun p => [nm p.2])).length ≤ 2 * l.length := by
  refine Nat.le_trans (glueL_len _) ?_
  induction l with
  | nil => simp [total]
  | cons p l ih => rw [List.map_cons, total_cons]; simp only [List.length_cons, List.length_nil]; omega
theorem plain_end (l : List (UInt8 × UInt8)) (hl : l.length ≤ 8) (hn : l ≠ []) : joinL [] (glueL (l.map fun p => [nm p.2]) ++ [47]) = (glueL (l.map fun p => [nm p.2]), 0) := by
  have hg := names_good l
  have hl2 := names_len l
  have ho : l.map (fun p => [nm p.2]) ≠ [] := by simpa using hn
  have ht := take1_glue hg
  have hnn : glueL (l.map fun p => [nm p.2]) ≠ [] := fun c => ho ((glue_nil _ (fun p hp => (hg p hp).1)).1 c)
  unfold joinL cleanL
  simp only [ne_eq, not_true_eq_false, false_and, if_false, partsL, if_true, List.length_nil]
  rw [if_neg (by simp; omega), if_neg (by rw [List.take_append_of_le_length (by have := List.length_pos_iff.2 hnn; omega)]; exact ht), split_app, split_glue _ ho (fun p hp => (hg p hp).2.2.2.2), cleanA_app, cleanA_good _ hg]
  simp only [List.nil_append, splitB, cleanA]
  simp only [true_or, if_true, List.length_map]
  rw [if_neg (by omega)]
end Go.Proofs.YtcnmgiflogjfeaaDoor.Pa
