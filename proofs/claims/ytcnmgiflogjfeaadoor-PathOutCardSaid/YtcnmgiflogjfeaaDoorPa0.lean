/-
  Paths: plain.
-/
import Derived.Test.YtcnmgiflogjfeaaDoorS0
namespace Go.Proofs.YtcnmgiflogjfeaaDoor.Pa
open Go.Proofs.YtcnmgiflogjfeaaDoor.S

/-- Parts, with a stroke between. -/
def glueL : List (List UInt8) → List UInt8
  | [] => []
  | [a] => a
  | a :: b :: r => a ++ 47 :: glueL (b :: r)
theorem glueL_snoc : ∀ (l : List (List UInt8)) (x : List UInt8), glueL (l ++ [x]) = if l = [] then x else glueL l ++ [47] ++ x := by
  intro l
  induction l with
  | nil => intro x; rfl
  | cons a r ih =>
    intro x
    cases r with
    | nil => simp [glueL]
    | cons b r =>
      have := ih x
      simp only [List.cons_append, reduceCtorEq, if_false] at this ⊢
      rw [glueL, this, glueL]
      simp

def badB (c : UInt8) : Bool := c.toNat < 33 || 126 < c.toNat || c.toNat == 34 || c.toNat == 92 || c.toNat == 42 || c.toNat == 63 || c.toNat == 58
def badL (s : List UInt8) : Bool := decide (32 < s.length) || s.any badB

/-- Parts put behind others, of which the first stay. -/
def cleanA (stay : Nat) : List (List UInt8) → List (List UInt8) → Except Int (List (List UInt8))
  | out, [] => .ok out
  | out, p :: r =>
    if p = [] ∨ p = [46] then cleanA stay out r
    else if p = [46, 46] then (if out.length ≤ stay then .error 51 else cleanA stay out.dropLast r)
    else if badL p = true then .error 50
    else cleanA stay (out ++ [p]) r

/-- A text behind parts: the path, the error's number. -/
def cleanL (s : List UInt8) (base : List (List UInt8)) : List UInt8 × Int :=
  if 200 < s.length then ([], 50)
  else if s.take 1 = [47] then ([], 51)
  else match cleanA base.length base (splitB 47 s) with
    | .error e => ([], e)
    | .ok out => if 12 < out.length then ([], 50) else (glueL out, 0)
def partsL (s : List UInt8) : List (List UInt8) := if s = [] then [] else splitB 47 s
def joinL (d s : List UInt8) : List UInt8 × Int := if d ≠ [] ∧ 200 < d.length + 1 + s.length then ([], 50) else cleanL s (partsL d)
def parentL (p : List UInt8) : List UInt8 := glueL (partsL p).dropLast
def baseL (p : List UInt8) : List UInt8 := (partsL p).getLastD []
def withinL (p d : List UInt8) : Bool := decide (d = [] ∨ p = d ∨ p.take (d.length + 1) = d ++ [47])
end Go.Proofs.YtcnmgiflogjfeaaDoor.Pa
