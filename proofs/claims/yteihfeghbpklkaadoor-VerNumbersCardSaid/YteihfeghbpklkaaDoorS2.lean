/-
  strings.LastIndexByte and strings.Split at one byte.
-/
import Derived.Test.YteihfeghbpklkaaDoorS1
namespace Go.Proofs.YteihfeghbpklkaaDoor.S
open Go.RowKit H
attribute [local irreducible] H.CL H.RW H.CW H.Yd H.thenK H.blockQ Go.Calls

def lastIdxA (c : UInt8) (l : List UInt8) : Nat → Int
  | 0 => -1
  | n + 1 => if l.getD n 0 = c then (n : Int) else lastIdxA c l n
def lastIdx (c : UInt8) (l : List UInt8) : Int := lastIdxA c l l.length
theorem lastIdxA_bd (c : UInt8) (l : List UInt8) : ∀ n, -1 ≤ lastIdxA c l n ∧ lastIdxA c l n < (n : Int) := by
  intro n
  induction n with
  | zero => simp [lastIdxA]
  | succ n ih => unfold lastIdxA; split <;> omega
theorem lastIdx_bd (c : UInt8) (l : List UInt8) : -1 ≤ lastIdx c l ∧ lastIdx c l < (l.length : Int) := lastIdxA_bd c l _

theorem u8_eq {a b : UInt8} (h : (a.toNat : Int) = (b.toNat : Int)) : a = b := UInt8.toNat_inj.1 (by omega)

end Go.Proofs.YteihfeghbpklkaaDoor.S
