/-
  That the program's types, variables and functions are laid out: looked through, a hundred types at a time.
-/
import Derived.Test.YtbhbdeelpopgoaaGreatDoorRows
import Derived.JoinedOf
import Derived.KernelRfl
set_option linter.unusedVariables false
set_option linter.unusedSimpArgs false
namespace Go.Proofs.YtbhbdeelpopgoaaGreatDoor.facts
open Go
theorem and2 {a b : Bool} (h1 : a = true) (h2 : b = true) : (a && b) = true := by rw [h1, h2]; rfl
theorem c0 : (List.range' 0 100).all (rowFine Tryz.prog) = true := by kernel_rfl
theorem c1 : (List.range' 100 100).all (rowFine Tryz.prog) = true := by kernel_rfl
theorem c2 : (List.range' 200 100).all (rowFine Tryz.prog) = true := by kernel_rfl
theorem c3 : (List.range' 300 100).all (rowFine Tryz.prog) = true := by kernel_rfl
theorem c4 : (List.range' 400 100).all (rowFine Tryz.prog) = true := by kernel_rfl
theorem c5 : (List.range' 500 100).all (rowFine Tryz.prog) = true := by kernel_rfl
theorem c6 : (List.range' 600 104).all (rowFine Tryz.prog) = true := by kernel_rfl
theorem cut : List.range 704 = List.range' 0 100 ++ (List.range' 100 100 ++ (List.range' 200 100 ++ (List.range' 300 100 ++ (List.range' 400 100 ++ (List.range' 500 100 ++ List.range' 600 104))))) := by kernel_rfl
theorem rows : (List.range 704).all (rowFine Tryz.prog) = true := by
  rw [cut]
  simp only [List.all_append, c0, c1, c2, c3, c4, c5, c6, Bool.and_self]
theorem size : Tryz.prog.types.size = 704 := by kernel_rfl
theorem globs : Tryz.prog.globals.all (fun g => decide (g.type < Tryz.prog.types.size)) = true := by kernel_rfl
theorem fns : Tryz.prog.funcs.all (fun f => f.params.all fun t => decide (t < Tryz.prog.types.size)) = true := by
  simp only [size]
  kernel_rfl
theorem laid : laidOutB Tryz.prog = true := by
  have h : ((List.range Tryz.prog.types.size).all (rowFine Tryz.prog)) = true := by
    rw [size]
    exact rows
  exact and2 (and2 h globs) fns
theorem laidP : laidOutB Tryz.pinned.checked.prog = true := laid
end Go.Proofs.YtbhbdeelpopgoaaGreatDoor.facts
