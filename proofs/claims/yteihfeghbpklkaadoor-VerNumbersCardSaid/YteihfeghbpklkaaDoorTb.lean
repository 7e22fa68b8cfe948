/-
  From a row's condition: the library's table of tens lies in memory.
-/
import Derived.Test.YteihfeghbpklkaaDoorVe8
import Derived.Test.YteihfeghbpklkaaDoorRows
import Derived.Stop.LaidErr
import Derived.Lib.LaidTab
import Derived.LaidMore
namespace Go.Proofs.YteihfeghbpklkaaDoor.Ve
open Go.RowKit H
theorem tab_at {P : Program} {W : World} {name : String} {k : IntKind} {zs : List Int} {rest : List (String × DataW Unit)} {t e : TypeId} {n : Nat}
    (hty : (P.globalNamed name).bind (fun g => (P.globals[g]?).map (·.type)) = some t) (ht : P.underlying t = some (.array n e)) (he : P.underlying e = some (.int k)) (hce : P.cellsOf e = 1) (hct : P.cellsOf t = n)
    (h : laidMet P ((name, Go.Lib.tabData k zs) :: rest) W) : Go.Lib.TabIs P W name k zs := by
  obtain ⟨g, hg⟩ : ∃ g, P.globalNamed name = some g := by
    cases hh : P.globalNamed name with
    | none => rw [hh] at hty; cases hty
    | some g => exact ⟨g, rfl⟩
  rw [hg] at hty
  exact Go.Lib.tabIs_of_head hg hty ht he hce hct h
theorem tb_of {W : World} {rest : List (String × DataW Unit)} (h : laidMet Tryd.prog (("internal/strconv.uint64pow10", Rows.laid_internal_strconv_uint64pow10) :: rest) W) : Tb W :=
  tab_at (t := 112) (by kernel_rfl) Tryd.underlying112 Tryd.underlying96 (by kernel_rfl) (by kernel_rfl) h
end Go.Proofs.YteihfeghbpklkaaDoor.Ve
