/-
  The law TopScripts: the tied card, out of its walk.
-/
import Derived.Test.YtoafcnecjgnbmaaGreatDoorXE192
import Derived.Test.YtoafcnecjgnbmaaGreatDoorXE193
import Derived.Test.YtoafcnecjgnbmaaGreatDoorXE199
set_option linter.unusedVariables false
set_option linter.unusedSimpArgs false
namespace Go.Proofs.YtoafcnecjgnbmaaGreatDoor.topScripts
open Go.ChangeShapes Go.WideShapes Go.ChangeAt Go.RowKit
theorem over (hY : Walked) : Rows.TopScriptsSaid :=
  OpenClaim.holds_of_wide 3 Tryz.f3 rfl rfl rfl rfl rfl rfl rfl ⟨rfl, rfl, rfl, rfl, rfl⟩ rfl rfl rfl rfl rfl named Tryz.func3 closed
    (of_decide_eq_true (by kernel_rfl)) wrap
    (fun os started H enc _ => lifted hY os started H enc)
theorem plain (f : FuncId) (fn : Func) (hf : Tryz.pinned.checked.prog.funcNamed "haversack/haversacktop.TopScripts" = some f) (hfn : Tryz.pinned.checked.prog.funcs[f]? = some fn) :
    true = Tryz.pinned.checked.prog.looks [] ∧ ∀ (j : Nat) t, fn.params[j]? = some t → Tryz.pinned.checked.prog.wantsStandIn t = false := by
  obtain rfl : f = 3 := Option.some.inj ((show Tryz.prog.funcNamed "haversack/haversacktop.TopScripts" = some 3 by kernel_rfl).symm.trans hf) |>.symm
  obtain rfl : fn = Tryz.f3 := (Option.some.inj (Tryz.func3.symm.trans hfn)).symm
  refine ⟨by kernel_rfl, fun j t ht => ?_⟩
  have hm : t ∈ ([5, 5] : List TypeId) := by simpa using Array.mem_of_getElem? ht
  have hall : (([5, 5] : List TypeId).all fun u => !Tryz.prog.wantsStandIn u) = true := by kernel_rfl
  exact (show Tryz.prog.wantsStandIn t = false by simpa using List.all_eq_true.1 hall t hm)

theorem proved_of (hY : Walked) : Rows.TopScriptsCardSaid :=
  Claim7.holds_tied_plain_at .later [] _ _ _ _ (over hY) (fun _ h => by cases h) byText (fun _ h => by cases h) tied.rowTie rfl ⟨rfl, rfl⟩ mains rfl plain goes
theorem walked : Walked := fun a b w hw => E.scripts a b w hw
theorem proved : Rows.TopScriptsCardSaid := proved_of walked
#print axioms proved
end Go.Proofs.YtoafcnecjgnbmaaGreatDoor.topScripts
