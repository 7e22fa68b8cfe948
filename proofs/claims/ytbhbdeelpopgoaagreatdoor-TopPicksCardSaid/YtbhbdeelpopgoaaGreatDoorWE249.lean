/-
  The law TopPicks: the tied card, out of its walk.
-/
import Derived.Test.YtbhbdeelpopgoaaGreatDoorWE247
import Derived.Test.YtbhbdeelpopgoaaGreatDoorWE248
import Derived.Test.YtbhbdeelpopgoaaGreatDoorWE254
import Derived.Test.YtbhbdeelpopgoaaGreatDoorWE229
import Derived.Test.YtbhbdeelpopgoaaGreatDoorQBa
set_option linter.unusedVariables false
set_option linter.unusedSimpArgs false
namespace Go.Proofs.YtbhbdeelpopgoaaGreatDoor.topPicks
open Go.ChangeShapes Go.WideShapes Go.ChangeAt Go.RowKit
theorem over (hY : Walked) : Rows.TopPicksSaid :=
  OpenClaim.holds_of_wide 3 Tryz.f3 rfl rfl rfl rfl rfl rfl rfl ⟨rfl, rfl, rfl, rfl, rfl⟩ rfl rfl rfl rfl rfl named Tryz.func3 closed
    (of_decide_eq_true (by kernel_rfl)) wrap
    (fun os started H enc _ => lifted hY os started H enc)
theorem plain (f : FuncId) (fn : Func) (hf : Tryz.pinned.checked.prog.funcNamed "haversack/haversacktop.TopPicks" = some f) (hfn : Tryz.pinned.checked.prog.funcs[f]? = some fn) :
    true = Tryz.pinned.checked.prog.looks [] ∧ ∀ (j : Nat) t, fn.params[j]? = some t → Tryz.pinned.checked.prog.wantsStandIn t = false := by
  obtain rfl : f = 3 := Option.some.inj ((show Tryz.prog.funcNamed "haversack/haversacktop.TopPicks" = some 3 by kernel_rfl).symm.trans hf) |>.symm
  obtain rfl : fn = Tryz.f3 := (Option.some.inj (Tryz.func3.symm.trans hfn)).symm
  refine ⟨by kernel_rfl, fun j t ht => ?_⟩
  have hm : t ∈ ([22, 5] : List TypeId) := by simpa using Array.mem_of_getElem? ht
  have hall : (([22, 5] : List TypeId).all fun u => !Tryz.prog.wantsStandIn u) = true := by kernel_rfl
  exact (show Tryz.prog.wantsStandIn t = false by simpa using List.all_eq_true.1 hall t hm)

theorem proved_of (hY : Walked) : Rows.TopPicksCardSaid :=
  Claim7.holds_tied_plain_at .later [] _ _ _ _ (over hY) (fun _ h => by cases h) byText (fun _ h => by cases h) tied.rowTie rfl ⟨rfl, rfl⟩ mains rfl plain goes
theorem walked : Walked := fun w hw v l b hv => (E.topPicks E.sumsOk.2 E.knOk E.tails hw hv b.toNat_lt).mono fun e w' h => ⟨h.2, h.1⟩
theorem proved : Rows.TopPicksCardSaid := proved_of walked
#print axioms proved
end Go.Proofs.YtbhbdeelpopgoaaGreatDoor.topPicks
