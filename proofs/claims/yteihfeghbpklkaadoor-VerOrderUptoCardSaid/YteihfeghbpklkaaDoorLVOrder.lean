/-
  It is proved that the statement VerOrder returns true for every input whose bulk is at most 1048576, and does not panic. Conditions: that bulk; the listed package-level variables start as the program's text lays them (the card ties them).
-/
import Derived.Test.YteihfeghbpklkaaDoorVe16
import Derived.Deep.DeepHandedRow
import Derived.ChangeMaps5
import Derived.Test.YteihfeghbpklkaaDoorCards
import Derived.Test.YteihfeghbpklkaaDoorTie
import Derived.Test.YteihfeghbpklkaaDoorOInst
import Derived.LaidMore
import Derived.Lay
import Derived.SevenTiedAt
import Derived.Stop.Joined
import Derived.Test.YteihfeghbpklkaaDoorTb
namespace Go.Proofs.YteihfeghbpklkaaDoor.verOrder
open Go.ChangeShapes Go.WideShapes Go.ChangeAt Go.RowKit
set_option linter.unusedVariables false

theorem own : ownKnob Tryd.prog.godebug = none := by kernel_rfl
theorem types : ∀ t ∈ ([9, 9, 9] : List TypeId), Tryd.prog.readableRec t = true ∧ t < Tryd.prog.types.size := by
  intro t ht
  simp only [List.mem_cons, List.not_mem_nil, or_false] at ht
  rcases ht with rfl | rfl | rfl <;> exact ⟨by kernel_rfl, of_decide_eq_true (by kernel_rfl)⟩

set_option maxRecDepth 100000 in
/-- The contract, of one world that holds the table. -/
theorem contract (H : Type) (enc : TypeId × Value → H) (W : World) (base : Nat) (args : Array Value) (ds gs : List (DataW H)) (before : List MemPlace)
    (hval : ∀ (j : Nat) t v, Tryd.f5.params[j]? = some t → args[j]? = some v → Value.okWide Tryd.prog W .any base t v)
    (hW : DataW.Whole enc Tryd.prog Tryd.f5.params.toList Rows.verOrderSpec.vars false W args.toList ds gs before) (hL : laidMetH Tryd.prog Rows.verOrderUptoRow.laid W) (hc : Rows.uptoSmall H (ds ++ gs) = true) :
    Calls Tryd.prog 5 args W fun e W' => ∃ v, e = .returned v ∧ Rows.verOrderSpec.post enc Tryd.prog Tryd.f5 false true false false W args v W' := by
  have hL' : laidMet Tryd.prog Rows.verOrderUptoRow.laid W := by have h := hL; rw [MakeChecks.laidMetH_plain _ _ _ (by kernel_rfl)] at h; exact h
  have hT := Go.Proofs.YteihfeghbpklkaaDoor.Ve.tb_of hL'.tail.tail
  have hW' := hW
  obtain ⟨p, q, hA0, hV, rfl, hfz, hnd⟩ := hW
  have hA : DataW.TrodAll enc Tryd.prog W 0 (fun _ => true) true [9, 9, 9] args.toList ds p := hA0
  have hval' : ∀ (j : Nat) t v, ([9, 9, 9] : List TypeId)[j]? = some t → args[j]? = some v → Value.okWide Tryd.prog W .any base t v := fun j t v h1 h2 => hval j t v (by rw [← Array.getElem?_toList]; exact h1) h2
  obtain ⟨v0, vs0, d0, ds0, p0, q0, hargs, rfl, rfl, h0, r0⟩ := trodAll_cons hA
  obtain ⟨v1, vs1, d1, ds1, p1, q1, rfl, rfl, rfl, h1, r1⟩ := trodAll_cons r0
  obtain ⟨v2, vs2, d2, ds2, p2, q2, rfl, rfl, rfl, h2, r2⟩ := trodAll_cons r1
  obtain ⟨rfl, rfl, rfl⟩ := trodAll_nil r2
  obtain rfl : args = #[v0, v1, v2] := by cases args; simp_all
  obtain ⟨s0, rfl, rfl, rfl, _⟩ := Go.ChangeMaps.open_string Tryd.underlying9 (hval' 0 9 v0 rfl rfl) h0
  obtain ⟨s1, rfl, rfl, rfl, _⟩ := Go.ChangeMaps.open_string Tryd.underlying9 (hval' 1 9 v1 rfl rfl) h1
  obtain ⟨s2, rfl, rfl, rfl, _⟩ := Go.ChangeMaps.open_string Tryd.underlying9 (hval' 2 9 v2 rfl rfl) h2
  obtain ⟨rfl, rfl⟩ := trodVars_none hV
  simp only [Rows.uptoSmall, List.append_nil, Rows.uptoBulkAll, Rows.uptoBulk, decide_eq_true_eq] at hc
  exact Go.Proofs.YteihfeghbpklkaaDoor.H.law_contractA (P := Tryd.prog) (k := 5) (f := Tryd.f5) (s := Rows.verOrderSpec) (tb := 4) (by kernel_rfl) Tryd.underlying4 rfl rfl (ts := [9, 9, 9]) rfl types (fun H ds h => match ds, h with | [d1, d2, d3], _ => rfl)
    W _ (fun a ha h => by
      obtain ⟨x, y, z, ⟨⟩⟩ := a
      simp only [Array.mk.injEq, List.cons.injEq, Value.string.injEq, and_true] at ha
      obtain ⟨e0, e1, e2⟩ := ha
      have l0 : x.length = s0.data.toList.length := by rw [e0]
      have l1 : y.length = s1.data.toList.length := by rw [e1]
      have l2 : z.length = s2.data.toList.length := by rw [e2]
      exact Go.Proofs.YteihfeghbpklkaaDoor.Ve.lawOrder x y z (by omega) (by omega) (by omega) W hT)
    H enc base _ [] _ hval hW'

theorem reads (os : Os) {H : Type} (enc : TypeId × Value → H) : ∃ places, DataW.whole enc Tryd.prog ((World.laidAll Tryd.prog os Rows.verOrderUptoRow.laid).forCall (fun _ _ => 0) ⟨#[], #[.string ByteArray.empty, .string ByteArray.empty, .string ByteArray.empty], []⟩).memory Tryd.f5.params.toList Rows.verOrderSpec.vars false #[Value.string ByteArray.empty, .string ByteArray.empty, .string ByteArray.empty].toList 8 = some ([.lit (.string []), .lit (.string []), .lit (.string [])], [], places) :=
  ⟨[], by kernel_rfl⟩

set_option maxRecDepth 100000 in
theorem lifted (os : Os) (started : os.Started) (H : Type) (enc : TypeId × Value → H) (F : Stop.Interp) :
    ReturnsInHanded {} Tryd.checked os 5 .any ((Rows.OpenSpec.upto Rows.verOrderSpec).preRow enc Tryd.prog Tryd.f5 Rows.verOrderUptoRow.domain false Rows.verOrderUptoRow.laid) (((Rows.OpenSpec.upto Rows.verOrderSpec).at F).post enc Tryd.prog Tryd.f5 false true false false) := by
  obtain ⟨places, hx⟩ := reads os enc
  refine returnsInHanded_of_row (C := Tryd.checked) (s := Rows.OpenSpec.upto Rows.verOrderSpec) own started (by kernel_rfl) Tryd.func5 ?_ ?_
  · have hok : Input.okWideB Tryd.checked.prog ((World.laidAll Tryd.prog os Rows.verOrderUptoRow.laid).forCall (fun _ _ => 0) ⟨#[], #[.string ByteArray.empty, .string ByteArray.empty, .string ByteArray.empty], []⟩) 5 ⟨#[], #[.string ByteArray.empty, .string ByteArray.empty, .string ByteArray.empty], []⟩ = true := by kernel_rfl
    refine ⟨World.laidAll Tryd.prog os Rows.verOrderUptoRow.laid, fun _ _ => 0, ⟨#[], #[.string ByteArray.empty, .string ByteArray.empty, .string ByteArray.empty], []⟩, World.laidAll_os _ _ _, World.shaped_of_ZipB (by kernel_rfl) (by kernel_rfl), (Input.okWide_of_okWideB (base := 0) hok).1, (Input.okWide_of_okWideB hok).2, ?_, ?_⟩
    · exact OpenSpec.preRow_of_cond 8 hx (by kernel_rfl) (fun k hk => by cases hk; kernel_rfl) (by kernel_rfl) (by rw [MakeChecks.laidMetH_plain _ _ _ (by kernel_rfl)]; exact laidMet_laidAll _ (by kernel_rfl) (by kernel_rfl))
    · simp only [Assume.holds]
      exact ⟨by simp, by simp, fun h => by simp at h, by simp, by simp⟩
  intro W base args ds gs before hval hW _ hc _ hL _ _
  exact contract H enc W base args ds gs before hval hW hL (hc _ rfl)

theorem over : Rows.VerOrderUptoSaid :=
  OpenClaim.holds_of_cond 5 Tryd.f5 rfl rfl rfl rfl rfl rfl rfl ⟨rfl, rfl, rfl, rfl, rfl⟩ rfl rfl rfl rfl rfl (by kernel_rfl) Tryd.func5 (by kernel_rfl)
    (of_decide_eq_true (by kernel_rfl)) (by unfold Func.isWrapper; first | (rw [if_pos (by decide +kernel)]; kernel_rfl) | (rw [if_neg (by decide +kernel)]; exact ⟨rfl, rfl⟩))
    (fun os started H enc _ F => by rw [OpenClaim.pre_eq_preRow]; exact lifted os started H enc F)

theorem plain (f : FuncId) (fn : Func) (hf : Tryd.pinned.checked.prog.funcNamed "haversack/haversacklaw9.VerOrder" = some f) (hfn : Tryd.pinned.checked.prog.funcs[f]? = some fn) :
    true = Tryd.pinned.checked.prog.looks [] ∧ ∀ (j : Nat) t, fn.params[j]? = some t → Tryd.pinned.checked.prog.wantsStandIn t = false := by
  obtain rfl : f = 5 := Option.some.inj ((show Tryd.prog.funcNamed "haversack/haversacklaw9.VerOrder" = some 5 by kernel_rfl).symm.trans hf) |>.symm
  obtain rfl : fn = Tryd.f5 := (Option.some.inj (Tryd.func5.symm.trans hfn)).symm
  refine ⟨by kernel_rfl, fun j t ht => ?_⟩
  have hm : t ∈ ([9, 9, 9] : List TypeId) := by simpa using Array.mem_of_getElem? ht
  have hall : (([9, 9, 9] : List TypeId).all fun u => !Tryd.prog.wantsStandIn u) = true := by kernel_rfl
  exact (show Tryd.prog.wantsStandIn t = false by simpa using List.all_eq_true.1 hall t hm)

theorem proved : Rows.VerOrderUptoCardSaid :=
  Claim7.holds_tied_plain_at .later [] _ _ _ _ over (fun _ h => by cases h) (by kernel_rfl) (fun _ h => by cases h) verOrderUpto_row_tie rfl ⟨rfl, rfl⟩ (by kernel_rfl) rfl plain (by kernel_rfl)
#print axioms proved
end Go.Proofs.YteihfeghbpklkaaDoor.verOrder
