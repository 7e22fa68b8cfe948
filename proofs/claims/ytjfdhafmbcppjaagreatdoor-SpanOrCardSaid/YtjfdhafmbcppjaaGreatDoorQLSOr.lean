/-
  It is proved that the statement SpanOr returns true for every input and does not panic. Conditions: the listed package-level variables start as the program's text lays them (the card ties them).
-/
import Derived.Test.YtjfdhafmbcppjaaGreatDoorQc
import Derived.Test.YtjfdhafmbcppjaaGreatDoorRows
import Derived.Handed
import Derived.HandedShaped
import Derived.Shelf.Vars
import Derived.Test.YtjfdhafmbcppjaaGreatDoorQf
import Derived.Test.YtjfdhafmbcppjaaGreatDoorCards
import Derived.Test.YtjfdhafmbcppjaaGreatDoorTie
import Derived.LaidMore
import Derived.Lay
import Derived.SevenTiedAt
import Derived.Stop.Joined
set_option linter.unusedVariables false
namespace Go.Proofs.YtjfdhafmbcppjaaGreatDoor.H
open Go Go.RowKit
variable {Hh : Type} {enc : TypeId × Value → Hh}
/-- A row out of its walk: the listed variables, and the shape of the first world. -/
theorem handed_and_shaped {a : Assume} {C : Checked} {os : Os} {f : FuncId} {fn : Func} {s : ChangeSpec} {conds : List PathCond} {apart fresh handsOn again : Bool} {X : World → Array Value → Prop}
    (hX : ∀ (w w' : World) (args : Array Value), w.heap = w'.heap → X w args → X w' args)
    (own : ownKnob C.prog.godebug = none) (started : os.Started) (noInit : C.prog.inits.idxOf? f = none) (hfn : C.prog.funcs[f]? = some fn)
    (witness : ∃ (w : World) (tape : Tape) (i : Input), w.os = os ∧ (w.forCall tape i).Shaped C.prog ∧ i.vars = [] ∧ Input.okWide C.prog (w.forCall tape i) .any w.heap.size f i ∧
      ((s.pre enc C.prog fn conds apart (w.forCall tape i).memory i.args ∧ X (w.forCall tape i).memory i.args) ∧ sizedMet enc C.prog fn (OpenSpec.ofChange s) apart (w.forCall tape i).memory i.args) ∧ a.holds C.prog (lone (Frame.enter C.prog f i.args .normal) [] (w.forCall tape i)))
    (contract : ∀ (W : World) (base : Nat) (args : Array Value) (ds gs : List (DataW Hh)) (before : List MemPlace),
      (∀ (j : Nat) t v, fn.params[j]? = some t → args[j]? = some v → Value.okWide C.prog W .any base t v) →
      DataW.Whole enc C.prog fn.params.toList s.vars apart W args.toList ds gs before → X W args → W.ShapedOpen C.prog →
      Calls C.prog f args W fun e W' => ∃ v, e = .returned v ∧ s.post enc C.prog fn apart fresh handsOn again W args v W') :
    ReturnsInHanded a C os f .any (fun w args => (s.pre enc C.prog fn conds apart w args ∧ X w args) ∧ sizedMet enc C.prog fn (OpenSpec.ofChange s) apart w args) (s.post enc C.prog fn apart fresh handsOn again) := by
  refine returnsInHanded_of_calls own started noInit witness ?_
  intro w tape i _ hsh _ hok hpre _
  obtain ⟨_, _, _, fn', hfn', _, _, _, _, hval⟩ := hok
  have e : fn' = fn := Option.some.inj (hfn'.symm.trans hfn)
  subst e
  obtain ⟨⟨⟨ds, gs, before, hw, _⟩, hx⟩, _⟩ := hpre
  have hw' := DataW.Whole.of_heap (w' := w.forCall tape i) (by rfl) hw
  refine (contract (w.forCall tape i) w.heap.size i.args ds gs before hval hw' (hX _ _ _ (by rfl) hx) hsh).mono fun e W' ⟨v, he, hp⟩ => ?_
  subst he
  exact ChangeSpec.post_blind hp
end Go.Proofs.YtjfdhafmbcppjaaGreatDoor.H
namespace Go.Proofs.YtjfdhafmbcppjaaGreatDoor.S
open Go Go.RowKit
theorem ml_of {W : World} (h : W.ShapedOpen Tryz.prog) : Ml W := cell_of_shapedOpen_int (zero := #[.int .i64 0]) (t := 3) h (of_decide_eq_true (by kernel_rfl)) (by kernel_rfl) rfl (by kernel_rfl) (by kernel_rfl) Tryz.underlying3
end Go.Proofs.YtjfdhafmbcppjaaGreatDoor.S

namespace Go.Proofs.YtjfdhafmbcppjaaGreatDoor.spanOr
open Go.ChangeShapes Go.WideShapes Go.ChangeAt Go.RowKit
set_option linter.unusedVariables false

theorem own : ownKnob Tryz.prog.godebug = none := by kernel_rfl
theorem types : ∀ t ∈ ([50, 50, 46] : List TypeId), Tryz.prog.readableRec t = true ∧ t < Tryz.prog.types.size := by
  intro t ht
  simp only [List.mem_cons, List.not_mem_nil, or_false] at ht
  rcases ht with rfl | rfl | rfl <;> exact ⟨by kernel_rfl, of_decide_eq_true (by kernel_rfl)⟩

set_option maxRecDepth 100000 in
theorem lifted (os : Os) (started : os.Started) (H : Type) (enc : TypeId × Value → H) :
    ReturnsInHanded {} Tryz.checked os 6 .any (fun w args => (Rows.spanOrSpec.pre enc Tryz.prog Tryz.f6 Rows.spanOrRow.domain false w args ∧ laidMetH Tryz.prog Rows.spanOrRow.laid w) ∧ sizedMet enc Tryz.prog Tryz.f6 (OpenSpec.ofChange Rows.spanOrSpec) false w args) (Rows.spanOrSpec.post enc Tryz.prog Tryz.f6 false true false false) := by
  refine Go.Proofs.YtjfdhafmbcppjaaGreatDoor.H.handed_and_shaped (C := Tryz.checked) (X := fun w _ => laidMetH Tryz.prog Rows.spanOrRow.laid w) (fun _ _ _ hh h => h.of_heap hh) own started (by kernel_rfl) Tryz.func6
    (ChangeSpec.witness_shaped (enc := enc) (C := Tryz.checked) (os := os) (X := fun w _ => laidMetH Tryz.prog Rows.spanOrRow.laid w) false (World.laidAll Tryz.prog os Rows.spanOrRow.laid) #[.slice none 0 0, .slice none 0 0, Value.agg #[.int .u8 0, .int .u8 0, .int .u8 0]] 8 (World.laidAll_os _ _ _)
      (World.shaped_of_ZipB (by kernel_rfl) (by kernel_rfl)) (by kernel_rfl) (by kernel_rfl) (by kernel_rfl)
      (by rw [MakeChecks.laidMetH_plain _ _ _ (by kernel_rfl)]; exact laidMet_laidAll _ (by kernel_rfl) (by kernel_rfl))) ?_
  intro W base args ds gs before hval hW hL hsh
  have hL' : laidMet Tryz.prog Rows.spanOrRow.laid W := by have h := hL; rw [MakeChecks.laidMetH_plain _ _ _ (by kernel_rfl)] at h; exact h
  have hT := Go.Proofs.YtjfdhafmbcppjaaGreatDoor.Ve.tb_of hL'.tail.tail
  have hM := Go.Proofs.YtjfdhafmbcppjaaGreatDoor.S.ml_of hsh
  exact Go.Proofs.YtjfdhafmbcppjaaGreatDoor.H.law_contractW (P := Tryz.prog) (k := 6) (f := Tryz.f6) (s := Rows.spanOrSpec) (tb := 4) (by kernel_rfl) Tryz.underlying4 rfl rfl (ts := [50, 50, 46]) rfl types (fun H ds h => match ds, h with | [d1, d2, d3], _ => rfl)
    W ((fun a h => by
  obtain ⟨⟨v0, l0⟩, ⟨v1, l1⟩, m, ⟨⟩⟩ := a
  obtain ⟨⟨h0, _⟩, ⟨h1, _⟩, ⟨hm, _⟩, _⟩ := h
  match m, hm with
  | [b0, b1, b2], _ => exact Sp.lawOr v0 v1 l0 l1 b0 b1 b2 W (Go.Proofs.YtjfdhafmbcppjaaGreatDoor.H.Sl.map h0) (Go.Proofs.YtjfdhafmbcppjaaGreatDoor.H.Sl.map h1) hT hM))
    H enc base args ds gs before hval hW

theorem over : Rows.SpanOrSaid :=
  OpenClaim.holds_of_wide 6 Tryz.f6 rfl rfl rfl rfl rfl rfl rfl ⟨rfl, rfl, rfl, rfl, rfl⟩ rfl rfl rfl rfl rfl (by kernel_rfl) Tryz.func6 (by kernel_rfl)
    (of_decide_eq_true (by kernel_rfl)) (by unfold Func.isWrapper; first | (rw [if_pos (by decide +kernel)]; kernel_rfl) | (rw [if_neg (by decide +kernel)]; exact ⟨rfl, rfl⟩))
    (fun os started H enc _ => lifted os started H enc)

theorem plain (f : FuncId) (fn : Func) (hf : Tryz.pinned.checked.prog.funcNamed "haversack/haversacklaw10.SpanOr" = some f) (hfn : Tryz.pinned.checked.prog.funcs[f]? = some fn) :
    true = Tryz.pinned.checked.prog.looks [] ∧ ∀ (j : Nat) t, fn.params[j]? = some t → Tryz.pinned.checked.prog.wantsStandIn t = false := by
  obtain rfl : f = 6 := Option.some.inj ((show Tryz.prog.funcNamed "haversack/haversacklaw10.SpanOr" = some 6 by kernel_rfl).symm.trans hf) |>.symm
  obtain rfl : fn = Tryz.f6 := (Option.some.inj (Tryz.func6.symm.trans hfn)).symm
  refine ⟨by kernel_rfl, fun j t ht => ?_⟩
  have hm : t ∈ ([50, 50, 46] : List TypeId) := by simpa using Array.mem_of_getElem? ht
  have hall : (([50, 50, 46] : List TypeId).all fun u => !Tryz.prog.wantsStandIn u) = true := by kernel_rfl
  exact (show Tryz.prog.wantsStandIn t = false by simpa using List.all_eq_true.1 hall t hm)

theorem proved : Rows.SpanOrCardSaid :=
  Claim7.holds_tied_plain_at .later [] _ _ _ _ over (fun _ h => by cases h) (by kernel_rfl) (fun _ h => by cases h) spanOr_row_tie rfl ⟨rfl, rfl⟩ (by kernel_rfl) rfl plain (by kernel_rfl)
#print axioms proved
end Go.Proofs.YtjfdhafmbcppjaaGreatDoor.spanOr

