/-
  The law TopPicks: from its walk to the tied card.
-/
import Derived.Test.YtbhbdeelpopgoaaGreatDoorQBa
import Derived.Test.YtbhbdeelpopgoaaGreatDoorWE246
import Derived.Test.YtbhbdeelpopgoaaGreatDoorWE110
import Derived.Test.YtbhbdeelpopgoaaGreatDoorCards
import Derived.LaidMore
import Derived.LaidHandle
import Derived.Lay
import Derived.SevenTiedAt
import Derived.Stop.Joined
import Derived.Handed
import Derived.HandedShaped
import Derived.Shelf.Vars
set_option linter.unusedVariables false
set_option linter.unusedSimpArgs false
namespace Go.Proofs.YtbhbdeelpopgoaaGreatDoor.H
open Go Go.RowKit
section
variable {Hh : Type} {enc : TypeId × Value → Hh}
/-- A row out of its walk: the listed variables, and the shape of the first world. -/
theorem handed_and_shaped {a : Assume} {C : Checked} {os : Os} {f : FuncId} {fn : Func} {s : ChangeSpec} {conds : List PathCond} {apart fresh handsOn again : Bool} {X : World → Array Value → Prop}
    (hX : ∀ (w w' : World) (args : Array Value), w.heap = w'.heap → X w args → X w' args)
    (own : ownKnob C.prog.godebug = none) (started : os.Started) (noInit : C.prog.inits.idxOf? f = none) (hfn : C.prog.funcs[f]? = some fn)
    (witness : ∃ (w : World) (tape : Tape) (i : Input), w.os = os ∧ (w.forCall tape i).Shaped C.prog ∧ i.vars = [] ∧ Input.okWide C.prog (w.forCall tape i) .any w.heap.size f i ∧
      ((s.pre enc C.prog fn conds apart (w.forCall tape i).memory i.args ∧ X (w.forCall tape i).memory i.args) ∧ sizedMet enc C.prog fn (OpenSpec.ofChange s) apart (w.forCall tape i).memory i.args) ∧ a.holds C.prog (lone (Frame.enter C.prog f i.args .normal) [] (w.forCall tape i)))
    (contract : ∀ (W : World) (base : Nat) (args : Array Value) (ds gs : List (DataW Hh)) (before : List MemPlace),
      (∀ (j : Nat) t v, fn.params[j]? = some t → args[j]? = some v → Value.okWide C.prog W .any base t v) →
      DataW.Whole enc C.prog fn.params.toList s.vars apart W args.toList ds gs before → X W args → W.ShapedOpen C.prog →
      Calls C.prog f args W fun e W' => ∃ v, e = .returned v ∧ s.post enc C.prog fn apart fresh handsOn again W args v W') :
    ReturnsInHanded a C os f .any (fun w args => (s.pre enc C.prog fn conds apart w args ∧ X w args) ∧ sizedMet enc C.prog fn (OpenSpec.ofChange s) apart w args) (s.post enc C.prog fn apart fresh handsOn again) := by
  refine returnsInHanded_of_calls own started noInit witness ?_
  intro w tape i _ hsh _ hok hpre _
  obtain ⟨_, _, _, fn', hfn', _, _, _, _, hval⟩ := hok
  have e : fn' = fn := Option.some.inj (hfn'.symm.trans hfn)
  subst e
  obtain ⟨⟨⟨ds, gs, before, hw, _⟩, hx⟩, _⟩ := hpre
  have hw' := DataW.Whole.of_heap (w' := w.forCall tape i) (by rfl) hw
  refine (contract (w.forCall tape i) w.heap.size i.args ds gs before hval hw' (hX _ _ _ (by rfl) hx) hsh).mono fun e W' ⟨v, he, hp⟩ => ?_
  subst he
  exact ChangeSpec.post_blind hp
end
end Go.Proofs.YtbhbdeelpopgoaaGreatDoor.H
namespace Go.Proofs.YtbhbdeelpopgoaaGreatDoor.topPicks
open Go.ChangeShapes Go.WideShapes Go.ChangeAt Go.RowKit
set_option linter.unusedVariables false
/-- What the walk shows. -/
def Walked : Prop := ∀ (w : World), E.Wf w → ∀ (v : Value) (l : List UInt8) (b : UInt8), H.Sl w 1 v l.length (l.map H.vb) → Calls Tryz.prog 3 #[v, .int .u8 (b.toNat : Int)] w fun e w' => e = .returned (.bool true) ∧ H.K0 w w'
theorem et : Tryz.prog.globalNamed "errors.errorType" = some 1 := by kernel_rfl
theorem rt : (Tryz.prog.cutTypes.find? (·.1 == "internal/reflectlite.rtype")).map (·.2) = some 512 := by kernel_rfl
theorem size : Tryz.prog.types.size = 704 := facts.size
theorem oneRow : ((List.range 704).filter fun t => Tryz.prog.rowNamed t [101, 114, 114, 111, 114]) = [201] := by kernel_rfl
/-- What the condition gives: the variable's one cell. -/
theorem handle_of {W : World} (h : laidMetH Tryz.prog Rows.topPicksRow.laid W) : W.cell? ⟨1, 0, none⟩ = some (E.rT 201) := by
  have h' : laidMet Tryz.prog (Rows.topPicksRow.laid.filter fun x => x.2.handleName?.isNone) W ∧ handlesMet Tryz.prog (Rows.topPicksRow.laid.filter fun x => x.2.handleName?.isSome) W := h
  obtain ⟨name, u, ty, e1, e2, e3, e4, e5⟩ := h'.2 ("errors.errorType", Rows.laid_errors_errorType) (List.mem_singleton.2 rfl)
  have en : name = [101, 114, 114, 111, 114] := (Option.some.inj e1).symm
  subst en
  obtain rfl := Option.some.inj (rt.symm.trans e2)
  have hm : ty ∈ (List.range 704).filter fun t => Tryz.prog.rowNamed t [101, 114, 114, 111, 114] := List.mem_filter.2 ⟨List.mem_range.2 (by rw [← size]; exact e3), e4⟩
  rw [oneRow] at hm
  obtain rfl := List.mem_singleton.1 hm
  have hh : typeHandle Tryz.prog 201 = E.hT 201 := by kernel_rfl
  rw [hh] at e5
  have e6 := World.var?_cell et e5 0
  exact e6
theorem wf_of {W : World} (hL : laidMetH Tryz.prog Rows.topPicksRow.laid W) (hsh : W.ShapedOpen Tryz.prog) : E.Wf W := by
  refine ⟨cell_of_shapedOpen_int (zero := #[.int .i64 0]) (t := 3) hsh (of_decide_eq_true (by kernel_rfl)) (by kernel_rfl) rfl (by kernel_rfl) (by kernel_rfl) Tryz.underlying3, ?_, ?_⟩
  · obtain ⟨cs, hh, hs, _⟩ := hsh.1 1 #[.nilIface] 441 (of_decide_eq_true (by kernel_rfl)) (by kernel_rfl)
    have hc := handle_of hL
    simp only [World.cell?, hh] at hc
    have h1 : cs.size = 1 := hs
    have : cs = #[E.rT 201] := by
      apply Array.ext
      · exact h1
      · intro i h2 h3
        have : i = 0 := by omega
        subst this
        simpa [h1] using hc
    rw [hh, this]
    exact ⟨_, rfl⟩
  · have h9 := hsh.2 9 (of_decide_eq_true (by kernel_rfl)) (of_decide_eq_true (by kernel_rfl))
    obtain ⟨o, o0, ho, _⟩ := h9
    exact H.lt_of_at ho
/-- A world that meets the condition. -/
noncomputable def base0 (os : Os) : World :=
  let w0 := World.holding Tryz.prog os ⟨#[], #[], []⟩
  { w0 with heap := w0.heap.modify 1 fun
      | .cells _ t frozen => .cells #[E.rT 201] t frozen
      | o => o }
abbrev plainL : List (String × DataW Unit) := Rows.topPicksRow.laid.filter fun x => x.2.handleName?.isNone
noncomputable def laidW (os : Os) : World := (base0 os).layVars Tryz.prog plainL
theorem own : ownKnob Tryz.prog.godebug = none := by kernel_rfl
theorem types : ∀ t ∈ ([22, 5] : List TypeId), Tryz.prog.readableRec t = true ∧ t < Tryz.prog.types.size := by
  intro t ht
  simp only [List.mem_cons, List.not_mem_nil, or_false] at ht
  rcases ht with rfl | rfl <;> exact ⟨by kernel_rfl, of_decide_eq_true (by kernel_rfl)⟩

theorem laidMet_base (os : Os) (args : Array Value) : laidMet Tryz.prog plainL ((laidW os).forCall (fun _ _ => 0) ⟨#[], args, []⟩).memory := by
  have e1 : (plainL.filter fun x => (plainL.map (·.1)).contains x.1) = plainL := List.filter_eq_self.2 fun x hx => List.contains_iff_mem.2 (List.mem_map.2 ⟨x, hx, rfl⟩)
  have e2 : (plainL.filter fun x => !(plainL.map (·.1)).contains x.1) = [] := List.filter_eq_nil_iff.2 fun x hx => by rw [List.contains_iff_mem.2 (List.mem_map.2 ⟨x, hx, rfl⟩)]; simp
  have h : laidMet Tryz.prog plainL (laidW os) := laidMet_layVars (w0 := base0 os) (plainL.map (·.1)) [] (by rw [e1]; rfl) (by rw [e1]; kernel_rfl) (by rw [e1]; kernel_rfl) (by rw [e2]; exact LaidIn.none)
  exact h.of_heap (by simp [World.memory, World.forCall, Input.heap])
set_option maxRecDepth 100000 in
set_option maxHeartbeats 0 in
theorem lifted (hY : Walked) (os : Os) (started : os.Started) (H : Type) (enc : TypeId × Value → H) :
    ReturnsInHanded {} Tryz.checked os 3 .any (fun w args => (Rows.topPicksSpec.pre enc Tryz.prog Tryz.f3 Rows.topPicksRow.domain false w args ∧ laidMetH Tryz.prog Rows.topPicksRow.laid w) ∧ sizedMet enc Tryz.prog Tryz.f3 (OpenSpec.ofChange Rows.topPicksSpec) false w args) (Rows.topPicksSpec.post enc Tryz.prog Tryz.f3 false true false false) := by
  refine Go.Proofs.YtbhbdeelpopgoaaGreatDoor.H.handed_and_shaped (C := Tryz.checked) (X := fun w _ => laidMetH Tryz.prog Rows.topPicksRow.laid w) (fun _ _ _ hh h => h.of_heap hh) own started (by as_aux_lemma => kernel_rfl) Tryz.func3
    (ChangeSpec.witness_shaped (enc := enc) (C := Tryz.checked) (os := os) (X := fun w _ => laidMetH Tryz.prog Rows.topPicksRow.laid w) false (laidW os) #[.slice none 0 0, .int .u8 0] 8 (World.layVars_os _ _ _)
      (World.shaped_of_ZipB (by as_aux_lemma => kernel_rfl) (by as_aux_lemma => kernel_rfl)) (by as_aux_lemma => kernel_rfl) (by as_aux_lemma => kernel_rfl) (by as_aux_lemma => kernel_rfl)
      (laidMetH_of_parts (laidMet_base os _) (by as_aux_lemma => kernel_rfl))) ?_
  intro W base args ds gs before hval hW hL hsh
  have hW0 := wf_of hL hsh
  exact Go.Proofs.YtbhbdeelpopgoaaGreatDoor.H.law_contractW (P := Tryz.prog) (k := 3) (f := Tryz.f3) (s := Rows.topPicksSpec) (tb := 4) facts.laid Tryz.underlying4 rfl rfl (ts := [22, 5]) rfl types (fun H ds h => match ds, h with | [d1, d2], _ => rfl)
    W (fun a h => by
  obtain ⟨⟨v0, l⟩, b, ⟨⟩⟩ := a
  obtain ⟨⟨h0, _⟩, _⟩ := h
  exact hY W hW0 v0 l b (Go.Proofs.YtbhbdeelpopgoaaGreatDoor.H.Sl.map h0))
    H enc base args ds gs before hval hW
end Go.Proofs.YtbhbdeelpopgoaaGreatDoor.topPicks
