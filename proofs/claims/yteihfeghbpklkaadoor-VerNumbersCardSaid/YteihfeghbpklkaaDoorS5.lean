/-
  strings.Join, by the shelf's contract.
-/
import Derived.Test.YteihfeghbpklkaaDoorH15
import Derived.Test.YteihfeghbpklkaaDoorSh
namespace Go.Proofs.YteihfeghbpklkaaDoor.S
open Go.RowKit H

theorem strings_data (l : List (List UInt8)) : (l.map B).map (·.data.toList) = l := by
  rw [List.map_map]
  conv => rhs; rw [← List.map_id l]
  exact List.map_congr_left fun a _ => rfl

theorem join (v : Value) (l : List (List UInt8)) (sep : List UInt8) (w : World) (hs : Sl w 1 v l.length (sv l)) (hlen : (Go.Lib.join l sep).length ≤ 140737488355328) (hl : l.length ≤ 140737488355328) :
    Calls Tryd.prog 35 #[v, vs sep] w fun e w' => e = .returned (vs (Go.Lib.join l sep)) ∧ K0 w w' := by
  rcases hs.2.2 with ⟨p, rfl, h0⟩ | ⟨g, off, cap, cur, e, fz, rfl, hg, hn, hm, ho, ht⟩
  · have : l = [] := List.eq_nil_of_length_eq_zero h0
    subst this
    refine (Tryd.strings_Join_none p 0 (B sep) w).mono fun e w' ⟨he, hw⟩ => ⟨he, ?_⟩
    rw [hw]; exact Kept.refl _ _
  · have h := Tryd.strings_Join g off cap (l.map B) (B sep) w (fun j x hj => by
        rw [List.getElem?_map, Option.map_eq_some_iff] at hj
        obtain ⟨s, hs', rfl⟩ := hj
        have hc := hs.cell (j := j) (u := vs s) (by rw [List.getElem?_map, hs']; rfl)
        simpa [Value.spot, addr_add] using hc) (lt_of_at hg) (by rw [List.length_map]; exact hl) (by rw [List.length_map]; exact hn) (by rw [strings_data]; exact hlen)
    rw [strings_data, List.length_map] at h
    exact h.mono fun e w' ⟨he, hb⟩ => ⟨he, Kept.of_below hb⟩
end Go.Proofs.YteihfeghbpklkaaDoor.S
