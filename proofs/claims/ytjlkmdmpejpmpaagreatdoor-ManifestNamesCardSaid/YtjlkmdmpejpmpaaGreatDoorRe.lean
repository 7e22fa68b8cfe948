/-
  A manifest with a need: the program's. A manifest with a need: the reference's. The seat's names and spans. The seat's needs: plain. The seat's needs, walked. Needs in any order, lines that say nothing: plain. A need put in again: plain. A manifest told: the reference's. A manifest told: the program's. The laws' known answers. In a region that draws its order: what is kept from here on, but for blocks that are new. Regions that draw their order, all orders at one stroke: each operation shows once what it yields; what has been shown is kept. The laws, walked: ManifestOnce; its two needs. Arguments of the laws of manifests, opened: numbers. Arguments opened, by their types; a law's row out of its walk. Arguments opened: arrays. Of each struct of this translation: the types of its fields. Written by a program. From a row's condition: the library's table of tens lies in memory. Rows: the world's shape, besides the listed variables. The laws, walked: ManifestReads. The laws, walked: ManifestNoise. The laws, walked: ManifestMany. The laws, walked: ManifestNames.
-/
import Derived.Test.YtjlkmdmpejpmpaaGreatDoorRd
import Derived.Test.YtjlkmdmpejpmpaaGreatDoorRb
import Derived.Test.YtjlkmdmpejpmpaaGreatDoorRc
import Derived.Shelf.Strings.OnBuilder
import Derived.Shelf.Strings.BuilderK
import Derived.Test.YtjlkmdmpejpmpaaGreatDoorRa
import Derived.WalkKit
import Derived.ProofKit
import Derived.OpenShut
import Derived.Carry
import Derived.ChangeArms
import Derived.Deep.Slices
import Derived.Test.YtjlkmdmpejpmpaaGreatDoorRows
import Derived.Stop.LaidErr
import Derived.Lib.LaidTab
import Derived.LaidMore
import Derived.Handed
import Derived.HandedShaped
import Derived.Shelf.Vars
set_option linter.unusedVariables false
namespace Go.Proofs.YtjlkmdmpejpmpaaGreatDoor.Ma
open Go.RowKit H S Ve Sp Od
attribute [local irreducible] H.CL H.RW H.CW H.Yd H.thenK H.blockQ Go.Calls

theorem rem_num (m : Mf) (nm : T) (h : hasN m.needs nm = true) : (remB m nm).needs.length < m.needs.length := by
  rw [hasN, List.any_eq_true] at h
  obtain ⟨d, hd, hn⟩ := h
  show (m.needs.filter _).length < _
  refine List.length_filter_lt_length_iff_exists.2 ⟨d, hd, ?_⟩
  simpa using of_decide_eq_true hn
theorem rem_not (m : Mf) (nm : T) (h : hasN m.needs nm = false) : (remB m nm).needs = m.needs := by
  show m.needs.filter _ = m.needs
  refine List.filter_eq_self.2 fun d hd => ?_
  rw [hasN, List.any_eq_false] at h
  have := h d hd
  simpa using this
/-- What comes of it, and whose memory it is. -/
def AddR (o : Mf × Int) (p : Value) (L : List Np) (y : Np) (w : World) (e : Ending) (w' : World) : Prop := K0 w w' ∧ ∃ (p' q' : Value) (L' : List Np), e = .returned (.tuple #[.agg (mfC o.1 p' q').toArray, .int .i64 o.2]) ∧ Sl w' 1 p' o.1.v.pre.length (sv o.1.v.pre) ∧ GA ndK w' q' L' ∧ L'.map (·.d) = o.1.needs ∧ (∀ g, live p' = some g → live p = some g) ∧ (∀ g, live q' = some g → w.heap.size ≤ g) ∧ ∀ z ∈ L', z ∈ L ∨ z = y
theorem zeroR (w : World) (p : Value) (L : List Np) (y : Np) (w1 : World) : Sl w 1 (.slice none 0 0) zeroM.v.pre.length (sv zeroM.v.pre) ∧ GA ndK w (.slice none 0 0) [] ∧ ([] : List Np).map (·.d) = zeroM.needs ∧ (∀ g, live (.slice none 0 0) = some g → live p = some g) ∧ (∀ g, live (.slice none 0 0) = some g → w1.heap.size ≤ g) ∧ ∀ z ∈ ([] : List Np), z ∈ L ∨ z = y :=
  ⟨Sl.nil _ _, ⟨Sl.nil _ _, fun x hx => by cases hx⟩, rfl, (fun g hg => by simp [live] at hg), (fun g hg => by simp [live] at hg), fun z hz => by cases hz⟩
def AddP (o : Mf × Int) (w : World) (e : Ending) (w' : World) : Prop := K0 w w' ∧ ∃ V', e = .returned (.tuple #[V', .int .i64 o.2]) ∧ MfAt w' V' o.1
set_option maxHeartbeats 1000000 in
theorem addL (m : Mf) (p q : Value) (L : List Np) (y : Np) (w : World) (hp : Sl w 1 p m.v.pre.length (sv m.v.pre)) (hq : GA ndK w q L) (hL : L.map (·.d) = m.needs) (hy : ndK.D w y) (h20 : m.needs.length ≤ 20) (hnl : y.d.name.length ≤ 1000000) : Calls Tryz.prog 23 #[.agg (mfC m p q).toArray, .agg (npC y).toArray] w (AddR (addB m y.d) p L y w) := by
  have hLl : L.length = m.needs.length := by have := congrArg List.length hL; rw [List.length_map] at this; exact this
  refine H.enter Tryz.func23 Tryz.ntmps23 rfl rfl ?_; dsimp only [H.args]
  refine CL.seq ?_
  refine CL.region ?_
  refine RW.box rfl rfl (fun w1 hb1 hk1 hlt1 => ?_)
  refine RW.box rfl rfl (fun w2 hb2 hk2 hlt2 => ?_)
  refine RW.alloc rfl (fun w3 hb3 hk3 hlt3 => ?_)
  have hb1' : w3.heap[w.heap.size]? = some (.cells (mfC m p q).toArray mfT (0, 0)) := hk3.at0 (hk2.at0 hb1)
  have hb2' : w3.heap[w1.heap.size]? = some (.cells (npC y).toArray ndT (0, 0)) := hk3.at0 hb2
  clear hb1 hb2
  have hK3 := (hk1.trans0 hk2).trans0 hk3
  have hz1 := hk1.size
  have hz2 := hk2.size
  have hz3 := hk3.size
  repeat' (first | (refine CL.seq ?_) | (refine CL.region ?_) | (refine Gt.nil ?_; refine RW.nilw [0, 1, 2, 3, 4, 5, 6, 32] ?_; dsimp only [H.keep, H.look, H.Fr.put, Nat.beq]) | (refine Gt.load ?_; (refine RW.y (Y.loadB rfl (by assumption) rfl) rfl ?_)) | (refine Gt.fieldAddr ?_; refine RW.y (Y.fieldAddr rfl (by rfl)) rfl ?_) | (refine Gt.assign ?_; refine RW.y (Y.assign rfl) rfl ?_))
  refine RW.fn rfl rfl ((has q L y.d.name w3 (hq.keep0 hK3) (by omega)).mono ?_)
  rintro e w4 ⟨hk4, rfl⟩
  rw [hL]
  have hK4 := hK3.trans0 hk4
  have hb14 := hk4.at0 hb1'
  have hb24 := hk4.at0 hb2'
  have hbF := hk4.at0 hb3
  have hKF := hK4
  have hsq := (hq.keep0 hK4).1
  repeat' (first | (refine CL.seq ?_) | (refine CL.region ?_) | (refine Gt.nil ?_; refine RW.nilw [0, 1, 2, 3, 4, 5, 6, 32] ?_; dsimp only [H.keep, H.look, H.Fr.put, Nat.beq]) | (refine Gt.load ?_; (refine RW.y (Y.loadB rfl (by assumption) rfl) rfl ?_)) | (refine Gt.fieldAddr ?_; refine RW.y (Y.fieldAddr rfl (by rfl)) rfl ?_) | (refine Gt.assign ?_; refine RW.y (Y.assign rfl) rfl ?_))
  refine RW.fn rfl rfl ((Lk.name y.d.name (by omega) w4).mono ?_)
  rintro e w' ⟨rfl, rfl⟩
  cases hn : Lk.nameB y.d.name with
  | false =>
    have hno : addB m y.d = (zeroM, 62) := if_neg fun c => by rw [hn] at c; cases c.1
    repeat' (first | (refine CL.seq ?_) | (refine CL.region ?_) | (refine CL.condT rfl ?_) | (refine Gt.nil ?_; refine RW.nilw [0, 1, 2, 3, 4, 5, 6, 32] ?_; dsimp only [H.keep, H.look, H.Fr.put, Nat.beq]) | (refine Gt.guard ?_; first | (refine RW.off1 rfl rfl rfl rfl rfl ?_) | (refine RW.offu rfl rfl rfl rfl ?_)) | (refine Gt.move ?_; refine RW.y (Y.move rfl) rfl ?_) | (refine Gt.pick ?_; (refine RW.y (Y.pickT rfl rfl) rfl ?_)) | (refine Gt.not ?_; (refine RW.y (Y.notb rfl) rfl ?_)) | (refine RW.y (Y.build (ps := []) rfl rfl) rfl ?_))
    rw [hno]
    refine RW.storeBlock (u := (mfC zeroM (.slice none 0 0) (.slice none 0 0)).toArray) rfl rfl rfl zeroCells hbF rfl (fun wq hbq hkq => ?_)
    repeat' (first | (refine CL.ret ?_) | (refine Gt.nil ?_; refine RW.nilw [0, 1, 2, 3, 4, 5, 6, 32] ?_; dsimp only [H.keep, H.look, H.Fr.put, Nat.beq]) | (refine Gt.assign ?_; refine RW.y (Y.assign rfl) rfl ?_))
    exact FQ.res (rs := [.cell 4 28, .tmp 5]) (vs := [_, _]) rfl rfl ⟨⟨_, rfl, load_block hbq rfl⟩, rfl, trivial⟩ rfl (⟨hKF.trans hkq fun k h => .inr (by have h' : k = w2.heap.size := h; omega), _, _, [], rfl, zeroR _ _ _ _ _⟩)
  | true =>
    by_cases hne : y.d.name = m.name
    · have hno : addB m y.d = (zeroM, 62) := if_neg fun c => c.2.1 hne
      repeat' (first | (refine CL.seq ?_) | (refine CL.region ?_) | (refine CL.condT rfl ?_) | (refine Gt.nil ?_; refine RW.nilw [0, 1, 2, 3, 4, 5, 6, 32] ?_; dsimp only [H.keep, H.look, H.Fr.put, Nat.beq]) | (refine RW.y (Y.eqsE (c := true) rfl rfl (decide_eq_true hne)) rfl ?_) | (refine Gt.load ?_; (refine RW.y (Y.loadB rfl (by assumption) rfl) rfl ?_)) | (refine Gt.guard ?_; first | (refine RW.on rfl rfl rfl ?_) | (refine RW.off1 rfl rfl rfl rfl rfl ?_) | (refine RW.offu rfl rfl rfl rfl ?_)) | (refine Gt.fieldAddr ?_; refine RW.y (Y.fieldAddr rfl (by rfl)) rfl ?_) | (refine Gt.move ?_; refine RW.y (Y.move rfl) rfl ?_) | (refine Gt.pick ?_; first | (refine RW.y (Y.pickT rfl rfl) rfl ?_) | (refine RW.y (Y.pickF rfl rfl) rfl ?_)) | (refine Gt.not ?_; (refine RW.y (Y.notb rfl) rfl ?_)) | (refine RW.y (Y.build (ps := []) rfl rfl) rfl ?_))
      rw [hno]
      refine RW.storeBlock (u := (mfC zeroM (.slice none 0 0) (.slice none 0 0)).toArray) rfl rfl rfl zeroCells hbF rfl (fun wq hbq hkq => ?_)
      repeat' (first | (refine CL.ret ?_) | (refine Gt.nil ?_; refine RW.nilw [0, 1, 2, 3, 4, 5, 6, 32] ?_; dsimp only [H.keep, H.look, H.Fr.put, Nat.beq]) | (refine Gt.assign ?_; refine RW.y (Y.assign rfl) rfl ?_))
      exact FQ.res (rs := [.cell 4 28, .tmp 5]) (vs := [_, _]) rfl rfl ⟨⟨_, rfl, load_block hbq rfl⟩, rfl, trivial⟩ rfl (⟨hKF.trans hkq fun k h => .inr (by have h' : k = w2.heap.size := h; omega), _, _, [], rfl, zeroR _ _ _ _ _⟩)
    · have hb0 : decide (y.d.name = m.name) = false := decide_eq_false hne
      obtain ⟨b, hb⟩ : ∃ b, hasN m.needs y.d.name = b := ⟨_, rfl⟩
      rw [hb]
      have hmain : (hasN m.needs y.d.name = true ∨ m.needs.length < 20) → addB m y.d = (sortM ⟨m.name, m.v, (remB m y.d.name).needs ++ [y.d]⟩, 0) := fun c => if_pos ⟨hn, hne, c⟩
      have hok : (hasN m.needs y.d.name = true ∨ m.needs.length < 20) → (remB m y.d.name).needs.length < 20 := fun c => by
        cases hh : hasN m.needs y.d.name with
        | true => have := rem_num m y.d.name hh; omega
        | false =>
          rw [rem_not m _ hh]
          rcases c with c | c
          · rw [hh] at c; cases c
          · exact c
      cases b with
      | false =>
        repeat' (first | (refine CL.seq ?_) | (refine CL.region ?_) | (refine CL.skip ?_) | (refine CL.condP rfl (fun _ => ?_) (fun _ => ?_) <;> try (exfalso; omega)) | (refine Gt.nil ?_; refine RW.nilw [0, 1, 2, 3, 4, 5, 6, 32] ?_; dsimp only [H.keep, H.look, H.Fr.put, Nat.beq]) | (refine RW.y (Y.eqsE (c := false) rfl rfl hb0) rfl ?_) | (refine Gt.load ?_; first | (refine RW.y (Y.loadB rfl (by assumption) rfl) rfl ?_) | (refine RW.y (Y.loadBlock rfl (by assumption) rfl) rfl ?_)) | (refine Gt.guard ?_; (refine RW.on rfl rfl rfl ?_)) | (refine Gt.fieldAddr ?_; refine RW.y (Y.fieldAddr rfl (by rfl)) rfl ?_) | (refine Gt.move ?_; refine RW.y (Y.move rfl) rfl ?_) | (refine Gt.pick ?_; first | (refine RW.y (Y.pickT rfl rfl) rfl ?_) | (refine RW.y (Y.pickF rfl rfl) rfl ?_)) | (refine Gt.not ?_; (refine RW.y (Y.notb rfl) rfl ?_)) | (refine Gt.len ?_; (refine RW.y (Y.lenx rfl (by assumption)) rfl ?_)) | (refine Gt.geq ?_; refine RW.y (Y.geq rfl rfl) rfl ?_) | (refine RW.y (Y.build (ps := []) rfl rfl) rfl ?_))
        · have hno : addB m y.d = (zeroM, 62) := if_neg fun c => by rcases c.2.2 with c | c; (· rw [hb] at c; cases c); omega
          rw [hno]
          refine RW.storeBlock (u := (mfC zeroM (.slice none 0 0) (.slice none 0 0)).toArray) rfl rfl rfl zeroCells hbF rfl (fun wq hbq hkq => ?_)
          repeat' (first | (refine CL.ret ?_) | (refine Gt.nil ?_; refine RW.nilw [0, 1, 2, 3, 4, 5, 6, 32] ?_; dsimp only [H.keep, H.look, H.Fr.put, Nat.beq]) | (refine Gt.assign ?_; refine RW.y (Y.assign rfl) rfl ?_))
          exact FQ.res (rs := [.cell 4 28, .tmp 5]) (vs := [_, _]) rfl rfl ⟨⟨_, rfl, load_block hbq rfl⟩, rfl, trivial⟩ rfl (⟨hKF.trans hkq fun k h => .inr (by have h' : k = w2.heap.size := h; omega), _, _, [], rfl, zeroR _ _ _ _ _⟩)
        · have hc : hasN m.needs y.d.name = true ∨ m.needs.length < 20 := .inr (by omega)
          refine RW.fn rfl rfl ((removeL m p q L y.d.name w4 (hp.keep0 hK4) (hq.keep0 hK4) hL (by omega)).mono ?_)
          rintro e w5 ⟨hk5, u, rfl, hu⟩
          have hlr := hok hc
          have hkl : (keepN y.d.name L).length = (remB m y.d.name).needs.length := by have := congrArg List.length (keepN_map y.d.name L); rw [List.length_map, hL] at this; exact this
          have hz4 := hk4.size
          have hz5 := hk5.size
          have hlo : ∀ x ∈ L, ∀ g, x.A g → g < w.heap.size := fun x hx => (hq.2 x hx).2
          repeat' (first | (refine Gt.move ?_; refine RW.y (Y.move rfl) rfl ?_) | (refine Gt.extract ?_; refine RW.y (Y.extract rfl rfl) rfl ?_))
          refine RW.storeBlock rfl rfl rfl (mfCells _ hp.one hu.ga.1.one) (hk5.at0 hb14) rfl (fun w6 hb6 hk6 => ?_)
          have hb26 := hk6.at (hk5.at0 hb24) (fun c => by have c' : w1.heap.size = w.heap.size := c; omega)
          have hb36 := hk6.at (hk5.at0 hbF) (fun c => by have c' : w2.heap.size = w.heap.size := c; omega)
          have hu6 : GI ndK w6 w4.heap.size ndT u (keepN y.d.name L) := hu.keep hk6 fun j _ hj c => by
            have c' : j = w.heap.size := c
            rcases hj with hj | ⟨x, hx, hj⟩
            · have := (hu.lt j hj).1; omega
            · have := hlo x (List.mem_filter.1 hx).1 j hj; omega
          have hK6 : K0 w w6 := (hK4.trans0 hk5).trans hk6 fun k c => .inr (by have c' : k = w.heap.size := c; omega)
          have hy6 := ndK.keep0 hy hK6
          have hz6 := hk6.size
          repeat' (first | (refine CL.seq ?_) | (refine CL.region ?_) | (refine Gt.nil ?_; refine RW.nilw [0, 1, 2, 3, 4, 5, 6, 32] ?_; dsimp only [H.keep, H.look, H.Fr.put, Nat.beq]) | (refine RW.y (Y.loadBlock rfl hb26 rfl) rfl ?_) | (refine Gt.load ?_; (refine RW.y (Y.loadB rfl (by assumption) rfl) rfl ?_)) | (refine Gt.fieldAddr ?_; refine RW.y (Y.fieldAddr rfl (by rfl)) rfl ?_))
          refine RW.appG ndK y rfl rfl rfl rfl hu6 rfl rfl rfl rfl hy6 (fun g hg c => by have := hy.2 g hg; have := (hu6.lt g c).1; omega) (by omega) (by omega) rfl (fun u' w7 hG7 hk7 hl7 => ?_)
          have hK67 : K0 w w7 := hK6.trans hk7 fun k c => .inr (by have := (hu6.lt k c).1; omega)
          have hb17 := hk7.at hb6 fun c => by have := (hu6.lt _ c).1; omega
          have hb37 := hk7.at hb36 fun c => by have := (hu6.lt _ c).1; omega
          have hz7 := hk7.size
          skip
          refine RW.fn rfl rfl ((sorted u' _ w7 hG7.ga (by rw [List.length_append, List.length_singleton]; omega)).mono ?_)
          rintro e w8 ⟨hk8, u8, rfl, hu8⟩
          have hz8 := hk8.size
          repeat' ((refine Gt.fieldAddr ?_; refine RW.y (Y.fieldAddr rfl (by rfl)) rfl ?_))
          refine RW.storeB rfl rfl hu8.ga.1.one (hk8.at0 hb17) (by show 5 < 6; omega) (fun w9 hb9 hk9 => ?_)
          have hb9' : w9.heap[w.heap.size]? = some (.cells (mfC (sortM ⟨m.name, m.v, (remB m y.d.name).needs ++ [y.d]⟩) p u8).toArray mfT (0, 0)) := hb9
          have hb39 := hk9.at (hk8.at0 hb37) (fun c => by have c' : w2.heap.size = w.heap.size := c; omega)
          repeat' (first | (refine CL.seq ?_) | (refine CL.region ?_) | (refine Gt.nil ?_; refine RW.nilw [0, 1, 2, 3, 4, 5, 6, 32] ?_; dsimp only [H.keep, H.look, H.Fr.put, Nat.beq]) | (refine RW.y (Y.loadBlock rfl hb9' rfl) rfl ?_))
          refine RW.storeBlock rfl rfl rfl (mfCells _ hp.one hu8.ga.1.one) hb39 rfl (fun w10 hb10 hk10 => ?_)
          repeat' (first | (refine CL.ret ?_) | (refine Gt.nil ?_; refine RW.nilw [0, 1, 2, 3, 4, 5, 6, 32] ?_; dsimp only [H.keep, H.look, H.Fr.put, Nat.beq]) | (refine Gt.assign ?_; refine RW.y (Y.assign rfl) rfl ?_))
          have hKl : Kept (fun k => k = w.heap.size ∨ k = w2.heap.size) w8 w10 := (hk9.mono fun k c => .inl c).trans hk10 fun k c => .inl (.inr c)
          have hK10 : K0 w w10 := (hK67.trans0 hk8).trans hKl fun k c => .inr (by omega)
          rw [hmain hc]
          refine FQ.res (rs := [.cell 4 28, .tmp 5]) (vs := [_, _]) rfl rfl ⟨⟨_, rfl, load_block hb10 rfl⟩, rfl, trivial⟩ rfl (⟨hK10, p, u8, sortN nmN (keepN y.d.name L ++ [y]), rfl, hp.keep0 hK10, ?_, ?_, (fun g hg => hg), (fun g hg => ?_), (fun z hz => ?_)⟩)
          · refine (hu8.keep hKl fun j _ hj c => ?_).ga
            rcases hj with hj | ⟨x, hx, hj⟩
            · have := (hu8.lt j hj).1; omega
            · rcases List.mem_append.1 ((sortN_mem nmN _ x).1 hx) with hx | hx
              · have := hlo x (List.mem_filter.1 hx).1 j hj; omega
              · rw [List.mem_singleton.1 hx] at hj; have := hy.2 j hj; omega
          · rw [show (sortN nmN (keepN y.d.name L ++ [y])).map (·.d) = sortN nmD ((keepN y.d.name L ++ [y]).map (·.d)) from sortN_map nmD (fun z : Np => z.d) _, List.map_append, keepN_map, hL]; rfl
          · have := (hu8.lt g (live_own hg)).1
            have := hK67.size
            omega
          · rcases List.mem_append.1 ((sortN_mem nmN _ z).1 hz) with hz | hz
            · exact .inl (List.mem_filter.1 hz).1
            · exact .inr (List.mem_singleton.1 hz)
      | true =>
        have hc : hasN m.needs y.d.name = true ∨ m.needs.length < 20 := .inl hb
        repeat' (first | (refine CL.seq ?_) | (refine CL.region ?_) | (refine CL.skip ?_) | (refine CL.condF rfl ?_) | (refine Gt.nil ?_; refine RW.nilw [0, 1, 2, 3, 4, 5, 6, 32] ?_; dsimp only [H.keep, H.look, H.Fr.put, Nat.beq]) | (refine RW.y (Y.eqsE (c := false) rfl rfl hb0) rfl ?_) | (refine Gt.load ?_; first | (refine RW.y (Y.loadB rfl (by assumption) rfl) rfl ?_) | (refine RW.y (Y.loadBlock rfl (by assumption) rfl) rfl ?_)) | (refine Gt.guard ?_; first | (refine RW.on rfl rfl rfl ?_) | (refine RW.off1 rfl rfl rfl rfl rfl ?_)) | (refine Gt.fieldAddr ?_; refine RW.y (Y.fieldAddr rfl (by rfl)) rfl ?_) | (refine Gt.move ?_; refine RW.y (Y.move rfl) rfl ?_) | (refine Gt.pick ?_; (refine RW.y (Y.pickF rfl rfl) rfl ?_)) | (refine Gt.not ?_; (refine RW.y (Y.notb rfl) rfl ?_)))
        refine RW.fn rfl rfl ((removeL m p q L y.d.name w4 (hp.keep0 hK4) (hq.keep0 hK4) hL (by omega)).mono ?_)
        rintro e w5 ⟨hk5, u, rfl, hu⟩
        have hlr := hok hc
        have hkl : (keepN y.d.name L).length = (remB m y.d.name).needs.length := by have := congrArg List.length (keepN_map y.d.name L); rw [List.length_map, hL] at this; exact this
        have hz4 := hk4.size
        have hz5 := hk5.size
        have hlo : ∀ x ∈ L, ∀ g, x.A g → g < w.heap.size := fun x hx => (hq.2 x hx).2
        repeat' (first | (refine Gt.move ?_; refine RW.y (Y.move rfl) rfl ?_) | (refine Gt.extract ?_; refine RW.y (Y.extract rfl rfl) rfl ?_))
        refine RW.storeBlock rfl rfl rfl (mfCells _ hp.one hu.ga.1.one) (hk5.at0 hb14) rfl (fun w6 hb6 hk6 => ?_)
        have hb26 := hk6.at (hk5.at0 hb24) (fun c => by have c' : w1.heap.size = w.heap.size := c; omega)
        have hb36 := hk6.at (hk5.at0 hbF) (fun c => by have c' : w2.heap.size = w.heap.size := c; omega)
        have hu6 : GI ndK w6 w4.heap.size ndT u (keepN y.d.name L) := hu.keep hk6 fun j _ hj c => by
          have c' : j = w.heap.size := c
          rcases hj with hj | ⟨x, hx, hj⟩
          · have := (hu.lt j hj).1; omega
          · have := hlo x (List.mem_filter.1 hx).1 j hj; omega
        have hK6 : K0 w w6 := (hK4.trans0 hk5).trans hk6 fun k c => .inr (by have c' : k = w.heap.size := c; omega)
        have hy6 := ndK.keep0 hy hK6
        have hz6 := hk6.size
        repeat' (first | (refine CL.seq ?_) | (refine CL.region ?_) | (refine Gt.nil ?_; refine RW.nilw [0, 1, 2, 3, 4, 5, 6, 32] ?_; dsimp only [H.keep, H.look, H.Fr.put, Nat.beq]) | (refine RW.y (Y.loadBlock rfl hb26 rfl) rfl ?_) | (refine Gt.load ?_; (refine RW.y (Y.loadB rfl (by assumption) rfl) rfl ?_)) | (refine Gt.fieldAddr ?_; refine RW.y (Y.fieldAddr rfl (by rfl)) rfl ?_))
        refine RW.appG ndK y rfl rfl rfl rfl hu6 rfl rfl rfl rfl hy6 (fun g hg c => by have := hy.2 g hg; have := (hu6.lt g c).1; omega) (by omega) (by omega) rfl (fun u' w7 hG7 hk7 hl7 => ?_)
        have hK67 : K0 w w7 := hK6.trans hk7 fun k c => .inr (by have := (hu6.lt k c).1; omega)
        have hb17 := hk7.at hb6 fun c => by have := (hu6.lt _ c).1; omega
        have hb37 := hk7.at hb36 fun c => by have := (hu6.lt _ c).1; omega
        have hz7 := hk7.size
        skip
        refine RW.fn rfl rfl ((sorted u' _ w7 hG7.ga (by rw [List.length_append, List.length_singleton]; omega)).mono ?_)
        rintro e w8 ⟨hk8, u8, rfl, hu8⟩
        have hz8 := hk8.size
        repeat' ((refine Gt.fieldAddr ?_; refine RW.y (Y.fieldAddr rfl (by rfl)) rfl ?_))
        refine RW.storeB rfl rfl hu8.ga.1.one (hk8.at0 hb17) (by show 5 < 6; omega) (fun w9 hb9 hk9 => ?_)
        have hb9' : w9.heap[w.heap.size]? = some (.cells (mfC (sortM ⟨m.name, m.v, (remB m y.d.name).needs ++ [y.d]⟩) p u8).toArray mfT (0, 0)) := hb9
        have hb39 := hk9.at (hk8.at0 hb37) (fun c => by have c' : w2.heap.size = w.heap.size := c; omega)
        repeat' (first | (refine CL.seq ?_) | (refine CL.region ?_) | (refine Gt.nil ?_; refine RW.nilw [0, 1, 2, 3, 4, 5, 6, 32] ?_; dsimp only [H.keep, H.look, H.Fr.put, Nat.beq]) | (refine RW.y (Y.loadBlock rfl hb9' rfl) rfl ?_))
        refine RW.storeBlock rfl rfl rfl (mfCells _ hp.one hu8.ga.1.one) hb39 rfl (fun w10 hb10 hk10 => ?_)
        repeat' (first | (refine CL.ret ?_) | (refine Gt.nil ?_; refine RW.nilw [0, 1, 2, 3, 4, 5, 6, 32] ?_; dsimp only [H.keep, H.look, H.Fr.put, Nat.beq]) | (refine Gt.assign ?_; refine RW.y (Y.assign rfl) rfl ?_))
        have hKl : Kept (fun k => k = w.heap.size ∨ k = w2.heap.size) w8 w10 := (hk9.mono fun k c => .inl c).trans hk10 fun k c => .inl (.inr c)
        have hK10 : K0 w w10 := (hK67.trans0 hk8).trans hKl fun k c => .inr (by omega)
        rw [hmain hc]
        refine FQ.res (rs := [.cell 4 28, .tmp 5]) (vs := [_, _]) rfl rfl ⟨⟨_, rfl, load_block hb10 rfl⟩, rfl, trivial⟩ rfl (⟨hK10, p, u8, sortN nmN (keepN y.d.name L ++ [y]), rfl, hp.keep0 hK10, ?_, ?_, (fun g hg => hg), (fun g hg => ?_), (fun z hz => ?_)⟩)
        · refine (hu8.keep hKl fun j _ hj c => ?_).ga
          rcases hj with hj | ⟨x, hx, hj⟩
          · have := (hu8.lt j hj).1; omega
          · rcases List.mem_append.1 ((sortN_mem nmN _ x).1 hx) with hx | hx
            · have := hlo x (List.mem_filter.1 hx).1 j hj; omega
            · rw [List.mem_singleton.1 hx] at hj; have := hy.2 j hj; omega
        · rw [show (sortN nmN (keepN y.d.name L ++ [y])).map (·.d) = sortN nmD ((keepN y.d.name L ++ [y]).map (·.d)) from sortN_map nmD (fun z : Np => z.d) _, List.map_append, keepN_map, hL]; rfl
        · have := (hu8.lt g (live_own hg)).1
          have := hK67.size
          omega
        · rcases List.mem_append.1 ((sortN_mem nmN _ z).1 hz) with hz | hz
          · exact .inl (List.mem_filter.1 hz).1
          · exact .inr (List.mem_singleton.1 hz)
theorem AddR.p {o : Mf × Int} {p : Value} {L : List Np} {y : Np} {w w' : World} {e : Ending} (h : AddR o p L y w e w') : AddP o w e w' := by
  obtain ⟨hk, p', q', L', rfl, h1, h2, h3, _⟩ := h
  exact ⟨hk, _, rfl, p', q', L', rfl, h1, h2, h3⟩
theorem add (V : Value) (m : Mf) (y : Np) (w : World) (hV : MfAt w V m) (hy : ndK.D w y) (h20 : m.needs.length ≤ 20) (hnl : y.d.name.length ≤ 1000000) : Calls Tryz.prog 23 #[V, .agg (npC y).toArray] w (AddP (addB m y.d) w) := by
  obtain ⟨p, q, L, rfl, hp, hq, hL⟩ := hV
  exact (addL m p q L y w hp hq hL hy h20 hnl).mono fun e w' h => h.p
end Go.Proofs.YtjlkmdmpejpmpaaGreatDoor.Ma

namespace Go.Proofs.YtjlkmdmpejpmpaaGreatDoor.Ma
open Go.RowKit H S Ve Sp Od
attribute [local irreducible] H.CL H.RW H.CW H.Yd H.thenK H.blockQ Go.Calls

end Go.Proofs.YtjlkmdmpejpmpaaGreatDoor.Ma

namespace Go.Proofs.YtjlkmdmpejpmpaaGreatDoor.Ma
open Go.RowKit H S Ve Sp Od
attribute [local irreducible] H.CL H.RW H.CW H.Yd H.thenK H.blockQ Go.Calls

theorem text_cells {l : List T} : ∀ v ∈ sv l, v.cells.size = 1 := by
  intro v hv
  obtain ⟨x, _, rfl⟩ := List.mem_map.1 hv
  rfl
def nameK (k : UInt8) : T := [UInt8.ofNat (97 + k.toNat % 6)]
def spanL : List T := [[42], [94, 49, 46, 48, 46, 48], [126, 49, 46, 48, 46, 48], [62, 61, 49, 46, 49, 46, 48], [50, 46, 48, 46, 48], [60, 50, 46, 48, 46, 48], [94, 48, 46, 51, 46, 48], [62, 61, 49, 46, 48, 46, 48, 45, 97, 32, 60, 49, 46, 48, 46, 48, 32, 124, 124, 32, 50, 46, 48, 46, 48], [49, 46, 48, 46, 48, 45, 120, 46, 49], [42]]
def spanK (k : UInt8) : T := spanL.getD (k.toNat % 10) []
theorem name_cut (n : Nat) (h : n < 6) : (([97, 98, 99, 100, 101, 102] : T).take (n + 1)).drop n = [UInt8.ofNat (97 + n)] := by
  have : n = 0 ∨ n = 1 ∨ n = 2 ∨ n = 3 ∨ n = 4 ∨ n = 5 := by omega
  rcases this with rfl | rfl | rfl | rfl | rfl | rfl <;> rfl
theorem seatName (k : UInt8) (w : World) : Calls Tryz.prog 43 #[vb k] w fun e w' => w = w' ∧ e = .returned (vs (nameK k)) := by
  have hk := k.toNat_lt
  have hl : ([97, 98, 99, 100, 101, 102] : T).length = 6 := rfl
  obtain ⟨n, hn⟩ : ∃ n : Nat, k.toNat % 6 = n := ⟨_, rfl⟩
  have en : (k.toNat : Int) % 6 = (n : Int) := by omega
  refine H.enter Tryz.func43 Tryz.ntmps43 rfl rfl ?_; dsimp only [H.args]
  repeat' (first | (refine CL.seq ?_) | (refine CL.region ?_) | (refine CL.skip ?_) | (refine CL.condP rfl (fun _ => ?_) (fun _ => ?_) <;> try (exfalso; omega)) | (refine CL.condT rfl ?_) | (refine CL.condF rfl ?_) | (refine CL.cond rfl (fun _ => ?_) (fun _ => ?_)) | (refine CL.block ?_) | (refine CL.exit ?_) | (refine Ex.then ?_) | (refine Ex.hit ?_) | (refine Ex.miss rfl ?_) | (refine CL.ret ?_) | (refine Rt.then ?_) | (refine Rt.block ?_) | (refine Pn.then ?_) | (refine Pn.block ?_) | (refine CL.done ?_) | (refine Nm.block ?_) | (refine Nm.then ?_) | (refine Gt.nil ?_; refine RW.nilw [0, 2] ?_; dsimp only [H.keep, H.look, H.Fr.put, Nat.beq]) | (refine Gt.assign ?_; refine RW.y (Y.assign rfl) rfl ?_) | (refine Gt.move ?_; refine RW.y (Y.move rfl) rfl ?_) | (refine Gt.rem ?_; first | (refine RW.y (Y.remP rfl rfl (by omega) (by omega)) rfl ?_) | (refine RW.y (Y.rem rfl rfl (by omega)) rfl ?_)) | (refine Gt.add ?_; refine RW.y (Y.addN rfl rfl (by first | exact wrap64_id (by omega) (by omega) | exact wrapu64_id (by omega) (by omega) | exact wrapu8_id (by omega) (by omega) | exact wrapu16_id (by omega) (by omega) | exact wrapu32_id (by omega) (by omega))) rfl ?_) | (refine Gt.slice ?_; refine RW.y (Y.cutlh rfl rfl rfl (by omega) (by omega) (by omega)) rfl ?_))
  refine FQ.one rfl rfl rfl ⟨rfl, ?_⟩
  rw [en, show ((n : Int) + 1).toNat = n + 1 from by omega, Int.toNat_natCast, name_cut n (by omega), nameK, hn]
theorem seatSpan (k : UInt8) (w : World) : Calls Tryz.prog 44 #[vb k] w fun e w' => K0 w w' ∧ e = .returned (vs (spanK k)) := by
  have hk := k.toNat_lt
  have hl : spanL.length = 10 := rfl
  have en : ((k.toNat : Int) % 10).toNat = k.toNat % 10 := by omega
  refine H.enter Tryz.func44 Tryz.ntmps44 rfl rfl ?_; dsimp only [H.args]
  repeat' (first | (refine CL.seq ?_) | (refine CL.region ?_) | (refine CL.skip ?_) | (refine CL.condP rfl (fun _ => ?_) (fun _ => ?_) <;> try (exfalso; omega)) | (refine CL.condT rfl ?_) | (refine CL.condF rfl ?_) | (refine CL.cond rfl (fun _ => ?_) (fun _ => ?_)) | (refine CL.block ?_) | (refine CL.exit ?_) | (refine Ex.then ?_) | (refine Ex.hit ?_) | (refine Ex.miss rfl ?_) | (refine CL.ret ?_) | (refine Rt.then ?_) | (refine Rt.block ?_) | (refine Pn.then ?_) | (refine Pn.block ?_) | (refine CL.done ?_) | (refine Nm.block ?_) | (refine Nm.then ?_) | (refine Gt.nil ?_; refine RW.nilw [0, 2] ?_; dsimp only [H.keep, H.look, H.Fr.put, Nat.beq]) | (refine Gt.assign ?_; refine RW.y (Y.assign rfl) rfl ?_) | (refine Gt.move ?_; refine RW.y (Y.move rfl) rfl ?_) | (refine Gt.rem ?_; first | (refine RW.y (Y.remP rfl rfl (by omega) (by omega)) rfl ?_) | (refine RW.y (Y.rem rfl rfl (by omega)) rfl ?_)) | (refine Gt.idx ?_; refine RW.elemS rfl rfl rfl rfl (by assumption) (by omega) (by omega) ?_) | (refine Gt.load ?_; refine RW.y (Y.loadB rfl (by assumption) rfl) rfl ?_))
  refine RW.buildL (ps := [(0, _), (1, _), (2, _), (3, _), (4, _), (5, _), (6, _), (7, _), (8, _), (9, _)]) (l := sv spanL) rfl rfl rfl text_cells rfl rfl (fun w1 hb1 hk1 hlt1 => ?_)
  have hs1 : Sl w1 1 (.slice (some ⟨w.heap.size, 0, none⟩) 10 10) spanL.length (sv spanL) := sl_new hb1 rfl (by decide)
  repeat' (first | (refine CL.seq ?_) | (refine CL.region ?_) | (refine CL.skip ?_) | (refine CL.condP rfl (fun _ => ?_) (fun _ => ?_) <;> try (exfalso; omega)) | (refine CL.condT rfl ?_) | (refine CL.condF rfl ?_) | (refine CL.cond rfl (fun _ => ?_) (fun _ => ?_)) | (refine CL.block ?_) | (refine CL.exit ?_) | (refine Ex.then ?_) | (refine Ex.hit ?_) | (refine Ex.miss rfl ?_) | (refine CL.ret ?_) | (refine Rt.then ?_) | (refine Rt.block ?_) | (refine Pn.then ?_) | (refine Pn.block ?_) | (refine CL.done ?_) | (refine Nm.block ?_) | (refine Nm.then ?_) | (refine Gt.nil ?_; refine RW.nilw [0, 2] ?_; dsimp only [H.keep, H.look, H.Fr.put, Nat.beq]) | (refine Gt.assign ?_; refine RW.y (Y.assign rfl) rfl ?_) | (refine Gt.move ?_; refine RW.y (Y.move rfl) rfl ?_) | (refine Gt.rem ?_; first | (refine RW.y (Y.remP rfl rfl (by omega) (by omega)) rfl ?_) | (refine RW.y (Y.rem rfl rfl (by omega)) rfl ?_)) | (refine Gt.idx ?_; refine RW.elemS rfl rfl rfl rfl (by assumption) (by omega) (by omega) ?_) | (refine Gt.load ?_; refine RW.y (Y.loadB rfl (by assumption) rfl) rfl ?_))
  rw [en]
  exact FQ.one rfl rfl rfl ⟨hk1, rfl⟩
end Go.Proofs.YtjlkmdmpejpmpaaGreatDoor.Ma

namespace Go.Proofs.YtjlkmdmpejpmpaaGreatDoor.Ma
open Go.Proofs.YtjlkmdmpejpmpaaGreatDoor.S Go.Proofs.YtjlkmdmpejpmpaaGreatDoor.Ve Go.Proofs.YtjlkmdmpejpmpaaGreatDoor.Sp Go.Proofs.YtjlkmdmpejpmpaaGreatDoor.Od
open Go
/-- The need that a number stands for. -/
def ndOf (n k : UInt8) : Nd := ⟨nameK n, (spanR (spanB (spanK k))).1, spanK k⟩
theorem spans_ok : spanL.all (fun t => (spanB t).isSome && decide ((10 : UInt8) ∉ t) && decide (t.length ≤ 100)) = true := by decide +kernel
theorem span_mem (k : UInt8) : spanK k ∈ spanL := by
  have : k.toNat % 10 < spanL.length := Nat.mod_lt _ (by decide)
  rw [spanK, List.getD_eq_getElem?_getD, List.getElem?_eq_getElem this]
  exact List.getElem_mem _
theorem names_ok : (List.range 6).all (fun i => Lk.nameB [UInt8.ofNat (97 + i)] && decide (([UInt8.ofNat (97 + i)] : T) ≠ [109, 101])) = true := by decide +kernel
theorem ndOf_ok (n k : UInt8) : OkD [109, 101] (ndOf n k) := by
  have h1 := List.all_eq_true.1 spans_ok _ (span_mem k)
  have h2 := List.all_eq_true.1 names_ok (n.toNat % 6) (List.mem_range.2 (Nat.mod_lt _ (by decide)))
  simp only [Bool.and_eq_true, decide_eq_true_eq] at h1 h2
  obtain ⟨x, hx⟩ := Option.isSome_iff_exists.1 h1.1.1
  exact ⟨h2.1, by show spanB (spanK k) = some (spanR (spanB (spanK k))).1; rw [hx]; rfl, h1.1.2, by show (spanK k).length ≤ 3000; omega, h2.2⟩
end Go.Proofs.YtjlkmdmpejpmpaaGreatDoor.Ma

namespace Go.Proofs.YtjlkmdmpejpmpaaGreatDoor.Ma
open Go.RowKit H S Ve Sp Od
attribute [local irreducible] H.CL H.RW H.CW H.Yd H.thenK H.blockQ Go.Calls

def u16L (l : List Nat) : List Value := l.map fun n : Nat => Value.int .u16 (n : Int)
def needOf (n : Nat) : Nd := ndOf (UInt8.ofNat (n % 6)) (UInt8.ofNat (n / 6 % 10))
def putNd (d : Nd) (l : List Nd) : List Nd := if hasN l d.name = true then l else insN nmD d l
def needsOf (l : List Nat) : List Nd := l.foldl (fun acc n => putNd (needOf n) acc) []
theorem needsOf_snoc (l : List Nat) (n : Nat) : needsOf (l ++ [n]) = putNd (needOf n) (needsOf l) := by rw [needsOf, List.foldl_append]; rfl
theorem vb_nat {a : Nat} (h : a < 256) : Value.int .u8 (a : Int) = vb (UInt8.ofNat a) := by
  rw [vb, UInt8.toNat_ofNat', Nat.mod_eq_of_lt (by omega)]
theorem spnCells {a : Bool} {p : Value} (h : p.oneCell' = true) : ∀ z ∈ (#[.bool a, p] : Array Value).toList, z.oneCell' = true := by
  intro z hz
  simp at hz
  rcases hz with rfl | rfl
  · rfl
  · exact h
section
variable {P : Program} {f : Fr} {w : World} {d : Nat} {ty : TypeId} {pos : String} {af : Array Edge}
theorem Y.convE {s t : TypeId} {x : Operand} {k k1 : IntKind} {a : Int} {u : Value} {ds : TypeDesc} [hs : Und P s ds] [h1 : Und P t (.int k)] (hx : f.ev x = some (.int k1 a)) (hu : Value.int k (k.wrap a) = u) : Yd P f (op1 d (.convert s t x) ty pos af) u w := by
  rw [← hu]; exact Y.convW hx
end
set_option maxHeartbeats 2000000 in
theorem seatNeeds (v : Value) (l : List Nat) (w : World) (hv : Sl w 1 v l.length (u16L l)) (hl : l.length ≤ 1000) (hn : ∀ n ∈ l, n < 65536) : Calls Tryz.prog 18 #[v] w fun e w' => K0 w w' ∧ ∃ (u : Value) (L : List Np), e = .returned u ∧ GA ndK w' u L ∧ L.map (·.d) = needsOf l ∧ SrtN nmN L ∧ L.length ≤ l.length ∧ (∀ g, live u = some g → w.heap.size ≤ g) ∧ ∀ x ∈ L, ∀ g, x.A g → w.heap.size ≤ g := by
  refine H.enter Tryz.func18 Tryz.ntmps18 rfl rfl ?_; dsimp only [H.args]
  repeat' (first | (refine CL.seq ?_) | (refine CL.region ?_) | (refine CL.block ?_) | (refine Gt.nil ?_; refine RW.nilw [0, 2, 3, 4, 5, 6, 7, 9, 13, 48, 63] ?_; dsimp only [H.keep, H.look, H.Fr.put, Nat.beq]) | (refine Gt.assign ?_; refine RW.y (Y.assign rfl) rfl ?_))
  refine CL.loopS [0, 3, 4] (fun k vals wr => ∃ (i : Nat) (u : Value) (L : List Np), vals = [v, u, .int .i64 (i : Int)] ∧ k = l.length - i ∧ i ≤ l.length ∧ GA ndK wr u L ∧ L.map (·.d) = needsOf (l.take i) ∧ SrtN nmN L ∧ L.length ≤ i ∧ (∀ g, live u = some g → w.heap.size ≤ g) ∧ (∀ x ∈ L, ∀ g, x.A g → w.heap.size ≤ g) ∧ K0 w wr) l.length ⟨_, rfl, 0, _, [], rfl, rfl, Nat.zero_le _, ⟨Sl.nil _ _, fun x hx => by cases hx⟩, rfl, List.Pairwise.nil, by simp, (fun g hg => by cases hg), (fun x hx => by cases hx), Kept.refl _ _⟩ ?_
  rintro k vals wr ⟨i, u, L, rfl, rfl, hi, hL, hLd, hsrt, hLl, hLu, hLA, hkr⟩
  dsimp only [List.zip, List.zipWith]
  have hvr := hv.keep0 hkr
  rcases Nat.lt_or_ge i l.length with hlt | hge
  · have hti : ((i : Int)).toNat = i := Int.toNat_natCast i
    have hts := take_snoc (default : Nat) l i hlt
    have hnn := hn (l.getD i default) (getD_mem default hlt)
    have hcl : ∀ w', K0 wr w' → w'.cell? (Value.spot v (((i : Int)).toNat * 1)) = some (.int .u16 ((l.getD i default : Nat) : Int)) := fun w' k => by
      rw [hti, Nat.mul_one]
      exact (hvr.keep0 k).cell (by rw [u16L, List.getElem?_map, List.getD_eq_getElem?_getD, List.getElem?_eq_getElem hlt]; rfl)
    generalize l.getD i default = n at *
    obtain ⟨c1, hc1⟩ : ∃ c, UInt8.ofNat (n % 6) = c := ⟨_, rfl⟩
    obtain ⟨c2, hc2⟩ : ∃ c, UInt8.ofNat (n / 6 % 10) = c := ⟨_, rfl⟩
    have hno : needOf n = ndOf c1 c2 := by rw [needOf, hc1, hc2]
    have hv1 : Value.int .u8 (IntKind.u8.wrap ((n : Int) % 6)) = vb c1 := by rw [wrapu8_id (by omega) (by omega), ← hc1, ← vb_nat (by omega)]; rfl
    have hv2 : Value.int .u8 (IntKind.u8.wrap ((n : Int) / 6 % 10)) = vb c2 := by rw [wrapu8_id (by omega) (by omega), ← hc2, ← vb_nat (by omega)]; rfl
    repeat' (first | (refine CL.seq ?_) | (refine CL.region ?_) | (refine CL.skip ?_) | (refine CL.condP rfl (fun _ => ?_) (fun _ => ?_) <;> try (exfalso; omega)) | (refine Gt.nil ?_; refine RW.nilw [0, 2, 3, 4, 5, 6, 7, 9, 13, 48, 63] ?_; dsimp only [H.keep, H.look, H.Fr.put, Nat.beq]) | (refine Gt.move ?_; refine RW.y (Y.move rfl) rfl ?_) | (refine Gt.len ?_; (refine RW.y (Y.lenx rfl (by assumption)) rfl ?_)) | (refine Gt.lss ?_; (refine RW.y (Y.lss rfl rfl) rfl ?_)))
    refine CL.block ?_
    repeat' ((refine CL.seq ?_))
    refine CL.draw (fun w' => K0 wr w') (by kernel_rfl) (fun wa hheap hka => ?_)
    have hS : K0 wr wa := hka
    skip
    refine AW.take 0 rfl (by kernel_rfl) (by kernel_rfl) (by kernel_rfl) rfl (by assumption) (fun w hS => Y.move rfl) ?_
    refine AW.take 1 rfl (by kernel_rfl) (by kernel_rfl) (by kernel_rfl) rfl (by assumption) (fun w hS => Y.move rfl) ?_
    refine AW.take 2 rfl (by kernel_rfl) (by kernel_rfl) (by kernel_rfl) rfl (by assumption) (fun w hS => Y.idx rfl rfl (hvr.keep0 hS) (by omega) (by omega)) ?_
    refine AW.take 3 rfl (by kernel_rfl) (by kernel_rfl) (by kernel_rfl) rfl (by assumption) (fun w hS => Y.load1 rfl (hcl _ hS)) ?_
    refine AW.take 4 rfl (by kernel_rfl) (by kernel_rfl) (by kernel_rfl) rfl (by assumption) (fun w hS => by exact Y.remP rfl rfl (by omega) (by omega)) ?_
    refine AW.take 5 rfl (by kernel_rfl) (by kernel_rfl) (by kernel_rfl) rfl (by assumption) (fun w hS => Y.convE rfl hv1) ?_
    refine AW.take 7 rfl (by kernel_rfl) (by kernel_rfl) (by kernel_rfl) rfl (by assumption) (fun w hS => Y.move rfl) ?_
    refine AW.take 8 rfl (by kernel_rfl) (by kernel_rfl) (by kernel_rfl) rfl (by assumption) (fun w hS => Y.move rfl) ?_
    refine AW.take 9 rfl (by kernel_rfl) (by kernel_rfl) (by kernel_rfl) rfl (by assumption) (fun w hS => Y.idx rfl rfl (hvr.keep0 hS) (by omega) (by omega)) ?_
    refine AW.take 10 rfl (by kernel_rfl) (by kernel_rfl) (by kernel_rfl) rfl (by assumption) (fun w hS => Y.load1 rfl (hcl _ hS)) ?_
    refine AW.take 11 rfl (by kernel_rfl) (by kernel_rfl) (by kernel_rfl) rfl (by assumption) (fun w hS => Y.quoP rfl rfl (by omega) (by omega) (wrapu16_id (by omega) (by omega))) ?_
    refine AW.take 12 rfl (by kernel_rfl) (by kernel_rfl) (by kernel_rfl) rfl (by assumption) (fun w hS => by exact Y.remP rfl rfl (by omega) (by omega)) ?_
    refine AW.take 13 rfl (by kernel_rfl) (by kernel_rfl) (by kernel_rfl) rfl (by assumption) (fun w hS => Y.convE rfl hv2) ?_
    refine AW.next 6 rfl (by kernel_rfl) ?_
    refine RW.fn rfl rfl ((seatName c1 wa).mono ?_)
    rintro e wa' ⟨rfl, rfl⟩
    refine RW.nil (Nm.then ⟨hS, ?_⟩)
    skip
    refine AW.next 14 rfl (by kernel_rfl) ?_
    refine RW.fn rfl rfl ((seatSpan c2 wa).mono ?_)
    rintro e wb ⟨hkb, rfl⟩
    have hS := hS.trans0 hkb
    refine RW.nil (Nm.then ⟨hS, ?_⟩)
    refine AW.take 15 rfl (by kernel_rfl) (by kernel_rfl) (by kernel_rfl) rfl (by assumption) (fun w hS => Y.assign rfl) ?_
    refine AW.take 16 rfl (by kernel_rfl) (by kernel_rfl) (by kernel_rfl) rfl (by assumption) (fun w hS => Y.assign rfl) ?_
    refine AW.donew [0, 3, 4, 5, 6] (by kernel_rfl) ?_
    dsimp only [H.keep, H.look, H.Fr.put, Nat.beq]
    repeat' (first | (refine CL.seq ?_) | (refine CL.region ?_) | (refine Gt.move ?_; refine RW.y (Y.move rfl) rfl ?_))
    have hsl : (spanK c2).length ≤ 100 := by
      have h1 := List.all_eq_true.1 spans_ok _ (span_mem c2)
      simp only [Bool.and_eq_true, decide_eq_true_eq] at h1
      exact h1.2
    refine RW.fn rfl rfl ((refSpanOf (spanK c2) (by omega) wb).mono ?_)
    rintro e w6 ⟨hk6, VS, rfl, pS, rfl, hor⟩
    have hor6 := OrNew.on hor
    have hzb := (hkr.trans0 hS).size
    have hz6 := hk6.size
    repeat' (first | (refine Gt.move ?_; refine RW.y (Y.move rfl) rfl ?_) | (refine Gt.extract ?_; refine RW.y (Y.extract rfl rfl) rfl ?_))
    refine RW.varN rfl rfl rfl (spnCells hor6.one) rfl (fun w7 hb7 hk7 hlt7 => ?_)
    have hK7 : K0 wr w7 := hS.trans0 (hk6.trans0 hk7)
    have hor7 := hor6.keep hk7 (fun _ _ _ c => c)
    have hz7 := hk7.size
    repeat' (first | (refine CL.seq ?_) | (refine CL.region ?_) | (refine Gt.nil ?_; refine RW.nilw [0, 2, 3, 4, 5, 6, 7, 9, 13, 48, 63] ?_; dsimp only [H.keep, H.look, H.Fr.put, Nat.beq]) | (refine Gt.assign ?_; refine RW.y (Y.assign rfl) rfl ?_))
    refine CL.cutS [0, 3, 4, 5, 6, 7, 9] (fun vals wq => ∃ m : Nat, vals = [v, u, .int .i64 (i : Int), vs (nameK c1), vs (spanK c2), .pointer (some ⟨w6.heap.size, 0, none⟩), .int .i64 (m : Int)] ∧ m ≤ L.length ∧ (∀ z ∈ L.take m, ltT (nmN z) (nameK c1) = true) ∧ (m = L.length ∨ (m < L.length ∧ ltT (nmN (L.getD m default)) (nameK c1) = false)) ∧ K0 w7 wq) (by simp) ?_ ?_
    · refine CL.block ?_
      refine CL.loopS [0, 3, 4, 5, 6, 7, 9] (fun k vals wq => ∃ m : Nat, vals = [v, u, .int .i64 (i : Int), vs (nameK c1), vs (spanK c2), .pointer (some ⟨w6.heap.size, 0, none⟩), .int .i64 (m : Int)] ∧ k = L.length - m ∧ m ≤ L.length ∧ (∀ z ∈ L.take m, ltT (nmN z) (nameK c1) = true) ∧ K0 w7 wq) L.length ⟨_, rfl, 0, rfl, rfl, Nat.zero_le _, by simp, Kept.refl _ _⟩ ?_
      rintro k vals wq ⟨m, rfl, rfl, hm, hup, hkq⟩
      dsimp only [List.zip, List.zipWith]
      have hLq := hL.keep0 (hK7.trans0 hkq)
      have hnq := hLq.1
      have htm : ((m : Int)).toNat = m := Int.toNat_natCast m
      repeat' (first | (refine CL.seq ?_) | (refine CL.region ?_) | (refine CL.condF rfl ?_) | (refine CL.exit ?_) | (refine Ex.then ?_) | (refine Ex.hit ?_) | (refine CL.done ?_) | (refine Nm.then ?_) | (refine Gt.nil ?_; refine RW.nilw [0, 2, 3, 4, 5, 6, 7, 9, 13, 48, 63] ?_; dsimp only [H.keep, H.look, H.Fr.put, Nat.beq]) | (refine Gt.move ?_; refine RW.y (Y.move rfl) rfl ?_) | (refine Gt.guard ?_; first | (refine RW.part rfl rfl rfl (fun _ => ?_) (fun _ => ?_) <;> try (exfalso; omega)) | (refine RW.on rfl rfl rfl ?_) | (refine RW.off1 rfl rfl rfl rfl rfl ?_)) | (refine Gt.len ?_; (refine RW.y (Y.lenx rfl (by assumption)) rfl ?_)) | (refine Gt.lss ?_; (refine RW.y (Y.lss rfl rfl) rfl ?_)) | (refine Gt.pick ?_; (refine RW.y (Y.pickF rfl rfl) rfl ?_)))
      · rename_i hmlt
        obtain ⟨g3, o3, hsp3, hcl3⟩ := elSpot hnq ndK.len (i := (m : Int)) (by omega) (by omega)
        obtain ⟨b5, hb5⟩ : ∃ b5 : Bool, Op.bytesLess (nmN (L.getD ((m : Int)).toNat default)) (nameK c1) = b5 := ⟨_, rfl⟩
        refine RW.y (Y.idx rfl rfl hnq (by omega) (by omega)) rfl ?_
        refine RW.on rfl rfl rfl ?_
        refine RW.y (Y.fieldAddr (congrArg (fun a => some (Value.pointer (some a))) hsp3) (by rfl)) rfl ?_
        refine RW.on rfl rfl rfl ?_
        refine RW.y (Y.load1A rfl (hcl3 _ (Kept.refl _ _) 0 _ rfl)) rfl ?_
        refine RW.on rfl rfl rfl ?_
        refine RW.y (Y.move rfl) rfl ?_
        refine RW.on rfl rfl rfl ?_
        refine RW.y (Y.ltsE rfl rfl hb5) rfl ?_
        rw [htm] at hb5
        cases b5
        · repeat' (first | (refine CL.condF rfl ?_) | (refine CL.exit ?_) | (refine Ex.then ?_) | (refine Ex.hit ?_) | (refine CL.done ?_) | (refine Nm.then ?_) | (refine Gt.nil ?_; refine RW.nilw [0, 2, 3, 4, 5, 6, 7, 9, 13, 48, 63] ?_; dsimp only [H.keep, H.look, H.Fr.put, Nat.beq]) | (refine Gt.pick ?_; (refine RW.y (Y.pickT rfl rfl) rfl ?_)))
          exact ⟨_, rfl, rfl, rfl, m, rfl, hm, hup, .inr ⟨by omega, hb5⟩, hkq⟩
        · repeat' (first | (refine CL.region ?_) | (refine CL.skip ?_) | (refine CL.condT rfl ?_) | (refine CL.block ?_) | (refine CL.done ?_) | (refine Nm.block ?_) | (refine Nm.then ?_) | (refine Gt.nil ?_; refine RW.nilw [0, 2, 3, 4, 5, 6, 7, 9, 13, 48, 63] ?_; dsimp only [H.keep, H.look, H.Fr.put, Nat.beq]) | (refine Gt.move ?_; refine RW.y (Y.move rfl) rfl ?_) | (refine Gt.assign ?_; refine RW.y (Y.assign rfl) rfl ?_) | (refine Gt.pick ?_; (refine RW.y (Y.pickT rfl rfl) rfl ?_)) | (refine Gt.add ?_; refine RW.y (Y.add64 rfl rfl (by omega) (by omega)) rfl ?_))
          refine ⟨L.length - (m + 1), _, rfl, rfl, rfl, by omega, m + 1, rfl, rfl, by omega, fun z hz => ?_, hkq⟩
          rw [take_snoc default L m (by omega)] at hz
          rcases List.mem_append.1 hz with hz | hz
          · exact hup z hz
          · rw [List.mem_singleton.1 hz]; exact hb5
      · exact ⟨_, rfl, rfl, rfl, m, rfl, hm, hup, .inl (by omega), hkq⟩
    · rintro vals wq ⟨m, rfl, hm, hup, hst, hkq⟩
      dsimp only [List.zip, List.zipWith]
      have hK4 : K0 w wq := hkr.trans0 (hK7.trans0 hkq)
      have hti2 : ((m : Int)).toNat = m := Int.toNat_natCast m
      obtain ⟨y, hyd⟩ : ∃ y : Np, (⟨⟨nameK c1, (spanR (spanB (spanK c2))).1, spanK c2⟩, pS, fun g => wb.heap.size ≤ g ∧ g < w6.heap.size⟩ : Np) = y := ⟨_, rfl⟩
      have hyn : nmN y = nameK c1 := by rw [← hyd]; rfl
      have hyo : y.d = needOf n := by rw [← hyd, hno]; rfl
      have hzq := hkq.size
      have hyD : ndK.D wq y := by rw [← hyd]; exact ⟨hor7.keep hkq (fun _ _ _ c => c), fun g hg => by have := hg.2; omega⟩
      rw [← hyn] at hup hst
      have hhas := put_place hsrt hup hst
      have hb7q := hkq.at0 hb7
      obtain ⟨p, cap, hup2, hcap⟩ := hL.shape
      subst hup2
      have hq := hL.keep0 (hK7.trans0 hkq)
      have hnq := hq.1
      have hts2 : needsOf (l.take (i + 1)) = putNd y.d (L.map (·.d)) := by rw [hts, needsOf_snoc, hLd, hyo]
      repeat' (first | (refine CL.seq ?_) | (refine CL.region ?_) | (refine CL.skip ?_) | (refine CL.condF rfl ?_) | (refine Gt.nil ?_; refine RW.nilw [0, 2, 3, 4, 5, 6, 7, 9, 13, 48, 63] ?_; dsimp only [H.keep, H.look, H.Fr.put, Nat.beq]) | (refine Gt.move ?_; refine RW.y (Y.move rfl) rfl ?_) | (refine Gt.guard ?_; first | (refine RW.part rfl rfl rfl (fun _ => ?_) (fun _ => ?_) <;> try (exfalso; omega)) | (refine RW.on rfl rfl rfl ?_) | (refine RW.off1 rfl rfl rfl rfl rfl ?_)) | (refine Gt.len ?_; (refine RW.y (Y.lenv rfl) rfl ?_)) | (refine Gt.lss ?_; (refine RW.y (Y.lss rfl rfl) rfl ?_)) | (refine Gt.pick ?_; (refine RW.y (Y.pickF rfl rfl) rfl ?_)))
      · rename_i hmlt
        obtain ⟨g3, o3, hsp3, hcl3⟩ := elSpot hnq ndK.len (i := (m : Int)) (by omega) (by omega)
        obtain ⟨b5, hb5⟩ : ∃ b5 : Bool, decide (nmN (L.getD ((m : Int)).toNat default) = nameK c1) = b5 := ⟨_, rfl⟩
        refine RW.y (Y.idx rfl rfl hnq (by omega) (by omega)) rfl ?_
        refine RW.on rfl rfl rfl ?_
        refine RW.y (Y.fieldAddr (congrArg (fun a => some (Value.pointer (some a))) hsp3) (by rfl)) rfl ?_
        refine RW.on rfl rfl rfl ?_
        refine RW.y (Y.load1A rfl (hcl3 _ (Kept.refl _ _) 0 _ rfl)) rfl ?_
        refine RW.on rfl rfl rfl ?_
        refine RW.y (Y.move rfl) rfl ?_
        refine RW.on rfl rfl rfl ?_
        refine RW.y (Y.eqsE rfl rfl hb5) rfl ?_
        rw [hti2] at hb5
        rw [decide_eq_true (by omega), Bool.true_and, show decide (nmN (L.getD m default) = nmN y) = b5 from by rw [hyn]; exact hb5] at hhas
        cases b5
        · have hins := put_ins hup (.inr ⟨by omega, (hst.resolve_left (by omega)).2, by rw [hyn]; exact of_decide_eq_false hb5⟩)
          have hnew : (insN nmN y L).map (·.d) = needsOf (l.take (i + 1)) := by rw [hts2, putNd, show hasN (L.map (·.d)) y.d.name = false from hhas, if_neg (by simp)]; exact insN_map nmD (·.d) y L
          repeat' (first | (refine CL.skip ?_) | (refine CL.condF rfl ?_) | (refine Gt.nil ?_; refine RW.nilw [0, 2, 3, 4, 5, 6, 7, 9, 13, 48, 63] ?_; dsimp only [H.keep, H.look, H.Fr.put, Nat.beq]) | (refine Gt.pick ?_; (refine RW.y (Y.pickT rfl rfl) rfl ?_)))
          refine CL.draw (fun w' => K0 wq w') (by kernel_rfl) (fun w2 hheap hk2 => ?_)
          have hS : K0 wq w2 := hk2
          skip
          refine AW.take 0 rfl (by kernel_rfl) (by kernel_rfl) (by kernel_rfl) rfl (by assumption) (fun w hS => Y.move rfl) ?_
          refine AW.take 1 rfl (by kernel_rfl) (by kernel_rfl) (by kernel_rfl) rfl (by assumption) (fun w hS => Y.move rfl) ?_
          refine AW.take 2 rfl (by kernel_rfl) (by kernel_rfl) (by kernel_rfl) rfl (by assumption) (fun w hS => Y.move rfl) ?_
          refine AW.take 3 rfl (by kernel_rfl) (by kernel_rfl) (by kernel_rfl) rfl (by assumption) (fun w hS => Y.upto rfl rfl rfl (by omega) (by omega)) ?_
          refine AW.take 4 rfl (by kernel_rfl) (by kernel_rfl) (by kernel_rfl) rfl (by assumption) (fun w hS => Y.move rfl) ?_
          refine AW.take 5 rfl (by kernel_rfl) (by kernel_rfl) (by kernel_rfl) rfl (by assumption) (fun w hS => Y.loadBlock rfl (hS.at0 hb7q) rfl) ?_
          refine AW.take 6 rfl (by kernel_rfl) (by kernel_rfl) (by kernel_rfl) rfl (by assumption) (fun w hS => Y.move rfl) ?_
          refine AW.take 7 rfl (by kernel_rfl) (by kernel_rfl) (by kernel_rfl) rfl (by assumption) (fun w hS => Y.build (ps := [(0, _), (1, _), (2, _)]) (l := [_, _, _]) (c := #[vs (nameK c1), .bool (spanR (spanB (spanK c2))).1.any, pS, vs (spanK c2)]) rfl rfl) ?_
          refine AW.take 9 rfl (by kernel_rfl) (by kernel_rfl) (by kernel_rfl) rfl (by assumption) (fun w hS => Y.move rfl) ?_
          refine AW.take 10 rfl (by kernel_rfl) (by kernel_rfl) (by kernel_rfl) rfl (by assumption) (fun w hS => Y.move rfl) ?_
          refine AW.take 11 rfl (by kernel_rfl) (by kernel_rfl) (by kernel_rfl) rfl (by assumption) (fun w hS => Y.from rfl rfl (by omega) (by omega) (by omega)) ?_
          refine AW.next 8 rfl (by kernel_rfl) ?_
          have hz2 := hk2.size
          refine RW.build1 rfl rfl rfl rfl (fun w3 hb3 hk3 hlt3 => ?_)
          have hown3 : w3.ownsRow w2.heap.size ndT 4 (.slice (some ⟨w2.heap.size, 0, none⟩) 1 1) 1 [vs (nameK c1), .bool (spanR (spanB (spanK c2))).1.any, pS, vs (spanK c2)] := own_new hb3 (Nat.le_refl _) rfl (by decide)
          have hS := hk2.trans0 hk3
          refine RW.nil (Nm.then ⟨hS, ?_⟩)
          skip
          refine AW.next 12 rfl (by kernel_rfl) ?_
          have hgf := (hq.keep0 (hk2.trans0 hk3)).from rfl (a := m) (by omega) (by omega)
          have hgu := (hq.keep0 hk2).upto rfl (a := m) (by omega) (by omega)
          have hz3 := hk3.size
          rw [← hti2] at hgf hgu
          refine RW.app (sz := 4) rfl rfl rfl rfl rfl hown3 hgf.1 hgf.ones (by rw [List.length_drop]; omega) (by rw [List.length_drop]; omega) (by omega) (fun u4 w4 how4 hk4 hl4 => ?_)
          have hK34 : K0 w2 w4 := (hk3.trans hk4 fun k h => .inr (by simp [Value.ownBlock] at h; omega))
          have hS := hk2.trans0 hK34
          refine RW.nil (Nm.then ⟨hS, ?_⟩)
          skip
          refine AW.next 13 rfl (by kernel_rfl) ?_
          have hz4 := hK34.size
          have hgu4 := hgu.1.keep0 hK34
          have hyC : ndK.enc y = [vs (nameK c1), .bool (spanR (spanB (spanK c2))).1.any, pS, vs (spanK c2)] := by rw [← hyd]; rfl
          refine RW.appA (sz := 4) rfl rfl rfl rfl rfl (.inr ⟨hgu4, ⟨_, by rw [List.length_take]; congr 1 <;> omega⟩, rfl⟩) (by omega) (Sl.of_own how4) (fun z hz => ?_) (by simp only [List.length_take, List.length_drop]; omega) (by simp only [List.length_take, List.length_drop]; omega) (Nat.zero_le _) (fun u5 w5 how5 hk5 hl5 => ?_)
          · rcases List.mem_append.1 hz with hz | hz
            · exact ndK.ones wq y hyD z (by rw [hyC]; exact hz)
            · obtain ⟨y', hy, hz⟩ := List.mem_flatMap.1 hz
              exact ndK.ones wq y' (hq.2 y' (List.mem_of_mem_drop hy)) z hz
          · have hK25 : K0 w2 w5 := hK34.trans0 (hk5.mono fun k h => by cases h)
            have hS := hk2.trans0 hK25
            refine RW.nil (Nm.then ⟨hS, ?_⟩)
            refine AW.take 14 rfl (by kernel_rfl) (by kernel_rfl) (by kernel_rfl) rfl (by assumption) (fun w hS => Y.assign rfl) ?_
            refine AW.donew [0, 3, 4] (by kernel_rfl) ?_
            dsimp only [H.keep, H.look, H.Fr.put, Nat.beq]
            have hf : (L.take ((m : Int)).toNat ++ y :: L.drop ((m : Int)).toNat).length = L.length + 1 := by rw [List.length_append, List.length_cons, List.length_take, List.length_drop]; omega
            have hmemN : ∀ z ∈ L.take ((m : Int)).toNat ++ y :: L.drop ((m : Int)).toNat, z = y ∨ z ∈ L := fun z hz => by
              rcases List.mem_append.1 hz with h | h
              · exact .inr (List.mem_of_mem_take h)
              · rcases List.mem_cons.1 h with h | h
                · exact .inl h
                · exact .inr (List.mem_of_mem_drop h)
            have hGA : GA ndK w5 u5 (L.take ((m : Int)).toNat ++ y :: L.drop ((m : Int)).toNat) := by
              refine ⟨?_, fun z hz => (hmemN z hz).elim (fun h => by rw [h]; exact ndK.keep0 hyD hS) fun h => ndK.keep0 (hq.2 z h) hS⟩
              rw [List.flatMap_append, List.flatMap_cons, hf, hyC]
              have h5 := Sl.of_own how5
              rw [show (L.take ((m : Int)).toNat).length + (1 + (L.drop ((m : Int)).toNat).length) = L.length + 1 from by rw [List.length_take, List.length_drop]; omega] at h5
              exact h5
            rw [hti2, ← hins] at hGA
            repeat' (first | (refine CL.region ?_) | (refine CL.done ?_) | (refine Nm.block ?_) | (refine Nm.then ?_) | (refine Gt.nil ?_; refine RW.nilw [0, 2, 3, 4, 5, 6, 7, 9, 13, 48, 63] ?_; dsimp only [H.keep, H.look, H.Fr.put, Nat.beq]) | (refine Gt.move ?_; refine RW.y (Y.move rfl) rfl ?_) | (refine Gt.assign ?_; refine RW.y (Y.assign rfl) rfl ?_) | (refine Gt.add ?_; refine RW.y (Y.add64 rfl rfl (by omega) (by omega)) rfl ?_))
            exact ⟨l.length - (i + 1), _, rfl, rfl, rfl, by omega, i + 1, u5, insN nmN y L, rfl, rfl, by omega, hGA, hnew, insN_srt nmN y L hsrt, by rw [insN_len]; omega, (fun g hg => by have := hl5 g (live_own hg); simp at this; have := hK4.size; omega), (fun z hz g hg => by
              rcases (insN_mem nmN y L z).1 hz with e | e
              · rw [e, ← hyd] at hg; have := hg.1; omega
              · exact hLA z e g hg), hK4.trans0 hS⟩
        · have hnew : L.map (·.d) = needsOf (l.take (i + 1)) := by rw [hts2, putNd, show hasN (L.map (·.d)) y.d.name = true from hhas, if_pos rfl]
          repeat' (first | (refine CL.region ?_) | (refine CL.condT rfl ?_) | (refine CL.exit ?_) | (refine Ex.hit ?_) | (refine CL.done ?_) | (refine Nm.then ?_) | (refine Gt.nil ?_; refine RW.nilw [0, 2, 3, 4, 5, 6, 7, 9, 13, 48, 63] ?_; dsimp only [H.keep, H.look, H.Fr.put, Nat.beq]) | (refine Gt.move ?_; refine RW.y (Y.move rfl) rfl ?_) | (refine Gt.assign ?_; refine RW.y (Y.assign rfl) rfl ?_) | (refine Gt.pick ?_; (refine RW.y (Y.pickT rfl rfl) rfl ?_)) | (refine Gt.add ?_; refine RW.y (Y.add64 rfl rfl (by omega) (by omega)) rfl ?_))
          exact ⟨l.length - (i + 1), _, rfl, rfl, rfl, by omega, i + 1, _, L, rfl, rfl, by omega, hq, hnew, hsrt, by omega, hLu, hLA, hK4⟩
      · rename_i hmlt
        have hins := put_ins hup (.inl (by omega))
        rw [decide_eq_false (by omega), Bool.false_and] at hhas
        have hnew : (insN nmN y L).map (·.d) = needsOf (l.take (i + 1)) := by rw [hts2, putNd, show hasN (L.map (·.d)) y.d.name = false from hhas, if_neg (by simp)]; exact insN_map nmD (·.d) y L
        skip
        refine CL.draw (fun w' => K0 wq w') (by kernel_rfl) (fun w2 hheap hk2 => ?_)
        have hS : K0 wq w2 := hk2
        skip
        refine AW.take 0 rfl (by kernel_rfl) (by kernel_rfl) (by kernel_rfl) rfl (by assumption) (fun w hS => Y.move rfl) ?_
        refine AW.take 1 rfl (by kernel_rfl) (by kernel_rfl) (by kernel_rfl) rfl (by assumption) (fun w hS => Y.move rfl) ?_
        refine AW.take 2 rfl (by kernel_rfl) (by kernel_rfl) (by kernel_rfl) rfl (by assumption) (fun w hS => Y.move rfl) ?_
        refine AW.take 3 rfl (by kernel_rfl) (by kernel_rfl) (by kernel_rfl) rfl (by assumption) (fun w hS => Y.upto rfl rfl rfl (by omega) (by omega)) ?_
        refine AW.take 4 rfl (by kernel_rfl) (by kernel_rfl) (by kernel_rfl) rfl (by assumption) (fun w hS => Y.move rfl) ?_
        refine AW.take 5 rfl (by kernel_rfl) (by kernel_rfl) (by kernel_rfl) rfl (by assumption) (fun w hS => Y.loadBlock rfl (hS.at0 hb7q) rfl) ?_
        refine AW.take 6 rfl (by kernel_rfl) (by kernel_rfl) (by kernel_rfl) rfl (by assumption) (fun w hS => Y.move rfl) ?_
        refine AW.take 7 rfl (by kernel_rfl) (by kernel_rfl) (by kernel_rfl) rfl (by assumption) (fun w hS => Y.build (ps := [(0, _), (1, _), (2, _)]) (l := [_, _, _]) (c := #[vs (nameK c1), .bool (spanR (spanB (spanK c2))).1.any, pS, vs (spanK c2)]) rfl rfl) ?_
        refine AW.take 9 rfl (by kernel_rfl) (by kernel_rfl) (by kernel_rfl) rfl (by assumption) (fun w hS => Y.move rfl) ?_
        refine AW.take 10 rfl (by kernel_rfl) (by kernel_rfl) (by kernel_rfl) rfl (by assumption) (fun w hS => Y.move rfl) ?_
        refine AW.take 11 rfl (by kernel_rfl) (by kernel_rfl) (by kernel_rfl) rfl (by assumption) (fun w hS => Y.from rfl rfl (by omega) (by omega) (by omega)) ?_
        refine AW.next 8 rfl (by kernel_rfl) ?_
        have hz2 := hk2.size
        refine RW.build1 rfl rfl rfl rfl (fun w3 hb3 hk3 hlt3 => ?_)
        have hown3 : w3.ownsRow w2.heap.size ndT 4 (.slice (some ⟨w2.heap.size, 0, none⟩) 1 1) 1 [vs (nameK c1), .bool (spanR (spanB (spanK c2))).1.any, pS, vs (spanK c2)] := own_new hb3 (Nat.le_refl _) rfl (by decide)
        have hS := hk2.trans0 hk3
        refine RW.nil (Nm.then ⟨hS, ?_⟩)
        skip
        refine AW.next 12 rfl (by kernel_rfl) ?_
        have hgf := (hq.keep0 (hk2.trans0 hk3)).from rfl (a := m) (by omega) (by omega)
        have hgu := (hq.keep0 hk2).upto rfl (a := m) (by omega) (by omega)
        have hz3 := hk3.size
        rw [← hti2] at hgf hgu
        refine RW.app (sz := 4) rfl rfl rfl rfl rfl hown3 hgf.1 hgf.ones (by rw [List.length_drop]; omega) (by rw [List.length_drop]; omega) (by omega) (fun u4 w4 how4 hk4 hl4 => ?_)
        have hK34 : K0 w2 w4 := (hk3.trans hk4 fun k h => .inr (by simp [Value.ownBlock] at h; omega))
        have hS := hk2.trans0 hK34
        refine RW.nil (Nm.then ⟨hS, ?_⟩)
        skip
        refine AW.next 13 rfl (by kernel_rfl) ?_
        have hz4 := hK34.size
        have hgu4 := hgu.1.keep0 hK34
        have hyC : ndK.enc y = [vs (nameK c1), .bool (spanR (spanB (spanK c2))).1.any, pS, vs (spanK c2)] := by rw [← hyd]; rfl
        refine RW.appA (sz := 4) rfl rfl rfl rfl rfl (.inr ⟨hgu4, ⟨_, by rw [List.length_take]; congr 1 <;> omega⟩, rfl⟩) (by omega) (Sl.of_own how4) (fun z hz => ?_) (by simp only [List.length_take, List.length_drop]; omega) (by simp only [List.length_take, List.length_drop]; omega) (Nat.zero_le _) (fun u5 w5 how5 hk5 hl5 => ?_)
        · rcases List.mem_append.1 hz with hz | hz
          · exact ndK.ones wq y hyD z (by rw [hyC]; exact hz)
          · obtain ⟨y', hy, hz⟩ := List.mem_flatMap.1 hz
            exact ndK.ones wq y' (hq.2 y' (List.mem_of_mem_drop hy)) z hz
        · have hK25 : K0 w2 w5 := hK34.trans0 (hk5.mono fun k h => by cases h)
          have hS := hk2.trans0 hK25
          refine RW.nil (Nm.then ⟨hS, ?_⟩)
          refine AW.take 14 rfl (by kernel_rfl) (by kernel_rfl) (by kernel_rfl) rfl (by assumption) (fun w hS => Y.assign rfl) ?_
          refine AW.donew [0, 3, 4] (by kernel_rfl) ?_
          dsimp only [H.keep, H.look, H.Fr.put, Nat.beq]
          have hf : (L.take ((m : Int)).toNat ++ y :: L.drop ((m : Int)).toNat).length = L.length + 1 := by rw [List.length_append, List.length_cons, List.length_take, List.length_drop]; omega
          have hmemN : ∀ z ∈ L.take ((m : Int)).toNat ++ y :: L.drop ((m : Int)).toNat, z = y ∨ z ∈ L := fun z hz => by
            rcases List.mem_append.1 hz with h | h
            · exact .inr (List.mem_of_mem_take h)
            · rcases List.mem_cons.1 h with h | h
              · exact .inl h
              · exact .inr (List.mem_of_mem_drop h)
          have hGA : GA ndK w5 u5 (L.take ((m : Int)).toNat ++ y :: L.drop ((m : Int)).toNat) := by
            refine ⟨?_, fun z hz => (hmemN z hz).elim (fun h => by rw [h]; exact ndK.keep0 hyD hS) fun h => ndK.keep0 (hq.2 z h) hS⟩
            rw [List.flatMap_append, List.flatMap_cons, hf, hyC]
            have h5 := Sl.of_own how5
            rw [show (L.take ((m : Int)).toNat).length + (1 + (L.drop ((m : Int)).toNat).length) = L.length + 1 from by rw [List.length_take, List.length_drop]; omega] at h5
            exact h5
          rw [hti2, ← hins] at hGA
          repeat' (first | (refine CL.region ?_) | (refine CL.done ?_) | (refine Nm.block ?_) | (refine Nm.then ?_) | (refine Gt.nil ?_; refine RW.nilw [0, 2, 3, 4, 5, 6, 7, 9, 13, 48, 63] ?_; dsimp only [H.keep, H.look, H.Fr.put, Nat.beq]) | (refine Gt.move ?_; refine RW.y (Y.move rfl) rfl ?_) | (refine Gt.assign ?_; refine RW.y (Y.assign rfl) rfl ?_) | (refine Gt.add ?_; refine RW.y (Y.add64 rfl rfl (by omega) (by omega)) rfl ?_))
          exact ⟨l.length - (i + 1), _, rfl, rfl, rfl, by omega, i + 1, u5, insN nmN y L, rfl, rfl, by omega, hGA, hnew, insN_srt nmN y L hsrt, by rw [insN_len]; omega, (fun g hg => by have := hl5 g (live_own hg); simp at this; have := hK4.size; omega), (fun z hz g hg => by
            rcases (insN_mem nmN y L z).1 hz with e | e
            · rw [e, ← hyd] at hg; have := hg.1; omega
            · exact hLA z e g hg), hK4.trans0 hS⟩
  · have hi : i = l.length := by omega
    subst hi
    repeat' (first | (refine CL.seq ?_) | (refine CL.region ?_) | (refine CL.condP rfl (fun _ => ?_) (fun _ => ?_) <;> try (exfalso; omega)) | (refine CL.exit ?_) | (refine Ex.then ?_) | (refine Ex.hit ?_) | (refine CL.ret ?_) | (refine Gt.nil ?_; refine RW.nilw [0, 2, 3, 4, 5, 6, 7, 9, 13, 48, 63] ?_; dsimp only [H.keep, H.look, H.Fr.put, Nat.beq]) | (refine Gt.move ?_; refine RW.y (Y.move rfl) rfl ?_) | (refine Gt.assign ?_; refine RW.y (Y.assign rfl) rfl ?_) | (refine Gt.len ?_; (refine RW.y (Y.lenx rfl (by assumption)) rfl ?_)) | (refine Gt.lss ?_; (refine RW.y (Y.lss rfl rfl) rfl ?_)))
    rw [List.take_length] at hLd
    exact FQ.one rfl rfl rfl ⟨hkr, u, L, rfl, hL, hLd, hsrt, hLl, hLu, hLA⟩
end Go.Proofs.YtjlkmdmpejpmpaaGreatDoor.Ma

namespace Go.Proofs.YtjlkmdmpejpmpaaGreatDoor.Ma
open Go.Proofs.YtjlkmdmpejpmpaaGreatDoor.S Go.Proofs.YtjlkmdmpejpmpaaGreatDoor.Ve Go.Proofs.YtjlkmdmpejpmpaaGreatDoor.Sp Go.Proofs.YtjlkmdmpejpmpaaGreatDoor.Od
open Go
theorem insN_perm (p : Nd) : ∀ a : List Nd, (insN nmD p a).Perm (p :: a)
  | [] => List.Perm.refl _
  | q :: t => by
    rw [insN]; split
    · exact List.Perm.refl _
    · exact ((List.perm_cons q).2 (insN_perm p t)).trans (List.Perm.swap p q t)
theorem foldN_perm : ∀ (l acc : List Nd), (l.foldl (fun acc p => insN nmD p acc) acc).Perm (acc ++ l)
  | [], acc => by simp
  | p :: r, acc => ((foldN_perm r (insN nmD p acc)).trans ((insN_perm p acc).append_right r)).trans (by
      rw [List.cons_append]; exact (List.perm_middle (l₁ := acc) (l₂ := r) (a := p)).symm)
theorem sortN_perm (l : List Nd) : (sortN nmD l).Perm l := foldN_perm l []
/-- Lists in order, of the same needs, each name once, are one list. -/
theorem srt_one : ∀ (a b : List Nd), SrtN nmD a → SrtN nmD b → DiffD a → a.Perm b → a = b
  | [], b, _, _, _, h => (List.nil_perm.1 h).symm
  | x :: r, [], _, _, _, h => by have := h.length_eq; simp at this
  | x :: r, y :: t, ha, hb, hd, h => by
    have hx : x ∈ y :: t := h.mem_iff.1 (by simp)
    have hy : y ∈ x :: r := h.mem_iff.2 (by simp)
    have e : x = y := by
      rcases List.mem_cons.1 hx with e | hx
      · exact e
      · rcases List.mem_cons.1 hy with e | hy
        · exact e.symm
        · have h1 := (List.pairwise_cons.1 ha).1 y hy
          have h2 := (List.pairwise_cons.1 hb).1 x hx
          have h3 : nmD x = nmD y := ltT_tri _ _ h2 h1
          have h4 := (List.pairwise_cons.1 (show List.Pairwise _ (nmD x :: r.map nmD) from hd)).1 (nmD y) (List.mem_map.2 ⟨y, hy, rfl⟩)
          exact absurd h3 h4
    subst e
    rw [srt_one r t (List.pairwise_cons.1 ha).2 (List.pairwise_cons.1 hb).2 (List.pairwise_cons.1 (show List.Pairwise _ (nmD x :: r.map nmD) from hd)).2 ((List.perm_cons x).1 h)]
theorem sort_perm {a l : List Nd} (hs : SrtN nmD l) (hd : DiffD l) (h : a.Perm l) : sortN nmD a = l :=
  srt_one _ _ (sortN_srt nmD a) hs ((((sortN_perm a).trans h).map nmD).nodup_iff.2 hd) ((sortN_perm a).trans h)
theorem diff_perm {a l : List Nd} (hd : DiffD l) (h : a.Perm l) : DiffD a := (h.map nmD).nodup_iff.2 hd
/-- The seat's needs stand in order, each name once. -/
structure NdsOk (l : List Nd) : Prop where
  srt : SrtN nmD l
  diff : DiffD l
  ok : ∀ d ∈ l, OkD [109, 101] d
theorem putNd_ok {d : Nd} {l : List Nd} (h : NdsOk l) (hd : OkD [109, 101] d) : NdsOk (putNd d l) ∧ (putNd d l).length ≤ l.length + 1 := by
  rw [putNd]
  split
  · exact ⟨h, by omega⟩
  · rename_i hn
    refine ⟨⟨insN_srt nmD d l h.srt, ((insN_perm d l).map nmD).nodup_iff.2 ?_, fun e he => ?_⟩, by rw [insN_len]; omega⟩
    · rw [List.map_cons, List.nodup_cons]
      exact ⟨fun c => hn (hasN_iff.2 c), h.diff⟩
    · rcases (insN_mem nmD d l e).1 he with rfl | he
      · exact hd
      · exact h.ok e he
theorem foldP_ok : ∀ (l : List Nat) (acc : List Nd), NdsOk acc → NdsOk (l.foldl (fun acc n => putNd (needOf n) acc) acc) ∧ (l.foldl (fun acc n => putNd (needOf n) acc) acc).length ≤ acc.length + l.length
  | [], acc, h => ⟨h, by simp⟩
  | n :: r, acc, h => by
    obtain ⟨h1, h2⟩ := putNd_ok h (ndOf_ok (UInt8.ofNat (n % 6)) (UInt8.ofNat (n / 6 % 10)))
    obtain ⟨h3, h4⟩ := foldP_ok r _ h1
    refine ⟨h3, Nat.le_trans h4 ?_⟩
    rw [List.length_cons]; omega
theorem needsOf_ok (l : List Nat) : NdsOk (needsOf l) ∧ (needsOf l).length ≤ l.length := by
  obtain ⟨h1, h2⟩ := foldP_ok l [] ⟨List.Pairwise.nil, List.Pairwise.nil, fun d hd => by cases hd⟩
  exact ⟨h1, by rw [needsOf]; simpa using h2⟩
/-- A list from a place on, and what stands before it. -/
def turnL {α : Type} (d : α) (t : Nat) (l : List α) : List α := (List.range l.length).map fun i => l.getD ((i + t) % l.length) d
theorem turnL_eq {α : Type} (d : α) (t : Nat) (l : List α) : turnL d t l = l.drop (t % l.length) ++ l.take (t % l.length) := by
  rcases Nat.eq_zero_or_pos l.length with h0 | h0
  · rw [List.length_eq_zero_iff.1 h0]; simp [turnL]
  have hm : t % l.length < l.length := Nat.mod_lt _ h0
  refine List.ext_getElem (by simp [turnL, List.length_take, List.length_drop]; omega) fun i h1 h2 => ?_
  have hi : i < l.length := by simpa [turnL] using h1
  have e0 : (turnL d t l)[i] = l.getD ((i + t) % l.length) d := by simp [turnL]
  rw [e0, Nat.add_mod, Nat.mod_eq_of_lt hi, List.getElem_append]
  split
  · rename_i h
    rw [List.length_drop] at h
    rw [Nat.mod_eq_of_lt (by omega), List.getElem_drop, List.getD_eq_getElem?_getD, List.getElem?_eq_getElem (by omega), Option.getD_some]
    congr 1; omega
  · rename_i h
    rw [List.length_drop] at h
    have e : (i + t % l.length) % l.length = i + t % l.length - l.length := by rw [Nat.mod_eq_sub_mod (by omega), Nat.mod_eq_of_lt (by omega)]
    rw [e, List.getElem_take, List.getD_eq_getElem?_getD, List.getElem?_eq_getElem (by omega), Option.getD_some]
    congr 1; rw [List.length_drop]; omega
theorem turnL_perm (t : Nat) (l : List Nd) : (turnL default t l).Perm l := by
  rw [turnL_eq]
  exact List.perm_append_comm.trans (by rw [List.take_append_drop])
/-- Lines that say nothing, between those that say something. -/
theorem rd_silent : ∀ (M : List T) (i j k : Nat) (m m' : Mf), rdM (M.filter fun x => !silentB x) j k m = (m', 0, 0) → rdM M i k m = (m', 0, 0)
  | [], i, j, k, m, m', h => by rw [List.filter_nil, rdM] at h; rw [rdM]; exact h
  | x :: r, i, j, k, m, m', h => by
    rw [rdM]
    cases hs : silentB x with
    | true =>
      rw [List.filter_cons, hs, if_neg (by simp)] at h
      rw [if_pos rfl]
      exact rd_silent r (i + 1) j k m m' h
    | false =>
      rw [List.filter_cons, hs, if_pos (by rfl), rdM, hs, if_neg (by simp)] at h
      rw [if_neg (by simp)]
      cases hb : lineB k m x with
      | none => rw [hb] at h; simp at h
      | some m2 => rw [hb] at h; exact rd_silent r (i + 1) (j + 1) (k + 1) m2 m' h
def v1 : Ver := (verR (parseV (cutB 45 [49, 46, 48, 46, 48]))).1
theorem v1_is : parseV (cutB 45 [49, 46, 48, 46, 48]) = some v1 := by
  have hs : (parseV (cutB 45 [49, 46, 48, 46, 48])).isSome = true := by decide +kernel
  rw [v1]
  cases h : parseV (cutB 45 [49, 46, 48, 46, 48]) with
  | none => rw [h] at hs; cases hs
  | some v => rfl
theorem rd_turned {l N : List Nd} (h : NdsOk N) (hl : N.length ≤ 20) (hp : l.Perm N) : rdM (meW :: v1W :: l.map lineD) 0 0 zeroM = (⟨[109, 101], v1, N⟩, 0, 0) := by
  have s1 : silentB meW = false := rfl
  have s2 : silentB v1W = false := rfl
  have l1 : lineB 0 zeroM meW = some ⟨[109, 101], zeroM.v, []⟩ := by rw [lineB, if_pos (by decide)]; rfl
  have l2 : lineB 1 ⟨[109, 101], zeroM.v, []⟩ v1W = some ⟨[109, 101], v1, []⟩ := by
    rw [lineB, if_pos (by decide), show cutB 45 (v1W.drop 8) = cutB 45 [49, 46, 48, 46, 48] from rfl, v1_is]; rfl
  rw [rdM, s1, if_neg (by simp), l1]
  simp only
  rw [rdM, s2, if_neg (by simp), l2]
  simp only
  rw [rd_needs l 2 2 ⟨[109, 101], v1, []⟩ (by omega) (fun d hd => h.ok d (hp.mem_iff.1 hd)) (by rw [List.nil_append]; exact diff_perm h.diff hp) (by have := hp.length_eq; simp; omega), List.nil_append, sortM]
  simp only
  rw [sort_perm h.srt h.diff hp]
end Go.Proofs.YtjlkmdmpejpmpaaGreatDoor.Ma

namespace Go.Proofs.YtjlkmdmpejpmpaaGreatDoor.Ma
open Go.Proofs.YtjlkmdmpejpmpaaGreatDoor.S Go.Proofs.YtjlkmdmpejpmpaaGreatDoor.Ve Go.Proofs.YtjlkmdmpejpmpaaGreatDoor.Sp Go.Proofs.YtjlkmdmpejpmpaaGreatDoor.Od
open Go
def dropN (nm : T) (l : List Nd) : List Nd := l.filter fun d => decide (d.name ≠ nm)
theorem ins_drop (d : Nd) : ∀ l : List Nd, dropN d.name (insN nmD d l) = dropN d.name l
  | [] => by simp [insN, dropN]
  | q :: r => by
    rw [insN]; split
    · simp [dropN]
    · have h := ins_drop d r
      simp only [dropN] at h ⊢
      rw [List.filter_cons, List.filter_cons, h]
theorem drop_drop (nm : T) (l : List Nd) : dropN nm (dropN nm l) = dropN nm l := by
  simp [dropN, List.filter_filter]
theorem drop_srt {nm : T} {l : List Nd} (h : SrtN nmD l) : SrtN nmD (dropN nm l) := List.Pairwise.sublist List.filter_sublist h
theorem drop_len (nm : T) (l : List Nd) : (dropN nm l).length ≤ l.length := List.length_filter_le _ _
/-- What a need that may be put in comes to. -/
theorem add_is {m : Mf} {d : Nd} (hs : SrtN nmD m.needs) (hn : Lk.nameB d.name = true) (hne : d.name ≠ m.name) (hl : m.needs.length < 20) : addB m d = (⟨m.name, m.v, insN nmD d (dropN d.name m.needs)⟩, 0) := by
  rw [addB, if_pos ⟨hn, hne, .inr hl⟩, sortM]
  show ((⟨m.name, m.v, sortN nmD (dropN d.name m.needs ++ [d])⟩ : Mf), (0 : Int)) = _
  rw [sortN_snoc, sortN_same nmD (drop_srt hs)]
theorem ins_has (d : Nd) (l : List Nd) : hasN (insN nmD d l) d.name = true := by
  rw [hasN, List.any_eq_true]
  exact ⟨d, (insN_mem nmD d l d).2 (.inl rfl), decide_eq_true rfl⟩
/-- The manifests of the law, one after the other. -/
structure OnceIs (a : Mf) (x y : Nd) : Prop where
  one : addB a x = (⟨a.name, a.v, insN nmD x (dropN x.name a.needs)⟩, 0)
  two : addB ⟨a.name, a.v, insN nmD x (dropN x.name a.needs)⟩ y = (⟨a.name, a.v, insN nmD y (dropN x.name a.needs)⟩, 0)
  three : addB ⟨a.name, a.v, dropN x.name a.needs⟩ y = (⟨a.name, a.v, insN nmD y (dropN x.name a.needs)⟩, 0)
  is : hasN (insN nmD y (dropN x.name a.needs)) x.name = true
  back : remB ⟨a.name, a.v, insN nmD y (dropN x.name a.needs)⟩ x.name = ⟨a.name, a.v, dropN x.name a.needs⟩
  num : (insN nmD y (dropN x.name a.needs)).length ≤ 7 ∧ (insN nmD x (dropN x.name a.needs)).length ≤ 7 ∧ (dropN x.name a.needs).length ≤ 6
theorem once_is {a : Mf} {x y : Nd} (hs : SrtN nmD a.needs) (hl : a.needs.length ≤ 6) (hn : Lk.nameB x.name = true) (hne : x.name ≠ a.name) (hy : y.name = x.name) : OnceIs a x y := by
  have hsd := drop_srt (nm := x.name) hs
  have hld := drop_len x.name a.needs
  have hix := insN_len nmD x (dropN x.name a.needs)
  have hiy := insN_len nmD y (dropN x.name a.needs)
  refine ⟨add_is hs hn hne (by omega), ?_, ?_, by rw [← hy]; exact ins_has y _, ?_, by omega, by omega, by omega⟩
  · rw [add_is (insN_srt nmD x _ hsd) (by rw [hy]; exact hn) (by rw [hy]; exact hne) (by show (insN nmD x (dropN x.name a.needs)).length < 20; omega), hy]
    simp only
    rw [ins_drop, drop_drop]
  · rw [add_is hsd (by rw [hy]; exact hn) (by rw [hy]; exact hne) (by show (dropN x.name a.needs).length < 20; omega), hy]
    simp only
    rw [drop_drop]
  · show (⟨a.name, a.v, dropN x.name (insN nmD y (dropN x.name a.needs))⟩ : Mf) = _
    rw [← hy, ins_drop, drop_drop]
end Go.Proofs.YtjlkmdmpejpmpaaGreatDoor.Ma

namespace Go.Proofs.YtjlkmdmpejpmpaaGreatDoor.Ma
open Go.RowKit H S Ve Sp Od
attribute [local irreducible] H.CL H.RW H.CW H.Yd H.thenK H.blockQ Go.Calls

/-- A manifest that fits. -/
structure FitM (m : Mf) : Prop where
  num : m.needs.length ≤ 20
  name : m.name.length ≤ 100000
  fit : Fit m.v
  a : m.v.a ≤ 9223372036854775807
  b : m.v.b ≤ 9223372036854775807
  c : m.v.c ≤ 9223372036854775807
  text : (textV m.v).length ≤ 100000
  nd : ∀ d ∈ m.needs, d.name.length ≤ 100000 ∧ d.text.length ≤ 100000
theorem need_len {x : Np} (h : x.d.name.length ≤ 100000 ∧ x.d.text.length ≤ 100000) : (needT x.d).length ≤ 300000 := by
  simp only [needT, needW, List.length_append, List.length_cons, List.length_nil]; omega
theorem needs_len : ∀ (L : List Np), (∀ x ∈ L, x.d.name.length ≤ 100000 ∧ x.d.text.length ≤ 100000) → (L.flatMap fun x => needT x.d).length ≤ L.length * 300000
  | [], _ => by simp
  | x :: r, h => by
    have h1 := need_len (h x (by simp))
    have h2 := needs_len r (fun y hy => h y (by simp [hy]))
    simp only [List.flatMap_cons, List.length_append, List.length_cons]
    omega
theorem needs_snoc (L : List Np) (i : Nat) (h : i < L.length) : ((L.take (i + 1)).flatMap fun x => needT x.d) = ((L.take i).flatMap fun x => needT x.d) ++ needT (L.getD i default).d := by rw [take_snoc default L i h, List.flatMap_append]; simp
theorem textM_sort {m : Mf} {L : List Np} (h : L.map (·.d) = m.needs) : headM m ++ ((sortN nmN L).flatMap fun x => needT x.d) = textM m := by
  rw [textM, ← h, ← sortN_map nmD (·.d) L, List.flatMap_map]; rfl
theorem head_len {m : Mf} (h : FitM m) : (headM m).length ≤ 300000 := by
  have h1 := h.name
  have h2 := h.text
  simp only [headM, nameW, versW, List.length_append, List.length_cons, List.length_nil]; omega
theorem fit_sort {m : Mf} {L : List Np} (hf : FitM m) (h : L.map (·.d) = m.needs) : ∀ x ∈ sortN nmN L, x.d.name.length ≤ 100000 ∧ x.d.text.length ≤ 100000 := fun x hx => hf.nd _ (by rw [← h]; exact List.mem_map.2 ⟨x, (sortN_mem nmN L x).1 hx, rfl⟩)
theorem refManText (V : Value) (m : Mf) (w : World) (hV : MfAt w V m) (hf : FitM m) : Calls Tryz.prog 14 #[V] w fun e w' => K0 w w' ∧ e = .returned (vs (textM m)) := by
  obtain ⟨p, q, L, rfl, hp, hq, hL⟩ := hV
  have hLl : L.length = m.needs.length := by have := congrArg List.length hL; rw [List.length_map] at this; exact this
  have hnum := hf.num
  have hnm := hf.name
  have htx := hf.text
  refine H.enter Tryz.func14 Tryz.ntmps14 rfl rfl ?_; dsimp only [H.args]
  refine CL.seq ?_
  refine CL.region ?_
  refine RW.box rfl rfl (fun w1 hb1 hk1 hlt1 => ?_)
  have hb1' : w1.heap[w.heap.size]? = some (.cells (mfC m p q).toArray mfT (0, 0)) := hb1
  clear hb1
  repeat' (first | (refine CL.seq ?_) | (refine Gt.nil ?_; refine RW.nilw [0, 1, 2, 3, 4, 5, 21] ?_; dsimp only [H.keep, H.look, H.Fr.put, Nat.beq]) | (refine Gt.assign ?_; refine RW.y (Y.assign rfl) rfl ?_))
  refine CL.draw (fun w' => K0 w1 w') (by kernel_rfl) (fun w2 hheap hk2 => ?_)
  have hS : K0 w1 w2 := hk2
  skip
  refine AW.take 0 rfl (by kernel_rfl) (by kernel_rfl) (by kernel_rfl) rfl (by assumption) (fun w hS => Y.fieldAddr rfl (by rfl)) ?_
  refine AW.take 1 rfl (by kernel_rfl) (by kernel_rfl) (by kernel_rfl) rfl (by assumption) (fun w hS => Y.loadB rfl (hS.at0 hb1') rfl) ?_
  refine AW.take 2 rfl (by kernel_rfl) (by kernel_rfl) (by kernel_rfl) rfl (by assumption) (fun w hS => by exact Y.cat rfl rfl (by (simp only [List.length_append, List.length_cons, List.length_nil]; omega))) ?_
  refine AW.take 3 rfl (by kernel_rfl) (by kernel_rfl) (by kernel_rfl) rfl (by assumption) (fun w hS => by exact Y.cat rfl rfl (by (simp only [List.length_append, List.length_cons, List.length_nil]; omega))) ?_
  refine AW.take 4 rfl (by kernel_rfl) (by kernel_rfl) (by kernel_rfl) rfl (by assumption) (fun w hS => Y.fieldAddr rfl (by rfl)) ?_
  refine AW.take 5 rfl (by kernel_rfl) (by kernel_rfl) (by kernel_rfl) rfl (by assumption) (fun w hS => Y.loadN (cs := [_, _, _, _]) rfl rfl (mfVer (hS.at0 hb1'))) ?_
  refine AW.next 6 rfl (by kernel_rfl) ?_
  refine RW.fn rfl rfl ((refVText _ m.v w2 ⟨_, rfl, hp.keep0 (hk1.trans0 hk2)⟩ hf.fit hf.a hf.b hf.c).mono ?_)
  rintro e w3 ⟨hk3, rfl⟩
  refine RW.nil (Nm.then ⟨hS.trans0 hk3, ?_⟩)
  have hS := hS.trans0 hk3
  refine AW.take 7 rfl (by kernel_rfl) (by kernel_rfl) (by kernel_rfl) rfl (by assumption) (fun w hS => by exact Y.cat rfl rfl (by (simp only [List.length_append, List.length_cons, List.length_nil]; omega))) ?_
  refine AW.take 8 rfl (by kernel_rfl) (by kernel_rfl) (by kernel_rfl) rfl (by assumption) (fun w hS => by exact Y.cat rfl rfl (by (simp only [List.length_append, List.length_cons, List.length_nil]; omega))) ?_
  refine AW.take 9 rfl (by kernel_rfl) (by kernel_rfl) (by kernel_rfl) rfl (by assumption) (fun w hS => Y.assign rfl) ?_
  refine AW.donew [1, 3] (by kernel_rfl) ?_
  dsimp only [H.keep, H.look, H.Fr.put, Nat.beq]
  have hb3 := hS.at0 hb1'
  have hK3 := hk1.trans0 hS
  have hhd : ([110, 97, 109, 101, 32] : T) ++ m.name ++ [10, 118, 101, 114, 115, 105, 111, 110, 32] ++ textV m.v ++ [10] = headM m := by simp [headM, nameW, versW]
  rw [hhd]
  repeat' (first | (refine CL.seq ?_) | (refine CL.region ?_) | (refine Gt.fieldAddr ?_; refine RW.y (Y.fieldAddr rfl (by rfl)) rfl ?_) | (refine Gt.load ?_; (refine RW.y (Y.loadB rfl (by assumption) rfl) rfl ?_)))
  refine RW.fn rfl rfl ((refSorted q L w3 (hq.keep0 hK3) (by omega)).mono ?_)
  rintro e w4 ⟨hk4, u, rfl, hu⟩
  have hML : (sortN nmN L).length = L.length := sortN_len nmN L
  have hmf := fit_sort hf hL
  have hts := textM_sort hL
  have hhl := head_len hf
  generalize sortN nmN L = M at *
  generalize headM m = hd at *
  repeat' (first | (refine CL.seq ?_) | (refine CL.region ?_) | (refine CL.block ?_) | (refine Gt.nil ?_; refine RW.nilw [0, 1, 2, 3, 4, 5, 21] ?_; dsimp only [H.keep, H.look, H.Fr.put, Nat.beq]) | (refine Gt.assign ?_; refine RW.y (Y.assign rfl) rfl ?_))
  refine CL.loopS [3, 4, 5] (fun k vals wr => ∃ i : Nat, vals = [vs (hd ++ (M.take i).flatMap fun x => needT x.d), u, .int .i64 (i : Int)] ∧ k = M.length - i ∧ i ≤ M.length ∧ K0 w4 wr) M.length ⟨_, rfl, 0, by simp, rfl, Nat.zero_le _, Kept.refl _ _⟩ ?_
  rintro k vals wr ⟨i, rfl, rfl, hi, hkr⟩
  dsimp only [List.zip, List.zipWith]
  have hsr := hu.1.keep0 hkr
  rcases Nat.lt_or_ge i M.length with hlt | hge
  · have hti : ((i : Int)).toNat = i := Int.toNat_natCast i
    obtain ⟨g1, o1, hsp1, hcl1⟩ := elSpot hsr ndK.len (i := (i : Int)) (by omega) (by omega)
    have hF := hmf _ (mem_getD (l := M) default hlt)
    have hsn := needs_snoc M i hlt
    have hpl := needs_len (M.take i) (fun y hy => hmf y (List.mem_of_mem_take hy))
    rw [List.length_take] at hpl
    rw [hti] at hcl1
    generalize M.getD i default = x at *
    generalize hq : (M.take i).flatMap (fun x => needT x.d) = qq at *
    have hll : (hd ++ qq).length ≤ 10000000 := by rw [List.length_append]; omega
    have hend : hd ++ (qq ++ needT x.d) = hd ++ qq ++ [110, 101, 101, 100, 32] ++ x.d.name ++ [32] ++ x.d.text ++ [10] := by simp [needT, needW]
    obtain ⟨hF1, hF2⟩ := hF
    generalize hd ++ qq = tt at *
    repeat' (first | (refine CL.seq ?_) | (refine CL.region ?_) | (refine CL.skip ?_) | (refine CL.condP rfl (fun _ => ?_) (fun _ => ?_) <;> try (exfalso; omega)) | (refine CL.block ?_) | (refine Gt.nil ?_; refine RW.nilw [0, 1, 2, 3, 4, 5, 21] ?_; dsimp only [H.keep, H.look, H.Fr.put, Nat.beq]) | (refine Gt.move ?_; refine RW.y (Y.move rfl) rfl ?_) | (refine Gt.len ?_; (refine RW.y (Y.lenx rfl (by assumption)) rfl ?_)) | (refine Gt.lss ?_; refine RW.y (Y.lss rfl rfl) rfl ?_))
    refine CL.draw (fun w' => K0 wr w') (by kernel_rfl) (fun w5 hheap hk5 => ?_)
    have hS : K0 wr w5 := hk5
    skip
    refine AW.take 0 rfl (by kernel_rfl) (by kernel_rfl) (by kernel_rfl) rfl (by assumption) (fun w hS => Y.move rfl) ?_
    refine AW.take 1 rfl (by kernel_rfl) (by kernel_rfl) (by kernel_rfl) rfl (by assumption) (fun w hS => by exact Y.cat rfl rfl (by (simp only [List.length_append, List.length_cons, List.length_nil]; omega))) ?_
    refine AW.take 2 rfl (by kernel_rfl) (by kernel_rfl) (by kernel_rfl) rfl (by assumption) (fun w hS => Y.move rfl) ?_
    refine AW.take 3 rfl (by kernel_rfl) (by kernel_rfl) (by kernel_rfl) rfl (by assumption) (fun w hS => Y.move rfl) ?_
    refine AW.take 4 rfl (by kernel_rfl) (by kernel_rfl) (by kernel_rfl) rfl (by assumption) (fun w hS => Y.idx rfl rfl (hsr.keep0 hS) (by omega) (by omega)) ?_
    refine AW.take 5 rfl (by kernel_rfl) (by kernel_rfl) (by kernel_rfl) rfl (by assumption) (fun w hS => Y.fieldAddr (congrArg (fun a => some (Value.pointer (some a))) hsp1) (by rfl)) ?_
    refine AW.take 6 rfl (by kernel_rfl) (by kernel_rfl) (by kernel_rfl) rfl (by assumption) (fun w hS => Y.load1A rfl (hcl1 _ hS 0 _ rfl)) ?_
    refine AW.take 7 rfl (by kernel_rfl) (by kernel_rfl) (by kernel_rfl) rfl (by assumption) (fun w hS => by exact Y.cat rfl rfl (by (simp only [List.length_append, List.length_cons, List.length_nil]; omega))) ?_
    refine AW.take 8 rfl (by kernel_rfl) (by kernel_rfl) (by kernel_rfl) rfl (by assumption) (fun w hS => by exact Y.cat rfl rfl (by (simp only [List.length_append, List.length_cons, List.length_nil]; omega))) ?_
    refine AW.take 9 rfl (by kernel_rfl) (by kernel_rfl) (by kernel_rfl) rfl (by assumption) (fun w hS => Y.move rfl) ?_
    refine AW.take 10 rfl (by kernel_rfl) (by kernel_rfl) (by kernel_rfl) rfl (by assumption) (fun w hS => Y.move rfl) ?_
    refine AW.take 11 rfl (by kernel_rfl) (by kernel_rfl) (by kernel_rfl) rfl (by assumption) (fun w hS => Y.idx rfl rfl (hsr.keep0 hS) (by omega) (by omega)) ?_
    refine AW.take 12 rfl (by kernel_rfl) (by kernel_rfl) (by kernel_rfl) rfl (by assumption) (fun w hS => Y.fieldAddr (congrArg (fun a => some (Value.pointer (some a))) hsp1) (by rfl)) ?_
    refine AW.take 13 rfl (by kernel_rfl) (by kernel_rfl) (by kernel_rfl) rfl (by assumption) (fun w hS => Y.load1A rfl (hcl1 _ hS 3 _ rfl)) ?_
    refine AW.take 14 rfl (by kernel_rfl) (by kernel_rfl) (by kernel_rfl) rfl (by assumption) (fun w hS => by exact Y.cat rfl rfl (by (simp only [List.length_append, List.length_cons, List.length_nil]; omega))) ?_
    refine AW.take 15 rfl (by kernel_rfl) (by kernel_rfl) (by kernel_rfl) rfl (by assumption) (fun w hS => by exact Y.cat rfl rfl (by (simp only [List.length_append, List.length_cons, List.length_nil]; omega))) ?_
    refine AW.take 16 rfl (by kernel_rfl) (by kernel_rfl) (by kernel_rfl) rfl (by assumption) (fun w hS => Y.assign rfl) ?_
    refine AW.donew [3, 4, 5] (by kernel_rfl) ?_
    dsimp only [H.keep, H.look, H.Fr.put, Nat.beq]
    repeat' (first | (refine CL.region ?_) | (refine CL.done ?_) | (refine Nm.block ?_) | (refine Nm.then ?_) | (refine Gt.nil ?_; refine RW.nilw [0, 1, 2, 3, 4, 5, 21] ?_; dsimp only [H.keep, H.look, H.Fr.put, Nat.beq]) | (refine Gt.add ?_; (refine RW.y (Y.add64 rfl rfl (by omega) (by omega)) rfl ?_)) | (refine Gt.move ?_; refine RW.y (Y.move rfl) rfl ?_) | (refine Gt.assign ?_; refine RW.y (Y.assign rfl) rfl ?_))
    exact ⟨M.length - (i + 1), _, rfl, rfl, rfl, by omega, i + 1, by rw [hsn, hend]; simp, rfl, by omega, hkr.trans0 hk5⟩
  · have hi : i = M.length := by omega
    subst hi
    repeat' (first | (refine CL.seq ?_) | (refine CL.region ?_) | (refine CL.condP rfl (fun _ => ?_) (fun _ => ?_) <;> try (exfalso; omega)) | (refine CL.exit ?_) | (refine Ex.then ?_) | (refine Ex.hit ?_) | (refine CL.ret ?_) | (refine Gt.nil ?_; refine RW.nilw [0, 1, 2, 3, 4, 5, 21] ?_; dsimp only [H.keep, H.look, H.Fr.put, Nat.beq]) | (refine Gt.move ?_; refine RW.y (Y.move rfl) rfl ?_) | (refine Gt.assign ?_; refine RW.y (Y.assign rfl) rfl ?_) | (refine Gt.len ?_; (refine RW.y (Y.lenx rfl (by assumption)) rfl ?_)) | (refine Gt.lss ?_; refine RW.y (Y.lss rfl rfl) rfl ?_))
    exact FQ.one rfl rfl rfl ⟨(hK3.trans0 hk4).trans0 hkr, by rw [List.take_length, hts]⟩
end Go.Proofs.YtjlkmdmpejpmpaaGreatDoor.Ma

namespace Go.Proofs.YtjlkmdmpejpmpaaGreatDoor.Ma
open Go.RowKit H S Ve Sp Od
attribute [local irreducible] H.CL H.RW H.CW H.Yd H.thenK H.blockQ Go.Calls

theorem laysW : Go.Proofs.Lays.n166 Tryz.prog Tryz.lays156_ren := { Tryz.lays156 with }
theorem laysS : Go.Proofs.Lays.n169 Tryz.prog Tryz.lays156_ren := { Tryz.lays156 with }
abbrev bldT : TypeId := 76
abbrev u8T : TypeId := 5
/-- A builder in memory, that holds a text; what is written through it. -/
def BldF (w : World) (B b : Nat) (l : T) : Prop := Go.Lib.IsBuilderF bldT u8T B b (bv l) w
def WrK (B b : Nat) (w : World) (k : Nat) : Prop := B ≤ k ∧ (k = b ∨ ∃ c fz, w.heap[k]? = some (.cells c u8T fz))
theorem BldF.keep0 {w w' : World} {B b : Nat} {l : T} (h : BldF w B b l) (k : K0 w w') : BldF w' B b l := by
  have key : ∀ v n xs, w.ownsRowF B u8T 1 v n xs → w'.ownsRowF B u8T 1 v n xs := fun v n xs hr => by
    refine ⟨hr.1, ?_⟩
    rcases hr.2 with h | ⟨g, cap, cur, fz, h1, hb, hg, r⟩
    · exact .inl h
    · exact .inr ⟨g, cap, cur, fz, h1, hb, k.at0 hg, r⟩
  rcases h with ⟨hB, v, hb, ho, hn⟩ | ⟨hB, v, hb, ho, hn⟩
  · exact .inl ⟨hB, v, k.at0 hb, key _ _ _ ho, hn⟩
  · exact .inr ⟨hB, v, k.at0 hb, key _ _ _ ho, hn⟩
theorem BldF.new {w : World} {g : Nat} (h : w.heap[g]? = some (.cells #[.pointer none, .slice none 0 0] bldT (0, 0))) : BldF w g g [] :=
  Go.Lib.IsBuilderF.of (.inl ⟨Nat.le_refl _, _, h, World.ownsRow_nil _ _ _ _, by simp [Value.ownBlock]⟩)
theorem kept_wr {B b : Nat} {w w' : World} (h : Below B w w') (ho : Go.Lib.OthersKept u8T (some b) w w') : Kept (WrK B b w) w w' := ⟨h.os, h.tape, h.output, h.size, fun k hk hn => by
  rcases Nat.lt_or_ge k B with hlt | hge
  · exact h.block k hlt
  · obtain ⟨o, hob⟩ : ∃ o, w.heap[k]? = some o := ⟨_, Array.getElem?_eq_getElem hk⟩
    rw [hob]
    exact ho k o hob (fun c => hn ⟨hge, .inl (Option.some.inj c)⟩) fun c fz e => hn ⟨hge, .inr ⟨c, fz, by rw [hob, e]⟩⟩⟩
theorem writeK (B b : Nat) (l s : T) (w : World) (h : BldF w B b l) (hlen : l.length + s.length ≤ 140737488355328) (hB : B ≤ w.heap.size) : Calls Tryz.prog 36 #[.pointer (some ⟨b, 0, none⟩), vs s] w fun e w' => e = .returned (.tuple #[.int .i64 (s.length : Int), .nilIface]) ∧ BldF w' B b (l ++ s) ∧ Kept (WrK B b w) w w' := by
  refine (Go.Proofs.Any.Builder_WriteString_k laysW Tryz.Builder_Extra_156 B b (bv l) (H.B s) w h (by rw [List.length_map]; exact hlen) hB).mono ?_
  rintro e w' ⟨rfl, h1, h2, h3⟩
  refine ⟨rfl, .inr ?_, kept_wr h2 h3⟩
  rw [bv, List.map_append]; exact h1
theorem strK (B b : Nat) (l : T) (w : World) (h : BldF w B b l) (hB : B ≤ w.heap.size) : Calls Tryz.prog 39 #[.pointer (some ⟨b, 0, none⟩)] w fun e w' => e = .returned (vs l) ∧ Kept (WrK B b w) w w' := by
  refine (Go.Proofs.Any.Builder_String_any_k laysS Tryz.Builder_Extra_156 B b l w h hB).mono ?_
  rintro e w' ⟨rfl, _, h2, h3⟩
  exact ⟨rfl, kept_wr h2 h3⟩
/-- A row of another type is not written. -/
theorem own_not {w : World} {B B' b n : Nat} {e : TypeId} {u : Value} {xs : List Value} (h : w.ownsRow B' e 4 u n xs) (hb : b < B') (he : Nat.beq e u8T = false) : ∀ g, u.ownBlock = some g → ¬ WrK B b w g := by
  intro g hg ⟨_, c⟩
  have hlt := (h.lt g hg).1
  rcases h.2 with ⟨h, _⟩ | ⟨g', cap, cur, rfl, hB, hg', _⟩
  · rw [h] at hg; cases hg
  · rcases c with c | ⟨c, fz, hc⟩
    · have c' : g = b := c
      omega
    · cases hg
      rw [hg'] at hc
      cases hc
      simp at he

set_option maxHeartbeats 1000000 in
theorem text (V : Value) (m : Mf) (w : World) (hV : MfAt w V m) (hf : FitM m) (hT : Tb w) : Calls Tryz.prog 13 #[V] w fun e w' => K0 w w' ∧ e = .returned (vs (textM m)) := by
  obtain ⟨p, q, L, rfl, hp, hq, hL⟩ := hV
  have hLl : L.length = m.needs.length := by have := congrArg List.length hL; rw [List.length_map] at this; exact this
  have hnum := hf.num
  have hnm := hf.name
  have htx := hf.text
  refine H.enter Tryz.func13 Tryz.ntmps13 rfl rfl ?_; dsimp only [H.args]
  refine CL.seq ?_
  refine CL.region ?_
  refine RW.box rfl rfl (fun w1 hb1 hk1 hlt1 => ?_)
  repeat' (first | (refine CL.seq ?_) | (refine CL.region ?_) | (refine Gt.nil ?_; refine RW.nilw [0, 1, 2, 3, 5, 18, 19, 20, 21] ?_; dsimp only [H.keep, H.look, H.Fr.put, Nat.beq]) | (refine Gt.assign ?_; refine RW.y (Y.assign rfl) rfl ?_))
  refine RW.alloc rfl (fun w2 hb2 hk2 hlt2 => ?_)
  have hz1 := hk1.size
  have hz2 := hk2.size
  have hb1' : w2.heap[w.heap.size]? = some (.cells (mfC m p q).toArray mfT (0, 0)) := hk2.at0 hb1
  have hB2 : BldF w2 w1.heap.size w1.heap.size [] := BldF.new hb2
  clear hb1 hb2
  repeat' (first | (refine CL.seq ?_) | (refine Gt.nil ?_; refine RW.nilw [0, 1, 2, 3, 5, 18, 19, 20, 21] ?_; dsimp only [H.keep, H.look, H.Fr.put, Nat.beq]))
  refine CL.drawz (fun w' => K0 w2 w') (fun j => Nat.beq j 9) (by kernel_rfl) (fun w3 hheap hk3 => ?_)
  have hS : K0 w2 w3 := hk3
  skip
  refine AL.take 0 [1, 2, 3, 7, 8, 9] rfl (by kernel_rfl) (by kernel_rfl) (by kernel_rfl) (by kernel_rfl) rfl (by assumption) (fun w hS => Y.fieldAddr rfl (by rfl)) ?_
  refine AL.take 1 [2, 3, 7, 8, 9] rfl (by kernel_rfl) (by kernel_rfl) (by kernel_rfl) (by kernel_rfl) rfl (by assumption) (fun w hS => Y.loadB rfl (hS.at0 hb1') rfl) ?_
  refine AL.take 2 [3, 7, 8, 9] rfl (by kernel_rfl) (by kernel_rfl) (by kernel_rfl) (by kernel_rfl) rfl (by assumption) (fun w hS => by exact Y.cat rfl rfl (by (simp only [List.length_append, List.length_cons, List.length_nil]; omega))) ?_
  refine AL.take 3 [7, 8, 9] rfl (by kernel_rfl) (by kernel_rfl) (by kernel_rfl) (by kernel_rfl) rfl (by assumption) (fun w hS => by exact Y.cat rfl rfl (by (simp only [List.length_append, List.length_cons, List.length_nil]; omega))) ?_
  refine AL.take 4 [5, 6, 7, 8, 9] rfl (by kernel_rfl) (by kernel_rfl) (by kernel_rfl) (by kernel_rfl) rfl (by assumption) (fun w hS => Y.fieldAddr rfl (by rfl)) ?_
  refine AL.take 5 [6, 7, 8, 9] rfl (by kernel_rfl) (by kernel_rfl) (by kernel_rfl) (by kernel_rfl) rfl (by assumption) (fun w hS => Y.loadN (cs := [_, _, _, _]) rfl rfl (mfVer (hS.at0 hb1'))) ?_
  refine AL.next 6 rfl (by kernel_rfl) ?_
  refine RW.fn rfl rfl ((Ve.text _ m.v w3 ⟨_, rfl, hp.keep0 ((hk1.trans0 hk2).trans0 hS)⟩ hf.fit (hT.keep0 ((hk1.trans0 hk2).trans0 hS)) hf.a hf.b hf.c).mono ?_)
  rintro e w4 ⟨hk4, rfl⟩
  refine RW.nil (Nm.then ⟨hS.trans0 hk4, ?_⟩)
  have hS := hS.trans0 hk4
  refine AL.take 7 [8, 9] rfl (by kernel_rfl) (by kernel_rfl) (by kernel_rfl) (by kernel_rfl) rfl (by assumption) (fun w hS => by exact Y.cat rfl rfl (by (simp only [List.length_append, List.length_cons, List.length_nil]; omega))) ?_
  refine AL.take 8 [9] rfl (by kernel_rfl) (by kernel_rfl) (by kernel_rfl) (by kernel_rfl) rfl (by assumption) (fun w hS => by exact Y.cat rfl rfl (by (simp only [List.length_append, List.length_cons, List.length_nil]; omega))) ?_
  refine AL.last 9 rfl (by kernel_rfl) rfl ?_
  have hz4 := hS.size
  have hhd : ([110, 97, 109, 101, 32] : T) ++ m.name ++ [10, 118, 101, 114, 115, 105, 111, 110, 32] ++ textV m.v ++ [10] = headM m := by simp [headM, nameW, versW]
  rw [hhd]
  have hhl := head_len hf
  refine RW.fn rfl rfl ((writeK _ _ [] (headM m) w4 (hB2.keep0 hS) (by simp; omega) (by omega)).mono ?_)
  rintro e w5 ⟨rfl, hB5, hk5⟩
  refine RW.nil (Nm.then ⟨trivial, ?_⟩)
  skip
  refine AL.donew [1, 3] (by kernel_rfl) ?_
  dsimp only [H.keep, H.look, H.Fr.put, Nat.beq]
  have hb5 := hk5.at (hS.at0 hb1') fun c => by have := c.1; omega
  have hK5 : K0 w w5 := ((hk1.trans0 hk2).trans0 hS).trans hk5 fun k c => .inr (by have := c.1; omega)
  have hz5 := hk5.size
  repeat' (first | (refine CL.seq ?_) | (refine CL.region ?_) | (refine Gt.load ?_; (refine RW.y (Y.loadB rfl (by assumption) rfl) rfl ?_)) | (refine Gt.fieldAddr ?_; refine RW.y (Y.fieldAddr rfl (by rfl)) rfl ?_))
  refine RW.fn rfl rfl ((sorted q L w5 (hq.keep0 hK5) (by omega)).mono ?_)
  rintro e w6 ⟨hk6, u, rfl, hu⟩
  have hz6 := hk6.size
  have hmf := fit_sort hf hL
  have hts := textM_sort hL
  have hro := hu.1
  have hone : ∀ x ∈ sortN nmN L, x.p.oneCell' = true := fun x hx => (hu.2 x hx).1.1.one
  have hML : (sortN nmN L).length ≤ 20 := by rw [sortN_len]; omega
  generalize sortN nmN L = M at *
  generalize headM m = hd at *
  have hB6 := hB5.keep0 hk6
  have hK6 := hK5.trans0 hk6
  have hsu := Sl.of_own hro
  repeat' (first | (refine CL.block ?_) | (refine Gt.nil ?_; refine RW.nilw [0, 1, 2, 3, 5, 18, 19, 20, 21] ?_; dsimp only [H.keep, H.look, H.Fr.put, Nat.beq]) | (refine Gt.move ?_; refine RW.y (Y.move rfl) rfl ?_) | (refine Gt.len ?_; (refine RW.y (Y.lenx rfl (by assumption)) rfl ?_)))
  refine CL.loopS [3, 18, 19, 20] (fun k vals wr => ∃ i : Nat, vals = [.pointer (some ⟨w1.heap.size, 0, none⟩), u, .int .i64 (M.length : Int), .int .i64 (i : Int)] ∧ k = M.length - i ∧ i ≤ M.length ∧ BldF wr w1.heap.size w1.heap.size (hd ++ (M.take i).flatMap fun x => needT x.d) ∧ wr.ownsRow w5.heap.size ndT 4 u M.length (M.flatMap npC) ∧ K0 w wr ∧ w5.heap.size ≤ wr.heap.size) M.length ⟨_, rfl, 0, rfl, rfl, Nat.zero_le _, by simpa using hB6, hro, hK6, by omega⟩ ?_
  rintro k vals wr ⟨i, rfl, rfl, hi, hBr, hrow, hKr, hzr⟩
  dsimp only [List.zip, List.zipWith]
  have hsr : Sl wr 4 u M.length (M.flatMap ndK.enc) := Sl.of_own hrow
  rcases Nat.lt_or_ge i M.length with hlt | hge
  · have hti : ((i : Int)).toNat = i := Int.toNat_natCast i
    have hF := hmf _ (mem_getD (l := M) default hlt)
    have ho1 := hone _ (mem_getD (l := M) default hlt)
    have hsn := needs_snoc M i hlt
    have hpl := needs_len (M.take i) (fun y hy => hmf y (List.mem_of_mem_take hy))
    rw [List.length_take] at hpl
    obtain ⟨x, hxe⟩ : ∃ x, M.getD i default = x := ⟨_, rfl⟩
    have hxe' : M.getD ((i : Int)).toNat default = x := by rw [hti]; exact hxe
    rw [hxe] at hF ho1 hsn
    obtain ⟨hF1, hF2⟩ := hF
    have hend : ([110, 101, 101, 100, 32] : T) ++ x.d.name ++ [32] ++ x.d.text ++ [10] = needT x.d := by simp [needT, needW]
    have hnl := need_len ⟨hF1, hF2⟩
    repeat' (first | (refine CL.seq ?_) | (refine CL.region ?_) | (refine CL.skip ?_) | (refine CL.condP rfl (fun _ => ?_) (fun _ => ?_) <;> try (exfalso; omega)) | (refine CL.block ?_) | (refine Gt.nil ?_; refine RW.nilw [0, 1, 2, 3, 5, 18, 19, 20, 21] ?_; dsimp only [H.keep, H.look, H.Fr.put, Nat.beq]) | (refine Gt.lss ?_; refine RW.y (Y.lss rfl rfl) rfl ?_) | (refine Gt.idx ?_; (refine RW.elemA rfl rfl rfl rfl (by assumption) (fun _ => by rfl) rfl (by omega) (by omega) (fun _ => ?_))))
    rw [hxe']
    refine RW.varN rfl (by rfl) rfl (npC_one ho1) rfl (fun w7 hb7 hk7 hlt7 => ?_)
    have hz7 := hk7.size
    repeat' (first | (refine CL.region ?_) | (refine Gt.nil ?_; refine RW.nilw [0, 1, 2, 3, 5, 18, 19, 20, 21] ?_; dsimp only [H.keep, H.look, H.Fr.put, Nat.beq]) | (refine Gt.add ?_; (refine RW.y (Y.cat rfl rfl (by (simp only [List.length_append, List.length_cons, List.length_nil]; omega))) rfl ?_)) | (refine Gt.load ?_; (refine RW.y (Y.loadB rfl (by assumption) rfl) rfl ?_)) | (refine Gt.fieldAddr ?_; refine RW.y (Y.fieldAddr rfl (by rfl)) rfl ?_))
    rw [hend]
    refine RW.fn rfl rfl ((writeK _ _ _ (needT x.d) w7 (hBr.keep0 hk7) (by rw [List.length_append]; omega) (by omega)).mono ?_)
    rintro e w8 ⟨rfl, hB8, hk8⟩
    have hz8 := hk8.size
    repeat' (first | (refine CL.region ?_) | (refine CL.done ?_) | (refine Nm.block ?_) | (refine Nm.then ?_) | (refine Gt.nil ?_; refine RW.nilw [0, 1, 2, 3, 5, 18, 19, 20, 21] ?_; dsimp only [H.keep, H.look, H.Fr.put, Nat.beq]) | (refine Gt.add ?_; (refine RW.y (Y.add64 rfl rfl (by omega) (by omega)) rfl ?_)) | (refine Gt.move ?_; refine RW.y (Y.move rfl) rfl ?_))
    have hrow7 := own_kept0 hrow hk7
    exact ⟨M.length - (i + 1), _, rfl, rfl, rfl, by omega, i + 1, by simp, rfl, by omega, by rw [hsn, ← List.append_assoc]; exact hB8, own_kept hrow7 hk8 (own_not hrow7 (by omega) rfl), (hKr.trans0 hk7).trans hk8 fun k c => .inr (by have := c.1; omega), by omega⟩
  · have hi : i = M.length := by omega
    subst hi
    repeat' (first | (refine CL.seq ?_) | (refine CL.region ?_) | (refine CL.condP rfl (fun _ => ?_) (fun _ => ?_) <;> try (exfalso; omega)) | (refine CL.exit ?_) | (refine Ex.then ?_) | (refine Ex.hit ?_) | (refine Gt.nil ?_; refine RW.nilw [0, 1, 2, 3, 5, 18, 19, 20, 21] ?_; dsimp only [H.keep, H.look, H.Fr.put, Nat.beq]) | (refine Gt.lss ?_; refine RW.y (Y.lss rfl rfl) rfl ?_))
    refine RW.fn rfl rfl ((strK _ _ _ wr hBr (by omega)).mono ?_)
    rintro e w9 ⟨rfl, hk9⟩
    repeat' (first | (refine CL.ret ?_) | (refine Gt.nil ?_; refine RW.nilw [0, 1, 2, 3, 5, 18, 19, 20, 21] ?_; dsimp only [H.keep, H.look, H.Fr.put, Nat.beq]) | (refine Gt.assign ?_; refine RW.y (Y.assign rfl) rfl ?_))
    exact FQ.one rfl rfl rfl ⟨hKr.trans hk9 fun k c => .inr (by have := c.1; omega), by rw [List.take_length, hts]⟩
end Go.Proofs.YtjlkmdmpejpmpaaGreatDoor.Ma

namespace Go.Proofs.YtjlkmdmpejpmpaaGreatDoor.Ma
open Go.RowKit H S Ve Sp Od
attribute [local irreducible] H.CL H.RW H.CW H.Yd H.thenK H.blockQ Go.Calls

def knT : T := [110, 97, 109, 101, 32, 97, 10, 118, 101, 114, 115, 105, 111, 110, 32, 49, 46, 48, 46, 48, 10, 110, 101, 101, 100, 32, 98, 32, 94, 49, 46, 48, 46, 48, 10]
def knU : T := [110, 97, 109, 101, 32, 97, 10, 118, 101, 114, 115, 105, 111, 110, 32, 120, 10]
def knM : Mf := (manB knT).1
theorem kn_k : (manB knT).2.1 = 0 := by decide +kernel
theorem kn_c : (manB knT).2.2 = 0 := by decide +kernel
theorem kn_name : knM.name = [97] := by decide +kernel
theorem kn_len : knM.needs.length = 1 := by decide +kernel
theorem kn_nd : knM.needs.map (fun d => (d.name, d.text)) = [([98], [94, 49, 46, 48, 46, 48])] := by decide +kernel
theorem kn_text : textM knM = knT := by decide +kernel
theorem kn_has : hasN knM.needs [98] = true := by decide +kernel
theorem kn_rem : (remB knM [98]).needs.length = 0 := by decide +kernel
theorem kn_a : knM.v.a = 1 ∧ knM.v.b = 0 ∧ knM.v.c = 0 ∧ knM.v.pre = [] := by decide +kernel
theorem kn_vt : (textV knM.v).length = 5 := by decide +kernel
theorem ku_k : (manB knU).2.1 = 2 := by decide +kernel
theorem ku_c : (manB knU).2.2 = 62 := by decide +kernel
theorem kn_fit : FitM knM where
  num := by rw [kn_len]; decide
  name := by rw [kn_name]; decide
  fit := by
    obtain ⟨_, _, _, h⟩ := kn_a
    exact ⟨by rw [h]; decide, fun s hs => by rw [h] at hs; cases hs⟩
  a := by rw [kn_a.1]; decide
  b := by rw [kn_a.2.1]; decide
  c := by rw [kn_a.2.2.1]; decide
  text := by rw [kn_vt]; decide
  nd := fun d hd => by
    have h : (d.name, d.text) ∈ knM.needs.map (fun d => (d.name, d.text)) := List.mem_map.2 ⟨d, hd, rfl⟩
    rw [kn_nd, List.mem_singleton] at h
    have h1 := congrArg Prod.fst h
    have h2 := congrArg Prod.snd h
    simp only at h1 h2
    rw [h1, h2]; decide
set_option maxHeartbeats 1000000 in
theorem known (w : World) (hM : Ml w) (hT : Tb w) : Calls Tryz.prog 9 #[] w fun e w' => K0 w w' ∧ e = .returned (.bool true) := by
  refine H.enter Tryz.func9 Tryz.ntmps9 rfl rfl ?_; dsimp only [H.args]
  repeat' (first | (refine CL.seq ?_) | (refine CL.region ?_) | (refine Gt.nil ?_; refine RW.nilw [0, 1, 2, 3, 4, 6, 7, 8, 9] ?_; dsimp only [H.keep, H.look, H.Fr.put, Nat.beq]) | (refine Gt.move ?_; refine RW.y (Y.move rfl) rfl ?_) | (refine Gt.assign ?_; refine RW.y (Y.assign rfl) rfl ?_))
  refine RW.fn rfl rfl ((parseM knT (by decide) w hM).mono ?_)
  rintro e w1 ⟨hk1, V, rfl, hV⟩
  rw [kn_k, kn_c]
  obtain ⟨p, q, L, rfl, hp, hq, hL⟩ := (hV : MfAt w1 V knM)
  have hLl : L.length = 1 := by have := congrArg List.length hL; rw [List.length_map] at this; rw [this]; exact kn_len
  repeat' (first | (refine Gt.move ?_; refine RW.y (Y.move rfl) rfl ?_) | (refine Gt.extract ?_; refine RW.y (Y.extract rfl rfl) rfl ?_))
  refine RW.varN rfl (by rfl) rfl (mfCells _ hp.one hq.1.one) rfl (fun w2 hb2 hk2 hlt2 => ?_)
  have hK2 := hk1.trans0 hk2
  repeat' (first | (refine CL.seq ?_) | (refine CL.region ?_) | (refine Gt.nil ?_; refine RW.nilw [0, 1, 2, 3, 4, 6, 7, 8, 9] ?_; dsimp only [H.keep, H.look, H.Fr.put, Nat.beq]) | (refine Gt.assign ?_; refine RW.y (Y.assign rfl) rfl ?_))
  refine RW.fn rfl rfl ((parseM knU (by decide) w2 (hM.keep0 hK2)).mono ?_)
  rintro e w3 ⟨hk3, V3, rfl, hV3⟩
  rw [ku_k, ku_c]
  obtain ⟨p3, q3, L3, rfl, hp3, hq3, hL3⟩ := hV3
  repeat' (first | (refine Gt.move ?_; refine RW.y (Y.move rfl) rfl ?_) | (refine Gt.extract ?_; refine RW.y (Y.extract rfl rfl) rfl ?_))
  refine RW.varN rfl (by rfl) rfl (mfCells _ hp3.one hq3.1.one) rfl (fun w4 hb4 hk4 hlt4 => ?_)
  have hK4 := hk2.trans0 (hk3.trans0 hk4)
  have hb24 := hk4.at0 (hk3.at0 hb2)
  repeat' (first | (refine CL.seq ?_) | (refine CL.region ?_) | (refine Gt.nil ?_; refine RW.nilw [0, 1, 2, 3, 4, 6, 7, 8, 9] ?_; dsimp only [H.keep, H.look, H.Fr.put, Nat.beq]) | (refine RW.y (Y.loadBlock rfl hb24 rfl) rfl ?_) | (refine Gt.assign ?_; refine RW.y (Y.assign rfl) rfl ?_))
  refine RW.fn rfl rfl ((remove _ knM [98] w4 ⟨p, q, L, rfl, hp.keep0 hK4, hq.keep0 hK4, hL⟩ (by rw [kn_len]; decide)).mono ?_)
  rintro e w5 ⟨hk5, V5, rfl, p5, q5, L5, rfl, hp5, hq5, hL5⟩
  rw [kn_has]
  have hL5l : L5.length = 0 := by have := congrArg List.length hL5; rw [List.length_map] at this; rw [this]; exact kn_rem
  repeat' (first | (refine Gt.move ?_; refine RW.y (Y.move rfl) rfl ?_) | (refine Gt.extract ?_; refine RW.y (Y.extract rfl rfl) rfl ?_))
  refine RW.varN rfl (by rfl) rfl (mfCells _ hp5.one hq5.ga.1.one) rfl (fun w6 hb6 hk6 hlt6 => ?_)
  have hK6 := hK4.trans0 (hk5.trans0 hk6)
  have hb26 := hk6.at0 (hk5.at0 hb24)
  have hq6 := hq.keep0 hK6
  have hs6 := hq6.1
  have hq56 := hq5.ga.keep0 hk6
  have hs56 := hq56.1
  clear hb2 hb24 hb4
  have kn1 : (manB knT).1.name = [97] := kn_name
  repeat' (first | (refine CL.seq ?_) | (refine CL.region ?_) | (refine CL.ret ?_) | (refine Gt.nil ?_; refine RW.nilw [0, 1, 2, 3, 4, 6, 7, 8, 9] ?_; dsimp only [H.keep, H.look, H.Fr.put, Nat.beq]) | (refine Gt.move ?_; refine RW.y (Y.move rfl) rfl ?_) | (refine Gt.guard ?_; first | (refine RW.part rfl rfl rfl (fun _ => ?_) (fun _ => ?_) <;> try (exfalso; omega)) | (refine RW.on rfl rfl rfl ?_) | (refine RW.off1 rfl rfl rfl rfl rfl ?_)) | (refine Gt.pick ?_; first | (refine RW.y (Y.pickT rfl rfl) rfl ?_) | (refine RW.y (Y.pickF rfl rfl) rfl ?_)) | (refine Gt.assign ?_; refine RW.y (Y.assign rfl) rfl ?_) | (refine Gt.eql ?_; first | (refine RW.y (Y.eqi rfl rfl) rfl ?_) | (refine RW.y (Y.eqs rfl rfl) rfl ?_)) | (refine Gt.load ?_; first | (refine RW.y (Y.loadB rfl (by assumption) rfl) rfl ?_) | (refine RW.y (Y.loadBlock rfl (by assumption) rfl) rfl ?_)) | (refine Gt.fieldAddr ?_; refine RW.y (Y.fieldAddr rfl (by rfl)) rfl ?_) | (refine Gt.len ?_; (refine RW.y (Y.lenx rfl (by assumption)) rfl ?_)))
  any_goals (try (exfalso; omega))
  any_goals (try (rename_i h; exact absurd kn1 h))
  any_goals (try (rename_i h _; exact absurd kn1 h))
  refine RW.fn rfl rfl ((text _ knM w6 ⟨p, q, L, rfl, hp.keep0 hK6, hq6, hL⟩ kn_fit (hT.keep0 (hk1.trans0 hK6))).mono ?_)
  rintro e w7 ⟨hk7, rfl⟩
  rw [kn_text]
  have hb87 := hk7.at0 hb6
  have hs57 := hs56.keep0 hk7
  have n1 : Lk.nameB [97, 45, 49] = true := by decide +kernel
  have n2 : Lk.nameB [49, 97] = false := by decide +kernel
  repeat' (first | (refine CL.ret ?_) | (refine Gt.nil ?_; refine RW.nilw [0, 1, 2, 3, 4, 6, 7, 8, 9] ?_; dsimp only [H.keep, H.look, H.Fr.put, Nat.beq]) | (refine Gt.move ?_; refine RW.y (Y.move rfl) rfl ?_) | (refine Gt.guard ?_; first | (refine RW.part rfl rfl rfl (fun _ => ?_) (fun _ => ?_) <;> try (exfalso; omega)) | (refine RW.on rfl rfl rfl ?_) | (refine RW.off1 rfl rfl rfl rfl rfl ?_)) | (refine Gt.pick ?_; first | (refine RW.y (Y.pickT rfl rfl) rfl ?_) | (refine RW.y (Y.pickF rfl rfl) rfl ?_)) | (refine Gt.assign ?_; refine RW.y (Y.assign rfl) rfl ?_) | (refine Gt.eql ?_; first | (refine RW.y (Y.eqi rfl rfl) rfl ?_) | (refine RW.y (Y.eqs rfl rfl) rfl ?_)) | (refine Gt.load ?_; (refine RW.y (Y.loadB rfl (by assumption) rfl) rfl ?_)) | (refine Gt.fieldAddr ?_; refine RW.y (Y.fieldAddr rfl (by rfl)) rfl ?_) | (refine Gt.len ?_; (refine RW.y (Y.lenx rfl (by assumption)) rfl ?_)))
  any_goals (try (rename_i h; exact absurd rfl h))
  refine RW.fn rfl rfl ((Lk.name [97, 45, 49] (by decide) w7).mono ?_)
  rintro e w' ⟨rfl, rfl⟩
  rw [n1]
  repeat' (first | (refine Gt.move ?_; refine RW.y (Y.move rfl) rfl ?_) | (refine Gt.guard ?_; (refine RW.on rfl rfl rfl ?_)) | (refine Gt.pick ?_; (refine RW.y (Y.pickT rfl rfl) rfl ?_)))
  refine RW.fn rfl rfl ((Lk.name [49, 97] (by decide) w7).mono ?_)
  rintro e w' ⟨rfl, rfl⟩
  rw [n2]
  repeat' (first | (refine CL.ret ?_) | (refine Gt.nil ?_; refine RW.nilw [0, 1, 2, 3, 4, 6, 7, 8, 9] ?_; dsimp only [H.keep, H.look, H.Fr.put, Nat.beq]) | (refine Gt.guard ?_; (refine RW.on rfl rfl rfl ?_)) | (refine Gt.pick ?_; (refine RW.y (Y.pickT rfl rfl) rfl ?_)) | (refine Gt.assign ?_; refine RW.y (Y.assign rfl) rfl ?_) | (refine Gt.not ?_; (refine RW.y (Y.notb rfl) rfl ?_)))
  exact FQ.one rfl rfl rfl ⟨(hk1.trans0 hK6).trans0 hk7, rfl⟩
end Go.Proofs.YtjlkmdmpejpmpaaGreatDoor.Ma

namespace Go.Proofs.YtjlkmdmpejpmpaaGreatDoor.H
open Go.RowKit
end Go.Proofs.YtjlkmdmpejpmpaaGreatDoor.H

namespace Go.Proofs.YtjlkmdmpejpmpaaGreatDoor.H
open Go.RowKit
/-- What an operation yielded, and the blocks that came while it ran. -/
structure Rec where
  v : Value
  lo : Nat
  hi : Nat
instance : Inhabited Rec := ⟨⟨undef, 0, 0⟩⟩
def edgesOf (ops : Array Oper) (i : Nat) : List Nat := match ops[i]? with
  | some o => (o.after.toList.filter fun e => Region.binds .any e).map (·.on)
  | none => []
def dstOf (ops : Array Oper) (i : Nat) : Option Nat := (ops[i]?).bind (·.dst)
def upR (V : Nat → Rec) (i : Nat) (r : Rec) : Nat → Rec := fun j => if j = i then r else V j
theorem upR_same (V : Nat → Rec) (i : Nat) (r : Rec) : upR V i r i = r := if_pos rfl
theorem upR_ne (V : Nat → Rec) {i j : Nat} (r : Rec) (h : j ≠ i) : upR V i r j = V j := if_neg h
/-- What is said of a region's operations: G: of whose values a fact speaks; dp: whom an operation comes behind; us, ub: the slots it reads; ms: into whose blocks it writes. -/
structure Plan where
  G : Nat → List Nat
  dp : Nat → List Nat
  us : Nat → List (Nat × Nat)
  ub : Nat → List Nat
  ms : Nat → List Nat
def Plan.ok1 (p : Plan) (ops : Array Oper) (i : Nat) : Bool :=
  ((edgesOf ops i).all fun j => Nat.blt j i) && ((p.dp i).all fun j => (edgesOf ops i).contains j || (edgesOf ops i).any fun m => (p.dp m).contains j)
  && ((p.G i).all fun j => Nat.beq j i || (p.dp i).contains j) && ((p.us i).all fun x => (p.dp i).contains x.2 && decide (dstOf ops x.2 = some x.1))
  && ((List.range ops.size).all fun j => Nat.beq j i || !decide (dstOf ops j = dstOf ops i) || decide (dstOf ops i = none))
  && ((p.ub i).all fun x => (List.range ops.size).all fun k => !decide (dstOf ops k = some x) || Nat.beq k i || (edgesOf ops k).contains i)
  && ((p.ms i).all fun m => (p.dp i).contains m && (List.range ops.size).all fun j => !(p.G j).contains m || (p.ms i).contains j || Nat.beq j i || (p.dp j).contains i)
def Plan.ok (p : Plan) (ops : Array Oper) : Bool := (List.range ops.size).all (p.ok1 ops)
structure Plan.Ok (p : Plan) (ops : Array Oper) (i : Nat) : Prop where
  lt : ∀ j ∈ edgesOf ops i, j < i
  dp : ∀ j ∈ p.dp i, j ∈ edgesOf ops i ∨ ∃ m ∈ edgesOf ops i, j ∈ p.dp m
  G : ∀ j ∈ p.G i, j = i ∨ j ∈ p.dp i
  us : ∀ x ∈ p.us i, x.2 ∈ p.dp i ∧ dstOf ops x.2 = some x.1
  one : ∀ j < ops.size, j ≠ i → ∀ d, dstOf ops i = some d → dstOf ops j ≠ some d
  ub : ∀ x ∈ p.ub i, ∀ k < ops.size, dstOf ops k = some x → k = i ∨ i ∈ edgesOf ops k
  ms : ∀ m ∈ p.ms i, m ∈ p.dp i ∧ ∀ j < ops.size, m ∈ p.G j → j ∈ p.ms i ∨ j = i ∨ i ∈ p.dp j
theorem Plan.is {p : Plan} {ops : Array Oper} (h : p.ok ops = true) {i : Nat} (hi : i < ops.size) : p.Ok ops i := by
  have h1 := List.all_eq_true.1 h i (List.mem_range.2 hi)
  simp only [Plan.ok1, Bool.and_eq_true, List.all_eq_true, Bool.or_eq_true, Nat.beq_eq, List.contains_iff_mem, List.any_eq_true, Bool.not_eq_true', decide_eq_true_eq, decide_eq_false_iff_not, List.mem_range] at h1
  obtain ⟨⟨⟨⟨⟨⟨a1, a2⟩, a3⟩, a4⟩, a5⟩, a6⟩, a7⟩ := h1
  refine ⟨fun j hj => blt_lt (a1 j hj), fun j hj => a2 j hj, fun j hj => a3 j hj, fun x hx => a4 x hx, fun j hj hne d hd c => ?_, fun x hx k hk hd => ?_, fun m hm => ⟨(a7 m hm).1, fun j hj hG => ?_⟩⟩
  · rcases a5 j hj with (h | h) | h
    · exact hne h
    · exact h (c.trans hd.symm)
    · rw [h] at hd; cases hd
  · rcases a6 x hx k hk with (h | h) | h
    · exact absurd hd h
    · exact .inl h
    · exact .inr h
  · rcases (a7 m hm).2 j hj with ((h | h) | h) | h
    · rw [← List.contains_iff_mem, h] at hG; cases hG
    · exact .inl h
    · exact .inr (.inl h)
    · exact .inr (.inr h)
/-- The state of a region under way. -/
structure Par (p : Plan) (ops : Array Oper) (F : Nat → List Rec → World → Prop) (e0 : List (Nat × Value)) (w0 : World) (D : Nat → Prop) (V : Nat → Rec) (E : List (Nat × Value)) (w : World) : Prop where
  cl : ∀ i j, D i → j ∈ p.dp i → D j
  ce : ∀ i j, D i → j ∈ edgesOf ops i → D j
  k0 : K0 w0 w
  val : ∀ i d, D i → dstOf ops i = some d → look E d = some (V i).v
  base : ∀ t v, look e0 t = some v → (∀ i, D i → dstOf ops i ≠ some t) → look E t = some v
  fact : ∀ i, D i → F i ((p.G i).map V) w
  rng : ∀ i, D i → w0.heap.size ≤ (V i).lo ∧ (V i).lo ≤ (V i).hi ∧ (V i).hi ≤ w.heap.size
  dis : ∀ i j, i ≠ j → D i → D j → (V i).hi ≤ (V j).lo ∨ (V j).hi ≤ (V i).lo
theorem AW.oneK {P : Program} {ops : Array Oper} {Q : Post} {f : Fr} {w : World} {M : Act → World → Prop} {K : Fr → World → Prop} (i : Nat) {o : Oper} (hi : ops[i]? = some o) (k : RW none P ops (thenK K Q) [o] f w) (hK : ∀ f' w' a', K f' w' → Ag f' a' → M a' w') {a : Act} (ha : Ag f a) : wpOp P ops (lift Q) i M a w := by
  have h : wpList P ops _ [o] a w := k a ha
  unfold wpList at h
  unfold wpOp
  simp only [hi]
  have hq : ∀ x a w, lift (thenK K Q) x a w → match x with
      | .normal => M a w
      | x => lift Q x a w := by
    intro x a w ⟨g, hg, q⟩
    cases x with
    | normal => exact hK g w a q hg
    | _ => exact ⟨g, hg, q⟩
  by_cases hw : Region.wanted o (yielded ops a.tmps) = true
  · rw [if_pos hw] at h
    simp only [hw, if_true]
    rcases h with h | ⟨h1, a0, w0, h2⟩
    · left
      exact oper_mono (fun a w hk => hq .normal a w hk) (fun c a w hk => hq (.panic c) a w hk) (fun a w hk => hq .outgrown a w hk) h
    · exact .inr ⟨h1, a0, w0, hq .outgrown a0 w0 h2⟩
  · rw [if_neg hw] at h
    simp only [hw, if_false, Bool.false_eq_true]
    exact hq .normal _ _ h
def putE (d : Option Nat) (v : Value) (e : List (Nat × Value)) : List (Nat × Value) := match d with
  | some d => (d, v) :: e
  | none => e
/-- What is to be shown of an operation. -/
def StepP (P : Program) (ops : Array Oper) (Q : Post) (p : Plan) (F : Nat → List Rec → World → Prop) (e0 : List (Nat × Value)) (w0 : World) (n : Nat) (ds : List Deferred) (i : Nat) (o : Oper) : Prop :=
  ∀ (V : Nat → Rec) (E : List (Nat × Value)) (w : World) (fe : List (Nat × Value)), fe = (p.us i).map (fun x => (x.1, (V x.2).v)) ++ (keep (p.ub i) e0 ++ E) → K0 w0 w → (∀ j ∈ p.dp i, F j ((p.G j).map V) w ∧ w0.heap.size ≤ (V j).lo ∧ (V j).lo ≤ (V j).hi ∧ (V j).hi ≤ w.heap.size) → (∀ j ∈ p.dp i, ∀ k ∈ p.dp i, j ≠ k → (V j).hi ≤ (V k).lo ∨ (V k).hi ≤ (V j).lo) →
    RW none P ops (thenK (fun f' w' => ∃ v, f' = ⟨n, ds, putE o.dst v fe⟩ ∧ Kept (fun k => ∃ m ∈ p.ms i, (V m).lo ≤ k ∧ k < (V m).hi) w w' ∧ F i ((p.G i).map (upR V i ⟨v, w.heap.size, w'.heap.size⟩)) w' ∧ ∀ m ∈ p.ms i, F m ((p.G m).map V) w') Q) [o] ⟨n, ds, fe⟩ w
/-- Facts are kept. -/
def KeptF (F : Nat → List Rec → World → Prop) (w0 : World) : Prop := ∀ (j : Nat) (l : List Rec) (w w' : World) (S : Nat → Prop), F j l w → Kept S w w' → (∀ k, k < w.heap.size → S k → w0.heap.size ≤ k ∧ ∀ r ∈ l, ¬ (r.lo ≤ k ∧ k < r.hi)) → F j l w'
theorem look_app {a b : List (Nat × Value)} {t : Nat} {u : Value} (h : look b t = some u) (hc : ∀ x ∈ a, look b x.1 = some x.2) : look (a ++ b) t = some u := by
  induction a with
  | nil => exact h
  | cons x r ih =>
    have ih := ih fun y hy => hc y (by simp [hy])
    obtain ⟨k, v⟩ := x
    show look ((k, v) :: (r ++ b)) t = some u
    by_cases hk : k = t
    · subst hk
      have := hc (k, v) (by simp)
      rw [h] at this
      simp only [look, beq_self]
      exact this.symm ▸ rfl
    · have hb : Nat.beq k t = false := by rw [Bool.eq_false_iff]; exact fun c => hk (Nat.eq_of_beq_eq_true c)
      simp only [look, hb]; exact ih
theorem keep_mem {x : Nat × Value} {e : List (Nat × Value)} : ∀ {l : List Nat}, x ∈ keep l e → x.1 ∈ l ∧ look e x.1 = some x.2
  | [], h => by cases h
  | t :: r, h => by
    rw [keep] at h
    cases hl : look e t with
    | none => rw [hl] at h; have := keep_mem (l := r) h; exact ⟨by simp [this.1], this.2⟩
    | some v =>
      rw [hl] at h
      rcases List.mem_cons.1 h with rfl | h
      · exact ⟨by simp, hl⟩
      · have := keep_mem (l := r) h; exact ⟨by simp [this.1], this.2⟩
theorem Par.step {p : Plan} {ops : Array Oper} {F : Nat → List Rec → World → Prop} {e0 : List (Nat × Value)} {w0 : World} {D : Nat → Prop} {V : Nat → Rec} {E : List (Nat × Value)} {w w' : World} (hp : p.ok ops = true) (hF : KeptF F w0) {i : Nat} {o : Oper} (hi : ops[i]? = some o) (hD : ¬ D i) (hlt : ∀ j, D j → j < ops.size) (hed : ∀ j ∈ edgesOf ops i, D j) (h : Par p ops F e0 w0 D V E w)
    {v : Value} (hk : Kept (fun k => ∃ m ∈ p.ms i, (V m).lo ≤ k ∧ k < (V m).hi) w w') (hf : F i ((p.G i).map (upR V i ⟨v, w.heap.size, w'.heap.size⟩)) w') (hm : ∀ m ∈ p.ms i, F m ((p.G m).map V) w') :
    Par p ops F e0 w0 (fun j => j = i ∨ D j) (upR V i ⟨v, w.heap.size, w'.heap.size⟩) (putE o.dst v E) w' := by
  have hil : i < ops.size := (Array.getElem?_eq_some_iff.1 hi).1
  have hO := Plan.is hp hil
  have hds : dstOf ops i = o.dst := by rw [dstOf, hi]; rfl
  have hdp : ∀ j ∈ p.dp i, D j := fun j hj => (hO.dp j hj).elim (hed j) fun ⟨m, hm, hj⟩ => h.cl m j (hed m hm) hj
  have hne : ∀ j, D j → j ≠ i := fun j hj c => hD (c ▸ hj)
  have hgm : ∀ j, D j → (p.G j).map (upR V i ⟨v, w.heap.size, w'.heap.size⟩) = (p.G j).map V := fun j hj => List.map_congr_left fun k hk => upR_ne V _ (hne k (((Plan.is hp (hlt j hj)).G k hk).elim (fun c => c ▸ hj) (h.cl j k hj)))
  have hsz := hk.size
  refine ⟨?_, ?_, ?_, ?_, ?_, ?_, ?_, ?_⟩
  · rintro j k (rfl | hj) hk
    · exact .inr (hdp k hk)
    · exact .inr (h.cl j k hj hk)
  · rintro j k (rfl | hj) hk
    · exact .inr (hed k hk)
    · exact .inr (h.ce j k hj hk)
  · exact h.k0.trans hk fun k ⟨m, hm, h1, _⟩ => .inr (Nat.le_trans (h.rng m (hdp m (hO.ms m hm).1)).1 h1)
  · intro j d hj hd
    rcases hj with rfl | hj
    · rw [hds] at hd; rw [hd, upR_same]; simp [putE, look, beq_self]
    · rw [upR_ne V _ (hne j hj)]
      have h1 := h.val j d hj hd
      cases hq : o.dst with
      | none => exact h1
      | some q =>
        have : q ≠ d := fun c => hO.one j (hlt j hj) (hne j hj) q (hds.trans hq) (c ▸ hd)
        have hb : Nat.beq q d = false := by rw [Bool.eq_false_iff]; exact fun c => this (Nat.eq_of_beq_eq_true c)
        simp only [putE, look, hb]; exact h1
  · intro t u ht hn
    have h1 := h.base t u ht fun j hj => hn j (.inr hj)
    cases hq : o.dst with
    | none => exact h1
    | some q =>
      have : q ≠ t := fun c => hn i (.inl rfl) (by rw [hds, hq, c])
      have hb : Nat.beq q t = false := by rw [Bool.eq_false_iff]; exact fun c => this (Nat.eq_of_beq_eq_true c)
      simp only [putE, look, hb]; exact h1
  · rintro j (rfl | hj)
    · exact hf
    · rw [hgm j hj]
      by_cases hjm : j ∈ p.ms i
      · exact hm j hjm
      · refine hF j _ w w' _ (h.fact j hj) hk fun k hkl ⟨m, hm, h1, h2⟩ => ⟨Nat.le_trans (h.rng m (hdp m (hO.ms m hm).1)).1 h1, fun r hr => ?_⟩
        obtain ⟨g, hg, rfl⟩ := List.mem_map.1 hr
        have hgD : D g := ((Plan.is hp (hlt j hj)).G g hg).elim (fun c => c ▸ hj) (h.cl j g hj)
        have hmg : m ≠ g := fun c => by
          subst c
          rcases (hO.ms m hm).2 j (hlt j hj) hg with a | a | a
          · exact hjm a
          · exact hne j hj a
          · exact hD (h.cl j i hj a)
        have := h.dis m g hmg (hdp m (hO.ms m hm).1) hgD
        omega
  · rintro j (rfl | hj)
    · rw [upR_same]; exact ⟨h.k0.size, hsz, Nat.le_refl _⟩
    · rw [upR_ne V _ (hne j hj)]
      have := h.rng j hj
      omega
  · rintro j k hjk (rfl | hj) (rfl | hk')
    · exact absurd rfl hjk
    · rw [upR_same, upR_ne V _ (hne k hk')]
      exact .inr (h.rng k hk').2.2
    · rw [upR_same, upR_ne V _ (hne j hj)]
      exact .inl (h.rng j hj).2.2
    · rw [upR_ne V _ (hne j hj), upR_ne V _ (hne k hk')]
      exact h.dis j k hjk hj hk'
theorem set_getD {l : Array Bool} {i j : Nat} (hi : i < l.size) : (l.setIfInBounds i true).getD j false = true ↔ j = i ∨ l.getD j false = true := by
  by_cases h : i = j
  · subst h; simp [hi]
  · simp [Array.getD_eq_getD_getElem?, Array.getElem?_setIfInBounds, h, Ne.symm h]
theorem par_go {P : Program} {ops : Array Oper} {Q : Post} {p : Plan} {F : Nat → List Rec → World → Prop} {e0 : List (Nat × Value)} {w0 : World} {n : Nat} {ds : List Deferred} (hp : p.ok ops = true) (hF : KeptF F w0) 
    (hs : ∀ i o, ops[i]? = some o → StepP P ops Q p F e0 w0 n ds i o)
    (hfin : ∀ (V : Nat → Rec) (E : List (Nat × Value)) (w : World), Par p ops F e0 w0 (fun j => j < ops.size) V E w → ∃ e, (∀ t u, look e t = some u → look E t = some u) ∧ Q .normal ⟨n, ds, e⟩ w) :
    ∀ (m : Nat) (r : List Nat) (l : Array Bool) (V : Nat → Rec) (E : List (Nat × Value)) (a : Act) (w : World), l.size = ops.size → r.length ≤ m → (∀ i < ops.size, l.getD i false = false → i ∈ r) → Par p ops F e0 w0 (fun j => l.getD j false = true) V E w → Ag ⟨n, ds, E⟩ a → wpAnyH P .any ops (lift Q) (fun _ => True) m l a w := by
  have hall : ∀ (l : Array Bool), l.size = ops.size → Region.ready .any ops l = [] → ∀ j, l.getD j false = true ↔ j < ops.size := by
    intro l hl hr j
    refine ⟨fun h => ?_, fun h => ?_⟩
    · rcases Nat.lt_or_ge j l.size with h1 | h1
      · omega
      · simp [Array.getD_eq_getD_getElem?, Array.getElem?_eq_none h1] at h
    · induction j using Nat.strongRecOn with
      | _ j ih =>
        cases hc : l.getD j false with
        | true => rfl
        | false =>
          have hjr : j ∈ Region.ready .any ops l := mem_ready.2 ⟨by
            rw [← hc, Array.getD_eq_getD_getElem?, Array.getD_eq_getD_getElem?, Array.getElem?_eq_getElem (by omega)]; rfl, ops[j], Array.getElem?_eq_getElem h, fun e he hb => by
            have hm : e.on ∈ edgesOf ops j := by
              rw [edgesOf, Array.getElem?_eq_getElem h]
              exact List.mem_map.2 ⟨e, List.mem_filter.2 ⟨by simpa using he, hb⟩, rfl⟩
            have h1 := (Plan.is hp h).lt e.on hm
            exact ih e.on h1 (by omega)⟩
          rw [hr] at hjr; cases hjr
  have hdone : ∀ (l : Array Bool) V E a w, l.size = ops.size → Par p ops F e0 w0 (fun j => l.getD j false = true) V E w → Ag ⟨n, ds, E⟩ a → Region.ready .any ops l = [] → lift Q .normal a w := fun l V E a w hl hP ha hr => by
    have e : (fun j => l.getD j false = true) = fun j => j < ops.size := funext fun j => propext (hall l hl hr j)
    rw [e] at hP
    obtain ⟨e, he, hq⟩ := hfin V E w hP
    exact ⟨_, ha.weaken he, hq⟩
  intro m
  induction m with
  | zero =>
    intro r l V E a w hl hr hc hP ha
    have hre : Region.ready .any ops l = [] := by
      refine List.eq_nil_iff_forall_not_mem.2 fun i hi => ?_
      obtain ⟨h1, o, ho, _⟩ := mem_ready.1 hi
      have hil : i < ops.size := (Array.getElem?_eq_some_iff.1 ho).1
      have h2 : l.getD i false = false := by rw [← h1, Array.getD_eq_getD_getElem?, Array.getD_eq_getD_getElem?, Array.getElem?_eq_getElem (by omega)]; rfl
      have := hc i hil h2
      rw [List.length_eq_zero_iff.1 (Nat.le_zero.1 hr)] at this; cases this
    exact ⟨hre, hdone l V E a w hl hP ha hre⟩
  | succ m ih =>
    intro r l V E a w hl hr hc hP ha
    refine ⟨hdone l V E a w hl hP ha, fun i hi => ?_⟩
    obtain ⟨h1, o, ho, hed⟩ := mem_ready.1 hi
    have hil : i < ops.size := (Array.getElem?_eq_some_iff.1 ho).1
    have h2 : l.getD i false = false := by rw [← h1, Array.getD_eq_getD_getElem?, Array.getD_eq_getD_getElem?, Array.getElem?_eq_getElem (by omega)]; rfl
    have hD : ¬ l.getD i false = true := by rw [h2]; simp
    have hO := Plan.is hp hil
    have hlt : ∀ j, l.getD j false = true → j < ops.size := fun j hj => by
      rcases Nat.lt_or_ge j l.size with q | q
      · omega
      · simp [Array.getD_eq_getD_getElem?, Array.getElem?_eq_none q] at hj
    have hed' : ∀ j ∈ edgesOf ops i, l.getD j false = true := fun j hj => by
      rw [edgesOf, ho] at hj
      obtain ⟨e, he, rfl⟩ := List.mem_map.1 hj
      obtain ⟨he, hb⟩ := List.mem_filter.1 he
      exact hed e (by simpa using he) hb
    have hdp : ∀ j ∈ p.dp i, l.getD j false = true := fun j hj => (hO.dp j hj).elim (hed' j) fun ⟨q, hq, hj⟩ => hP.cl q j (hed' q hq) hj
    have hcon : ∀ x ∈ (p.us i).map (fun x => (x.1, (V x.2).v)) ++ keep (p.ub i) e0, look E x.1 = some x.2 := fun x hx => by
      rcases List.mem_append.1 hx with hx | hx
      · obtain ⟨y, hy, rfl⟩ := List.mem_map.1 hx
        exact hP.val y.2 y.1 (hdp y.2 (hO.us y hy).1) (hO.us y hy).2
      · obtain ⟨h3, h4⟩ := keep_mem hx
        refine hP.base x.1 x.2 h4 fun k hk c => ?_
        rcases hO.ub x.1 h3 k (hlt k hk) c with rfl | q
        · exact hD hk
        · exact hD (hP.ce k i hk q)
    have hag : Ag ⟨n, ds, (p.us i).map (fun x => (x.1, (V x.2).v)) ++ (keep (p.ub i) e0 ++ E)⟩ a := ha.weaken fun t u hu => by
      rw [← List.append_assoc] at hu
      have : ∀ (A : List (Nat × Value)), (∀ x ∈ A, look E x.1 = some x.2) → look (A ++ E) t = some u → look E t = some u := by
        intro A
        induction A with
        | nil => intro _ h; exact h
        | cons x q iq =>
          intro hA h
          obtain ⟨k, v⟩ := x
          have h : look ((k, v) :: (q ++ E)) t = some u := h
          by_cases hk : k = t
          · subst hk
            simp only [look, beq_self] at h
            rw [← h]; exact hA (k, v) (by simp)
          · have hb : Nat.beq k t = false := by rw [Bool.eq_false_iff]; exact fun c => hk (Nat.eq_of_beq_eq_true c)
            simp only [look, hb] at h
            exact iq (fun y hy => hA y (by simp [hy])) h
      exact this _ hcon hu
    refine AW.oneK i ho (hs i o ho V E w _ rfl hP.k0 (fun j hj => ⟨hP.fact j (hdp j hj), hP.rng j (hdp j hj)⟩) (fun j hj k hk hjk => hP.dis j k hjk (hdp j hj) (hdp k hk))) (fun f' w' a' ⟨v, hf', hk, hf, hm⟩ ha' => ?_) hag
    subst hf'
    refine ⟨trivial, ih (r.erase i) _ (upR V i ⟨v, w.heap.size, w'.heap.size⟩) (putE o.dst v E) a' w' (by simp [hl]) ?_ (fun k hk hf => ?_) ?_ ?_⟩
    · rw [List.length_erase_of_mem (hc i hil h2)]; omega
    · have hki : k ≠ i := fun c => by
        subst c
        have := (set_getD (l := l) (j := k) (by omega)).2 (.inl rfl)
        rw [hf] at this; cases this
      have hkf : l.getD k false = false := by
        rw [Bool.eq_false_iff]; intro c
        have := (set_getD (l := l) (j := k) (show i < l.size by omega)).2 (.inr c)
        rw [hf] at this; cases this
      exact (List.mem_erase_of_ne hki).2 (hc k hk hkf)
    · have e : (fun j => (l.setIfInBounds i true).getD j false = true) = fun j => j = i ∨ l.getD j false = true := funext fun j => propext (set_getD (by omega))
      rw [e]
      exact Par.step hp hF ho hD hlt hed' hP hk hf hm
    · refine ha'.weaken fun t u hu => ?_
      have hu : look (putE o.dst v E) t = some u := hu
      show look (putE o.dst v ((p.us i).map (fun x => (x.1, (V x.2).v)) ++ (keep (p.ub i) e0 ++ E))) t = some u
      cases hq : o.dst with
      | none =>
        rw [hq] at hu
        rw [← List.append_assoc]
        exact look_app hu hcon
      | some q =>
        rw [hq] at hu
        simp only [putE, look] at hu ⊢
        cases hb : Nat.beq q t with
        | true => rw [hb] at hu; exact hu
        | false =>
          rw [hb] at hu
          simp only at hu ⊢
          rw [← List.append_assoc]
          exact look_app hu hcon
/-- All orders of a region that draws its order. -/
theorem CL.par {P : Program} {ops : Array Oper} {Q : Post} {cs : List Code} {id : Nat} {f : Fr} {w : World} (p : Plan) (F : Nat → List Rec → World → Prop) (outs : List (Nat × Nat)) (outb : List Nat) (hm : P.follows .mixedOrders = true) (hp : p.ok ops = true)
    (ho : (outs.all fun x => Nat.blt x.2 ops.size && decide (dstOf ops x.2 = some x.1)) = true) (hob : (outb.all fun x => (List.range ops.size).all fun k => !decide (dstOf ops k = some x)) = true)
    (hF : KeptF F w) (hs : ∀ i o, ops[i]? = some o → StepP P ops (thenK (CL none P Q cs) Q) p F f.e w f.n f.ds i o)
    (hfin : ∀ (V : Nat → Rec) (w' : World), K0 w w' → (∀ i < ops.size, F i ((p.G i).map V) w' ∧ w.heap.size ≤ (V i).lo ∧ (V i).lo ≤ (V i).hi ∧ (V i).hi ≤ w'.heap.size) → (∀ i < ops.size, ∀ j < ops.size, i ≠ j → (V i).hi ≤ (V j).lo ∨ (V j).hi ≤ (V i).lo) → CL none P Q cs ⟨f.n, f.ds, outs.map (fun x => (x.1, (V x.2).v)) ++ keep outb f.e⟩ w') : CL none P Q (.region id ops true :: cs) f w := by
  refine CL.draw (fun _ => True) hm fun w1 hheap hk1 => ?_
  intro a ha
  have hsz : w1.heap.size = w.heap.size := by rw [hheap]
  refine par_go (p := p) (F := F) (e0 := f.e) (w0 := w1) (n := f.n) (ds := f.ds) hp ?_ ?_ ?_ ops.size (List.range ops.size) _ (fun _ => default) f.e a w1 (by simp) (by simp) (fun i hi _ => List.mem_range.2 hi) ?_ ha
  · intro j l w2 w3 S h hk hS
    exact hF j l w2 w3 S h hk fun k hkl hSk => by rw [← hsz]; exact hS k hkl hSk
  · intro i o hi V E w2 fe hfe hk hfa hdi
    exact hs i o hi V E w2 fe hfe (hk1.trans0 hk) (fun j hj => by rw [← hsz]; exact hfa j hj) hdi
  · intro V E w2 hP
    have h1 := hfin V w2 (hk1.trans0 hP.k0) (fun i hi => ⟨hP.fact i hi, by rw [← hsz]; exact hP.rng i hi⟩) fun i hi j hj hij => hP.dis i j hij hi hj
    refine ⟨_, fun t u hu => ?_, h1⟩
    rw [List.all_eq_true] at ho hob
    have key : ∀ (A : List (Nat × Value)), (∀ x ∈ A, look E x.1 = some x.2) → look A t = some u → look E t = some u := by
      intro A
      induction A with
      | nil => intro _ h; cases h
      | cons x q iq =>
        intro hA h
        obtain ⟨k, v⟩ := x
        by_cases hk : k = t
        · subst hk
          simp only [look, beq_self] at h
          rw [← h]; exact hA (k, v) (by simp)
        · have hb : Nat.beq k t = false := by rw [Bool.eq_false_iff]; exact fun c => hk (Nat.eq_of_beq_eq_true c)
          simp only [look, hb] at h
          exact iq (fun y hy => hA y (by simp [hy])) h
    refine key _ (fun x hx => ?_) hu
    rcases List.mem_append.1 hx with hx | hx
    · obtain ⟨y, hy, rfl⟩ := List.mem_map.1 hx
      have h2 := ho y hy
      simp only [Bool.and_eq_true, decide_eq_true_eq] at h2
      exact hP.val y.2 y.1 (blt_lt h2.1) h2.2
    · obtain ⟨h3, h4⟩ := keep_mem hx
      refine hP.base x.1 x.2 h4 fun k hk c => ?_
      have h5 := List.all_eq_true.1 (hob x.1 h3) k (List.mem_range.2 hk)
      simp [c] at h5
  · have hno : ∀ j, ¬ (Array.replicate ops.size false).getD j false = true := fun j c => by
      rw [Array.getD_eq_getD_getElem?, Array.getElem?_replicate] at c
      split at c <;> simp at c
    exact ⟨fun i j h => absurd h (hno i), fun i j h => absurd h (hno i), Kept.refl _ _, fun i d h => absurd h (hno i), fun t v h _ => h, fun i h => absurd h (hno i), fun i h => absurd h (hno i), fun i j _ h => absurd h (hno i)⟩
def planOf (G dp : List (List Nat)) (us : List (List (Nat × Nat))) (ub ms : List (List Nat)) : Plan := ⟨fun i => G.getD i [], fun i => dp.getD i [], fun i => us.getD i [], fun i => ub.getD i [], fun i => ms.getD i []⟩
def allS (X : Nat → Oper → Prop) : Nat → List Oper → Prop
  | _, [] => True
  | k, o :: r => X k o ∧ allS X (k + 1) r
theorem allS_at {X : Nat → Oper → Prop} : ∀ {l : List Oper} {k : Nat}, allS X k l → ∀ i o, l[i]? = some o → X (k + i) o
  | [], k, _, i, o, hi => by simp at hi
  | a :: r, k, h, 0, o, hi => by
    have e : a = o := by simpa using hi
    exact e ▸ h.1
  | a :: r, k, h, i + 1, o, hi => by
    have := allS_at h.2 i o (by simpa using hi)
    rwa [show k + 1 + i = k + (i + 1) from by omega] at this
theorem steps {ops : Array Oper} {X : Nat → Oper → Prop} (h : allS X 0 ops.toList) : ∀ i o, ops[i]? = some o → X i o := fun i o hi => by
  have := allS_at h i o (by simpa using hi)
  rwa [Nat.zero_add] at this
/-- A fact's record is not written into. -/
theorem rec_no {l : List Rec} {w0 : Nat} {S : Nat → Prop} {n : Nat} (h : ∀ k, k < n → S k → w0 ≤ k ∧ ∀ r ∈ l, ¬ (r.lo ≤ k ∧ k < r.hi)) (j : Nat) {k : Nat} (hk : k < n) (h1 : (l.getD j default).lo ≤ k) (h2 : k < (l.getD j default).hi) : ¬ S k := fun c => by
  rcases Nat.lt_or_ge j l.length with hj | hj
  · refine (h k hk c).2 (l.getD j default) ?_ ⟨h1, h2⟩
    rw [List.getD_eq_getElem?_getD, List.getElem?_eq_getElem hj]; exact List.getElem_mem _
  · rw [List.getD_eq_getElem?_getD, List.getElem?_eq_none hj] at h2
    exact absurd h2 (Nat.not_lt_zero _)
end Go.Proofs.YtjlkmdmpejpmpaaGreatDoor.H

namespace Go.Proofs.YtjlkmdmpejpmpaaGreatDoor.Ma
open Go.RowKit H S Ve Sp Od
attribute [local irreducible] H.CL H.RW H.CW H.Yd H.thenK H.blockQ Go.Calls

theorem one_need {L : List Np} {n : Nat} (h : L.map (·.d) = needsOf [n]) : ∃ x : Np, L = [x] ∧ x.d = needOf n := by
  have e : needsOf [n] = [needOf n] := rfl
  rw [e] at h
  have hl := congrArg List.length h
  rw [List.length_map] at hl
  obtain ⟨x, rfl⟩ := List.length_eq_one_iff.1 hl
  exact ⟨x, rfl, by simpa using h⟩
theorem elZ {Z : Nat → Prop} {w w' : World} {v : Value} {x : Np} (h : GA ndK w v [x]) (hk : Kept Z w w') (hz : ∀ g, (live v = some g ∨ x.A g) → ¬ Z g) : ∀ j u, (npC x)[j]? = some u → w'.cell? ((Value.spot v ((0 : Int).toNat * 4)).add j) = some u :=
  elAll (L := [x]) (enc := npC) (h.1.keep hk fun g hg => hz g (.inl hg)) ndK.len (i := 0) (by omega) (by simp) w' (Kept.refl _ _)
theorem npCells {w : World} {x : Np} (h : ndK.D w x) : ∀ z ∈ (npC x).toArray.toList, z.oneCell' = true := fun z hz => ndK.ones w x h z (by show z ∈ npC x; simpa using hz)
theorem ga_one {w : World} {v : Value} {x : Np} (h : GA ndK w v [x]) : ndK.D w x := h.2 x (by simp)
/-- Two needs in cells of their own. -/
structure TwoNd (w w' : World) (g8 g9 : Nat) (x y : Np) (n m : Nat) : Prop where
  b8 : w'.heap[g8]? = some (.cells (npC x).toArray ndT (0, 0))
  b9 : w'.heap[g9]? = some (.cells (npC y).toArray ndT (0, 0))
  dx : ndK.D w' x
  dy : ndK.D w' y
  ix : x.d = needOf n
  iy : y.d = needOf m
  l8 : w.heap.size ≤ g8
  l9 : w.heap.size ≤ g9
  ax : ∀ g, x.A g → g ≠ g8 ∧ g ≠ g9
  ay : ∀ g, y.A g → g ≠ g8 ∧ g ≠ g9
  ne : g8 ≠ g9
  k : K0 w w'
/-- A need of a number, alone in a row of its own. -/
def Fx (n : Nat) (r : Rec) (w : World) (x : Np) : Prop := GA ndK w r.v [x] ∧ x.d = needOf n ∧ ∀ g, (live r.v = some g ∨ x.A g) → r.lo ≤ g ∧ g < r.hi
theorem Fx.keep {n : Nat} {r : Rec} {w w' : World} {x : Np} {S : Nat → Prop} (h : Fx n r w x) (hk : Kept S w w') (hS : ∀ k, k < w.heap.size → r.lo ≤ k → k < r.hi → ¬ S k) : Fx n r w' x := by
  refine ⟨h.1.keep hk fun g hg hl => ?_, h.2⟩
  have h3 : live r.v = some g ∨ x.A g := hl.imp id fun ⟨z, hz, hA⟩ => by rw [List.mem_singleton.1 hz] at hA; exact hA
  exact hS g hg (h.2.2 g h3).1 (h.2.2 g h3).2
def Fs (n : Nat) (r : Rec) (w : World) : Prop := Sl w 1 r.v 1 (u16L [n]) ∧ ∀ g, live r.v = some g → r.lo ≤ g ∧ g < r.hi
def Fa (r : Rec) (w : World) : Prop := r.v = .pointer (some ⟨r.lo, 0, none⟩) ∧ r.lo < r.hi ∧ ∃ c : Array Value, w.heap[r.lo]? = some (.cells c ndT (0, 0)) ∧ Nat.beq c.size 4 = true
def onceF (n m : Nat) (j : Nat) (l : List Rec) (w : World) : Prop := match j with
  | 0 => (l.getD 0 default).v = .int .u16 (n : Int)
  | 1 => Fs n (l.getD 0 default) w
  | 2 => ∃ x, Fx n (l.getD 0 default) w x
  | 3 => (l.getD 1 default).v = .pointer (some (Value.spot (l.getD 0 default).v ((0 : Int).toNat * 4)))
  | 4 => ∃ x, (l.getD 1 default).v = .agg (npC x).toArray ∧ Fx n (l.getD 0 default) w x
  | 5 => (l.getD 0 default).v = .int .u16 (m : Int)
  | 6 => Fs m (l.getD 0 default) w
  | 7 => ∃ x, Fx m (l.getD 0 default) w x
  | 8 => (l.getD 1 default).v = .pointer (some (Value.spot (l.getD 0 default).v ((0 : Int).toNat * 4)))
  | 9 => ∃ x, (l.getD 1 default).v = .agg (npC x).toArray ∧ Fx m (l.getD 0 default) w x
  | 10 => Fa (l.getD 0 default) w
  | 11 => Fa (l.getD 0 default) w
  | 12 => ∃ x, Fx n (l.getD 0 default) w x ∧ w.heap[(l.getD 1 default).lo]? = some (.cells (npC x).toArray ndT (0, 0)) ∧ (l.getD 1 default).lo < (l.getD 1 default).hi
  | 13 => ∃ x, Fx m (l.getD 0 default) w x ∧ w.heap[(l.getD 1 default).lo]? = some (.cells (npC x).toArray ndT (0, 0)) ∧ (l.getD 1 default).lo < (l.getD 1 default).hi
  | _ => True
theorem Fs.keep {n : Nat} {r : Rec} {w w' : World} {S : Nat → Prop} (h : Fs n r w) (hk : Kept S w w') (hS : ∀ k, k < w.heap.size → r.lo ≤ k → k < r.hi → ¬ S k) : Fs n r w' := ⟨h.1.keep hk fun g hg => hS g (h.1.lt hg) (h.2 g hg).1 (h.2 g hg).2, h.2⟩
theorem Fa.keep {r : Rec} {w w' : World} {S : Nat → Prop} (h : Fa r w) (hk : Kept S w w') (hS : ∀ k, k < w.heap.size → r.lo ≤ k → k < r.hi → ¬ S k) : Fa r w' := by
  obtain ⟨h1, h2, c, h3, h4⟩ := h
  exact ⟨h1, h2, c, hk.at h3 (hS _ (lt_of_at h3) (Nat.le_refl _) h2), h4⟩
theorem once_kept (n m : Nat) (w0 : World) : KeptF (onceF n m) w0 := by
  intro j l w w' S h hk hS
  have hr : ∀ i k, k < w.heap.size → (l.getD i default).lo ≤ k → k < (l.getD i default).hi → ¬ S k := fun i k => rec_no hS i
  unfold onceF at h ⊢
  split at h
  · exact h
  · exact h.keep hk (hr 0)
  · exact h.imp fun x h => h.keep hk (hr 0)
  · exact h
  · exact h.imp fun x h => ⟨h.1, h.2.keep hk (hr 0)⟩
  · exact h
  · exact h.keep hk (hr 0)
  · exact h.imp fun x h => h.keep hk (hr 0)
  · exact h
  · exact h.imp fun x h => ⟨h.1, h.2.keep hk (hr 0)⟩
  · exact h.keep hk (hr 0)
  · exact h.keep hk (hr 0)
  · exact h.imp fun x h => ⟨h.1.keep hk (hr 0), hk.at h.2.1 (hr 1 _ (lt_of_at h.2.1) (Nat.le_refl _) h.2.2), h.2.2⟩
  · exact h.imp fun x h => ⟨h.1.keep hk (hr 0), hk.at h.2.1 (hr 1 _ (lt_of_at h.2.1) (Nat.le_refl _) h.2.2), h.2.2⟩
  · trivial
set_option maxHeartbeats 4000000 in
theorem lawOnce (v : Value) (l : List Nat) (n m : Nat) (w : World) (hv : Sl w 1 v l.length (u16L l)) (hl : ∀ z ∈ l, z < 65536) (hn : n < 65536) (hm : m < 65536) (hM : Ml w) (hT : Tb w) : Calls Tryz.prog 8 #[v, .int .u16 (n : Int), .int .u16 (m : Int)] w fun e w' => e = .returned (.bool true) ∧ K0 w w' := by
  refine H.enter Tryz.func8 Tryz.ntmps8 rfl rfl ?_; dsimp only [H.args]
  repeat' (first | (refine CL.seq ?_) | (refine CL.region ?_) | (refine Gt.nil ?_; refine RW.nilw [0, 1, 2, 6, 7, 8, 9, 10, 12, 13, 14, 15, 16, 17, 18, 19, 21, 24] ?_; dsimp only [H.keep, H.look, H.Fr.put, Nat.beq]) | (refine Gt.assign ?_; refine RW.y (Y.assign rfl) rfl ?_))
  refine RW.fn rfl rfl ((known w hM hT).mono ?_)
  rintro e w1 ⟨hk1, rfl⟩
  have hv1 := hv.keep0 hk1
  have hmx : l.length ≤ 9223372036854775807 := by have := hv.2.1; simpa [maxLen] using this
  repeat' (first | (refine CL.seq ?_) | (refine CL.region ?_) | (refine CL.skip ?_) | (refine CL.condP rfl (fun _ => ?_) (fun _ => ?_) <;> try (exfalso; omega)) | (refine CL.condF rfl ?_) | (refine CL.ret ?_) | (refine Gt.nil ?_; refine RW.nilw [0, 1, 2, 6, 7, 8, 9, 10, 12, 13, 14, 15, 16, 17, 18, 19, 21, 24] ?_; dsimp only [H.keep, H.look, H.Fr.put, Nat.beq]) | (refine Gt.move ?_; refine RW.y (Y.move rfl) rfl ?_) | (refine Gt.assign ?_; refine RW.y (Y.assign rfl) rfl ?_) | (refine Gt.not ?_; (refine RW.y (Y.notb rfl) rfl ?_)) | (refine Gt.len ?_; (refine RW.y (Y.lenx rfl (by assumption)) rfl ?_)) | (refine Gt.gtr ?_; refine RW.y (Y.gtr rfl rfl) rfl ?_))
  · exact FQ.one rfl rfl rfl ⟨rfl, hk1⟩
  rename_i h6
  refine RW.fn rfl rfl ((seatNeeds v l w1 hv1 (by omega) hl).mono ?_)
  rintro e w2 ⟨hkr, uN, L, rfl, hN, hNd, hNs, hNl, hNu, hNA⟩
  obtain ⟨pN, cN, rfl, hcN⟩ := hN.shape
  have hNk := needsOf_ok l
  have hnl : (needsOf l).length ≤ 6 := by omega
  repeat' ((refine RW.y (Y.build (ps := [(0, _), (2, _)]) (l := [_, _]) (c := (mfC ⟨[109, 101], ⟨0, 0, 0, []⟩, needsOf l⟩ (.slice none 0 0) (.slice pN L.length cN)).toArray) rfl rfl) rfl ?_))
  refine RW.varN rfl (by rfl) rfl (mfCells _ rfl rfl) rfl (fun wr hbA hkA hltA => ?_)
  have hNA := hN.keep0 hkA
  have hKA := (hk1.trans0 hkr).trans0 hkA
  repeat' (first | (refine CL.seq ?_) | (refine Gt.nil ?_; refine RW.nilw [0, 1, 2, 6, 7, 8, 9, 10, 12, 13, 14, 15, 16, 17, 18, 19, 21, 24] ?_; dsimp only [H.keep, H.look, H.Fr.put, Nat.beq]))
  refine CL.cutS [7, 8, 9] (fun vals wq => ∃ (g8 g9 : Nat) (x y : Np), vals = [.pointer (some ⟨w2.heap.size, 0, none⟩), .pointer (some ⟨g8, 0, none⟩), .pointer (some ⟨g9, 0, none⟩)] ∧ TwoNd wr wq g8 g9 x y n m) (by simp) ?_ ?_
  · refine CL.par (planOf [[0], [1], [2], [2, 3], [2, 4], [5], [6], [7], [7, 8], [7, 9], [10], [11], [2, 10], [7, 11]] [[], [0], [1], [2], [2, 3], [], [5], [6], [7], [7, 8], [], [], [2, 4, 10], [7, 9, 11]] [[], [(28, 0)], [(29, 1)], [(30, 2)], [(31, 3)], [], [(33, 5)], [(34, 6)], [(35, 7)], [(36, 8)], [], [], [(8, 10), (32, 4)], [(9, 11), (37, 9)]] [[1], [], [], [], [], [2], [], [], [], [], [], [], [], []] [[], [], [], [], [], [], [], [], [], [], [], [], [10], [11]]) (onceF n m) [(8, 10), (9, 11)] [7] (by kernel_rfl) (by kernel_rfl) (by kernel_rfl) (by kernel_rfl) ?_ (steps ⟨?_, ?_, ?_, ?_, ?_, ?_, ?_, ?_, ?_, ?_, ?_, ?_, ?_, ?_, trivial⟩) ?_
    · exact once_kept n m wr
    · intro V E wd fe hfe hk hf hd; replace hfe : fe = (1, _) :: E := hfe
      subst hfe
      exact RW.y (Y.move rfl) rfl (RW.nil (Nm.then ⟨_, rfl, Kept.refl _ _, rfl, fun q hq => by cases hq⟩))
    · intro V E wd fe hfe hk hf hd; replace hfe : fe = (28, (V 0).v) :: E := hfe; obtain ⟨h0, l0⟩ := hf 0 (by decide)
      replace h0 : (V 0).v = .int .u16 (n : Int) := h0
      rw [h0] at hfe; subst hfe
      refine RW.build1 rfl rfl rfl rfl (fun w' hbb hkk hltb => ?_)
      refine RW.nil (Nm.then ⟨_, rfl, hkk.of0, (show Fs n ⟨.slice (some ⟨wd.heap.size, 0, none⟩) 1 1, wd.heap.size, w'.heap.size⟩ w' from ⟨sl_new (sz := 1) hbb rfl (by decide), fun g hg => ?_⟩), fun q hq => by cases hq⟩)
      have hg : wd.heap.size = g := by simpa [live] using hg
      exact ⟨by show wd.heap.size ≤ g; omega, by show g < w'.heap.size; omega⟩
    · intro V E wd fe hfe hk hf hd; replace hfe : fe = (29, (V 1).v) :: E := hfe; obtain ⟨h1, l1⟩ := hf 1 (by decide)
      replace h1 : Fs n (V 1) wd := h1
      subst hfe
      refine RW.fn rfl rfl ((seatNeeds _ [n] wd h1.1 (by simp) (fun z hz => by rw [List.mem_singleton.1 hz]; exact hn)).mono ?_)
      rintro e w' ⟨hkk, uX, LX, rfl, hX, hXd, _, _, hXu, hXA⟩
      obtain ⟨x, rfl, hxd⟩ := one_need hXd
      refine RW.nil (Nm.then ⟨_, rfl, hkk.of0, (show ∃ x, Fx n ⟨uX, wd.heap.size, w'.heap.size⟩ w' x from ⟨x, hX, hxd, fun g hg => ?_⟩), fun q hq => by cases hq⟩)
      rcases hg with hg | hg
      · exact ⟨hXu g hg, hX.1.lt hg⟩
      · exact ⟨hXA x (by simp) g hg, (ga_one hX).2 g hg⟩
    · intro V E wd fe hfe hk hf hd; replace hfe : fe = (30, (V 2).v) :: E := hfe; obtain ⟨h2, l2⟩ := hf 2 (by decide)
      obtain ⟨x, hX⟩ : ∃ x, Fx n (V 2) wd x := h2
      subst hfe
      exact RW.y (Y.idx rfl rfl hX.1.1 (by omega) (by simp)) rfl (RW.nil (Nm.then ⟨_, rfl, Kept.refl _ _, rfl, fun q hq => by cases hq⟩))
    · intro V E wd fe hfe hk hf hd; replace hfe : fe = (31, (V 3).v) :: E := hfe; obtain ⟨h2, l2⟩ := hf 2 (by decide); obtain ⟨h3, l3⟩ := hf 3 (by decide)
      obtain ⟨x, hX⟩ : ∃ x, Fx n (V 2) wd x := h2
      replace h3 : (V 3).v = .pointer (some (Value.spot (V 2).v ((0 : Int).toNat * 4))) := h3
      rw [h3] at hfe; subst hfe
      exact RW.y (Y.loadN (cs := npC x) rfl rfl (elZ hX.1 (Kept.refl (fun _ => False) _) fun _ _ c => c)) rfl (RW.nil (Nm.then ⟨_, rfl, Kept.refl _ _, (show ∃ x, _ from ⟨x, rfl, hX⟩), fun q hq => by cases hq⟩))
    · intro V E wd fe hfe hk hf hd; replace hfe : fe = (2, _) :: E := hfe
      subst hfe
      exact RW.y (Y.move rfl) rfl (RW.nil (Nm.then ⟨_, rfl, Kept.refl _ _, rfl, fun q hq => by cases hq⟩))
    · intro V E wd fe hfe hk hf hd; replace hfe : fe = (33, (V 5).v) :: E := hfe; obtain ⟨h5, l5⟩ := hf 5 (by decide)
      replace h5 : (V 5).v = .int .u16 (m : Int) := h5
      rw [h5] at hfe; subst hfe
      refine RW.build1 rfl rfl rfl rfl (fun w' hbb hkk hltb => ?_)
      refine RW.nil (Nm.then ⟨_, rfl, hkk.of0, (show Fs m ⟨.slice (some ⟨wd.heap.size, 0, none⟩) 1 1, wd.heap.size, w'.heap.size⟩ w' from ⟨sl_new (sz := 1) hbb rfl (by decide), fun g hg => ?_⟩), fun q hq => by cases hq⟩)
      have hg : wd.heap.size = g := by simpa [live] using hg
      exact ⟨by show wd.heap.size ≤ g; omega, by show g < w'.heap.size; omega⟩
    · intro V E wd fe hfe hk hf hd; replace hfe : fe = (34, (V 6).v) :: E := hfe; obtain ⟨h6, l6⟩ := hf 6 (by decide)
      replace h6 : Fs m (V 6) wd := h6
      subst hfe
      refine RW.fn rfl rfl ((seatNeeds _ [m] wd h6.1 (by simp) (fun z hz => by rw [List.mem_singleton.1 hz]; exact hm)).mono ?_)
      rintro e w' ⟨hkk, uX, LX, rfl, hX, hXd, _, _, hXu, hXA⟩
      obtain ⟨x, rfl, hxd⟩ := one_need hXd
      refine RW.nil (Nm.then ⟨_, rfl, hkk.of0, (show ∃ x, Fx m ⟨uX, wd.heap.size, w'.heap.size⟩ w' x from ⟨x, hX, hxd, fun g hg => ?_⟩), fun q hq => by cases hq⟩)
      rcases hg with hg | hg
      · exact ⟨hXu g hg, hX.1.lt hg⟩
      · exact ⟨hXA x (by simp) g hg, (ga_one hX).2 g hg⟩
    · intro V E wd fe hfe hk hf hd; replace hfe : fe = (35, (V 7).v) :: E := hfe; obtain ⟨h7, l7⟩ := hf 7 (by decide)
      obtain ⟨x, hX⟩ : ∃ x, Fx m (V 7) wd x := h7
      subst hfe
      exact RW.y (Y.idx rfl rfl hX.1.1 (by omega) (by simp)) rfl (RW.nil (Nm.then ⟨_, rfl, Kept.refl _ _, rfl, fun q hq => by cases hq⟩))
    · intro V E wd fe hfe hk hf hd; replace hfe : fe = (36, (V 8).v) :: E := hfe; obtain ⟨h7, l7⟩ := hf 7 (by decide); obtain ⟨h8, l8⟩ := hf 8 (by decide)
      obtain ⟨x, hX⟩ : ∃ x, Fx m (V 7) wd x := h7
      replace h8 : (V 8).v = .pointer (some (Value.spot (V 7).v ((0 : Int).toNat * 4))) := h8
      rw [h8] at hfe; subst hfe
      exact RW.y (Y.loadN (cs := npC x) rfl rfl (elZ hX.1 (Kept.refl (fun _ => False) _) fun _ _ c => c)) rfl (RW.nil (Nm.then ⟨_, rfl, Kept.refl _ _, (show ∃ x, _ from ⟨x, rfl, hX⟩), fun q hq => by cases hq⟩))
    · intro V E wd fe hfe hk hf hd; replace hfe : fe = E := hfe
      subst hfe
      refine RW.alloc rfl (fun w' hb hkk hlt => ?_)
      exact RW.nil (Nm.then ⟨_, rfl, hkk.of0, (show Fa ⟨.pointer (some ⟨wd.heap.size, 0, none⟩), wd.heap.size, w'.heap.size⟩ w' from ⟨rfl, hlt, _, hb, rfl⟩), fun q hq => by cases hq⟩)
    · intro V E wd fe hfe hk hf hd; replace hfe : fe = E := hfe
      subst hfe
      refine RW.alloc rfl (fun w' hb hkk hlt => ?_)
      exact RW.nil (Nm.then ⟨_, rfl, hkk.of0, (show Fa ⟨.pointer (some ⟨wd.heap.size, 0, none⟩), wd.heap.size, w'.heap.size⟩ w' from ⟨rfl, hlt, _, hb, rfl⟩), fun q hq => by cases hq⟩)
    · intro V E wd fe hfe hk hf hd; replace hfe : fe = (8, (V 10).v) :: (32, (V 4).v) :: E := hfe; obtain ⟨h2, l2⟩ := hf 2 (by decide); obtain ⟨h4, l4⟩ := hf 4 (by decide); obtain ⟨h10, l10⟩ := hf 10 (by decide)
      obtain ⟨hp, hlt, c, hb, hc⟩ : Fa (V 10) wd := h10
      obtain ⟨x, hv, hX⟩ : ∃ x, (V 4).v = .agg (npC x).toArray ∧ Fx n (V 2) wd x := h4
      have hdd := hd 2 (by decide) 10 (by decide) (by decide)
      rw [hp, hv] at hfe; subst hfe
      refine RW.storeBlock rfl rfl rfl (npCells (ga_one hX.1)) hb hc (fun w' hb' hkk => ?_)
      refine RW.nil (Nm.then ⟨undef, rfl, hkk.mono (fun k c => ⟨10, by decide, by have c : k = (V 10).lo := c; omega⟩), (show ∃ x, Fx n (V 2) w' x ∧ w'.heap[(V 10).lo]? = some (.cells (npC x).toArray ndT (0, 0)) ∧ (V 10).lo < (V 10).hi from ⟨x, hX.keep hkk (fun k _ h1 h2 c => ?_), hb', hlt⟩), fun q hq => ?_⟩)
      · have c : k = (V 10).lo := c
        omega
      · have hq : q = 10 := List.mem_singleton.1 hq
        subst hq
        exact (show Fa (V 10) w' from ⟨hp, hlt, _, hb', rfl⟩)
    · intro V E wd fe hfe hk hf hd; replace hfe : fe = (9, (V 11).v) :: (37, (V 9).v) :: E := hfe; obtain ⟨h7, l7⟩ := hf 7 (by decide); obtain ⟨h9, l9⟩ := hf 9 (by decide); obtain ⟨h11, l11⟩ := hf 11 (by decide)
      obtain ⟨hp, hlt, c, hb, hc⟩ : Fa (V 11) wd := h11
      obtain ⟨x, hv, hX⟩ : ∃ x, (V 9).v = .agg (npC x).toArray ∧ Fx m (V 7) wd x := h9
      have hdd := hd 7 (by decide) 11 (by decide) (by decide)
      rw [hp, hv] at hfe; subst hfe
      refine RW.storeBlock rfl rfl rfl (npCells (ga_one hX.1)) hb hc (fun w' hb' hkk => ?_)
      refine RW.nil (Nm.then ⟨undef, rfl, hkk.mono (fun k c => ⟨11, by decide, by have c : k = (V 11).lo := c; omega⟩), (show ∃ x, Fx m (V 7) w' x ∧ w'.heap[(V 11).lo]? = some (.cells (npC x).toArray ndT (0, 0)) ∧ (V 11).lo < (V 11).hi from ⟨x, hX.keep hkk (fun k _ h1 h2 c => ?_), hb', hlt⟩), fun q hq => ?_⟩)
      · have c : k = (V 11).lo := c
        omega
      · have hq : q = 11 := List.mem_singleton.1 hq
        subst hq
        exact (show Fa (V 11) w' from ⟨hp, hlt, _, hb', rfl⟩)
    · intro V wd hk hf hd
      obtain ⟨⟨hp8, _⟩, r8⟩ : Fa (V 10) wd ∧ _ := hf 10 (by decide)
      obtain ⟨⟨hp9, _⟩, r9⟩ : Fa (V 11) wd ∧ _ := hf 11 (by decide)
      obtain ⟨⟨x, hX, hb8, hl8⟩, _⟩ : (∃ x, Fx n (V 2) wd x ∧ wd.heap[(V 10).lo]? = some (.cells (npC x).toArray ndT (0, 0)) ∧ (V 10).lo < (V 10).hi) ∧ _ := hf 12 (by decide)
      obtain ⟨⟨y, hY, hb9, hl9⟩, _⟩ : (∃ x, Fx m (V 7) wd x ∧ wd.heap[(V 11).lo]? = some (.cells (npC x).toArray ndT (0, 0)) ∧ (V 11).lo < (V 11).hi) ∧ _ := hf 13 (by decide)
      have d1 := hd 10 (by decide) 11 (by decide) (by decide)
      have d2 := hd 2 (by decide) 10 (by decide) (by decide)
      have d3 := hd 2 (by decide) 11 (by decide) (by decide)
      have d4 := hd 7 (by decide) 10 (by decide) (by decide)
      have d5 := hd 7 (by decide) 11 (by decide) (by decide)
      change CL _ _ _ _ ⟨_, _, [(8, (V 10).v), (9, (V 11).v), (7, _)]⟩ _
      rw [hp8, hp9]
      refine CL.done (Nm.then ⟨_, rfl, rfl, rfl, (V 10).lo, (V 11).lo, x, y, rfl, hb8, hb9, ga_one hX.1, ga_one hY.1, hX.2.1, hY.2.1, r8.1, r9.1, (fun g hg => ?_), (fun g hg => ?_), by omega, hk⟩)
      · have := hX.2.2 g (.inr hg); omega
      · have := hY.2.2 g (.inr hg); omega
  · rintro vals wq ⟨g8, g9, x, y, rfl, hT2⟩
    dsimp only [List.zip, List.zipWith]
    have hb8 := hT2.b8
    have hKq := hKA.trans0 hT2.k
    have hbA1 := hT2.k.at0 hbA
    have hzA := hkA.size
    have hzq := hT2.k.size
    have h89 := hT2.ne
    have hl8 := hT2.l8
    have hl9 := hT2.l9
    obtain ⟨y', hy'⟩ : ∃ y' : Np, (⟨⟨x.d.name, y.d.sp, y.d.text⟩, y.p, y.A⟩ : Np) = y' := ⟨_, rfl⟩
    have hyn : y'.d.name = x.d.name := by rw [← hy']
    have hxok : OkD [109, 101] x.d := by rw [hT2.ix]; exact ndOf_ok _ _
    have hxl := name_len hxok.name
    repeat' (first | (refine CL.seq ?_) | (refine CL.region ?_) | (refine Gt.load ?_; (refine RW.y (Y.loadB rfl (by assumption) rfl) rfl ?_)) | (refine Gt.fieldAddr ?_; refine RW.y (Y.fieldAddr rfl (by rfl)) rfl ?_))
    refine RW.storeB rfl rfl rfl hT2.b9 (by show 0 < 4; omega) (fun w3 hb9 hk9 => ?_)
    have hb9' : w3.heap[g9]? = some (.cells (npC y').toArray ndT (0, 0)) := by rw [← hy']; exact hb9
    have hb83 := hk9.at hb8 (fun c => h89 c)
    have hbA3 := hk9.at hbA1 (fun c => by have c : w2.heap.size = g9 := c; omega)
    have hx3 : ndK.D w3 x := ndK.keep _ _ _ _ hT2.dx hk9 fun g _ hA c => (hT2.ax g hA).2 c
    have hy3 : ndK.D w3 y' := by
      rw [← hy']
      exact ndK.keep (fun k => k = g9) wq w3 ⟨⟨x.d.name, y.d.sp, y.d.text⟩, y.p, y.A⟩ hT2.dy hk9 fun g _ hA c => (hT2.ay g hA).2 c
    have hK3 : K0 w w3 := hKq.trans hk9 fun k c => .inr (by have c : k = g9 := c; have := hKA.size; omega)
    have hA3 : MfAt w3 (.agg (mfC ⟨[109, 101], ⟨0, 0, 0, []⟩, needsOf l⟩ (.slice none 0 0) (.slice pN L.length cN)).toArray) ⟨[109, 101], ⟨0, 0, 0, []⟩, needsOf l⟩ := ⟨_, _, L, rfl, Sl.nil _ _, (hNA.keep0 hT2.k).keep hk9 (fun g hg hl c => ?_), hNd⟩
    rotate_left
    · have c : g = g9 := c
      rcases hl with hl | ⟨z, hz, hl⟩
      · have := hNA.1.lt hl; omega
      · have := (hNA.2 z hz).2 g hl; omega
    have hO := once_is (a := ⟨[109, 101], ⟨0, 0, 0, []⟩, needsOf l⟩) (x := x.d) (y := y'.d) hNk.1.srt hnl hxok.name hxok.ne hyn
    obtain ⟨M0, hM0⟩ : ∃ M0 : Mf, (⟨[109, 101], ⟨0, 0, 0, []⟩, dropN x.d.name (needsOf l)⟩ : Mf) = M0 := ⟨_, rfl⟩
    obtain ⟨M1, hM1⟩ : ∃ M1 : Mf, (⟨[109, 101], ⟨0, 0, 0, []⟩, insN nmD x.d (dropN x.d.name (needsOf l))⟩ : Mf) = M1 := ⟨_, rfl⟩
    obtain ⟨M2, hM2⟩ : ∃ M2 : Mf, (⟨[109, 101], ⟨0, 0, 0, []⟩, insN nmD y'.d (dropN x.d.name (needsOf l))⟩ : Mf) = M2 := ⟨_, rfl⟩
    have h1 := hO.one
    have h2 := hO.two
    have h3 := hO.three
    have h4 := hO.back
    have h5 : hasN M2.needs x.d.name = true := by rw [← hM2]; exact hO.is
    have h0 : remB ⟨[109, 101], ⟨0, 0, 0, []⟩, needsOf l⟩ x.d.name = M0 := hM0
    have n0 : M0.needs.length ≤ 6 := by rw [← hM0]; exact hO.num.2.2
    have n1 : M1.needs.length ≤ 7 := by rw [← hM1]; exact hO.num.2.1
    have n2 : M2.needs.length ≤ 7 := by rw [← hM2]; exact hO.num.1
    simp only at h1 h2 h3 h4
    rw [hM1] at h1 h2
    rw [hM2] at h2 h3 h4
    rw [hM0] at h3 h4
    clear hM0 hM1 hM2 hO
    repeat' (first | (refine CL.seq ?_) | (refine CL.region ?_) | (refine Gt.nil ?_; refine RW.nilw [0, 1, 2, 6, 7, 8, 9, 10, 12, 13, 14, 15, 16, 17, 18, 19, 21, 24] ?_; dsimp only [H.keep, H.look, H.Fr.put, Nat.beq]) | (refine RW.y (Y.loadBlock rfl hbA3 rfl) rfl ?_) | (refine Gt.load ?_; (refine RW.y (Y.loadB rfl (by assumption) rfl) rfl ?_)) | (refine Gt.fieldAddr ?_; refine RW.y (Y.fieldAddr rfl (by rfl)) rfl ?_))
    refine RW.fn rfl rfl ((remove _ _ x.d.name w3 hA3 (by show (needsOf l).length ≤ 1000; omega)).mono ?_)
    rintro e w4 ⟨hk4, V4, rfl, hV4⟩
    rw [h0] at hV4
    obtain ⟨p4, q4, L4, rfl, hp4, hq4, hL4⟩ := hV4.at
    repeat' (first | (refine Gt.move ?_; refine RW.y (Y.move rfl) rfl ?_) | (refine Gt.extract ?_; refine RW.y (Y.extract rfl rfl) rfl ?_))
    refine RW.varN rfl (by rfl) rfl (mfCells _ hp4.one hq4.1.one) rfl (fun w5 hb5 hk5 hlt5 => ?_)
    have a0 : ∀ w', K0 w4 w' → MfAt w' (.agg (mfC M0 p4 q4).toArray) M0 := fun w' k => ⟨p4, q4, L4, rfl, hp4.keep0 k, hq4.keep0 k, hL4⟩
    have hK35 := hk4.trans0 hk5
    have hbA5 := hK35.at0 hbA3
    have hb85 := hK35.at0 hb83
    have hb95 := hK35.at0 hb9'
    repeat' (first | (refine CL.seq ?_) | (refine CL.region ?_) | (refine Gt.nil ?_; refine RW.nilw [0, 1, 2, 6, 7, 8, 9, 10, 12, 13, 14, 15, 16, 17, 18, 19, 21, 24] ?_; dsimp only [H.keep, H.look, H.Fr.put, Nat.beq]) | (refine RW.y (Y.loadBlock rfl hbA5 rfl) rfl ?_) | (refine RW.y (Y.loadBlock rfl hb85 rfl) rfl ?_) | (refine Gt.assign ?_; refine RW.y (Y.assign rfl) rfl ?_))
    refine RW.fn rfl rfl ((add _ _ x w5 (hA3.keep0 hK35) (ndK.keep0 hx3 hK35) (by show (needsOf l).length ≤ 20; omega) (by omega)).mono ?_)
    rintro e w6 ⟨hk6, V6, rfl, hV6⟩
    rw [h1] at hV6 ⊢
    obtain ⟨p6, q6, L6, rfl, hp6, hq6, hL6⟩ := (hV6 : MfAt w6 V6 M1)
    repeat' (first | (refine Gt.move ?_; refine RW.y (Y.move rfl) rfl ?_) | (refine Gt.extract ?_; refine RW.y (Y.extract rfl rfl) rfl ?_))
    refine RW.varN rfl (by rfl) rfl (mfCells _ hp6.one hq6.1.one) rfl (fun w7 hb7 hk7 hlt7 => ?_)
    have a1 : ∀ w', K0 w6 w' → MfAt w' (.agg (mfC M1 p6 q6).toArray) M1 := fun w' k => ⟨p6, q6, L6, rfl, hp6.keep0 k, hq6.keep0 k, hL6⟩
    have hK57 := hk6.trans0 hk7
    have hb97 := hK57.at0 hb95
    repeat' (first | (refine CL.seq ?_) | (refine CL.region ?_) | (refine Gt.nil ?_; refine RW.nilw [0, 1, 2, 6, 7, 8, 9, 10, 12, 13, 14, 15, 16, 17, 18, 19, 21, 24] ?_; dsimp only [H.keep, H.look, H.Fr.put, Nat.beq]) | (refine RW.y (Y.loadBlock rfl hb7 rfl) rfl ?_) | (refine RW.y (Y.loadBlock rfl hb97 rfl) rfl ?_) | (refine Gt.assign ?_; refine RW.y (Y.assign rfl) rfl ?_))
    refine RW.fn rfl rfl ((add _ _ y' w7 (a1 _ hk7) (ndK.keep0 hy3 (hK35.trans0 hK57)) (by omega) (by rw [hyn]; omega)).mono ?_)
    rintro e w8 ⟨hk8, V8, rfl, hV8⟩
    rw [h2] at hV8 ⊢
    obtain ⟨p8, q8, L8, rfl, hp8, hq8, hL8⟩ := (hV8 : MfAt w8 V8 M2)
    repeat' (first | (refine Gt.move ?_; refine RW.y (Y.move rfl) rfl ?_) | (refine Gt.extract ?_; refine RW.y (Y.extract rfl rfl) rfl ?_))
    refine RW.varN rfl (by rfl) rfl (mfCells _ hp8.one hq8.1.one) rfl (fun w9 hbc9 hk9' hlt9 => ?_)
    have a2 : ∀ w', K0 w8 w' → MfAt w' (.agg (mfC M2 p8 q8).toArray) M2 := fun w' k => ⟨p8, q8, L8, rfl, hp8.keep0 k, hq8.keep0 k, hL8⟩
    have hK79 := hk8.trans0 hk9'
    have hb99 := hK79.at0 hb97
    have hb59 := (hK57.trans0 hK79).at0 hb5
    repeat' (first | (refine CL.seq ?_) | (refine CL.region ?_) | (refine Gt.nil ?_; refine RW.nilw [0, 1, 2, 6, 7, 8, 9, 10, 12, 13, 14, 15, 16, 17, 18, 19, 21, 24] ?_; dsimp only [H.keep, H.look, H.Fr.put, Nat.beq]) | (refine RW.y (Y.loadBlock rfl hb59 rfl) rfl ?_) | (refine RW.y (Y.loadBlock rfl hb99 rfl) rfl ?_) | (refine Gt.assign ?_; refine RW.y (Y.assign rfl) rfl ?_))
    refine RW.fn rfl rfl ((add _ _ y' w9 (a0 _ (hk5.trans0 (hK57.trans0 hK79))) (ndK.keep0 hy3 (hK35.trans0 (hK57.trans0 hK79))) (by omega) (by rw [hyn]; omega)).mono ?_)
    rintro e w10 ⟨hk10, V10, rfl, hV10⟩
    rw [h3] at hV10 ⊢
    obtain ⟨pA, qA, LA, rfl, hpA, hqA, hLA⟩ := (hV10 : MfAt w10 V10 M2)
    repeat' (first | (refine Gt.move ?_; refine RW.y (Y.move rfl) rfl ?_) | (refine Gt.extract ?_; refine RW.y (Y.extract rfl rfl) rfl ?_))
    refine RW.varN rfl (by rfl) rfl (mfCells _ hpA.one hqA.1.one) rfl (fun w11 hbd11 hk11 hlt11 => ?_)
    have a3 : ∀ w', K0 w10 w' → MfAt w' (.agg (mfC M2 pA qA).toArray) M2 := fun w' k => ⟨pA, qA, LA, rfl, hpA.keep0 k, hqA.keep0 k, hLA⟩
    have hK911 := hk10.trans0 hk11
    have hbc11 := hK911.at0 hbc9
    have hb811 := (hK57.trans0 (hK79.trans0 hK911)).at0 hb85
    have hb511 := hK911.at0 hb59
    repeat' (first | (refine CL.seq ?_) | (refine CL.region ?_) | (refine Gt.nil ?_; refine RW.nilw [0, 1, 2, 6, 7, 8, 9, 10, 12, 13, 14, 15, 16, 17, 18, 19, 21, 24] ?_; dsimp only [H.keep, H.look, H.Fr.put, Nat.beq]) | (refine RW.y (Y.loadBlock rfl hbc11 rfl) rfl ?_) | (refine Gt.load ?_; (refine RW.y (Y.loadB rfl (by assumption) rfl) rfl ?_)) | (refine Gt.assign ?_; refine RW.y (Y.assign rfl) rfl ?_) | (refine Gt.fieldAddr ?_; refine RW.y (Y.fieldAddr rfl (by rfl)) rfl ?_))
    refine RW.fn rfl rfl ((remove _ _ x.d.name w11 (a2 _ (hk9'.trans0 hK911)) (by omega)).mono ?_)
    rintro e w12 ⟨hk12, V12, rfl, hV12⟩
    rw [h4] at hV12
    rw [h5]
    obtain ⟨pB, qB, LB, rfl, hpB, hqB, hLB⟩ := hV12.at
    repeat' (first | (refine Gt.move ?_; refine RW.y (Y.move rfl) rfl ?_) | (refine Gt.extract ?_; refine RW.y (Y.extract rfl rfl) rfl ?_))
    refine RW.varN rfl (by rfl) rfl (mfCells _ hpB.one hqB.1.one) rfl (fun w13 hbe13 hk13 hlt13 => ?_)
    have hK1113 := hk12.trans0 hk13
    have hbc13 := hK1113.at0 hbc11
    have hbd13 := hK1113.at0 hbd11
    have hb513 := hK1113.at0 hb511
    repeat' (first | (refine CL.seq ?_) | (refine CL.region ?_) | (refine Gt.nil ?_; refine RW.nilw [0, 1, 2, 6, 7, 8, 9, 10, 12, 13, 14, 15, 16, 17, 18, 19, 21, 24] ?_; dsimp only [H.keep, H.look, H.Fr.put, Nat.beq]) | (refine RW.y (Y.eqiE (c := true) rfl rfl (by simp)) rfl ?_) | (refine RW.y (Y.loadBlock rfl hbc13 rfl) rfl ?_) | (refine RW.y (Y.loadBlock rfl hbd13 rfl) rfl ?_) | (refine Gt.guard ?_; (refine RW.on rfl rfl rfl ?_)) | (refine Gt.move ?_; refine RW.y (Y.move rfl) rfl ?_) | (refine Gt.assign ?_; refine RW.y (Y.assign rfl) rfl ?_) | (refine Gt.add ?_; refine RW.y (Y.add64 rfl rfl (by omega) (by omega)) rfl ?_))
    refine RW.fn rfl rfl ((helpManifest _ _ M2 w13 (a2 _ (hk9'.trans0 (hK911.trans0 hK1113))) (a3 _ (hk11.trans0 hK1113))).mono ?_)
    rintro e w14 ⟨hk14, rfl⟩
    have hbe14 := hk14.at0 hbe13
    have hb514 := hk14.at0 hb513
    repeat' (first | (refine RW.y (Y.loadBlock rfl hbe14 rfl) rfl ?_) | (refine RW.y (Y.loadBlock rfl hb514 rfl) rfl ?_) | (refine Gt.guard ?_; (refine RW.on rfl rfl rfl ?_)) | (refine Gt.move ?_; refine RW.y (Y.move rfl) rfl ?_) | (refine Gt.pick ?_; (refine RW.y (Y.pickT rfl rfl) rfl ?_)))
    refine RW.fn rfl rfl ((helpManifest _ _ M0 w14 ⟨pB, qB, LB, rfl, hpB.keep0 (hk13.trans0 hk14), hqB.keep0 (hk13.trans0 hk14), hLB⟩ (a0 _ (hk5.trans0 (hK57.trans0 (hK79.trans0 (hK911.trans0 (hK1113.trans0 hk14))))))).mono ?_)
    rintro e w15 ⟨hk15, rfl⟩
    repeat' (first | (refine CL.ret ?_) | (refine Gt.nil ?_; refine RW.nilw [0, 1, 2, 6, 7, 8, 9, 10, 12, 13, 14, 15, 16, 17, 18, 19, 21, 24] ?_; dsimp only [H.keep, H.look, H.Fr.put, Nat.beq]) | (refine Gt.assign ?_; refine RW.y (Y.assign rfl) rfl ?_) | (refine Gt.pick ?_; (refine RW.y (Y.pickT rfl rfl) rfl ?_)))
    exact FQ.one rfl rfl rfl ⟨rfl, hK3.trans0 (hK35.trans0 (hK57.trans0 (hK79.trans0 (hK911.trans0 (hK1113.trans0 (hk14.trans0 hk15))))))⟩
end Go.Proofs.YtjlkmdmpejpmpaaGreatDoor.Ma

namespace Go.Proofs.YtjlkmdmpejpmpaaGreatDoor.Ma
open Go.RowKit H S Ve Sp Od
theorem u16_open (l : List Int) (h : ∀ n ∈ l, IntKind.u16.min ≤ n ∧ n ≤ IntKind.u16.max) : u16L (l.map Int.toNat) = (l.flatMap fun n => [Value.int .u16 n]) ∧ ∀ n ∈ l.map Int.toNat, n < 65536 := by
  have e1 : IntKind.u16.min = 0 := rfl
  have e2 : IntKind.u16.max = 65535 := rfl
  refine ⟨?_, fun n hn => ?_⟩
  · induction l with
    | nil => rfl
    | cons x l ih =>
      have hx := h x (List.mem_cons_self ..)
      have h1 := ih fun n hn => h n (List.mem_cons_of_mem _ hn)
      rw [u16L] at h1 ⊢
      rw [List.map_cons, List.map_cons, List.flatMap_cons, h1, Int.toNat_of_nonneg (by omega)]
      rfl
  · obtain ⟨m, hm, rfl⟩ := List.mem_map.1 hn
    have := h m hm
    omega
theorem u16_sl {W : World} {v : Value} {l : List Int} (h : Sl W 1 v l.length (l.flatMap fun n => [Value.int .u16 n])) (h2 : ∀ n ∈ l, IntKind.u16.min ≤ n ∧ n ≤ IntKind.u16.max) : Sl W 1 v (l.map Int.toNat).length (u16L (l.map Int.toNat)) := by
  rw [(u16_open l h2).1, List.length_map]; exact h
theorem u16_nat {n : Int} (h : IntKind.u16.min ≤ n ∧ n ≤ IntKind.u16.max) : Value.int .u16 n = .int .u16 ((n.toNat : Nat) : Int) ∧ n.toNat < 65536 := by
  have e1 : IntKind.u16.min = 0 := rfl
  have e2 : IntKind.u16.max = 65535 := rfl
  exact ⟨by rw [Int.toNat_of_nonneg (by omega)], by omega⟩
end Go.Proofs.YtjlkmdmpejpmpaaGreatDoor.Ma

namespace Go.Proofs.YtjlkmdmpejpmpaaGreatDoor.H
open Go.ChangeShapes Go.WideShapes Go.RowKit

/-- What a reading of a type's cells tells. -/
class Opn (P : Program) (t : TypeId) (α : outParam Type) (en : outParam (α → List Value)) (ok : outParam (World → α → Prop)) : Prop where
  out : ∀ (H : Type) (enc : TypeId × Value → H) (W : World) (fuel : Nat) (cs : List Value) (x : DataW H × List MemPlace), DataW.trod enc P W 0 (fun _ => true) true fuel t cs = some x → ∃ a, cs = en a ∧ ok W a
class Cel (P : Program) (t : TypeId) (n : outParam Nat) : Prop where out : P.cellsOf t = n
theorem Cel.of {P : Program} {t : TypeId} {z : Value} {s b : Nat} [h : Inf P t z s b] : Cel P t s := ⟨by
  have h := h.out
  cases hi : P.info? t with
  | none => simp [hi] at h
  | some i =>
    simp only [hi, Option.map_some, Option.some.injEq, Prod.mk.injEq] at h
    simp [Program.cellsOf, hi, h.2.1]⟩
instance {P : Program} {t : TypeId} {z : Value} {s b : Nat} [h : Inf P t z s b] : Cel P t s := Cel.of
class CelS (P : Program) (t : TypeId) (n : outParam Nat) : Prop where
  out : P.cellsOf t = n
  pos : 0 < n

theorem wf_of {k : IntKind} {n : Int} (h : (Lit.int k n).wf = true) : k.min ≤ n ∧ n ≤ k.max := by
  simpa [Lit.wf] using h

instance (priority := low) {P : Program} {t : TypeId} {k : IntKind} [h : Und P t (.int k)] : Opn P t Int (fun n => [.int k n]) (fun _ n => k.min ≤ n ∧ n ≤ k.max) := ⟨fun _ _ _ _ _ _ hx => by
  obtain ⟨n, rfl, rfl, hw⟩ := DataW.trod_int h.out hx
  exact ⟨n, rfl, wf_of hw⟩⟩
instance {P : Program} {t : TypeId} [h : Und P t (.int .i64)] : Opn P t Int (fun n => [.int .i64 n]) (fun _ n => -9223372036854775808 ≤ n ∧ n ≤ 9223372036854775807) := ⟨fun _ _ _ _ _ _ hx => by
  obtain ⟨n, rfl, rfl, hw⟩ := DataW.trod_int h.out hx
  exact ⟨n, rfl, bounds_i64 hw⟩⟩
instance {P : Program} {t : TypeId} [h : Und P t (.int .u64)] : Opn P t Nat (fun n => [.int .u64 (n : Int)]) (fun _ n => n < 18446744073709551616) := ⟨fun _ _ _ _ _ _ hx => by
  obtain ⟨n, rfl, rfl, hw⟩ := DataW.trod_int h.out hx
  have := bounds_u64 hw
  exact ⟨n.toNat, by rw [Int.toNat_of_nonneg this.1], by omega⟩⟩
instance {P : Program} {t : TypeId} [h : Und P t (.int .u8)] : Opn P t UInt8 (fun n => [vb n]) (fun _ _ => True) := ⟨fun _ _ _ _ _ _ hx => by
  obtain ⟨n, rfl, rfl, hw⟩ := DataW.trod_int h.out hx
  have := bounds_u8 hw
  refine ⟨UInt8.ofNat n.toNat, ?_, trivial⟩
  simp only [vb, UInt8.toNat_ofNat']
  congr 2
  omega⟩
instance {P : Program} {t : TypeId} [h : Und P t .bool] : Opn P t Bool (fun b => [.bool b]) (fun _ _ => True) := ⟨fun _ _ _ _ _ _ hx => by
  obtain ⟨n, rfl, rfl⟩ := DataW.trod_bool h.out hx
  exact ⟨n, rfl, trivial⟩⟩
instance {P : Program} {t : TypeId} [h : Und P t .string] : Opn P t (List UInt8) (fun s => [vs s]) (fun _ s => s.length ≤ 9223372036854775807) := ⟨fun _ _ _ _ _ _ hx => by
  obtain ⟨s, rfl, rfl, hw⟩ := DataW.trod_string h.out hx
  refine ⟨s.data.toList, rfl, ?_⟩
  simpa [maxLen] using hw⟩

theorem addr_none {w : World} {a : Addr} {v : Value} (h : w.cell? a = some v) : ∃ c e fz, w.heap[a.block]? = some (.cells c e fz) ∧ a.spot = none ∧ c[a.off]? = some v := by
  unfold World.cell? at h
  split at h
  · rename_i c e fz hc
    split at h
    · cases h
    · rename_i hs
      exact ⟨c, e, fz, hc, by simpa using hs, h⟩
  · cases h

theorem list_grow {L cs : List Value} {off k sz : Nat} (hl : cs.length = sz) (h : ∀ j, j < sz → L[off + k * sz + j]? = cs[j]?) : (L.drop off).take ((k + 1) * sz) = (L.drop off).take (k * sz) ++ cs := by
  rw [Nat.succ_mul, List.take_add]
  congr 1
  apply List.ext_getElem?
  intro j
  rw [List.getElem?_take]
  split
  · rename_i hj
    rw [List.drop_drop, List.getElem?_drop]
    exact h j hj
  · rename_i hj
    rw [List.getElem?_eq_none (by omega)]

/-- A slice's reading. -/
instance {P : Program} {t e : TypeId} {sz : Nat} [h : Und P t (.slice e)] [hc : CelS P e sz] {β : Type} {en : β → List Value} {ok : World → β → Prop} [ho : Opn P e β en ok] :
    Opn P t (Value × List β) (fun p => [p.1]) (fun W p => Sl W sz p.1 p.2.length (p.2.flatMap en) ∧ ∀ x ∈ p.2, ok W x) := ⟨fun H enc W fuel cs x hx => by
  have hpos := hc.pos
  rcases Go.Deep.open_slice h.out hx with ⟨rfl, _⟩ | ⟨a, len, cap, m, n, D, Pl, rfl, _, hl, hm, hmm, _, hel⟩
  · exact ⟨(_, []), rfl, by simpa using Sl.nil W sz, by simp⟩
  have hel : ∀ i, i < cap → ∃ cs', W.cells? 0 (a.add (i * sz)) sz = some cs' ∧ DataW.trod enc P W 0 (fun _ => true) true n e cs' = some (D i, Pl i) := fun i hi => by
    have := hel i (by rw [hmm]; simpa using hi)
    rw [hc.out] at this
    exact this
  by_cases h0 : cap = 0
  · subst h0
    have : len = 0 := by omega
    subst this
    exact ⟨(_, []), rfl, ⟨by simp, by simp, .inl ⟨_, rfl, rfl⟩⟩, by simp⟩
  obtain ⟨cs0, hcs0, _⟩ := hel 0 (by omega)
  obtain ⟨_, hlen0, hat0⟩ := World.cells?_some hcs0
  have h00 := hat0 0 (by omega)
  rw [List.getElem?_eq_getElem (by omega)] at h00
  have hz : (a.add (0 * sz)).add 0 = a := by unfold Addr.add; simp
  rw [hz] at h00
  obtain ⟨c, e', fz, hb, hsp, _⟩ := addr_none h00
  obtain ⟨g, off, sp⟩ := a
  simp only at hsp
  subst hsp
  have hcell : ∀ i, i < cap → ∃ cs', cs'.length = sz ∧ (∃ b, cs' = en b ∧ ok W b) ∧ ∀ j, j < sz → c.toList[off + i * sz + j]? = cs'[j]? := by
    intro i hi
    obtain ⟨cs', h1, h2⟩ := hel i hi
    obtain ⟨_, h4, h5⟩ := World.cells?_some h1
    refine ⟨cs', h4, ho.out H enc W n cs' _ h2, fun j hj => ?_⟩
    have := h5 j hj
    rw [addr_add, addr_add, cell_row (off := 0) hb] at this
    rw [← this, Array.getElem?_toList]
  have grow : ∀ k, k ≤ cap → ∃ xs : List β, xs.length = k ∧ (c.toList.drop off).take (k * sz) = xs.flatMap en ∧ (∀ x ∈ xs, ok W x) ∧ (xs.flatMap en).length = k * sz := by
    intro k
    induction k with
    | zero => intro _; exact ⟨[], rfl, by simp, by simp, by simp⟩
    | succ k ih =>
      intro hk
      obtain ⟨xs, h1, h2, h3, h6⟩ := ih (by omega)
      obtain ⟨cs', h4, ⟨b, rfl, hb'⟩, h5⟩ := hcell k (by omega)
      refine ⟨xs ++ [b], by simp [h1], ?_, ?_, ?_⟩
      · rw [list_grow h4 h5, h2]; simp
      · intro x hx
        rcases List.mem_append.1 hx with hx | hx
        · exact h3 x hx
        · simp only [List.mem_singleton] at hx; subst hx; exact hb'
      · rw [List.flatMap_append, List.length_append, h6]; simp [h4, Nat.succ_mul]
  have hsize : off + cap * sz ≤ c.size := by
    obtain ⟨cs', h4, _, h5⟩ := hcell (cap - 1) (by omega)
    have h6 := h5 (sz - 1) (by omega)
    rw [show cs'[sz - 1]? = some (cs'[sz - 1]'(by omega)) from List.getElem?_eq_getElem (by omega)] at h6
    have h7 := (List.getElem?_eq_some_iff.1 h6).1
    have : (cap - 1) * sz + sz = cap * sz := by
      have : cap = (cap - 1) + 1 := by omega
      conv => rhs; rw [this, Nat.succ_mul]
    simp only [Array.length_toList] at h7
    omega
  obtain ⟨xs, h1, h2, h3, h6⟩ := grow len hl
  subst h1
  exact ⟨(_, xs), rfl, ⟨h6, Nat.le_trans hl hm, .inr ⟨g, off, cap, c, e', fz, rfl, hb, hl, hm, hsize, h2⟩⟩, h3⟩⟩

/-- Fields, one behind the other. -/
class OpnF (P : Program) (ts : List TypeId) (α : outParam Type) (en : outParam (α → List Value)) (ok : outParam (World → α → Prop)) (len : outParam Nat) : Prop where
  out : ∀ (H : Type) (enc : TypeId × Value → H) (W : World) (n off : Nat) (cs : List Value), off + len ≤ cs.length →
    (∀ (pre : List TypeId) (t : TypeId) (post : List TypeId), ts = pre ++ t :: post → ∃ x, DataW.trod enc P W 0 (fun _ => true) true n t ((cs.drop (off + (pre.map P.cellsOf).sum)).take (P.cellsOf t)) = some x) →
    ∃ a, (cs.drop off).take len = en a ∧ ok W a
  sum : (ts.map P.cellsOf).sum = len
instance {P : Program} : OpnF P [] Unit (fun _ => []) (fun _ _ => True) 0 := ⟨fun _ _ _ _ _ _ _ _ => ⟨(), by simp, trivial⟩, rfl⟩
instance {P : Program} {t : TypeId} {ts : List TypeId} {α β : Type} {en : α → List Value} {ok : World → α → Prop} {en' : β → List Value} {ok' : World → β → Prop} {c l : Nat} [hc : Cel P t c] [h1 : Opn P t α en ok] [h2 : OpnF P ts β en' ok' l] :
    OpnF P (t :: ts) (α × β) (fun p => en p.1 ++ en' p.2) (fun W p => ok W p.1 ∧ ok' W p.2) (c + l) := ⟨fun H enc W n off cs hl hf => by
  obtain ⟨x, hx⟩ := hf [] t ts rfl
  simp only [List.map_nil, List.sum_nil, Nat.add_zero] at hx
  rw [hc.out] at hx
  obtain ⟨a, ha, hok⟩ := h1.out H enc W n _ x hx
  obtain ⟨b, hb, hok'⟩ := h2.out H enc W n (off + c) cs (by omega) (fun pre u post he => by
    obtain ⟨y, hy⟩ := hf (t :: pre) u post (by rw [he]; rfl)
    refine ⟨y, ?_⟩
    simp only [List.map_cons, List.sum_cons, hc.out] at hy
    rw [Nat.add_assoc]; exact hy)
  refine ⟨(a, b), ?_, hok, hok'⟩
  rw [List.take_add, ha, List.drop_drop, hb], by rw [List.map_cons, List.sum_cons, hc.out, h2.sum]⟩

def offsOk (P : Program) : Nat → List Field → Bool
  | _, [] => true
  | o, f :: r => f.offset == o && offsOk P (o + P.cellsOf f.type) r

theorem offs_at {P : Program} : ∀ (fs : List Field) (o : Nat), offsOk P o fs = true → ∀ (pre : List Field) (f : Field) (post : List Field), fs = pre ++ f :: post → f.offset = o + ((pre.map (·.type)).map P.cellsOf).sum := by
  intro fs
  induction fs with
  | nil => intro o _ pre f post h; cases pre <;> cases h
  | cons a r ih =>
    intro o h pre f post he
    simp only [offsOk, Bool.and_eq_true, beq_iff_eq] at h
    cases pre with
    | nil => simp only [List.nil_append, List.cons.injEq] at he; obtain ⟨rfl, _⟩ := he; simp [h.1]
    | cons b pre =>
      simp only [List.cons_append, List.cons.injEq] at he
      obtain ⟨rfl, he⟩ := he
      rw [ih _ h.2 pre f post he]
      simp [Nat.add_assoc]

/-- A struct's reading. -/
class StrT (P : Program) (t : TypeId) (ts : outParam (List TypeId)) : Prop where
  out : ∃ fs, P.underlying t = some (.struct fs) ∧ fs.toList.map (·.type) = ts ∧ offsOk P 0 fs.toList = true ∧ P.cellsOf t = (ts.map P.cellsOf).sum
instance {P : Program} {t : TypeId} {ts : List TypeId} [hS : StrT P t ts] {α : Type} {en : α → List Value} {ok : World → α → Prop} {len : Nat} [h : OpnF P ts α en ok len] : Opn P t α en ok := ⟨fun H enc W fuel cs x hx => by
  obtain ⟨fs, hu, hts, hof, hlen⟩ := hS.out
  obtain ⟨xs, n, rfl, rfl, hl, hxl, hf⟩ := DataW.trod_struct hu hx
  rw [hlen, h.sum] at hl
  subst hts
  obtain ⟨a, ha, hok⟩ := h.out H enc W n 0 cs (by omega) (fun pre u post he => by
    obtain ⟨i, hi⟩ : ∃ i, pre.length = i := ⟨_, rfl⟩
    have hlen2 : pre.length < fs.toList.length := by
      have := congrArg List.length he
      simp at this
      simp; omega
    have hpre : (fs.toList.take pre.length).map (·.type) = pre := by rw [List.map_take, he]; simp
    have hget : (fs.toList.map (·.type))[pre.length]? = some u := by rw [he]; simp
    rw [List.getElem?_map, List.getElem?_eq_getElem hlen2] at hget
    simp only [Option.map_some, Option.some.injEq] at hget
    have hfi : fs[pre.length]? = some (fs.toList[pre.length]) := by rw [← Array.getElem?_toList, List.getElem?_eq_getElem hlen2]
    have hoff := offs_at fs.toList 0 hof (fs.toList.take pre.length) (fs.toList[pre.length]) (fs.toList.drop (pre.length + 1)) (by rw [← List.drop_eq_getElem_cons hlen2, List.take_append_drop])
    have h2 := hf pre.length _ hfi
    rw [hget, hoff, hpre] at h2
    rw [h2]
    have : pre.length < xs.length := by rw [hxl]; simpa using hlen2
    exact ⟨_, List.getElem?_eq_getElem this⟩)
  rw [List.drop_zero, List.take_of_length_le (by omega)] at ha
  exact ⟨a, ha, hok⟩⟩

theorem flat_one {α : Type} (f : α → Value) (l : List α) : (l.flatMap fun a => [f a]) = l.map f := by induction l with
  | nil => rfl
  | cons a l ih => rw [List.flatMap_cons, ih]; rfl
theorem Sl.map {α : Type} {f : α → Value} {W : World} {v : Value} {n : Nat} {l : List α} (h : Sl W 1 v n (l.flatMap fun a => [f a])) : Sl W 1 v n (l.map f) := by rw [← flat_one]; exact h

/-- A parameter. -/
class Top (P : Program) (t : TypeId) (α : outParam Type) (tv : outParam (α → Value)) (ok : outParam (World → α → Prop)) : Prop where
  out : ∀ (H : Type) (enc : TypeId × Value → H) (W : World) (base : Nat) (v : Value) (d : DataW H) (p : List MemPlace), Value.okWide P W .any base t v → DataW.Trod enc P W 0 (fun _ => true) true t v d p → ∃ a, v = tv a ∧ ok W a
theorem Top.one {P : Program} {t : TypeId} {desc : TypeDesc} (hu : P.underlying t = some desc) (hd : TypeDesc.isOne desc = true) {α : Type} {c : α → Value} {ok : World → α → Prop} (h : Opn P t α (fun a => [c a]) ok) : Top P t α c ok := ⟨fun H enc W base v d p hv hd' => by
  obtain ⟨fuel, hf⟩ := hd'
  obtain ⟨a, ha, hok⟩ := h.out H enc W fuel _ _ hf
  refine ⟨a, ?_, hok⟩
  have hna : ∀ cs, v ≠ .agg cs := by
    intro cs hcs
    subst hcs
    unfold Value.okWide at hv
    rw [hu] at hv
    cases desc <;> simp_all [TypeDesc.isOne, Cell.okWide, Cell.ok]
  have : v.cells = #[v] := by
    cases v with
    | agg cs => exact absurd rfl (hna cs)
    | _ => rfl
  rw [this] at ha
  simpa using ha⟩
instance {P : Program} {t : TypeId} {k : IntKind} [h : Und P t (.int k)] {α : Type} {c : α → Value} {ok : World → α → Prop} [ho : Opn P t α (fun a => [c a]) ok] : Top P t α c ok := Top.one h.out rfl ho
instance {P : Program} {t : TypeId} [h : Und P t .bool] {α : Type} {c : α → Value} {ok : World → α → Prop} [ho : Opn P t α (fun a => [c a]) ok] : Top P t α c ok := Top.one h.out rfl ho
instance {P : Program} {t : TypeId} [h : Und P t .string] {α : Type} {c : α → Value} {ok : World → α → Prop} [ho : Opn P t α (fun a => [c a]) ok] : Top P t α c ok := Top.one h.out rfl ho
instance {P : Program} {t e : TypeId} [h : Und P t (.slice e)] {α : Type} {c : α → Value} {ok : World → α → Prop} [ho : Opn P t α (fun a => [c a]) ok] : Top P t α c ok := Top.one h.out rfl ho
instance {P : Program} {t : TypeId} {ts : List TypeId} [hS : StrT P t ts] {α : Type} {en : α → List Value} {ok : World → α → Prop} [h : Opn P t α en ok] : Top P t α (fun a => .agg (en a).toArray) ok := ⟨fun H enc W base v d p hv hd' => by
  obtain ⟨fuel, hf⟩ := hd'
  obtain ⟨fs, hu, _⟩ := hS.out
  obtain ⟨cs, rfl, _⟩ := okWide_struct hu hv
  obtain ⟨a, ha, hok⟩ := h.out H enc W fuel _ _ hf
  refine ⟨a, ?_, hok⟩
  have : cs = (en a).toArray := by
    apply Array.ext'
    simpa [Value.cells] using ha
  rw [this]⟩

/-- The parameters, one behind the other. -/
class Tops (P : Program) (ts : List TypeId) (α : outParam Type) (tv : outParam (α → List Value)) (ok : outParam (World → α → Prop)) : Prop where
  out : ∀ (H : Type) (enc : TypeId × Value → H) (W : World) (base : Nat) (l : List Value) (ds : List (DataW H)) (p : List MemPlace), (∀ (j : Nat) t v, ts[j]? = some t → l[j]? = some v → Value.okWide P W .any base t v) →
    DataW.TrodAll enc P W 0 (fun _ => true) true ts l ds p → ∃ a, l = tv a ∧ ok W a
instance {P : Program} : Tops P [] Unit (fun _ => []) (fun _ _ => True) := ⟨fun _ _ _ _ l ds p _ h => by
  obtain ⟨rfl, _⟩ := trodAll_nil h
  exact ⟨(), rfl, trivial⟩⟩
instance {P : Program} {t : TypeId} {ts : List TypeId} {α β : Type} {tv : α → Value} {ok : World → α → Prop} {tv' : β → List Value} {ok' : World → β → Prop} [h1 : Top P t α tv ok] [h2 : Tops P ts β tv' ok'] :
    Tops P (t :: ts) (α × β) (fun p => tv p.1 :: tv' p.2) (fun W p => ok W p.1 ∧ ok' W p.2) := ⟨fun H enc W base l ds p hv h => by
  obtain ⟨v, vs, d, ds', p', q, rfl, rfl, rfl, hd, hr⟩ := trodAll_cons h
  obtain ⟨a, rfl, ha⟩ := h1.out H enc W base v d p' (hv 0 t v rfl rfl) hd
  obtain ⟨b, rfl, hb⟩ := h2.out H enc W base vs ds' q (fun j t' v' h1 h2 => hv (j + 1) t' v' h1 h2) hr
  exact ⟨(a, b), rfl, ha, hb⟩⟩

theorem trodAll_stays {H : Type} {enc : TypeId × Value → H} {P : Program} (hl : laidOutB P = true) {W W' : World} (hb : Below W.heap.size W W') : ∀ (ts : List TypeId) (l : List Value) (ds : List (DataW H)) (p : List MemPlace), (∀ t ∈ ts, P.readableRec t = true ∧ t < P.types.size) → (∀ x ∈ p, x.block < W.heap.size) →
    DataW.TrodAll enc P W 0 (fun _ => true) true ts l ds p → DataW.TrodAll enc P W' 0 (fun b => decide (b < W.heap.size)) true ts l ds p := by
  intro ts
  induction ts with
  | nil =>
    intro l ds p _ _ h
    obtain ⟨rfl, rfl, rfl⟩ := trodAll_nil h
    exact trodAll_mk0
  | cons t ts ih =>
    intro l ds p hts hp h
    obtain ⟨v, vs, d, ds', p', q, rfl, rfl, rfl, hd, hr⟩ := trodAll_cons h
    have h1 := hts t (by simp)
    exact trodAll_cons_mk (Below.trod hl h1.1 h1.2 hd hb fun x hx => hp x (by simp [hx])) (ih vs ds' q (fun u hu => hts u (by simp [hu])) (fun x hx => hp x (by simp [hx])) hr)

theorem trodAll_length {H : Type} {enc : TypeId × Value → H} {P : Program} {W : World} {sp : Nat → Bool} {hd : Bool} : ∀ (ts : List TypeId) (l : List Value) (ds : List (DataW H)) (p : List MemPlace), DataW.TrodAll enc P W 0 sp hd ts l ds p → ds.length = ts.length := by
  intro ts
  induction ts with
  | nil => intro l ds p h; obtain ⟨_, rfl, _⟩ := trodAll_nil h; rfl
  | cons t ts ih =>
    intro l ds p h
    obtain ⟨v, vs, d, ds', p', q, rfl, rfl, rfl, _, hr⟩ := trodAll_cons h
    simp [ih _ _ _ hr]

end Go.Proofs.YtjlkmdmpejpmpaaGreatDoor.H

namespace Go.Proofs.YtjlkmdmpejpmpaaGreatDoor.H
open Go.ChangeShapes Go.WideShapes Go.RowKit
/-- An array's type: how many, of what, how many cells each. -/
class ArrT (P : Program) (t : TypeId) (n : outParam Nat) (e : outParam TypeId) (sz : outParam Nat) : Prop where
  out : P.underlying t = some (.array n e)
  el : P.cellsOf e = sz
  all : P.cellsOf t = n * sz
theorem rows_cat {β : Type} {en : β → List Value} {W : World} {ok : World → β → Prop} {sz : Nat} : ∀ (n : Nat) (cs : List Value), cs.length = n * sz → (∀ i, i < n → ∃ b, (cs.drop (i * sz)).take sz = en b ∧ ok W b) → ∃ l : List β, cs = l.flatMap en ∧ l.length = n ∧ ∀ x ∈ l, ok W x
  | 0, cs, h, _ => ⟨[], by rw [Nat.zero_mul] at h; rw [List.length_eq_zero_iff.1 h]; rfl, rfl, by simp⟩
  | n + 1, cs, h, hf => by
    obtain ⟨b, hb, hok⟩ := hf 0 (by omega)
    obtain ⟨l, h1, h2, h3⟩ := rows_cat (en := en) (ok := ok) (W := W) (sz := sz) n (cs.drop sz) (by rw [List.length_drop, h, Nat.succ_mul, Nat.add_sub_cancel]) (fun i hi => by
      obtain ⟨b', h1, h2⟩ := hf (i + 1) (by omega)
      refine ⟨b', ?_, h2⟩
      rw [List.drop_drop, ← h1, Nat.succ_mul, Nat.add_comm])
    refine ⟨b :: l, ?_, by simp [h2], fun x hx => ?_⟩
    · rw [List.flatMap_cons, ← h1, ← hb, Nat.zero_mul, List.drop_zero, List.take_append_drop]
    · rcases List.mem_cons.1 hx with rfl | hx
      · exact hok
      · exact h3 x hx
instance {P : Program} {t e : TypeId} {n sz : Nat} [h : ArrT P t n e sz] {β : Type} {en : β → List Value} {ok : World → β → Prop} [ho : Opn P e β en ok] :
    Opn P t (List β) (fun l => l.flatMap en) (fun W l => l.length = n ∧ ∀ x ∈ l, ok W x) := ⟨fun H enc W fuel cs x hx => by
  obtain ⟨xs, m, rfl, rfl, hl, hxl, hel⟩ := DataW.trod_array h.out hx
  rw [h.all] at hl
  obtain ⟨l, h1, h2, h3⟩ := rows_cat (en := en) (ok := ok) (W := W) n cs hl (fun i hi => by
    have := hel i hi
    rw [h.el, List.getElem?_eq_getElem (by omega)] at this
    obtain ⟨b, hb, hok⟩ := ho.out H enc W m _ _ this
    exact ⟨b, hb, hok⟩)
  exact ⟨l, h1, h2, h3⟩⟩
theorem okWide_arr {P : Program} {w : World} {base : Nat} {t : TypeId} {v : Value} {n : Nat} {e : TypeId} (ht : P.underlying t = some (.array n e)) (h : Value.okWide P w .any base t v) : ∃ cs, v = .agg cs ∧ cs.size = P.cellsOf t := by
  simp only [Value.okWide, ht] at h
  obtain ⟨cs, h1, h2, _⟩ := h
  exact ⟨cs, h1, h2⟩
instance {P : Program} {t e : TypeId} {n sz : Nat} [h : ArrT P t n e sz] {α : Type} {en : α → List Value} {ok : World → α → Prop} [ho : Opn P t α en ok] : Top P t α (fun a => .agg (en a).toArray) ok := ⟨fun H enc W base v d p hv hd' => by
  obtain ⟨fuel, hf⟩ := hd'
  obtain ⟨cs, rfl, _⟩ := okWide_arr h.out hv
  obtain ⟨a, ha, hok⟩ := ho.out H enc W fuel _ _ hf
  refine ⟨a, ?_, hok⟩
  have : cs = (en a).toArray := by
    apply Array.ext'
    simpa [Value.cells] using ha
  rw [this]⟩
/-- The same, of one world. -/
theorem law_contractW {P : Program} (hlo : laidOutB P = true) {k : FuncId} {f : Func} {s : ChangeSpec} {tb : TypeId} (hb : P.underlying tb = some .bool) (hr : f.resultTypes = #[tb]) (hv : s.vars = [])
    {ts : List TypeId} (hts : f.params.toList = ts) (hps : ∀ t ∈ ts, P.readableRec t = true ∧ t < P.types.size) {α : Type} {tv : α → List Value} {ok : World → α → Prop} [ho : Tops P ts α tv ok]
    (hs : ∀ (H : Type) (ds : List (DataW H)), ds.length = ts.length → s.fn H ds = { results := [.lit (.bool true)], args := ds })
    (W : World) (walk : ∀ (a : α), ok W a → Calls P k (tv a).toArray W fun e W' => e = .returned (.bool true) ∧ K0 W W')
    (H : Type) (enc : TypeId × Value → H) (base : Nat) (args : Array Value) (ds gs : List (DataW H)) (before : List MemPlace)
    (hval : ∀ (j : Nat) t v, f.params[j]? = some t → args[j]? = some v → Value.okWide P W .any base t v)
    (hW : DataW.Whole enc P f.params.toList s.vars false W args.toList ds gs before) :
    Calls P k args W fun e W' => ∃ v, e = .returned v ∧ s.post enc P f false true false false W args v W' := by
  have hW' := hW
  rw [hv] at hW
  obtain ⟨p, q, hA, hV, rfl, hfz, hnd⟩ := hW
  obtain ⟨rfl, rfl⟩ := trodVars_none hV
  have hlt : ∀ x ∈ p, x.block < W.heap.size := fun x hx => by have := hW'.lt x (by simp [hx]); simpa using this
  rw [hts] at hA
  obtain ⟨a, ha, hok⟩ := ho.out H enc W base args.toList ds p (fun j t v h1 h2 => hval j t v (by rw [← Array.getElem?_toList, hts]; exact h1) (by rw [← Array.getElem?_toList]; exact h2)) hA
  have hargs : args = (tv a).toArray := by apply Array.ext'; simpa using ha
  subst hargs
  refine (walk a hok).mono fun e W' ⟨he, hk⟩ => ?_
  have hbel := hk.below
  have hfn := hs H (ds ++ []) (by simpa using trodAll_length _ _ _ _ hA)
  refine ⟨_, he, ds, [], p ++ [], [], p, [], hW', ?_, ?_, ?_, hbel.frame _, fun h => by cases h⟩
  · rw [hfn, hr]; exact trodAll_cons_mk (shut_bool hb _) trodAll_mk0
  · rw [hfn, hts]; simpa using trodAll_stays hlo hbel ts _ ds p hps hlt hA
  · rw [hfn, hv]; exact rfl
end Go.Proofs.YtjlkmdmpejpmpaaGreatDoor.H

set_option maxRecDepth 100000
namespace Go.Proofs.YtjlkmdmpejpmpaaGreatDoor.H
instance : CelS Tryz.prog 1 1 := ⟨by kernel_rfl, by decide⟩
instance : CelS Tryz.prog 2 1 := ⟨by kernel_rfl, by decide⟩
instance : CelS Tryz.prog 3 1 := ⟨by kernel_rfl, by decide⟩
instance : CelS Tryz.prog 4 1 := ⟨by kernel_rfl, by decide⟩
instance : CelS Tryz.prog 5 1 := ⟨by kernel_rfl, by decide⟩
instance : CelS Tryz.prog 6 1 := ⟨by kernel_rfl, by decide⟩
instance : CelS Tryz.prog 7 4 := ⟨by kernel_rfl, by decide⟩
instance : StrT Tryz.prog 7 [2, 3, 4, 6] := ⟨_, Tryz.underlying7, rfl, by kernel_rfl, by kernel_rfl⟩
instance : CelS Tryz.prog 8 4 := ⟨by kernel_rfl, by decide⟩
instance : StrT Tryz.prog 8 [2, 3, 4, 6] := ⟨_, Tryz.underlying8, rfl, by kernel_rfl, by kernel_rfl⟩
instance : CelS Tryz.prog 9 1 := ⟨by kernel_rfl, by decide⟩
instance : CelS Tryz.prog 10 1 := ⟨by kernel_rfl, by decide⟩
instance : CelS Tryz.prog 11 1 := ⟨by kernel_rfl, by decide⟩
instance : CelS Tryz.prog 12 1 := ⟨by kernel_rfl, by decide⟩
instance : CelS Tryz.prog 13 2 := ⟨by kernel_rfl, by decide⟩
instance : StrT Tryz.prog 13 [9, 12] := ⟨_, Tryz.underlying13, rfl, by kernel_rfl, by kernel_rfl⟩
instance : CelS Tryz.prog 14 2 := ⟨by kernel_rfl, by decide⟩
instance : StrT Tryz.prog 14 [9, 12] := ⟨_, Tryz.underlying14, rfl, by kernel_rfl, by kernel_rfl⟩
instance : CelS Tryz.prog 15 1 := ⟨by kernel_rfl, by decide⟩
instance : CelS Tryz.prog 16 1 := ⟨by kernel_rfl, by decide⟩
instance : CelS Tryz.prog 17 1 := ⟨by kernel_rfl, by decide⟩
instance : CelS Tryz.prog 18 1 := ⟨by kernel_rfl, by decide⟩
instance : StrT Tryz.prog 18 [17] := ⟨_, Tryz.underlying18, rfl, by kernel_rfl, by kernel_rfl⟩
instance : CelS Tryz.prog 19 1 := ⟨by kernel_rfl, by decide⟩
instance : StrT Tryz.prog 19 [17] := ⟨_, Tryz.underlying19, rfl, by kernel_rfl, by kernel_rfl⟩
instance : CelS Tryz.prog 20 1 := ⟨by kernel_rfl, by decide⟩
instance : CelS Tryz.prog 21 1 := ⟨by kernel_rfl, by decide⟩
instance : CelS Tryz.prog 22 1 := ⟨by kernel_rfl, by decide⟩
instance : CelS Tryz.prog 23 1 := ⟨by kernel_rfl, by decide⟩
instance : CelS Tryz.prog 24 4 := ⟨by kernel_rfl, by decide⟩
instance : StrT Tryz.prog 24 [3, 3, 3, 23] := ⟨_, Tryz.underlying24, rfl, by kernel_rfl, by kernel_rfl⟩
instance : CelS Tryz.prog 25 4 := ⟨by kernel_rfl, by decide⟩
instance : StrT Tryz.prog 25 [3, 3, 3, 23] := ⟨_, Tryz.underlying25, rfl, by kernel_rfl, by kernel_rfl⟩
instance : CelS Tryz.prog 26 1 := ⟨by kernel_rfl, by decide⟩
instance : CelS Tryz.prog 27 6 := ⟨by kernel_rfl, by decide⟩
instance : StrT Tryz.prog 27 [9, 25, 26] := ⟨_, Tryz.underlying27, rfl, by kernel_rfl, by kernel_rfl⟩
instance : CelS Tryz.prog 28 6 := ⟨by kernel_rfl, by decide⟩
instance : StrT Tryz.prog 28 [9, 25, 26] := ⟨_, Tryz.underlying28, rfl, by kernel_rfl, by kernel_rfl⟩
instance : CelS Tryz.prog 29 1 := ⟨by kernel_rfl, by decide⟩
instance : CelS Tryz.prog 31 1 := ⟨by kernel_rfl, by decide⟩
instance : CelS Tryz.prog 33 1 := ⟨by kernel_rfl, by decide⟩
instance : CelS Tryz.prog 34 1 := ⟨by kernel_rfl, by decide⟩
instance : CelS Tryz.prog 35 1 := ⟨by kernel_rfl, by decide⟩
instance : CelS Tryz.prog 36 1 := ⟨by kernel_rfl, by decide⟩
instance : CelS Tryz.prog 37 1 := ⟨by kernel_rfl, by decide⟩
instance : CelS Tryz.prog 38 1 := ⟨by kernel_rfl, by decide⟩
instance : CelS Tryz.prog 39 1 := ⟨by kernel_rfl, by decide⟩
instance : CelS Tryz.prog 40 1 := ⟨by kernel_rfl, by decide⟩
instance : CelS Tryz.prog 41 1 := ⟨by kernel_rfl, by decide⟩
instance : CelS Tryz.prog 42 1 := ⟨by kernel_rfl, by decide⟩
instance : CelS Tryz.prog 43 1 := ⟨by kernel_rfl, by decide⟩
instance : CelS Tryz.prog 44 2 := ⟨by kernel_rfl, by decide⟩
instance : StrT Tryz.prog 44 [4, 43] := ⟨_, Tryz.underlying44, rfl, by kernel_rfl, by kernel_rfl⟩
instance : CelS Tryz.prog 45 2 := ⟨by kernel_rfl, by decide⟩
instance : StrT Tryz.prog 45 [4, 43] := ⟨_, Tryz.underlying45, rfl, by kernel_rfl, by kernel_rfl⟩
instance : CelS Tryz.prog 46 4 := ⟨by kernel_rfl, by decide⟩
instance : StrT Tryz.prog 46 [9, 45, 9] := ⟨_, Tryz.underlying46, rfl, by kernel_rfl, by kernel_rfl⟩
instance : CelS Tryz.prog 47 4 := ⟨by kernel_rfl, by decide⟩
instance : StrT Tryz.prog 47 [9, 45, 9] := ⟨_, Tryz.underlying47, rfl, by kernel_rfl, by kernel_rfl⟩
instance : CelS Tryz.prog 49 1 := ⟨by kernel_rfl, by decide⟩
instance : CelS Tryz.prog 50 1 := ⟨by kernel_rfl, by decide⟩
instance : CelS Tryz.prog 51 1 := ⟨by kernel_rfl, by decide⟩
instance : CelS Tryz.prog 52 1 := ⟨by kernel_rfl, by decide⟩
instance : CelS Tryz.prog 54 1 := ⟨by kernel_rfl, by decide⟩
instance : CelS Tryz.prog 56 1 := ⟨by kernel_rfl, by decide⟩
instance : CelS Tryz.prog 58 1 := ⟨by kernel_rfl, by decide⟩
instance : CelS Tryz.prog 59 1 := ⟨by kernel_rfl, by decide⟩
instance : CelS Tryz.prog 60 1 := ⟨by kernel_rfl, by decide⟩
instance : CelS Tryz.prog 61 1 := ⟨by kernel_rfl, by decide⟩
instance : CelS Tryz.prog 62 1 := ⟨by kernel_rfl, by decide⟩
instance : CelS Tryz.prog 63 1 := ⟨by kernel_rfl, by decide⟩
instance : CelS Tryz.prog 64 1 := ⟨by kernel_rfl, by decide⟩
instance : CelS Tryz.prog 65 1 := ⟨by kernel_rfl, by decide⟩
instance : CelS Tryz.prog 66 1 := ⟨by kernel_rfl, by decide⟩
instance : CelS Tryz.prog 67 1 := ⟨by kernel_rfl, by decide⟩
instance : CelS Tryz.prog 69 1 := ⟨by kernel_rfl, by decide⟩
instance : CelS Tryz.prog 71 1 := ⟨by kernel_rfl, by decide⟩
instance : CelS Tryz.prog 72 1 := ⟨by kernel_rfl, by decide⟩
instance : CelS Tryz.prog 73 1 := ⟨by kernel_rfl, by decide⟩
instance : CelS Tryz.prog 74 1 := ⟨by kernel_rfl, by decide⟩
instance : CelS Tryz.prog 75 2 := ⟨by kernel_rfl, by decide⟩
instance : StrT Tryz.prog 75 [74, 39] := ⟨_, Tryz.underlying75, rfl, by kernel_rfl, by kernel_rfl⟩
instance : CelS Tryz.prog 76 2 := ⟨by kernel_rfl, by decide⟩
instance : StrT Tryz.prog 76 [74, 39] := ⟨_, Tryz.underlying76, rfl, by kernel_rfl, by kernel_rfl⟩
instance : CelS Tryz.prog 77 1 := ⟨by kernel_rfl, by decide⟩
instance : CelS Tryz.prog 78 1 := ⟨by kernel_rfl, by decide⟩
instance : CelS Tryz.prog 80 1 := ⟨by kernel_rfl, by decide⟩
instance : CelS Tryz.prog 81 1 := ⟨by kernel_rfl, by decide⟩
instance : CelS Tryz.prog 82 1 := ⟨by kernel_rfl, by decide⟩
instance : CelS Tryz.prog 83 1 := ⟨by kernel_rfl, by decide⟩
instance : CelS Tryz.prog 84 1 := ⟨by kernel_rfl, by decide⟩
instance : CelS Tryz.prog 85 1 := ⟨by kernel_rfl, by decide⟩
instance : CelS Tryz.prog 87 1 := ⟨by kernel_rfl, by decide⟩
instance : CelS Tryz.prog 88 1 := ⟨by kernel_rfl, by decide⟩
instance : CelS Tryz.prog 90 1 := ⟨by kernel_rfl, by decide⟩
instance : CelS Tryz.prog 91 1 := ⟨by kernel_rfl, by decide⟩
instance : CelS Tryz.prog 92 5 := ⟨by kernel_rfl, by decide⟩
instance : StrT Tryz.prog 92 [9, 25] := ⟨_, Tryz.underlying92, rfl, by kernel_rfl, by kernel_rfl⟩
instance : CelS Tryz.prog 93 5 := ⟨by kernel_rfl, by decide⟩
instance : StrT Tryz.prog 93 [9, 25] := ⟨_, Tryz.underlying93, rfl, by kernel_rfl, by kernel_rfl⟩
instance : CelS Tryz.prog 94 1 := ⟨by kernel_rfl, by decide⟩
instance : CelS Tryz.prog 95 1 := ⟨by kernel_rfl, by decide⟩
instance : CelS Tryz.prog 96 1 := ⟨by kernel_rfl, by decide⟩
instance : CelS Tryz.prog 97 1 := ⟨by kernel_rfl, by decide⟩
instance : CelS Tryz.prog 98 1 := ⟨by kernel_rfl, by decide⟩
instance : CelS Tryz.prog 100 1 := ⟨by kernel_rfl, by decide⟩
instance : CelS Tryz.prog 102 1 := ⟨by kernel_rfl, by decide⟩
instance : CelS Tryz.prog 103 1 := ⟨by kernel_rfl, by decide⟩
instance : CelS Tryz.prog 104 1 := ⟨by kernel_rfl, by decide⟩
instance : CelS Tryz.prog 105 1 := ⟨by kernel_rfl, by decide⟩
instance : CelS Tryz.prog 106 1 := ⟨by kernel_rfl, by decide⟩
instance : CelS Tryz.prog 107 1 := ⟨by kernel_rfl, by decide⟩
instance : CelS Tryz.prog 108 1 := ⟨by kernel_rfl, by decide⟩
instance : CelS Tryz.prog 110 1 := ⟨by kernel_rfl, by decide⟩
instance : CelS Tryz.prog 111 1 := ⟨by kernel_rfl, by decide⟩
instance : CelS Tryz.prog 112 1 := ⟨by kernel_rfl, by decide⟩
instance : CelS Tryz.prog 113 1 := ⟨by kernel_rfl, by decide⟩
instance : CelS Tryz.prog 115 1 := ⟨by kernel_rfl, by decide⟩
instance : CelS Tryz.prog 116 3 := ⟨by kernel_rfl, by decide⟩
instance : ArrT Tryz.prog 116 3 3 1 := ⟨Tryz.underlying116, by kernel_rfl, by kernel_rfl⟩
instance : CelS Tryz.prog 117 1 := ⟨by kernel_rfl, by decide⟩
instance : CelS Tryz.prog 118 1 := ⟨by kernel_rfl, by decide⟩
instance : CelS Tryz.prog 120 1 := ⟨by kernel_rfl, by decide⟩
instance : CelS Tryz.prog 121 1 := ⟨by kernel_rfl, by decide⟩
instance : CelS Tryz.prog 122 1 := ⟨by kernel_rfl, by decide⟩
instance : CelS Tryz.prog 123 1 := ⟨by kernel_rfl, by decide⟩
instance : CelS Tryz.prog 124 1 := ⟨by kernel_rfl, by decide⟩
instance : CelS Tryz.prog 125 1 := ⟨by kernel_rfl, by decide⟩
instance : CelS Tryz.prog 126 1 := ⟨by kernel_rfl, by decide⟩
instance : CelS Tryz.prog 127 1 := ⟨by kernel_rfl, by decide⟩
instance : CelS Tryz.prog 128 1 := ⟨by kernel_rfl, by decide⟩
instance : CelS Tryz.prog 129 1 := ⟨by kernel_rfl, by decide⟩
instance : CelS Tryz.prog 130 1 := ⟨by kernel_rfl, by decide⟩
instance : CelS Tryz.prog 131 1 := ⟨by kernel_rfl, by decide⟩
instance : CelS Tryz.prog 132 1 := ⟨by kernel_rfl, by decide⟩
instance : CelS Tryz.prog 133 1 := ⟨by kernel_rfl, by decide⟩
instance : CelS Tryz.prog 134 1 := ⟨by kernel_rfl, by decide⟩
instance : CelS Tryz.prog 135 1 := ⟨by kernel_rfl, by decide⟩
instance : CelS Tryz.prog 136 1 := ⟨by kernel_rfl, by decide⟩
instance : CelS Tryz.prog 137 1 := ⟨by kernel_rfl, by decide⟩
instance : CelS Tryz.prog 138 1 := ⟨by kernel_rfl, by decide⟩
instance : CelS Tryz.prog 140 1 := ⟨by kernel_rfl, by decide⟩
instance : CelS Tryz.prog 141 1 := ⟨by kernel_rfl, by decide⟩
instance : CelS Tryz.prog 142 1 := ⟨by kernel_rfl, by decide⟩
instance : CelS Tryz.prog 143 1 := ⟨by kernel_rfl, by decide⟩
instance : CelS Tryz.prog 147 1 := ⟨by kernel_rfl, by decide⟩
instance : CelS Tryz.prog 148 1 := ⟨by kernel_rfl, by decide⟩
instance : CelS Tryz.prog 149 1 := ⟨by kernel_rfl, by decide⟩
instance : CelS Tryz.prog 150 1 := ⟨by kernel_rfl, by decide⟩
instance : CelS Tryz.prog 151 1 := ⟨by kernel_rfl, by decide⟩
instance : CelS Tryz.prog 152 2 := ⟨by kernel_rfl, by decide⟩
instance : StrT Tryz.prog 152 [3, 3] := ⟨_, Tryz.underlying152, rfl, by kernel_rfl, by kernel_rfl⟩
instance : CelS Tryz.prog 153 2 := ⟨by kernel_rfl, by decide⟩
instance : StrT Tryz.prog 153 [3, 3] := ⟨_, Tryz.underlying153, rfl, by kernel_rfl, by kernel_rfl⟩
instance : CelS Tryz.prog 155 1 := ⟨by kernel_rfl, by decide⟩
instance : CelS Tryz.prog 156 24 := ⟨by kernel_rfl, by decide⟩
instance : ArrT Tryz.prog 156 24 5 1 := ⟨Tryz.underlying156, by kernel_rfl, by kernel_rfl⟩
instance : CelS Tryz.prog 157 1 := ⟨by kernel_rfl, by decide⟩
instance : CelS Tryz.prog 158 1 := ⟨by kernel_rfl, by decide⟩
instance : CelS Tryz.prog 159 1 := ⟨by kernel_rfl, by decide⟩
instance : CelS Tryz.prog 161 1 := ⟨by kernel_rfl, by decide⟩
instance : CelS Tryz.prog 162 1 := ⟨by kernel_rfl, by decide⟩
instance : CelS Tryz.prog 163 1 := ⟨by kernel_rfl, by decide⟩
instance : CelS Tryz.prog 165 1 := ⟨by kernel_rfl, by decide⟩
instance : CelS Tryz.prog 166 1 := ⟨by kernel_rfl, by decide⟩
instance : CelS Tryz.prog 167 1 := ⟨by kernel_rfl, by decide⟩
instance : CelS Tryz.prog 168 1 := ⟨by kernel_rfl, by decide⟩
instance : CelS Tryz.prog 169 1 := ⟨by kernel_rfl, by decide⟩
instance : CelS Tryz.prog 170 1 := ⟨by kernel_rfl, by decide⟩
instance : CelS Tryz.prog 171 1 := ⟨by kernel_rfl, by decide⟩
instance : CelS Tryz.prog 172 1 := ⟨by kernel_rfl, by decide⟩
instance : CelS Tryz.prog 173 20 := ⟨by kernel_rfl, by decide⟩
instance : ArrT Tryz.prog 173 20 157 1 := ⟨Tryz.underlying173, by kernel_rfl, by kernel_rfl⟩
instance : CelS Tryz.prog 174 1 := ⟨by kernel_rfl, by decide⟩
instance : CelS Tryz.prog 176 1 := ⟨by kernel_rfl, by decide⟩
instance : CelS Tryz.prog 177 1 := ⟨by kernel_rfl, by decide⟩
instance : CelS Tryz.prog 179 2 := ⟨by kernel_rfl, by decide⟩
instance : StrT Tryz.prog 179 [5, 5] := ⟨_, Tryz.underlying179, rfl, by kernel_rfl, by kernel_rfl⟩
instance : CelS Tryz.prog 180 2 := ⟨by kernel_rfl, by decide⟩
instance : StrT Tryz.prog 180 [5, 5] := ⟨_, Tryz.underlying180, rfl, by kernel_rfl, by kernel_rfl⟩
instance : CelS Tryz.prog 181 32 := ⟨by kernel_rfl, by decide⟩
instance : ArrT Tryz.prog 181 16 180 2 := ⟨Tryz.underlying181, by kernel_rfl, by kernel_rfl⟩
instance : CelS Tryz.prog 183 1 := ⟨by kernel_rfl, by decide⟩
instance : CelS Tryz.prog 185 1 := ⟨by kernel_rfl, by decide⟩
instance : CelS Tryz.prog 186 1 := ⟨by kernel_rfl, by decide⟩
instance : CelS Tryz.prog 187 3 := ⟨by kernel_rfl, by decide⟩
instance : StrT Tryz.prog 187 [9, 9, 78] := ⟨_, Tryz.underlying187, rfl, by kernel_rfl, by kernel_rfl⟩
instance : CelS Tryz.prog 188 3 := ⟨by kernel_rfl, by decide⟩
instance : StrT Tryz.prog 188 [9, 9, 78] := ⟨_, Tryz.underlying188, rfl, by kernel_rfl, by kernel_rfl⟩
instance : CelS Tryz.prog 189 1 := ⟨by kernel_rfl, by decide⟩
instance : CelS Tryz.prog 190 1 := ⟨by kernel_rfl, by decide⟩
instance : CelS Tryz.prog 191 1 := ⟨by kernel_rfl, by decide⟩
instance : CelS Tryz.prog 192 1 := ⟨by kernel_rfl, by decide⟩
instance : CelS Tryz.prog 193 1 := ⟨by kernel_rfl, by decide⟩
instance : CelS Tryz.prog 194 1 := ⟨by kernel_rfl, by decide⟩
instance : StrT Tryz.prog 194 [9] := ⟨_, Tryz.underlying194, rfl, by kernel_rfl, by kernel_rfl⟩
instance : CelS Tryz.prog 195 1 := ⟨by kernel_rfl, by decide⟩
instance : StrT Tryz.prog 195 [9] := ⟨_, Tryz.underlying195, rfl, by kernel_rfl, by kernel_rfl⟩
instance : CelS Tryz.prog 196 32 := ⟨by kernel_rfl, by decide⟩
instance : ArrT Tryz.prog 196 32 5 1 := ⟨Tryz.underlying196, by kernel_rfl, by kernel_rfl⟩
instance : CelS Tryz.prog 197 64 := ⟨by kernel_rfl, by decide⟩
instance : ArrT Tryz.prog 197 64 5 1 := ⟨Tryz.underlying197, by kernel_rfl, by kernel_rfl⟩
instance : CelS Tryz.prog 198 4 := ⟨by kernel_rfl, by decide⟩
instance : StrT Tryz.prog 198 [17, 17, 17, 9] := ⟨_, Tryz.underlying198, rfl, by kernel_rfl, by kernel_rfl⟩
instance : CelS Tryz.prog 199 4 := ⟨by kernel_rfl, by decide⟩
instance : StrT Tryz.prog 199 [17, 17, 17, 9] := ⟨_, Tryz.underlying199, rfl, by kernel_rfl, by kernel_rfl⟩
instance : ArrT Tryz.prog 200 0 16 1 := ⟨Tryz.underlying200, by kernel_rfl, by kernel_rfl⟩
instance : StrT Tryz.prog 201 [200] := ⟨_, Tryz.underlying201, rfl, by kernel_rfl, by kernel_rfl⟩
instance : StrT Tryz.prog 202 [200] := ⟨_, Tryz.underlying202, rfl, by kernel_rfl, by kernel_rfl⟩
instance : CelS Tryz.prog 203 1 := ⟨by kernel_rfl, by decide⟩
instance : CelS Tryz.prog 204 1 := ⟨by kernel_rfl, by decide⟩
instance : CelS Tryz.prog 205 1 := ⟨by kernel_rfl, by decide⟩
instance : CelS Tryz.prog 206 1 := ⟨by kernel_rfl, by decide⟩
instance : CelS Tryz.prog 207 1 := ⟨by kernel_rfl, by decide⟩
instance : CelS Tryz.prog 208 1 := ⟨by kernel_rfl, by decide⟩
instance : CelS Tryz.prog 209 11 := ⟨by kernel_rfl, by decide⟩
instance : StrT Tryz.prog 209 [12, 12, 174, 204, 5, 5, 205, 206, 108, 207, 208] := ⟨_, Tryz.underlying209, rfl, by kernel_rfl, by kernel_rfl⟩
instance : CelS Tryz.prog 210 11 := ⟨by kernel_rfl, by decide⟩
instance : StrT Tryz.prog 210 [12, 12, 174, 204, 5, 5, 205, 206, 108, 207, 208] := ⟨_, Tryz.underlying210, rfl, by kernel_rfl, by kernel_rfl⟩
end Go.Proofs.YtjlkmdmpejpmpaaGreatDoor.H

namespace Go.Proofs.YtjlkmdmpejpmpaaGreatDoor.Ve
open Go.RowKit H
theorem tab_at {P : Program} {W : World} {name : String} {k : IntKind} {zs : List Int} {rest : List (String × DataW Unit)} {t e : TypeId} {n : Nat}
    (hty : (P.globalNamed name).bind (fun g => (P.globals[g]?).map (·.type)) = some t) (ht : P.underlying t = some (.array n e)) (he : P.underlying e = some (.int k)) (hce : P.cellsOf e = 1) (hct : P.cellsOf t = n)
    (h : laidMet P ((name, Go.Lib.tabData k zs) :: rest) W) : Go.Lib.TabIs P W name k zs := by
  obtain ⟨g, hg⟩ : ∃ g, P.globalNamed name = some g := by
    cases hh : P.globalNamed name with
    | none => rw [hh] at hty; cases hty
    | some g => exact ⟨g, rfl⟩
  rw [hg] at hty
  exact Go.Lib.tabIs_of_head hg hty ht he hce hct h
theorem tb_of {W : World} {rest : List (String × DataW Unit)} (h : laidMet Tryz.prog (("internal/strconv.uint64pow10", Rows.laid_internal_strconv_uint64pow10) :: rest) W) : Tb W :=
  tab_at (t := 173) (by kernel_rfl) Tryz.underlying173 Tryz.underlying157 (by kernel_rfl) (by kernel_rfl) h
end Go.Proofs.YtjlkmdmpejpmpaaGreatDoor.Ve

namespace Go.Proofs.YtjlkmdmpejpmpaaGreatDoor.H
open Go Go.RowKit
variable {Hh : Type} {enc : TypeId × Value → Hh}
/-- A row out of its walk: the listed variables, and the shape of the first world. -/
theorem handed_and_shaped {a : Assume} {C : Checked} {os : Os} {f : FuncId} {fn : Func} {s : ChangeSpec} {conds : List PathCond} {apart fresh handsOn again : Bool} {X : World → Array Value → Prop}
    (hX : ∀ (w w' : World) (args : Array Value), w.heap = w'.heap → X w args → X w' args)
    (own : ownKnob C.prog.godebug = none) (started : os.Started) (noInit : C.prog.inits.idxOf? f = none) (hfn : C.prog.funcs[f]? = some fn)
    (witness : ∃ (w : World) (tape : Tape) (i : Input), w.os = os ∧ (w.forCall tape i).Shaped C.prog ∧ i.vars = [] ∧ Input.okWide C.prog (w.forCall tape i) .any w.heap.size f i ∧
      ((s.pre enc C.prog fn conds apart (w.forCall tape i).memory i.args ∧ X (w.forCall tape i).memory i.args) ∧ sizedMet enc C.prog fn (OpenSpec.ofChange s) apart (w.forCall tape i).memory i.args) ∧ a.holds C.prog (lone (Frame.enter C.prog f i.args .normal) [] (w.forCall tape i)))
    (contract : ∀ (W : World) (base : Nat) (args : Array Value) (ds gs : List (DataW Hh)) (before : List MemPlace),
      (∀ (j : Nat) t v, fn.params[j]? = some t → args[j]? = some v → Value.okWide C.prog W .any base t v) →
      DataW.Whole enc C.prog fn.params.toList s.vars apart W args.toList ds gs before → X W args → W.ShapedOpen C.prog →
      Calls C.prog f args W fun e W' => ∃ v, e = .returned v ∧ s.post enc C.prog fn apart fresh handsOn again W args v W') :
    ReturnsInHanded a C os f .any (fun w args => (s.pre enc C.prog fn conds apart w args ∧ X w args) ∧ sizedMet enc C.prog fn (OpenSpec.ofChange s) apart w args) (s.post enc C.prog fn apart fresh handsOn again) := by
  refine returnsInHanded_of_calls own started noInit witness ?_
  intro w tape i _ hsh _ hok hpre _
  obtain ⟨_, _, _, fn', hfn', _, _, _, _, hval⟩ := hok
  have e : fn' = fn := Option.some.inj (hfn'.symm.trans hfn)
  subst e
  obtain ⟨⟨⟨ds, gs, before, hw, _⟩, hx⟩, _⟩ := hpre
  have hw' := DataW.Whole.of_heap (w' := w.forCall tape i) (by rfl) hw
  refine (contract (w.forCall tape i) w.heap.size i.args ds gs before hval hw' (hX _ _ _ (by rfl) hx) hsh).mono fun e W' ⟨v, he, hp⟩ => ?_
  subst he
  exact ChangeSpec.post_blind hp
end Go.Proofs.YtjlkmdmpejpmpaaGreatDoor.H
namespace Go.Proofs.YtjlkmdmpejpmpaaGreatDoor.S
open Go Go.RowKit
theorem ml_of {W : World} (h : W.ShapedOpen Tryz.prog) : Ml W := cell_of_shapedOpen_int (zero := #[.int .i64 0]) (t := 3) h (of_decide_eq_true (by kernel_rfl)) (by kernel_rfl) rfl (by kernel_rfl) (by kernel_rfl) Tryz.underlying3
end Go.Proofs.YtjlkmdmpejpmpaaGreatDoor.S

namespace Go.Proofs.YtjlkmdmpejpmpaaGreatDoor.Ma
open Go.RowKit H S Ve Sp Od
attribute [local irreducible] H.CL H.RW H.CW H.Yd H.thenK H.blockQ Go.Calls

theorem split_no10 : ∀ (s : List UInt8), ∀ p ∈ splitB 10 s, (10 : UInt8) ∉ p
  | [] => by simp [splitB]
  | c :: r => by
    have ih := split_no10 r
    intro p hp
    by_cases h : c = 10
    · simp only [splitB, if_pos h, List.mem_cons] at hp
      rcases hp with rfl | hp
      · simp
      · exact ih p hp
    · simp only [splitB, if_neg h, List.mem_cons] at hp
      cases hr : splitB 10 r with
      | nil => exact absurd hr (splitB_ne 10 r)
      | cons a b =>
        rw [hr] at hp ih
        simp only [List.headD_cons, List.tail_cons] at hp
        rcases hp with rfl | hp
        · have := ih a (by simp)
          simp only [List.mem_cons, not_or]
          exact ⟨fun q => h q.symm, this⟩
        · exact ih p (by simp [hp])

theorem man_ok {s : T} {m : Mf} {k : Int} (hl : s.length ≤ 3000) (h : manB s = (m, k, 0)) : OkM m ∧ SrtN nmD m.needs := by
  rw [manB, if_pos (by omega)] at h
  exact rd_inv (Lk.linesB s) 0 0 zeroM m k h ⟨fun q => by omega, fun q => by omega, fun _ => rfl, (fun d hd => by cases hd), by simp [DiffD, zeroM], by simp [zeroM]⟩ fun x hx => ⟨split_no10 s x (lines_mem hx), Nat.le_trans (splitB_mem_len 10 s x (lines_mem hx)) hl⟩
theorem ok_fit {m : Mf} (h : OkM m) : FitM m := by
  obtain ⟨s, hs⟩ := h.v
  have hp := parse_parts hs
  have hm : Fit m.v := by
    have := parse_fit s
    rw [hs] at this; exact this
  have h1 := textV_len hs
  have h2 := name_len h.name
  refine ⟨h.num, by omega, hm, by omega, by omega, by omega, by omega, fun d hd => ?_⟩
  have h3 := h.needs d hd
  have h4 := name_len h3.name
  have h5 := h3.len
  omega
set_option maxHeartbeats 1000000 in
theorem lawReads (s : T) (w : World) (hM : Ml w) (hT : Tb w) : Calls Tryz.prog 3 #[vs s] w fun e w' => e = .returned (.bool true) ∧ K0 w w' := by
  refine H.enter Tryz.func3 Tryz.ntmps3 rfl rfl ?_; dsimp only [H.args]
  repeat' (first | (refine CL.seq ?_) | (refine CL.region ?_) | (refine Gt.nil ?_; refine RW.nilw [0, 2, 3, 4, 5, 6, 7, 8, 9, 10, 12, 14, 17, 43, 45] ?_; dsimp only [H.keep, H.look, H.Fr.put, Nat.beq]) | (refine Gt.assign ?_; refine RW.y (Y.assign rfl) rfl ?_))
  refine RW.fn rfl rfl ((known w hM hT).mono ?_)
  rintro e w1 ⟨hk1, rfl⟩
  by_cases h3 : s.length ≤ 3000
  rotate_left
  · have hl9 : (s.length : Int) ≤ 9223372036854775807 ∨ 3000 < (s.length : Int) := by omega
    repeat' (first | (refine CL.seq ?_) | (refine CL.region ?_) | (refine CL.skip ?_) | (refine CL.condP rfl (fun _ => ?_) (fun _ => ?_) <;> try (exfalso; omega)) | (refine CL.condF rfl ?_) | (refine CL.ret ?_) | (refine Gt.nil ?_; refine RW.nilw [0, 2, 3, 4, 5, 6, 7, 8, 9, 10, 12, 14, 17, 43, 45] ?_; dsimp only [H.keep, H.look, H.Fr.put, Nat.beq]) | (refine Gt.move ?_; refine RW.y (Y.move rfl) rfl ?_) | (refine Gt.assign ?_; refine RW.y (Y.assign rfl) rfl ?_) | (refine Gt.not ?_; (refine RW.y (Y.notb rfl) rfl ?_)) | (refine Gt.len ?_; refine RW.y (Y.lens rfl) rfl ?_) | (refine Gt.gtr ?_; refine RW.y (Y.gtr rfl rfl) rfl ?_))
    exact FQ.one rfl rfl rfl ⟨rfl, hk1⟩
  repeat' (first | (refine CL.seq ?_) | (refine CL.region ?_) | (refine CL.skip ?_) | (refine CL.condP rfl (fun _ => ?_) (fun _ => ?_) <;> try (exfalso; omega)) | (refine CL.condF rfl ?_) | (refine Gt.nil ?_; refine RW.nilw [0, 2, 3, 4, 5, 6, 7, 8, 9, 10, 12, 14, 17, 43, 45] ?_; dsimp only [H.keep, H.look, H.Fr.put, Nat.beq]) | (refine Gt.move ?_; refine RW.y (Y.move rfl) rfl ?_) | (refine Gt.not ?_; (refine RW.y (Y.notb rfl) rfl ?_)) | (refine Gt.len ?_; refine RW.y (Y.lens rfl) rfl ?_) | (refine Gt.gtr ?_; refine RW.y (Y.gtr rfl rfl) rfl ?_))
  refine RW.fn rfl rfl ((parseM s (by omega) w1 (hM.keep0 hk1)).mono ?_)
  rintro e w2 ⟨hk2, V2, rfl, hV2⟩
  obtain ⟨⟨m, k, c⟩, hr⟩ : ∃ r, manB s = r := ⟨_, rfl⟩
  rw [hr] at hV2 ⊢
  obtain ⟨p2, q2, L2, rfl, hp2, hq2, hL2⟩ := (hV2 : MfAt w2 V2 m)
  repeat' (first | (refine Gt.move ?_; refine RW.y (Y.move rfl) rfl ?_) | (refine Gt.extract ?_; refine RW.y (Y.extract rfl rfl) rfl ?_))
  refine RW.varN rfl (by rfl) rfl (mfCells _ hp2.one hq2.1.one) rfl (fun w3 hb3 hk3 hlt3 => ?_)
  repeat' (first | (refine CL.seq ?_) | (refine CL.region ?_) | (refine Gt.nil ?_; refine RW.nilw [0, 2, 3, 4, 5, 6, 7, 8, 9, 10, 12, 14, 17, 43, 45] ?_; dsimp only [H.keep, H.look, H.Fr.put, Nat.beq]) | (refine Gt.move ?_; refine RW.y (Y.move rfl) rfl ?_) | (refine Gt.assign ?_; refine RW.y (Y.assign rfl) rfl ?_))
  refine RW.fn rfl rfl ((refManifestOf s (by omega) w3).mono ?_)
  rintro e w4 ⟨hk4, V4, rfl, hV4⟩
  rw [hr] at hV4 ⊢
  obtain ⟨p4, q4, L4, rfl, hp4, hq4, hL4⟩ := (hV4 : MfAt w4 V4 m)
  repeat' (first | (refine Gt.move ?_; refine RW.y (Y.move rfl) rfl ?_) | (refine Gt.extract ?_; refine RW.y (Y.extract rfl rfl) rfl ?_))
  refine RW.varN rfl (by rfl) rfl (mfCells _ hp4.one hq4.1.one) rfl (fun w5 hb5 hk5 hlt5 => ?_)
  have hK25 := hk3.trans0 (hk4.trans0 hk5)
  have hb35 := (hk4.trans0 hk5).at0 hb3
  have hA2 : ∀ w', K0 w2 w' → MfAt w' (.agg (mfC m p2 q2).toArray) m := fun w' hk => ⟨p2, q2, L2, rfl, hp2.keep0 hk, hq2.keep0 hk, hL2⟩
  have hA4 : ∀ w', K0 w4 w' → MfAt w' (.agg (mfC m p4 q4).toArray) m := fun w' hk => ⟨p4, q4, L4, rfl, hp4.keep0 hk, hq4.keep0 hk, hL4⟩
  repeat' (first | (refine CL.seq ?_) | (refine CL.region ?_) | (refine Gt.nil ?_; refine RW.nilw [0, 2, 3, 4, 5, 6, 7, 8, 9, 10, 12, 14, 17, 43, 45] ?_; dsimp only [H.keep, H.look, H.Fr.put, Nat.beq]) | (refine RW.y (Y.neiE (c := false) rfl rfl (by simp)) rfl ?_) | (refine RW.y (Y.loadBlock rfl hb35 rfl) rfl ?_) | (refine RW.y (Y.loadBlock rfl hb5 rfl) rfl ?_) | (refine Gt.move ?_; refine RW.y (Y.move rfl) rfl ?_) | (refine Gt.guard ?_; (refine RW.on rfl rfl rfl ?_)) | (refine Gt.assign ?_; refine RW.y (Y.assign rfl) rfl ?_) | (refine Gt.pick ?_; (refine RW.y (Y.pickF rfl rfl) rfl ?_)))
  refine RW.fn rfl rfl ((helpManifest _ _ m w5 (hA2 _ hK25) (hA4 _ hk5)).mono ?_)
  rintro e w6 ⟨hk6, rfl⟩
  have hK6 : K0 w w6 := ((hk1.trans0 hk2).trans0 hK25).trans0 hk6
  repeat' (first | (refine CL.seq ?_) | (refine CL.region ?_) | (refine CL.skip ?_) | (refine CL.condP rfl (fun _ => ?_) (fun _ => ?_) <;> try (exfalso; omega)) | (refine CL.condF rfl ?_) | (refine CL.ret ?_) | (refine Gt.nil ?_; refine RW.nilw [0, 2, 3, 4, 5, 6, 7, 8, 9, 10, 12, 14, 17, 43, 45] ?_; dsimp only [H.keep, H.look, H.Fr.put, Nat.beq]) | (refine Gt.move ?_; refine RW.y (Y.move rfl) rfl ?_) | (refine Gt.guard ?_; (refine RW.on rfl rfl rfl ?_)) | (refine Gt.assign ?_; refine RW.y (Y.assign rfl) rfl ?_) | (refine Gt.pick ?_; (refine RW.y (Y.pickF rfl rfl) rfl ?_)) | (refine Gt.neq ?_; refine RW.y (Y.nei rfl rfl) rfl ?_) | (refine Gt.not ?_; (refine RW.y (Y.notb rfl) rfl ?_)))
  · exact FQ.one rfl rfl rfl ⟨rfl, hK6⟩
  rename_i hc
  have hc0 : c = 0 := by omega
  subst hc0
  obtain ⟨hok, hsr⟩ := man_ok h3 hr
  have hfit := ok_fit hok
  have hb36 := hk6.at0 hb35
  have hb56 := hk6.at0 hb5
  repeat' ((refine RW.y (Y.loadBlock rfl hb36 rfl) rfl ?_))
  refine RW.fn rfl rfl ((text _ m w6 (hA2 _ (hK25.trans0 hk6)) hfit (hT.keep0 hK6)).mono ?_)
  rintro e w7 ⟨hk7, rfl⟩
  have htl := textM_len hok
  repeat' (first | (refine CL.seq ?_) | (refine CL.region ?_) | (refine Gt.nil ?_; refine RW.nilw [0, 2, 3, 4, 5, 6, 7, 8, 9, 10, 12, 14, 17, 43, 45] ?_; dsimp only [H.keep, H.look, H.Fr.put, Nat.beq]) | (refine Gt.move ?_; refine RW.y (Y.move rfl) rfl ?_) | (refine Gt.assign ?_; refine RW.y (Y.assign rfl) rfl ?_))
  refine RW.fn rfl rfl ((refManifestOf (textM m) (by omega) w7).mono ?_)
  rintro e w8 ⟨hk8, V8, rfl, hV8⟩
  rw [man_back hok hsr] at hV8 ⊢
  obtain ⟨p8, q8, L8, rfl, hp8, hq8, hL8⟩ := (hV8 : MfAt w8 V8 m)
  repeat' (first | (refine Gt.move ?_; refine RW.y (Y.move rfl) rfl ?_) | (refine Gt.extract ?_; refine RW.y (Y.extract rfl rfl) rfl ?_))
  refine RW.varN rfl (by rfl) rfl (mfCells _ hp8.one hq8.1.one) rfl (fun w9 hb9 hk9 hlt9 => ?_)
  have hK69 := hk7.trans0 (hk8.trans0 hk9)
  have hb59 := hK69.at0 hb56
  repeat' (first | (refine CL.seq ?_) | (refine CL.region ?_) | (refine Gt.nil ?_; refine RW.nilw [0, 2, 3, 4, 5, 6, 7, 8, 9, 10, 12, 14, 17, 43, 45] ?_; dsimp only [H.keep, H.look, H.Fr.put, Nat.beq]) | (refine RW.y (Y.loadBlock rfl hb59 rfl) rfl ?_) | (refine Gt.move ?_; refine RW.y (Y.move rfl) rfl ?_) | (refine Gt.assign ?_; refine RW.y (Y.assign rfl) rfl ?_))
  refine RW.fn rfl rfl ((refManText _ m w9 (hA4 _ (hk5.trans0 (hk6.trans0 hK69))) hfit).mono ?_)
  rintro e w10 ⟨hk10, rfl⟩
  have hb5a := hk10.at0 hb59
  have hb9a := hk10.at0 hb9
  repeat' (first | (refine RW.y (Y.eqsE (c := true) rfl rfl (by simp)) rfl ?_) | (refine RW.y (Y.loadBlock rfl hb9a rfl) rfl ?_) | (refine RW.y (Y.loadBlock rfl hb5a rfl) rfl ?_) | (refine Gt.move ?_; refine RW.y (Y.move rfl) rfl ?_) | (refine Gt.guard ?_; first | (refine RW.part rfl rfl rfl (fun _ => ?_) (fun _ => ?_) <;> try (exfalso; omega)) | (refine RW.on rfl rfl rfl ?_)) | (refine Gt.pick ?_; (refine RW.y (Y.pickT rfl rfl) rfl ?_)) | (refine Gt.eql ?_; (refine RW.y (Y.eqi rfl rfl) rfl ?_)))
  refine RW.fn rfl rfl ((helpManifest _ _ m w10 ⟨p8, q8, L8, rfl, hp8.keep0 (hk9.trans0 hk10), hq8.keep0 (hk9.trans0 hk10), hL8⟩ (hA4 _ (hk5.trans0 (hk6.trans0 (hK69.trans0 hk10))))).mono ?_)
  rintro e w11 ⟨hk11, rfl⟩
  repeat' (first | (refine CL.ret ?_) | (refine Gt.nil ?_; refine RW.nilw [0, 2, 3, 4, 5, 6, 7, 8, 9, 10, 12, 14, 17, 43, 45] ?_; dsimp only [H.keep, H.look, H.Fr.put, Nat.beq]) | (refine Gt.assign ?_; refine RW.y (Y.assign rfl) rfl ?_) | (refine Gt.pick ?_; (refine RW.y (Y.pickT rfl rfl) rfl ?_)))
  exact FQ.one rfl rfl rfl ⟨rfl, ((hK6.trans0 hK69).trans0 hk10).trans0 hk11⟩
end Go.Proofs.YtjlkmdmpejpmpaaGreatDoor.Ma

namespace Go.Proofs.YtjlkmdmpejpmpaaGreatDoor.Ma
open Go.RowKit H S Ve Sp Od
attribute [local irreducible] H.CL H.RW H.CW H.Yd H.thenK H.blockQ Go.Calls

abbrev strT : TypeId := 9
def hashW : T := [35, 32, 110, 101, 101, 100, 32, 120]
def noiseL : List T := [[10], hashW ++ [10]]
/-- The lines so far. -/
structure NoiseI (lines : List T) (j nn k : Nat) (M : List T) : Prop where
  fil : M.filter (fun x => !silentB x) = lines.take j
  ten : ∀ x ∈ M, (10 : UInt8) ∉ x
  num : nn ≤ k + j
  len : (M.flatMap (· ++ [10])).length ≤ 10 * nn + 3100 * j
theorem NoiseI.quiet {lines : List T} {j nn k : Nat} {M : List T} (h : NoiseI lines j nn k M) (hn : nn < k) {x : T} (hs : silentB x = true) (hx : (10 : UInt8) ∉ x) (hl : x.length ≤ 9) : NoiseI lines j (nn + 1) k (M ++ [x]) := by
  refine ⟨?_, fun y hy => ?_, by omega, ?_⟩
  · rw [List.filter_append, h.fil, List.filter_cons, hs]; simp
  · rcases List.mem_append.1 hy with hy | hy
    · exact h.ten y hy
    · rw [List.mem_singleton.1 hy]; exact hx
  · have := h.len
    rw [List.flatMap_append, List.length_append, List.flatMap_cons, List.flatMap_nil, List.append_nil, List.length_append, List.length_singleton]
    omega
theorem NoiseI.line {lines : List T} {j nn k : Nat} {M : List T} (h : NoiseI lines j nn k M) (hj : j < lines.length) (hs : silentB (lines.getD j []) = false) (hx : (10 : UInt8) ∉ lines.getD j []) (hl : (lines.getD j []).length ≤ 3050) : NoiseI lines (j + 1) (nn + 1) k (M ++ [lines.getD j []]) := by
  refine ⟨?_, fun y hy => ?_, by have := h.num; omega, ?_⟩
  · rw [List.filter_append, h.fil, List.filter_cons, hs, take_snoc [] lines j hj]; rfl
  · rcases List.mem_append.1 hy with hy | hy
    · exact h.ten y hy
    · rw [List.mem_singleton.1 hy]; exact hx
  · have := h.len
    rw [List.flatMap_append, List.length_append, List.flatMap_cons, List.flatMap_nil, List.append_nil, List.length_append, List.length_singleton]
    omega
theorem flat_snoc (M : List T) (x : T) : (M ++ [x]).flatMap (· ++ [10]) = M.flatMap (· ++ [10]) ++ x ++ [10] := by simp [List.append_assoc]
/-- The lines that say something. -/
def seenL (rot : List Nd) : List T := meW :: v1W :: rot.map lineD
theorem seen_len (rot : List Nd) : (seenL rot).length = rot.length + 2 := by simp [seenL]
theorem seen_ok {nm : T} {rot : List Nd} (h : ∀ d ∈ rot, OkD nm d) : ∀ x ∈ seenL rot, silentB x = false ∧ (10 : UInt8) ∉ x ∧ x.length ≤ 3050 := by
  intro x hx
  rcases List.mem_cons.1 hx with rfl | hx
  · exact ⟨rfl, by decide, by decide⟩
  · rcases List.mem_cons.1 hx with rfl | hx
    · exact ⟨rfl, by decide, by decide⟩
    · obtain ⟨d, hd, rfl⟩ := List.mem_map.1 hx
      have h1 := h d hd
      have h2 := Lk.name_no h1.name (c := 10) (by decide)
      have h3 := name_len h1.name
      have h4 := h1.len
      refine ⟨rfl, by simp [lineD, needW, h2, h1.ten], ?_⟩
      simp only [lineD, needW, List.length_append, List.length_cons, List.length_nil]; omega
theorem noise_man {N rot : List Nd} {nn k : Nat} {M : List T} (hN : NdsOk N) (hl : N.length ≤ 6) (hp : rot.Perm N) (hk : k ≤ 20) (h : NoiseI (seenL rot) (seenL rot).length nn k M) : manB (M.flatMap (· ++ [10])) = (⟨[109, 101], v1, N⟩, 0, 0) := by
  have hr := hp.length_eq
  have hs := seen_len rot
  have h1 := h.len
  have h2 := h.num
  rw [man_lines h.ten, if_pos (by omega)]
  refine rd_silent M 0 0 0 zeroM _ ?_
  rw [h.fil, List.take_length]
  exact rd_turned hN (by omega) hp
theorem lines_own (rot : List Nd) (i : Nat) (hi : i < rot.length) : seenL (rot.take i) ++ [needW ++ (rot.getD i default).name ++ [32] ++ (rot.getD i default).text] = seenL (rot.take (i + 1)) := by
  rw [take_snoc default rot i hi]; simp [seenL, lineD]
set_option maxHeartbeats 2000000 in
theorem lawNoise (v v1p : Value) (l : List Nat) (ns : List UInt8) (c : UInt8) (w : World) (hv : Sl w 1 v l.length (u16L l)) (hl : ∀ z ∈ l, z < 65536) (hn : Sl w 1 v1p ns.length (bv ns)) (hM : Ml w) (hT : Tb w) : Calls Tryz.prog 6 #[v, v1p, vb c] w fun e w' => e = .returned (.bool true) ∧ K0 w w' := by
  have hc := UInt8.toNat_lt c
  refine H.enter Tryz.func6 Tryz.ntmps6 rfl rfl ?_; dsimp only [H.args]
  repeat' (first | (refine CL.seq ?_) | (refine CL.region ?_) | (refine Gt.nil ?_; refine RW.nilw [0, 1, 2, 6, 7, 8, 9, 10, 11, 12, 13, 14, 16, 17, 20, 28, 35, 61, 75] ?_; dsimp only [H.keep, H.look, H.Fr.put, Nat.beq]) | (refine Gt.assign ?_; refine RW.y (Y.assign rfl) rfl ?_))
  refine RW.fn rfl rfl ((known w hM hT).mono ?_)
  rintro e w1 ⟨hk1, rfl⟩
  have hv1 := hv.keep0 hk1
  have hn1 := hn.keep0 hk1
  have hmx : l.length ≤ 9223372036854775807 := by have := hv.2.1; simpa [maxLen] using this
  have hmn : ns.length ≤ 9223372036854775807 := by have := hn.2.1; simpa [maxLen] using this
  repeat' (first | (refine CL.seq ?_) | (refine CL.region ?_) | (refine CL.skip ?_) | (refine CL.condP rfl (fun _ => ?_) (fun _ => ?_) <;> try (exfalso; omega)) | (refine CL.condT rfl ?_) | (refine CL.condF rfl ?_) | (refine CL.ret ?_) | (refine Gt.nil ?_; refine RW.nilw [0, 1, 2, 6, 7, 8, 9, 10, 11, 12, 13, 14, 16, 17, 20, 28, 35, 61, 75] ?_; dsimp only [H.keep, H.look, H.Fr.put, Nat.beq]) | (refine Gt.move ?_; refine RW.y (Y.move rfl) rfl ?_) | (refine Gt.guard ?_; first | (refine RW.part rfl rfl rfl (fun _ => ?_) (fun _ => ?_) <;> try (exfalso; omega)) | (refine RW.on rfl rfl rfl ?_) | (refine RW.off1 rfl rfl rfl rfl rfl ?_)) | (refine Gt.assign ?_; refine RW.y (Y.assign rfl) rfl ?_) | (refine Gt.len ?_; (refine RW.y (Y.lenx rfl (by assumption)) rfl ?_)) | (refine Gt.gtr ?_; refine RW.y (Y.gtr rfl rfl) rfl ?_) | (refine Gt.pick ?_; first | (refine RW.y (Y.pickT rfl rfl) rfl ?_) | (refine RW.y (Y.pickF rfl rfl) rfl ?_)) | (refine Gt.not ?_; (refine RW.y (Y.notb rfl) rfl ?_)))
  any_goals (exact FQ.one rfl rfl rfl ⟨rfl, hk1⟩)
  rename_i h6 h20
  refine RW.fn rfl rfl ((seatNeeds v l w1 hv1 (by omega) hl).mono ?_)
  rintro e w2 ⟨hk2, uN, L, rfl, hN, hNd, hNs, hNl, hNu, hNA⟩
  obtain ⟨pN, cN, rfl, hcN⟩ := hN.shape
  have hNk := (needsOf_ok l).1
  have hnl : (needsOf l).length ≤ 6 := by have := (needsOf_ok l).2; omega
  have hLl : L.length = (needsOf l).length := by rw [← hNd, List.length_map]
  obtain ⟨rot, hrot⟩ : ∃ rot, turnL default c.toNat (needsOf l) = rot := ⟨_, rfl⟩
  have hrp : rot.Perm (needsOf l) := by rw [← hrot]; exact turnL_perm _ _
  have hrl : rot.length = L.length := by rw [hLl]; exact hrp.length_eq
  have hrok : ∀ d ∈ rot, OkD [109, 101] d := fun d hd => hNk.ok d (hrp.mem_iff.1 hd)
  have hrat : ∀ i, i < L.length → (L.getD ((i + c.toNat) % L.length) default).d = rot.getD i default := fun i hi => by
    have hm : (i + c.toNat) % L.length < L.length := Nat.mod_lt _ (by omega)
    rw [← getD_map (·.d) default default L _ hm, hNd, ← hrot, turnL, getD_map _ 0 _ _ _ (by rw [List.length_range]; omega), hLl]
    simp [List.getD_eq_getElem?_getD, List.getElem?_range (show i < (needsOf l).length by omega)]
  repeat' (first | (refine CL.seq ?_) | (refine CL.region ?_) | (refine Gt.nil ?_; refine RW.nilw [0, 1, 2, 6, 7, 8, 9, 10, 11, 12, 13, 14, 16, 17, 20, 28, 35, 61, 75] ?_; dsimp only [H.keep, H.look, H.Fr.put, Nat.beq]) | (refine Gt.assign ?_; refine RW.y (Y.assign rfl) rfl ?_))
  refine RW.build2 rfl rfl rfl rfl rfl rfl (fun w3 hb3 hk3 hlt3 => ?_)
  have hz2 := hk2.size
  have how3 : w3.ownsRow w2.heap.size strT 1 (.slice (some ⟨w2.heap.size, 0, none⟩) 2 2) 2 (sv [meW, v1W]) := own_new hb3 (Nat.le_refl _) rfl (by decide)
  have hN3 := hN.keep0 hk3
  repeat' (first | (refine CL.seq ?_) | (refine CL.region ?_) | (refine Gt.nil ?_; refine RW.nilw [0, 1, 2, 6, 7, 8, 9, 10, 11, 12, 13, 14, 16, 17, 20, 28, 35, 61, 75] ?_; dsimp only [H.keep, H.look, H.Fr.put, Nat.beq]) | (refine Gt.assign ?_; refine RW.y (Y.assign rfl) rfl ?_))
  refine CL.cutS [1, 7, 8] (fun vals wq => ∃ u8, vals = [v1p, .slice pN L.length cN, u8] ∧ Sl wq 1 u8 (seenL rot).length (sv (seenL rot)) ∧ K0 w2 wq) (by simp) ?_ ?_
  · refine CL.block ?_
    refine CL.loopS [1, 2, 7, 8, 9] (fun k vals wr => ∃ (i : Nat) (u8 : Value), vals = [v1p, vb c, .slice pN L.length cN, u8, .int .i64 (i : Int)] ∧ k = L.length - i ∧ i ≤ L.length ∧ wr.ownsRow w2.heap.size strT 1 u8 (seenL (rot.take i)).length (sv (seenL (rot.take i))) ∧ K0 w2 wr) L.length ⟨_, rfl, 0, _, rfl, rfl, Nat.zero_le _, how3, hk3⟩ ?_
    rintro k vals wr ⟨i, u8, rfl, rfl, hi, how, hkr⟩
    dsimp only [List.zip, List.zipWith]
    have hNr := hN.keep0 hkr
    have hsN := hNr.1
    rcases Nat.lt_or_ge i L.length with hlt | hge
    · have hri := hrat i hlt
      have hln := lines_own rot i (by omega)
      have hrk := hrok (rot.getD i default) (mem_getD default (by omega))
      have hnm := name_len hrk.name
      have htx := hrk.len
      have hln1 := seen_len (rot.take i)
      have hln2 := seen_len (rot.take (i + 1))
      rw [List.length_take] at hln1 hln2
      have hm : (i + c.toNat) % L.length < L.length := Nat.mod_lt _ (by omega)
      have hme : ((i : Int) + (c.toNat : Int)) % (L.length : Int) = (((i + c.toNat) % L.length : Nat) : Int) := by rw [Int.natCast_emod, Int.natCast_add]
      obtain ⟨m, hmm⟩ : ∃ m, (i + c.toNat) % L.length = m := ⟨_, rfl⟩
      rw [hmm] at hme hm hri
      have hyD := hNr.2 _ (mem_getD (l := L) default hm)
      obtain ⟨y, hyv⟩ : ∃ y, L.getD m default = y := ⟨_, rfl⟩
      rw [hyv] at hyD hri
      generalize rot.getD i default = d at *
      subst hri
      repeat' (first | (refine CL.seq ?_) | (refine CL.region ?_) | (refine CL.skip ?_) | (refine CL.condP rfl (fun _ => ?_) (fun _ => ?_) <;> try (exfalso; omega)) | (refine CL.block ?_) | (refine Gt.nil ?_; refine RW.nilw [0, 1, 2, 6, 7, 8, 9, 10, 11, 12, 13, 14, 16, 17, 20, 28, 35, 61, 75] ?_; dsimp only [H.keep, H.look, H.Fr.put, Nat.beq]) | (refine Gt.move ?_; refine RW.y (Y.move rfl) rfl ?_) | (refine Gt.len ?_; (refine RW.y (Y.lenv rfl) rfl ?_)) | (refine Gt.add ?_; (refine RW.y (Y.add64 rfl rfl (by omega) (by omega)) rfl ?_)) | (refine Gt.lss ?_; refine RW.y (Y.lss rfl rfl) rfl ?_) | (refine Gt.rem ?_; (refine RW.y (Y.remP rfl rfl (by omega) (by omega)) rfl ?_)) | (refine Gt.idx ?_; (refine RW.elemA rfl rfl rfl rfl (by assumption) (fun _ => by rfl) rfl (by omega) (by omega) (fun _ => ?_))) | (refine Gt.convert ?_; (refine RW.y (Y.convN rfl (by exact wrap64_id (by omega) (by omega))) rfl ?_)))
      rw [hme, Int.toNat_natCast, hyv]
      refine RW.varN rfl (by rfl) rfl (npCells hyD) rfl (fun w4 hb4 hk4 hlt4 => ?_)
      have how4 := own_kept0 how hk4
      have hz4 := hk4.size
      have hzr := hkr.size
      repeat' (first | (refine CL.region ?_) | (refine Gt.nil ?_; refine RW.nilw [0, 1, 2, 6, 7, 8, 9, 10, 11, 12, 13, 14, 16, 17, 20, 28, 35, 61, 75] ?_; dsimp only [H.keep, H.look, H.Fr.put, Nat.beq]) | (refine Gt.move ?_; refine RW.y (Y.move rfl) rfl ?_) | (refine Gt.load ?_; (refine RW.y (Y.loadB rfl (by assumption) rfl) rfl ?_)) | (refine Gt.add ?_; (refine RW.y (Y.cat rfl rfl (by (simp only [List.length_append, List.length_cons, List.length_nil]; omega))) rfl ?_)) | (refine Gt.fieldAddr ?_; refine RW.y (Y.fieldAddr rfl (by rfl)) rfl ?_))
      refine RW.app1 rfl rfl rfl rfl how4 rfl rfl rfl rfl (one_vs _) (by omega) (by omega) (by omega) (fun u' w5 how5 hk5 hl5 => ?_)
      repeat' (first | (refine CL.region ?_) | (refine CL.done ?_) | (refine Nm.block ?_) | (refine Nm.then ?_) | (refine Gt.nil ?_; refine RW.nilw [0, 1, 2, 6, 7, 8, 9, 10, 11, 12, 13, 14, 16, 17, 20, 28, 35, 61, 75] ?_; dsimp only [H.keep, H.look, H.Fr.put, Nat.beq]) | (refine Gt.move ?_; refine RW.y (Y.move rfl) rfl ?_) | (refine Gt.assign ?_; refine RW.y (Y.assign rfl) rfl ?_) | (refine Gt.add ?_; (refine RW.y (Y.add64 rfl rfl (by omega) (by omega)) rfl ?_)))
      refine ⟨L.length - (i + 1), _, rfl, rfl, rfl, by omega, i + 1, u', rfl, rfl, by omega, ?_, (hkr.trans0 hk4).trans hk5 fun k h => .inr (how4.lt k h).1⟩
      rw [show (seenL (rot.take (i + 1))).length = (seenL (rot.take i)).length + 1 from by omega, ← hln, sv, List.map_append]
      exact how5
    · have hi : i = L.length := by omega
      subst hi
      rw [List.take_of_length_le (by omega)] at how
      repeat' (first | (refine CL.seq ?_) | (refine CL.region ?_) | (refine CL.condP rfl (fun _ => ?_) (fun _ => ?_) <;> try (exfalso; omega)) | (refine CL.exit ?_) | (refine Ex.then ?_) | (refine Ex.hit ?_) | (refine CL.done ?_) | (refine Nm.then ?_) | (refine Gt.nil ?_; refine RW.nilw [0, 1, 2, 6, 7, 8, 9, 10, 11, 12, 13, 14, 16, 17, 20, 28, 35, 61, 75] ?_; dsimp only [H.keep, H.look, H.Fr.put, Nat.beq]) | (refine Gt.move ?_; refine RW.y (Y.move rfl) rfl ?_) | (refine Gt.len ?_; (refine RW.y (Y.lenv rfl) rfl ?_)) | (refine Gt.lss ?_; refine RW.y (Y.lss rfl rfl) rfl ?_))
      exact ⟨_, rfl, rfl, rfl, u8, rfl, Sl.of_own how, hkr⟩
  · rintro vals wq ⟨u8, rfl, hs8, hkq⟩
    dsimp only [List.zip, List.zipWith]
    have hKq : K0 w1 wq := hk2.trans0 hkq
    have hsl := seen_len rot
    have hsok := seen_ok hrok
    obtain ⟨lines, hlines⟩ : ∃ x, seenL rot = x := ⟨_, rfl⟩
    rw [hlines] at hs8 hsl hsok
    have hlm : lines.length ≤ 8 := by omega
    repeat' (first | (refine CL.seq ?_) | (refine CL.region ?_) | (refine Gt.nil ?_; refine RW.nilw [0, 1, 2, 6, 7, 8, 9, 10, 11, 12, 13, 14, 16, 17, 20, 28, 35, 61, 75] ?_; dsimp only [H.keep, H.look, H.Fr.put, Nat.beq]) | (refine Gt.assign ?_; refine RW.y (Y.assign rfl) rfl ?_))
    refine CL.cutS [7, 11] (fun vals wx => ∃ (M : List T) (nn : Nat), vals = [.slice pN L.length cN, vs (M.flatMap (· ++ [10]))] ∧ NoiseI lines lines.length nn ns.length M ∧ K0 wq wx) (by simp) ?_ ?_
    · refine CL.block ?_
      refine CL.loopS [1, 7, 8, 11, 12, 13] (fun k vals wr => ∃ (j nn : Nat) (M : List T), vals = [v1p, .slice pN L.length cN, u8, vs (M.flatMap (· ++ [10])), .int .i64 (nn : Int), .int .i64 (j : Int)] ∧ k = lines.length - j ∧ j ≤ lines.length ∧ NoiseI lines j nn ns.length M ∧ K0 wq wr) lines.length ⟨_, rfl, 0, 0, [], rfl, rfl, Nat.zero_le _, ⟨rfl, (fun x hx => by cases hx), by omega, by simp⟩, Kept.refl _ _⟩ ?_
      rintro k vals wr ⟨j, nn, M, rfl, rfl, hj, hI, hkr⟩
      dsimp only [List.zip, List.zipWith]
      have hs8r := hs8.keep0 hkr
      rcases Nat.lt_or_ge j lines.length with hlt | hge
      · repeat' (first | (refine CL.seq ?_) | (refine CL.region ?_) | (refine CL.skip ?_) | (refine CL.condP rfl (fun _ => ?_) (fun _ => ?_) <;> try (exfalso; omega)) | (refine Gt.nil ?_; refine RW.nilw [0, 1, 2, 6, 7, 8, 9, 10, 11, 12, 13, 14, 16, 17, 20, 28, 35, 61, 75] ?_; dsimp only [H.keep, H.look, H.Fr.put, Nat.beq]) | (refine Gt.move ?_; refine RW.y (Y.move rfl) rfl ?_) | (refine Gt.len ?_; (refine RW.y (Y.lenx rfl (by assumption)) rfl ?_)) | (refine Gt.lss ?_; refine RW.y (Y.lss rfl rfl) rfl ?_))
        refine CL.block ?_
        repeat' ((refine CL.seq ?_))
        refine CL.cutS [1, 7, 8, 11, 12, 13] (fun vals wy => ∃ (nn : Nat) (M : List T), vals = [v1p, .slice pN L.length cN, u8, vs (M.flatMap (· ++ [10])), .int .i64 (nn : Int), .int .i64 (j : Int)] ∧ NoiseI lines j nn ns.length M ∧ K0 wr wy) (by simp) ?_ ?_
        · refine CL.block ?_
          refine CL.loopS [1, 7, 8, 11, 12, 13] (fun k vals wy => ∃ (nn : Nat) (M : List T), vals = [v1p, .slice pN L.length cN, u8, vs (M.flatMap (· ++ [10])), .int .i64 (nn : Int), .int .i64 (j : Int)] ∧ k = ns.length - nn ∧ NoiseI lines j nn ns.length M ∧ K0 wr wy) (ns.length - nn) ⟨_, rfl, nn, M, rfl, rfl, hI, Kept.refl _ _⟩ ?_
          clear hI
          rintro k vals wy ⟨nn, M, rfl, rfl, hI, hky⟩
          dsimp only [List.zip, List.zipWith]
          have hny := hn1.keep0 (hKq.trans0 (hkr.trans0 hky))
          have hnum := hI.num
          have hlen := hI.len
          have htn : ((nn : Int)).toNat = nn := Int.toNat_natCast nn
          repeat' (first | (refine CL.seq ?_) | (refine CL.region ?_) | (refine CL.skip ?_) | (refine CL.condP rfl (fun _ => ?_) (fun _ => ?_) <;> try (exfalso; omega)) | (refine CL.condF rfl ?_) | (refine CL.block ?_) | (refine CL.exit ?_) | (refine Ex.then ?_) | (refine Ex.hit ?_) | (refine CL.done ?_) | (refine Nm.then ?_) | (refine Gt.nil ?_; refine RW.nilw [0, 1, 2, 6, 7, 8, 9, 10, 11, 12, 13, 14, 16, 17, 20, 28, 35, 61, 75] ?_; dsimp only [H.keep, H.look, H.Fr.put, Nat.beq]) | (refine Gt.move ?_; refine RW.y (Y.move rfl) rfl ?_) | (refine Gt.guard ?_; first | (refine RW.part rfl rfl rfl (fun _ => ?_) (fun _ => ?_) <;> try (exfalso; omega)) | (refine RW.on rfl rfl rfl ?_) | (refine RW.off1 rfl rfl rfl rfl rfl ?_)) | (refine Gt.len ?_; (refine RW.y (Y.lenx rfl (by assumption)) rfl ?_)) | (refine Gt.gtr ?_; refine RW.y (Y.gtr rfl rfl) rfl ?_) | (refine Gt.pick ?_; first | (refine RW.y (Y.pickT rfl rfl) rfl ?_) | (refine RW.y (Y.pickF rfl rfl) rfl ?_)) | (refine Gt.lss ?_; refine RW.y (Y.lss rfl rfl) rfl ?_) | (refine Gt.rem ?_; (refine RW.y (Y.remP rfl rfl (by omega) (by omega)) rfl ?_)) | (refine Gt.idx ?_; (refine RW.elemBOn rfl rfl rfl rfl (by assumption) (by omega) (by omega) rfl rfl rfl ?_)))
          · rename_i hnl hgt
            have hnb : nn < ns.length := by omega
            obtain ⟨b, hb⟩ : ∃ b, ns.getD nn 0 = b := ⟨_, rfl⟩
            refine RW.buildL (ps := [(0, _), (1, _)]) (l := sv noiseL) rfl rfl rfl text_cells rfl rfl (fun wz hbz hkz hltz => ?_)
            have hsz : Sl wz 1 (.slice (some ⟨wy.heap.size, 0, none⟩) 2 2) noiseL.length (sv noiseL) := sl_new hbz rfl (by decide)
            have hnz := hny.keep0 hkz
            have hnlen : noiseL.length = 2 := rfl
            have hgt2 := hgt
            rw [htn, hb] at hgt2
            have e1 : ((b.toNat : Int) % 3 - 1).toNat = b.toNat % 3 - 1 := by omega
            repeat' (first | (refine Gt.move ?_; refine RW.y (Y.move rfl) rfl ?_) | (refine Gt.rem ?_; (refine RW.y (Y.remP rfl rfl (by omega) (by omega)) rfl ?_)) | (refine Gt.idx ?_; first | (refine RW.elemB rfl rfl rfl rfl (by assumption) (by omega) (by omega) ?_) | (refine RW.elemS rfl rfl rfl rfl (by assumption) (by omega) (by omega) ?_)) | (refine Gt.sub ?_; refine RW.y (Y.subN rfl rfl (by exact wrapu8_id (by omega) (by omega))) rfl ?_))
            rw [htn, hb, e1]
            rcases (by omega : b.toNat % 3 = 1 ∨ b.toNat % 3 = 2) with h3 | h3
            · rw [h3]
              have hx := hI.quiet hnb (x := []) rfl (by simp) (by simp)
              refine RW.y (Y.cat rfl rfl (by show (M.flatMap (· ++ [10])).length + ([10] : T).length ≤ _; simp only [List.length_cons, List.length_nil]; omega)) rfl ?_
              repeat' (first | (refine CL.region ?_) | (refine CL.done ?_) | (refine Nm.block ?_) | (refine Nm.then ?_) | (refine Gt.nil ?_; refine RW.nilw [0, 1, 2, 6, 7, 8, 9, 10, 11, 12, 13, 14, 16, 17, 20, 28, 35, 61, 75] ?_; dsimp only [H.keep, H.look, H.Fr.put, Nat.beq]) | (refine Gt.move ?_; refine RW.y (Y.move rfl) rfl ?_) | (refine Gt.assign ?_; refine RW.y (Y.assign rfl) rfl ?_) | (refine Gt.add ?_; (refine RW.y (Y.add64 rfl rfl (by omega) (by omega)) rfl ?_)))
              exact ⟨ns.length - (nn + 1), _, rfl, rfl, rfl, by omega, nn + 1, M ++ [[]], by rw [flat_snoc, List.append_nil]; rfl, rfl, hx, hky.trans0 hkz⟩
            · rw [h3]
              have hx := hI.quiet hnb (x := hashW) rfl (by decide) (by decide)
              refine RW.y (Y.cat rfl rfl (by show (M.flatMap (· ++ [10])).length + (hashW ++ [10] : T).length ≤ _; simp only [hashW, List.length_append, List.length_cons, List.length_nil]; omega)) rfl ?_
              repeat' (first | (refine CL.region ?_) | (refine CL.done ?_) | (refine Nm.block ?_) | (refine Nm.then ?_) | (refine Gt.nil ?_; refine RW.nilw [0, 1, 2, 6, 7, 8, 9, 10, 11, 12, 13, 14, 16, 17, 20, 28, 35, 61, 75] ?_; dsimp only [H.keep, H.look, H.Fr.put, Nat.beq]) | (refine Gt.move ?_; refine RW.y (Y.move rfl) rfl ?_) | (refine Gt.assign ?_; refine RW.y (Y.assign rfl) rfl ?_) | (refine Gt.add ?_; (refine RW.y (Y.add64 rfl rfl (by omega) (by omega)) rfl ?_)))
              exact ⟨ns.length - (nn + 1), _, rfl, rfl, rfl, by omega, nn + 1, M ++ [hashW], by rw [flat_snoc, List.append_assoc]; rfl, rfl, hx, hky.trans0 hkz⟩
          · exact ⟨_, rfl, rfl, rfl, nn, M, rfl, hI, hky⟩
          · exact ⟨_, rfl, rfl, rfl, nn, M, rfl, hI, hky⟩
        · rintro vals wy ⟨nn, M, rfl, hI, hky⟩
          dsimp only [List.zip, List.zipWith]
          have hs8y := hs8r.keep0 hky
          have hnum := hI.num
          have hlen := hI.len
          have hok := hsok _ (mem_getD (l := lines) [] hlt)
          have hti : ((j : Int)).toNat = j := Int.toNat_natCast j
          have hsn := flat_snoc M (lines.getD j [])
          have hIl := hI.line hlt hok.1 hok.2.1 hok.2.2
          have hll := hok.2.2
          repeat' (first | (refine CL.seq ?_) | (refine CL.region ?_) | (refine Gt.nil ?_; refine RW.nilw [0, 1, 2, 6, 7, 8, 9, 10, 11, 12, 13, 14, 16, 17, 20, 28, 35, 61, 75] ?_; dsimp only [H.keep, H.look, H.Fr.put, Nat.beq]) | (refine Gt.move ?_; refine RW.y (Y.move rfl) rfl ?_) | (refine Gt.assign ?_; refine RW.y (Y.assign rfl) rfl ?_) | (refine Gt.add ?_; (refine RW.y (Y.add64 rfl rfl (by omega) (by omega)) rfl ?_)) | (refine Gt.idx ?_; (refine RW.elemS rfl rfl rfl rfl (by assumption) (by omega) (by omega) ?_)))
          rw [hti]
          repeat' (first | (refine CL.region ?_) | (refine CL.done ?_) | (refine Nm.block ?_) | (refine Nm.then ?_) | (refine Gt.nil ?_; refine RW.nilw [0, 1, 2, 6, 7, 8, 9, 10, 11, 12, 13, 14, 16, 17, 20, 28, 35, 61, 75] ?_; dsimp only [H.keep, H.look, H.Fr.put, Nat.beq]) | (refine Gt.move ?_; refine RW.y (Y.move rfl) rfl ?_) | (refine Gt.assign ?_; refine RW.y (Y.assign rfl) rfl ?_) | (refine Gt.add ?_; first | (refine RW.y (Y.cat rfl rfl (by first | omega | (simp only [List.length_append, List.length_cons, List.length_nil]; omega))) rfl ?_) | (refine RW.y (Y.add64 rfl rfl (by omega) (by omega)) rfl ?_)))
          exact ⟨lines.length - (j + 1), _, rfl, rfl, rfl, by omega, j + 1, nn + 1, M ++ [lines.getD j []], by rw [hsn]; rfl, rfl, by omega, hIl, hkr.trans0 hky⟩
      · have hj : j = lines.length := by omega
        subst hj
        repeat' (first | (refine CL.seq ?_) | (refine CL.region ?_) | (refine CL.condP rfl (fun _ => ?_) (fun _ => ?_) <;> try (exfalso; omega)) | (refine CL.exit ?_) | (refine Ex.then ?_) | (refine Ex.hit ?_) | (refine CL.done ?_) | (refine Nm.then ?_) | (refine Gt.nil ?_; refine RW.nilw [0, 1, 2, 6, 7, 8, 9, 10, 11, 12, 13, 14, 16, 17, 20, 28, 35, 61, 75] ?_; dsimp only [H.keep, H.look, H.Fr.put, Nat.beq]) | (refine Gt.move ?_; refine RW.y (Y.move rfl) rfl ?_) | (refine Gt.len ?_; (refine RW.y (Y.lenx rfl (by assumption)) rfl ?_)) | (refine Gt.lss ?_; refine RW.y (Y.lss rfl rfl) rfl ?_))
        exact ⟨_, rfl, rfl, rfl, M, nn, rfl, hI, hkr⟩
    · rintro vals wx ⟨M, nn, rfl, hI, hkx⟩
      dsimp only [List.zip, List.zipWith]
      have hKx := hKq.trans0 hkx
      rw [← hlines] at hI
      have hman := noise_man hNk hnl hrp (by omega) hI
      have hlen := hI.len
      have hnum := hI.num
      have hsln := seen_len rot
      repeat' (first | (refine CL.seq ?_) | (refine CL.region ?_) | (refine Gt.move ?_; refine RW.y (Y.move rfl) rfl ?_))
      refine RW.fn rfl rfl ((parseM (M.flatMap (· ++ [10])) (by omega) wx ((hM.keep0 hk1).keep0 hKx)).mono ?_)
      rintro e wy ⟨hky, V, rfl, hV⟩
      rw [hman] at hV ⊢
      obtain ⟨p, q, L2, rfl, hp, hq, hL2⟩ := (hV : MfAt wy V ⟨[109, 101], v1, needsOf l⟩)
      repeat' (first | (refine Gt.move ?_; refine RW.y (Y.move rfl) rfl ?_) | (refine Gt.extract ?_; refine RW.y (Y.extract rfl rfl) rfl ?_))
      refine RW.varN rfl (by rfl) rfl (mfCells _ hp.one hq.1.one) rfl (fun wz hbz hkz hltz => ?_)
      repeat' (first | (refine CL.seq ?_) | (refine CL.region ?_) | (refine Gt.nil ?_; refine RW.nilw [0, 1, 2, 6, 7, 8, 9, 10, 11, 12, 13, 14, 16, 17, 20, 28, 35, 61, 75] ?_; dsimp only [H.keep, H.look, H.Fr.put, Nat.beq]) | (refine Gt.assign ?_; refine RW.y (Y.assign rfl) rfl ?_))
      refine RW.fn rfl rfl ((versionOf [49, 46, 48, 46, 48] (by decide) wz).mono ?_)
      rintro e wa ⟨hka, Vv, rfl, pv, rfl, hpv⟩
      have hbza := hka.at0 hbz
      repeat' (first | (refine Gt.move ?_; refine RW.y (Y.move rfl) rfl ?_) | (refine Gt.extract ?_; refine RW.y (Y.extract rfl rfl) rfl ?_))
      refine RW.varN rfl (by rfl) rfl (verCells hpv.one) rfl (fun wb hbb hkb hltb => ?_)
      have hbzb := hkb.at0 hbza
      obtain ⟨pp, cp, rfl, hcp⟩ := hpv.shape
      repeat' (first | (refine CL.seq ?_) | (refine CL.region ?_) | (refine Gt.nil ?_; refine RW.nilw [0, 1, 2, 6, 7, 8, 9, 10, 11, 12, 13, 14, 16, 17, 20, 28, 35, 61, 75] ?_; dsimp only [H.keep, H.look, H.Fr.put, Nat.beq]) | (refine RW.y (Y.loadBlock rfl hbzb rfl) rfl ?_) | (refine RW.y (Y.loadBlock rfl hbb rfl) rfl ?_) | (refine RW.y (Y.build (ps := [(0, _), (1, _), (2, _)]) (l := [_, _, _]) (c := (mfC ⟨[109, 101], v1, needsOf l⟩ (.slice pp v1.pre.length cp) (.slice pN L.length cN)).toArray) rfl rfl) rfl ?_) | (refine Gt.move ?_; refine RW.y (Y.move rfl) rfl ?_) | (refine Gt.guard ?_; first | (refine RW.part rfl rfl rfl (fun _ => ?_) (fun _ => ?_) <;> try (exfalso; omega)) | (refine RW.on rfl rfl rfl ?_)) | (refine Gt.assign ?_; refine RW.y (Y.assign rfl) rfl ?_) | (refine Gt.eql ?_; refine RW.y (Y.eqi rfl rfl) rfl ?_))
      refine RW.fn rfl rfl ((helpManifest _ _ ⟨[109, 101], v1, needsOf l⟩ wb ⟨p, q, L2, rfl, hp.keep0 (hkz.trans0 (hka.trans0 hkb)), hq.keep0 (hkz.trans0 (hka.trans0 hkb)), hL2⟩ ⟨_, _, L, rfl, hpv.keep0 hkb, hN.keep0 (hkq.trans0 (hkx.trans0 (hky.trans0 (hkz.trans0 (hka.trans0 hkb))))), hNd⟩).mono ?_)
      rintro e wc ⟨hkc, rfl⟩
      repeat' (first | (refine CL.ret ?_) | (refine Gt.nil ?_; refine RW.nilw [0, 1, 2, 6, 7, 8, 9, 10, 11, 12, 13, 14, 16, 17, 20, 28, 35, 61, 75] ?_; dsimp only [H.keep, H.look, H.Fr.put, Nat.beq]) | (refine Gt.assign ?_; refine RW.y (Y.assign rfl) rfl ?_) | (refine Gt.pick ?_; (refine RW.y (Y.pickT rfl rfl) rfl ?_)))
      exact FQ.one rfl rfl rfl ⟨rfl, hk1.trans0 (hKx.trans0 (hky.trans0 (hkz.trans0 (hka.trans0 (hkb.trans0 hkc)))))⟩
end Go.Proofs.YtjlkmdmpejpmpaaGreatDoor.Ma

namespace Go.Proofs.YtjlkmdmpejpmpaaGreatDoor.Ma
open Go.RowKit H S Ve Sp Od
attribute [local irreducible] H.CL H.RW H.CW H.Yd H.thenK H.blockQ Go.Calls

theorem tens_set (n i : Nat) (h : i < n) : (bv (List.replicate i 10) ++ List.replicate (n - i) (vb 0)).set i (vb 10) = bv (List.replicate (i + 1) 10) ++ List.replicate (n - (i + 1)) (vb 0) := by
  have hl : (bv (List.replicate i 10)).length = i := by simp [bv]
  rw [List.set_append_right _ _ (by omega), hl, Nat.sub_self, show n - i = (n - (i + 1)) + 1 from by omega, List.replicate_succ, List.set_cons_zero, List.replicate_succ', bv, bv, List.map_append, List.append_assoc]
  rfl
set_option maxHeartbeats 1000000 in
theorem lawMany (a b : UInt8) (w : World) (hM : Ml w) (hT : Tb w) : Calls Tryz.prog 5 #[vb a, vb b] w fun e w' => e = .returned (.bool true) ∧ K0 w w' := by
  have ha := UInt8.toNat_lt a
  have hb := UInt8.toNat_lt b
  refine H.enter Tryz.func5 Tryz.ntmps5 rfl rfl ?_; dsimp only [H.args]
  repeat' (first | (refine CL.seq ?_) | (refine CL.region ?_) | (refine Gt.nil ?_; refine RW.nilw [0, 1, 4, 5, 6, 7, 8, 9, 10, 11, 12, 14, 20, 36, 42, 51, 64, 81] ?_; dsimp only [H.keep, H.look, H.Fr.put, Nat.beq]) | (refine Gt.assign ?_; refine RW.y (Y.assign rfl) rfl ?_))
  refine RW.fn rfl rfl ((known w hM hT).mono ?_)
  rintro e w1 ⟨hk1, rfl⟩
  repeat' (first | (refine CL.seq ?_) | (refine CL.region ?_) | (refine CL.skip ?_) | (refine CL.condF rfl ?_) | (refine CL.block ?_) | (refine Gt.nil ?_; refine RW.nilw [0, 1, 4, 5, 6, 7, 8, 9, 10, 11, 12, 14, 20, 36, 42, 51, 64, 81] ?_; dsimp only [H.keep, H.look, H.Fr.put, Nat.beq]) | (refine Gt.move ?_; refine RW.y (Y.move rfl) rfl ?_) | (refine Gt.assign ?_; refine RW.y (Y.assign rfl) rfl ?_) | (refine Gt.rem ?_; (refine RW.y (Y.remP rfl rfl (by omega) (by omega)) rfl ?_)) | (refine Gt.convert ?_; (refine RW.y (Y.convN rfl (by exact wrap64_id (by omega) (by omega))) rfl ?_)) | (refine Gt.not ?_; (refine RW.y (Y.notb rfl) rfl ?_)))
  obtain ⟨k, hk⟩ : ∃ k, a.toNat % 24 = k := ⟨_, rfl⟩
  have hk24 : k < 24 := by omega
  have hki : (a.toNat : Int) % 24 = (k : Int) := by omega
  rw [hki]
  have hok := many_ok hk24
  have hmn := many_man hk24
  have hpd := many_pad hk24
  have hfw := hok.few
  have hmo := hok.more
  have hln := hok.len
  refine CL.loopS [0, 1, 5, 6, 7] (fun m vals wr => ∃ i : Nat, vals = [vb a, vb b, .int .i64 (k : Int), vs (manyT i), .int .i64 (i : Int)] ∧ m = k - i ∧ i ≤ k ∧ K0 w1 wr) k ⟨_, rfl, 0, rfl, rfl, Nat.zero_le _, Kept.refl _ _⟩ ?_
  rintro m vals wr ⟨i, rfl, rfl, hi, hkr⟩
  dsimp only [List.zip, List.zipWith]
  rcases Nat.lt_or_ge i k with hlt | hge
  · have hli := (many_ok (show i < 24 by omega)).len
    have hdl := decI_len (i : Int) (by omega)
    repeat' (first | (refine CL.seq ?_) | (refine CL.region ?_) | (refine CL.skip ?_) | (refine CL.condP rfl (fun _ => ?_) (fun _ => ?_) <;> try (exfalso; omega)) | (refine CL.block ?_) | (refine Gt.nil ?_; refine RW.nilw [0, 1, 4, 5, 6, 7, 8, 9, 10, 11, 12, 14, 20, 36, 42, 51, 64, 81] ?_; dsimp only [H.keep, H.look, H.Fr.put, Nat.beq]) | (refine Gt.move ?_; refine RW.y (Y.move rfl) rfl ?_) | (refine Gt.add ?_; (refine RW.y (Y.cat rfl rfl (by (simp only [List.length_append, List.length_cons, List.length_nil]; omega))) rfl ?_)) | (refine Gt.lss ?_; refine RW.y (Y.lss rfl rfl) rfl ?_))
    refine RW.fn rfl rfl ((dec (i : Int) (by omega) wr).mono ?_)
    rintro e w2 ⟨hk2, rfl⟩
    repeat' (first | (refine CL.region ?_) | (refine CL.done ?_) | (refine Nm.block ?_) | (refine Nm.then ?_) | (refine Gt.nil ?_; refine RW.nilw [0, 1, 4, 5, 6, 7, 8, 9, 10, 11, 12, 14, 20, 36, 42, 51, 64, 81] ?_; dsimp only [H.keep, H.look, H.Fr.put, Nat.beq]) | (refine Gt.move ?_; refine RW.y (Y.move rfl) rfl ?_) | (refine Gt.assign ?_; refine RW.y (Y.assign rfl) rfl ?_) | (refine Gt.add ?_; first | (refine RW.y (Y.cat rfl rfl (by (simp only [List.length_append, List.length_cons, List.length_nil]; omega))) rfl ?_) | (refine RW.y (Y.add64 rfl rfl (by omega) (by omega)) rfl ?_)))
    exact ⟨k - (i + 1), _, rfl, rfl, rfl, by omega, i + 1, by rw [manyT_snoc]; rfl, rfl, by omega, hkr.trans0 hk2⟩
  · have hik : i = k := by omega
    subst hik
    have hK := hk1.trans0 hkr
    repeat' (first | (refine CL.seq ?_) | (refine CL.region ?_) | (refine CL.condP rfl (fun _ => ?_) (fun _ => ?_) <;> try (exfalso; omega)) | (refine CL.exit ?_) | (refine Ex.then ?_) | (refine Ex.hit ?_) | (refine Gt.nil ?_; refine RW.nilw [0, 1, 4, 5, 6, 7, 8, 9, 10, 11, 12, 14, 20, 36, 42, 51, 64, 81] ?_; dsimp only [H.keep, H.look, H.Fr.put, Nat.beq]) | (refine Gt.move ?_; refine RW.y (Y.move rfl) rfl ?_) | (refine Gt.lss ?_; refine RW.y (Y.lss rfl rfl) rfl ?_))
    refine RW.fn rfl rfl ((parseM (manyT i) (by omega) wr (hM.keep0 hK)).mono ?_)
    rintro e w2 ⟨hk2, V, rfl, hV⟩
    rw [hmn] at hV ⊢
    obtain ⟨⟨m, at1, er⟩, hr⟩ : ∃ r, rdM (manyL i) 0 0 zeroM = r := ⟨_, rfl⟩
    rw [hr] at hV hfw hmo hpd ⊢
    obtain ⟨p, q, L, rfl, hp, hq, hL⟩ := (hV : MfAt w2 V m)
    have hLl : L.length = m.needs.length := by have := congrArg List.length hL; rw [List.length_map] at this; exact this
    repeat' (first | (refine Gt.move ?_; refine RW.y (Y.move rfl) rfl ?_) | (refine Gt.extract ?_; refine RW.y (Y.extract rfl rfl) rfl ?_))
    refine RW.varN rfl (by rfl) rfl (mfCells _ hp.one hq.1.one) rfl (fun w3 hb3 hk3 hlt3 => ?_)
    have hK3 := hK.trans0 (hk2.trans0 hk3)
    have hs3 := hq.1.keep0 hk3
    by_cases h20 : i ≤ 20
    · obtain ⟨rfl, hnl⟩ := hfw h20
      simp only at hnl
      have hfin : Ending.returned (Value.bool (decide ((0 : Int) = 0) == decide ((i : Int) ≤ 20))) = Ending.returned (Value.bool true) := by rw [decide_eq_true (show (i : Int) ≤ 20 by omega)]; rfl
      repeat' (first | (refine CL.seq ?_) | (refine CL.region ?_) | (refine CL.skip ?_) | (refine CL.condP rfl (fun _ => ?_) (fun _ => ?_) <;> try (exfalso; omega)) | (refine Gt.nil ?_; refine RW.nilw [0, 1, 4, 5, 6, 7, 8, 9, 10, 11, 12, 14, 20, 36, 42, 51, 64, 81] ?_; dsimp only [H.keep, H.look, H.Fr.put, Nat.beq]) | (refine Gt.move ?_; refine RW.y (Y.move rfl) rfl ?_) | (refine Gt.guard ?_; first | (refine RW.part rfl rfl rfl (fun _ => ?_) (fun _ => ?_) <;> try (exfalso; omega)) | (refine RW.on rfl rfl rfl ?_)) | (refine Gt.assign ?_; refine RW.y (Y.assign rfl) rfl ?_) | (refine Gt.add ?_; (refine RW.y (Y.add64 rfl rfl (by omega) (by omega)) rfl ?_)) | (refine Gt.neq ?_; refine RW.y (Y.nei rfl rfl) rfl ?_) | (refine Gt.rem ?_; (refine RW.y (Y.remP rfl rfl (by omega) (by omega)) rfl ?_)) | (refine Gt.convert ?_; (refine RW.y (Y.convN rfl (by exact wrap64_id (by omega) (by omega))) rfl ?_)) | (refine Gt.pick ?_; (refine RW.y (Y.pickF rfl rfl) rfl ?_)) | (refine Gt.gtr ?_; refine RW.y (Y.gtr rfl rfl) rfl ?_) | (refine Gt.len ?_; first | (refine RW.y (Y.lenx rfl (by assumption)) rfl ?_) | (refine RW.y (Y.lens rfl) rfl ?_)) | (refine Gt.sub ?_; refine RW.y (Y.sub64 rfl rfl (by omega) (by omega)) rfl ?_) | (refine Gt.fieldAddr ?_; refine RW.y (Y.fieldAddr rfl (by rfl)) rfl ?_) | (refine Gt.load ?_; refine RW.y (Y.loadB rfl (by assumption) rfl) rfl ?_))
      have hb4 : b.toNat % 4 < 4 := Nat.mod_lt _ (by decide)
      obtain ⟨np, hnp⟩ : ∃ np : Nat, ((65536 : Int) - ((manyT i).length : Int) - 2 + (b.toNat : Int) % 4) = np := ⟨(65536 - (manyT i).length - 2 + b.toNat % 4), by omega⟩
      rw [hnp]
      refine RW.make1 rfl rfl rfl rfl (by omega) (by omega) (fun v4 w4 how4 hk4 => ?_)
      repeat' (first | (refine CL.seq ?_) | (refine CL.region ?_) | (refine CL.block ?_) | (refine Gt.nil ?_; refine RW.nilw [0, 1, 4, 5, 6, 7, 8, 9, 10, 11, 12, 14, 20, 36, 42, 51, 64, 81] ?_; dsimp only [H.keep, H.look, H.Fr.put, Nat.beq]) | (refine Gt.assign ?_; refine RW.y (Y.assign rfl) rfl ?_))
      refine CL.loopS [1, 5, 6, 11, 12] (fun z vals wr => ∃ j : Nat, vals = [vb b, .int .i64 (i : Int), vs (manyT i), v4, .int .i64 (j : Int)] ∧ z = np - j ∧ j ≤ np ∧ wr.ownsRow w3.heap.size u8T 1 v4 np (bv (List.replicate j 10) ++ List.replicate (np - j) (vb 0)) ∧ K0 w3 wr) np ⟨_, rfl, 0, rfl, rfl, Nat.zero_le _, by simp only [List.replicate_zero, bv, List.map_nil, List.nil_append, Nat.sub_zero]; exact how4, hk4⟩ ?_
      rintro z vals w5 ⟨j, rfl, rfl, hj, how5, hk5⟩
      dsimp only [List.zip, List.zipWith]
      have hs5 := Sl.of_own how5
      rcases Nat.lt_or_ge j np with hjl | hjg
      · repeat' (first | (refine CL.seq ?_) | (refine CL.region ?_) | (refine CL.skip ?_) | (refine CL.condP rfl (fun _ => ?_) (fun _ => ?_) <;> try (exfalso; omega)) | (refine CL.block ?_) | (refine Gt.nil ?_; refine RW.nilw [0, 1, 4, 5, 6, 7, 8, 9, 10, 11, 12, 14, 20, 36, 42, 51, 64, 81] ?_; dsimp only [H.keep, H.look, H.Fr.put, Nat.beq]) | (refine Gt.move ?_; refine RW.y (Y.move rfl) rfl ?_) | (refine Gt.lss ?_; refine RW.y (Y.lss rfl rfl) rfl ?_) | (refine Gt.len ?_; (refine RW.y (Y.lenx rfl (by assumption)) rfl ?_)))
        refine RW.setEl rfl rfl rfl how5 (by omega) (by omega) (fun _ => rfl) rfl (fun pp w6 how6 hk6 => ?_)
        repeat' (first | (refine CL.region ?_) | (refine CL.done ?_) | (refine Nm.block ?_) | (refine Nm.then ?_) | (refine Gt.nil ?_; refine RW.nilw [0, 1, 4, 5, 6, 7, 8, 9, 10, 11, 12, 14, 20, 36, 42, 51, 64, 81] ?_; dsimp only [H.keep, H.look, H.Fr.put, Nat.beq]) | (refine Gt.move ?_; refine RW.y (Y.move rfl) rfl ?_) | (refine Gt.assign ?_; refine RW.y (Y.assign rfl) rfl ?_) | (refine Gt.add ?_; (refine RW.y (Y.add64 rfl rfl (by omega) (by omega)) rfl ?_)))
        rw [Int.toNat_natCast] at how6
        rw [show (Value.int .u8 10 : Value) = vb 10 from rfl, tens_set np j hjl] at how6
        exact ⟨np - (j + 1), _, rfl, rfl, rfl, by omega, j + 1, rfl, rfl, by omega, how6, hk5.trans hk6 fun k c => .inr (how5.lt k c).1⟩
      · have hjn : j = np := by omega
        subst hjn
        rw [Nat.sub_self, List.replicate_zero, List.append_nil] at hs5
        have hpl := hpd j
        have hrl : (List.replicate j (10 : UInt8)).length = j := List.length_replicate
        obtain ⟨tens, htens⟩ : ∃ x : T, List.replicate j 10 = x := ⟨_, rfl⟩
        rw [htens] at hs5 hpl hrl
        repeat' (first | (refine CL.seq ?_) | (refine CL.region ?_) | (refine CL.condP rfl (fun _ => ?_) (fun _ => ?_) <;> try (exfalso; omega)) | (refine CL.exit ?_) | (refine Ex.then ?_) | (refine Ex.hit ?_) | (refine Gt.nil ?_; refine RW.nilw [0, 1, 4, 5, 6, 7, 8, 9, 10, 11, 12, 14, 20, 36, 42, 51, 64, 81] ?_; dsimp only [H.keep, H.look, H.Fr.put, Nat.beq]) | (refine Gt.move ?_; refine RW.y (Y.move rfl) rfl ?_) | (refine Gt.lss ?_; refine RW.y (Y.lss rfl rfl) rfl ?_) | (refine Gt.len ?_; (refine RW.y (Y.lenx rfl (by assumption)) rfl ?_)))
        refine RW.y (Y.strb (l := tens) rfl (by rw [hrl]; exact hs5)) rfl ?_
        repeat' ((refine Gt.add ?_; (refine RW.y (Y.cat rfl rfl (by omega)) rfl ?_)))
        have hK5 := hK3.trans0 hk5
        refine RW.fn rfl rfl ((parseM (manyT i ++ tens) (by rw [List.length_append]; omega) w5 (hM.keep0 hK5)).mono ?_)
        rintro e w6 ⟨hk6, V6, rfl, hV6⟩
        by_cases hb3 : b.toNat % 4 = 3
        · rw [if_neg (by omega)] at hpl
          rw [hpl]
          repeat' (first | (refine CL.seq ?_) | (refine CL.region ?_) | (refine CL.condP rfl (fun _ => ?_) (fun _ => ?_) <;> try (exfalso; omega)) | (refine CL.ret ?_) | (refine Gt.nil ?_; refine RW.nilw [0, 1, 4, 5, 6, 7, 8, 9, 10, 11, 12, 14, 20, 36, 42, 51, 64, 81] ?_; dsimp only [H.keep, H.look, H.Fr.put, Nat.beq]) | (refine Gt.move ?_; refine RW.y (Y.move rfl) rfl ?_) | (refine Gt.guard ?_; first | (refine RW.part rfl rfl rfl (fun _ => ?_) (fun _ => ?_) <;> try (exfalso; omega)) | (refine RW.on rfl rfl rfl ?_)) | (refine Gt.assign ?_; refine RW.y (Y.assign rfl) rfl ?_) | (refine Gt.extract ?_; refine RW.y (Y.extract rfl rfl) rfl ?_) | (refine Gt.rem ?_; (refine RW.y (Y.remP rfl rfl (by omega) (by omega)) rfl ?_)) | (refine Gt.pick ?_; (refine RW.y (Y.pickT rfl rfl) rfl ?_)) | (refine Gt.eql ?_; (refine RW.y (Y.eqi rfl rfl) rfl ?_)) | (refine Gt.gtr ?_; refine RW.y (Y.gtr rfl rfl) rfl ?_))
          exact FQ.one rfl rfl rfl ⟨rfl, hK5.trans0 hk6⟩
        · rw [if_pos (by omega)] at hpl
          rw [hpl]
          repeat' (first | (refine CL.seq ?_) | (refine CL.region ?_) | (refine CL.skip ?_) | (refine CL.condP rfl (fun _ => ?_) (fun _ => ?_) <;> try (exfalso; omega)) | (refine CL.ret ?_) | (refine Gt.nil ?_; refine RW.nilw [0, 1, 4, 5, 6, 7, 8, 9, 10, 11, 12, 14, 20, 36, 42, 51, 64, 81] ?_; dsimp only [H.keep, H.look, H.Fr.put, Nat.beq]) | (refine Gt.move ?_; refine RW.y (Y.move rfl) rfl ?_) | (refine Gt.assign ?_; refine RW.y (Y.assign rfl) rfl ?_) | (refine Gt.extract ?_; refine RW.y (Y.extract rfl rfl) rfl ?_) | (refine Gt.rem ?_; (refine RW.y (Y.remP rfl rfl (by omega) (by omega)) rfl ?_)) | (refine Gt.eql ?_; first | (refine RW.y (Y.eqi rfl rfl) rfl ?_) | (refine RW.y (Y.eqb rfl rfl) rfl ?_)) | (refine Gt.gtr ?_; refine RW.y (Y.gtr rfl rfl) rfl ?_) | (refine Gt.leq ?_; refine RW.y (Y.leq rfl rfl) rfl ?_))
          exact FQ.one rfl rfl rfl ⟨hfin, hK5.trans0 hk6⟩
    · obtain ⟨rfl, rfl⟩ : at1 = 23 ∧ er = 62 := by have := hmo (by omega); simp only [Prod.mk.injEq] at this; exact this
      have hfin : Ending.returned (Value.bool (decide ((62 : Int) = 0) == decide ((i : Int) ≤ 20))) = Ending.returned (Value.bool true) := by rw [decide_eq_false (show ¬ (i : Int) ≤ 20 by omega)]; rfl
      repeat' (first | (refine CL.seq ?_) | (refine CL.region ?_) | (refine CL.skip ?_) | (refine CL.condP rfl (fun _ => ?_) (fun _ => ?_) <;> try (exfalso; omega)) | (refine Gt.nil ?_; refine RW.nilw [0, 1, 4, 5, 6, 7, 8, 9, 10, 11, 12, 14, 20, 36, 42, 51, 64, 81] ?_; dsimp only [H.keep, H.look, H.Fr.put, Nat.beq]) | (refine Gt.move ?_; refine RW.y (Y.move rfl) rfl ?_) | (refine Gt.guard ?_; first | (refine RW.part rfl rfl rfl (fun _ => ?_) (fun _ => ?_) <;> try (exfalso; omega)) | (refine RW.on rfl rfl rfl ?_)) | (refine Gt.assign ?_; refine RW.y (Y.assign rfl) rfl ?_) | (refine Gt.add ?_; (refine RW.y (Y.add64 rfl rfl (by omega) (by omega)) rfl ?_)) | (refine Gt.neq ?_; refine RW.y (Y.nei rfl rfl) rfl ?_) | (refine Gt.rem ?_; (refine RW.y (Y.remP rfl rfl (by omega) (by omega)) rfl ?_)) | (refine Gt.convert ?_; (refine RW.y (Y.convN rfl (by exact wrap64_id (by omega) (by omega))) rfl ?_)) | (refine Gt.pick ?_; (refine RW.y (Y.pickF rfl rfl) rfl ?_)) | (refine Gt.gtr ?_; refine RW.y (Y.gtr rfl rfl) rfl ?_) | (refine Gt.len ?_; (refine RW.y (Y.lens rfl) rfl ?_)) | (refine Gt.sub ?_; refine RW.y (Y.sub64 rfl rfl (by omega) (by omega)) rfl ?_))
      have hb4 : b.toNat % 4 < 4 := Nat.mod_lt _ (by decide)
      obtain ⟨np, hnp⟩ : ∃ np : Nat, ((65536 : Int) - ((manyT i).length : Int) - 2 + (b.toNat : Int) % 4) = np := ⟨(65536 - (manyT i).length - 2 + b.toNat % 4), by omega⟩
      rw [hnp]
      refine RW.make1 rfl rfl rfl rfl (by omega) (by omega) (fun v4 w4 how4 hk4 => ?_)
      repeat' (first | (refine CL.seq ?_) | (refine CL.region ?_) | (refine CL.block ?_) | (refine Gt.nil ?_; refine RW.nilw [0, 1, 4, 5, 6, 7, 8, 9, 10, 11, 12, 14, 20, 36, 42, 51, 64, 81] ?_; dsimp only [H.keep, H.look, H.Fr.put, Nat.beq]) | (refine Gt.assign ?_; refine RW.y (Y.assign rfl) rfl ?_))
      refine CL.loopS [1, 5, 6, 11, 12] (fun z vals wr => ∃ j : Nat, vals = [vb b, .int .i64 (i : Int), vs (manyT i), v4, .int .i64 (j : Int)] ∧ z = np - j ∧ j ≤ np ∧ wr.ownsRow w3.heap.size u8T 1 v4 np (bv (List.replicate j 10) ++ List.replicate (np - j) (vb 0)) ∧ K0 w3 wr) np ⟨_, rfl, 0, rfl, rfl, Nat.zero_le _, by simp only [List.replicate_zero, bv, List.map_nil, List.nil_append, Nat.sub_zero]; exact how4, hk4⟩ ?_
      rintro z vals w5 ⟨j, rfl, rfl, hj, how5, hk5⟩
      dsimp only [List.zip, List.zipWith]
      have hs5 := Sl.of_own how5
      rcases Nat.lt_or_ge j np with hjl | hjg
      · repeat' (first | (refine CL.seq ?_) | (refine CL.region ?_) | (refine CL.skip ?_) | (refine CL.condP rfl (fun _ => ?_) (fun _ => ?_) <;> try (exfalso; omega)) | (refine CL.block ?_) | (refine Gt.nil ?_; refine RW.nilw [0, 1, 4, 5, 6, 7, 8, 9, 10, 11, 12, 14, 20, 36, 42, 51, 64, 81] ?_; dsimp only [H.keep, H.look, H.Fr.put, Nat.beq]) | (refine Gt.move ?_; refine RW.y (Y.move rfl) rfl ?_) | (refine Gt.lss ?_; refine RW.y (Y.lss rfl rfl) rfl ?_) | (refine Gt.len ?_; (refine RW.y (Y.lenx rfl (by assumption)) rfl ?_)))
        refine RW.setEl rfl rfl rfl how5 (by omega) (by omega) (fun _ => rfl) rfl (fun pp w6 how6 hk6 => ?_)
        repeat' (first | (refine CL.region ?_) | (refine CL.done ?_) | (refine Nm.block ?_) | (refine Nm.then ?_) | (refine Gt.nil ?_; refine RW.nilw [0, 1, 4, 5, 6, 7, 8, 9, 10, 11, 12, 14, 20, 36, 42, 51, 64, 81] ?_; dsimp only [H.keep, H.look, H.Fr.put, Nat.beq]) | (refine Gt.move ?_; refine RW.y (Y.move rfl) rfl ?_) | (refine Gt.assign ?_; refine RW.y (Y.assign rfl) rfl ?_) | (refine Gt.add ?_; (refine RW.y (Y.add64 rfl rfl (by omega) (by omega)) rfl ?_)))
        rw [Int.toNat_natCast] at how6
        rw [show (Value.int .u8 10 : Value) = vb 10 from rfl, tens_set np j hjl] at how6
        exact ⟨np - (j + 1), _, rfl, rfl, rfl, by omega, j + 1, rfl, rfl, by omega, how6, hk5.trans hk6 fun k c => .inr (how5.lt k c).1⟩
      · have hjn : j = np := by omega
        subst hjn
        rw [Nat.sub_self, List.replicate_zero, List.append_nil] at hs5
        have hpl := hpd j
        have hrl : (List.replicate j (10 : UInt8)).length = j := List.length_replicate
        obtain ⟨tens, htens⟩ : ∃ x : T, List.replicate j 10 = x := ⟨_, rfl⟩
        rw [htens] at hs5 hpl hrl
        repeat' (first | (refine CL.seq ?_) | (refine CL.region ?_) | (refine CL.condP rfl (fun _ => ?_) (fun _ => ?_) <;> try (exfalso; omega)) | (refine CL.exit ?_) | (refine Ex.then ?_) | (refine Ex.hit ?_) | (refine Gt.nil ?_; refine RW.nilw [0, 1, 4, 5, 6, 7, 8, 9, 10, 11, 12, 14, 20, 36, 42, 51, 64, 81] ?_; dsimp only [H.keep, H.look, H.Fr.put, Nat.beq]) | (refine Gt.move ?_; refine RW.y (Y.move rfl) rfl ?_) | (refine Gt.lss ?_; refine RW.y (Y.lss rfl rfl) rfl ?_) | (refine Gt.len ?_; (refine RW.y (Y.lenx rfl (by assumption)) rfl ?_)))
        refine RW.y (Y.strb (l := tens) rfl (by rw [hrl]; exact hs5)) rfl ?_
        repeat' ((refine Gt.add ?_; (refine RW.y (Y.cat rfl rfl (by omega)) rfl ?_)))
        have hK5 := hK3.trans0 hk5
        refine RW.fn rfl rfl ((parseM (manyT i ++ tens) (by rw [List.length_append]; omega) w5 (hM.keep0 hK5)).mono ?_)
        rintro e w6 ⟨hk6, V6, rfl, hV6⟩
        by_cases hb3 : b.toNat % 4 = 3
        · rw [if_neg (by omega)] at hpl
          rw [hpl]
          repeat' (first | (refine CL.seq ?_) | (refine CL.region ?_) | (refine CL.condP rfl (fun _ => ?_) (fun _ => ?_) <;> try (exfalso; omega)) | (refine CL.ret ?_) | (refine Gt.nil ?_; refine RW.nilw [0, 1, 4, 5, 6, 7, 8, 9, 10, 11, 12, 14, 20, 36, 42, 51, 64, 81] ?_; dsimp only [H.keep, H.look, H.Fr.put, Nat.beq]) | (refine Gt.move ?_; refine RW.y (Y.move rfl) rfl ?_) | (refine Gt.guard ?_; first | (refine RW.part rfl rfl rfl (fun _ => ?_) (fun _ => ?_) <;> try (exfalso; omega)) | (refine RW.on rfl rfl rfl ?_)) | (refine Gt.assign ?_; refine RW.y (Y.assign rfl) rfl ?_) | (refine Gt.extract ?_; refine RW.y (Y.extract rfl rfl) rfl ?_) | (refine Gt.rem ?_; (refine RW.y (Y.remP rfl rfl (by omega) (by omega)) rfl ?_)) | (refine Gt.pick ?_; (refine RW.y (Y.pickT rfl rfl) rfl ?_)) | (refine Gt.eql ?_; (refine RW.y (Y.eqi rfl rfl) rfl ?_)) | (refine Gt.gtr ?_; refine RW.y (Y.gtr rfl rfl) rfl ?_))
          exact FQ.one rfl rfl rfl ⟨rfl, hK5.trans0 hk6⟩
        · rw [if_pos (by omega)] at hpl
          rw [hpl]
          repeat' (first | (refine CL.seq ?_) | (refine CL.region ?_) | (refine CL.skip ?_) | (refine CL.condP rfl (fun _ => ?_) (fun _ => ?_) <;> try (exfalso; omega)) | (refine CL.ret ?_) | (refine Gt.nil ?_; refine RW.nilw [0, 1, 4, 5, 6, 7, 8, 9, 10, 11, 12, 14, 20, 36, 42, 51, 64, 81] ?_; dsimp only [H.keep, H.look, H.Fr.put, Nat.beq]) | (refine Gt.move ?_; refine RW.y (Y.move rfl) rfl ?_) | (refine Gt.assign ?_; refine RW.y (Y.assign rfl) rfl ?_) | (refine Gt.extract ?_; refine RW.y (Y.extract rfl rfl) rfl ?_) | (refine Gt.rem ?_; (refine RW.y (Y.remP rfl rfl (by omega) (by omega)) rfl ?_)) | (refine Gt.eql ?_; first | (refine RW.y (Y.eqi rfl rfl) rfl ?_) | (refine RW.y (Y.eqb rfl rfl) rfl ?_)) | (refine Gt.gtr ?_; refine RW.y (Y.gtr rfl rfl) rfl ?_) | (refine Gt.leq ?_; refine RW.y (Y.leq rfl rfl) rfl ?_))
          exact FQ.one rfl rfl rfl ⟨hfin, hK5.trans0 hk6⟩
end Go.Proofs.YtjlkmdmpejpmpaaGreatDoor.Ma

namespace Go.Proofs.YtjlkmdmpejpmpaaGreatDoor.Ma
open Go.RowKit H S Ve Sp Od
attribute [local irreducible] H.CL H.RW H.CW H.Yd H.thenK H.blockQ Go.Calls

def axT (i : Nat) : T := 97 :: List.replicate i 120
theorem axT_len (i : Nat) : (axT i).length = i + 1 := by simp [axT]
theorem axT_snoc (i : Nat) : axT i ++ [120] = axT (i + 1) := by simp [axT, List.replicate_succ']
theorem axT_name (i : Nat) : Lk.nameB (axT i) = decide (((axT i).length : Int) ≤ 32) := by
  have h1 : (axT i).all Lk.nameC = true := by
    rw [List.all_eq_true]
    intro x hx
    rcases List.mem_cons.1 hx with rfl | hx
    · decide
    · rw [List.eq_of_mem_replicate hx]; decide
  have h2 : Lk.smallB ((axT i).getD 0 0) = true := by show Lk.smallB 97 = true; decide
  rw [Bool.eq_iff_iff, Lk.name_iff, h1, h2, decide_eq_true_eq, axT_len]
  refine ⟨fun h => by omega, fun h => ⟨⟨by simp [axT], by omega, rfl⟩, rfl⟩⟩
theorem lawNames (s : T) (c : UInt8) (w : World) (hM : Ml w) (hT : Tb w) : Calls Tryz.prog 4 #[vs s, vb c] w fun e w' => e = .returned (.bool true) ∧ K0 w w' := by
  refine H.enter Tryz.func4 Tryz.ntmps4 rfl rfl ?_; dsimp only [H.args]
  repeat' (first | (refine CL.seq ?_) | (refine CL.region ?_) | (refine CL.skip ?_) | (refine CL.condP rfl (fun _ => ?_) (fun _ => ?_) <;> try (exfalso; omega)) | (refine CL.condT rfl ?_) | (refine CL.condF rfl ?_) | (refine CL.cond rfl (fun _ => ?_) (fun _ => ?_)) | (refine CL.block ?_) | (refine CL.exit ?_) | (refine Ex.then ?_) | (refine Ex.hit ?_) | (refine Ex.miss rfl ?_) | (refine CL.ret ?_) | (refine Rt.then ?_) | (refine Rt.block ?_) | (refine Pn.then ?_) | (refine Pn.block ?_) | (refine CL.done ?_) | (refine Nm.block ?_) | (refine Nm.then ?_) | (refine Gt.nil ?_; refine RW.nilw [0, 1, 4, 5, 6, 8, 11, 16] ?_; dsimp only [H.keep, H.look, H.Fr.put, Nat.beq]) | (refine Gt.move ?_; refine RW.y (Y.move rfl) rfl ?_) | (refine Gt.guard ?_; first | (refine RW.part rfl rfl rfl (fun _ => ?_) (fun _ => ?_) <;> try (exfalso; omega)) | (refine RW.on rfl rfl rfl ?_) | (refine RW.off1 rfl rfl rfl rfl rfl ?_) | (refine RW.off rfl rfl rfl rfl rfl ?_) | (refine RW.offu rfl rfl rfl rfl ?_) | (refine RW.partb rfl rfl rfl (fun _ => ?_) (fun _ => ?_))) | (refine Gt.assign ?_; refine RW.y (Y.assign rfl) rfl ?_) | (refine Gt.len ?_; refine RW.y (Y.lens rfl) rfl ?_) | (refine Gt.eql ?_; refine RW.y (Y.eqb rfl rfl) rfl ?_) | (refine Gt.not ?_; first | (refine RW.y (Y.not rfl) rfl ?_) | (refine RW.y (Y.notb rfl) rfl ?_)) | (refine Gt.gtr ?_; refine RW.y (Y.gtr rfl rfl) rfl ?_) | (refine Gt.rem ?_; first | (refine RW.y (Y.remP rfl rfl (by omega) (by omega)) rfl ?_) | (refine RW.y (Y.rem rfl rfl (by omega)) rfl ?_)) | (refine Gt.convert ?_; first | (refine RW.y (Y.convN rfl (by first | exact wrap64_id (by omega) (by omega) | exact wrapu64_id (by omega) (by omega) | exact wrapu8_id (by omega) (by omega) | exact wrapu16_id (by omega) (by omega) | exact wrapu32_id (by omega) (by omega))) rfl ?_) | (refine RW.y (Y.convW rfl) rfl ?_)) | (refine Gt.lss ?_; refine RW.y (Y.lss rfl rfl) rfl ?_) | (refine Gt.add ?_; first | (refine RW.y (Y.cat rfl rfl (by first | omega | (simp only [List.length_append, List.length_cons, List.length_nil]; omega))) rfl ?_) | (refine RW.y (Y.add64 rfl rfl (by omega) (by omega)) rfl ?_)) | (refine Gt.leq ?_; refine RW.y (Y.leq rfl rfl) rfl ?_) | (refine Gt.pick ?_; first | (refine RW.y (Y.pickT rfl rfl) rfl ?_) | (refine RW.y (Y.pickF rfl rfl) rfl ?_)))
  refine RW.fn rfl rfl ((known w hM hT).mono ?_)
  rintro e w1 ⟨hk1, rfl⟩
  by_cases h2 : s.length ≤ 200
  rotate_left
  · have hl9 : (s.length : Int) ≤ 9223372036854775807 ∨ 200 < (s.length : Int) := by omega
    repeat' (first | (refine CL.seq ?_) | (refine CL.region ?_) | (refine CL.skip ?_) | (refine CL.condP rfl (fun _ => ?_) (fun _ => ?_) <;> try (exfalso; omega)) | (refine CL.condT rfl ?_) | (refine CL.condF rfl ?_) | (refine CL.cond rfl (fun _ => ?_) (fun _ => ?_)) | (refine CL.block ?_) | (refine CL.exit ?_) | (refine Ex.then ?_) | (refine Ex.hit ?_) | (refine Ex.miss rfl ?_) | (refine CL.ret ?_) | (refine Rt.then ?_) | (refine Rt.block ?_) | (refine Pn.then ?_) | (refine Pn.block ?_) | (refine CL.done ?_) | (refine Nm.block ?_) | (refine Nm.then ?_) | (refine Gt.nil ?_; refine RW.nilw [0, 1, 4, 5, 6, 8, 11, 16] ?_; dsimp only [H.keep, H.look, H.Fr.put, Nat.beq]) | (refine Gt.move ?_; refine RW.y (Y.move rfl) rfl ?_) | (refine Gt.guard ?_; first | (refine RW.part rfl rfl rfl (fun _ => ?_) (fun _ => ?_) <;> try (exfalso; omega)) | (refine RW.on rfl rfl rfl ?_) | (refine RW.off1 rfl rfl rfl rfl rfl ?_) | (refine RW.off rfl rfl rfl rfl rfl ?_) | (refine RW.offu rfl rfl rfl rfl ?_) | (refine RW.partb rfl rfl rfl (fun _ => ?_) (fun _ => ?_))) | (refine Gt.assign ?_; refine RW.y (Y.assign rfl) rfl ?_) | (refine Gt.len ?_; refine RW.y (Y.lens rfl) rfl ?_) | (refine Gt.eql ?_; refine RW.y (Y.eqb rfl rfl) rfl ?_) | (refine Gt.not ?_; first | (refine RW.y (Y.not rfl) rfl ?_) | (refine RW.y (Y.notb rfl) rfl ?_)) | (refine Gt.gtr ?_; refine RW.y (Y.gtr rfl rfl) rfl ?_) | (refine Gt.rem ?_; first | (refine RW.y (Y.remP rfl rfl (by omega) (by omega)) rfl ?_) | (refine RW.y (Y.rem rfl rfl (by omega)) rfl ?_)) | (refine Gt.convert ?_; first | (refine RW.y (Y.convN rfl (by first | exact wrap64_id (by omega) (by omega) | exact wrapu64_id (by omega) (by omega) | exact wrapu8_id (by omega) (by omega) | exact wrapu16_id (by omega) (by omega) | exact wrapu32_id (by omega) (by omega))) rfl ?_) | (refine RW.y (Y.convW rfl) rfl ?_)) | (refine Gt.lss ?_; refine RW.y (Y.lss rfl rfl) rfl ?_) | (refine Gt.add ?_; first | (refine RW.y (Y.cat rfl rfl (by first | omega | (simp only [List.length_append, List.length_cons, List.length_nil]; omega))) rfl ?_) | (refine RW.y (Y.add64 rfl rfl (by omega) (by omega)) rfl ?_)) | (refine Gt.leq ?_; refine RW.y (Y.leq rfl rfl) rfl ?_) | (refine Gt.pick ?_; first | (refine RW.y (Y.pickT rfl rfl) rfl ?_) | (refine RW.y (Y.pickF rfl rfl) rfl ?_)))
    exact FQ.one rfl rfl rfl ⟨rfl, hk1⟩
  repeat' (first | (refine CL.seq ?_) | (refine CL.region ?_) | (refine CL.skip ?_) | (refine CL.condP rfl (fun _ => ?_) (fun _ => ?_) <;> try (exfalso; omega)) | (refine CL.condT rfl ?_) | (refine CL.condF rfl ?_) | (refine CL.cond rfl (fun _ => ?_) (fun _ => ?_)) | (refine CL.block ?_) | (refine CL.exit ?_) | (refine Ex.then ?_) | (refine Ex.hit ?_) | (refine Ex.miss rfl ?_) | (refine CL.ret ?_) | (refine Rt.then ?_) | (refine Rt.block ?_) | (refine Pn.then ?_) | (refine Pn.block ?_) | (refine CL.done ?_) | (refine Nm.block ?_) | (refine Nm.then ?_) | (refine Gt.nil ?_; refine RW.nilw [0, 1, 4, 5, 6, 8, 11, 16] ?_; dsimp only [H.keep, H.look, H.Fr.put, Nat.beq]) | (refine Gt.move ?_; refine RW.y (Y.move rfl) rfl ?_) | (refine Gt.guard ?_; first | (refine RW.part rfl rfl rfl (fun _ => ?_) (fun _ => ?_) <;> try (exfalso; omega)) | (refine RW.on rfl rfl rfl ?_) | (refine RW.off1 rfl rfl rfl rfl rfl ?_) | (refine RW.off rfl rfl rfl rfl rfl ?_) | (refine RW.offu rfl rfl rfl rfl ?_) | (refine RW.partb rfl rfl rfl (fun _ => ?_) (fun _ => ?_))) | (refine Gt.assign ?_; refine RW.y (Y.assign rfl) rfl ?_) | (refine Gt.len ?_; refine RW.y (Y.lens rfl) rfl ?_) | (refine Gt.eql ?_; refine RW.y (Y.eqb rfl rfl) rfl ?_) | (refine Gt.not ?_; first | (refine RW.y (Y.not rfl) rfl ?_) | (refine RW.y (Y.notb rfl) rfl ?_)) | (refine Gt.gtr ?_; refine RW.y (Y.gtr rfl rfl) rfl ?_) | (refine Gt.rem ?_; first | (refine RW.y (Y.remP rfl rfl (by omega) (by omega)) rfl ?_) | (refine RW.y (Y.rem rfl rfl (by omega)) rfl ?_)) | (refine Gt.convert ?_; first | (refine RW.y (Y.convN rfl (by first | exact wrap64_id (by omega) (by omega) | exact wrapu64_id (by omega) (by omega) | exact wrapu8_id (by omega) (by omega) | exact wrapu16_id (by omega) (by omega) | exact wrapu32_id (by omega) (by omega))) rfl ?_) | (refine RW.y (Y.convW rfl) rfl ?_)) | (refine Gt.lss ?_; refine RW.y (Y.lss rfl rfl) rfl ?_) | (refine Gt.add ?_; first | (refine RW.y (Y.cat rfl rfl (by first | omega | (simp only [List.length_append, List.length_cons, List.length_nil]; omega))) rfl ?_) | (refine RW.y (Y.add64 rfl rfl (by omega) (by omega)) rfl ?_)) | (refine Gt.leq ?_; refine RW.y (Y.leq rfl rfl) rfl ?_) | (refine Gt.pick ?_; first | (refine RW.y (Y.pickT rfl rfl) rfl ?_) | (refine RW.y (Y.pickF rfl rfl) rfl ?_)))
  have hc := UInt8.toNat_lt c
  refine CL.loopS [0, 1, 5, 6] (fun k vals wr => ∃ i : Nat, vals = [vs s, vb c, vs (axT i), .int .i64 (i : Int)] ∧ k = c.toNat % 40 - i ∧ i ≤ c.toNat % 40 ∧ wr = w1) (c.toNat % 40) ⟨_, rfl, 0, rfl, rfl, Nat.zero_le _, rfl⟩ ?_
  rintro k vals wr ⟨i, rfl, rfl, hi, rfl⟩
  dsimp only [List.zip, List.zipWith]
  have hxl := axT_len i
  have hxn := axT_name i
  have hsn := axT_snoc i
  generalize axT i = x at *
  rcases Nat.lt_or_ge i (c.toNat % 40) with hlt | hge
  · repeat' (first | (refine CL.seq ?_) | (refine CL.region ?_) | (refine CL.skip ?_) | (refine CL.condP rfl (fun _ => ?_) (fun _ => ?_) <;> try (exfalso; omega)) | (refine CL.condT rfl ?_) | (refine CL.condF rfl ?_) | (refine CL.cond rfl (fun _ => ?_) (fun _ => ?_)) | (refine CL.block ?_) | (refine CL.exit ?_) | (refine Ex.then ?_) | (refine Ex.hit ?_) | (refine Ex.miss rfl ?_) | (refine CL.ret ?_) | (refine Rt.then ?_) | (refine Rt.block ?_) | (refine Pn.then ?_) | (refine Pn.block ?_) | (refine CL.done ?_) | (refine Nm.block ?_) | (refine Nm.then ?_) | (refine Gt.nil ?_; refine RW.nilw [0, 1, 4, 5, 6, 8, 11, 16] ?_; dsimp only [H.keep, H.look, H.Fr.put, Nat.beq]) | (refine Gt.move ?_; refine RW.y (Y.move rfl) rfl ?_) | (refine Gt.guard ?_; first | (refine RW.part rfl rfl rfl (fun _ => ?_) (fun _ => ?_) <;> try (exfalso; omega)) | (refine RW.on rfl rfl rfl ?_) | (refine RW.off1 rfl rfl rfl rfl rfl ?_) | (refine RW.off rfl rfl rfl rfl rfl ?_) | (refine RW.offu rfl rfl rfl rfl ?_) | (refine RW.partb rfl rfl rfl (fun _ => ?_) (fun _ => ?_))) | (refine Gt.assign ?_; refine RW.y (Y.assign rfl) rfl ?_) | (refine Gt.len ?_; refine RW.y (Y.lens rfl) rfl ?_) | (refine Gt.eql ?_; refine RW.y (Y.eqb rfl rfl) rfl ?_) | (refine Gt.not ?_; first | (refine RW.y (Y.not rfl) rfl ?_) | (refine RW.y (Y.notb rfl) rfl ?_)) | (refine Gt.gtr ?_; refine RW.y (Y.gtr rfl rfl) rfl ?_) | (refine Gt.rem ?_; first | (refine RW.y (Y.remP rfl rfl (by omega) (by omega)) rfl ?_) | (refine RW.y (Y.rem rfl rfl (by omega)) rfl ?_)) | (refine Gt.convert ?_; first | (refine RW.y (Y.convN rfl (by first | exact wrap64_id (by omega) (by omega) | exact wrapu64_id (by omega) (by omega) | exact wrapu8_id (by omega) (by omega) | exact wrapu16_id (by omega) (by omega) | exact wrapu32_id (by omega) (by omega))) rfl ?_) | (refine RW.y (Y.convW rfl) rfl ?_)) | (refine Gt.lss ?_; refine RW.y (Y.lss rfl rfl) rfl ?_) | (refine Gt.add ?_; first | (refine RW.y (Y.cat rfl rfl (by first | omega | (simp only [List.length_append, List.length_cons, List.length_nil]; omega))) rfl ?_) | (refine RW.y (Y.add64 rfl rfl (by omega) (by omega)) rfl ?_)) | (refine Gt.leq ?_; refine RW.y (Y.leq rfl rfl) rfl ?_) | (refine Gt.pick ?_; first | (refine RW.y (Y.pickT rfl rfl) rfl ?_) | (refine RW.y (Y.pickF rfl rfl) rfl ?_)))
    exact ⟨c.toNat % 40 - (i + 1), _, rfl, rfl, rfl, by omega, i + 1, by rw [hsn]; rfl, rfl, by omega, rfl⟩
  · repeat' (first | (refine CL.seq ?_) | (refine CL.region ?_) | (refine CL.skip ?_) | (refine CL.condP rfl (fun _ => ?_) (fun _ => ?_) <;> try (exfalso; omega)) | (refine CL.condT rfl ?_) | (refine CL.condF rfl ?_) | (refine CL.cond rfl (fun _ => ?_) (fun _ => ?_)) | (refine CL.block ?_) | (refine CL.exit ?_) | (refine Ex.then ?_) | (refine Ex.hit ?_) | (refine Ex.miss rfl ?_) | (refine CL.ret ?_) | (refine Rt.then ?_) | (refine Rt.block ?_) | (refine Pn.then ?_) | (refine Pn.block ?_) | (refine CL.done ?_) | (refine Nm.block ?_) | (refine Nm.then ?_) | (refine Gt.nil ?_; refine RW.nilw [0, 1, 4, 5, 6, 8, 11, 16] ?_; dsimp only [H.keep, H.look, H.Fr.put, Nat.beq]) | (refine Gt.move ?_; refine RW.y (Y.move rfl) rfl ?_) | (refine Gt.guard ?_; first | (refine RW.part rfl rfl rfl (fun _ => ?_) (fun _ => ?_) <;> try (exfalso; omega)) | (refine RW.on rfl rfl rfl ?_) | (refine RW.off1 rfl rfl rfl rfl rfl ?_) | (refine RW.off rfl rfl rfl rfl rfl ?_) | (refine RW.offu rfl rfl rfl rfl ?_) | (refine RW.partb rfl rfl rfl (fun _ => ?_) (fun _ => ?_))) | (refine Gt.assign ?_; refine RW.y (Y.assign rfl) rfl ?_) | (refine Gt.len ?_; refine RW.y (Y.lens rfl) rfl ?_) | (refine Gt.eql ?_; refine RW.y (Y.eqb rfl rfl) rfl ?_) | (refine Gt.not ?_; first | (refine RW.y (Y.not rfl) rfl ?_) | (refine RW.y (Y.notb rfl) rfl ?_)) | (refine Gt.gtr ?_; refine RW.y (Y.gtr rfl rfl) rfl ?_) | (refine Gt.rem ?_; first | (refine RW.y (Y.remP rfl rfl (by omega) (by omega)) rfl ?_) | (refine RW.y (Y.rem rfl rfl (by omega)) rfl ?_)) | (refine Gt.convert ?_; first | (refine RW.y (Y.convN rfl (by first | exact wrap64_id (by omega) (by omega) | exact wrapu64_id (by omega) (by omega) | exact wrapu8_id (by omega) (by omega) | exact wrapu16_id (by omega) (by omega) | exact wrapu32_id (by omega) (by omega))) rfl ?_) | (refine RW.y (Y.convW rfl) rfl ?_)) | (refine Gt.lss ?_; refine RW.y (Y.lss rfl rfl) rfl ?_) | (refine Gt.add ?_; first | (refine RW.y (Y.cat rfl rfl (by first | omega | (simp only [List.length_append, List.length_cons, List.length_nil]; omega))) rfl ?_) | (refine RW.y (Y.add64 rfl rfl (by omega) (by omega)) rfl ?_)) | (refine Gt.leq ?_; refine RW.y (Y.leq rfl rfl) rfl ?_) | (refine Gt.pick ?_; first | (refine RW.y (Y.pickT rfl rfl) rfl ?_) | (refine RW.y (Y.pickF rfl rfl) rfl ?_)))
    refine RW.fn rfl rfl ((Lk.name s (by omega) wr).mono ?_)
    rintro e w' ⟨rfl, rfl⟩
    repeat' (first | (refine CL.seq ?_) | (refine CL.region ?_) | (refine CL.skip ?_) | (refine CL.condP rfl (fun _ => ?_) (fun _ => ?_) <;> try (exfalso; omega)) | (refine CL.condT rfl ?_) | (refine CL.condF rfl ?_) | (refine CL.cond rfl (fun _ => ?_) (fun _ => ?_)) | (refine CL.block ?_) | (refine CL.exit ?_) | (refine Ex.then ?_) | (refine Ex.hit ?_) | (refine Ex.miss rfl ?_) | (refine CL.ret ?_) | (refine Rt.then ?_) | (refine Rt.block ?_) | (refine Pn.then ?_) | (refine Pn.block ?_) | (refine CL.done ?_) | (refine Nm.block ?_) | (refine Nm.then ?_) | (refine Gt.nil ?_; refine RW.nilw [0, 1, 4, 5, 6, 8, 11, 16] ?_; dsimp only [H.keep, H.look, H.Fr.put, Nat.beq]) | (refine Gt.move ?_; refine RW.y (Y.move rfl) rfl ?_) | (refine Gt.guard ?_; first | (refine RW.part rfl rfl rfl (fun _ => ?_) (fun _ => ?_) <;> try (exfalso; omega)) | (refine RW.on rfl rfl rfl ?_) | (refine RW.off1 rfl rfl rfl rfl rfl ?_) | (refine RW.off rfl rfl rfl rfl rfl ?_) | (refine RW.offu rfl rfl rfl rfl ?_) | (refine RW.partb rfl rfl rfl (fun _ => ?_) (fun _ => ?_))) | (refine Gt.assign ?_; refine RW.y (Y.assign rfl) rfl ?_) | (refine Gt.len ?_; refine RW.y (Y.lens rfl) rfl ?_) | (refine Gt.eql ?_; refine RW.y (Y.eqb rfl rfl) rfl ?_) | (refine Gt.not ?_; first | (refine RW.y (Y.not rfl) rfl ?_) | (refine RW.y (Y.notb rfl) rfl ?_)) | (refine Gt.gtr ?_; refine RW.y (Y.gtr rfl rfl) rfl ?_) | (refine Gt.rem ?_; first | (refine RW.y (Y.remP rfl rfl (by omega) (by omega)) rfl ?_) | (refine RW.y (Y.rem rfl rfl (by omega)) rfl ?_)) | (refine Gt.convert ?_; first | (refine RW.y (Y.convN rfl (by first | exact wrap64_id (by omega) (by omega) | exact wrapu64_id (by omega) (by omega) | exact wrapu8_id (by omega) (by omega) | exact wrapu16_id (by omega) (by omega) | exact wrapu32_id (by omega) (by omega))) rfl ?_) | (refine RW.y (Y.convW rfl) rfl ?_)) | (refine Gt.lss ?_; refine RW.y (Y.lss rfl rfl) rfl ?_) | (refine Gt.add ?_; first | (refine RW.y (Y.cat rfl rfl (by first | omega | (simp only [List.length_append, List.length_cons, List.length_nil]; omega))) rfl ?_) | (refine RW.y (Y.add64 rfl rfl (by omega) (by omega)) rfl ?_)) | (refine Gt.leq ?_; refine RW.y (Y.leq rfl rfl) rfl ?_) | (refine Gt.pick ?_; first | (refine RW.y (Y.pickT rfl rfl) rfl ?_) | (refine RW.y (Y.pickF rfl rfl) rfl ?_)))
    refine RW.fn rfl rfl ((Lk.refName s (by omega) wr).mono ?_)
    rintro e w' ⟨rfl, rfl⟩
    repeat' (first | (refine CL.seq ?_) | (refine CL.region ?_) | (refine CL.skip ?_) | (refine CL.condP rfl (fun _ => ?_) (fun _ => ?_) <;> try (exfalso; omega)) | (refine CL.condT rfl ?_) | (refine CL.condF rfl ?_) | (refine CL.cond rfl (fun _ => ?_) (fun _ => ?_)) | (refine CL.block ?_) | (refine CL.exit ?_) | (refine Ex.then ?_) | (refine Ex.hit ?_) | (refine Ex.miss rfl ?_) | (refine CL.ret ?_) | (refine Rt.then ?_) | (refine Rt.block ?_) | (refine Pn.then ?_) | (refine Pn.block ?_) | (refine CL.done ?_) | (refine Nm.block ?_) | (refine Nm.then ?_) | (refine Gt.nil ?_; refine RW.nilw [0, 1, 4, 5, 6, 8, 11, 16] ?_; dsimp only [H.keep, H.look, H.Fr.put, Nat.beq]) | (refine RW.y (Y.eqbE rfl rfl rfl) rfl ?_) | (refine Gt.move ?_; refine RW.y (Y.move rfl) rfl ?_) | (refine Gt.guard ?_; first | (refine RW.part rfl rfl rfl (fun _ => ?_) (fun _ => ?_) <;> try (exfalso; omega)) | (refine RW.on rfl rfl rfl ?_) | (refine RW.off1 rfl rfl rfl rfl rfl ?_) | (refine RW.off rfl rfl rfl rfl rfl ?_) | (refine RW.offu rfl rfl rfl rfl ?_) | (refine RW.partb rfl rfl rfl (fun _ => ?_) (fun _ => ?_))) | (refine Gt.assign ?_; refine RW.y (Y.assign rfl) rfl ?_) | (refine Gt.len ?_; refine RW.y (Y.lens rfl) rfl ?_) | (refine Gt.eql ?_; refine RW.y (Y.eqb rfl rfl) rfl ?_) | (refine Gt.not ?_; first | (refine RW.y (Y.not rfl) rfl ?_) | (refine RW.y (Y.notb rfl) rfl ?_)) | (refine Gt.gtr ?_; refine RW.y (Y.gtr rfl rfl) rfl ?_) | (refine Gt.rem ?_; first | (refine RW.y (Y.remP rfl rfl (by omega) (by omega)) rfl ?_) | (refine RW.y (Y.rem rfl rfl (by omega)) rfl ?_)) | (refine Gt.convert ?_; first | (refine RW.y (Y.convN rfl (by first | exact wrap64_id (by omega) (by omega) | exact wrapu64_id (by omega) (by omega) | exact wrapu8_id (by omega) (by omega) | exact wrapu16_id (by omega) (by omega) | exact wrapu32_id (by omega) (by omega))) rfl ?_) | (refine RW.y (Y.convW rfl) rfl ?_)) | (refine Gt.lss ?_; refine RW.y (Y.lss rfl rfl) rfl ?_) | (refine Gt.add ?_; first | (refine RW.y (Y.cat rfl rfl (by first | omega | (simp only [List.length_append, List.length_cons, List.length_nil]; omega))) rfl ?_) | (refine RW.y (Y.add64 rfl rfl (by omega) (by omega)) rfl ?_)) | (refine Gt.leq ?_; refine RW.y (Y.leq rfl rfl) rfl ?_) | (refine Gt.pick ?_; first | (refine RW.y (Y.pickT rfl rfl) rfl ?_) | (refine RW.y (Y.pickF rfl rfl) rfl ?_)))
    refine RW.fn rfl rfl ((Lk.name x (by omega) wr).mono ?_)
    rintro e w' ⟨rfl, rfl⟩
    rw [hxn]
    repeat' (first | (refine CL.seq ?_) | (refine CL.region ?_) | (refine CL.skip ?_) | (refine CL.condP rfl (fun _ => ?_) (fun _ => ?_) <;> try (exfalso; omega)) | (refine CL.condT rfl ?_) | (refine CL.condF rfl ?_) | (refine CL.cond rfl (fun _ => ?_) (fun _ => ?_)) | (refine CL.block ?_) | (refine CL.exit ?_) | (refine Ex.then ?_) | (refine Ex.hit ?_) | (refine Ex.miss rfl ?_) | (refine CL.ret ?_) | (refine Rt.then ?_) | (refine Rt.block ?_) | (refine Pn.then ?_) | (refine Pn.block ?_) | (refine CL.done ?_) | (refine Nm.block ?_) | (refine Nm.then ?_) | (refine Gt.nil ?_; refine RW.nilw [0, 1, 4, 5, 6, 8, 11, 16] ?_; dsimp only [H.keep, H.look, H.Fr.put, Nat.beq]) | (refine RW.y (Y.eqbE rfl rfl rfl) rfl ?_) | (refine Gt.move ?_; refine RW.y (Y.move rfl) rfl ?_) | (refine Gt.guard ?_; first | (refine RW.part rfl rfl rfl (fun _ => ?_) (fun _ => ?_) <;> try (exfalso; omega)) | (refine RW.on rfl rfl rfl ?_) | (refine RW.off1 rfl rfl rfl rfl rfl ?_) | (refine RW.off rfl rfl rfl rfl rfl ?_) | (refine RW.offu rfl rfl rfl rfl ?_) | (refine RW.partb rfl rfl rfl (fun _ => ?_) (fun _ => ?_))) | (refine Gt.assign ?_; refine RW.y (Y.assign rfl) rfl ?_) | (refine Gt.len ?_; refine RW.y (Y.lens rfl) rfl ?_) | (refine Gt.eql ?_; refine RW.y (Y.eqb rfl rfl) rfl ?_) | (refine Gt.not ?_; first | (refine RW.y (Y.not rfl) rfl ?_) | (refine RW.y (Y.notb rfl) rfl ?_)) | (refine Gt.gtr ?_; refine RW.y (Y.gtr rfl rfl) rfl ?_) | (refine Gt.rem ?_; first | (refine RW.y (Y.remP rfl rfl (by omega) (by omega)) rfl ?_) | (refine RW.y (Y.rem rfl rfl (by omega)) rfl ?_)) | (refine Gt.convert ?_; first | (refine RW.y (Y.convN rfl (by first | exact wrap64_id (by omega) (by omega) | exact wrapu64_id (by omega) (by omega) | exact wrapu8_id (by omega) (by omega) | exact wrapu16_id (by omega) (by omega) | exact wrapu32_id (by omega) (by omega))) rfl ?_) | (refine RW.y (Y.convW rfl) rfl ?_)) | (refine Gt.lss ?_; refine RW.y (Y.lss rfl rfl) rfl ?_) | (refine Gt.add ?_; first | (refine RW.y (Y.cat rfl rfl (by first | omega | (simp only [List.length_append, List.length_cons, List.length_nil]; omega))) rfl ?_) | (refine RW.y (Y.add64 rfl rfl (by omega) (by omega)) rfl ?_)) | (refine Gt.leq ?_; refine RW.y (Y.leq rfl rfl) rfl ?_) | (refine Gt.pick ?_; first | (refine RW.y (Y.pickT rfl rfl) rfl ?_) | (refine RW.y (Y.pickF rfl rfl) rfl ?_)))
    exact FQ.one rfl rfl rfl ⟨rfl, hk1⟩
end Go.Proofs.YtjlkmdmpejpmpaaGreatDoor.Ma

