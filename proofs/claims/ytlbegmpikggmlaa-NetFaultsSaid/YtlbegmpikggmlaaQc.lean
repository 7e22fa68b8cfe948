/-
  Versions, plain: three numbers told and read. Registries of few numbers: names, versions, spans, the files of an archive. Rows cut in two, and joined anew. Rows of bytes held against themselves. Spans: plain. Versions, walked: the next one; versions held against one another; small functions of the laws. Spans, walked: a word's sign, its bounds; the program's. Spans, walked: the reference's words, a word's bounds. Spans: rows of bounds, of lists of bounds, that grow; what they keep apart. Spans, walked: the reference's SpanOf. Needs, rows of an index: in memory, and where their parts lie. Needs sorted; sums told; an index told. Sums told; an index told. An index told. Comparisons whose answer is known by a name; a block written in part. Is a row there? Regions that draw their order: one of several may come next. A registry of few numbers, made: rows and archives. Regions that draw their order and end in writes: what is read before the writes yields what it yields in every world before them.
-/
import Derived.Test.YtlbegmpikggmlaaQb
import Derived.ChangeKeysEq
import Derived.Laws.StructEq
import Derived.Lib.Index
import Derived.Lib.IndexMore
import Derived.Test.YtlbegmpikggmlaaQa
set_option linter.unusedVariables false
namespace Go.Proofs.Ytlbegmpikggmlaa.Ve
open Go.RowKit H S

theorem splitC_app (c : UInt8) (y : T) : ∀ (x : T), splitB c (x ++ c :: y) = splitB c x ++ splitB c y
  | [] => by simp [splitB]
  | a :: r => by
    have ih := splitC_app c y r
    have hne := splitB_ne c r
    by_cases h : a = c
    · simp [splitB, h, ih]
    · simp only [List.cons_append, splitB, if_neg h, ih]
      cases hr : splitB c r with
      | nil => exact absurd hr hne
      | cons a b => simp
theorem splitC_none (c : UInt8) : ∀ (y : T), c ∉ y → splitB c y = [y]
  | [], _ => rfl
  | a :: r, h => by
    have ha : ¬ a = c := fun q => h (by simp [q])
    rw [splitB, if_neg ha, splitC_none c r (fun q => h (by simp [q]))]; rfl
theorem ofNat_toNat {k : Nat} (h : k < 10) : (UInt8.ofNat (48 + k)).toNat = 48 + k := by
  simp; omega
theorem dec_spec : ∀ (m u : Nat), u ≤ m → (Go.Lib.decDigits u).all isDig = true ∧ Go.Lib.decDigits u ≠ [] ∧ val (Go.Lib.decDigits u) = u ∧ (u ≠ 0 → (Go.Lib.decDigits u).getD 0 0 ≠ 48) := by
  have one : ∀ u, u < 10 → ([UInt8.ofNat (48 + u)] : T).all isDig = true ∧ ([UInt8.ofNat (48 + u)] : T) ≠ [] ∧ val [UInt8.ofNat (48 + u)] = u ∧ (u ≠ 0 → ([UInt8.ofNat (48 + u)] : T).getD 0 0 ≠ 48) := by
    intro u h
    have e := ofNat_toNat h
    refine ⟨?_, by simp, by simp only [val, List.foldl_cons, List.foldl_nil]; omega, fun h0 c => ?_⟩
    · simp only [List.all_cons, List.all_nil, Bool.and_true, isDig, Bool.and_eq_true, decide_eq_true_eq]; omega
    · have c' : UInt8.ofNat (48 + u) = 48 := c
      rw [c'] at e
      have : (48 : UInt8).toNat = 48 := rfl
      omega
  intro m
  induction m with
  | zero => intro u h; rw [Go.Lib.decDigits, dif_pos (by omega)]; exact one u (by omega)
  | succ m ih =>
    intro u h
    rw [Go.Lib.decDigits]
    by_cases h10 : u < 10
    · rw [dif_pos h10]; exact one u h10
    · rw [dif_neg h10]
      obtain ⟨i1, i2, i3, i4⟩ := ih (u / 10) (by omega)
      obtain ⟨o1, o2, o3, _⟩ := one (u % 10) (by omega)
      have e := ofNat_toNat (show u % 10 < 10 by omega)
      refine ⟨by rw [List.all_append, i1, o1]; rfl, by simp, by rw [val_snoc, i3]; omega, fun _ => ?_⟩
      have := i4 (by omega)
      cases hd : Go.Lib.decDigits (u / 10) with
      | nil => exact absurd hd i2
      | cons c r => rw [hd] at this; exact this
theorem decI_num (x : Int) (h0 : 0 ≤ x) (h1 : x ≤ 999999999) : numB (decI x) = true ∧ (val (decI x) : Int) = x := by
  have hs : (decI x).all isDig = true ∧ decI x ≠ [] ∧ val (decI x) = x.toNat ∧ (x.toNat ≠ 0 → (decI x).getD 0 0 ≠ 48) := dec_spec x.toNat x.toNat (Nat.le_refl _)
  obtain ⟨s1, s2, s3, s4⟩ := hs
  have e9 : (10 : Nat) ^ 9 = 1000000000 := by decide
  have hl : (decI x).length ≤ 9 := dec_len 8 x.toNat (by omega)
  have hz : x.toNat = 0 → (decI x).length = 1 := fun h => by rw [decI, h, Go.Lib.decDigits, dif_pos (by decide)]; rfl
  refine ⟨?_, by rw [s3]; omega⟩
  simp only [numB, digB, plainB, Bool.and_eq_true, Bool.or_eq_true, decide_eq_true_eq]
  refine ⟨⟨⟨s2, s1⟩, hl⟩, ?_⟩
  by_cases hz0 : x.toNat = 0
  · exact .inl (hz hz0)
  · exact .inr (s4 hz0)
theorem decI_no (x : Int) (c : UInt8) (hc : isDig c = false) : c ∉ decI x := by
  intro h
  have := List.all_eq_true.1 (dec_spec x.toNat x.toNat (Nat.le_refl _)).1 c h
  rw [hc] at this; cases this

def numT (x y z : Int) : T := decI x ++ [46] ++ decI y ++ [46] ++ decI z
theorem numT_split (p : T) (x y z : Int) (hp : (46 : UInt8) ∉ p) : splitB 46 (p ++ numT x y z) = [p ++ decI x, decI y, decI z] := by
  have n1 := decI_no x 46 (by decide)
  have n2 := decI_no y 46 (by decide)
  have n3 := decI_no z 46 (by decide)
  have e : p ++ numT x y z = (p ++ decI x) ++ 46 :: (decI y ++ 46 :: decI z) := by simp [numT]
  rw [e, splitC_app, splitC_app, splitC_none 46 _ n2, splitC_none 46 _ n3, splitC_none 46 (p ++ decI x) (by simp [hp, n1])]
  rfl
theorem numT_cut (p : T) (x y z : Int) (hp : (45 : UInt8) ∉ p) : cutB 45 (p ++ numT x y z) = (p ++ numT x y z, [], false) := by
  have n1 := decI_no x 45 (by decide)
  have n2 := decI_no y 45 (by decide)
  have n3 := decI_no z 45 (by decide)
  exact cut_none 45 _ (by simp [numT, hp, n1, n2, n3])
theorem numT_parse (x y z : Int) (hx : 0 ≤ x ∧ x ≤ 999999999) (hy : 0 ≤ y ∧ y ≤ 999999999) (hz : 0 ≤ z ∧ z ≤ 999999999) : parseV (cutB 45 (numT x y z)) = some ⟨x, y, z, []⟩ := by
  have hc := numT_cut [] x y z (by simp)
  have hs := numT_split [] x y z (by simp)
  rw [List.nil_append] at hc hs
  obtain ⟨a1, a2⟩ := decI_num x hx.1 hx.2
  obtain ⟨b1, b2⟩ := decI_num y hy.1 hy.2
  obtain ⟨c1, c2⟩ := decI_num z hz.1 hz.2
  rw [hc, parseV]
  simp only [hs, List.nil_append, parseL]
  rw [if_pos (by rw [a1, b1, c1]; rfl), if_neg (by decide), a2, b2, c2]
theorem numT_text (x y z : Int) : textV ⟨x, y, z, []⟩ = numT x y z := by simp [textV, numT]
end Go.Proofs.Ytlbegmpikggmlaa.Ve

namespace Go.Proofs.Ytlbegmpikggmlaa.Ne
open Go.RowKit H S Ve
attribute [local irreducible] H.CL H.RW H.CW H.Yd H.thenK H.blockQ Go.Calls

theorem text_cells {l : List T} : ∀ v ∈ sv l, v.cells.size = 1 := by
  intro v hv
  obtain ⟨x, _, rfl⟩ := List.mem_map.1 hv
  rfl
def nameK (k : UInt8) : T := [UInt8.ofNat (97 + k.toNat % 6)]
def verL : List T := [[49, 46, 48, 46, 48], [49, 46, 49, 46, 48], [50, 46, 48, 46, 48], [48, 46, 51, 46, 48], [49, 46, 48, 46, 48, 45, 120, 46, 49], [49, 46, 50, 46, 51]]
def verK (k : UInt8) : T := verL.getD (k.toNat % 6) []
def spanL : List T := [[42], [94, 49, 46, 48, 46, 48], [126, 49, 46, 48, 46, 48], [62, 61, 49, 46, 49, 46, 48], [50, 46, 48, 46, 48], [60, 50, 46, 48, 46, 48], [94, 48, 46, 51, 46, 48], [62, 61, 49, 46, 48, 46, 48, 45, 97, 32, 60, 49, 46, 48, 46, 48, 32, 124, 124, 32, 50, 46, 48, 46, 48], [49, 46, 48, 46, 48, 45, 120, 46, 49], [42]]
def spanK (k : UInt8) : T := spanL.getD (k.toNat % 10) []
theorem name_cut (n : Nat) (h : n < 6) : (([97, 98, 99, 100, 101, 102] : T).take (n + 1)).drop n = [UInt8.ofNat (97 + n)] := by
  have : n = 0 ∨ n = 1 ∨ n = 2 ∨ n = 3 ∨ n = 4 ∨ n = 5 := by omega
  rcases this with rfl | rfl | rfl | rfl | rfl | rfl <;> rfl
theorem seatName (k : UInt8) (w : World) : Calls Try.prog 14 #[vb k] w fun e w' => w = w' ∧ e = .returned (vs (nameK k)) := by
  have hk := k.toNat_lt
  have hl : ([97, 98, 99, 100, 101, 102] : T).length = 6 := rfl
  obtain ⟨n, hn⟩ : ∃ n : Nat, k.toNat % 6 = n := ⟨_, rfl⟩
  have en : (k.toNat : Int) % 6 = (n : Int) := by omega
  refine H.enter Try.func14 Try.ntmps14 rfl rfl ?_; dsimp only [H.args]
  repeat' (first | (refine CL.seq ?_) | (refine CL.region ?_) | (refine CL.ret ?_) | (refine Gt.nil ?_; refine RW.nilw [0, 2] ?_; dsimp only [H.keep, H.look, H.Fr.put, Nat.beq]) | (refine Gt.assign ?_; refine RW.y (Y.assign rfl) rfl ?_) | (refine Gt.move ?_; refine RW.y (Y.move rfl) rfl ?_) | (refine Gt.rem ?_; (refine RW.y (Y.remP rfl rfl (by omega) (by omega)) rfl ?_)) | (refine Gt.add ?_; refine RW.y (Y.addN rfl rfl (by exact wrapu8_id (by omega) (by omega))) rfl ?_) | (refine Gt.slice ?_; refine RW.y (Y.cutlh rfl rfl rfl (by omega) (by omega) (by omega)) rfl ?_))
  refine FQ.one rfl rfl rfl ⟨rfl, ?_⟩
  rw [en, show ((n : Int) + 1).toNat = n + 1 from by omega, Int.toNat_natCast, name_cut n (by omega), nameK, hn]
theorem seatVersion (k : UInt8) (w : World) : Calls Try.prog 18 #[vb k] w fun e w' => K0 w w' ∧ e = .returned (vs (verK k)) := by
  have hk := k.toNat_lt
  have hl : verL.length = 6 := rfl
  have en : ((k.toNat : Int) % 6).toNat = k.toNat % 6 := by omega
  refine H.enter Try.func18 Try.ntmps18 rfl rfl ?_; dsimp only [H.args]
  repeat' (first | (refine CL.seq ?_) | (refine CL.region ?_) | (refine Gt.nil ?_; refine RW.nilw [0, 2] ?_; dsimp only [H.keep, H.look, H.Fr.put, Nat.beq]) | (refine Gt.assign ?_; refine RW.y (Y.assign rfl) rfl ?_))
  refine RW.buildL (ps := [(0, _), (1, _), (2, _), (3, _), (4, _), (5, _)]) (l := sv verL) rfl rfl rfl text_cells rfl rfl (fun w1 hb1 hk1 hlt1 => ?_)
  have hs1 : Sl w1 1 (.slice (some ⟨w.heap.size, 0, none⟩) 6 6) verL.length (sv verL) := sl_new hb1 rfl (by decide)
  repeat' (first | (refine CL.ret ?_) | (refine Gt.nil ?_; refine RW.nilw [0, 2] ?_; dsimp only [H.keep, H.look, H.Fr.put, Nat.beq]) | (refine Gt.assign ?_; refine RW.y (Y.assign rfl) rfl ?_) | (refine Gt.move ?_; refine RW.y (Y.move rfl) rfl ?_) | (refine Gt.rem ?_; (refine RW.y (Y.remP rfl rfl (by omega) (by omega)) rfl ?_)) | (refine Gt.idx ?_; refine RW.elemS rfl rfl rfl rfl (by assumption) (by omega) (by omega) ?_))
  rw [en]
  exact FQ.one rfl rfl rfl ⟨hk1, rfl⟩
theorem seatSpan (k : UInt8) (w : World) : Calls Try.prog 25 #[vb k] w fun e w' => K0 w w' ∧ e = .returned (vs (spanK k)) := by
  have hk := k.toNat_lt
  have hl : spanL.length = 10 := rfl
  have en : ((k.toNat : Int) % 10).toNat = k.toNat % 10 := by omega
  refine H.enter Try.func25 Try.ntmps25 rfl rfl ?_; dsimp only [H.args]
  repeat' (first | (refine CL.seq ?_) | (refine CL.region ?_) | (refine Gt.nil ?_; refine RW.nilw [0, 2] ?_; dsimp only [H.keep, H.look, H.Fr.put, Nat.beq]) | (refine Gt.assign ?_; refine RW.y (Y.assign rfl) rfl ?_))
  refine RW.buildL (ps := [(0, _), (1, _), (2, _), (3, _), (4, _), (5, _), (6, _), (7, _), (8, _), (9, _)]) (l := sv spanL) rfl rfl rfl text_cells rfl rfl (fun w1 hb1 hk1 hlt1 => ?_)
  have hs1 : Sl w1 1 (.slice (some ⟨w.heap.size, 0, none⟩) 10 10) spanL.length (sv spanL) := sl_new hb1 rfl (by decide)
  repeat' (first | (refine CL.ret ?_) | (refine Gt.nil ?_; refine RW.nilw [0, 2] ?_; dsimp only [H.keep, H.look, H.Fr.put, Nat.beq]) | (refine Gt.assign ?_; refine RW.y (Y.assign rfl) rfl ?_) | (refine Gt.move ?_; refine RW.y (Y.move rfl) rfl ?_) | (refine Gt.rem ?_; (refine RW.y (Y.remP rfl rfl (by omega) (by omega)) rfl ?_)) | (refine Gt.idx ?_; refine RW.elemS rfl rfl rfl rfl (by assumption) (by omega) (by omega) ?_))
  rw [en]
  exact FQ.one rfl rfl rfl ⟨hk1, rfl⟩

def flK : Dp (Fl × Value) where
  sz := 3
  enc := flC
  D := fun w x => Sl w 1 x.2 x.1.b.length (bv x.1.b)
  R := fun x g => live x.2 = some g
  len := flC_len
  ones := fun w x h z hz => by
    simp [flC] at hz
    rcases hz with rfl | rfl | rfl <;> first | rfl | exact h.one
  keep := fun S w w' x h k hS => h.keep k fun g hg => hS g (h.lt hg) hg
  lt := fun w x g h hg => h.lt hg
/-- A row as a registry of few numbers. -/
structure Rw where
  n : UInt8
  v : UInt8
  needs : List Nat
  kind : UInt8
  lie : UInt8
instance : Inhabited Rw := ⟨⟨0, 0, [], 0, 0⟩⟩
def rwC (x : Rw × Value) : List Value := [vb x.1.n, vb x.1.v, x.2, vb x.1.kind, vb x.1.lie]
abbrev rowT : TypeId := 24
abbrev fileT : TypeId := 101
theorem nameK_len (k : UInt8) : (nameK k).length = 1 := rfl
theorem verK_len (k : UInt8) : (verK k).length ≤ 9 := by
  have : k.toNat % 6 < 6 := Nat.mod_lt _ (by decide)
  have h6 : k.toNat % 6 = 0 ∨ k.toNat % 6 = 1 ∨ k.toNat % 6 = 2 ∨ k.toNat % 6 = 3 ∨ k.toNat % 6 = 4 ∨ k.toNat % 6 = 5 := by omega
  rw [verK]
  rcases h6 with h | h | h | h | h | h <;> rw [h] <;> decide

def libF : Fl := ⟨[108, 105, 98], true, []⟩
def nmF (x : Rw) : Fl := ⟨[108, 105, 98, 47] ++ nameK x.n, false, nameK x.n ++ [32] ++ verK x.v⟩
set_option maxHeartbeats 4000000 in
theorem files (x : Rw) (q : Value) (hq : q.oneCell' = true) (w : World) : Calls Try.prog 23 #[.agg (rwC (x, q)).toArray] w fun e w' => K0 w w' ∧ ∃ u F, e = .returned u ∧ FilesAt w' u F ∧ FitF F := by
  have hkd := x.kind.toNat_lt
  have hnl := nameK_len x.n
  have hvl := verK_len x.v
  refine H.enter Try.func23 Try.ntmps23 rfl rfl ?_; dsimp only [H.args]
  repeat' (first | (refine CL.seq ?_) | (refine CL.region ?_))
  refine RW.box rfl rfl (fun w1 hb1 hk1 hlt1 => ?_)
  have hb1' : w1.heap[w.heap.size]? = some (.cells #[vb x.n, vb x.v, q, vb x.kind, vb x.lie] rowT (0, 0)) := hb1
  repeat' (first | (refine CL.seq ?_) | (refine Gt.nil ?_; refine RW.nilw [0, 1, 2, 3, 4, 5, 6, 7, 8, 27, 28, 30, 32, 34, 36, 38, 40, 42, 45, 59] ?_; dsimp only [H.keep, H.look, H.Fr.put, Nat.beq]) | (refine Gt.assign ?_; refine RW.y (Y.assign rfl) rfl ?_))
  refine CL.draw (fun w' => K0 w1 w') (by kernel_rfl) (fun w2 hheap hk2 => ?_)
  have hS : K0 w1 w2 := hk2
  skip
  refine AW.take 0 rfl (by kernel_rfl) (by kernel_rfl) (by kernel_rfl) rfl (by assumption) (fun w hS => Y.fieldAddr rfl (by rfl)) ?_
  refine AW.take 1 rfl (by kernel_rfl) (by kernel_rfl) (by kernel_rfl) rfl (by assumption) (fun w hS => Y.loadB rfl (hS.at0 hb1') rfl) ?_
  refine AW.take 3 rfl (by kernel_rfl) (by kernel_rfl) (by kernel_rfl) rfl (by assumption) (fun w hS => Y.fieldAddr rfl (by rfl)) ?_
  refine AW.take 4 rfl (by kernel_rfl) (by kernel_rfl) (by kernel_rfl) rfl (by assumption) (fun w hS => Y.loadB rfl (hS.at0 hb1') rfl) ?_
  refine AW.next 2 rfl (by kernel_rfl) ?_
  refine RW.fn rfl rfl ((seatName x.n w2).mono ?_)
  rintro e w3 ⟨rfl, rfl⟩
  refine RW.nil (Nm.then (rebase0 hS (Kept.refl _ _) fun hS => ?_))
  skip
  refine AW.next 5 rfl (by kernel_rfl) ?_
  refine RW.fn rfl rfl ((seatVersion x.v w2).mono ?_)
  rintro e w3 ⟨hk3, rfl⟩
  refine RW.nil (Nm.then (rebase0 hS hk3 fun hS => ?_))
  refine AW.take 6 rfl (by kernel_rfl) (by kernel_rfl) (by kernel_rfl) rfl (by assumption) (fun w hS => Y.assign rfl) ?_
  refine AW.take 7 rfl (by kernel_rfl) (by kernel_rfl) (by kernel_rfl) rfl (by assumption) (fun w hS => Y.assign rfl) ?_
  refine AW.donew [1, 3, 4] (by kernel_rfl) ?_
  dsimp only [H.keep, H.look, H.Fr.put, Nat.beq]
  have hb3 := (hk2.trans0 hk3).at0 hb1'
  have hK3 := hk1.trans0 (hk2.trans0 hk3)
  have hz3 := hK3.size
  repeat' (first | (refine CL.seq ?_) | (refine CL.region ?_) | (refine RW.y (Y.build (ps := [(0, _), (1, _)]) (l := [_, _]) (c := #[vs [108, 105, 98], .bool true, .slice none 0 0]) rfl rfl) rfl ?_) | (refine Gt.move ?_; refine RW.y (Y.move rfl) rfl ?_) | (refine Gt.add ?_; (refine RW.y (Y.cat rfl rfl (by (simp only [List.length_append, List.length_cons, List.length_nil]; omega))) rfl ?_)))
  have k1 : ([32] : T).length = 1 := rfl
  refine RW.strBytes (l := nameK x.n ++ [32] ++ verK x.v) rfl rfl (by rw [List.length_append, List.length_append]; omega) (fun d1 w4 hd1 hd1l hk4 => ?_)
  obtain ⟨p1, cp1, rfl, _⟩ := hd1.shape
  refine RW.y (Y.build (ps := [(0, _), (2, _)]) (l := [_, _]) (c := #[vs ([108, 105, 98, 47] ++ nameK x.n), .bool false, .slice p1 (nameK x.n ++ [32] ++ verK x.v).length cp1]) rfl rfl) rfl ?_
  refine RW.buildL (ps := [(0, _), (1, _)]) (l := [_, _]) rfl rfl rfl (by intro v hv; simp at hv; rcases hv with rfl | rfl <;> rfl) rfl rfl (fun w5 hb5 hk5 hlt5 => ?_)
  have hz4 := hk4.size
  have hz5 := hk5.size
  have hK5 := (hK3.trans0 hk4).trans0 hk5
  have hg5 : GI flK w5 w3.heap.size fileT (.slice (some ⟨w4.heap.size, 0, none⟩) 2 2) [(libF, .slice none 0 0), (nmF x, .slice p1 (nameK x.n ++ [32] ++ verK x.v).length cp1)] := by
    refine GI.new (K := flK) (w := w5) (g := w4.heap.size) (B := w3.heap.size) (e := fileT) (L := [(libF, Value.slice none 0 0), (nmF x, Value.slice p1 (nameK x.n ++ [32] ++ verK x.v).length cp1)]) (by simpa [catCells, flK, flC, libF, nmF, Value.cells] using hb5) (by omega) (by simp) (fun y hy => ?_)
    simp only [List.mem_cons, List.not_mem_nil, or_false] at hy
    rcases hy with rfl | rfl
    · exact ⟨Sl.nil _ _, fun k hk => by simp [flK, live] at hk⟩
    · exact ⟨hd1.keep0 hk5, fun k hk => by have := hd1.lt hk; omega⟩
  have hfit : ∀ y ∈ [(libF, Value.slice none 0 0), (nmF x, Value.slice p1 (nameK x.n ++ [32] ++ verK x.v).length cp1)], y.1.path.length ≤ 100 ∧ y.1.b.length ≤ 1000 := by
    intro y hy
    simp only [List.mem_cons, List.not_mem_nil, or_false] at hy
    rcases hy with rfl | rfl
    · exact ⟨by decide, by decide⟩
    · exact ⟨by simp [nmF]; omega, by simp [nmF]; omega⟩
  generalize hL0 : [(libF, Value.slice none 0 0), (nmF x, Value.slice p1 (nameK x.n ++ [32] ++ verK x.v).length cp1)] = L0 at hg5 hfit
  have hL0l : L0.length = 2 := by rw [← hL0]; rfl
  have hb55 := (hk4.trans0 hk5).at0 hb3
  repeat' (first | (refine CL.seq ?_) | (refine Gt.nil ?_; refine RW.nilw [0, 1, 2, 3, 4, 5, 6, 7, 8, 27, 28, 30, 32, 34, 36, 38, 40, 42, 45, 59] ?_; dsimp only [H.keep, H.look, H.Fr.put, Nat.beq]) | (refine Gt.assign ?_; refine RW.y (Y.assign rfl) rfl ?_))
  refine CL.region ?_
  repeat' (first | (refine CL.seq ?_) | (refine Gt.nil ?_; refine RW.nilw [0, 1, 2, 3, 4, 5, 6, 7, 8, 27, 28, 30, 32, 34, 36, 38, 40, 42, 45, 59] ?_; dsimp only [H.keep, H.look, H.Fr.put, Nat.beq]) | (refine Gt.assign ?_; refine RW.y (Y.assign rfl) rfl ?_))
  refine CL.region ?_
  repeat' (first | (refine Gt.nil ?_; refine RW.nilw [0, 1, 2, 3, 4, 5, 6, 7, 8, 27, 28, 30, 32, 34, 36, 38, 40, 42, 45, 59] ?_; dsimp only [H.keep, H.look, H.Fr.put, Nat.beq]) | (refine Gt.fieldAddr ?_; refine RW.y (Y.fieldAddr rfl (by rfl)) rfl ?_) | (refine Gt.load ?_; refine RW.y (Y.loadB rfl (by assumption) rfl) rfl ?_) | (refine Gt.rem ?_; (refine RW.y (Y.remP rfl rfl (by omega) (by omega)) rfl ?_)))
  refine CL.cutS [5, 6] (fun vals wx => ∃ u L s6, vals = [u, vs s6] ∧ GI flK wx w3.heap.size fileT u L ∧ L.length ≤ 3 ∧ (∀ y ∈ L, y.1.path.length ≤ 100 ∧ y.1.b.length ≤ 1000) ∧ s6.length ≤ 100 ∧ w3.heap.size ≤ wx.heap.size ∧ K0 w wx) (by simp) ?_ ?_
  · repeat' (first | (refine CL.seq ?_) | (refine CL.region ?_) | (refine CL.skip ?_) | (refine CL.condP rfl (fun _ => ?_) (fun _ => ?_) <;> try (exfalso; omega)) | (refine CL.block ?_) | (refine CL.done ?_) | (refine Nm.block ?_) | (refine Nm.then ?_) | (refine Gt.nil ?_; refine RW.nilw [0, 1, 2, 3, 4, 5, 6, 7, 8, 27, 28, 30, 32, 34, 36, 38, 40, 42, 45, 59] ?_; dsimp only [H.keep, H.look, H.Fr.put, Nat.beq]) | (refine Gt.assign ?_; refine RW.y (Y.assign rfl) rfl ?_) | (refine Gt.eql ?_; refine RW.y (Y.eqi rfl rfl) rfl ?_))
    all_goals try exact ⟨_, rfl, rfl, rfl, _, _, _, rfl, hg5, by omega, hfit, by decide, by omega, hK5⟩
    have hul : ∀ g, (Value.slice (some ⟨w4.heap.size, 0, none⟩) 2 2).ownBlock = some g → g = w4.heap.size := fun g hg => by simp [Value.ownBlock] at hg; omega
    refine CL.loopS [5, 6, 7, 8] (fun k vals wv => ∃ (i : Nat) (u : Value) (r : List UInt8), vals = [.slice (some ⟨w4.heap.size, 0, none⟩) 2 2, vs [], u, .int .i64 (i : Int)] ∧ k = 200 - i ∧ i ≤ 200 ∧ r.length = i ∧ wv.ownsRow w5.heap.size u8T 1 u r.length (bv r) ∧ K0 w5 wv) 200 ⟨_, rfl, 0, _, [], rfl, rfl, by omega, rfl, World.ownsRow_nil _ _ _ _, Kept.refl _ _⟩ ?_
    rintro k vals wv ⟨i, u, r, rfl, rfl, hi, hr, how, hkv⟩
    dsimp only [List.zip, List.zipWith]
    have hzv := hkv.size
    repeat' (first | (refine CL.seq ?_) | (refine CL.region ?_) | (refine CL.skip ?_) | (refine CL.condP rfl (fun _ => ?_) (fun _ => ?_) <;> try (exfalso; omega)) | (refine CL.block ?_) | (refine CL.exit ?_) | (refine Ex.then ?_) | (refine Ex.hit ?_) | (refine Gt.nil ?_; refine RW.nilw [0, 1, 2, 3, 4, 5, 6, 7, 8, 27, 28, 30, 32, 34, 36, 38, 40, 42, 45, 59] ?_; dsimp only [H.keep, H.look, H.Fr.put, Nat.beq]) | (refine RW.y (Y.convW rfl) rfl ?_) | (refine Gt.move ?_; refine RW.y (Y.move rfl) rfl ?_) | (refine Gt.lss ?_; refine RW.y (Y.lss rfl rfl) rfl ?_))
    · rename_i g1
      obtain ⟨c, hc⟩ := byte_of (i : Int)
      rw [hc]
      refine RW.app1 rfl rfl rfl rfl how rfl rfl rfl rfl (fun y hy => by simp [Value.cells] at hy; rw [hy]; rfl) (by omega) (by omega) (by omega) (fun u' w6 how2 hk6 hl6 => ?_)
      have how2' : w6.ownsRow w5.heap.size u8T 1 u' (r ++ [c]).length (bv (r ++ [c])) := own_snoc how2
      repeat' (first | (refine CL.region ?_) | (refine CL.done ?_) | (refine Nm.block ?_) | (refine Nm.then ?_) | (refine Gt.nil ?_; refine RW.nilw [0, 1, 2, 3, 4, 5, 6, 7, 8, 27, 28, 30, 32, 34, 36, 38, 40, 42, 45, 59] ?_; dsimp only [H.keep, H.look, H.Fr.put, Nat.beq]) | (refine Gt.assign ?_; refine RW.y (Y.assign rfl) rfl ?_) | (refine Gt.move ?_; refine RW.y (Y.move rfl) rfl ?_) | (refine Gt.add ?_; (refine RW.y (Y.add64 rfl rfl (by omega) (by omega)) rfl ?_)))
      exact ⟨200 - (i + 1), _, rfl, rfl, rfl, by omega, i + 1, u', r ++ [c], rfl, rfl, by omega, by rw [List.length_append, List.length_singleton, hr], how2', hkv.trans hk6 fun k h => .inr (how.lt k h).1⟩
    · rename_i g1
      obtain ⟨pb, cb, rfl, _⟩ := (Sl.of_own how).shape
      refine RW.y (Y.build (ps := [(0, _), (2, _)]) (l := [_, _]) (c := #[vs [98, 105, 103], .bool false, .slice pb r.length cb]) rfl rfl) rfl ?_
      refine RW.appG flK (e := fileT) (z := .agg #[.string (B []), .bool false, .slice none 0 0]) ((⟨[98, 105, 103], false, r⟩, .slice pb r.length cb) : Fl × Value) rfl rfl rfl rfl (hg5.keep0 hkv) rfl rfl rfl rfl (Sl.of_own how) (fun g hg c => by have := hul g c; have := (how.lt g (live_own hg)).1; omega) (by omega) (by omega) rfl (fun u' w6 hg6 hk6 hl6 => ?_)
      repeat' (first | (refine CL.done ?_) | (refine Nm.block ?_) | (refine Nm.then ?_) | (refine Gt.nil ?_; refine RW.nilw [0, 1, 2, 3, 4, 5, 6, 7, 8, 27, 28, 30, 32, 34, 36, 38, 40, 42, 45, 59] ?_; dsimp only [H.keep, H.look, H.Fr.put, Nat.beq]) | (refine Gt.assign ?_; refine RW.y (Y.assign rfl) rfl ?_))
      exact ⟨_, rfl, rfl, rfl, u', L0 ++ [(⟨[98, 105, 103], false, r⟩, .slice pb r.length cb)], [], rfl, hg6, by rw [List.length_append, hL0l]; simp, fun y hy => (List.mem_append.1 hy).elim (hfit y) fun h => by rw [List.mem_singleton.1 h]; exact ⟨by simp, by simp; omega⟩, by simp, by have := hk6.size; omega, (hK5.trans0 hkv).trans hk6 fun k h => .inr (by have := hul k h; omega)⟩
  rintro vals w6 ⟨u, L, s6, rfl, hg, hLl, hLf, hs6, hz36, hK6⟩
  dsimp only [List.zip, List.zipWith]
  have hz6 := hK6.size
  repeat' (first | (refine CL.seq ?_) | (refine CL.region ?_) | (refine CL.skip ?_) | (refine CL.condP rfl (fun _ => ?_) (fun _ => ?_) <;> try (exfalso; omega)) | (refine CL.ret ?_) | (refine Gt.nil ?_; refine RW.nilw [0, 1, 2, 3, 4, 5, 6, 7, 8, 27, 28, 30, 32, 34, 36, 38, 40, 42, 45, 59] ?_; dsimp only [H.keep, H.look, H.Fr.put, Nat.beq]) | (refine Gt.assign ?_; refine RW.y (Y.assign rfl) rfl ?_) | (refine Gt.move ?_; refine RW.y (Y.move rfl) rfl ?_) | (refine Gt.neq ?_; refine RW.y (Y.nes rfl rfl) rfl ?_))
  · refine RW.strBytes (l := s6) rfl rfl (by omega) (fun d2 w7 hd2 hd2l hk7 => ?_)
    obtain ⟨p2, cp2, rfl, _⟩ := hd2.shape
    have hz7 := hk7.size
    refine RW.y (Y.build (ps := [(0, _), (2, _)]) (l := [_, _]) (c := #[vs [98, 117, 105, 108, 100, 46, 104, 115], .bool false, .slice p2 s6.length cp2]) rfl rfl) rfl ?_
    refine RW.appG flK (e := fileT) (z := .agg #[.string (B []), .bool false, .slice none 0 0]) ((⟨[98, 117, 105, 108, 100, 46, 104, 115], false, s6⟩, .slice p2 s6.length cp2) : Fl × Value) rfl rfl rfl rfl (hg.keep0 hk7) rfl rfl rfl rfl hd2 (fun g hgl c => by have := (hg.lt g c).2; have := hd2l g hgl; omega) (by omega) (by omega) rfl (fun u' w8 hg8 hk8 hl8 => ?_)
    repeat' (first | (refine CL.seq ?_) | (refine CL.region ?_) | (refine CL.ret ?_) | (refine Gt.nil ?_; refine RW.nilw [0, 1, 2, 3, 4, 5, 6, 7, 8, 27, 28, 30, 32, 34, 36, 38, 40, 42, 45, 59] ?_; dsimp only [H.keep, H.look, H.Fr.put, Nat.beq]) | (refine Gt.assign ?_; refine RW.y (Y.assign rfl) rfl ?_) | (refine Gt.move ?_; refine RW.y (Y.move rfl) rfl ?_))
    refine FQ.one rfl rfl rfl ⟨(hK6.trans0 hk7).trans hk8 fun k h => .inr (by have := (hg.lt k h).1; omega), u', (L ++ [((⟨[98, 117, 105, 108, 100, 46, 104, 115], false, s6⟩ : Fl), Value.slice p2 s6.length cp2)]).map (·.1), rfl, ⟨_, rfl, hg8.ga.1, hg8.ga.2⟩, ?_, fun y hy => ?_⟩
    · rw [List.length_map, List.length_append, List.length_singleton]; omega
    · obtain ⟨z, hz, rfl⟩ := List.mem_map.1 hy
      exact (List.mem_append.1 hz).elim (hLf z) fun h => by rw [List.mem_singleton.1 h]; exact ⟨by simp, by simp; omega⟩
  · refine FQ.one rfl rfl rfl ⟨hK6, u, L.map (·.1), rfl, ⟨_, rfl, hg.ga.1, hg.ga.2⟩, ?_, fun y hy => ?_⟩
    · rw [List.length_map]; omega
    · obtain ⟨z, hz, rfl⟩ := List.mem_map.1 hy
      exact hLf z hz
end Go.Proofs.Ytlbegmpikggmlaa.Ne

namespace Go.Proofs.Ytlbegmpikggmlaa.H
open Go.RowKit
theorem cells_take {α : Type} {enc : α → List Value} {sz : Nat} (he : ∀ x, (enc x).length = sz) : ∀ (l : List α) (i : Nat), (l.flatMap enc).take (i * sz) = (l.take i).flatMap enc := by
  intro l
  induction l with
  | nil => intro i; simp
  | cons x r ih =>
    intro i
    cases i with
    | zero => simp
    | succ i => rw [List.flatMap_cons, List.take_succ_cons, List.flatMap_cons, ← ih, Nat.succ_mul, Nat.add_comm, ← he x, List.take_length_add_append]
theorem cells_drop {α : Type} {enc : α → List Value} {sz : Nat} (he : ∀ x, (enc x).length = sz) : ∀ (l : List α) (i : Nat), (l.flatMap enc).drop (i * sz) = (l.drop i).flatMap enc := by
  intro l
  induction l with
  | nil => intro i; simp
  | cons x r ih =>
    intro i
    cases i with
    | zero => simp
    | succ i => rw [List.flatMap_cons, List.drop_succ_cons, ← ih, Nat.succ_mul, Nat.add_comm, ← he x, List.drop_length_add_append]
theorem add_zeroA (x : Addr) : x.add 0 = x := by unfold Addr.add; split <;> simp_all
theorem map_add_zero (p : Option Addr) : p.map (·.add 0) = p := by cases p <;> simp [add_zeroA]
theorem Sl.upto {w : World} {sz : Nat} {p : Option Addr} {cap n : Nat} {xs : List Value} (h : Sl w sz (.slice p n cap) n xs) {a : Nat} (ha : a ≤ n) (hc : n ≤ cap) : Sl w sz (.slice p a a) a (xs.take (a * sz)) := by
  have h1 := h.sub (a := 0) (b := a) (m := a) rfl (Nat.zero_le _) ha (Nat.le_refl _) (by omega)
  simp only [Nat.zero_mul, map_add_zero, ite_self, Nat.sub_zero, List.drop_zero] at h1
  exact h1
theorem Sl.from {w : World} {sz : Nat} {p : Option Addr} {cap n : Nat} {xs : List Value} (h : Sl w sz (.slice p n cap) n xs) {a : Nat} (ha : a ≤ n) (hc : n ≤ cap) : Sl w sz (.slice (if cap = a then p else p.map (·.add (a * sz))) (n - a) (cap - a)) (n - a) (xs.drop (a * sz)) := by
  have h1 := h.sub (a := a) (b := n) (m := cap) rfl ha (Nat.le_refl _) hc (Nat.le_refl _)
  rw [List.take_of_length_le (by rw [h.1]; exact Nat.le_refl _)] at h1
  exact h1
theorem GA.upto {α : Type} {K : Dp α} {w : World} {p : Option Addr} {n cap : Nat} {L : List α} (h : GA K w (.slice p n cap) L) (hn : n = L.length) {a : Nat} (ha : a ≤ L.length) (hc : n ≤ cap) : GA K w (.slice p a a) (L.take a) := by
  subst hn
  refine ⟨?_, fun x hx => h.2 x (List.mem_of_mem_take hx)⟩
  rw [List.length_take, Nat.min_eq_left ha, ← cells_take K.len]
  exact h.1.upto ha hc
theorem GA.from {α : Type} {K : Dp α} {w : World} {p : Option Addr} {n cap : Nat} {L : List α} (h : GA K w (.slice p n cap) L) (hn : n = L.length) {a : Nat} (ha : a ≤ L.length) (hc : n ≤ cap) : GA K w (.slice (if cap = a then p else p.map (·.add (a * K.sz))) (n - a) (cap - a)) (L.drop a) := by
  subst hn
  refine ⟨?_, fun x hx => h.2 x (List.mem_of_mem_drop hx)⟩
  rw [List.length_drop, ← cells_drop K.len]
  exact h.1.from ha hc
theorem GA.shape {α : Type} {K : Dp α} {w : World} {v : Value} {L : List α} (h : GA K w v L) : ∃ p cap, v = .slice p L.length cap ∧ L.length ≤ cap := h.1.shape
theorem GA.ones {α : Type} {K : Dp α} {w : World} {v : Value} {L : List α} (h : GA K w v L) : ∀ u ∈ L.flatMap K.enc, u.oneCell' = true := by
  intro u hu
  obtain ⟨x, hx, hu⟩ := List.mem_flatMap.1 hu
  exact K.ones w x (h.2 x hx) u hu
section
variable {M : Option (Option Nat)} {P : Program} {ops : Array Oper} {Q : Post} {rest : List Oper} {f : Fr} {w : World} {d : Nat} {ty : TypeId} {pos : String} {af : Array Edge}
/-- x[:i:i] -/
theorem Y.upto {t e : TypeId} {z : Value} {sz b : Nat} [ht : Und P t (.slice e)] [Inf P e z sz b] {x y y2 : Operand} {k k2 : IntKind} {p : Option Addr} {n cap : Nat} {i : Int} (hx : f.ev x = some (.slice p n cap)) (hy : f.ev y = some (.int k i)) (hy2 : f.ev y2 = some (.int k2 i)) (h0 : 0 ≤ i) (hc : i ≤ cap) :
    Yd P f (op1 d (.slice t x none (some y) (some y2)) ty pos af) (.slice p i.toNat i.toNat) w := by
  intro a ha
  obtain ⟨m, rfl⟩ : ∃ m : Nat, i = (m : Int) := ⟨i.toNat, by omega⟩
  rw [Int.toNat_natCast]
  have hsz := run_sizeOf (P := P) (t := e) w
  have e1 : ∀ k, (Instr.sliceBound (.int k (m : Int)) cap .slice3Acap).run P w = .ok m w := fun k => by have := run_sliceBound (P := P) (w := w) k m cap .slice3Acap (by omega) (by omega); simpa using this
  have e2 : ∀ k, (Instr.sliceBound (.int k (m : Int)) m .slice3B).run P w = .ok m w := fun k => by have := run_sliceBound (P := P) (w := w) k m m .slice3B (by omega) (by omega); simpa using this
  cases p <;> simp [execOp, ha.eval hx, ha.eval hy, ha.eval hy2, Instr.sliceAt, Instr.slice, run_underlying ht.out, Instr.sliceBounds, hsz, e1, e2, Addr.add]
/-- x[i:] -/
theorem Y.from {t e : TypeId} {z : Value} {sz b : Nat} [ht : Und P t (.slice e)] [Inf P e z sz b] {x y : Operand} {k : IntKind} {p : Option Addr} {n cap : Nat} {i : Int} (hx : f.ev x = some (.slice p n cap)) (hy : f.ev y = some (.int k i)) (h0 : 0 ≤ i) (h1 : i ≤ n) (hc : n ≤ cap) :
    Yd P f (op1 d (.slice t x (some y) none none) ty pos af) (.slice (if cap = i.toNat then p else p.map (·.add (i.toNat * sz))) (n - i.toNat) (cap - i.toNat)) w := by
  intro a ha
  have hi : i = (i.toNat : Int) := by omega
  have hr := run_sub (P := P) (w := w) (t := t) (sz := sz) p n cap (some (.int k i)) none i.toNat n (.inr ⟨k, by rw [← hi]⟩) (.inl ⟨rfl, rfl⟩) (by omega) hc
  simp only [execOp, ha.eval hx, Option.map_some, Option.map_none, ha.eval hy, Sem.run_bind, hr]; rfl
/-- append of a slice's elements, also to a slice that is full. -/
theorem RW.appA {t e : TypeId} {z : Value} {sz b : Nat} [ht : Und P t (.slice e)] [hi : Inf P e z sz b] {s x : Operand} {v vx : Value} (hs : f.ev s = some v) (hx : f.ev x = some vx) (hd : Nat.blt d f.n = true) {base : Nat} (hz : z.cells.size = sz) (hsz : Nat.blt 0 sz = true) {n : Nat} {xs : List Value} {row : Option Nat}
    (hown : Ap w base e sz v n xs row) {m : Nat} {news : List Value} (hm : 0 < m) (hsrc : Sl w sz vx m news) (h1 : ∀ u ∈ news, u.oneCell' = true) (h63 : n + m ≤ 9223372036854775807) (hbytes : (n + m) * b ≤ 140737488355328) (hbase : base ≤ w.heap.size)
    (k : ∀ v' w', w'.ownsRow base e sz v' (n + m) (xs ++ news) → Kept (fun k => row = some k) w w' → LiesR w row v' → RW M P ops Q rest (f.put d v') w') :
    RW M P ops Q (op1 d (.call { callee := .builtin .append, args := #[s, x], argTypes := #[t, t] }) ty pos af :: rest) f w := by
  obtain ⟨v', w', h, h2, h3, h4⟩ := run_apA (P := P) (t := t) (u := ty) base hz (blt_lt hsz) hown hm hsrc h1 (by simpa [maxLen] using h63) hbytes hbase
  refine RW.val rfl rfl hd (fun a ha => ?_) (k v' w' h2 h3 h4)
  simp [execOp, resolve, invoke, builtin, ha.eval hs, ha.eval hx, h]
end
end Go.Proofs.Ytlbegmpikggmlaa.H

namespace Go.Proofs.Ytlbegmpikggmlaa.H
open Go.RowKit
theorem eqItems_self {P : Program} {w : World} {e : TypeId} (he : P.underlying e = some (.int .u8)) {c : Array Value} {n : Nat} (hb : ∀ i, i < n → ∃ x : UInt8, c[i]? = some (vb x)) (d : Nat) : ∀ is : List Nat, (∀ i ∈ is, i < n) → (Op.eqItems (d + 1) e 1 c c is).run P w = .ok true w
  | [], _ => by simp [Op.eqItems]
  | i :: is, h => by
    obtain ⟨x, hx⟩ := hb i (h i (by simp))
    have hp : P.plainKey e = true := by simp [Program.plainKey, he]
    have h1 := run_part_plain (P := P) (w := w) hp (xs := c) (off := i * 1) (v := vb x) (by rw [Nat.mul_one]; exact hx)
    have h2 := eqItems_self (w := w) he hb d is (fun j hj => h j (by simp [hj]))
    simp only [Op.eqItems, Sem.run_bind, h1, Result.andThen_ok, Op.equalIn, run_underlying he]
    simp [h2]
section
variable {M : Option (Option Nat)} {P : Program} {ops : Array Oper} {Q : Post} {rest : List Oper} {f : Fr} {w : World} {d : Nat} {ty : TypeId} {pos : String} {af : Array Edge}
theorem Y.eqA {t e yt : TypeId} {n : Nat} {z : Value} {bb : Nat} [hu : Und P t (.array n e)] [he : Und P e (.int .u8)] [hi : Inf P e z 1 bb] {x y : Operand} {c : Array Value} (hx : f.ev x = some (.agg c)) (hy : f.ev y = some (.agg c)) (hg : P.eqGuardType P.depth t = false) (hb : ∀ i, i < n → ∃ x : UInt8, c[i]? = some (vb x)) : Yd P f (op1 d (.binOp .eql t x y yt) ty pos af) (.bool true) w := by
  intro a ha
  obtain ⟨i, hinf⟩ := info_of_underlying he.out
  have h1 := run_eqGuard_agg (P := P) (w := w) .eql t x y c c hg
  have hco : P.cellsOf e = 1 := by
    have := hi.out
    rw [hinf] at this
    simp only [Option.map_some, Option.some.injEq, Prod.mk.injEq] at this
    simp only [Program.cellsOf, hinf]
    exact this.2.1
  have h2 := run_equalIn_array (P := P) (w := w) 9999 c c hu.out hinf
  rw [hco, eqItems_self he.out hb 9998 _ (fun i hi => List.mem_range.1 hi)] at h2
  simp [execOp, ha.eval hx, ha.eval hy, h1, binOp, Op.equal, Op.maxDepth, h2]
theorem Y.neA {t e yt : TypeId} {n : Nat} {z : Value} {bb : Nat} [hu : Und P t (.array n e)] [he : Und P e (.int .u8)] [hi : Inf P e z 1 bb] {x y : Operand} {c : Array Value} (hx : f.ev x = some (.agg c)) (hy : f.ev y = some (.agg c)) (hg : P.eqGuardType P.depth t = false) (hb : ∀ i, i < n → ∃ x : UInt8, c[i]? = some (vb x)) : Yd P f (op1 d (.binOp .neq t x y yt) ty pos af) (.bool false) w := by
  intro a ha
  obtain ⟨i, hinf⟩ := info_of_underlying he.out
  have h1 := run_eqGuard_agg (P := P) (w := w) .neq t x y c c hg
  have hco : P.cellsOf e = 1 := by
    have := hi.out
    rw [hinf] at this
    simp only [Option.map_some, Option.some.injEq, Prod.mk.injEq] at this
    simp only [Program.cellsOf, hinf]
    exact this.2.1
  have h2 := run_equalIn_array (P := P) (w := w) 9999 c c hu.out hinf
  rw [hco, eqItems_self he.out hb 9998 _ (fun i hi => List.mem_range.1 hi)] at h2
  simp [execOp, ha.eval hx, ha.eval hy, h1, binOp, Op.equal, Op.maxDepth, h2]
theorem Y.gtsE {t yt : TypeId} {x y : Operand} {a b : List UInt8} {c : Bool} (hx : f.ev x = some (.string (B a))) (hy : f.ev y = some (.string (B b))) (h : (!(Op.bytesLess a b || a == b)) = c) : Yd P f (op1 d (.binOp .gtr t x y yt) ty pos af) (.bool c) w := by
  have := Y.gts (P := P) (w := w) (d := d) (ty := ty) (pos := pos) (af := af) (t := t) (yt := yt) hx hy
  rwa [h] at this
theorem Y.gtrT {t yt : TypeId} {x y : Operand} {k : IntKind} {a b : Int} (hx : f.ev x = some (.int k a)) (hy : f.ev y = some (.int k b)) (h : b < a) : Yd P f (op1 d (.binOp .gtr t x y yt) ty pos af) (.bool true) w := by
  have := Y.gtr (P := P) (w := w) (d := d) (ty := ty) (pos := pos) (af := af) (t := t) (yt := yt) hx hy
  rwa [decide_eq_true h] at this
theorem Y.gtrF {t yt : TypeId} {x y : Operand} {k : IntKind} {a b : Int} (hx : f.ev x = some (.int k a)) (hy : f.ev y = some (.int k b)) (h : a ≤ b) : Yd P f (op1 d (.binOp .gtr t x y yt) ty pos af) (.bool false) w := by
  have := Y.gtr (P := P) (w := w) (d := d) (ty := ty) (pos := pos) (af := af) (t := t) (yt := yt) hx hy
  rwa [decide_eq_false (by omega)] at this
end
end Go.Proofs.Ytlbegmpikggmlaa.H

namespace Go.Proofs.Ytlbegmpikggmlaa.Sp
open Go.Proofs.Ytlbegmpikggmlaa.S Go.Proofs.Ytlbegmpikggmlaa.Ve
structure Bd where
  sign : T
  v : Ver
instance : Inhabited Bd := ⟨⟨[], default⟩⟩
structure Spn where
  any : Bool
  or : List (List Bd)
instance : Inhabited Spn := ⟨⟨false, []⟩⟩

/-- The words: what stands between spaces. -/
def wordsB (s : T) : List T := (splitB 32 s).filter (fun x => decide (x ≠ []))
/-- What stands between two bars. -/
def orB : T → List T
  | [] => [[]]
  | [a] => [[a]]
  | a :: b :: r => if a = 124 ∧ b = 124 then [] :: orB r else (a :: (orB (b :: r)).headD []) :: (orB (b :: r)).tail
def signOf (w : T) : T :=
  if w.take 2 = [60, 61] ∨ w.take 2 = [62, 61] then w.take 2
  else if w.take 1 = [60] ∨ w.take 1 = [62] ∨ w.take 1 = [61] ∨ w.take 1 = [94] ∨ w.take 1 = [126] then w.take 1 else []
def expand (g : T) (v : Ver) : List Bd :=
  if g = [] then [⟨[61], v⟩]
  else if g = [94] then [⟨[62, 61], v⟩, ⟨[60], nextV v (if 0 < v.a then 0 else if 0 < v.b then 1 else 2)⟩]
  else if g = [126] then [⟨[62, 61], v⟩, ⟨[60], nextV v 1⟩]
  else [⟨g, v⟩]
def boundsB (w : T) : Option (List Bd) := (parseV (cutB 45 (w.drop (signOf w).length))).map (expand (signOf w))
/-- Words read, behind bounds. -/
def rdW : List T → List Bd → Option (List Bd)
  | [], acc => some acc
  | x :: r, acc => match boundsB x with
    | none => none
    | some b => rdW r (acc ++ b)
def listB (x : T) : Option (List Bd) := if 1 ≤ (wordsB x).length ∧ (wordsB x).length ≤ 8 then rdW (wordsB x) [] else none
def rdL : List T → List (List Bd) → Option (List (List Bd))
  | [], acc => some acc
  | x :: r, acc => match listB x with
    | none => none
    | some b => rdL r (acc ++ [b])
/-- The same, refused as soon as it is too long. -/
def rdP : List T → List (List Bd) → Option (List (List Bd))
  | [], acc => some acc
  | x :: r, acc => if acc.length = 8 then none else match listB x with
    | none => none
    | some b => rdP r (acc ++ [b])
def spanB (s : T) : Option Spn :=
  if wordsB s = [[42]] then some ⟨true, []⟩
  else if (orB s).length ≤ 8 then (rdL (orB s) []).map (⟨false, ·⟩) else none
def spanR (o : Option Spn) : Spn × Int := match o with
  | none => (⟨false, []⟩, 61)
  | some v => (v, 0)

theorem rdP_rdL : ∀ (l : List T) (acc : List (List Bd)), acc.length ≤ 8 → rdP l acc = if acc.length + l.length ≤ 8 then rdL l acc else none := by
  intro l
  induction l with
  | nil => intro acc h; simp [rdP, rdL, h]
  | cons x r ih =>
    intro acc h
    rw [rdP]
    by_cases h8 : acc.length = 8
    · rw [if_pos h8, if_neg (by simp; omega)]
    · rw [if_neg h8]
      cases hb : listB x with
      | none => simp [rdL, hb]
      | some b =>
        simp only
        rw [ih _ (by simp; omega)]
        simp only [rdL, hb, List.length_append, List.length_cons, List.length_nil]
        have : (acc.length + (0 + 1) + r.length ≤ 8) = (acc.length + (r.length + 1) ≤ 8) := by apply propext; omega
        simp only [this]
theorem spanB_P (s : T) : spanB s = if wordsB s = [[42]] then some ⟨true, []⟩ else (rdP (orB s) []).map (⟨false, ·⟩) := by
  rw [spanB, rdP_rdL _ _ (by simp)]
  split
  · rfl
  · simp only [List.length_nil, Nat.zero_add]
    split <;> rfl

/-! Words. -/
theorem splitB_snocL (c : UInt8) : ∀ (x r : T), c ∉ x → splitB c (x ++ c :: r) = x :: splitB c r := by
  intro x r h
  induction x with
  | nil => simp [splitB]
  | cons a x ih =>
    have ha : ¬ a = c := fun e => h (by simp [e])
    rw [List.cons_append, splitB, if_neg ha, ih (fun e => h (by simp [e]))]
    simp
theorem splitB_no (c : UInt8) : ∀ (x : T), c ∉ x → splitB c x = [x] := by
  intro x h
  induction x with
  | nil => rfl
  | cons a x ih =>
    have ha : ¬ a = c := fun e => h (by simp [e])
    rw [splitB, if_neg ha, ih (fun e => h (by simp [e]))]
    simp
theorem wordsB_nil : wordsB [] = [] := rfl
theorem wordsB_sp (r : T) : wordsB (32 :: r) = wordsB r := by simp [wordsB, splitB]
theorem wordsB_word (x r : T) (h : (32 : UInt8) ∉ x) (h0 : x ≠ []) : wordsB (x ++ 32 :: r) = x :: wordsB r := by
  rw [wordsB, splitB_snocL 32 x r h, List.filter_cons, if_pos (by simpa using h0), wordsB]
theorem wordsB_last (x : T) (h : (32 : UInt8) ∉ x) (h0 : x ≠ []) : wordsB x = [x] := by
  rw [wordsB, splitB_no 32 x h]; simp [h0]
theorem wordsB_len (s : T) : ∀ x ∈ wordsB s, x.length ≤ s.length ∧ x ≠ [] := by
  intro x hx
  rw [wordsB, List.mem_filter] at hx
  exact ⟨splitB_mem_len 32 s x hx.1, by simpa using hx.2⟩
theorem wordsB_num (s : T) : (wordsB s).length ≤ s.length + 1 := by
  have h2 := splitB_len 32 s
  have h3 : s.count 32 ≤ s.length := List.count_le_length
  exact Nat.le_trans (List.length_filter_le _ _) (by omega)

/-! Lists. -/
theorem orB_ne (s : T) : orB s ≠ [] := by
  induction s using orB.induct with
  | case1 => simp [orB]
  | case2 => simp [orB]
  | case3 a b r h => rw [orB, if_pos h]; simp
  | case4 a b r h => rw [orB, if_neg h]; simp
theorem orB_cons (a : UInt8) (s : T) (h : ¬ (a = 124 ∧ s.take 1 = [124])) : orB (a :: s) = (a :: (orB s).headD []) :: (orB s).tail := by
  cases s with
  | nil => simp [orB]
  | cons b r => rw [orB, if_neg (by simpa using h)]
theorem orB_bars (r : T) : orB (124 :: 124 :: r) = [] :: orB r := by rw [orB, if_pos ⟨rfl, rfl⟩]
theorem orB_len : ∀ (s : T), (orB s).length ≤ s.length + 1 := by
  intro s
  induction s using orB.induct with
  | case1 => simp [orB]
  | case2 => simp [orB]
  | case3 a b r h ih => rw [orB, if_pos h]; simp; omega
  | case4 a b r h ih => rw [orB, if_neg h]; simp at ih ⊢; omega
theorem orB_mem : ∀ (s : T), ∀ x ∈ orB s, x.length ≤ s.length := by
  intro s
  induction s using orB.induct with
  | case1 => simp [orB]
  | case2 => simp [orB]
  | case3 a b r h ih =>
    rw [orB, if_pos h]
    intro x hx
    rcases List.mem_cons.1 hx with rfl | hx
    · simp
    · have := ih x hx; simp; omega
  | case4 a b r h ih =>
    rw [orB, if_neg h]
    intro x hx
    rcases List.mem_cons.1 hx with rfl | hx
    · cases ho : orB (b :: r) with
      | nil => simp
      | cons y m => have := ih y (by rw [ho]; simp); simp at this ⊢; omega
    · have := ih x (List.mem_of_mem_tail hx); simp at this ⊢; omega

theorem occ_iff (s : T) (i : Nat) : Go.Lib.occAt s [124, 124] i = true ↔ (s.drop i).take 2 = [124, 124] := by
  rw [Go.Lib.occAt]
  cases h : s.drop i with
  | nil => simp
  | cons a m => cases m with
    | nil => simp
    | cons b m =>
      simp [List.isPrefixOf]
      constructor <;> (rintro ⟨h1, h2⟩; exact ⟨h1.symm, h2.symm⟩)

theorem orB_first : ∀ (i : Nat) (s : T), i ≤ s.length → (∀ j, j < i → ¬ (s.drop j).take 2 = [124, 124]) → (s.drop i).take 2 = [124, 124] → orB s = s.take i :: orB (s.drop (i + 2)) := by
  intro i
  induction i with
  | zero =>
    intro s _ _ h
    match s, h with
    | a :: b :: r, h =>
      simp at h
      obtain ⟨rfl, rfl⟩ := h
      rw [orB_bars]; simp
  | succ i ih =>
    intro s hl hn h
    match s, hl with
    | a :: r, hl =>
      have h1 := ih r (by simpa using hl) (fun j hj => by have := hn (j + 1) (by omega); simpa using this) (by simpa using h)
      have h0 := hn 0 (by omega)
      rw [orB_cons a r (by intro ⟨ha, hb⟩; apply h0; cases r with | nil => simp at hb | cons b r => simp at hb ⊢; exact ⟨ha, hb⟩), h1]
      simp
theorem orB_none : ∀ (s : T), (∀ j, j ≤ s.length → ¬ (s.drop j).take 2 = [124, 124]) → orB s = [s] := by
  intro s
  induction s with
  | nil => intro _; rfl
  | cons a r ih =>
    intro hn
    have h0 := hn 0 (by omega)
    rw [orB_cons a r (by intro ⟨ha, hb⟩; apply h0; cases r with | nil => simp at hb | cons b r => simp at hb ⊢; exact ⟨ha, hb⟩), ih (fun j hj => by have := hn (j + 1) (by simp; omega); simpa using this)]
    simp
/-- The library's search for two bars, and what is parted there. -/
theorem orB_index (s : T) : (Go.Lib.index s [124, 124] = -1 ∧ orB s = [s]) ∨ ∃ m : Nat, Go.Lib.index s [124, 124] = (m : Int) ∧ m + 2 ≤ s.length ∧ orB s = s.take m :: orB (s.drop (m + 2)) := by
  rcases Go.Lib.index_spec s [124, 124] with ⟨h, hn⟩ | ⟨i, h, hi, ho, hn⟩
  · exact .inl ⟨h, orB_none s fun j hj c => by have := hn j hj; rw [(occ_iff s j).2 c] at this; cases this⟩
  · have h2 := (occ_iff s i).1 ho
    refine .inr ⟨i, h, ?_, orB_first i s hi (fun j hj c => by have := hn j hj; rw [(occ_iff s j).2 c] at this; cases this) h2⟩
    have := congrArg List.length h2
    simp at this
    omega

/-! Texts, what is had, the best. -/
def bdT (b : Bd) : T := (if b.sign = [61] then [] else b.sign) ++ textV b.v
def listT (l : List Bd) : T := Go.Lib.join (l.map bdT) [32]
def spanT (s : Spn) : T := if s.any = true then [42] else Go.Lib.join (s.or.map listT) [32, 124, 124, 32]
def holdsB (b : Bd) (v : Ver) : Bool :=
  if b.sign = [61] then decide (cmpV v b.v = 0)
  else if b.sign = [60] then decide (cmpV v b.v < 0)
  else if b.sign = [60, 61] then decide (cmpV v b.v ≤ 0)
  else if b.sign = [62] then decide (0 < cmpV v b.v)
  else if b.sign = [62, 61] then decide (0 ≤ cmpV v b.v) else false
def nearB (b : Bd) (v : Ver) : Bool := decide (b.v.pre ≠ []) && decide (b.v.a = v.a) && decide (b.v.b = v.b) && decide (b.v.c = v.c)
def hasL (l : List Bd) (v : Ver) : Bool := l.all (fun b => holdsB b v) && (decide (v.pre = []) || l.any (fun b => nearB b v))
def hasB (s : Spn) (v : Ver) : Bool := if s.any = true then decide (v.pre = []) else s.or.any (fun l => hasL l v)
/-- The best of the first i. -/
def bestF (s : Spn) (l : List Ver) : Nat → Int
  | 0 => -1
  | i + 1 => if (hasB s (l.getD i default) && (decide (bestF s l i < 0) || decide (0 < cmpV (l.getD i default) (l.getD (bestF s l i).toNat default)))) = true then (i : Int) else bestF s l i
end Go.Proofs.Ytlbegmpikggmlaa.Sp

namespace Go.Proofs.Ytlbegmpikggmlaa.Ve
open Go.RowKit H S
attribute [local irreducible] H.CL H.RW H.CW H.Yd H.thenK H.blockQ Go.Calls

theorem refMore (n : Int) (h1 : n ≤ 9223372036854775807) (h0 : -9223372036854775808 ≤ n) (w : World) : Calls Try.prog 70 #[.int .i64 n] w fun e w' => w = w' ∧ e = .returned (.int .i64 (if n < 999999999 then n + 1 else n)) := by
  refine H.enter Try.func70 Try.ntmps70 rfl rfl ?_; dsimp only [H.args]
  repeat' (first | (refine CL.seq ?_) | (refine CL.region ?_) | (refine CL.skip ?_) | (refine CL.condP rfl (fun _ => ?_) (fun _ => ?_) <;> try (exfalso; omega)) | (refine CL.ret ?_) | (refine Gt.nil ?_; refine RW.nilw [0, 2, 4] ?_; dsimp only [H.keep, H.look, H.Fr.put, Nat.beq]) | (refine Gt.assign ?_; refine RW.y (Y.assign rfl) rfl ?_) | (refine Gt.move ?_; refine RW.y (Y.move rfl) rfl ?_) | (refine Gt.geq ?_; refine RW.y (Y.geq rfl rfl) rfl ?_) | (refine Gt.add ?_; refine RW.y (Y.add64 rfl rfl (by omega) (by omega)) rfl ?_))
  · exact FQ.one rfl rfl rfl ⟨rfl, ret_int (by rw [if_neg (by omega)])⟩
  · exact FQ.one rfl rfl rfl ⟨rfl, ret_int (by rw [if_pos (by omega)])⟩

/-- The three numbers fit a machine's. -/
def I64 (v : Ver) : Prop := (-9223372036854775808 ≤ v.a ∧ v.a ≤ 9223372036854775807) ∧ (-9223372036854775808 ≤ v.b ∧ v.b ≤ 9223372036854775807) ∧ (-9223372036854775808 ≤ v.c ∧ v.c ≤ 9223372036854775807)

set_option maxHeartbeats 1000000 in
theorem refNext (X : Value) (x : Ver) (part : Int) (w : World) (hX : VerAt w X x) (hx : I64 x) : Calls Try.prog 63 #[X, .int .i64 part] w fun e w' => K0 w w' ∧ e = .returned (verV (nextV x part) (.slice none 0 0)) := by
  obtain ⟨p, rfl, hp⟩ := hX
  obtain ⟨⟨a0, a1⟩, ⟨b0, b1⟩, ⟨c0, c1⟩⟩ := hx
  refine H.enter Try.func63 Try.ntmps63 rfl rfl ?_; dsimp only [H.args]
  repeat' (first | (refine CL.seq ?_) | (refine CL.region ?_))
  refine RW.box rfl rfl (fun w1 hb1 hk1 hlt1 => ?_)
  skip
  refine RW.alloc rfl (fun w2 hb2 hk2 hlt2 => ?_)
  have hX1 : w2.heap[w.heap.size]? = some (.cells #[.int .i64 x.a, .int .i64 x.b, .int .i64 x.c, p] verT (0, 0)) := hk2.at0 hb1
  repeat' (first | (refine CL.seq ?_) | (refine CL.region ?_) | (refine Gt.nil ?_; refine RW.nilw [0, 1, 2, 4, 6, 18, 22, 36] ?_; dsimp only [H.keep, H.look, H.Fr.put, Nat.beq]) | (refine Gt.fieldAddr ?_; refine RW.y (Y.fieldAddr rfl (by rfl)) rfl ?_))
  refine RW.storeB rfl rfl rfl hX1 (show (_ : Nat) < 4 from by decide) (fun w3 hb3 hk3 => ?_)
  have hr3 := hk3.at hb2 (fun c => by have c' : w1.heap.size = w.heap.size := c; omega)
  have hb3 : w3.heap[w.heap.size]? = some (.cells #[.int .i64 x.a, .int .i64 x.b, .int .i64 x.c, .slice none 0 0] verT (0, 0)) := hb3
  have hK3 : K0 w w3 := (hk1.trans0 hk2).trans hk3 fun k h => .inr (by have h' : k = w.heap.size := h; omega)
  have hsz := hk2.size
  repeat' (first | (refine CL.seq ?_) | (refine CL.region ?_) | (refine CL.skip ?_) | (refine CL.condP rfl (fun _ => ?_) (fun _ => ?_) <;> try (exfalso; omega)) | (refine CL.condF rfl ?_) | (refine CL.block ?_) | (refine CL.done ?_) | (refine Nm.block ?_) | (refine Gt.nil ?_; refine RW.nilw [0, 1, 2, 4, 6, 18, 22, 36] ?_; dsimp only [H.keep, H.look, H.Fr.put, Nat.beq]) | (refine Gt.load ?_; first | (refine RW.y (Y.loadB rfl (by assumption) rfl) rfl ?_) | (refine RW.y (Y.loadBlock rfl (by assumption) rfl) rfl ?_)) | (refine Gt.guard ?_; first | (refine RW.part rfl rfl rfl (fun _ => ?_) (fun _ => ?_) <;> try (exfalso; omega)) | (refine RW.on rfl rfl rfl ?_) | (refine RW.off1 rfl rfl rfl rfl rfl ?_)) | (refine Gt.fieldAddr ?_; refine RW.y (Y.fieldAddr rfl (by rfl)) rfl ?_) | (refine Gt.move ?_; refine RW.y (Y.move rfl) rfl ?_) | (refine Gt.eql ?_; refine RW.y (Y.eqi rfl rfl) rfl ?_) | (refine Gt.assign ?_; refine RW.y (Y.assign rfl) rfl ?_) | (refine Gt.lss ?_; refine RW.y (Y.lss rfl rfl) rfl ?_) | (refine Gt.pick ?_; first | (refine RW.y (Y.pickT rfl rfl) rfl ?_) | (refine RW.y (Y.pickF rfl rfl) rfl ?_)) | (refine Gt.add ?_; refine RW.y (Y.add64 rfl rfl (by omega) (by omega)) rfl ?_) | (refine RW.y (Y.build (ps := [(0, _)]) rfl rfl) rfl ?_) | (refine RW.y (Y.build (ps := [(0, _), (1, _)]) rfl rfl) rfl ?_))
  · rename_i h1 h2
    refine RW.storeBlock (u := #[.int .i64 (x.a + 1), .int .i64 0, .int .i64 0, .slice none 0 0]) rfl rfl rfl noCells hr3 rfl (fun w4 hb4 hk4 => ?_)
    repeat' (first | (refine CL.ret ?_) | (refine Rt.block ?_) | (refine Gt.nil ?_; refine RW.nilw [0, 1, 2, 4, 6, 18, 22, 36] ?_; dsimp only [H.keep, H.look, H.Fr.put, Nat.beq]))
    rw [show nextV x part = _ from by unfold nextV; rw [if_pos h1, if_pos h2]]
    exact FQ.res1 (v := _) rfl rfl ⟨⟨_, rfl, load_block hb4 rfl⟩, trivial⟩ (⟨hK3.trans hk4 fun k h => .inr (by have h' : k = w1.heap.size := h; omega), rfl⟩)
  · rename_i h1 h2 _
    refine RW.storeBlock (u := #[.int .i64 x.a, .int .i64 x.b, .int .i64 x.c, .slice none 0 0]) rfl rfl rfl noCells hr3 rfl (fun w4 hb4 hk4 => ?_)
    repeat' (first | (refine CL.ret ?_) | (refine Rt.block ?_) | (refine Gt.nil ?_; refine RW.nilw [0, 1, 2, 4, 6, 18, 22, 36] ?_; dsimp only [H.keep, H.look, H.Fr.put, Nat.beq]))
    rw [show nextV x part = _ from by unfold nextV; rw [if_pos h1, if_neg h2]]
    exact FQ.res1 (v := _) rfl rfl ⟨⟨_, rfl, load_block hb4 rfl⟩, trivial⟩ (⟨hK3.trans hk4 fun k h => .inr (by have h' : k = w1.heap.size := h; omega), rfl⟩)
  · rename_i h1 _ h2 h3
    refine RW.storeBlock (u := #[.int .i64 x.a, .int .i64 (x.b + 1), .int .i64 0, .slice none 0 0]) rfl rfl rfl noCells hr3 rfl (fun w4 hb4 hk4 => ?_)
    repeat' (first | (refine CL.ret ?_) | (refine Rt.block ?_) | (refine Gt.nil ?_; refine RW.nilw [0, 1, 2, 4, 6, 18, 22, 36] ?_; dsimp only [H.keep, H.look, H.Fr.put, Nat.beq]))
    rw [show nextV x part = _ from by unfold nextV; rw [if_neg h1, if_pos h2, if_pos h3]]
    exact FQ.res1 (v := _) rfl rfl ⟨⟨_, rfl, load_block hb4 rfl⟩, trivial⟩ (⟨hK3.trans hk4 fun k h => .inr (by have h' : k = w1.heap.size := h; omega), rfl⟩)
  · rename_i h1 _ h2 h3 _
    refine RW.storeBlock (u := #[.int .i64 x.a, .int .i64 x.b, .int .i64 x.c, .slice none 0 0]) rfl rfl rfl noCells hr3 rfl (fun w4 hb4 hk4 => ?_)
    repeat' (first | (refine CL.ret ?_) | (refine Rt.block ?_) | (refine Gt.nil ?_; refine RW.nilw [0, 1, 2, 4, 6, 18, 22, 36] ?_; dsimp only [H.keep, H.look, H.Fr.put, Nat.beq]))
    rw [show nextV x part = _ from by unfold nextV; rw [if_neg h1, if_pos h2, if_neg h3]]
    exact FQ.res1 (v := _) rfl rfl ⟨⟨_, rfl, load_block hb4 rfl⟩, trivial⟩ (⟨hK3.trans hk4 fun k h => .inr (by have h' : k = w1.heap.size := h; omega), rfl⟩)
  · rename_i h1 _ h2 _
    refine RW.fn rfl rfl ((refMore x.c c1 c0 w3).mono ?_)
    rintro e w' ⟨rfl, rfl⟩
    repeat' ((refine Gt.fieldAddr ?_; refine RW.y (Y.fieldAddr rfl (by rfl)) rfl ?_))
    refine RW.storeB rfl rfl rfl hb3 (show (_ : Nat) < 4 from by decide) (fun w5 hb5 hk5 => ?_)
    have hb5 : w5.heap[w.heap.size]? = some (.cells #[.int .i64 x.a, .int .i64 x.b, .int .i64 (if x.c < 999999999 then x.c + 1 else x.c), .slice none 0 0] verT (0, 0)) := hb5
    have hr5 := hk5.at hr3 (fun c => by have c' : w1.heap.size = w.heap.size := c; omega)
    have hK5 : K0 w w5 := hK3.trans hk5 fun k h => .inr (by have h' : k = w.heap.size := h; omega)
    repeat' (first | (refine CL.seq ?_) | (refine CL.region ?_) | (refine Gt.nil ?_; refine RW.nilw [0, 1, 2, 4, 6, 18, 22, 36] ?_; dsimp only [H.keep, H.look, H.Fr.put, Nat.beq]) | (refine Gt.load ?_; (refine RW.y (Y.loadBlock rfl (by assumption) rfl) rfl ?_)))
    refine RW.storeBlock rfl rfl rfl noCells hr5 rfl (fun w4 hb4 hk4 => ?_)
    repeat' (first | (refine CL.ret ?_) | (refine Gt.nil ?_; refine RW.nilw [0, 1, 2, 4, 6, 18, 22, 36] ?_; dsimp only [H.keep, H.look, H.Fr.put, Nat.beq]))
    rw [show nextV x part = ⟨x.a, x.b, if x.c < 999999999 then x.c + 1 else x.c, []⟩ from by unfold nextV; rw [if_neg h1, if_neg h2]; split <;> rfl]
    exact FQ.res1 (v := _) rfl rfl ⟨⟨_, rfl, load_block hb4 rfl⟩, trivial⟩ (⟨hK5.trans hk4 fun k h => .inr (by have h' : k = w1.heap.size := h; omega), rfl⟩)

theorem ptr_cells {g : Nat} {l : List Nat} : ∀ v ∈ l.map (fun j => Value.pointer (some ⟨g, j, none⟩)), v.cells.size = 1 := by
  intro v hv
  obtain ⟨x, _, rfl⟩ := List.mem_map.1 hv
  rfl

end Go.Proofs.Ytlbegmpikggmlaa.Ve

namespace Go.Proofs.Ytlbegmpikggmlaa.Sp
open Go.RowKit H S Ve
attribute [local irreducible] H.CL H.RW H.CW H.Yd H.thenK H.blockQ Go.Calls

abbrev bdT' : TypeId := 126
/-- The cells of a bound. -/
def bdC (x : Bd × Value) : List Value := [vs x.1.sign, .int .i64 x.1.v.a, .int .i64 x.1.v.b, .int .i64 x.1.v.c, x.2]
/-- Bounds in memory. -/
def BdsAt (w : World) (p : Value) (l : List Bd) : Prop := ∃ L : List (Bd × Value), L.map (·.1) = l ∧ Sl w 5 p L.length (L.flatMap bdC) ∧ ∀ x ∈ L, Sl w 1 x.2 x.1.v.pre.length (sv x.1.v.pre)
/-- Bounds in memory that was not there below B. -/
def BdsNew (B : Nat) (w : World) (p : Value) (l : List Bd) : Prop := ∃ L : List (Bd × Value), L.map (·.1) = l ∧ Sl w 5 p L.length (L.flatMap bdC) ∧ (∀ g, live p = some g → B ≤ g) ∧ ∀ x ∈ L, Sl w 1 x.2 x.1.v.pre.length (sv x.1.v.pre) ∧ ∀ g, live x.2 = some g → B ≤ g
theorem BdsNew.at {B : Nat} {w : World} {p : Value} {l : List Bd} (h : BdsNew B w p l) : BdsAt w p l := by
  obtain ⟨L, h1, h2, _, h3⟩ := h; exact ⟨L, h1, h2, fun x hx => (h3 x hx).1⟩
theorem BdsAt.keep0 {w w' : World} {p : Value} {l : List Bd} (h : BdsAt w p l) (k : K0 w w') : BdsAt w' p l := by
  obtain ⟨L, h1, h2, h3⟩ := h; exact ⟨L, h1, h2.keep0 k, fun x hx => (h3 x hx).keep0 k⟩
def signsL : List T := [[60, 61], [62, 61], [60], [62], [61], [94], [126]]
/-- The first of the signs that the word begins with. -/
def firstOf : List T → T → T
  | [], _ => []
  | x :: r, w => if w.take x.length = x then x else firstOf r w
theorem firstOf_sign (w : T) : firstOf signsL w = signOf w := by
  simp only [signsL, firstOf, signOf, List.length_cons, List.length_nil, Nat.zero_add, Nat.reduceAdd]
  by_cases h1 : w.take 2 = [60, 61]
  · simp [h1]
  · by_cases h2 : w.take 2 = [62, 61]
    · simp [h2]
    · simp only [h1, h2, or_self, if_false]
      repeat' split
      all_goals simp_all
theorem firstOf_drop (l : List T) (w : T) (i : Nat) (h : i < l.length) : firstOf (l.drop i) w = if w.take (l.getD i []).length = l.getD i [] then l.getD i [] else firstOf (l.drop (i + 1)) w := by
  rw [List.drop_eq_getElem_cons h, firstOf, List.getD_eq_getElem?_getD, List.getElem?_eq_getElem h]
  rfl

theorem text_cells {l : List T} : ∀ v ∈ sv l, v.cells.size = 1 := by
  intro v hv
  obtain ⟨x, _, rfl⟩ := List.mem_map.1 hv
  rfl
theorem verC {w : World} {X : Value} {x : Ver} (h : VerAt w X x) : ∃ p, X = .agg #[.int .i64 x.a, .int .i64 x.b, .int .i64 x.c, p] ∧ p.oneCell' = true ∧ Sl w 1 p x.pre.length (sv x.pre) := by
  obtain ⟨p, rfl, hp⟩ := h
  exact ⟨p, rfl, hp.one, hp⟩
theorem verN {B : Nat} {w : World} {X : Value} {x : Ver} (h : VerNew B w X x) : ∃ p, X = .agg #[.int .i64 x.a, .int .i64 x.b, .int .i64 x.c, p] ∧ p.oneCell' = true ∧ Sl w 1 p x.pre.length (sv x.pre) ∧ ∀ g, live p = some g → B ≤ g := by
  obtain ⟨p, rfl, hp, hq⟩ := h
  exact ⟨p, rfl, hp.one, hp, hq⟩
theorem new_live {B g : Nat} {n : Nat} (h : B ≤ g) : ∀ k, live (.slice (some ⟨g, 0, none⟩) n n) = some k → B ≤ k := by
  intro k hk
  have := live_own hk
  simp [Value.ownBlock] at this
  omega
theorem BdsNew.one {B g : Nat} {w : World} {b : Bd} {q : Value} (h : Sl w 5 (.slice (some ⟨g, 0, none⟩) 1 1) 1 (bdC (b, q))) (hg : B ≤ g) (hq : Sl w 1 q b.v.pre.length (sv b.v.pre)) (hB : ∀ k, live q = some k → B ≤ k) : BdsNew B w (.slice (some ⟨g, 0, none⟩) 1 1) [b] :=
  ⟨[(b, q)], rfl, by simpa using h, new_live hg, fun x hx => by rw [List.mem_singleton.1 hx]; exact ⟨hq, hB⟩⟩
theorem BdsNew.two {B g : Nat} {w : World} {b c : Bd} {q r : Value} (h : Sl w 5 (.slice (some ⟨g, 0, none⟩) 2 2) 2 (bdC (b, q) ++ bdC (c, r))) (hg : B ≤ g) (hq : Sl w 1 q b.v.pre.length (sv b.v.pre)) (hB : ∀ k, live q = some k → B ≤ k) (hr : Sl w 1 r c.v.pre.length (sv c.v.pre)) (hC : ∀ k, live r = some k → B ≤ k) : BdsNew B w (.slice (some ⟨g, 0, none⟩) 2 2) [b, c] :=
  ⟨[(b, q), (c, r)], rfl, by simpa using h, new_live hg, fun x hx => by simp at hx; rcases hx with rfl | rfl; { exact ⟨hq, hB⟩ }; exact ⟨hr, hC⟩⟩
theorem cells5 {x y : Array Value} (hx : x.size = 5) (hy : y.size = 5) : ∀ v ∈ [Value.agg x, Value.agg y], v.cells.size = 5 := by
  intro v hv
  simp at hv
  rcases hv with rfl | rfl <;> assumption
theorem cells5a {x : Array Value} (hx : x.size = 5) : ∀ v ∈ [Value.agg x], v.cells.size = 5 := by
  intro v hv
  rw [List.mem_singleton.1 hv]
  exact hx
theorem parse_i64 {s : T} {v : Ver} (h : parseV (cutB 45 s) = some v) : I64 v := by
  have := parse_parts h
  simp only [I64]; omega
theorem next_pre (v : Ver) (n : Int) : (nextV v n).pre = [] := by
  unfold nextV; repeat' split
  all_goals rfl

end Go.Proofs.Ytlbegmpikggmlaa.Sp

namespace Go.Proofs.Ytlbegmpikggmlaa.Sp
open Go.RowKit H S Ve
attribute [local irreducible] H.CL H.RW H.CW H.Yd H.thenK H.blockQ Go.Calls

theorem filter_snoc (l : List T) (i : Nat) (h : i < l.length) : (l.take (i + 1)).filter (fun x => decide (x ≠ [])) = (l.take i).filter (fun x => decide (x ≠ [])) ++ (if l.getD i [] = [] then [] else [l.getD i []]) := by
  rw [take_snoc [] l i h, List.filter_append]
  congr 1
  by_cases hx : l.getD i [] = []
  · rw [hx]; rfl
  · rw [if_neg hx]; generalize l.getD i [] = x at hx; simp [hx]
theorem refWords (s : T) (hl : s.length ≤ 1000000) (w : World) : Calls Try.prog 42 #[vs s] w fun e w' => ∃ v', e = .returned v' ∧ w'.ownsRow w.heap.size strT 1 v' (wordsB s).length (sv (wordsB s)) ∧ K0 w w' := by
  have hsl := splitB_len 32 s
  have hcn : s.count 32 ≤ s.length := List.count_le_length
  refine H.enter Try.func42 Try.ntmps42 rfl rfl ?_; dsimp only [H.args]
  repeat' (first | (refine CL.seq ?_) | (refine CL.region ?_) | (refine Gt.nil ?_; refine RW.nilw [0, 2, 3, 4, 5, 11, 18] ?_; dsimp only [H.keep, H.look, H.Fr.put, Nat.beq]) | (refine Gt.move ?_; refine RW.y (Y.move rfl) rfl ?_) | (refine Gt.assign ?_; refine RW.y (Y.assign rfl) rfl ?_))
  refine RW.fn rfl rfl ((refSplit s 32 (by omega) w).mono ?_)
  rintro e w1 ⟨v, rfl, hw, hk1⟩
  have hwb : wordsB s = (splitB 32 s).filter (fun x => decide (x ≠ [])) := rfl
  rw [hwb]
  have hs1 := Sl.of_own hw
  generalize splitB 32 s = l at *
  have hsz1 := hk1.size
  repeat' (first | (refine CL.seq ?_) | (refine CL.region ?_) | (refine CL.block ?_) | (refine Gt.nil ?_; refine RW.nilw [0, 2, 3, 4, 5, 11, 18] ?_; dsimp only [H.keep, H.look, H.Fr.put, Nat.beq]) | (refine Gt.assign ?_; refine RW.y (Y.assign rfl) rfl ?_))
  refine CL.loopS [3, 4, 5] (fun m vals wr => ∃ (i : Nat) (u : Value), vals = [u, v, .int .i64 (i : Int)] ∧ m = l.length - i ∧ i ≤ l.length ∧ wr.ownsRow w1.heap.size strT 1 u ((l.take i).filter (fun x => decide (x ≠ []))).length (sv ((l.take i).filter (fun x => decide (x ≠ [])))) ∧ K0 w1 wr) l.length ⟨_, rfl, 0, _, rfl, rfl, Nat.zero_le _, World.ownsRow_nil _ _ _ _, Kept.refl _ _⟩ ?_
  rintro m vals wr ⟨i, u, rfl, rfl, hi, how, hkr⟩
  dsimp only [List.zip, List.zipWith]
  have hsr := hs1.keep0 hkr
  have hsz := hkr.size
  have hfl : ((l.take i).filter (fun x => decide (x ≠ []))).length ≤ (l.take i).length := List.length_filter_le _ _
  rw [List.length_take] at hfl
  rcases Nat.lt_or_ge i l.length with hlt | hge
  · have hf := filter_snoc l i hlt
    repeat' (first | (refine CL.seq ?_) | (refine CL.region ?_) | (refine CL.skip ?_) | (refine CL.condP rfl (fun _ => ?_) (fun _ => ?_) <;> try (exfalso; omega)) | (refine CL.block ?_) | (refine CL.done ?_) | (refine Nm.block ?_) | (refine Nm.then ?_) | (refine Gt.nil ?_; refine RW.nilw [0, 2, 3, 4, 5, 11, 18] ?_; dsimp only [H.keep, H.look, H.Fr.put, Nat.beq]) | (refine Gt.move ?_; refine RW.y (Y.move rfl) rfl ?_) | (refine Gt.assign ?_; refine RW.y (Y.assign rfl) rfl ?_) | (refine Gt.idx ?_; refine RW.elemS rfl rfl rfl rfl (by assumption) (by omega) (by omega) ?_) | (refine Gt.len ?_; (refine RW.y (Y.lenx rfl (by assumption)) rfl ?_)) | (refine Gt.lss ?_; refine RW.y (Y.lss rfl rfl) rfl ?_) | (refine Gt.neq ?_; refine RW.y (Y.nes rfl rfl) rfl ?_) | (refine Gt.add ?_; refine RW.y (Y.add64 rfl rfl (by omega) (by omega)) rfl ?_))
    · rename_i h
      rw [Int.toNat_natCast] at h
      rw [if_neg h] at hf
      refine RW.app1 rfl rfl rfl rfl how rfl rfl rfl rfl (one_vs _) (by omega) (by omega) (by omega) (fun u' w2 how' hk' hl' => ?_)
      repeat' (first | (refine CL.region ?_) | (refine CL.done ?_) | (refine Nm.block ?_) | (refine Nm.then ?_) | (refine Gt.nil ?_; refine RW.nilw [0, 2, 3, 4, 5, 11, 18] ?_; dsimp only [H.keep, H.look, H.Fr.put, Nat.beq]) | (refine Gt.move ?_; refine RW.y (Y.move rfl) rfl ?_) | (refine Gt.assign ?_; refine RW.y (Y.assign rfl) rfl ?_) | (refine Gt.add ?_; refine RW.y (Y.add64 rfl rfl (by omega) (by omega)) rfl ?_))
      rw [Int.toNat_natCast] at how'
      refine ⟨l.length - (i + 1), _, rfl, rfl, rfl, by omega, i + 1, u', rfl, rfl, by omega, ?_, hkr.trans hk' fun k h => .inr (how.lt k h).1⟩
      rw [hf]
      simpa [Value.cells] using how'
    · rename_i h
      rw [Int.toNat_natCast] at h
      have h : l.getD i [] = [] := Decidable.byContradiction fun c => h c
      rw [if_pos h, List.append_nil] at hf
      exact ⟨l.length - (i + 1), _, rfl, rfl, rfl, by omega, i + 1, u, rfl, rfl, by omega, by rw [hf]; exact how, hkr⟩
  · have hi : i = l.length := by omega
    subst hi
    rw [List.take_length] at how
    repeat' (first | (refine CL.seq ?_) | (refine CL.region ?_) | (refine CL.condP rfl (fun _ => ?_) (fun _ => ?_) <;> try (exfalso; omega)) | (refine CL.exit ?_) | (refine Ex.then ?_) | (refine Ex.hit ?_) | (refine CL.ret ?_) | (refine Gt.nil ?_; refine RW.nilw [0, 2, 3, 4, 5, 11, 18] ?_; dsimp only [H.keep, H.look, H.Fr.put, Nat.beq]) | (refine Gt.move ?_; refine RW.y (Y.move rfl) rfl ?_) | (refine Gt.assign ?_; refine RW.y (Y.assign rfl) rfl ?_) | (refine Gt.len ?_; (refine RW.y (Y.lenx rfl (by assumption)) rfl ?_)) | (refine Gt.lss ?_; refine RW.y (Y.lss rfl rfl) rfl ?_))
    exact FQ.one rfl rfl rfl ⟨_, rfl, own_base how (fun g hg => by have := (how.lt g hg).1; omega), hk1.trans0 hkr⟩

theorem take1 {s : T} (h : s ≠ []) : s.take 1 = [s.getD 0 0] := by
  cases s with
  | nil => exact absurd rfl h
  | cons a r => rfl
theorem sign1 {s : T} (h : s ≠ []) {c : UInt8} (e : ((s.getD 0 0).toNat : Int) = (c.toNat : Int)) : s.take 1 = [c] := by rw [take1 h, u8_eq e]
theorem sign1n {s : T} (h : s ≠ []) {c : UInt8} (e : ¬ ((s.getD 0 0).toNat : Int) = (c.toNat : Int)) : ¬ s.take 1 = [c] := by
  rw [take1 h]; intro q; apply e; rw [(List.cons.inj q).1]
theorem sA {s : T} (h : s.take 2 = [60, 61] ∨ s.take 2 = [62, 61]) : signOf s = s.take 2 := by rw [signOf, if_pos h]
theorem not2 {s : T} (h : s.length ≤ 1 ∨ (¬ s.take 2 = [60, 61] ∧ ¬ s.take 2 = [62, 61])) : ¬ (s.take 2 = [60, 61] ∨ s.take 2 = [62, 61]) := by
  rcases h with h | h
  · intro c
    have : (s.take 2).length ≤ 1 := by rw [List.length_take]; omega
    rcases c with c | c <;> rw [c] at this <;> simp at this
  · intro c; rcases c with c | c; { exact h.1 c }; exact h.2 c
theorem sB {s : T} (h0 : s ≠ []) (h : s.length ≤ 1 ∨ (¬ s.take 2 = [60, 61] ∧ ¬ s.take 2 = [62, 61])) (hc : ((s.getD 0 0).toNat : Int) = 61 ∨ ((s.getD 0 0).toNat : Int) = 60 ∨ ((s.getD 0 0).toNat : Int) = 62 ∨ ((s.getD 0 0).toNat : Int) = 94 ∨ ((s.getD 0 0).toNat : Int) = 126) : signOf s = s.take 1 := by
  rw [signOf, if_neg (not2 h), if_pos]
  rcases hc with c | c | c | c | c
  · exact .inr (.inr (.inl (sign1 h0 c)))
  · exact .inl (sign1 h0 c)
  · exact .inr (.inl (sign1 h0 c))
  · exact .inr (.inr (.inr (.inl (sign1 h0 c))))
  · exact .inr (.inr (.inr (.inr (sign1 h0 c))))
theorem sC {s : T} (h0 : s ≠ []) (h : s.length ≤ 1 ∨ (¬ s.take 2 = [60, 61] ∧ ¬ s.take 2 = [62, 61])) (hc : ¬ ((s.getD 0 0).toNat : Int) = 61 ∧ ¬ ((s.getD 0 0).toNat : Int) = 60 ∧ ¬ ((s.getD 0 0).toNat : Int) = 62 ∧ ¬ ((s.getD 0 0).toNat : Int) = 94 ∧ ¬ ((s.getD 0 0).toNat : Int) = 126) : signOf s = [] := by
  rw [signOf, if_neg (not2 h), if_neg]
  rintro (c | c | c | c | c)
  · exact sign1n (c := 60) h0 hc.2.1 c
  · exact sign1n (c := 62) h0 hc.2.2.1 c
  · exact sign1n (c := 61) h0 hc.1 c
  · exact sign1n (c := 94) h0 hc.2.2.2.1 c
  · exact sign1n (c := 126) h0 hc.2.2.2.2 c
theorem bdCells {s : T} {a b c : Int} {p : Value} (hp : p.oneCell' = true) : ∀ z ∈ (#[vs s, .int .i64 a, .int .i64 b, .int .i64 c, p] : Array Value).toList, z.oneCell' = true := by
  intro z hz
  simp at hz
  rcases hz with rfl | rfl | rfl | rfl | rfl <;> first | rfl | exact hp


set_option maxHeartbeats 4000000 in
theorem refBounds (s : T) (h0 : s ≠ []) (hl : s.length ≤ 1000000) (w : World) : Calls Try.prog 43 #[vs s] w fun e w' => K0 w w' ∧ ∃ p, e = .returned (.tuple #[p, .bool (boundsB s).isSome]) ∧ (∀ l, boundsB s = some l → BdsNew w.heap.size w' p l) := by
  have hpos : 0 < s.length := List.length_pos_iff.2 h0
  refine H.enter Try.func43 Try.ntmps43 rfl rfl ?_; dsimp only [H.args]
  repeat' (first | (refine CL.seq ?_) | (refine CL.region ?_) | (refine Gt.nil ?_; refine RW.nilw [0, 2, 3, 4, 5, 6, 7, 8, 9, 25, 60, 63, 64, 69, 73, 76, 83] ?_; dsimp only [H.keep, H.look, H.Fr.put, Nat.beq]) | (refine Gt.assign ?_; refine RW.y (Y.assign rfl) rfl ?_))
  refine CL.cutS [0, 2, 3, 4] (fun vals wr => vals = [vs s, .slice none 0 0, .bool false, vs (signOf s)] ∧ wr = w) (by simp) ?_ ?_
  · repeat' (first | (refine CL.seq ?_) | (refine CL.region ?_) | (refine CL.skip ?_) | (refine CL.condP rfl (fun _ => ?_) (fun _ => ?_) <;> try (exfalso; omega)) | (refine CL.condT rfl ?_) | (refine CL.condF rfl ?_) | (refine CL.block ?_) | (refine CL.done ?_) | (refine Nm.block ?_) | (refine Nm.then ?_) | (refine Gt.nil ?_; refine RW.nilw [0, 2, 3, 4, 5, 6, 7, 8, 9, 25, 60, 63, 64, 69, 73, 76, 83] ?_; dsimp only [H.keep, H.look, H.Fr.put, Nat.beq]) | (refine Gt.assign ?_; refine RW.y (Y.assign rfl) rfl ?_) | (refine Gt.guard ?_; first | (refine RW.part rfl rfl rfl (fun _ => ?_) (fun _ => ?_) <;> try (exfalso; omega)) | (refine RW.on rfl rfl rfl ?_) | (refine RW.off1 rfl rfl rfl rfl rfl ?_) | (refine RW.offu rfl rfl rfl rfl ?_)) | (refine Gt.move ?_; refine RW.y (Y.move rfl) rfl ?_) | (refine Gt.pick ?_; first | (refine RW.y (Y.pickT rfl rfl) rfl ?_) | (refine RW.y (Y.pickF rfl rfl) rfl ?_)) | (refine Gt.eql ?_; first | (refine RW.y (Y.eqs rfl rfl) rfl ?_) | (refine RW.y (Y.eqi rfl rfl) rfl ?_)) | (refine Gt.index ?_; refine RW.y (Y.idxs rfl rfl (by omega) (by omega)) rfl ?_) | (refine Gt.slice ?_; (refine RW.y (Y.cuth rfl rfl (by omega) (by omega)) rfl ?_)) | (refine Gt.gtr ?_; refine RW.y (Y.gtr rfl rfl) rfl ?_) | (refine Gt.len ?_; refine RW.y (Y.lens rfl) rfl ?_))
    all_goals first
      | (refine ⟨_, rfl, rfl, rfl, ?_, rfl⟩; rw [sA (s := s) (by first | exact .inl (by assumption) | exact .inr (by assumption))] <;> try rfl)
      | (refine ⟨_, rfl, rfl, rfl, ?_, rfl⟩; rw [sB h0 (by first | exact .inl (by omega) | exact .inr ⟨by assumption, by assumption⟩) (by first | exact .inl (by assumption) | exact .inr (.inl (by assumption)) | exact .inr (.inr (.inl (by assumption))) | exact .inr (.inr (.inr (.inl (by assumption)))) | exact .inr (.inr (.inr (.inr (by assumption)))))] <;> try rfl)
      | (refine ⟨_, rfl, rfl, rfl, ?_, rfl⟩; rw [sC h0 (by first | exact .inl (by omega) | exact .inr ⟨by assumption, by assumption⟩) ⟨by assumption, by assumption, by assumption, by assumption, by assumption⟩] <;> try rfl)
  · rintro vals wr ⟨rfl, rfl⟩
    dsimp only [List.zip, List.zipWith]
    have hbB : boundsB s = (parseV (cutB 45 (s.drop (signOf s).length))).map (expand (signOf s)) := rfl
    have hgl : (signOf s).length ≤ s.length := by
      rw [signOf]; repeat' split
      all_goals first | (rw [List.length_take]; omega) | simp
    rw [hbB]
    generalize signOf s = g at *
    have hdl : (s.drop g.length).length ≤ 2000000 := by rw [List.length_drop]; omega
    repeat' (first | (refine CL.seq ?_) | (refine CL.region ?_) | (refine Gt.move ?_; refine RW.y (Y.move rfl) rfl ?_) | (refine Gt.slice ?_; (refine RW.y (Y.cutl rfl rfl (by omega) (by omega)) rfl ?_)) | (refine Gt.len ?_; refine RW.y (Y.lens rfl) rfl ?_))
    refine RW.fn rfl rfl ((versionOfN _ (by rw [Int.toNat_natCast]; exact hdl) wr).mono ?_)
    rw [Int.toNat_natCast]
    rintro e w2 ⟨hk2, V, rfl, hV⟩
    obtain ⟨p, rfl, hp1, hp, hpl⟩ := verN hV
    have hz2 := hk2.size
    cases hpv : parseV (cutB 45 (s.drop g.length)) with
    | none =>
      rw [hpv] at hp
      dsimp only [verR, Option.map_none] at hp ⊢
      repeat' (first | (refine Gt.move ?_; refine RW.y (Y.move rfl) rfl ?_) | (refine Gt.extract ?_; refine RW.y (Y.extract rfl rfl) rfl ?_))
      refine RW.varN rfl rfl rfl (verCells hp1) rfl (fun w3 hb3 hk3 hlt3 => ?_)
      repeat' (first | (refine CL.seq ?_) | (refine CL.region ?_) | (refine CL.condP rfl (fun _ => ?_) (fun _ => ?_) <;> try (exfalso; omega)) | (refine CL.ret ?_) | (refine Gt.nil ?_; refine RW.nilw [0, 2, 3, 4, 5, 6, 7, 8, 9, 25, 60, 63, 64, 69, 73, 76, 83] ?_; dsimp only [H.keep, H.look, H.Fr.put, Nat.beq]) | (refine Gt.assign ?_; refine RW.y (Y.assign rfl) rfl ?_) | (refine Gt.move ?_; refine RW.y (Y.move rfl) rfl ?_) | (refine Gt.neq ?_; refine RW.y (Y.nei rfl rfl) rfl ?_))
      exact FQ.two rfl rfl rfl rfl ⟨hk2.trans0 hk3, _, rfl, fun l hl => by cases hl⟩
    | some v =>
      rw [hpv] at hp
      have hi64 := parse_i64 hpv
      have hpp := parse_parts hpv
      dsimp only [verR, Option.map_some] at hp ⊢
      repeat' (first | (refine Gt.move ?_; refine RW.y (Y.move rfl) rfl ?_) | (refine Gt.extract ?_; refine RW.y (Y.extract rfl rfl) rfl ?_))
      refine RW.varN rfl rfl rfl (verCells hp1) rfl (fun w3 hb3 hk3 hlt3 => ?_)
      repeat' (first | (refine CL.seq ?_) | (refine CL.region ?_) | (refine CL.skip ?_) | (refine CL.condP rfl (fun _ => ?_) (fun _ => ?_) <;> try (exfalso; omega)) | (refine Gt.nil ?_; refine RW.nilw [0, 2, 3, 4, 5, 6, 7, 8, 9, 25, 60, 63, 64, 69, 73, 76, 83] ?_; dsimp only [H.keep, H.look, H.Fr.put, Nat.beq]) | (refine Gt.assign ?_; refine RW.y (Y.assign rfl) rfl ?_) | (refine Gt.move ?_; refine RW.y (Y.move rfl) rfl ?_) | (refine Gt.load ?_; (refine RW.y (Y.loadBlock rfl (by assumption) rfl) rfl ?_)) | (refine Gt.neq ?_; refine RW.y (Y.nei rfl rfl) rfl ?_) | (refine RW.y (Y.build (ps := [(0, _), (1, _)]) rfl rfl) rfl ?_))
      refine RW.varN (u := #[vs [62, 61], .int .i64 v.a, .int .i64 v.b, .int .i64 v.c, p]) rfl rfl rfl (bdCells hp1) rfl (fun w4 hb4 hk4 hlt4 => ?_)
      have hb3' := hk4.at0 hb3
      repeat' (first | (refine CL.seq ?_) | (refine CL.region ?_) | (refine CL.skip ?_) | (refine CL.condP rfl (fun _ => ?_) (fun _ => ?_) <;> try (exfalso; omega)) | (refine CL.block ?_) | (refine CL.done ?_) | (refine Nm.block ?_) | (refine Gt.nil ?_; refine RW.nilw [0, 2, 3, 4, 5, 6, 7, 8, 9, 25, 60, 63, 64, 69, 73, 76, 83] ?_; dsimp only [H.keep, H.look, H.Fr.put, Nat.beq]) | (refine Gt.assign ?_; refine RW.y (Y.assign rfl) rfl ?_) | (refine Gt.move ?_; refine RW.y (Y.move rfl) rfl ?_) | (refine Gt.load ?_; first | (refine RW.y (Y.loadB rfl (by assumption) rfl) rfl ?_) | (refine RW.y (Y.loadBlock rfl (by assumption) rfl) rfl ?_)) | (refine Gt.eql ?_; (refine RW.y (Y.eqs rfl rfl) rfl ?_)) | (refine Gt.gtr ?_; refine RW.y (Y.gtr rfl rfl) rfl ?_) | (refine Gt.fieldAddr ?_; refine RW.y (Y.fieldAddr rfl (by rfl)) rfl ?_) | (refine RW.y (Y.build (ps := [(0, _), (1, _)]) rfl rfl) rfl ?_))
      · have hg : g = [] := by assumption
        have he : expand g v = [⟨[61], v⟩] := by rw [expand, if_pos hg]
        rw [he]
        refine RW.buildL (ps := [(0, _)]) (l := [.agg #[vs [61], .int .i64 v.a, .int .i64 v.b, .int .i64 v.c, p]]) rfl rfl rfl (cells5a rfl) rfl rfl (fun w5 hb5 hk5 hlt5 => ?_)
        repeat' (first | (refine CL.ret ?_) | (refine Rt.block ?_) | (refine Gt.nil ?_; refine RW.nilw [0, 2, 3, 4, 5, 6, 7, 8, 9, 25, 60, 63, 64, 69, 73, 76, 83] ?_; dsimp only [H.keep, H.look, H.Fr.put, Nat.beq]) | (refine Gt.assign ?_; refine RW.y (Y.assign rfl) rfl ?_))
        refine FQ.two rfl rfl rfl rfl ⟨((hk2.trans0 hk3).trans0 hk4).trans0 hk5, _, rfl, fun l hl => ?_⟩
        obtain rfl := Option.some.inj hl
        exact BdsNew.one (q := p) (sl_new hb5 rfl (by decide)) (by have := hk3.size; have := hk4.size; omega) (hp.keep0 ((hk3.trans0 hk4).trans0 hk5)) hpl
      · have hg : g = [94] := by assumption
        have he : expand g v = [⟨[62, 61], v⟩, ⟨[60], nextV v 0⟩] := by rw [expand, if_neg (by assumption), if_pos hg, if_pos (by assumption)]
        rw [he]
        refine CL.draw (fun w' => K0 w4 w') (by kernel_rfl) (fun w5 hheap hk5 => ?_)
        have hS : K0 w4 w5 := hk5
        skip
        refine AW.take 0 rfl (by kernel_rfl) (by kernel_rfl) (by kernel_rfl) rfl (by assumption) (fun w hS => Y.loadBlock rfl (hS.at0 hb4) rfl) ?_
        refine AW.take 1 rfl (by kernel_rfl) (by kernel_rfl) (by kernel_rfl) rfl (by assumption) (fun w hS => Y.loadBlock rfl (hS.at0 hb3') rfl) ?_
        refine AW.take 2 rfl (by kernel_rfl) (by kernel_rfl) (by kernel_rfl) rfl (by assumption) (fun w hS => Y.move rfl) ?_
        refine AW.next 3 rfl (by kernel_rfl) ?_
        refine RW.fn rfl rfl ((refNext _ v _ w5 ⟨p, rfl, hp.keep0 ((hk3.trans0 hk4).trans0 hk5)⟩ hi64).mono ?_)
        rintro e w6 ⟨hk6, rfl⟩
        refine RW.nil (Nm.then (rebase0 hS hk6 fun hS => ?_))
        refine AW.take 4 rfl (by kernel_rfl) (by kernel_rfl) (by kernel_rfl) rfl (by assumption) (fun w hS => Y.build (ps := [(0, _), (1, _)]) (c := #[vs [60], .int .i64 (nextV v _).a, .int .i64 (nextV v _).b, .int .i64 (nextV v _).c, .slice none 0 0]) rfl rfl) ?_
        refine AW.next 5 rfl (by kernel_rfl) ?_
        refine RW.buildL (ps := [(0, _), (1, _)]) (l := [_, _]) rfl rfl rfl (cells5 rfl rfl) rfl rfl (fun w7 hb7 hk7 hlt7 => ?_)
        refine RW.nil (Nm.then (rebase0 hS hk7 fun hS => ?_))
        refine AW.take 6 rfl (by kernel_rfl) (by kernel_rfl) (by kernel_rfl) rfl (by assumption) (fun w hS => Y.assign rfl) ?_
        refine AW.take 7 rfl (by kernel_rfl) (by kernel_rfl) (by kernel_rfl) rfl (by assumption) (fun w hS => Y.assign rfl) ?_
        refine AW.donew [2, 3] (by kernel_rfl) ?_
        dsimp only [H.keep, H.look, H.Fr.put, Nat.beq]
        repeat' (first | (refine CL.ret ?_) | (refine Rt.block ?_))
        refine FQ.two rfl rfl rfl rfl ⟨((((hk2.trans0 hk3).trans0 hk4).trans0 hk5).trans0 hk6).trans0 hk7, _, rfl, fun l hl => ?_⟩
        obtain rfl := Option.some.inj hl
        have hsl : Sl w7 5 (.slice (some ⟨w6.heap.size, 0, none⟩) 2 2) 2 _ := sl_new hb7 rfl (by decide)
        exact BdsNew.two (q := p) (r := .slice none 0 0) hsl (by have := hk3.size; have := hk4.size; have := hk5.size; have := hk6.size; omega) (hp.keep0 ((((hk3.trans0 hk4).trans0 hk5).trans0 hk6).trans0 hk7)) hpl (by rw [next_pre]; exact Sl.nil _ _) nolive
      · have hg : g = [94] := by assumption
        have he : expand g v = [⟨[62, 61], v⟩, ⟨[60], nextV v 1⟩] := by rw [expand, if_neg (by assumption), if_pos hg, if_neg (by assumption), if_pos (by assumption)]
        rw [he]
        refine CL.draw (fun w' => K0 w4 w') (by kernel_rfl) (fun w5 hheap hk5 => ?_)
        have hS : K0 w4 w5 := hk5
        skip
        refine AW.take 0 rfl (by kernel_rfl) (by kernel_rfl) (by kernel_rfl) rfl (by assumption) (fun w hS => Y.loadBlock rfl (hS.at0 hb4) rfl) ?_
        refine AW.take 1 rfl (by kernel_rfl) (by kernel_rfl) (by kernel_rfl) rfl (by assumption) (fun w hS => Y.loadBlock rfl (hS.at0 hb3') rfl) ?_
        refine AW.take 2 rfl (by kernel_rfl) (by kernel_rfl) (by kernel_rfl) rfl (by assumption) (fun w hS => Y.move rfl) ?_
        refine AW.next 3 rfl (by kernel_rfl) ?_
        refine RW.fn rfl rfl ((refNext _ v _ w5 ⟨p, rfl, hp.keep0 ((hk3.trans0 hk4).trans0 hk5)⟩ hi64).mono ?_)
        rintro e w6 ⟨hk6, rfl⟩
        refine RW.nil (Nm.then (rebase0 hS hk6 fun hS => ?_))
        refine AW.take 4 rfl (by kernel_rfl) (by kernel_rfl) (by kernel_rfl) rfl (by assumption) (fun w hS => Y.build (ps := [(0, _), (1, _)]) (c := #[vs [60], .int .i64 (nextV v _).a, .int .i64 (nextV v _).b, .int .i64 (nextV v _).c, .slice none 0 0]) rfl rfl) ?_
        refine AW.next 5 rfl (by kernel_rfl) ?_
        refine RW.buildL (ps := [(0, _), (1, _)]) (l := [_, _]) rfl rfl rfl (cells5 rfl rfl) rfl rfl (fun w7 hb7 hk7 hlt7 => ?_)
        refine RW.nil (Nm.then (rebase0 hS hk7 fun hS => ?_))
        refine AW.take 6 rfl (by kernel_rfl) (by kernel_rfl) (by kernel_rfl) rfl (by assumption) (fun w hS => Y.assign rfl) ?_
        refine AW.take 7 rfl (by kernel_rfl) (by kernel_rfl) (by kernel_rfl) rfl (by assumption) (fun w hS => Y.assign rfl) ?_
        refine AW.donew [2, 3] (by kernel_rfl) ?_
        dsimp only [H.keep, H.look, H.Fr.put, Nat.beq]
        repeat' (first | (refine CL.ret ?_) | (refine Rt.block ?_))
        refine FQ.two rfl rfl rfl rfl ⟨((((hk2.trans0 hk3).trans0 hk4).trans0 hk5).trans0 hk6).trans0 hk7, _, rfl, fun l hl => ?_⟩
        obtain rfl := Option.some.inj hl
        have hsl : Sl w7 5 (.slice (some ⟨w6.heap.size, 0, none⟩) 2 2) 2 _ := sl_new hb7 rfl (by decide)
        exact BdsNew.two (q := p) (r := .slice none 0 0) hsl (by have := hk3.size; have := hk4.size; have := hk5.size; have := hk6.size; omega) (hp.keep0 ((((hk3.trans0 hk4).trans0 hk5).trans0 hk6).trans0 hk7)) hpl (by rw [next_pre]; exact Sl.nil _ _) nolive
      · have hg : g = [94] := by assumption
        have he : expand g v = [⟨[62, 61], v⟩, ⟨[60], nextV v 2⟩] := by rw [expand, if_neg (by assumption), if_pos hg, if_neg (by assumption), if_neg (by assumption)]
        rw [he]
        refine CL.draw (fun w' => K0 w4 w') (by kernel_rfl) (fun w5 hheap hk5 => ?_)
        have hS : K0 w4 w5 := hk5
        skip
        refine AW.take 0 rfl (by kernel_rfl) (by kernel_rfl) (by kernel_rfl) rfl (by assumption) (fun w hS => Y.loadBlock rfl (hS.at0 hb4) rfl) ?_
        refine AW.take 1 rfl (by kernel_rfl) (by kernel_rfl) (by kernel_rfl) rfl (by assumption) (fun w hS => Y.loadBlock rfl (hS.at0 hb3') rfl) ?_
        refine AW.take 2 rfl (by kernel_rfl) (by kernel_rfl) (by kernel_rfl) rfl (by assumption) (fun w hS => Y.move rfl) ?_
        refine AW.next 3 rfl (by kernel_rfl) ?_
        refine RW.fn rfl rfl ((refNext _ v _ w5 ⟨p, rfl, hp.keep0 ((hk3.trans0 hk4).trans0 hk5)⟩ hi64).mono ?_)
        rintro e w6 ⟨hk6, rfl⟩
        refine RW.nil (Nm.then (rebase0 hS hk6 fun hS => ?_))
        refine AW.take 4 rfl (by kernel_rfl) (by kernel_rfl) (by kernel_rfl) rfl (by assumption) (fun w hS => Y.build (ps := [(0, _), (1, _)]) (c := #[vs [60], .int .i64 (nextV v _).a, .int .i64 (nextV v _).b, .int .i64 (nextV v _).c, .slice none 0 0]) rfl rfl) ?_
        refine AW.next 5 rfl (by kernel_rfl) ?_
        refine RW.buildL (ps := [(0, _), (1, _)]) (l := [_, _]) rfl rfl rfl (cells5 rfl rfl) rfl rfl (fun w7 hb7 hk7 hlt7 => ?_)
        refine RW.nil (Nm.then (rebase0 hS hk7 fun hS => ?_))
        refine AW.take 6 rfl (by kernel_rfl) (by kernel_rfl) (by kernel_rfl) rfl (by assumption) (fun w hS => Y.assign rfl) ?_
        refine AW.take 7 rfl (by kernel_rfl) (by kernel_rfl) (by kernel_rfl) rfl (by assumption) (fun w hS => Y.assign rfl) ?_
        refine AW.donew [2, 3] (by kernel_rfl) ?_
        dsimp only [H.keep, H.look, H.Fr.put, Nat.beq]
        repeat' (first | (refine CL.ret ?_) | (refine Rt.block ?_))
        refine FQ.two rfl rfl rfl rfl ⟨((((hk2.trans0 hk3).trans0 hk4).trans0 hk5).trans0 hk6).trans0 hk7, _, rfl, fun l hl => ?_⟩
        obtain rfl := Option.some.inj hl
        have hsl : Sl w7 5 (.slice (some ⟨w6.heap.size, 0, none⟩) 2 2) 2 _ := sl_new hb7 rfl (by decide)
        exact BdsNew.two (q := p) (r := .slice none 0 0) hsl (by have := hk3.size; have := hk4.size; have := hk5.size; have := hk6.size; omega) (hp.keep0 ((((hk3.trans0 hk4).trans0 hk5).trans0 hk6).trans0 hk7)) hpl (by rw [next_pre]; exact Sl.nil _ _) nolive
      · have hg : g = [126] := by assumption
        have he : expand g v = [⟨[62, 61], v⟩, ⟨[60], nextV v 1⟩] := by rw [expand, if_neg (by assumption), if_neg (by assumption), if_pos hg]
        rw [he]
        refine CL.draw (fun w' => K0 w4 w') (by kernel_rfl) (fun w5 hheap hk5 => ?_)
        have hS : K0 w4 w5 := hk5
        skip
        refine AW.take 0 rfl (by kernel_rfl) (by kernel_rfl) (by kernel_rfl) rfl (by assumption) (fun w hS => Y.loadBlock rfl (hS.at0 hb4) rfl) ?_
        refine AW.take 1 rfl (by kernel_rfl) (by kernel_rfl) (by kernel_rfl) rfl (by assumption) (fun w hS => Y.loadBlock rfl (hS.at0 hb3') rfl) ?_
        refine AW.next 2 rfl (by kernel_rfl) ?_
        refine RW.fn rfl rfl ((refNext _ v _ w5 ⟨p, rfl, hp.keep0 ((hk3.trans0 hk4).trans0 hk5)⟩ hi64).mono ?_)
        rintro e w6 ⟨hk6, rfl⟩
        refine RW.nil (Nm.then (rebase0 hS hk6 fun hS => ?_))
        refine AW.take 3 rfl (by kernel_rfl) (by kernel_rfl) (by kernel_rfl) rfl (by assumption) (fun w hS => Y.build (ps := [(0, _), (1, _)]) (c := #[vs [60], .int .i64 (nextV v _).a, .int .i64 (nextV v _).b, .int .i64 (nextV v _).c, .slice none 0 0]) rfl rfl) ?_
        refine AW.next 4 rfl (by kernel_rfl) ?_
        refine RW.buildL (ps := [(0, _), (1, _)]) (l := [_, _]) rfl rfl rfl (cells5 rfl rfl) rfl rfl (fun w7 hb7 hk7 hlt7 => ?_)
        refine RW.nil (Nm.then (rebase0 hS hk7 fun hS => ?_))
        refine AW.take 5 rfl (by kernel_rfl) (by kernel_rfl) (by kernel_rfl) rfl (by assumption) (fun w hS => Y.assign rfl) ?_
        refine AW.take 6 rfl (by kernel_rfl) (by kernel_rfl) (by kernel_rfl) rfl (by assumption) (fun w hS => Y.assign rfl) ?_
        refine AW.donew [2, 3] (by kernel_rfl) ?_
        dsimp only [H.keep, H.look, H.Fr.put, Nat.beq]
        repeat' (first | (refine CL.ret ?_) | (refine Rt.block ?_))
        refine FQ.two rfl rfl rfl rfl ⟨((((hk2.trans0 hk3).trans0 hk4).trans0 hk5).trans0 hk6).trans0 hk7, _, rfl, fun l hl => ?_⟩
        obtain rfl := Option.some.inj hl
        have hsl : Sl w7 5 (.slice (some ⟨w6.heap.size, 0, none⟩) 2 2) 2 _ := sl_new hb7 rfl (by decide)
        exact BdsNew.two (q := p) (r := .slice none 0 0) hsl (by have := hk3.size; have := hk4.size; have := hk5.size; have := hk6.size; omega) (hp.keep0 ((((hk3.trans0 hk4).trans0 hk5).trans0 hk6).trans0 hk7)) hpl (by rw [next_pre]; exact Sl.nil _ _) nolive
      · have he : expand g v = [⟨g, v⟩] := by rw [expand, if_neg (by assumption), if_neg (by assumption), if_neg (by assumption)]
        rw [he]
        refine RW.buildL (ps := [(0, _)]) (l := [.agg #[vs g, .int .i64 v.a, .int .i64 v.b, .int .i64 v.c, p]]) rfl rfl rfl (cells5a rfl) rfl rfl (fun w5 hb5 hk5 hlt5 => ?_)
        repeat' (first | (refine CL.ret ?_) | (refine Gt.nil ?_; refine RW.nilw [0, 2, 3, 4, 5, 6, 7, 8, 9, 25, 60, 63, 64, 69, 73, 76, 83] ?_; dsimp only [H.keep, H.look, H.Fr.put, Nat.beq]) | (refine Gt.assign ?_; refine RW.y (Y.assign rfl) rfl ?_))
        refine FQ.two rfl rfl rfl rfl ⟨((hk2.trans0 hk3).trans0 hk4).trans0 hk5, _, rfl, fun l hl => ?_⟩
        obtain rfl := Option.some.inj hl
        exact BdsNew.one (q := p) (sl_new hb5 rfl (by decide)) (by have := hk3.size; have := hk4.size; omega) (hp.keep0 ((hk3.trans0 hk4).trans0 hk5)) hpl
end Go.Proofs.Ytlbegmpikggmlaa.Sp

namespace Go.Proofs.Ytlbegmpikggmlaa.Sp
open Go.RowKit H S Ve

abbrev orT : TypeId := 106
def BdsOn (A : Nat → Prop) (w : World) (p : Value) (l : List Bd) : Prop := ∃ L : List (Bd × Value), L.map (·.1) = l ∧ Sl w 5 p L.length (L.flatMap bdC) ∧ (∀ g, live p = some g → A g) ∧ ∀ x ∈ L, Sl w 1 x.2 x.1.v.pre.length (sv x.1.v.pre) ∧ ∀ g, live x.2 = some g → A g
theorem BdsNew.on {B : Nat} {w : World} {p : Value} {l : List Bd} (h : BdsNew B w p l) : BdsOn (fun g => B ≤ g) w p l := h
theorem BdsOn.at {A : Nat → Prop} {w : World} {p : Value} {l : List Bd} (h : BdsOn A w p l) : BdsAt w p l := by
  obtain ⟨L, h1, h2, _, h3⟩ := h; exact ⟨L, h1, h2, fun x hx => (h3 x hx).1⟩
theorem BdsOn.mono {A A' : Nat → Prop} {w : World} {p : Value} {l : List Bd} (h : BdsOn A w p l) (hA : ∀ g, g < w.heap.size → A g → A' g) : BdsOn A' w p l := by
  obtain ⟨L, h1, h2, h3, h4⟩ := h
  exact ⟨L, h1, h2, fun g hg => hA g (h2.lt hg) (h3 g hg), fun x hx => ⟨(h4 x hx).1, fun g hg => hA g ((h4 x hx).1.lt hg) ((h4 x hx).2 g hg)⟩⟩
theorem BdsOn.keep {A S : Nat → Prop} {w w' : World} {p : Value} {l : List Bd} (h : BdsOn A w p l) (k : Kept S w w') (hS : ∀ g, g < w.heap.size → A g → ¬ S g) : BdsOn A w' p l := by
  obtain ⟨L, h1, h2, h3, h4⟩ := h
  exact ⟨L, h1, h2.keep k fun g hg => hS g (h2.lt hg) (h3 g hg), h3, fun x hx => ⟨(h4 x hx).1.keep k fun g hg => hS g ((h4 x hx).1.lt hg) ((h4 x hx).2 g hg), (h4 x hx).2⟩⟩
theorem BdsOn.one {A : Nat → Prop} {w : World} {p : Value} {l : List Bd} (h : BdsOn A w p l) : p.oneCell' = true := by
  obtain ⟨L, h1, h2, _⟩ := h; exact h2.one

/-- A row of bounds that grows. -/
def BI (w : World) (B : Nat) (u : Value) (l : List Bd) : Prop := ∃ L : List (Bd × Value), L.map (·.1) = l ∧ w.ownsRow B bdT' 5 u L.length (L.flatMap bdC) ∧ ∀ x ∈ L, Sl w 1 x.2 x.1.v.pre.length (sv x.1.v.pre) ∧ ∀ g, live x.2 = some g → B ≤ g ∧ u.ownBlock ≠ some g
theorem BI.nil (w : World) (B : Nat) : BI w B (.slice none 0 0) [] := ⟨[], rfl, World.ownsRow_nil _ _ _ _, fun x hx => by cases hx⟩
theorem BI.keep {S : Nat → Prop} {w w' : World} {B : Nat} {u : Value} {l : List Bd} (h : BI w B u l) (k : Kept S w w') (hS : ∀ g, B ≤ g → g < w.heap.size → ¬ S g) : BI w' B u l := by
  obtain ⟨L, h1, h2, h3⟩ := h
  exact ⟨L, h1, own_kept h2 k fun g hg => hS g (h2.lt g hg).1 (h2.lt g hg).2, fun x hx => ⟨(h3 x hx).1.keep k fun g hg => hS g ((h3 x hx).2 g hg).1 ((h3 x hx).1.lt hg), (h3 x hx).2⟩⟩
theorem BI.new {w : World} {B : Nat} {u : Value} {l : List Bd} (h : BI w B u l) : BdsNew B w u l := by
  obtain ⟨L, h1, h2, h3⟩ := h
  exact ⟨L, h1, Sl.of_own h2, fun g hg => (h2.lt g (live_own hg)).1, fun x hx => ⟨(h3 x hx).1, fun g hg => ((h3 x hx).2 g hg).1⟩⟩
theorem BI.own {w : World} {B : Nat} {u : Value} {l : List Bd} (h : BI w B u l) : ∀ g, u.ownBlock = some g → B ≤ g ∧ g < w.heap.size := by
  obtain ⟨L, h1, h2, h3⟩ := h
  exact fun g hg => h2.lt g hg
theorem BI.len {w : World} {B : Nat} {u : Value} {l : List Bd} (h : BI w B u l) : ∃ xs, w.ownsRow B bdT' 5 u l.length xs := by
  obtain ⟨L, rfl, h2, h3⟩ := h
  exact ⟨_, by rw [List.length_map]; exact h2⟩
theorem bdC_one {x : Bd × Value} (h : x.2.oneCell' = true) : ∀ z ∈ bdC x, z.oneCell' = true := by
  intro z hz
  simp [bdC] at hz
  rcases hz with rfl | rfl | rfl | rfl | rfl <;> first | rfl | exact h
section
variable {M : Option (Option Nat)} {P : Program} {ops : Array Oper} {Q : Post} {rest : List Oper} {f : Fr} {w : World} {d : Nat} {ty : TypeId} {pos : String} {af : Array Edge}
/-- append of bounds that were laid behind C. -/
theorem RW.appB {t : TypeId} {z : Value} {b : Nat} [ht : Und P t (.slice bdT')] [hi : Inf P bdT' z 5 b] {s x : Operand} {u vx : Value} (hs : f.ev s = some u) (hx : f.ev x = some vx) (hd : Nat.blt d f.n = true) {B C : Nat} (hz : z.cells.size = 5)
    {l m : List Bd} (h : BI w B u l) (hn : BdsNew C w vx m) (hC : ∀ g, u.ownBlock = some g → g < C) (hBC : B ≤ C) (hl : l.length ≤ 1000000) (hm : m.length ≤ 1000000) (hb : b ≤ 1000) (hB : B ≤ w.heap.size)
    (k : ∀ v' w', BI w' B v' (l ++ m) → Kept (fun k => u.ownBlock = some k) w w' → Lies w u v' → RW M P ops Q rest (f.put d v') w') :
    RW M P ops Q (op1 d (.call { callee := .builtin .append, args := #[s, x], argTypes := #[t, t] }) ty pos af :: rest) f w := by
  obtain ⟨L, rfl, h2, h3⟩ := h
  obtain ⟨K, rfl, g2, g3, g4⟩ := hn
  rw [List.length_map] at hl hm
  have hbb : (L.length + K.length) * b ≤ 2000000 * 1000 := Nat.mul_le_mul (by omega) hb
  refine RW.app hs hx hd hz rfl h2 g2 (fun y hy => ?_) (by omega) (by omega) hB fun v' w' how hk hlies => k v' w' ⟨L ++ K, by simp, ?_, ?_⟩ hk hlies
  · obtain ⟨x, hx, hy⟩ := List.mem_flatMap.1 hy
    exact bdC_one (g4 x hx).1.one y hy
  · rw [List.length_append, List.flatMap_append]; exact how
  · intro x hx
    have hold : Sl w 1 x.2 x.1.v.pre.length (sv x.1.v.pre) ∧ ∀ g, live x.2 = some g → B ≤ g ∧ u.ownBlock ≠ some g := by
      rcases List.mem_append.1 hx with hx | hx
      · exact h3 x hx
      · exact ⟨(g4 x hx).1, fun g hg => ⟨Nat.le_trans hBC ((g4 x hx).2 g hg), fun c => by have := hC g c; have := (g4 x hx).2 g hg; omega⟩⟩
    refine ⟨hold.1.keep hk fun g hg => (hold.2 g hg).2, fun g hg => ⟨(hold.2 g hg).1, fun c => ?_⟩⟩
    rcases hlies g c with e | e
    · exact (hold.2 g hg).2 e
    · have := hold.1.lt hg; omega
end

/-- A row of lists of bounds that grows. -/
def OI (w : World) (B : Nat) (q : Value) (o : List (List Bd)) : Prop := ∃ R : List (List Bd × Value), R.map (·.1) = o ∧ w.ownsRow B orT 1 q R.length (R.map (·.2)) ∧ ∀ x ∈ R, BdsOn (fun g => B ≤ g ∧ q.ownBlock ≠ some g) w x.2 x.1
/-- Lists of bounds in memory; in memory that was not there below B. -/
def OrAt (w : World) (p : Value) (o : List (List Bd)) : Prop := ∃ R : List (List Bd × Value), R.map (·.1) = o ∧ Sl w 1 p R.length (R.map (·.2)) ∧ ∀ x ∈ R, BdsAt w x.2 x.1
def OrNew (B : Nat) (w : World) (p : Value) (o : List (List Bd)) : Prop := ∃ R : List (List Bd × Value), R.map (·.1) = o ∧ Sl w 1 p R.length (R.map (·.2)) ∧ (∀ g, live p = some g → B ≤ g) ∧ ∀ x ∈ R, BdsNew B w x.2 x.1
theorem OrNew.at {B : Nat} {w : World} {p : Value} {o : List (List Bd)} (h : OrNew B w p o) : OrAt w p o := by
  obtain ⟨R, h1, h2, _, h3⟩ := h; exact ⟨R, h1, h2, fun x hx => (h3 x hx).at⟩
theorem OrAt.keep0 {w w' : World} {p : Value} {o : List (List Bd)} (h : OrAt w p o) (k : K0 w w') : OrAt w' p o := by
  obtain ⟨R, h1, h2, h3⟩ := h; exact ⟨R, h1, h2.keep0 k, fun x hx => (h3 x hx).keep0 k⟩
theorem OI.nil (w : World) (B : Nat) : OI w B (.slice none 0 0) [] := ⟨[], rfl, World.ownsRow_nil _ _ _ _, fun x hx => by cases hx⟩
theorem OI.keep {S : Nat → Prop} {w w' : World} {B : Nat} {q : Value} {o : List (List Bd)} (h : OI w B q o) (k : Kept S w w') (hS : ∀ g, B ≤ g → g < w.heap.size → ¬ S g) : OI w' B q o := by
  obtain ⟨R, h1, h2, h3⟩ := h
  exact ⟨R, h1, own_kept h2 k fun g hg => hS g (h2.lt g hg).1 (h2.lt g hg).2, fun x hx => (h3 x hx).keep k fun g hg hA => hS g hA.1 hg⟩
theorem OI.new {w : World} {B : Nat} {q : Value} {o : List (List Bd)} (h : OI w B q o) : OrNew B w q o := by
  obtain ⟨R, h1, h2, h3⟩ := h
  exact ⟨R, h1, Sl.of_own h2, fun g hg => (h2.lt g (live_own hg)).1, fun x hx => (h3 x hx).mono fun g _ h => h.1⟩
theorem OI.own {w : World} {B : Nat} {q : Value} {o : List (List Bd)} (h : OI w B q o) : ∀ g, q.ownBlock = some g → B ≤ g ∧ g < w.heap.size := by
  obtain ⟨R, h1, h2, h3⟩ := h
  exact fun g hg => h2.lt g hg
theorem OI.sl {w : World} {B : Nat} {q : Value} {o : List (List Bd)} (h : OI w B q o) : ∃ xs, Sl w 1 q o.length xs := by
  obtain ⟨R, rfl, h2, h3⟩ := h
  exact ⟨_, by rw [List.length_map]; exact Sl.of_own h2⟩
section
variable {M : Option (Option Nat)} {P : Program} {ops : Array Oper} {Q : Post} {rest : List Oper} {f : Fr} {w : World} {d : Nat} {ty : TypeId} {pos : String} {af : Array Edge}
/-- append of one list of bounds that was laid behind C. -/
theorem RW.appO {t ty1 : TypeId} {d1 : Nat} {pos1 : String} {af1 : Array Edge} {z : Value} {b : Nat} [ht : Und P t (.slice orT)] [hi : Inf P orT z 1 b] {s x : Operand} {q u : Value} (hx : f.ev x = some u) (hs : (f.put d1 (.slice (some ⟨w.heap.size, 0, none⟩) 1 1)).ev s = some q) (hd1 : Nat.blt d1 f.n = true) (hd : Nat.blt d f.n = true) {B C : Nat} (hz : z.cells.size = 1)
    {o : List (List Bd)} {l : List Bd} (h : OI w B q o) (hn : BdsNew C w u l) (hC : ∀ g, q.ownBlock = some g → g < C) (hBC : B ≤ C) (hl : o.length ≤ 1000000) (hb : b ≤ 1000) (hB : B ≤ w.heap.size)
    (k : ∀ v' w', OI w' B v' (o ++ [l]) → Kept (fun k => q.ownBlock = some k) w w' → Lies w q v' → RW M P ops Q rest ((f.put d1 (.slice (some ⟨w.heap.size, 0, none⟩) 1 1)).put d v') w') :
    RW M P ops Q (op1 d1 (.buildSlice t 1 #[(0, x)]) ty1 pos1 af1 :: op1 d (.call { callee := .builtin .append, args := #[s, .tmp d1], argTypes := #[t, t] }) ty pos af :: rest) f w := by
  obtain ⟨R, rfl, h2, h3⟩ := h
  rw [List.length_map] at hl
  have h1u := hn.on.one
  have hcu : u.cells = #[u] := by obtain ⟨L, _, g2, _⟩ := hn; exact g2.cells
  have hbb : (R.length + 1) * b ≤ 1000001 * 1000 := Nat.mul_le_mul (by omega) hb
  refine RW.app1 hx hs hd1 hd h2 hz (by rw [hcu]; rfl) rfl rfl (fun y hy => ?_) hB (by omega) (by omega) fun v' w' how hk hlies => k v' w' ⟨R ++ [(l, u)], by simp, ?_, ?_⟩ hk hlies
  · rw [hcu] at hy; simp at hy; rw [hy]; exact h1u
  · rw [List.length_append, List.map_append]; rw [hcu] at how; exact how
  · intro x hx
    have hold : BdsOn (fun g => B ≤ g ∧ q.ownBlock ≠ some g) w x.2 x.1 := by
      rcases List.mem_append.1 hx with hx | hx
      · exact h3 x hx
      · rw [List.mem_singleton.1 hx]
        exact hn.on.mono fun g _ hg => ⟨Nat.le_trans hBC hg, fun c => by have := hC g c; omega⟩
    have h3' : BdsOn (fun g => (B ≤ g ∧ q.ownBlock ≠ some g) ∧ v'.ownBlock ≠ some g) w x.2 x.1 := hold.mono fun g hlt hA => ⟨hA, fun c => by rcases hlies g c with e | e; { exact hA.2 e }; omega⟩
    exact (h3'.keep hk fun g _ hA => hA.1.2).mono fun g _ hA => ⟨hA.1.1, hA.2⟩
end
end Go.Proofs.Ytlbegmpikggmlaa.Sp

namespace Go.Proofs.Ytlbegmpikggmlaa.Sp
open Go.RowKit H S Ve
attribute [local irreducible] H.CL H.RW H.CW H.Yd H.thenK H.blockQ Go.Calls

abbrev spnT : TypeId := 78
def SpanNew (B : Nat) (w : World) (V : Value) (s : Spn) : Prop := ∃ p, V = .agg #[.bool s.any, p] ∧ OrNew B w p s.or
def SpanAt (w : World) (V : Value) (s : Spn) : Prop := ∃ p, V = .agg #[.bool s.any, p] ∧ OrAt w p s.or
theorem SpanNew.at {B : Nat} {w : World} {V : Value} {s : Spn} (h : SpanNew B w V s) : SpanAt w V s := by obtain ⟨p, h1, h2⟩ := h; exact ⟨p, h1, h2.at⟩
theorem SpanAt.keep0 {w w' : World} {V : Value} {s : Spn} (h : SpanAt w V s) (k : K0 w w') : SpanAt w' V s := by obtain ⟨p, h1, h2⟩ := h; exact ⟨p, h1, h2.keep0 k⟩
theorem OrNew.nil (B : Nat) (w : World) : OrNew B w (.slice none 0 0) [] := ⟨[], rfl, Sl.nil _ _, nolive, fun x hx => by cases hx⟩
theorem spnCells {b : Bool} {p : Value} (hp : p.oneCell' = true) : ∀ z ∈ (#[.bool b, p] : Array Value).toList, z.oneCell' = true := by
  intro z hz
  simp at hz
  rcases hz with rfl | rfl <;> first | rfl | exact hp
theorem star_of {l : List T} (h : l.length = 1) (h2 : l.getD 0 [] = [42]) : l = [[42]] := by
  match l, h with
  | [x], _ => simp at h2; rw [h2]

theorem OrNew.mono {B B' : Nat} {w : World} {p : Value} {o : List (List Bd)} (h : OrNew B w p o) (hB : B' ≤ B) : OrNew B' w p o := by
  obtain ⟨R, h1, h2, h3, h4⟩ := h
  exact ⟨R, h1, h2, fun g hg => Nat.le_trans hB (h3 g hg), fun x hx => (h4 x hx).on.mono fun g _ hg => Nat.le_trans hB hg⟩
theorem bounds_len {s : T} {b : List Bd} (h : boundsB s = some b) : b.length ≤ 2 := by
  rw [boundsB, Option.map_eq_some_iff] at h
  obtain ⟨v, _, rfl⟩ := h
  unfold expand
  repeat' split
  all_goals simp
theorem drop_at (l : List T) (k : Nat) (h : k < l.length) : l.drop k = l.getD k [] :: l.drop (k + 1) := by
  rw [List.drop_eq_getElem_cons h]; simp [List.getD_eq_getElem?_getD, h]

set_option maxHeartbeats 4000000 in
theorem refSpanOf (s : T) (hl : s.length ≤ 1000000) (w : World) : Calls Try.prog 26 #[vs s] w fun e w' => K0 w w' ∧ ∃ V, e = .returned (.tuple #[V, .int .i64 (spanR (spanB s)).2]) ∧ SpanNew w.heap.size w' V (spanR (spanB s)).1 := by
  refine H.enter Try.func26 Try.ntmps26 rfl rfl ?_; dsimp only [H.args]
  repeat' (first | (refine CL.seq ?_) | (refine CL.region ?_))
  refine RW.alloc rfl (fun w1 hb1 hk1 hlt1 => ?_)
  repeat' (first | (refine CL.seq ?_) | (refine CL.region ?_) | (refine Gt.nil ?_; refine RW.nilw [0, 2, 3, 4, 5, 6, 7, 8, 9, 10, 11, 12, 13, 14, 25, 30, 51, 65, 70, 85, 90, 102] ?_; dsimp only [H.keep, H.look, H.Fr.put, Nat.beq]) | (refine Gt.move ?_; refine RW.y (Y.move rfl) rfl ?_) | (refine Gt.assign ?_; refine RW.y (Y.assign rfl) rfl ?_))
  refine RW.fn rfl rfl ((refWords s hl w1).mono ?_)
  rintro e w2 ⟨v2, rfl, how2, hk2⟩
  have hs2 := Sl.of_own how2
  have hbr2 := hk2.at0 hb1
  have hz1 := hk1.size
  have hz2 := hk2.size
  have hK2 : K0 w w2 := hk1.trans0 hk2
  repeat' (first | (refine CL.seq ?_) | (refine Gt.nil ?_; refine RW.nilw [0, 2, 3, 4, 5, 6, 7, 8, 9, 10, 11, 12, 13, 14, 25, 30, 51, 65, 70, 85, 90, 102] ?_; dsimp only [H.keep, H.look, H.Fr.put, Nat.beq]) | (refine Gt.assign ?_; refine RW.y (Y.assign rfl) rfl ?_))
  refine CL.cutS [0, 2, 3, 4, 25] (fun vals wr => vals = [vs s, .pointer (some ⟨w.heap.size, 0, none⟩), .int .i64 0, v2, .bool (decide (wordsB s = [[42]]))] ∧ wr = w2) (by simp) ?_ ?_
  · repeat' (first | (refine CL.region ?_) | (refine CL.done ?_) | (refine Nm.then ?_) | (refine Gt.nil ?_; refine RW.nilw [0, 2, 3, 4, 5, 6, 7, 8, 9, 10, 11, 12, 13, 14, 25, 30, 51, 65, 70, 85, 90, 102] ?_; dsimp only [H.keep, H.look, H.Fr.put, Nat.beq]) | (refine Gt.move ?_; refine RW.y (Y.move rfl) rfl ?_) | (refine Gt.guard ?_; first | (refine RW.part rfl rfl rfl (fun _ => ?_) (fun _ => ?_) <;> try (exfalso; omega)) | (refine RW.on rfl rfl rfl ?_) | (refine RW.off1 rfl rfl rfl rfl rfl ?_)) | (refine Gt.len ?_; (refine RW.y (Y.lenx rfl (by assumption)) rfl ?_)) | (refine Gt.pick ?_; first | (refine RW.y (Y.pickT rfl rfl) rfl ?_) | (refine RW.y (Y.pickF rfl rfl) rfl ?_)) | (refine Gt.idx ?_; (refine RW.elemSOn rfl rfl rfl rfl (by assumption) (by omega) (by omega) rfl rfl rfl ?_)) | (refine Gt.eql ?_; first | (refine RW.y (Y.eqi rfl rfl) rfl ?_) | (refine RW.y (Y.eqs rfl rfl) rfl ?_)))
    · refine ⟨_, rfl, rfl, rfl, ?_, rfl⟩
      rename_i h1
      have he : decide ((wordsB s).getD (Int.toNat 0) [] = [42]) = decide (wordsB s = [[42]]) := by
        refine decide_eq_decide.2 ⟨fun h => star_of (by omega) h, fun h => by rw [h]; rfl⟩
      rw [he]
    · refine ⟨_, rfl, rfl, rfl, ?_, rfl⟩
      rename_i h1
      rw [show decide (wordsB s = [[42]]) = false from decide_eq_false fun h => h1 (by rw [h]; rfl)]
  rintro vals wr ⟨rfl, rfl⟩
  dsimp only [List.zip, List.zipWith]
  repeat' (first | (refine CL.seq ?_) | (refine CL.region ?_) | (refine CL.skip ?_) | (refine CL.condP rfl (fun _ => ?_) (fun _ => ?_) <;> try (exfalso; omega)) | (refine RW.y (Y.build (ps := [(0, _)]) (l := [_]) (c := #[.bool true, .slice none 0 0]) rfl rfl) rfl ?_))
  · rename_i hst
    have hsp : spanB s = some ⟨true, []⟩ := by rw [spanB, if_pos hst]
    rw [hsp]
    simp only [spanR]
    refine RW.storeBlock rfl rfl rfl (spnCells rfl) hbr2 rfl (fun w3 hb3 hk3 => ?_)
    repeat' (first | (refine CL.ret ?_) | (refine Gt.nil ?_; refine RW.nilw [0, 2, 3, 4, 5, 6, 7, 8, 9, 10, 11, 12, 13, 14, 25, 30, 51, 65, 70, 85, 90, 102] ?_; dsimp only [H.keep, H.look, H.Fr.put, Nat.beq]) | (refine Gt.assign ?_; refine RW.y (Y.assign rfl) rfl ?_))
    exact FQ.res (rs := [.cell 2 78, .tmp 3]) (vs := [_, _]) rfl rfl ⟨⟨_, rfl, load_block hb3 rfl⟩, rfl, trivial⟩ rfl (⟨hK2.trans hk3 fun k h => .inr (by rw [h]; exact Nat.le_refl _), _, rfl, _, rfl, OrNew.nil _ _⟩)
  rename_i hst
  refine RW.alloc rfl (fun w3 hb3 hk3 hlt3 => ?_)
  repeat' (first | (refine CL.seq ?_) | (refine CL.region ?_) | (refine CL.block ?_) | (refine Gt.nil ?_; refine RW.nilw [0, 2, 3, 4, 5, 6, 7, 8, 9, 10, 11, 12, 13, 14, 25, 30, 51, 65, 70, 85, 90, 102] ?_; dsimp only [H.keep, H.look, H.Fr.put, Nat.beq]) | (refine Gt.assign ?_; refine RW.y (Y.assign rfl) rfl ?_))
  have hz3 := hk3.size
  have hpad : orB s = ((s.take 0).drop 0 ++ (orB (s.drop 0)).headD []) :: (orB (s.drop 0)).tail := by
    simp only [List.take_zero, List.drop_zero, List.nil_append]
    cases h : orB s with
    | nil => exact absurd h (orB_ne s)
    | cons a r => rfl
  refine CL.loopS [0, 2, 3, 5, 6, 7, 8] (fun m vals wx => ∃ (i j : Nat) (u : Value) (done : List T), vals = [vs s, .pointer (some ⟨w.heap.size, 0, none⟩), .int .i64 0, .pointer (some ⟨wr.heap.size, 0, none⟩), u, .int .i64 (j : Int), .int .i64 (i : Int)] ∧ m = s.length + 2 - i ∧ i ≤ s.length + 2 ∧ done.length ≤ i ∧ wx.ownsRow w3.heap.size strT 1 u done.length (sv done) ∧ K0 w3 wx ∧
      (if i ≤ s.length then j ≤ i ∧ orB s = done ++ ((s.take i).drop j ++ (orB (s.drop i)).headD []) :: (orB (s.drop i)).tail else orB s = done)) (s.length + 2) ⟨_, rfl, 0, 0, _, [], rfl, rfl, by omega, Nat.zero_le _, World.ownsRow_nil _ _ _ _, Kept.refl _ _, by rw [if_pos (Nat.zero_le _)]; exact ⟨Nat.le_refl _, hpad⟩⟩ ?_
  rintro m vals wx ⟨i, j, u, done, rfl, rfl, hi, hdl, how, hkx, hsp⟩
  dsimp only [List.zip, List.zipWith]
  have hzx := hkx.size
  rcases Nat.lt_or_ge s.length i with hgt | hle
  · rw [if_neg (by omega)] at hsp
    have hd : done = orB s := hsp.symm
    subst hd
    have hsu := Sl.of_own how
    have hbrx := hkx.at0 (hk3.at0 hbr2)
    have hb3x := hkx.at0 hb3
    have hK3 : K0 w wx := (hK2.trans0 hk3).trans0 hkx
    have hol := orB_len s
    repeat' (first | (refine CL.seq ?_) | (refine CL.region ?_) | (refine CL.skip ?_) | (refine CL.condP rfl (fun _ => ?_) (fun _ => ?_) <;> try (exfalso; omega)) | (refine CL.block ?_) | (refine CL.exit ?_) | (refine Ex.then ?_) | (refine Ex.hit ?_) | (refine Gt.nil ?_; refine RW.nilw [0, 2, 3, 4, 5, 6, 7, 8, 9, 10, 11, 12, 13, 14, 25, 30, 51, 65, 70, 85, 90, 102] ?_; dsimp only [H.keep, H.look, H.Fr.put, Nat.beq]) | (refine RW.y (Y.build (ps := []) (l := []) (c := #[.bool false, .slice none 0 0]) rfl rfl) rfl ?_) | (refine Gt.move ?_; refine RW.y (Y.move rfl) rfl ?_) | (refine Gt.assign ?_; refine RW.y (Y.assign rfl) rfl ?_) | (refine Gt.len ?_; first | (refine RW.y (Y.lenx rfl (by assumption)) rfl ?_) | (refine RW.y (Y.lens rfl) rfl ?_)) | (refine Gt.gtr ?_; refine RW.y (Y.gtr rfl rfl) rfl ?_) | (refine Gt.leq ?_; refine RW.y (Y.leq rfl rfl) rfl ?_))
    · rename_i h8
      have hsp : spanB s = none := by rw [spanB, if_neg hst, if_neg (by omega)]
      rw [hsp]
      simp only [spanR]
      refine RW.storeBlock rfl rfl rfl (spnCells rfl) hbrx rfl (fun w4 hb4 hk4 => ?_)
      repeat' (first | (refine CL.ret ?_) | (refine Gt.nil ?_; refine RW.nilw [0, 2, 3, 4, 5, 6, 7, 8, 9, 10, 11, 12, 13, 14, 25, 30, 51, 65, 70, 85, 90, 102] ?_; dsimp only [H.keep, H.look, H.Fr.put, Nat.beq]) | (refine Gt.assign ?_; refine RW.y (Y.assign rfl) rfl ?_))
      exact FQ.res (rs := [.cell 2 78, .tmp 3]) (vs := [_, _]) rfl rfl ⟨⟨_, rfl, load_block hb4 rfl⟩, rfl, trivial⟩ rfl (⟨hK3.trans hk4 fun k h => .inr (by rw [h]; exact Nat.le_refl _), _, rfl, _, rfl, OrNew.nil _ _⟩)
    rename_i h8
    have hspB : spanB s = (rdL (orB s) []).map (⟨false, ·⟩) := by rw [spanB, if_neg hst, if_pos (by omega)]
    have hml : ∀ x ∈ orB s, x.length ≤ 1000000 := fun x hx => Nat.le_trans (orB_mem s x hx) hl
    rw [hspB]
    have hul : ∀ g, live u = some g → w3.heap.size ≤ g := fun g hg => (how.lt g (live_own hg)).1
    have hux : ∀ g, live u = some g → g < wx.heap.size := fun g hg => hsu.lt hg
    generalize orB s = l at *
    refine CL.loopS [2, 3, 5, 6, 9] (fun m vals wy => ∃ (k : Nat) (q : Value) (acc : List (List Bd)), vals = [.pointer (some ⟨w.heap.size, 0, none⟩), .int .i64 0, .pointer (some ⟨wr.heap.size, 0, none⟩), u, .int .i64 (k : Int)] ∧ m = l.length - k ∧ k ≤ l.length ∧ acc.length = k ∧ rdL l [] = rdL (l.drop k) acc ∧ OI wy wx.heap.size q acc ∧ wy.heap[w.heap.size]? = some (.cells #[.bool false, .slice none 0 0] spnT (0, 0)) ∧ wy.heap[wr.heap.size]? = some (.cells #[.bool false, q] spnT (0, 0)) ∧ Sl wy 1 u l.length (sv l) ∧ Kept (fun k => k = wr.heap.size) wx wy) l.length ⟨_, rfl, 0, _, [], rfl, rfl, Nat.zero_le _, rfl, rfl, OI.nil _ _, hbrx, hb3x, hsu, Kept.refl _ _⟩ ?_
    rintro m vals wy ⟨k, q, acc, rfl, rfl, hk, hal, hrd, hoi, hbry, hb5y, hsu, hky⟩
    dsimp only [List.zip, List.zipWith]
    have hzy := hky.size
    rcases Nat.lt_or_ge k l.length with hlt | hge
    · repeat' (first | (refine CL.seq ?_) | (refine CL.region ?_) | (refine CL.skip ?_) | (refine CL.condP rfl (fun _ => ?_) (fun _ => ?_) <;> try (exfalso; omega)) | (refine CL.block ?_) | (refine Gt.nil ?_; refine RW.nilw [0, 2, 3, 4, 5, 6, 7, 8, 9, 10, 11, 12, 13, 14, 25, 30, 51, 65, 70, 85, 90, 102] ?_; dsimp only [H.keep, H.look, H.Fr.put, Nat.beq]) | (refine Gt.move ?_; refine RW.y (Y.move rfl) rfl ?_) | (refine Gt.len ?_; (refine RW.y (Y.lenx rfl (by assumption)) rfl ?_)) | (refine Gt.lss ?_; refine RW.y (Y.lss rfl rfl) rfl ?_) | (refine Gt.idx ?_; (refine RW.elemS rfl rfl rfl rfl (by assumption) (by omega) (by omega) ?_)))
      refine RW.fn rfl rfl ((refWords _ (hml _ (by rw [Int.toNat_natCast]; exact getD_mem [] hlt)) wy).mono ?_)
      rw [Int.toNat_natCast]
      rintro e wz ⟨vw, rfl, how, hkz⟩
      have hsw := Sl.of_own how
      have hwl := wordsB_len (l.getD k [])
      have hxl : (l.getD k []).length ≤ 1000000 := hml _ (getD_mem [] hlt)
      have hlB : listB (l.getD k []) = if 1 ≤ (wordsB (l.getD k [])).length ∧ (wordsB (l.getD k [])).length ≤ 8 then rdW (wordsB (l.getD k [])) [] else none := rfl
      rw [drop_at l k hlt, rdL] at hrd
      generalize wordsB (l.getD k []) = wl at *
      have hKz : K0 w wz := (hK3.trans hky fun k h => .inr (by have h' : k = wr.heap.size := h; omega)).trans0 hkz
      have hzz := hkz.size
      have hbz := hkz.at0 hbry
      have hnone : listB (l.getD k []) = none → Option.map (fun x => (⟨false, x⟩ : Spn)) (rdL l []) = none := fun h => by rw [hrd, h]; rfl
      repeat' (first | (refine CL.seq ?_) | (refine CL.region ?_) | (refine CL.skip ?_) | (refine CL.condP rfl (fun _ => ?_) (fun _ => ?_) <;> try (exfalso; omega)) | (refine CL.condT rfl ?_) | (refine CL.block ?_) | (refine Gt.nil ?_; refine RW.nilw [0, 2, 3, 4, 5, 6, 7, 8, 9, 10, 11, 12, 13, 14, 25, 30, 51, 65, 70, 85, 90, 102] ?_; dsimp only [H.keep, H.look, H.Fr.put, Nat.beq]) | (refine RW.y (Y.build (ps := []) (l := []) (c := #[.bool false, .slice none 0 0]) rfl rfl) rfl ?_) | (refine Gt.move ?_; refine RW.y (Y.move rfl) rfl ?_) | (refine Gt.guard ?_; first | (refine RW.part rfl rfl rfl (fun _ => ?_) (fun _ => ?_) <;> try (exfalso; omega)) | (refine RW.on rfl rfl rfl ?_) | (refine RW.off1 rfl rfl rfl rfl rfl ?_)) | (refine Gt.assign ?_; refine RW.y (Y.assign rfl) rfl ?_) | (refine Gt.len ?_; (refine RW.y (Y.lenx rfl (by assumption)) rfl ?_)) | (refine Gt.pick ?_; first | (refine RW.y (Y.pickT rfl rfl) rfl ?_) | (refine RW.y (Y.pickF rfl rfl) rfl ?_)) | (refine Gt.lss ?_; refine RW.y (Y.lss rfl rfl) rfl ?_) | (refine Gt.gtr ?_; refine RW.y (Y.gtr rfl rfl) rfl ?_))
      · rw [hnone (by rw [hlB, if_neg (by omega)])]
        simp only [spanR]
        have hbF := hbz
        have hKF := hKz
        refine RW.storeBlock rfl rfl rfl (spnCells rfl) hbF rfl (fun wq hbq hkq => ?_)
        repeat' (first | (refine CL.ret ?_) | (refine Rt.then ?_) | (refine Rt.block ?_) | (refine Gt.nil ?_; refine RW.nilw [0, 2, 3, 4, 5, 6, 7, 8, 9, 10, 11, 12, 13, 14, 25, 30, 51, 65, 70, 85, 90, 102] ?_; dsimp only [H.keep, H.look, H.Fr.put, Nat.beq]) | (refine Gt.assign ?_; refine RW.y (Y.assign rfl) rfl ?_))
        exact FQ.res (rs := [.cell 2 78, .tmp 3]) (vs := [_, _]) rfl rfl ⟨⟨_, rfl, load_block hbq rfl⟩, rfl, trivial⟩ rfl (⟨hKF.trans hkq fun k h => .inr (by rw [h]; exact Nat.le_refl _), _, rfl, _, rfl, OrNew.nil _ _⟩)
      · rw [hnone (by rw [hlB, if_neg (by omega)])]
        simp only [spanR]
        have hbF := hbz
        have hKF := hKz
        refine RW.storeBlock rfl rfl rfl (spnCells rfl) hbF rfl (fun wq hbq hkq => ?_)
        repeat' (first | (refine CL.ret ?_) | (refine Rt.then ?_) | (refine Rt.block ?_) | (refine Gt.nil ?_; refine RW.nilw [0, 2, 3, 4, 5, 6, 7, 8, 9, 10, 11, 12, 13, 14, 25, 30, 51, 65, 70, 85, 90, 102] ?_; dsimp only [H.keep, H.look, H.Fr.put, Nat.beq]) | (refine Gt.assign ?_; refine RW.y (Y.assign rfl) rfl ?_))
        exact FQ.res (rs := [.cell 2 78, .tmp 3]) (vs := [_, _]) rfl rfl ⟨⟨_, rfl, load_block hbq rfl⟩, rfl, trivial⟩ rfl (⟨hKF.trans hkq fun k h => .inr (by rw [h]; exact Nat.le_refl _), _, rfl, _, rfl, OrNew.nil _ _⟩)
      rw [if_pos (by omega)] at hlB
      refine CL.loopS [2, 3, 5, 6, 9, 10, 11, 12] (fun m vals wv => ∃ (n : Nat) (uu : Value) (bacc : List Bd), vals = [.pointer (some ⟨w.heap.size, 0, none⟩), .int .i64 0, .pointer (some ⟨wr.heap.size, 0, none⟩), u, .int .i64 (k : Int), vw, uu, .int .i64 (n : Int)] ∧ m = wl.length - n ∧ n ≤ wl.length ∧ bacc.length ≤ 2 * n ∧ rdW wl [] = rdW (wl.drop n) bacc ∧ BI wv wz.heap.size uu bacc ∧ K0 wz wv) wl.length ⟨_, rfl, 0, _, [], rfl, rfl, Nat.zero_le _, Nat.le_refl _, rfl, BI.nil _ _, Kept.refl _ _⟩ ?_
      rintro m vals wv ⟨n, uu, bacc, rfl, rfl, hn, hbl, hrw, hbi, hkv⟩
      dsimp only [List.zip, List.zipWith]
      have hzv := hkv.size
      have hswv := hsw.keep0 hkv
      have hbv := hkv.at0 hbz
      have hKv := hKz.trans0 hkv
      rcases Nat.lt_or_ge n wl.length with hnl | hng
      · have hw1 := hwl _ (getD_mem [] hnl)
        repeat' (first | (refine CL.seq ?_) | (refine CL.region ?_) | (refine CL.skip ?_) | (refine CL.condP rfl (fun _ => ?_) (fun _ => ?_) <;> try (exfalso; omega)) | (refine CL.block ?_) | (refine Gt.nil ?_; refine RW.nilw [0, 2, 3, 4, 5, 6, 7, 8, 9, 10, 11, 12, 13, 14, 25, 30, 51, 65, 70, 85, 90, 102] ?_; dsimp only [H.keep, H.look, H.Fr.put, Nat.beq]) | (refine Gt.move ?_; refine RW.y (Y.move rfl) rfl ?_) | (refine Gt.len ?_; (refine RW.y (Y.lenx rfl (by assumption)) rfl ?_)) | (refine Gt.lss ?_; refine RW.y (Y.lss rfl rfl) rfl ?_) | (refine Gt.idx ?_; (refine RW.elemS rfl rfl rfl rfl (by assumption) (by omega) (by omega) ?_)))
        refine RW.fn rfl rfl ((refBounds _ (by rw [Int.toNat_natCast]; exact hw1.2) (by rw [Int.toNat_natCast]; omega) wv).mono ?_)
        rw [Int.toNat_natCast]
        rintro e w5 ⟨hk5, p, rfl, hp⟩
        rw [drop_at wl n hnl, rdW] at hrw
        have hz5 := hk5.size
        cases hbd : boundsB (wl.getD n []) with
        | none =>
          rw [hbd] at hrw
          repeat' (first | (refine CL.seq ?_) | (refine CL.region ?_) | (refine CL.condT rfl ?_) | (refine Gt.nil ?_; refine RW.nilw [0, 2, 3, 4, 5, 6, 7, 8, 9, 10, 11, 12, 13, 14, 25, 30, 51, 65, 70, 85, 90, 102] ?_; dsimp only [H.keep, H.look, H.Fr.put, Nat.beq]) | (refine RW.y (Y.build (ps := []) (l := []) (c := #[.bool false, .slice none 0 0]) rfl rfl) rfl ?_) | (refine Gt.move ?_; refine RW.y (Y.move rfl) rfl ?_) | (refine Gt.assign ?_; refine RW.y (Y.assign rfl) rfl ?_) | (refine Gt.extract ?_; refine RW.y (Y.extract rfl rfl) rfl ?_) | (refine Gt.not ?_; (refine RW.y (Y.notb rfl) rfl ?_)))
          rw [hnone (by rw [hlB, hrw])]
          simp only [spanR]
          have hbF := hk5.at0 hbv
          have hKF := hKv.trans0 hk5
          refine RW.storeBlock rfl rfl rfl (spnCells rfl) hbF rfl (fun wq hbq hkq => ?_)
          repeat' (first | (refine CL.ret ?_) | (refine Rt.then ?_) | (refine Rt.block ?_) | (refine Gt.nil ?_; refine RW.nilw [0, 2, 3, 4, 5, 6, 7, 8, 9, 10, 11, 12, 13, 14, 25, 30, 51, 65, 70, 85, 90, 102] ?_; dsimp only [H.keep, H.look, H.Fr.put, Nat.beq]) | (refine Gt.assign ?_; refine RW.y (Y.assign rfl) rfl ?_))
          exact FQ.res (rs := [.cell 2 78, .tmp 3]) (vs := [_, _]) rfl rfl ⟨⟨_, rfl, load_block hbq rfl⟩, rfl, trivial⟩ rfl (⟨hKF.trans hkq fun k h => .inr (by rw [h]; exact Nat.le_refl _), _, rfl, _, rfl, OrNew.nil _ _⟩)
        | some b =>
          rw [hbd] at hrw
          have hb2 := bounds_len hbd
          repeat' (first | (refine CL.seq ?_) | (refine CL.region ?_) | (refine CL.skip ?_) | (refine CL.condF rfl ?_) | (refine Gt.nil ?_; refine RW.nilw [0, 2, 3, 4, 5, 6, 7, 8, 9, 10, 11, 12, 13, 14, 25, 30, 51, 65, 70, 85, 90, 102] ?_; dsimp only [H.keep, H.look, H.Fr.put, Nat.beq]) | (refine Gt.move ?_; refine RW.y (Y.move rfl) rfl ?_) | (refine Gt.assign ?_; refine RW.y (Y.assign rfl) rfl ?_) | (refine Gt.extract ?_; refine RW.y (Y.extract rfl rfl) rfl ?_) | (refine Gt.not ?_; (refine RW.y (Y.notb rfl) rfl ?_)))
          refine RW.appB rfl rfl rfl rfl (hbi.keep hk5 fun _ _ _ c => c) (hp b hbd) (fun g hg => (hbi.own g hg).2) hzv (by omega) (by omega) (by decide) (by omega) (fun v' w6 hbi' hk6 hl6 => ?_)
          repeat' (first | (refine CL.region ?_) | (refine CL.done ?_) | (refine Nm.block ?_) | (refine Nm.then ?_) | (refine Gt.nil ?_; refine RW.nilw [0, 2, 3, 4, 5, 6, 7, 8, 9, 10, 11, 12, 13, 14, 25, 30, 51, 65, 70, 85, 90, 102] ?_; dsimp only [H.keep, H.look, H.Fr.put, Nat.beq]) | (refine Gt.move ?_; refine RW.y (Y.move rfl) rfl ?_) | (refine Gt.assign ?_; refine RW.y (Y.assign rfl) rfl ?_) | (refine Gt.add ?_; refine RW.y (Y.add64 rfl rfl (by omega) (by omega)) rfl ?_))
          exact ⟨wl.length - (n + 1), _, rfl, rfl, rfl, by omega, n + 1, v', bacc ++ b, rfl, rfl, by omega, by rw [List.length_append]; omega, hrw, hbi', (hkv.trans0 hk5).trans hk6 fun g hg => .inr (hbi.own g hg).1⟩
      · have hn : n = wl.length := by omega
        subst hn
        rw [List.drop_length, rdW] at hrw
        rw [hlB, hrw] at hrd
        have hb5v := hkv.at0 (hkz.at0 hb5y)
        obtain ⟨xs, hslq⟩ := hoi.sl
        have hq1 := hslq.one
        have hoiv := (hoi.keep hkz fun _ _ _ c => c).keep hkv fun _ _ _ c => c
        repeat' (first | (refine CL.seq ?_) | (refine CL.region ?_) | (refine CL.condP rfl (fun _ => ?_) (fun _ => ?_) <;> try (exfalso; omega)) | (refine CL.exit ?_) | (refine Ex.then ?_) | (refine Ex.hit ?_) | (refine Gt.nil ?_; refine RW.nilw [0, 2, 3, 4, 5, 6, 7, 8, 9, 10, 11, 12, 13, 14, 25, 30, 51, 65, 70, 85, 90, 102] ?_; dsimp only [H.keep, H.look, H.Fr.put, Nat.beq]) | (refine Gt.move ?_; refine RW.y (Y.move rfl) rfl ?_) | (refine Gt.len ?_; (refine RW.y (Y.lenx rfl (by assumption)) rfl ?_)) | (refine Gt.load ?_; (refine RW.y (Y.loadB rfl (by assumption) rfl) rfl ?_)) | (refine Gt.lss ?_; refine RW.y (Y.lss rfl rfl) rfl ?_) | (refine Gt.fieldAddr ?_; refine RW.y (Y.fieldAddr rfl (by rfl)) rfl ?_))
        refine RW.appO rfl rfl rfl rfl rfl hoiv hbi.new (fun g hg => by have := (hoi.own g hg).2; omega) (by omega) (by omega) (by decide) (by omega) (fun q' w6 hoi' hk6 hl6 => ?_)
        have hqr : ¬ q.ownBlock = some wr.heap.size := fun c => by have := (hoi.own _ c).1; omega
        have hqw : ¬ q.ownBlock = some w.heap.size := fun c => by have := (hoi.own _ c).1; omega
        have hb56 := hk6.at hb5v hqr
        obtain ⟨xs', hslq'⟩ := hoi'.sl
        repeat' ((refine Gt.fieldAddr ?_; refine RW.y (Y.fieldAddr rfl (by rfl)) rfl ?_))
        refine RW.storeB rfl rfl hslq'.one hb56 (show (_ : Nat) < 2 from by decide) (fun w7 hb7 hk7 => ?_)
        repeat' (first | (refine CL.region ?_) | (refine CL.done ?_) | (refine Nm.block ?_) | (refine Nm.then ?_) | (refine Gt.nil ?_; refine RW.nilw [0, 2, 3, 4, 5, 6, 7, 8, 9, 10, 11, 12, 13, 14, 25, 30, 51, 65, 70, 85, 90, 102] ?_; dsimp only [H.keep, H.look, H.Fr.put, Nat.beq]) | (refine Gt.move ?_; refine RW.y (Y.move rfl) rfl ?_) | (refine Gt.assign ?_; refine RW.y (Y.assign rfl) rfl ?_) | (refine Gt.add ?_; refine RW.y (Y.add64 rfl rfl (by omega) (by omega)) rfl ?_))
        have hz6 := hk6.size
        have hqo : ∀ g, q.ownBlock = some g → wx.heap.size ≤ g := fun g hg => (hoi.own g hg).1
        refine ⟨l.length - (k + 1), _, rfl, rfl, rfl, by omega, k + 1, q', acc ++ [bacc], rfl, rfl, by omega, by simp; omega, hrd, hoi'.keep hk7 fun g h1 _ c => by have c' : g = wr.heap.size := c; omega, hk7.at (hk6.at hbv hqw) (fun c => by have c' : w.heap.size = wr.heap.size := c; omega), hb7, ?_, ?_⟩
        · exact (((hsu.keep0 hkz).keep0 hkv).keep hk6 fun g hg c => by have := hqo g c; have := hux g hg; omega).keep hk7 fun g hg c => by have := hul g hg; have c' : g = wr.heap.size := c; omega
        · exact (((hky.trans0 hkz).trans0 hkv).trans hk6 fun g h => .inr (hqo g h)).trans hk7 fun g h => .inl h
    · have hk : k = l.length := by omega
      subst hk
      rw [List.drop_length, rdL] at hrd
      rw [hrd]
      obtain ⟨xs, hslq⟩ := hoi.sl
      simp only [Option.map_some, spanR]
      repeat' (first | (refine CL.seq ?_) | (refine CL.region ?_) | (refine CL.condP rfl (fun _ => ?_) (fun _ => ?_) <;> try (exfalso; omega)) | (refine CL.exit ?_) | (refine Ex.then ?_) | (refine Ex.hit ?_) | (refine Gt.nil ?_; refine RW.nilw [0, 2, 3, 4, 5, 6, 7, 8, 9, 10, 11, 12, 13, 14, 25, 30, 51, 65, 70, 85, 90, 102] ?_; dsimp only [H.keep, H.look, H.Fr.put, Nat.beq]) | (refine RW.y (Y.loadBlock rfl hb5y rfl) rfl ?_) | (refine Gt.move ?_; refine RW.y (Y.move rfl) rfl ?_) | (refine Gt.len ?_; (refine RW.y (Y.lenx rfl (by assumption)) rfl ?_)) | (refine Gt.lss ?_; refine RW.y (Y.lss rfl rfl) rfl ?_))
      refine RW.storeBlock rfl rfl rfl (spnCells hslq.one) hbry rfl (fun w4 hb4 hk4 => ?_)
      repeat' (first | (refine CL.ret ?_) | (refine Gt.nil ?_; refine RW.nilw [0, 2, 3, 4, 5, 6, 7, 8, 9, 10, 11, 12, 13, 14, 25, 30, 51, 65, 70, 85, 90, 102] ?_; dsimp only [H.keep, H.look, H.Fr.put, Nat.beq]) | (refine Gt.assign ?_; refine RW.y (Y.assign rfl) rfl ?_))
      exact FQ.res (rs := [.cell 2 78, .tmp 3]) (vs := [_, _]) rfl rfl ⟨⟨_, rfl, load_block hb4 rfl⟩, rfl, trivial⟩ rfl (⟨(hK3.trans hky fun k h => .inr (by have h' : k = wr.heap.size := h; omega)).trans hk4 fun k h => .inr (by rw [h]; exact Nat.le_refl _), _, rfl, _, rfl, (hoi.keep hk4 fun g h1 _ c => by have c' : g = w.heap.size := c; omega).new.mono (by omega)⟩)
  rw [if_pos hle] at hsp
  obtain ⟨hji, hsp⟩ := hsp
  have hi2 : ((i : Int) + 2).toNat = i + 2 := by omega
  have hi0 : ((i : Int)).toNat = i := by omega
  have hj0 : ((j : Int)).toNat = j := by omega
  have hstep : ∀ h : i < s.length, ¬ (s.getD i 0 = 124 ∧ (s.drop (i + 1)).take 1 = [124]) → orB s = done ++ ((s.take (i + 1)).drop j ++ (orB (s.drop (i + 1))).headD []) :: (orB (s.drop (i + 1))).tail := by
    intro h hn
    have hdrop : s.drop i = s.getD i 0 :: s.drop (i + 1) := by rw [List.drop_eq_getElem_cons h]; simp [List.getD_eq_getElem?_getD, h]
    have htk : (s.take (i + 1)).drop j = (s.take i).drop j ++ [s.getD i 0] := by
      rw [List.take_succ_eq_append_getElem h, List.drop_append_of_le_length (by rw [List.length_take]; omega)]
      simp [List.getD_eq_getElem?_getD, h]
    rw [hdrop, orB_cons _ _ hn] at hsp
    rw [hsp, htk]
    simp
  have hnbar : ∀ h : i < s.length, ¬ (s.take (i + 2)).drop i = [124, 124] → ¬ (s.getD i 0 = 124 ∧ (s.drop (i + 1)).take 1 = [124]) := by
    intro h hn c
    apply hn
    have hdrop : s.drop i = s.getD i 0 :: s.drop (i + 1) := by rw [List.drop_eq_getElem_cons h]; simp [List.getD_eq_getElem?_getD, h]
    rw [List.drop_take, show i + 2 - i = 2 from by omega, hdrop, List.take_succ_cons, c.1, c.2]
  repeat' (first | (refine CL.seq ?_) | (refine CL.region ?_) | (refine CL.skip ?_) | (refine CL.condP rfl (fun _ => ?_) (fun _ => ?_) <;> try (exfalso; omega)) | (refine CL.condT rfl ?_) | (refine CL.condF rfl ?_) | (refine CL.block ?_) | (refine CL.done ?_) | (refine Nm.block ?_) | (refine Nm.then ?_) | (refine Gt.nil ?_; refine RW.nilw [0, 2, 3, 4, 5, 6, 7, 8, 9, 10, 11, 12, 13, 14, 25, 30, 51, 65, 70, 85, 90, 102] ?_; dsimp only [H.keep, H.look, H.Fr.put, Nat.beq]) | (refine Gt.move ?_; refine RW.y (Y.move rfl) rfl ?_) | (refine Gt.guard ?_; first | (refine RW.part rfl rfl rfl (fun _ => ?_) (fun _ => ?_) <;> try (exfalso; omega)) | (refine RW.on rfl rfl rfl ?_) | (refine RW.off1 rfl rfl rfl rfl rfl ?_) | (refine RW.offu rfl rfl rfl rfl ?_)) | (refine Gt.assign ?_; refine RW.y (Y.assign rfl) rfl ?_) | (refine Gt.add ?_; refine RW.y (Y.add64 rfl rfl (by omega) (by omega)) rfl ?_) | (refine Gt.len ?_; (refine RW.y (Y.lens rfl) rfl ?_)) | (refine Gt.pick ?_; first | (refine RW.y (Y.pickT rfl rfl) rfl ?_) | (refine RW.y (Y.pickF rfl rfl) rfl ?_)) | (refine Gt.lss ?_; refine RW.y (Y.lss rfl rfl) rfl ?_) | (refine Gt.eql ?_; first | (refine RW.y (Y.eqi rfl rfl) rfl ?_) | (refine RW.y (Y.eqs rfl rfl) rfl ?_)) | (refine Gt.slice ?_; refine RW.y (Y.cutlh rfl rfl rfl (by omega) (by omega) (by omega)) rfl ?_) | (refine Gt.leq ?_; refine RW.y (Y.leq rfl rfl) rfl ?_))
  · rename_i h1
    have hil : i = s.length := by omega
    rw [hi0, hj0]
    refine RW.app1 rfl rfl rfl rfl how rfl rfl rfl rfl (one_vs _) (by omega) (by omega) (by omega) (fun u' w4 how' hk' hl' => ?_)
    repeat' (first | (refine CL.seq ?_) | (refine CL.region ?_) | (refine CL.done ?_) | (refine Nm.block ?_) | (refine Nm.then ?_) | (refine Gt.nil ?_; refine RW.nilw [0, 2, 3, 4, 5, 6, 7, 8, 9, 10, 11, 12, 13, 14, 25, 30, 51, 65, 70, 85, 90, 102] ?_; dsimp only [H.keep, H.look, H.Fr.put, Nat.beq]) | (refine Gt.move ?_; refine RW.y (Y.move rfl) rfl ?_) | (refine Gt.assign ?_; refine RW.y (Y.assign rfl) rfl ?_) | (refine Gt.add ?_; refine RW.y (Y.add64 rfl rfl (by omega) (by omega)) rfl ?_))
    refine ⟨s.length + 2 - (i + 2), _, rfl, rfl, rfl, by omega, i + 2, i + 2, u', done ++ [(s.take i).drop j], ?_, rfl, by omega, by simp; omega, by simpa [Value.cells] using how', hkx.trans hk' fun k h => .inr (how.lt k h).1, ?_⟩
    · rw [show ((i + 2 : Nat) : Int) = (i : Int) + 2 from by omega, show (i : Int) + 1 + 1 = (i : Int) + 2 from by omega]
    · rw [if_neg (by omega), hsp, hil, List.drop_length]; simp [orB]
  · rename_i h1 h2 h3
    rw [hi0, hi2] at h3
    rw [hi0, hj0]
    have h4 := h3
    rw [List.drop_take, show i + 2 - i = 2 from by omega] at h4
    have hd2 : s.drop i = 124 :: 124 :: s.drop (i + 2) := by
      have := List.take_append_drop 2 (s.drop i)
      rw [h4, List.drop_drop] at this
      exact this.symm
    rw [hd2, orB_bars] at hsp
    have hlen2 : i + 2 ≤ s.length := by have := congrArg List.length hd2; simp at this; omega
    have hpad2 : orB (s.drop (i + 2)) = (orB (s.drop (i + 2))).headD [] :: (orB (s.drop (i + 2))).tail := by
      cases h : orB (s.drop (i + 2)) with
      | nil => exact absurd h (orB_ne _)
      | cons a r => rfl
    refine RW.app1 rfl rfl rfl rfl how rfl rfl rfl rfl (one_vs _) (by omega) (by omega) (by omega) (fun u' w4 how' hk' hl' => ?_)
    repeat' (first | (refine CL.seq ?_) | (refine CL.region ?_) | (refine CL.done ?_) | (refine Nm.block ?_) | (refine Nm.then ?_) | (refine Gt.nil ?_; refine RW.nilw [0, 2, 3, 4, 5, 6, 7, 8, 9, 10, 11, 12, 13, 14, 25, 30, 51, 65, 70, 85, 90, 102] ?_; dsimp only [H.keep, H.look, H.Fr.put, Nat.beq]) | (refine Gt.move ?_; refine RW.y (Y.move rfl) rfl ?_) | (refine Gt.assign ?_; refine RW.y (Y.assign rfl) rfl ?_) | (refine Gt.add ?_; refine RW.y (Y.add64 rfl rfl (by omega) (by omega)) rfl ?_))
    refine ⟨s.length + 2 - (i + 2), _, rfl, rfl, rfl, by omega, i + 2, i + 2, u', done ++ [(s.take i).drop j], ?_, rfl, by omega, by simp; omega, by simpa [Value.cells] using how', hkx.trans hk' fun k h => .inr (how.lt k h).1, ?_⟩
    · rw [show ((i + 2 : Nat) : Int) = (i : Int) + 2 from by omega, show (i : Int) + 1 + 1 = (i : Int) + 2 from by omega]
    · rw [if_pos hlen2]
      refine ⟨Nat.le_refl _, ?_⟩
      have hnil : (s.take (i + 2)).drop (i + 2) = [] := by rw [List.drop_eq_nil_iff, List.length_take]; omega
      rw [hnil, List.nil_append, ← hpad2, hsp]
      simp
  · rename_i h1 h2 h3
    rw [hi0, hi2] at h3
    have hlt : i < s.length := by omega
    exact ⟨s.length + 2 - (i + 1), _, rfl, rfl, rfl, by omega, i + 1, j, u, done, rfl, rfl, by omega, by omega, how, hkx, by rw [if_pos (by omega)]; exact ⟨by omega, hstep hlt (hnbar hlt h3)⟩⟩
  · rename_i h1 h2
    have hlt : i < s.length := by omega
    have hn : ¬ (s.getD i 0 = 124 ∧ (s.drop (i + 1)).take 1 = [124]) := by
      intro c
      rw [List.drop_eq_nil_of_le (by omega)] at c
      simp at c
    exact ⟨s.length + 2 - (i + 1), _, rfl, rfl, rfl, by omega, i + 1, j, u, done, rfl, rfl, by omega, by omega, how, hkx, by rw [if_pos (by omega)]; exact ⟨by omega, hstep hlt hn⟩⟩
end Go.Proofs.Ytlbegmpikggmlaa.Sp

namespace Go.Proofs.Ytlbegmpikggmlaa.Ne
open Go.RowKit H S Ve Sp
attribute [local irreducible] H.CL H.RW H.CW H.Yd H.thenK H.blockQ Go.Calls

def OrOn (A : Nat → Prop) (w : World) (p : Value) (o : List (List Bd)) : Prop := ∃ R : List (List Bd × Value), R.map (·.1) = o ∧ Sl w 1 p R.length (R.map (·.2)) ∧ (∀ g, live p = some g → A g) ∧ ∀ x ∈ R, BdsOn A w x.2 x.1
theorem OrNew.on {B : Nat} {w : World} {p : Value} {o : List (List Bd)} (h : OrNew B w p o) : OrOn (fun g => B ≤ g ∧ g < w.heap.size) w p o := by
  obtain ⟨R, h1, h2, h3, h4⟩ := h
  exact ⟨R, h1, h2, fun g hg => ⟨h3 g hg, h2.lt hg⟩, fun x hx => (h4 x hx).on.mono fun g hl hA => ⟨hA, hl⟩⟩
theorem OrOn.at {A : Nat → Prop} {w : World} {p : Value} {o : List (List Bd)} (h : OrOn A w p o) : OrAt w p o := by
  obtain ⟨R, h1, h2, _, h4⟩ := h
  exact ⟨R, h1, h2, fun x hx => (h4 x hx).at⟩
theorem OrOn.keep {A S : Nat → Prop} {w w' : World} {p : Value} {o : List (List Bd)} (h : OrOn A w p o) (k : Kept S w w') (hS : ∀ g, g < w.heap.size → A g → ¬ S g) : OrOn A w' p o := by
  obtain ⟨R, h1, h2, h3, h4⟩ := h
  exact ⟨R, h1, h2.keep k fun g hg => hS g (h2.lt hg) (h3 g hg), h3, fun x hx => (h4 x hx).keep k hS⟩
theorem OrOn.one {A : Nat → Prop} {w : World} {p : Value} {o : List (List Bd)} (h : OrOn A w p o) : p.oneCell' = true := by
  obtain ⟨R, h1, h2, _⟩ := h; exact h2.one

/-- A need. -/
structure Nd where
  name : T
  sp : Spn
  text : T
/-- It in memory: the pointer of its bounds, the blocks that they lie in. -/
structure Np where
  d : Nd
  p : Value
  A : Nat → Prop
instance : Inhabited Np := ⟨⟨⟨[], default, []⟩, .slice none 0 0, fun _ => False⟩⟩
def npC (x : Np) : List Value := [vs x.d.name, .bool x.d.sp.any, x.p, vs x.d.text]
def ndK : Dp Np where
  sz := 4
  enc := npC
  D := fun w x => OrOn x.A w x.p x.d.sp.or ∧ ∀ g, x.A g → g < w.heap.size
  R := fun x g => x.A g
  len := fun _ => rfl
  ones := fun w x h z hz => by
    simp [npC] at hz
    rcases hz with rfl | rfl | rfl | rfl <;> first | rfl | exact h.1.one
  keep := fun S w w' x h k hS => ⟨h.1.keep k fun g hl hA => hS g hl hA, fun g hg => Nat.lt_of_lt_of_le (h.2 g hg) k.size⟩
  lt := fun w x g h hg => h.2 g hg
/-- A row of an index. -/
structure Rp where
  name : T
  v : Ver
  pre : Value
  sum : Array Value
  hsum : Bs sum 32
  size : Int
  needs : List Np
  np : Value
  A : Nat → Prop
instance : Inhabited Rp := ⟨⟨[], default, .slice none 0 0, _, Bs.rep 32, 0, [], .slice none 0 0, fun _ => False⟩⟩
def rpC (x : Rp) : List Value := [vs x.name, .int .i64 x.v.a, .int .i64 x.v.b, .int .i64 x.v.c, x.pre] ++ (x.sum.toList ++ [.int .i64 x.size, x.np])
theorem rpC_len (x : Rp) : (rpC x).length = 39 := by
  have := x.hsum.1
  simp [rpC, this]
def rwD (w : World) (x : Rp) : Prop := Sl w 1 x.pre x.v.pre.length (sv x.v.pre) ∧ GA ndK w x.np x.needs ∧ (∀ g, live x.pre = some g → x.A g) ∧ (∀ g, live x.np = some g → x.A g) ∧ (∀ y ∈ x.needs, ∀ g, y.A g → x.A g) ∧ ∀ g, x.A g → g < w.heap.size
theorem rpC_one {x : Rp} (h1 : x.pre.oneCell' = true) (h2 : x.np.oneCell' = true) : ∀ z ∈ rpC x, z.oneCell' = true := by
  intro z hz
  simp only [rpC, List.mem_append, List.mem_cons, List.not_mem_nil, or_false] at hz
  rcases hz with (rfl | rfl | rfl | rfl | rfl) | hz | rfl | rfl
  any_goals rfl
  · exact h1
  · exact x.hsum.ones z hz
  · exact h2
theorem GA.keep {α : Type} {K : Dp α} {S : Nat → Prop} {w w' : World} {v : Value} {L : List α} (h : GA K w v L) (k : Kept S w w') (hS : ∀ g, g < w.heap.size → (live v = some g ∨ ∃ x ∈ L, K.R x g) → ¬ S g) : GA K w' v L :=
  ⟨h.1.keep k fun g hg => hS g (h.1.lt hg) (.inl hg), fun x hx => K.keep S w w' x (h.2 x hx) k fun g hl hg => hS g hl (.inr ⟨x, hx, hg⟩)⟩
def rwK : Dp Rp where
  sz := 39
  enc := rpC
  D := rwD
  R := fun x g => x.A g
  len := rpC_len
  ones := fun w x h => rpC_one h.1.one h.2.1.1.one
  keep := fun S w w' x h k hS => by
    obtain ⟨h1, h2, h3, h4, h5, h6⟩ := h
    refine ⟨h1.keep k fun g hg => hS g (h1.lt hg) (h3 g hg), GA.keep h2 k fun g hl hg => hS g hl ?_, h3, h4, h5, fun g hg => Nat.lt_of_lt_of_le (h6 g hg) k.size⟩
    rcases hg with hg | ⟨y, hy, hg⟩
    · exact h4 g hg
    · exact h5 y hy g hg
  lt := fun w x g h hg => h.2.2.2.2.2 g hg
/-- A clone is a row of the call's own. -/
theorem GI.clone {α : Type} {K : Dp α} {w w' : World} {e : TypeId} {u v : Value} {L : List α} (h : GA K w v L) (k : K0 w w') (ho : w'.ownsRow w.heap.size e K.sz u L.length (L.flatMap K.enc)) : GI K w' w.heap.size e u L :=
  ⟨ho, fun x hx => ⟨K.keep0 (h.2 x hx) k, fun g hg c => by have := K.lt w x g (h.2 x hx) hg; have := (ho.lt g c).1; omega⟩⟩
end Go.Proofs.Ytlbegmpikggmlaa.Ne

namespace Go.Proofs.Ytlbegmpikggmlaa.Ne
open Go.RowKit H S Ve Sp
attribute [local irreducible] H.CL H.RW H.CW H.Yd H.thenK H.blockQ Go.Calls

theorem elSpot {α : Type} [Inhabited α] {w : World} {sz : Nat} {v : Value} {L : List α} {enc : α → List Value} (hs : Sl w sz v L.length (L.flatMap enc)) (he : ∀ x, (enc x).length = sz) {i : Int} (h0 : 0 ≤ i) (hi : i < L.length) : ∃ g o, Value.spot v (i.toNat * sz) = ⟨g, o, none⟩ ∧ ∀ w', K0 w w' → ∀ j u, (enc (L.getD i.toNat default))[j]? = some u → w'.cell? ⟨g, o + j, none⟩ = some u := by
  obtain ⟨n, rfl⟩ : ∃ n : Nat, i = (n : Int) := ⟨i.toNat, by omega⟩
  obtain ⟨g, o, h1⟩ := elPtr hs (by omega) ((n : Int).toNat * sz)
  refine ⟨g, o, h1, fun w' k j u hu => ?_⟩
  rw [Int.toNat_natCast] at hu
  have h2 := elCells (hs.keep0 k) he (show n < L.length by omega) j u hu
  rw [h1, addr_add] at h2
  exact h2
theorem elAll {α : Type} [Inhabited α] {w : World} {sz : Nat} {v : Value} {L : List α} {enc : α → List Value} (hs : Sl w sz v L.length (L.flatMap enc)) (he : ∀ x, (enc x).length = sz) {i : Int} (h0 : 0 ≤ i) (hi : i < L.length) : ∀ w', K0 w w' → ∀ j u, (enc (L.getD i.toNat default))[j]? = some u → w'.cell? ((Value.spot v (i.toNat * sz)).add j) = some u := by
  obtain ⟨n, rfl⟩ : ∃ n : Nat, i = (n : Int) := ⟨i.toNat, by omega⟩
  intro w' k j u hu
  rw [Int.toNat_natCast] at hu
  exact elCells (hs.keep0 k) he (show n < L.length by omega) j u hu
abbrev needT : TypeId := 80
theorem sorted (v : Value) (L : List Np) (w : World) (hv : GA ndK w v L) (hl : L.length ≤ 1000) : Calls Try.prog 47 #[v] w fun e w' => K0 w w' ∧ ∃ u L', e = .returned u ∧ GA ndK w' u L' ∧ L'.length = L.length ∧ ∀ y ∈ L', y ∈ L := by
  refine H.enter Try.func47 Try.ntmps47 rfl rfl ?_; dsimp only [H.args]
  repeat' (first | (refine CL.seq ?_) | (refine CL.region ?_) | (refine CL.block ?_) | (refine Gt.nil ?_; refine RW.nilw [0, 2, 3, 4, 5, 9, 29] ?_; dsimp only [H.keep, H.look, H.Fr.put, Nat.beq]) | (refine Gt.assign ?_; refine RW.y (Y.assign rfl) rfl ?_))
  refine CL.loopS [0, 3, 4] (fun k vals wr => ∃ (i : Nat) (q : Value) (Lo : List Np), vals = [v, q, .int .i64 (i : Int)] ∧ k = L.length - i ∧ i ≤ L.length ∧ GA ndK wr q Lo ∧ Lo.length = i ∧ (∀ y ∈ Lo, y ∈ L) ∧ K0 w wr) L.length ⟨_, rfl, 0, _, [], rfl, rfl, Nat.zero_le _, ⟨Sl.nil _ _, fun x hx => by cases hx⟩, rfl, (fun y hy => by cases hy), Kept.refl _ _⟩ ?_
  rintro k vals wr ⟨i, q, Lo, rfl, rfl, hi, hq, hLo, hin, hKr⟩
  dsimp only [List.zip, List.zipWith]
  have hsr := hv.1.keep0 hKr
  obtain ⟨p, cap, rfl, hcap⟩ := hq.shape
  rcases Nat.lt_or_ge i L.length with hlt | hge
  · have hti : ((i : Int)).toNat = i := Int.toNat_natCast i
    repeat' (first | (refine CL.seq ?_) | (refine CL.region ?_) | (refine CL.skip ?_) | (refine CL.condP rfl (fun _ => ?_) (fun _ => ?_) <;> try (exfalso; omega)) | (refine Gt.nil ?_; refine RW.nilw [0, 2, 3, 4, 5, 9, 29] ?_; dsimp only [H.keep, H.look, H.Fr.put, Nat.beq]) | (refine Gt.move ?_; refine RW.y (Y.move rfl) rfl ?_) | (refine Gt.len ?_; (refine RW.y (Y.lenx rfl (by assumption)) rfl ?_)) | (refine Gt.lss ?_; refine RW.y (Y.lss rfl rfl) rfl ?_))
    refine CL.block ?_
    repeat' (first | (refine CL.seq ?_) | (refine CL.region ?_) | (refine Gt.nil ?_; refine RW.nilw [0, 2, 3, 4, 5, 9, 29] ?_; dsimp only [H.keep, H.look, H.Fr.put, Nat.beq]) | (refine Gt.move ?_; refine RW.y (Y.move rfl) rfl ?_) | (refine Gt.assign ?_; refine RW.y (Y.assign rfl) rfl ?_) | (refine Gt.len ?_; (refine RW.y (Y.lenv rfl) rfl ?_)))
    refine CL.cutS [0, 3, 4, 5] (fun vals wx => ∃ a : Nat, vals = [v, .slice p Lo.length cap, .int .i64 (i : Int), .int .i64 (a : Int)] ∧ a ≤ i ∧ K0 wr wx) (by simp) ?_ ?_
    · skip
      refine CL.block ?_
      refine CL.loopS [0, 3, 4, 5] (fun k vals wv => ∃ (a : Nat), vals = [v, .slice p Lo.length cap, .int .i64 (i : Int), .int .i64 (a : Int)] ∧ k = a ∧ a ≤ i ∧ K0 wr wv) i ⟨_, rfl, i, by rw [hLo], rfl, Nat.le_refl _, Kept.refl _ _⟩ ?_
      rintro k vals wv ⟨a, rfl, hka, ha, hkv⟩
      dsimp only [List.zip, List.zipWith]
      have hsv := hsr.keep0 hkv
      have hqv := hq.1.keep0 hkv
      obtain ⟨g2, o2, hsp2, hcl2⟩ := elSpot hsv ndK.len (i := (i : Int)) (by omega) (by omega)
      repeat' ((refine CL.seq ?_))
      refine CL.draw (fun w' => K0 wv w') (by kernel_rfl) (fun w1 hheap1 hk1 => ?_)
      have hS : K0 wv w1 := hk1
      skip
      skip
      rcases Nat.eq_zero_or_pos a with h0 | h0
      · subst h0
        refine AW.take 0 rfl (by kernel_rfl) (by kernel_rfl) (by kernel_rfl) rfl (by assumption) (fun w hS => Y.move rfl) ?_
        refine AW.take 1 rfl (by kernel_rfl) (by kernel_rfl) (by kernel_rfl) rfl (by assumption) (fun w hS => Y.gtr rfl rfl) ?_
        refine AW.take 2 rfl (by kernel_rfl) (by kernel_rfl) (by kernel_rfl) rfl (by assumption) (fun w hS => Y.move rfl) ?_
        refine AW.takeOff 3 rfl (by kernel_rfl) (by kernel_rfl) (by kernel_rfl) rfl rfl rfl rfl rfl (by assumption) ?_
        refine AW.takeOff 4 rfl (by kernel_rfl) (by kernel_rfl) (by kernel_rfl) rfl rfl rfl rfl rfl (by assumption) ?_
        refine AW.takeOff 5 rfl (by kernel_rfl) (by kernel_rfl) (by kernel_rfl) rfl rfl rfl rfl rfl (by assumption) ?_
        refine AW.takeOff 6 rfl (by kernel_rfl) (by kernel_rfl) (by kernel_rfl) rfl rfl rfl rfl rfl (by assumption) ?_
        refine AW.takeOff 7 rfl (by kernel_rfl) (by kernel_rfl) (by kernel_rfl) rfl rfl rfl rfl rfl (by assumption) ?_
        refine AW.takeOff 8 rfl (by kernel_rfl) (by kernel_rfl) (by kernel_rfl) rfl rfl rfl rfl rfl (by assumption) ?_
        refine AW.takeOff 9 rfl (by kernel_rfl) (by kernel_rfl) (by kernel_rfl) rfl rfl rfl rfl rfl (by assumption) ?_
        refine AW.takeOff 10 rfl (by kernel_rfl) (by kernel_rfl) (by kernel_rfl) rfl rfl rfl rfl rfl (by assumption) ?_
        refine AW.takeOff 11 rfl (by kernel_rfl) (by kernel_rfl) (by kernel_rfl) rfl rfl rfl rfl rfl (by assumption) ?_
        refine AW.takeOff 12 rfl (by kernel_rfl) (by kernel_rfl) (by kernel_rfl) rfl rfl rfl rfl rfl (by assumption) ?_
        refine AW.takeOff 13 rfl (by kernel_rfl) (by kernel_rfl) (by kernel_rfl) rfl rfl rfl rfl rfl (by assumption) ?_
        refine AW.takeOff 14 rfl (by kernel_rfl) (by kernel_rfl) (by kernel_rfl) rfl rfl rfl rfl rfl (by assumption) ?_
        refine AW.take 15 rfl (by kernel_rfl) (by kernel_rfl) (by kernel_rfl) rfl (by assumption) (fun w hS => by exact Y.pickF rfl rfl) ?_
        refine AW.donew [0, 3, 4, 5, 29] (by kernel_rfl) ?_
        dsimp only [H.keep, H.look, H.Fr.put, Nat.beq]
        repeat' (first | (refine CL.condF rfl ?_) | (refine CL.exit ?_) | (refine Ex.then ?_) | (refine Ex.hit ?_) | (refine CL.done ?_) | (refine Nm.then ?_))
        exact ⟨_, rfl, rfl, rfl, 0, rfl, Nat.zero_le _, hkv.trans0 hk1⟩
      · obtain ⟨g1, o1, hsp1, hcl1⟩ := elSpot hqv ndK.len (i := (a : Int) - 1) (by omega) (by omega)
        have hg0 : decide ((0 : Int) < (a : Int)) = true := decide_eq_true (by omega)
        obtain ⟨bb, hbb⟩ : ∃ bb : Bool, (!(Op.bytesLess (Lo.getD ((a : Int) - 1).toNat default).d.name (L.getD ((i : Int)).toNat default).d.name || (Lo.getD ((a : Int) - 1).toNat default).d.name == (L.getD ((i : Int)).toNat default).d.name)) = bb := ⟨_, rfl⟩
        skip
        refine AW.take 0 rfl (by kernel_rfl) (by kernel_rfl) (by kernel_rfl) rfl (by assumption) (fun w hS => Y.move rfl) ?_
        refine AW.take 1 rfl (by kernel_rfl) (by kernel_rfl) (by kernel_rfl) rfl (by assumption) (fun w hS => Y.gtrT rfl rfl (by omega)) ?_
        refine AW.take 2 rfl (by kernel_rfl) (by kernel_rfl) (by kernel_rfl) rfl (by assumption) (fun w hS => Y.move rfl) ?_
        refine AW.takeOn 3 rfl (by kernel_rfl) (by kernel_rfl) (by kernel_rfl) rfl rfl rfl rfl (by assumption) (fun w hS => Y.move rfl) ?_
        refine AW.takeOn 4 rfl (by kernel_rfl) (by kernel_rfl) (by kernel_rfl) rfl rfl rfl rfl (by assumption) (fun w hS => Y.move rfl) ?_
        refine AW.takeOn 5 rfl (by kernel_rfl) (by kernel_rfl) (by kernel_rfl) rfl rfl rfl rfl (by assumption) (fun w hS => by exact Y.sub64 rfl rfl (by omega) (by omega)) ?_
        refine AW.takeOn 6 rfl (by kernel_rfl) (by kernel_rfl) (by kernel_rfl) rfl rfl rfl rfl (by assumption) (fun w hS => Y.idx rfl rfl (hqv.keep0 hS) (by omega) (by omega)) ?_
        refine AW.takeOn 7 rfl (by kernel_rfl) (by kernel_rfl) (by kernel_rfl) rfl rfl rfl rfl (by assumption) (fun w hS => Y.fieldAddr (congrArg (fun a => some (Value.pointer (some a))) hsp1) (by rfl)) ?_
        refine AW.takeOn 8 rfl (by kernel_rfl) (by kernel_rfl) (by kernel_rfl) rfl rfl rfl rfl (by assumption) (fun w hS => Y.load1A rfl (hcl1 _ hS 0 _ rfl)) ?_
        refine AW.takeOn 9 rfl (by kernel_rfl) (by kernel_rfl) (by kernel_rfl) rfl rfl rfl rfl (by assumption) (fun w hS => Y.move rfl) ?_
        refine AW.takeOn 10 rfl (by kernel_rfl) (by kernel_rfl) (by kernel_rfl) rfl rfl rfl rfl (by assumption) (fun w hS => Y.move rfl) ?_
        refine AW.takeOn 11 rfl (by kernel_rfl) (by kernel_rfl) (by kernel_rfl) rfl rfl rfl rfl (by assumption) (fun w hS => Y.idx rfl rfl (hsv.keep0 hS) (by omega) (by omega)) ?_
        refine AW.takeOn 12 rfl (by kernel_rfl) (by kernel_rfl) (by kernel_rfl) rfl rfl rfl rfl (by assumption) (fun w hS => Y.fieldAddr (congrArg (fun a => some (Value.pointer (some a))) hsp2) (by rfl)) ?_
        refine AW.takeOn 13 rfl (by kernel_rfl) (by kernel_rfl) (by kernel_rfl) rfl rfl rfl rfl (by assumption) (fun w hS => Y.load1A rfl (hcl2 _ hS 0 _ rfl)) ?_
        refine AW.takeOn 14 rfl (by kernel_rfl) (by kernel_rfl) (by kernel_rfl) rfl rfl rfl rfl (by assumption) (fun w hS => Y.gtsE rfl rfl hbb) ?_
        refine AW.take 15 rfl (by kernel_rfl) (by kernel_rfl) (by kernel_rfl) rfl (by assumption) (fun w hS => by exact Y.pickT rfl rfl) ?_
        refine AW.donew [0, 3, 4, 5, 29] (by kernel_rfl) ?_
        dsimp only [H.keep, H.look, H.Fr.put, Nat.beq]
        cases bb
        · repeat' (first | (refine CL.condF rfl ?_) | (refine CL.exit ?_) | (refine Ex.then ?_) | (refine Ex.hit ?_) | (refine CL.done ?_) | (refine Nm.then ?_))
          exact ⟨_, rfl, rfl, rfl, a, rfl, ha, hkv.trans0 hk1⟩
        · repeat' (first | (refine CL.region ?_) | (refine CL.skip ?_) | (refine CL.condT rfl ?_) | (refine CL.block ?_) | (refine CL.done ?_) | (refine Nm.block ?_) | (refine Nm.then ?_) | (refine Gt.nil ?_; refine RW.nilw [0, 2, 3, 4, 5, 9, 29] ?_; dsimp only [H.keep, H.look, H.Fr.put, Nat.beq]) | (refine Gt.move ?_; refine RW.y (Y.move rfl) rfl ?_) | (refine Gt.assign ?_; refine RW.y (Y.assign rfl) rfl ?_) | (refine Gt.sub ?_; refine RW.y (Y.sub64 rfl rfl (by omega) (by omega)) rfl ?_))
          exact ⟨a - 1, _, rfl, rfl, rfl, by omega, a - 1, by simp; omega, by omega, by omega, hkv.trans0 hk1⟩
    · rintro vals wv ⟨a, rfl, ha, hkv⟩
      dsimp only [List.zip, List.zipWith]
      have hsv := hsr.keep0 hkv
      have hel := elAll hsv ndK.len (i := (i : Int)) (by omega) (by omega)
      have hti2 : ((a : Int)).toNat = a := Int.toNat_natCast a
      skip
      refine CL.draw (fun w' => K0 wv w') (by kernel_rfl) (fun w2 hheap hk2 => ?_)
      have hS : K0 wv w2 := hk2
      skip
      refine AW.take 0 rfl (by kernel_rfl) (by kernel_rfl) (by kernel_rfl) rfl (by assumption) (fun w hS => Y.move rfl) ?_
      refine AW.take 1 rfl (by kernel_rfl) (by kernel_rfl) (by kernel_rfl) rfl (by assumption) (fun w hS => Y.move rfl) ?_
      refine AW.take 2 rfl (by kernel_rfl) (by kernel_rfl) (by kernel_rfl) rfl (by assumption) (fun w hS => Y.move rfl) ?_
      refine AW.take 3 rfl (by kernel_rfl) (by kernel_rfl) (by kernel_rfl) rfl (by assumption) (fun w hS => Y.upto rfl rfl rfl (by omega) (by omega)) ?_
      refine AW.take 4 rfl (by kernel_rfl) (by kernel_rfl) (by kernel_rfl) rfl (by assumption) (fun w hS => Y.move rfl) ?_
      refine AW.take 5 rfl (by kernel_rfl) (by kernel_rfl) (by kernel_rfl) rfl (by assumption) (fun w hS => Y.move rfl) ?_
      refine AW.take 6 rfl (by kernel_rfl) (by kernel_rfl) (by kernel_rfl) rfl (by assumption) (fun w hS => Y.idx rfl rfl (hsv.keep0 hS) (by omega) (by omega)) ?_
      refine AW.take 7 rfl (by kernel_rfl) (by kernel_rfl) (by kernel_rfl) rfl (by assumption) (fun w hS => Y.loadN (cs := npC (L.getD ((i : Int)).toNat default)) rfl rfl (hel _ hS)) ?_
      refine AW.take 9 rfl (by kernel_rfl) (by kernel_rfl) (by kernel_rfl) rfl (by assumption) (fun w hS => Y.move rfl) ?_
      refine AW.take 10 rfl (by kernel_rfl) (by kernel_rfl) (by kernel_rfl) rfl (by assumption) (fun w hS => Y.move rfl) ?_
      refine AW.take 11 rfl (by kernel_rfl) (by kernel_rfl) (by kernel_rfl) rfl (by assumption) (fun w hS => Y.from rfl rfl (by omega) (by omega) (by omega)) ?_
      refine AW.next 8 rfl (by kernel_rfl) ?_
      have hz2 := hk2.size
      refine RW.build1 rfl rfl rfl rfl (fun w3 hb3 hk3 hlt3 => ?_)
      have hown3 : w3.ownsRow w2.heap.size needT 4 (.slice (some ⟨w2.heap.size, 0, none⟩) 1 1) 1 (npC (L.getD ((i : Int)).toNat default)) := own_new hb3 (Nat.le_refl _) rfl (by decide)
      have hS := hk2.trans0 hk3
      refine RW.nil (Nm.then ⟨hS, ?_⟩)
      skip
      refine AW.next 12 rfl (by kernel_rfl) ?_
      have hgf := (hq.keep0 ((hkv.trans0 hk2).trans0 hk3)).from rfl (a := a) (by omega) (by omega)
      have hgu := (hq.keep0 (hkv.trans0 hk2)).upto rfl (a := a) (by omega) (by omega)
      have hz3 := hk3.size
      rw [← hti2] at hgf hgu
      refine RW.app (sz := 4) rfl rfl rfl rfl rfl hown3 hgf.1 hgf.ones (by rw [List.length_drop]; omega) (by rw [List.length_drop]; omega) (by omega) (fun u4 w4 how4 hk4 hl4 => ?_)
      have hK34 : K0 w2 w4 := (hk3.trans hk4 fun k h => .inr (by simp [Value.ownBlock] at h; omega))
      have hS := hk2.trans0 hK34
      refine RW.nil (Nm.then ⟨hS, ?_⟩)
      skip
      refine AW.next 13 rfl (by kernel_rfl) ?_
      have hz4 := hk4.size
      have hgu4 := hgu.1.keep0 hK34
      have hlt4 : (L.getD ((i : Int)).toNat default) ∈ L := getD_mem default (by omega)
      refine RW.appA (sz := 4) rfl rfl rfl rfl rfl (.inr ⟨hgu4, ⟨_, by rw [List.length_take]; congr 1 <;> omega⟩, rfl⟩) (by omega) (Sl.of_own how4) (fun z hz => ?_) (by simp only [List.length_take, List.length_drop]; omega) (by simp only [List.length_take, List.length_drop]; omega) (Nat.zero_le _) (fun u5 w5 how5 hk5 hl5 => ?_)
      · rcases List.mem_append.1 hz with hz | hz
        · exact ndK.ones w _ (hv.2 _ hlt4) z hz
        · obtain ⟨y, hy, hz⟩ := List.mem_flatMap.1 hz
          exact ndK.ones w y (hv.2 y (hin y (List.mem_of_mem_drop hy))) z hz
      · have hK25 : K0 w2 w5 := hK34.trans0 (hk5.mono fun k h => by cases h)
        have hS := hk2.trans0 hK25
        refine RW.nil (Nm.then ⟨hS, ?_⟩)
        refine AW.take 14 rfl (by kernel_rfl) (by kernel_rfl) (by kernel_rfl) rfl (by assumption) (fun w hS => Y.assign rfl) ?_
        refine AW.donew [0, 3, 4] (by kernel_rfl) ?_
        dsimp only [H.keep, H.look, H.Fr.put, Nat.beq]
        have hc : u5 = u5 := rfl
        have hf : (Lo.take ((a : Int)).toNat ++ L.getD ((i : Int)).toNat default :: Lo.drop ((a : Int)).toNat).length = i + 1 := by rw [List.length_append, List.length_cons, List.length_take, List.length_drop]; omega
        repeat' (first | (refine CL.region ?_) | (refine CL.done ?_) | (refine Nm.block ?_) | (refine Nm.then ?_) | (refine Gt.nil ?_; refine RW.nilw [0, 2, 3, 4, 5, 9, 29] ?_; dsimp only [H.keep, H.look, H.Fr.put, Nat.beq]) | (refine Gt.move ?_; refine RW.y (Y.move rfl) rfl ?_) | (refine Gt.assign ?_; refine RW.y (Y.assign rfl) rfl ?_) | (refine Gt.add ?_; refine RW.y (Y.add64 rfl rfl (by omega) (by omega)) rfl ?_))
        refine ⟨L.length - (i + 1), _, rfl, rfl, rfl, by omega, i + 1, _, Lo.take ((a : Int)).toNat ++ L.getD ((i : Int)).toNat default :: Lo.drop ((a : Int)).toNat, rfl, rfl, by omega, ⟨?_, fun y hy => ?_⟩, hf, fun y hy => ?_, hKr.trans0 (hkv.trans0 hS)⟩
        · rw [List.flatMap_append, List.flatMap_cons, hf]
          have h5 := Sl.of_own how5
          rw [show (Lo.take ((a : Int)).toNat).length + (1 + (Lo.drop ((a : Int)).toNat).length) = i + 1 from by rw [List.length_take, List.length_drop]; omega] at h5
          exact h5
        · have hy2 : y ∈ L := by
            rcases List.mem_append.1 hy with h | h
            · exact hin y (List.mem_of_mem_take h)
            · rcases List.mem_cons.1 h with h | h
              · rw [h]; exact hlt4
              · exact hin y (List.mem_of_mem_drop h)
          exact ndK.keep0 (hv.2 y hy2) (hKr.trans0 (hkv.trans0 hS))
        · rcases List.mem_append.1 hy with h | h
          · exact hin y (List.mem_of_mem_take h)
          · rcases List.mem_cons.1 h with h | h
            · rw [h]; exact hlt4
            · exact hin y (List.mem_of_mem_drop h)
  · have hi : i = L.length := by omega
    subst hi
    repeat' (first | (refine CL.seq ?_) | (refine CL.region ?_) | (refine CL.condP rfl (fun _ => ?_) (fun _ => ?_) <;> try (exfalso; omega)) | (refine CL.exit ?_) | (refine Ex.then ?_) | (refine Ex.hit ?_) | (refine CL.ret ?_) | (refine Gt.nil ?_; refine RW.nilw [0, 2, 3, 4, 5, 9, 29] ?_; dsimp only [H.keep, H.look, H.Fr.put, Nat.beq]) | (refine Gt.move ?_; refine RW.y (Y.move rfl) rfl ?_) | (refine Gt.assign ?_; refine RW.y (Y.assign rfl) rfl ?_) | (refine Gt.len ?_; (refine RW.y (Y.lenx rfl (by assumption)) rfl ?_)) | (refine Gt.lss ?_; refine RW.y (Y.lss rfl rfl) rfl ?_))
    exact FQ.one rfl rfl rfl ⟨hKr, _, Lo, rfl, hq, hLo, hin⟩
end Go.Proofs.Ytlbegmpikggmlaa.Ne

namespace Go.Proofs.Ytlbegmpikggmlaa.Ne
open Go.RowKit H S Ve Sp
attribute [local irreducible] H.CL H.RW H.CW H.Yd H.thenK H.blockQ Go.Calls

section
variable {P : Program} {f : Fr} {w : World} {d : Nat} {ty : TypeId} {pos : String} {af : Array Edge}
theorem shr4Y {t yt : TypeId} {x y : Operand} {n : Nat} (hx : f.ev x = some (.int .u8 (n : Int))) (hy : f.ev y = some (.int .u64 4)) : Yd P f (op1 d (.binOp .shr t x y yt) ty pos af) (.int .u8 ((n / 16 : Nat) : Int)) w := by
  have h := Y.shr (P := P) (w := w) (d := d) (ty := ty) (pos := pos) (af := af) (t := t) (yt := yt) hx hy (by omega)
  have e : ((n : Int)).fdiv (2 ^ (min (Int.toNat 4) IntKind.u8.bits)) = ((n / 16 : Nat) : Int) := by
    show ((n : Int)).fdiv (16 : Nat) = _
    rw [Int.fdiv_eq_ediv_of_nonneg _ (by omega)]; rfl
  rw [e] at h; exact h
theorem and15Y {t yt : TypeId} {x y : Operand} {n : Nat} (hn : n < 256) (hx : f.ev x = some (.int .u8 (n : Int))) (hy : f.ev y = some (.int .u8 15)) : Yd P f (op1 d (.binOp .and t x y yt) ty pos af) (.int .u8 ((n % 16 : Nat) : Int)) w := by
  have h := Y.bits (P := P) (w := w) (d := d) (ty := ty) (pos := pos) (af := af) (t := t) (yt := yt) (op := .and) (.inl rfl) hx hy
  have e : bits .and .u8 (n : Int) 15 = ((n % 16 : Nat) : Int) := by
    have h1 := u8_and_nat n 15 hn (by omega)
    refine h1.trans ?_
    congr 1
    have key : ∀ m : Fin 256, m.val &&& 15 = m.val % 16 := by decide +kernel
    exact key ⟨n, hn⟩
  rw [e] at h; exact h
end
theorem hex (c : Array Value) (hc : Bs c 32) (w : World) : Calls Try.prog 45 #[.agg c] w fun e w' => K0 w w' ∧ ∃ t : T, e = .returned (vs t) ∧ t.length = 64 := by
  have hl16 : ([48, 49, 50, 51, 52, 53, 54, 55, 56, 57, 97, 98, 99, 100, 101, 102] : T).length = 16 := rfl
  refine H.enter Try.func45 Try.ntmps45 rfl rfl ?_; dsimp only [H.args]
  repeat' (first | (refine CL.seq ?_) | (refine CL.region ?_))
  refine RW.box rfl rfl (fun w1 hb1 hk1 hlt1 => ?_)
  have hb1' : w1.heap[w.heap.size]? = some (.cells c 42 (0, 0)) := hb1
  repeat' (first | (refine CL.seq ?_) | (refine CL.region ?_) | (refine CL.block ?_) | (refine Gt.nil ?_; refine RW.nilw [0, 1, 2, 3, 4, 6] ?_; dsimp only [H.keep, H.look, H.Fr.put, Nat.beq]) | (refine Gt.assign ?_; refine RW.y (Y.assign rfl) rfl ?_))
  refine CL.loopS [1, 3, 4] (fun k vals wr => ∃ (i : Nat) (u : Value) (t : List UInt8), vals = [.pointer (some ⟨w.heap.size, 0, none⟩), u, .int .i64 (i : Int)] ∧ k = 32 - i ∧ i ≤ 32 ∧ t.length = 2 * i ∧ wr.ownsRow w1.heap.size u8T 1 u t.length (bv t) ∧ K0 w1 wr) 32 ⟨_, rfl, 0, _, [], rfl, rfl, by omega, rfl, World.ownsRow_nil _ _ _ _, Kept.refl _ _⟩ ?_
  rintro k vals wr ⟨i, u, t, rfl, rfl, hi, ht, how, hkr⟩
  dsimp only [List.zip, List.zipWith]
  have hbr := hkr.at0 hb1'
  have hzr := hkr.size
  rcases Nat.lt_or_ge i 32 with hlt | hge
  · obtain ⟨x, hx⟩ := hc.2 i hlt
    have hxl : c.toList[0 + ((i : Int)).toNat * 1]? = some (vb x) := by rw [Int.toNat_natCast, Nat.zero_add, Nat.mul_one]; simpa using hx
    have hx1 := x.toNat_lt
    repeat' (first | (refine CL.seq ?_) | (refine CL.region ?_) | (refine CL.skip ?_) | (refine CL.condP rfl (fun _ => ?_) (fun _ => ?_) <;> try (exfalso; omega)) | (refine CL.block ?_) | (refine Gt.nil ?_; refine RW.nilw [0, 1, 2, 3, 4, 6] ?_; dsimp only [H.keep, H.look, H.Fr.put, Nat.beq]) | (refine Gt.move ?_; refine RW.y (Y.move rfl) rfl ?_) | (refine Gt.lss ?_; refine RW.y (Y.lss rfl rfl) rfl ?_))
    have hat : ∀ w', Kept (fun k => u.ownBlock = some k) wr w' → w'.heap[w.heap.size]? = some (.cells c 42 (0, 0)) := fun w' h => h.at hbr fun q => by have := (how.lt _ q).1; omega
    refine CL.draw (fun w' => Kept (fun k => u.ownBlock = some k) wr w') (by kernel_rfl) (fun w2 hheap hk2 => ?_)
    have hS : Kept (fun k => u.ownBlock = some k) wr w2 := hk2.of0
    skip
    refine AW.take 0 rfl (by kernel_rfl) (by kernel_rfl) (by kernel_rfl) rfl (by assumption) (fun w hS => Y.move rfl) ?_
    refine AW.take 1 rfl (by kernel_rfl) (by kernel_rfl) (by kernel_rfl) rfl (by assumption) (fun w hS => Y.move rfl) ?_
    refine AW.take 2 rfl (by kernel_rfl) (by kernel_rfl) (by kernel_rfl) rfl (by assumption) (fun w hS => Y.idxP rfl rfl (by omega) (by omega)) ?_
    refine AW.take 3 rfl (by kernel_rfl) (by kernel_rfl) (by kernel_rfl) rfl (by assumption) (fun w hS => Y.loadB rfl (hat _ hS) hxl) ?_
    refine AW.take 4 rfl (by kernel_rfl) (by kernel_rfl) (by kernel_rfl) rfl (by assumption) (fun w hS => shr4Y rfl rfl) ?_
    refine AW.take 5 rfl (by kernel_rfl) (by kernel_rfl) (by kernel_rfl) rfl (by assumption) (fun w hS => Y.idxs rfl rfl (by omega) (by omega)) ?_
    refine AW.take 6 rfl (by kernel_rfl) (by kernel_rfl) (by kernel_rfl) rfl (by assumption) (fun w hS => Y.move rfl) ?_
    refine AW.take 7 rfl (by kernel_rfl) (by kernel_rfl) (by kernel_rfl) rfl (by assumption) (fun w hS => Y.idxP rfl rfl (by omega) (by omega)) ?_
    refine AW.take 8 rfl (by kernel_rfl) (by kernel_rfl) (by kernel_rfl) rfl (by assumption) (fun w hS => Y.loadB rfl (hat _ hS) hxl) ?_
    refine AW.take 9 rfl (by kernel_rfl) (by kernel_rfl) (by kernel_rfl) rfl (by assumption) (fun w hS => and15Y hx1 rfl rfl) ?_
    refine AW.take 10 rfl (by kernel_rfl) (by kernel_rfl) (by kernel_rfl) rfl (by assumption) (fun w hS => Y.idxs rfl rfl (by omega) (by omega)) ?_
    refine AW.next 11 rfl (by kernel_rfl) ?_
    have hz2 := hk2.size
    refine RW.build2 rfl rfl rfl rfl rfl rfl (fun w3 hb3 hk3 hlt3 => ?_)
    have hK3 := hk2.trans0 hk3
    have hS : Kept (fun k => u.ownBlock = some k) wr w3 := hK3.of0
    refine RW.nil (Nm.then ⟨hS, ?_⟩)
    skip
    refine AW.next 12 rfl (by kernel_rfl) ?_
    generalize hA : ([48, 49, 50, 51, 52, 53, 54, 55, 56, 57, 97, 98, 99, 100, 101, 102] : T).getD (((x.toNat / 16 : Nat) : Int)).toNat 0 = qa at *
    generalize hB : ([48, 49, 50, 51, 52, 53, 54, 55, 56, 57, 97, 98, 99, 100, 101, 102] : T).getD (((x.toNat % 16 : Nat) : Int)).toNat 0 = qb at *
    have hs3 : Sl w3 1 (.slice (some ⟨w2.heap.size, 0, none⟩) 2 2) 2 (bv [qa, qb]) := sl_new hb3 rfl (by decide)
    refine RW.app (sz := 1) rfl rfl rfl rfl rfl (own_kept0 how hK3) hs3 (bv_one _) (by omega) (by omega) (by omega) (fun u4 w4 how4 hk4 hl4 => ?_)
    have how4' : w4.ownsRow w1.heap.size u8T 1 u4 (t ++ [qa, qb]).length (bv (t ++ [qa, qb])) := by rw [List.length_append, bv, List.map_append]; exact how4
    have hS : Kept (fun k => u.ownBlock = some k) wr w4 := hK3.of0.trans hk4 fun k h => .inl h
    refine RW.nil (Nm.then ⟨hS, ?_⟩)
    refine AW.take 13 rfl (by kernel_rfl) (by kernel_rfl) (by kernel_rfl) rfl (by assumption) (fun w hS => Y.assign rfl) ?_
    refine AW.donew [1, 3, 4] (by kernel_rfl) ?_
    dsimp only [H.keep, H.look, H.Fr.put, Nat.beq]
    repeat' (first | (refine CL.region ?_) | (refine CL.done ?_) | (refine Nm.block ?_) | (refine Nm.then ?_) | (refine Gt.nil ?_; refine RW.nilw [0, 1, 2, 3, 4, 6] ?_; dsimp only [H.keep, H.look, H.Fr.put, Nat.beq]) | (refine Gt.assign ?_; refine RW.y (Y.assign rfl) rfl ?_) | (refine Gt.move ?_; refine RW.y (Y.move rfl) rfl ?_) | (refine Gt.add ?_; refine RW.y (Y.add64 rfl rfl (by omega) (by omega)) rfl ?_))
    exact ⟨32 - (i + 1), _, rfl, rfl, rfl, by omega, i + 1, u4, t ++ [qa, qb], rfl, rfl, by omega, by rw [List.length_append, ht]; simp; omega, how4', hkr.trans hS fun k h => .inr (how.lt k h).1⟩
  · have hi : i = 32 := by omega
    subst hi
    repeat' (first | (refine CL.seq ?_) | (refine CL.region ?_) | (refine CL.condP rfl (fun _ => ?_) (fun _ => ?_) <;> try (exfalso; omega)) | (refine CL.exit ?_) | (refine Ex.then ?_) | (refine Ex.hit ?_) | (refine Gt.nil ?_; refine RW.nilw [0, 1, 2, 3, 4, 6] ?_; dsimp only [H.keep, H.look, H.Fr.put, Nat.beq]) | (refine Gt.move ?_; refine RW.y (Y.move rfl) rfl ?_) | (refine Gt.lss ?_; refine RW.y (Y.lss rfl rfl) rfl ?_))
    refine RW.y (Y.strb rfl (Sl.of_own how)) rfl ?_
    repeat' (first | (refine CL.ret ?_) | (refine Gt.nil ?_; refine RW.nilw [0, 1, 2, 3, 4, 6] ?_; dsimp only [H.keep, H.look, H.Fr.put, Nat.beq]) | (refine Gt.assign ?_; refine RW.y (Y.assign rfl) rfl ?_))
    exact FQ.one rfl rfl rfl ⟨hk1.trans0 hkr, _, rfl, ht⟩
end Go.Proofs.Ytlbegmpikggmlaa.Ne

namespace Go.Proofs.Ytlbegmpikggmlaa.Ne
open Go.RowKit H S Ve Sp
attribute [local irreducible] H.CL H.RW H.CW H.Yd H.thenK H.blockQ Go.Calls

/-- The cells of a row that lies at o of block g. -/
structure RowC (w : World) (g o : Nat) (x : Rp) : Prop where
  name : w.cell? ⟨g, o, none⟩ = some (vs x.name)
  ver : ∀ j u, ([.int .i64 x.v.a, .int .i64 x.v.b, .int .i64 x.v.c, x.pre] : List Value)[j]? = some u → w.cell? ((⟨g, o + 1, none⟩ : Addr).add j) = some u
  sum : ∀ j u, x.sum.toList[j]? = some u → w.cell? ((⟨g, o + 5, none⟩ : Addr).add j) = some u
  size : w.cell? ⟨g, o + 37, none⟩ = some (.int .i64 x.size)
  needs : w.cell? ⟨g, o + 38, none⟩ = some x.np
theorem rowSpot {w : World} {v : Value} {L : List Rp} (hs : GA rwK w v L) {i : Int} (h0 : 0 ≤ i) (hi : i < L.length) : ∃ g o, Value.spot v (i.toNat * 39) = ⟨g, o, none⟩ ∧ ∀ w', K0 w w' → RowC w' g o (L.getD i.toNat default) := by
  obtain ⟨g, o, h1, h2⟩ := elSpot hs.1 rpC_len h0 hi
  refine ⟨g, o, h1, fun w' k => ?_⟩
  have h3 := h2 w' k
  generalize L.getD i.toNat default = x at h3
  have hl := x.hsum.1
  refine ⟨h3 0 _ rfl, fun j u hu => ?_, fun j u hu => ?_, ?_, ?_⟩
  · have hj : j < 4 := (List.getElem?_eq_some_iff.1 hu).1
    have := h3 (1 + j) u (by
      show (rpC x)[1 + j]? = _
      rw [rpC, List.getElem?_append_left (by simp; omega), Nat.add_comm]; exact hu)
    rw [addr_add, Nat.add_assoc]; exact this
  · have hj : j < 32 := by have := (List.getElem?_eq_some_iff.1 hu).1; rw [Array.length_toList, hl] at this; exact this
    have := h3 (5 + j) u (by
      show (rpC x)[5 + j]? = _
      rw [rpC, List.getElem?_append_right (by simp)]
      simp only [List.length_cons, List.length_nil]
      rw [show 5 + j - (0 + 1 + 1 + 1 + 1 + 1) = j from by omega, List.getElem?_append_left (by rw [Array.length_toList, hl]; exact hj)]; exact hu)
    rw [addr_add, Nat.add_assoc]; exact this
  · refine h3 37 _ ?_
    show (rpC x)[37]? = _
    rw [rpC, List.getElem?_append_right (by simp), List.getElem?_append_right (by simp [hl])]
    simp [hl]
  · refine h3 38 _ ?_
    show (rpC x)[38]? = _
    rw [rpC, List.getElem?_append_right (by simp), List.getElem?_append_right (by simp [hl])]
    simp [hl]
/-- Needs, rows that fit. -/
def FitN (y : Np) : Prop := y.d.name.length ≤ 100 ∧ y.d.text.length ≤ 1000
structure FitR (x : Rp) : Prop where
  name : x.name.length ≤ 100
  v : Fit x.v
  va : x.v.a ≤ 9223372036854775807
  vb : x.v.b ≤ 9223372036854775807
  vc : x.v.c ≤ 9223372036854775807
  text : (textV x.v).length ≤ 2000
  size : x.size ≤ 9223372036854775807
  needs : x.needs.length ≤ 20
  need : ∀ y ∈ x.needs, FitN y

set_option maxHeartbeats 2000000 in
theorem indexText (v : Value) (L : List Rp) (w : World) (hv : GA rwK w v L) (hl : L.length ≤ 100) (hf : ∀ x ∈ L, FitR x) : Calls Try.prog 27 #[v] w fun e w' => K0 w w' ∧ ∃ t : T, e = .returned (vs t) := by
  have k1 : ([112, 97, 99, 107, 32] : T).length = 5 := rfl
  have k2 : ([32] : T).length = 1 := rfl
  have k3 : ([10] : T).length = 1 := rfl
  have k4 : ([110, 101, 101, 100, 32] : T).length = 5 := rfl
  refine H.enter Try.func27 Try.ntmps27 rfl rfl ?_; dsimp only [H.args]
  repeat' (first | (refine CL.seq ?_) | (refine CL.region ?_) | (refine CL.block ?_) | (refine Gt.nil ?_; refine RW.nilw [0, 2, 3, 4, 5, 6, 10, 55] ?_; dsimp only [H.keep, H.look, H.Fr.put, Nat.beq]) | (refine Gt.assign ?_; refine RW.y (Y.assign rfl) rfl ?_))
  refine CL.loopS [0, 3, 4] (fun k vals wr => ∃ (i : Nat) (t : T), vals = [v, vs t, .int .i64 (i : Int)] ∧ k = L.length - i ∧ i ≤ L.length ∧ t.length ≤ i * 100000 ∧ K0 w wr) L.length ⟨_, rfl, 0, [], rfl, rfl, Nat.zero_le _, by simp, Kept.refl _ _⟩ ?_
  rintro k vals wr ⟨i, t, rfl, rfl, hi, ht, hKr⟩
  dsimp only [List.zip, List.zipWith]
  have hvr := hv.keep0 hKr
  have hsr := hvr.1
  rcases Nat.lt_or_ge i L.length with hlt | hge
  · have hti : ((i : Int)).toNat = i := Int.toNat_natCast i
    have hmem : L.getD ((i : Int)).toNat default ∈ L := getD_mem default (by omega)
    obtain ⟨g, o, hsp, hrc⟩ := rowSpot hvr (i := (i : Int)) (by omega) (by omega)
    have hx := hf _ hmem
    have hD := hvr.2 _ hmem
    generalize L.getD ((i : Int)).toNat default = x at *
    have hnm := hx.name
    have htx := hx.text
    have hdl := decI_len x.size hx.size
    repeat' (first | (refine CL.seq ?_) | (refine CL.region ?_) | (refine CL.skip ?_) | (refine CL.condP rfl (fun _ => ?_) (fun _ => ?_) <;> try (exfalso; omega)) | (refine CL.block ?_) | (refine Gt.nil ?_; refine RW.nilw [0, 2, 3, 4, 5, 6, 10, 55] ?_; dsimp only [H.keep, H.look, H.Fr.put, Nat.beq]) | (refine Gt.move ?_; refine RW.y (Y.move rfl) rfl ?_) | (refine Gt.len ?_; (refine RW.y (Y.lenx rfl (by assumption)) rfl ?_)) | (refine Gt.lss ?_; refine RW.y (Y.lss rfl rfl) rfl ?_))
    refine CL.draw (fun w' => K0 wr w') (by kernel_rfl) (fun w1 hheap hk1 => ?_)
    have hS : K0 wr w1 := hk1
    skip
    refine AW.take 0 rfl (by kernel_rfl) (by kernel_rfl) (by kernel_rfl) rfl (by assumption) (fun w hS => Y.move rfl) ?_
    refine AW.take 1 rfl (by kernel_rfl) (by kernel_rfl) (by kernel_rfl) rfl (by assumption) (fun w hS => by exact Y.cat rfl rfl (by omega)) ?_
    refine AW.take 2 rfl (by kernel_rfl) (by kernel_rfl) (by kernel_rfl) rfl (by assumption) (fun w hS => Y.move rfl) ?_
    refine AW.take 3 rfl (by kernel_rfl) (by kernel_rfl) (by kernel_rfl) rfl (by assumption) (fun w hS => Y.move rfl) ?_
    refine AW.take 4 rfl (by kernel_rfl) (by kernel_rfl) (by kernel_rfl) rfl (by assumption) (fun w hS => Y.idx rfl rfl (hsr.keep0 hS) (by omega) (by omega)) ?_
    refine AW.take 5 rfl (by kernel_rfl) (by kernel_rfl) (by kernel_rfl) rfl (by assumption) (fun w hS => Y.fieldAddr (congrArg (fun a => some (Value.pointer (some a))) hsp) (by rfl)) ?_
    refine AW.take 6 rfl (by kernel_rfl) (by kernel_rfl) (by kernel_rfl) rfl (by assumption) (fun w hS => Y.load1A rfl (hrc _ hS).name) ?_
    refine AW.take 7 rfl (by kernel_rfl) (by kernel_rfl) (by kernel_rfl) rfl (by assumption) (fun w hS => by exact Y.cat rfl rfl (by (simp only [List.length_append, List.length_cons, List.length_nil]; omega))) ?_
    refine AW.take 8 rfl (by kernel_rfl) (by kernel_rfl) (by kernel_rfl) rfl (by assumption) (fun w hS => by exact Y.cat rfl rfl (by (simp only [List.length_append, List.length_cons, List.length_nil]; omega))) ?_
    refine AW.take 9 rfl (by kernel_rfl) (by kernel_rfl) (by kernel_rfl) rfl (by assumption) (fun w hS => Y.move rfl) ?_
    refine AW.take 10 rfl (by kernel_rfl) (by kernel_rfl) (by kernel_rfl) rfl (by assumption) (fun w hS => Y.move rfl) ?_
    refine AW.take 11 rfl (by kernel_rfl) (by kernel_rfl) (by kernel_rfl) rfl (by assumption) (fun w hS => Y.idx rfl rfl (hsr.keep0 hS) (by omega) (by omega)) ?_
    refine AW.take 12 rfl (by kernel_rfl) (by kernel_rfl) (by kernel_rfl) rfl (by assumption) (fun w hS => Y.fieldAddr (congrArg (fun a => some (Value.pointer (some a))) hsp) (by rfl)) ?_
    refine AW.take 13 rfl (by kernel_rfl) (by kernel_rfl) (by kernel_rfl) rfl (by assumption) (fun w hS => Y.loadN (cs := [_, _, _, _]) rfl rfl (hrc _ hS).ver) ?_
    refine AW.take 17 rfl (by kernel_rfl) (by kernel_rfl) (by kernel_rfl) rfl (by assumption) (fun w hS => Y.move rfl) ?_
    refine AW.take 18 rfl (by kernel_rfl) (by kernel_rfl) (by kernel_rfl) rfl (by assumption) (fun w hS => Y.move rfl) ?_
    refine AW.take 19 rfl (by kernel_rfl) (by kernel_rfl) (by kernel_rfl) rfl (by assumption) (fun w hS => Y.idx rfl rfl (hsr.keep0 hS) (by omega) (by omega)) ?_
    refine AW.take 20 rfl (by kernel_rfl) (by kernel_rfl) (by kernel_rfl) rfl (by assumption) (fun w hS => Y.fieldAddr (congrArg (fun a => some (Value.pointer (some a))) hsp) (by rfl)) ?_
    refine AW.take 21 rfl (by kernel_rfl) (by kernel_rfl) (by kernel_rfl) rfl (by assumption) (fun w hS => Y.loadN (cs := x.sum.toList) rfl (by rw [Array.length_toList, x.hsum.1]) (hrc _ hS).sum) ?_
    refine AW.take 25 rfl (by kernel_rfl) (by kernel_rfl) (by kernel_rfl) rfl (by assumption) (fun w hS => Y.move rfl) ?_
    refine AW.take 26 rfl (by kernel_rfl) (by kernel_rfl) (by kernel_rfl) rfl (by assumption) (fun w hS => Y.move rfl) ?_
    refine AW.take 27 rfl (by kernel_rfl) (by kernel_rfl) (by kernel_rfl) rfl (by assumption) (fun w hS => Y.idx rfl rfl (hsr.keep0 hS) (by omega) (by omega)) ?_
    refine AW.take 28 rfl (by kernel_rfl) (by kernel_rfl) (by kernel_rfl) rfl (by assumption) (fun w hS => Y.fieldAddr (congrArg (fun a => some (Value.pointer (some a))) hsp) (by rfl)) ?_
    refine AW.take 29 rfl (by kernel_rfl) (by kernel_rfl) (by kernel_rfl) rfl (by assumption) (fun w hS => Y.load1A rfl (hrc _ hS).size) ?_
    refine AW.next 14 rfl (by kernel_rfl) ?_
    refine RW.fn rfl rfl ((refVText _ x.v w1 ⟨_, rfl, hD.1.keep0 hk1⟩ hx.v hx.va hx.vb hx.vc).mono ?_)
    rintro e w2 ⟨hk2, rfl⟩
    refine RW.nil (Nm.then (rebase0 hS hk2 fun hS => ?_))
    refine AW.take 15 rfl (by kernel_rfl) (by kernel_rfl) (by kernel_rfl) rfl (by assumption) (fun w hS => by exact Y.cat rfl rfl (by (simp only [List.length_append, List.length_cons, List.length_nil]; omega))) ?_
    refine AW.take 16 rfl (by kernel_rfl) (by kernel_rfl) (by kernel_rfl) rfl (by assumption) (fun w hS => by exact Y.cat rfl rfl (by (simp only [List.length_append, List.length_cons, List.length_nil]; omega))) ?_
    refine AW.next 22 rfl (by kernel_rfl) ?_
    refine RW.fn rfl rfl ((hex x.sum x.hsum w2).mono ?_)
    rintro e w3 ⟨hk3, tx, rfl, htxl⟩
    refine RW.nil (Nm.then (rebase0 hS hk3 fun hS => ?_))
    refine AW.take 23 rfl (by kernel_rfl) (by kernel_rfl) (by kernel_rfl) rfl (by assumption) (fun w hS => by exact Y.cat rfl rfl (by (simp only [List.length_append, List.length_cons, List.length_nil]; omega))) ?_
    refine AW.take 24 rfl (by kernel_rfl) (by kernel_rfl) (by kernel_rfl) rfl (by assumption) (fun w hS => by exact Y.cat rfl rfl (by (simp only [List.length_append, List.length_cons, List.length_nil]; omega))) ?_
    refine AW.next 30 rfl (by kernel_rfl) ?_
    refine RW.fn rfl rfl ((dec x.size hx.size w3).mono ?_)
    rintro e w4 ⟨hk4, rfl⟩
    refine RW.nil (Nm.then (rebase0 hS hk4 fun hS => ?_))
    refine AW.take 31 rfl (by kernel_rfl) (by kernel_rfl) (by kernel_rfl) rfl (by assumption) (fun w hS => by exact Y.cat rfl rfl (by (simp only [List.length_append, List.length_cons, List.length_nil]; omega))) ?_
    refine AW.take 32 rfl (by kernel_rfl) (by kernel_rfl) (by kernel_rfl) rfl (by assumption) (fun w hS => by exact Y.cat rfl rfl (by (simp only [List.length_append, List.length_cons, List.length_nil]; omega))) ?_
    refine AW.take 33 rfl (by kernel_rfl) (by kernel_rfl) (by kernel_rfl) rfl (by assumption) (fun w hS => Y.assign rfl) ?_
    refine AW.donew [0, 3, 4] (by kernel_rfl) ?_
    dsimp only [H.keep, H.look, H.Fr.put, Nat.beq]
    have hk14 := ((hk1.trans0 hk2).trans0 hk3).trans0 hk4
    have hs4 := hsr.keep0 hk14
    have hx4 := hrc _ hk14
    obtain ⟨t4, ht4⟩ : ∃ t4, t4 = t ++ [112, 97, 99, 107, 32] ++ x.name ++ [32] ++ textV x.v ++ [32] ++ tx ++ [32] ++ decI x.size ++ [10] := ⟨_, rfl⟩
    have hl4 : t4.length ≤ i * 100000 + 3000 := by rw [ht4]; simp only [List.length_append]; omega
    rw [← ht4]
    repeat' (first | (refine CL.seq ?_) | (refine CL.region ?_) | (refine Gt.move ?_; refine RW.y (Y.move rfl) rfl ?_))
    refine RW.y (Y.idx rfl rfl hs4 (by omega) (by omega)) rfl ?_
    refine RW.y (Y.fieldAddr (congrArg (fun a => some (Value.pointer (some a))) hsp) (by rfl)) rfl ?_
    refine RW.y (Y.load1A rfl hx4.needs) rfl ?_
    refine RW.fn rfl rfl ((sorted x.np x.needs w4 (hD.2.1.keep0 hk14) (by have := hx.needs; omega)).mono ?_)
    rintro e w5 ⟨hk5, u, N, rfl, hN, hNl, hNin⟩
    have hNx : N.length ≤ 20 := by have := hx.needs; omega
    repeat' (first | (refine CL.seq ?_) | (refine CL.region ?_) | (refine CL.block ?_) | (refine Gt.nil ?_; refine RW.nilw [0, 2, 3, 4, 5, 6, 10, 55] ?_; dsimp only [H.keep, H.look, H.Fr.put, Nat.beq]) | (refine Gt.assign ?_; refine RW.y (Y.assign rfl) rfl ?_))
    refine CL.loopS [0, 3, 4, 5, 6] (fun k vals wv => ∃ (j : Nat) (s : T), vals = [v, vs s, .int .i64 (i : Int), u, .int .i64 (j : Int)] ∧ k = N.length - j ∧ j ≤ N.length ∧ s.length ≤ i * 100000 + 3000 + j * 2000 ∧ K0 w5 wv) N.length ⟨_, rfl, 0, t4, rfl, rfl, Nat.zero_le _, by omega, Kept.refl _ _⟩ ?_
    rintro k vals wv ⟨j, s, rfl, rfl, hj, hs, hkv⟩
    dsimp only [List.zip, List.zipWith]
    have hNv := hN.1.keep0 hkv
    rcases Nat.lt_or_ge j N.length with hjl | hjg
    · have htj : ((j : Int)).toNat = j := Int.toNat_natCast j
      have hnm : N.getD ((j : Int)).toNat default ∈ N := getD_mem default (by omega)
      obtain ⟨g2, o2, hsp2, hcl2⟩ := elSpot hNv ndK.len (i := (j : Int)) (by omega) (by omega)
      obtain ⟨f1, f2⟩ := hx.need _ (hNin _ hnm)
      generalize N.getD ((j : Int)).toNat default = y at *
      repeat' (first | (refine CL.seq ?_) | (refine CL.region ?_) | (refine CL.skip ?_) | (refine CL.condP rfl (fun _ => ?_) (fun _ => ?_) <;> try (exfalso; omega)) | (refine CL.block ?_) | (refine Gt.nil ?_; refine RW.nilw [0, 2, 3, 4, 5, 6, 10, 55] ?_; dsimp only [H.keep, H.look, H.Fr.put, Nat.beq]) | (refine Gt.move ?_; refine RW.y (Y.move rfl) rfl ?_) | (refine Gt.len ?_; (refine RW.y (Y.lenx rfl (by assumption)) rfl ?_)) | (refine Gt.lss ?_; refine RW.y (Y.lss rfl rfl) rfl ?_))
      refine CL.draw (fun w' => K0 wv w') (by kernel_rfl) (fun w6 hheap6 hk6 => ?_)
      have hS : K0 wv w6 := hk6
      skip
      refine AW.take 0 rfl (by kernel_rfl) (by kernel_rfl) (by kernel_rfl) rfl (by assumption) (fun w hS => Y.move rfl) ?_
      refine AW.take 1 rfl (by kernel_rfl) (by kernel_rfl) (by kernel_rfl) rfl (by assumption) (fun w hS => by exact Y.cat rfl rfl (by omega)) ?_
      refine AW.take 2 rfl (by kernel_rfl) (by kernel_rfl) (by kernel_rfl) rfl (by assumption) (fun w hS => Y.move rfl) ?_
      refine AW.take 3 rfl (by kernel_rfl) (by kernel_rfl) (by kernel_rfl) rfl (by assumption) (fun w hS => Y.move rfl) ?_
      refine AW.take 4 rfl (by kernel_rfl) (by kernel_rfl) (by kernel_rfl) rfl (by assumption) (fun w hS => Y.idx rfl rfl (hNv.keep0 hS) (by omega) (by omega)) ?_
      refine AW.take 5 rfl (by kernel_rfl) (by kernel_rfl) (by kernel_rfl) rfl (by assumption) (fun w hS => Y.fieldAddr (congrArg (fun a => some (Value.pointer (some a))) hsp2) (by rfl)) ?_
      refine AW.take 6 rfl (by kernel_rfl) (by kernel_rfl) (by kernel_rfl) rfl (by assumption) (fun w hS => Y.load1A rfl (hcl2 _ hS 0 _ rfl)) ?_
      refine AW.take 7 rfl (by kernel_rfl) (by kernel_rfl) (by kernel_rfl) rfl (by assumption) (fun w hS => by exact Y.cat rfl rfl (by (simp only [List.length_append, List.length_cons, List.length_nil]; omega))) ?_
      refine AW.take 8 rfl (by kernel_rfl) (by kernel_rfl) (by kernel_rfl) rfl (by assumption) (fun w hS => by exact Y.cat rfl rfl (by (simp only [List.length_append, List.length_cons, List.length_nil]; omega))) ?_
      refine AW.take 9 rfl (by kernel_rfl) (by kernel_rfl) (by kernel_rfl) rfl (by assumption) (fun w hS => Y.move rfl) ?_
      refine AW.take 10 rfl (by kernel_rfl) (by kernel_rfl) (by kernel_rfl) rfl (by assumption) (fun w hS => Y.move rfl) ?_
      refine AW.take 11 rfl (by kernel_rfl) (by kernel_rfl) (by kernel_rfl) rfl (by assumption) (fun w hS => Y.idx rfl rfl (hNv.keep0 hS) (by omega) (by omega)) ?_
      refine AW.take 12 rfl (by kernel_rfl) (by kernel_rfl) (by kernel_rfl) rfl (by assumption) (fun w hS => Y.fieldAddr (congrArg (fun a => some (Value.pointer (some a))) hsp2) (by rfl)) ?_
      refine AW.take 13 rfl (by kernel_rfl) (by kernel_rfl) (by kernel_rfl) rfl (by assumption) (fun w hS => Y.load1A rfl (hcl2 _ hS 3 _ rfl)) ?_
      refine AW.take 14 rfl (by kernel_rfl) (by kernel_rfl) (by kernel_rfl) rfl (by assumption) (fun w hS => by exact Y.cat rfl rfl (by (simp only [List.length_append, List.length_cons, List.length_nil]; omega))) ?_
      refine AW.take 15 rfl (by kernel_rfl) (by kernel_rfl) (by kernel_rfl) rfl (by assumption) (fun w hS => by exact Y.cat rfl rfl (by (simp only [List.length_append, List.length_cons, List.length_nil]; omega))) ?_
      refine AW.take 16 rfl (by kernel_rfl) (by kernel_rfl) (by kernel_rfl) rfl (by assumption) (fun w hS => Y.assign rfl) ?_
      refine AW.donew [0, 3, 4, 5, 6] (by kernel_rfl) ?_
      dsimp only [H.keep, H.look, H.Fr.put, Nat.beq]
      repeat' (first | (refine CL.region ?_) | (refine CL.done ?_) | (refine Nm.block ?_) | (refine Nm.then ?_) | (refine Gt.nil ?_; refine RW.nilw [0, 2, 3, 4, 5, 6, 10, 55] ?_; dsimp only [H.keep, H.look, H.Fr.put, Nat.beq]) | (refine Gt.move ?_; refine RW.y (Y.move rfl) rfl ?_) | (refine Gt.add ?_; (refine RW.y (Y.add64 rfl rfl (by omega) (by omega)) rfl ?_)) | (refine Gt.assign ?_; refine RW.y (Y.assign rfl) rfl ?_))
      exact ⟨N.length - (j + 1), _, rfl, rfl, rfl, by omega, j + 1, _, rfl, rfl, by omega, by simp only [List.length_append]; omega, hkv.trans0 hk6⟩
    · have hj : j = N.length := by omega
      subst hj
      repeat' (first | (refine CL.seq ?_) | (refine CL.region ?_) | (refine CL.condP rfl (fun _ => ?_) (fun _ => ?_) <;> try (exfalso; omega)) | (refine CL.exit ?_) | (refine Ex.then ?_) | (refine Ex.hit ?_) | (refine CL.done ?_) | (refine Nm.block ?_) | (refine Nm.then ?_) | (refine Gt.nil ?_; refine RW.nilw [0, 2, 3, 4, 5, 6, 10, 55] ?_; dsimp only [H.keep, H.look, H.Fr.put, Nat.beq]) | (refine Gt.move ?_; refine RW.y (Y.move rfl) rfl ?_) | (refine Gt.add ?_; (refine RW.y (Y.add64 rfl rfl (by omega) (by omega)) rfl ?_)) | (refine Gt.assign ?_; refine RW.y (Y.assign rfl) rfl ?_) | (refine Gt.len ?_; (refine RW.y (Y.lenx rfl (by assumption)) rfl ?_)) | (refine Gt.lss ?_; refine RW.y (Y.lss rfl rfl) rfl ?_))
      exact ⟨L.length - (i + 1), _, rfl, rfl, rfl, by omega, i + 1, s, rfl, rfl, by omega, by omega, hKr.trans0 ((hk14.trans0 hk5).trans0 hkv)⟩
  · have hi : i = L.length := by omega
    subst hi
    repeat' (first | (refine CL.seq ?_) | (refine CL.region ?_) | (refine CL.condP rfl (fun _ => ?_) (fun _ => ?_) <;> try (exfalso; omega)) | (refine CL.exit ?_) | (refine Ex.then ?_) | (refine Ex.hit ?_) | (refine CL.ret ?_) | (refine Gt.nil ?_; refine RW.nilw [0, 2, 3, 4, 5, 6, 10, 55] ?_; dsimp only [H.keep, H.look, H.Fr.put, Nat.beq]) | (refine Gt.move ?_; refine RW.y (Y.move rfl) rfl ?_) | (refine Gt.assign ?_; refine RW.y (Y.assign rfl) rfl ?_) | (refine Gt.len ?_; (refine RW.y (Y.lenx rfl (by assumption)) rfl ?_)) | (refine Gt.lss ?_; refine RW.y (Y.lss rfl rfl) rfl ?_))
    exact FQ.one rfl rfl rfl ⟨hKr, _, rfl⟩
end Go.Proofs.Ytlbegmpikggmlaa.Ne

namespace Go.Proofs.Ytlbegmpikggmlaa.H
open Go.RowKit
section
variable {M : Option (Option Nat)} {P : Program} {ops : Array Oper} {Q : Post} {rest : List Oper} {f : Fr} {w : World} {d : Nat} {ty : TypeId} {pos : String} {af : Array Edge} {t yt : TypeId} {x y : Operand}
theorem Y.eqsE {a b : List UInt8} {c : Bool} (hx : f.ev x = some (.string (B a))) (hy : f.ev y = some (.string (B b))) (h : decide (a = b) = c) : Yd P f (op1 d (.binOp .eql t x y yt) ty pos af) (.bool c) w := by
  have := Y.eqs (P := P) (w := w) (d := d) (ty := ty) (pos := pos) (af := af) (t := t) (yt := yt) hx hy
  rwa [h] at this
theorem Y.nesE {a b : List UInt8} {c : Bool} (hx : f.ev x = some (.string (B a))) (hy : f.ev y = some (.string (B b))) (h : decide (a ≠ b) = c) : Yd P f (op1 d (.binOp .neq t x y yt) ty pos af) (.bool c) w := by
  have := Y.nes (P := P) (w := w) (d := d) (ty := ty) (pos := pos) (af := af) (t := t) (yt := yt) hx hy
  rwa [h] at this
theorem Y.ltsE {a b : List UInt8} {c : Bool} (hx : f.ev x = some (.string (B a))) (hy : f.ev y = some (.string (B b))) (h : Op.bytesLess a b = c) : Yd P f (op1 d (.binOp .lss t x y yt) ty pos af) (.bool c) w := by
  have := Y.lts (P := P) (w := w) (d := d) (ty := ty) (pos := pos) (af := af) (t := t) (yt := yt) hx hy
  rwa [h] at this
theorem Y.eqiE {k : IntKind} {a b : Int} {c : Bool} (hx : f.ev x = some (.int k a)) (hy : f.ev y = some (.int k b)) (h : decide (a = b) = c) : Yd P f (op1 d (.binOp .eql t x y yt) ty pos af) (.bool c) w := by
  have := Y.eqi (P := P) (w := w) (d := d) (ty := ty) (pos := pos) (af := af) (t := t) (yt := yt) hx hy
  rwa [h] at this
theorem Y.neiE {k : IntKind} {a b : Int} {c : Bool} (hx : f.ev x = some (.int k a)) (hy : f.ev y = some (.int k b)) (h : decide (a ≠ b) = c) : Yd P f (op1 d (.binOp .neq t x y yt) ty pos af) (.bool c) w := by
  have := Y.nei (P := P) (w := w) (d := d) (ty := ty) (pos := pos) (af := af) (t := t) (yt := yt) hx hy
  rwa [h] at this
theorem Y.lssE {k : IntKind} {a b : Int} {c : Bool} (hx : f.ev x = some (.int k a)) (hy : f.ev y = some (.int k b)) (h : decide (a < b) = c) : Yd P f (op1 d (.binOp .lss t x y yt) ty pos af) (.bool c) w := by
  have := Y.lss (P := P) (w := w) (d := d) (ty := ty) (pos := pos) (af := af) (t := t) (yt := yt) hx hy
  rwa [h] at this
end
end Go.Proofs.Ytlbegmpikggmlaa.H

namespace Go.Proofs.Ytlbegmpikggmlaa.Ne
open Go.RowKit H S Ve Sp
attribute [local irreducible] H.CL H.RW H.CW H.Yd H.thenK H.blockQ Go.Calls

abbrev irowT : TypeId := 45
set_option maxHeartbeats 2000000 in
theorem find (v V : Value) (L : List Rp) (nm : T) (x0 : Ver) (w : World) (hv : GA rwK w v L) (hV : VerAt w V x0) (hf : ∀ x ∈ L, FitR x) (fx : Fit x0) : Calls Try.prog 21 #[v, vs nm, V] w fun e w' => K0 w w' ∧ ∃ (c : Array Value) (b : Bool), e = .returned (.tuple #[.agg c, .bool b]) ∧ c.size = 39 ∧ (∀ z ∈ c.toList, z.oneCell' = true) ∧ (L = [] → b = false) := by
  obtain ⟨pv, rfl, hpv⟩ := hV
  have hmx : L.length ≤ 9223372036854775807 := by have := hv.1.2.1; simpa [maxLen] using this
  refine H.enter Try.func21 Try.ntmps21 rfl rfl ?_; dsimp only [H.args]
  repeat' (first | (refine CL.seq ?_) | (refine CL.region ?_))
  refine RW.box rfl rfl (fun w1 hb1 hk1 hlt1 => ?_)
  have hb1' : w1.heap[w.heap.size]? = some (.cells #[.int .i64 x0.a, .int .i64 x0.b, .int .i64 x0.c, pv] verT (0, 0)) := hb1
  refine RW.alloc rfl (fun w2 hb2 hk2 hlt2 => ?_)
  have hb12 := hk2.at0 hb1'
  have hK2 := hk1.trans0 hk2
  have hz1 := hk1.size
  repeat' (first | (refine CL.seq ?_) | (refine CL.region ?_) | (refine CL.block ?_) | (refine Gt.nil ?_; refine RW.nilw [0, 1, 2, 5, 6, 7, 8, 12, 31] ?_; dsimp only [H.keep, H.look, H.Fr.put, Nat.beq]) | (refine Gt.assign ?_; refine RW.y (Y.assign rfl) rfl ?_))
  refine CL.loopS [0, 1, 5, 6, 7, 8] (fun k vals wr => ∃ i : Nat, vals = [v, vs nm, .pointer (some ⟨w.heap.size, 0, none⟩), .pointer (some ⟨w1.heap.size, 0, none⟩), .bool false, .int .i64 (i : Int)] ∧ k = L.length - i ∧ i ≤ L.length ∧ K0 w2 wr) L.length ⟨_, rfl, 0, rfl, rfl, Nat.zero_le _, Kept.refl _ _⟩ ?_
  rintro k vals wr ⟨i, rfl, rfl, hi, hkr⟩
  dsimp only [List.zip, List.zipWith]
  have hKr := hK2.trans0 hkr
  have hvr := hv.keep0 hKr
  have hsr := hvr.1
  have hbr1 := hkr.at0 hb12
  have hbr2 := hkr.at0 hb2
  rcases Nat.lt_or_ge i L.length with hlt | hge
  · have hti : ((i : Int)).toNat = i := Int.toNat_natCast i
    have hmem : L.getD ((i : Int)).toNat default ∈ L := getD_mem default (by omega)
    obtain ⟨g, o, hsp, hrc⟩ := rowSpot hvr (i := (i : Int)) (by omega) (by omega)
    have hx := hf _ hmem
    have hD := hvr.2 _ hmem
    have hall := elAll hsr rpC_len (i := (i : Int)) (by omega) (by omega)
    generalize hxd : L.getD ((i : Int)).toNat default = x at *
    repeat' (first | (refine CL.seq ?_) | (refine CL.region ?_) | (refine CL.skip ?_) | (refine CL.condP rfl (fun _ => ?_) (fun _ => ?_) <;> try (exfalso; omega)) | (refine CL.block ?_) | (refine Gt.nil ?_; refine RW.nilw [0, 1, 2, 5, 6, 7, 8, 12, 31] ?_; dsimp only [H.keep, H.look, H.Fr.put, Nat.beq]) | (refine Gt.move ?_; refine RW.y (Y.move rfl) rfl ?_) | (refine Gt.len ?_; (refine RW.y (Y.lenx rfl (by assumption)) rfl ?_)) | (refine Gt.lss ?_; refine RW.y (Y.lss rfl rfl) rfl ?_))
    refine CL.draw (fun w' => K0 wr w') (by kernel_rfl) (fun w3 hheap hk3 => ?_)
    have hS : K0 wr w3 := hk3
    obtain ⟨b1, hb1e⟩ : ∃ b : Bool, decide (x.name = nm) = b := ⟨_, rfl⟩
    skip
    skip
    cases b1
    · refine AW.take 0 rfl (by kernel_rfl) (by kernel_rfl) (by kernel_rfl) rfl (by assumption) (fun w hS => Y.move rfl) ?_
      refine AW.take 1 rfl (by kernel_rfl) (by kernel_rfl) (by kernel_rfl) rfl (by assumption) (fun w hS => Y.move rfl) ?_
      refine AW.take 2 rfl (by kernel_rfl) (by kernel_rfl) (by kernel_rfl) rfl (by assumption) (fun w hS => Y.idx rfl rfl (hsr.keep0 hS) (by omega) (by omega)) ?_
      refine AW.take 3 rfl (by kernel_rfl) (by kernel_rfl) (by kernel_rfl) rfl (by assumption) (fun w hS => Y.fieldAddr (congrArg (fun a => some (Value.pointer (some a))) hsp) (by rfl)) ?_
      refine AW.take 4 rfl (by kernel_rfl) (by kernel_rfl) (by kernel_rfl) rfl (by assumption) (fun w hS => Y.load1A rfl (hrc _ hS).name) ?_
      refine AW.take 5 rfl (by kernel_rfl) (by kernel_rfl) (by kernel_rfl) rfl (by assumption) (fun w hS => Y.move rfl) ?_
      refine AW.take 6 rfl (by kernel_rfl) (by kernel_rfl) (by kernel_rfl) rfl (by assumption) (fun w hS => Y.eqsE rfl rfl hb1e) ?_
      refine AW.take 7 rfl (by kernel_rfl) (by kernel_rfl) (by kernel_rfl) rfl (by assumption) (fun w hS => Y.move rfl) ?_
      refine AW.takeOff 8 rfl (by kernel_rfl) (by kernel_rfl) (by kernel_rfl) rfl rfl rfl rfl rfl (by assumption) ?_
      refine AW.takeOff 9 rfl (by kernel_rfl) (by kernel_rfl) (by kernel_rfl) rfl rfl rfl rfl rfl (by assumption) ?_
      refine AW.takeOff 10 rfl (by kernel_rfl) (by kernel_rfl) (by kernel_rfl) rfl rfl rfl rfl rfl (by assumption) ?_
      refine AW.takeOff 11 rfl (by kernel_rfl) (by kernel_rfl) (by kernel_rfl) rfl rfl rfl rfl rfl (by assumption) ?_
      refine AW.takeOff 12 rfl (by kernel_rfl) (by kernel_rfl) (by kernel_rfl) rfl rfl rfl rfl rfl (by assumption) ?_
      refine AW.takeOff 13 rfl (by kernel_rfl) (by kernel_rfl) (by kernel_rfl) rfl rfl rfl rfl rfl (by assumption) ?_
      refine AW.takeOff 14 rfl (by kernel_rfl) (by kernel_rfl) (by kernel_rfl) rfl rfl rfl rfl rfl (by assumption) ?_
      refine AW.takeOff 15 rfl (by kernel_rfl) (by kernel_rfl) (by kernel_rfl) rfl rfl rfl rfl rfl (by assumption) ?_
      refine AW.take 16 rfl (by kernel_rfl) (by kernel_rfl) (by kernel_rfl) rfl (by assumption) (fun w hS => by exact Y.pickF rfl rfl) ?_
      refine AW.donew [0, 1, 5, 6, 7, 8, 31] (by kernel_rfl) ?_
      dsimp only [H.keep, H.look, H.Fr.put, Nat.beq]
      repeat' (first | (refine CL.region ?_) | (refine CL.skip ?_) | (refine CL.condF rfl ?_) | (refine CL.done ?_) | (refine Nm.block ?_) | (refine Nm.then ?_) | (refine Gt.nil ?_; refine RW.nilw [0, 1, 2, 5, 6, 7, 8, 12, 31] ?_; dsimp only [H.keep, H.look, H.Fr.put, Nat.beq]) | (refine Gt.move ?_; refine RW.y (Y.move rfl) rfl ?_) | (refine Gt.assign ?_; refine RW.y (Y.assign rfl) rfl ?_) | (refine Gt.add ?_; refine RW.y (Y.add64 rfl rfl (by omega) (by omega)) rfl ?_))
      exact ⟨L.length - (i + 1), _, rfl, rfl, rfl, by omega, i + 1, rfl, rfl, by omega, hkr.trans0 hk3⟩
    · skip
      refine AW.take 0 rfl (by kernel_rfl) (by kernel_rfl) (by kernel_rfl) rfl (by assumption) (fun w hS => Y.move rfl) ?_
      refine AW.take 1 rfl (by kernel_rfl) (by kernel_rfl) (by kernel_rfl) rfl (by assumption) (fun w hS => Y.move rfl) ?_
      refine AW.take 2 rfl (by kernel_rfl) (by kernel_rfl) (by kernel_rfl) rfl (by assumption) (fun w hS => Y.idx rfl rfl (hsr.keep0 hS) (by omega) (by omega)) ?_
      refine AW.take 3 rfl (by kernel_rfl) (by kernel_rfl) (by kernel_rfl) rfl (by assumption) (fun w hS => Y.fieldAddr (congrArg (fun a => some (Value.pointer (some a))) hsp) (by rfl)) ?_
      refine AW.take 4 rfl (by kernel_rfl) (by kernel_rfl) (by kernel_rfl) rfl (by assumption) (fun w hS => Y.load1A rfl (hrc _ hS).name) ?_
      refine AW.take 5 rfl (by kernel_rfl) (by kernel_rfl) (by kernel_rfl) rfl (by assumption) (fun w hS => Y.move rfl) ?_
      refine AW.take 6 rfl (by kernel_rfl) (by kernel_rfl) (by kernel_rfl) rfl (by assumption) (fun w hS => Y.eqsE rfl rfl hb1e) ?_
      refine AW.take 7 rfl (by kernel_rfl) (by kernel_rfl) (by kernel_rfl) rfl (by assumption) (fun w hS => Y.move rfl) ?_
      refine AW.takeOn 8 rfl (by kernel_rfl) (by kernel_rfl) (by kernel_rfl) rfl rfl rfl rfl (by assumption) (fun w hS => Y.move rfl) ?_
      refine AW.takeOn 9 rfl (by kernel_rfl) (by kernel_rfl) (by kernel_rfl) rfl rfl rfl rfl (by assumption) (fun w hS => Y.move rfl) ?_
      refine AW.takeOn 10 rfl (by kernel_rfl) (by kernel_rfl) (by kernel_rfl) rfl rfl rfl rfl (by assumption) (fun w hS => Y.idx rfl rfl (hsr.keep0 hS) (by omega) (by omega)) ?_
      refine AW.takeOn 11 rfl (by kernel_rfl) (by kernel_rfl) (by kernel_rfl) rfl rfl rfl rfl (by assumption) (fun w hS => Y.fieldAddr (congrArg (fun a => some (Value.pointer (some a))) hsp) (by rfl)) ?_
      refine AW.takeOn 12 rfl (by kernel_rfl) (by kernel_rfl) (by kernel_rfl) rfl rfl rfl rfl (by assumption) (fun w hS => Y.loadN (cs := [_, _, _, _]) rfl rfl (hrc _ hS).ver) ?_
      refine AW.takeOn 13 rfl (by kernel_rfl) (by kernel_rfl) (by kernel_rfl) rfl rfl rfl rfl (by assumption) (fun w hS => Y.loadBlock rfl (hS.at0 hbr1) rfl) ?_
      refine AW.next 14 rfl (by kernel_rfl) ?_
      refine RW.on rfl rfl rfl ?_
      refine RW.fn rfl rfl ((refCmp _ _ x.v x0 w3 ⟨_, rfl, hD.1.keep0 hk3⟩ ⟨_, rfl, hpv.keep0 (hKr.trans0 hk3)⟩ hx.v fx).mono ?_)
      rintro e w4 ⟨hk4, rfl⟩
      refine RW.nil (Nm.then (rebase0 hS hk4 fun hS => ?_))
      obtain ⟨b2, hb2e⟩ : ∃ b : Bool, decide (cmpV x.v x0 = 0) = b := ⟨_, rfl⟩
      refine AW.takeOn 15 rfl (by kernel_rfl) (by kernel_rfl) (by kernel_rfl) rfl rfl rfl rfl (by assumption) (fun w hS => Y.eqiE rfl rfl hb2e) ?_
      refine AW.take 16 rfl (by kernel_rfl) (by kernel_rfl) (by kernel_rfl) rfl (by assumption) (fun w hS => by exact Y.pickT rfl rfl) ?_
      refine AW.donew [0, 1, 5, 6, 7, 8, 31] (by kernel_rfl) ?_
      dsimp only [H.keep, H.look, H.Fr.put, Nat.beq]
      have hk34 := hk3.trans0 hk4
      cases b2
      · repeat' (first | (refine CL.region ?_) | (refine CL.skip ?_) | (refine CL.condF rfl ?_) | (refine CL.done ?_) | (refine Nm.block ?_) | (refine Nm.then ?_) | (refine Gt.nil ?_; refine RW.nilw [0, 1, 2, 5, 6, 7, 8, 12, 31] ?_; dsimp only [H.keep, H.look, H.Fr.put, Nat.beq]) | (refine Gt.move ?_; refine RW.y (Y.move rfl) rfl ?_) | (refine Gt.assign ?_; refine RW.y (Y.assign rfl) rfl ?_) | (refine Gt.add ?_; refine RW.y (Y.add64 rfl rfl (by omega) (by omega)) rfl ?_))
        exact ⟨L.length - (i + 1), _, rfl, rfl, rfl, by omega, i + 1, rfl, rfl, by omega, hkr.trans0 hk34⟩
      · repeat' (first | (refine CL.seq ?_) | (refine CL.region ?_) | (refine CL.condT rfl ?_) | (refine Gt.move ?_; refine RW.y (Y.move rfl) rfl ?_))
        refine RW.y (Y.idx rfl rfl (hsr.keep0 hk34) (by omega) (by omega)) rfl ?_
        refine RW.y (Y.loadN (cs := rpC x) rfl (rpC_len x) (hall _ hk34)) rfl ?_
        refine RW.storeBlock rfl rfl (by rw [List.size_toArray, rpC_len]; rfl) (fun z hz => rpC_one hD.1.one hD.2.1.1.one z (by simpa using hz)) (hk34.at0 hbr2) rfl (fun w5 hb5 hk5 => ?_)
        repeat' (first | (refine CL.ret ?_) | (refine Rt.then ?_) | (refine Rt.block ?_) | (refine Gt.nil ?_; refine RW.nilw [0, 1, 2, 5, 6, 7, 8, 12, 31] ?_; dsimp only [H.keep, H.look, H.Fr.put, Nat.beq]) | (refine Gt.assign ?_; refine RW.y (Y.assign rfl) rfl ?_))
        exact FQ.res (rs := [.cell 6 45, .tmp 7]) (vs := [_, _]) rfl rfl ⟨⟨_, rfl, load_block hb5 (rpC_len x)⟩, rfl, trivial⟩ rfl ⟨(hKr.trans0 hk34).trans hk5 fun k h => .inr (by omega), _, _, rfl, by rw [List.size_toArray, rpC_len], (fun z hz => rpC_one hD.1.one hD.2.1.1.one z (by simpa using hz)), fun h => by subst h; simp at hlt⟩
  · have hi : i = L.length := by omega
    subst hi
    repeat' (first | (refine CL.seq ?_) | (refine CL.region ?_) | (refine CL.condP rfl (fun _ => ?_) (fun _ => ?_) <;> try (exfalso; omega)) | (refine CL.exit ?_) | (refine Ex.then ?_) | (refine Ex.hit ?_) | (refine Gt.nil ?_; refine RW.nilw [0, 1, 2, 5, 6, 7, 8, 12, 31] ?_; dsimp only [H.keep, H.look, H.Fr.put, Nat.beq]) | (refine Gt.move ?_; refine RW.y (Y.move rfl) rfl ?_) | (refine Gt.len ?_; (refine RW.y (Y.lenx rfl (by assumption)) rfl ?_)) | (refine Gt.lss ?_; refine RW.y (Y.lss rfl rfl) rfl ?_) | (refine RW.y (Y.build (ps := []) rfl rfl) rfl ?_))
    refine RW.storeBlock rfl rfl rfl (by decide) hbr2 rfl (fun w5 hb5 hk5 => ?_)
    repeat' (first | (refine CL.ret ?_) | (refine Gt.nil ?_; refine RW.nilw [0, 1, 2, 5, 6, 7, 8, 12, 31] ?_; dsimp only [H.keep, H.look, H.Fr.put, Nat.beq]) | (refine Gt.assign ?_; refine RW.y (Y.assign rfl) rfl ?_))
    exact FQ.res (rs := [.cell 6 45, .tmp 7]) (vs := [_, _]) rfl rfl ⟨⟨_, rfl, load_block (cs := _) hb5 rfl⟩, rfl, trivial⟩ rfl ⟨hKr.trans hk5 fun k h => .inr (by omega), _, _, rfl, rfl, by decide, fun _ => rfl⟩
end Go.Proofs.Ytlbegmpikggmlaa.Ne

namespace Go.Proofs.Ytlbegmpikggmlaa.H
open Go.RowKit
section
variable {P : Program} {ops : Array Oper} {Q : Post} {f : Fr} {w : World} {S : World → Prop}
theorem AW.three (i j k : Nat) {oi oj ok : Oper} {n : Nat} {l : Array Bool} (hr : Region.ready .any ops l = [i, j, k]) (hi : ops[i]? = some oi) (hj : ops[j]? = some oj) (hk : ops[k]? = some ok) (ki : RW none P ops (thenK (fun f w => S w ∧ AW P ops Q S n (l.setIfInBounds i true) f w) Q) [oi] f w) (kj : RW none P ops (thenK (fun f w => S w ∧ AW P ops Q S n (l.setIfInBounds j true) f w) Q) [oj] f w) (kk : RW none P ops (thenK (fun f w => S w ∧ AW P ops Q S n (l.setIfInBounds k true) f w) Q) [ok] f w) : AW P ops Q S (n + 1) l f w := by
  intro a ha
  refine wpAnyH_all hr (by simp) fun m hm => ?_
  simp only [List.mem_cons, List.not_mem_nil, or_false] at hm
  rcases hm with rfl | rfl | rfl
  · exact AW.one _ hi ki ha
  · exact AW.one _ hj kj ha
  · exact AW.one _ hk kk ha
theorem AW.four (i j k m : Nat) {oi oj ok om : Oper} {n : Nat} {l : Array Bool} (hr : Region.ready .any ops l = [i, j, k, m]) (hi : ops[i]? = some oi) (hj : ops[j]? = some oj) (hk : ops[k]? = some ok) (hm : ops[m]? = some om) (ki : RW none P ops (thenK (fun f w => S w ∧ AW P ops Q S n (l.setIfInBounds i true) f w) Q) [oi] f w) (kj : RW none P ops (thenK (fun f w => S w ∧ AW P ops Q S n (l.setIfInBounds j true) f w) Q) [oj] f w) (kk : RW none P ops (thenK (fun f w => S w ∧ AW P ops Q S n (l.setIfInBounds k true) f w) Q) [ok] f w) (km : RW none P ops (thenK (fun f w => S w ∧ AW P ops Q S n (l.setIfInBounds m true) f w) Q) [om] f w) : AW P ops Q S (n + 1) l f w := by
  intro a ha
  refine wpAnyH_all hr (by simp) fun x hx => ?_
  simp only [List.mem_cons, List.not_mem_nil, or_false] at hx
  rcases hx with rfl | rfl | rfl | rfl
  · exact AW.one _ hi ki ha
  · exact AW.one _ hj kj ha
  · exact AW.one _ hk kk ha
  · exact AW.one _ hm km ha
end
end Go.Proofs.Ytlbegmpikggmlaa.H

namespace Go.Proofs.Ytlbegmpikggmlaa.Ne
open Go.RowKit H S Ve Sp
attribute [local irreducible] H.CL H.RW H.CW H.Yd H.thenK H.blockQ Go.Calls

abbrev arcT : TypeId := 25
def u16L (l : List Nat) : List Value := l.map fun n : Nat => Value.int .u16 (n : Int)
/-- Rows of numbers, archives, in memory. -/
def srK : Dp (Rw × Value) where
  sz := 5
  enc := rwC
  D := fun w x => Sl w 1 x.2 x.1.needs.length (u16L x.1.needs)
  R := fun x g => live x.2 = some g
  len := fun _ => rfl
  ones := fun w x h z hz => by
    simp [rwC] at hz
    rcases hz with rfl | rfl | rfl | rfl | rfl <;> first | rfl | exact h.one
  keep := fun S w w' x h k hS => h.keep k fun g hg => hS g (h.lt hg) hg
  lt := fun w x g h hg => h.lt hg
def arK : Dp (List UInt8 × Value) where
  sz := 1
  enc := fun x => [x.2]
  D := fun w x => Sl w 1 x.2 x.1.length (bv x.1)
  R := fun x g => live x.2 = some g
  len := fun _ => rfl
  ones := fun w x h z hz => by
    simp at hz; subst hz; exact h.one
  keep := fun S w w' x h k hS => h.keep k fun g hg => hS g (h.lt hg) hg
  lt := fun w x g h hg => h.lt hg
/-- The version of a number. -/
def vK (k : UInt8) : Ver := (verR (parseV (cutB 45 (verK k)))).1
theorem vK_text (k : UInt8) : (textV (vK k)).length ≤ 2000 := by
  unfold vK
  cases h : parseV (cutB 45 (verK k)) with
  | none => decide +kernel
  | some v =>
    show (textV v).length ≤ 2000
    rw [parse_text h]
    have := verK_len k
    omega
/-- What is made. -/
structure MadeI (B : Nat) (w : World) (u : Value) (R : List Rp) (a : Value) (A : List (List UInt8 × Value)) : Prop where
  rows : GI rwK w B irowT u R
  arcs : GI arK w B arcT a A
  len : R.length = A.length
  fit : ∀ x ∈ R, FitR x
  pak : ∀ y ∈ A, y.1.length ≤ 30000 ∧ y.1.take 4 = [80, 65, 75, 49]
  ua : ∀ g, u.ownBlock = some g → a.ownBlock ≠ some g ∧ ∀ y ∈ A, live y.2 ≠ some g
  au : ∀ g, a.ownBlock = some g → ∀ x ∈ R, ¬ x.A g
theorem MadeI.keep0 {B : Nat} {w w' : World} {u a : Value} {R : List Rp} {A : List (List UInt8 × Value)} (h : MadeI B w u R a A) (k : K0 w w') : MadeI B w' u R a A :=
  ⟨h.rows.keep0 k, h.arcs.keep0 k, h.len, h.fit, h.pak, h.ua, h.au⟩

section
variable {f : Fr} {w : World} {d : Nat} {ty : TypeId} {pos : String} {af : Array Edge}
theorem rowBuild (x : Rp) (hnp : x.np = .slice none 0 0) {o0 o1 o2 o3 : Operand} (h0 : f.ev o0 = some (vs x.name)) (h1 : f.ev o1 = some (.agg #[.int .i64 x.v.a, .int .i64 x.v.b, .int .i64 x.v.c, x.pre])) (h2 : f.ev o2 = some (.agg x.sum)) (h3 : f.ev o3 = some (.int .i64 x.size)) : Yd Try.prog f (op1 d (.build irowT #[(0, o0), (1, o1), (2, o2), (3, o3)]) ty pos af) (.agg (rpC x).toArray) w := by
  have hl := x.hsum.1
  refine Y.build (ps := [(0, o0), (1, o1), (2, o2), (3, o3)]) (l := [vs x.name, .agg #[.int .i64 x.v.a, .int .i64 x.v.b, .int .i64 x.v.c, x.pre], .agg x.sum, .int .i64 x.size]) ?_ ?_
  · simp [Fr.evs, h0, h1, h2, h3]
  · show Instr.fill _ _ [(0, _), (1, _), (2, _), (3, _)] = _
    rw [fill_one 1 0 _ 0 (vs x.name) _ _ rfl rfl (Nat.le_of_ble_eq_true rfl)]
    rw [fill_one 4 1 _ 1 (.agg #[.int .i64 x.v.a, .int .i64 x.v.b, .int .i64 x.v.c, x.pre]) _ _ rfl rfl (Nat.le_of_ble_eq_true rfl)]
    rw [fill_one 32 5 _ 2 (.agg x.sum) _ _ rfl hl (Nat.le_of_ble_eq_true rfl)]
    rw [fill_one 1 37 _ 3 (.int .i64 x.size) _ _ rfl rfl (by show 37 + 1 ≤ ([vs x.name, .int .i64 x.v.a, .int .i64 x.v.b, .int .i64 x.v.c, x.pre] ++ x.sum.toList ++ [Value.int .i64 0, Value.slice none 0 0]).length; simp [hl])]
    rw [fill_nil]
    have hA : ∀ (X Y : List Value) (u : Value), X.length = 37 → (X ++ Y).take 37 ++ [u] ++ (X ++ Y).drop (37 + 1) = X ++ [u] ++ Y.drop 1 := fun X Y u hX => by rw [List.take_left' hX, List.drop_append, hX]; simp [hX]
    refine congrArg some (congrArg List.toArray ?_)
    refine (hA ([vs x.name, .int .i64 x.v.a, .int .i64 x.v.b, .int .i64 x.v.c, x.pre] ++ x.sum.toList) [.int .i64 0, .slice none 0 0] (.int .i64 x.size) (by simp [hl])).trans ?_
    simp [rpC, hnp]
end
/-- A row under way, in the variable that lies in block g. -/
structure Mk (B g : Nat) (x : Rp) (w : World) : Prop where
  at_ : w.heap[g]? = some (.cells (rpC x).toArray irowT (0, 0))
  hB : B ≤ g
  pre : Sl w 1 x.pre x.v.pre.length (sv x.v.pre)
  needs : GA ndK w x.np x.needs
  lp : ∀ k, live x.pre = some k → B ≤ k ∧ k ≠ g
  ln : ∀ k, live x.np = some k → B ≤ k ∧ k ≠ g
  le : ∀ y ∈ x.needs, ∀ k, y.A k → B ≤ k ∧ k ≠ g
  fit : FitR x
  len : x.needs.length ≤ 4
theorem Mk.keep0 {B g : Nat} {x : Rp} {w w' : World} (h : Mk B g x w) (k : K0 w w') : Mk B g x w' :=
  ⟨k.at0 h.at_, h.hB, h.pre.keep0 k, h.needs.keep0 k, h.lp, h.ln, h.le, h.fit, h.len⟩
theorem Mk.setK {B g : Nat} {x : Rp} {w w' : World} (h : Mk B g x w) (k : Kept (fun k => k = g) w w') : Sl w' 1 x.pre x.v.pre.length (sv x.v.pre) ∧ GA ndK w' x.np x.needs :=
  ⟨h.pre.keep k fun j hj c => (h.lp j hj).2 c, GA.keep h.needs k fun j _ hj c => hj.elim (fun hj => (h.ln j hj).2 c) fun ⟨y, hy, hj⟩ => (h.le y hy j hj).2 c⟩
theorem rpC_38 (x : Rp) : (rpC x).toArray.toList[38]? = some x.np := by
  have hl := x.hsum.1
  simp [rpC, hl]
theorem rpC_37 (x : Rp) : (rpC x).toArray.toList[37]? = some (.int .i64 x.size) := by
  have hl := x.hsum.1
  simp [rpC, hl]
def Rp.withSize (x : Rp) (n : Int) : Rp := { x with size := n }
def Rp.withSum (x : Rp) (s : Array Value) (h : Bs s 32) : Rp := { x with sum := s, hsum := h }
def Rp.withNeeds (x : Rp) (p : Value) (l : List Np) : Rp := { x with np := p, needs := l }
theorem set_size (x : Rp) (n : Int) : (rpC x).toArray.setIfInBounds 37 (.int .i64 n) = (rpC (x.withSize n)).toArray := by
  have hl := x.hsum.1
  rw [List.setIfInBounds_toArray]
  congr 1
  simp only [rpC, Rp.withSize]
  rw [List.set_append_right _ _ (by simp), List.set_append_right _ _ (by simp [hl])]
  simp [hl]
theorem set_needs (x : Rp) (p : Value) (l : List Np) : (rpC x).toArray.setIfInBounds 38 p = (rpC (x.withNeeds p l)).toArray := by
  have hl := x.hsum.1
  rw [List.setIfInBounds_toArray]
  congr 1
  simp only [rpC, Rp.withNeeds]
  rw [List.set_append_right _ _ (by simp), List.set_append_right _ _ (by simp [hl])]
  simp [hl]
theorem set_sum3 (x : Rp) (c : UInt8) : (rpC x).toArray.setIfInBounds 8 (vb c) = (rpC (x.withSum _ (x.hsum.set 3 c))).toArray := by
  have hl := x.hsum.1
  rw [List.setIfInBounds_toArray]
  congr 1
  simp only [rpC, Rp.withSum]
  rw [List.set_append_right _ _ (by simp), List.set_append_left _ _ (by simp [hl])]
  simp
theorem set_sum (x : Rp) (s : Array Value) (h : Bs s 32) : ((rpC x).toArray.toList.take 5 ++ s.toList ++ (rpC x).toArray.toList.drop (5 + 32)).toArray = (rpC (x.withSum s h)).toArray := by
  have hl := x.hsum.1
  congr 1
  have h1 : (rpC x).toArray.toList.take 5 = [vs x.name, .int .i64 x.v.a, .int .i64 x.v.b, .int .i64 x.v.c, x.pre] := rfl
  have h2 : (rpC x).toArray.toList.drop (5 + 32) = [.int .i64 x.size, x.np] := by
    show (rpC x).drop 37 = _
    rw [rpC, List.drop_append, List.drop_append]
    simp [hl]
  rw [h1, h2]
  simp [rpC, Rp.withSum]
theorem rpC_8 (x : Rp) : (rpC x).toArray.toList[8]? = x.sum[3]? := by
  have hl := x.hsum.1
  simp [rpC, hl]
theorem Mk.sum {B g : Nat} {x : Rp} {w w' : World} (h : Mk B g x w) (k : Kept (fun k => k = g) w w') {s : Array Value} {hs : Bs s 32} (hb : w'.heap[g]? = some (.cells (rpC (x.withSum s hs)).toArray irowT (0, 0))) : Mk B g (x.withSum s hs) w' :=
  ⟨hb, h.hB, (h.setK k).1, (h.setK k).2, h.lp, h.ln, h.le, ⟨h.fit.name, h.fit.v, h.fit.va, h.fit.vb, h.fit.vc, h.fit.text, h.fit.size, h.fit.needs, h.fit.need⟩, h.len⟩
theorem Mk.size {B g : Nat} {x : Rp} {w w' : World} (h : Mk B g x w) (k : Kept (fun k => k = g) w w') {n : Int} (hn : n ≤ 9223372036854775807) (hb : w'.heap[g]? = some (.cells (rpC (x.withSize n)).toArray irowT (0, 0))) : Mk B g (x.withSize n) w' :=
  ⟨hb, h.hB, (h.setK k).1, (h.setK k).2, h.lp, h.ln, h.le, ⟨h.fit.name, h.fit.v, h.fit.va, h.fit.vb, h.fit.vc, h.fit.text, hn, h.fit.needs, h.fit.need⟩, h.len⟩
theorem Mk.put {B g : Nat} {x : Rp} {w w' : World} (h : Mk B g x w) (k : Kept (fun k => k = g) w w') {p : Value} {l : List Np} (hp : GA ndK w p l) (ln : ∀ k, live p = some k → B ≤ k ∧ k ≠ g) (le : ∀ y ∈ l, ∀ k, y.A k → B ≤ k ∧ k ≠ g) (hl : l.length ≤ 4) (hf : ∀ y ∈ l, FitN y) (hb : w'.heap[g]? = some (.cells (rpC (x.withNeeds p l)).toArray irowT (0, 0))) : Mk B g (x.withNeeds p l) w' :=
  ⟨hb, h.hB, (h.setK k).1, GA.keep hp k fun j _ hj c => hj.elim (fun hj => (ln j hj).2 c) fun ⟨y, hy, hj⟩ => (le y hy j hj).2 c, h.lp, ln, le, ⟨h.fit.name, h.fit.v, h.fit.va, h.fit.vb, h.fit.vc, h.fit.text, h.fit.size, by show l.length ≤ 20; omega, hf⟩, hl⟩
theorem byte_int {a : Int} (h0 : 0 ≤ a) (h1 : a < 256) : ∃ c : UInt8, Value.int .u8 a = vb c := by
  obtain ⟨c, hc⟩ := byte_of a
  rw [wrapu8_id h0 h1] at hc
  exact ⟨c, hc⟩
theorem spanK_len (k : UInt8) : (spanK k).length ≤ 100 := by
  have key : ∀ n : Fin 10, (spanL.getD n.val []).length ≤ 100 := by decide
  exact key ⟨k.toNat % 10, Nat.mod_lt _ (by omega)⟩
end Go.Proofs.Ytlbegmpikggmlaa.Ne

namespace Go.Proofs.Ytlbegmpikggmlaa.H
open Go.RowKit
section
variable {P : Program} {ops : Array Oper} {Q : Exit → Act → World → Prop} {md : Region.Mode} {S : World → Prop} {Z : Nat → Bool}
/-- Whatever order is picked: S holds behind every operation that is none of Z. -/
def wpAnyL (P : Program) (md : Region.Mode) (ops : Array Oper) (Q : Exit → Act → World → Prop) (S : World → Prop) (Z : Nat → Bool) : Nat → Array Bool → Act → World → Prop
  | 0, listed, a, w => Region.ready md ops listed = [] ∧ Q .normal a w
  | fuel + 1, listed, a, w =>
    (Region.ready md ops listed = [] → Q .normal a w) ∧
    ∀ i ∈ Region.ready md ops listed, wpOp P ops Q i (fun a' w' => (Z i = false → S w') ∧ wpAnyL P md ops Q S Z fuel (listed.setIfInBounds i true) a' w') a w
theorem wpAny_of_L : ∀ (fuel : Nat) (listed : Array Bool) (a : Act) (w : World), wpAnyL P md ops Q S Z fuel listed a w → wpAny P md ops Q fuel listed a w
  | 0, _, _, _, h => h
  | fuel + 1, _, _, _, h => ⟨h.1, fun i hi => wpOp_mono (fun a' w' h' => wpAny_of_L fuel _ a' w' h'.2) (h.2 i hi)⟩
theorem wpAnyL_first {C : Nat → Prop} {i : Nat} {oi : Oper} {v : Value} (hi : ops[i]? = some oi) (hsel : ∀ (j : Nat) (o : Oper) cs b, ops[j]? = some o → o.op ≠ .select cs b)
    (hQ : ∀ c a w, Q (.panic c) (a.put oi.dst v) w → Q (.panic c) a w) :
    ∀ (fuel : Nat) (listed : Array Bool) (a : Act) (w : World),
      (∀ j oj, ops[j]? = some oj → j ≠ i → listed.getD j true = false → (∀ e ∈ oj.after, Region.binds md e = true → e.on ≠ i) → oi.apart ops oj = true) →
      (∀ j, C j → j ≠ i ∧ listed.getD j true = false ∧ ∃ oj, ops[j]? = some oj ∧ ∃ e ∈ oj.after, Region.binds md e = true ∧ (e.on = i ∨ C e.on)) →
      (∀ j oj, ops[j]? = some oj → Z j = true → j ≠ i → C j) →
      i ∈ Region.ready md ops listed → YieldsIf P ops S oi v a → S w →
      wpAnyL P md ops Q S Z fuel (listed.setIfInBounds i true) (a.put oi.dst v) w → wpAnyL P md ops Q S Z (fuel + 1) listed a w := by
  intro fuel
  induction fuel with
  | zero =>
    intro listed a w _ _ _ hr hy hS H
    refine ⟨fun h => (by rw [h] at hr; cases hr), fun j hj => ?_⟩
    by_cases hji : j = i
    · subst hji; exact hy.wpOp hi hS ⟨fun _ => hS, H⟩
    · have := ready_mono hj hji
      rw [H.1] at this
      cases this
  | succ fuel ih =>
    intro listed a w hfree hwait hzc hr hy hS H
    refine ⟨fun h => (by rw [h] at hr; cases hr), fun j hj => ?_⟩
    by_cases hji : j = i
    · subst hji; exact hy.wpOp hi hS ⟨fun _ => hS, H⟩
    · have h1 := H.2 j (ready_mono hj hji)
      obtain ⟨hjun, oj, hoj, hall⟩ := mem_ready.1 hj
      have hnot : ∀ e ∈ oj.after, Region.binds md e = true → e.on ≠ i := fun e he hb heq => by
        have h1 := hall e he hb
        have h0 := (mem_ready.1 hr).1
        rw [heq] at h1
        rcases Nat.lt_or_ge i listed.size with h' | h'
        · simp [h'] at h0 h1; rw [h0] at h1; cases h1
        · simp [Array.getElem?_eq_none h'] at h1
      have hlisted : ∀ e ∈ oj.after, Region.binds md e = true → listed.getD e.on true = true := fun e he hb => by
        have h1 := hall e he hb
        rcases Nat.lt_or_ge e.on listed.size with h' | h'
        · simp [h'] at h1 ⊢; exact h1
        · simp [Array.getD, Nat.not_lt.2 h']
      have hcj : ¬ C j := fun hc => by
        obtain ⟨_, _, oj', hoj', e, he, hb, ho⟩ := hwait j hc
        rw [hoj] at hoj'
        cases hoj'
        rcases ho with ho | ho
        · exact hnot e he hb ho
        · have := (hwait e.on ho).2.1
          rw [hlisted e he hb] at this
          cases this
      have hz : Z j = false := by
        cases hzj : Z j with
        | false => rfl
        | true => exact absurd (hzc j oj hoj hzj hji) hcj
      have h2 := wpOp_putIf hoj (hfree j oj hoj hji hjun hnot) (fun cs b => hsel i oi cs b hi) (fun cs b => hsel j oj cs b hoj) hQ hy h1
      have hun' : ∀ k, (listed.setIfInBounds j true).getD k true = false → listed.getD k true = false := fun k hun => by
        by_cases hjk : j = k
        · subst hjk; exact hjun
        · rw [getD_set_ne true hjk] at hun; exact hun
      refine wpOp_mono (fun a' w' h3 => ⟨h3.2.1, ih (listed.setIfInBounds j true) a' w' (fun k ok hk hki hun => hfree k ok hk hki (hun' k hun)) (fun k hk => ⟨(hwait k hk).1, by rw [getD_set_ne true (fun (h : j = k) => hcj (by rw [h]; exact hk))]; exact (hwait k hk).2.1, (hwait k hk).2.2⟩) hzc (ready_mono hr (Ne.symm hji)) h3.1 (h3.2.1 hz) ?_⟩) h2
      rw [Array.setIfInBounds_comm _ _ hji]
      exact h3.2.2
theorem wpAnyL_all {rs : List Nat} {fuel : Nat} {listed : Array Bool} {a : Act} {w : World} (hr : Region.ready md ops listed = rs) (hne : rs ≠ [])
    (h : ∀ i ∈ rs, wpOp P ops Q i (fun a' w' => (Z i = false → S w') ∧ wpAnyL P md ops Q S Z fuel (listed.setIfInBounds i true) a' w') a w) : wpAnyL P md ops Q S Z (fuel + 1) listed a w :=
  ⟨fun h0 => absurd (hr ▸ h0) hne, hr ▸ h⟩
theorem wpAnyL_done {listed : Array Bool} {a : Act} {w : World} (hr : Region.ready md ops listed = []) (h : Q .normal a w) :
    ∀ fuel, wpAnyL P md ops Q S Z fuel listed a w
  | 0 => ⟨hr, h⟩
  | _ + 1 => ⟨fun _ => h, by rw [hr]; simp⟩
/-- The writes that are left wait for number i, each one or by others of C. -/
def waits (ops : Array Oper) (Z : Nat → Bool) (l : Array Bool) (C : List Nat) (i : Nat) : Bool :=
  C.all (fun j => !(Nat.beq j i) && !(l.getD j true) && (match ops[j]? with | some o => o.after.any (fun e => Region.binds .any e && (Nat.beq e.on i || C.any (Nat.beq e.on))) | none => false)) && (List.range ops.size).all (fun j => !Z j || Nat.beq j i || C.any (Nat.beq j))
theorem any_beq {C : List Nat} {j : Nat} (h : C.any (Nat.beq j) = true) : j ∈ C := by
  obtain ⟨k, hk, e⟩ := List.any_eq_true.1 h
  rw [Nat.eq_of_beq_eq_true e]; exact hk
theorem waits_spec {l : Array Bool} {C : List Nat} {i : Nat} (h : waits ops Z l C i = true) : (∀ j, j ∈ C → j ≠ i ∧ l.getD j true = false ∧ ∃ oj, ops[j]? = some oj ∧ ∃ e ∈ oj.after, Region.binds .any e = true ∧ (e.on = i ∨ e.on ∈ C)) ∧ (∀ j oj, ops[j]? = some oj → Z j = true → j ≠ i → j ∈ C) := by
  rw [waits, Bool.and_eq_true] at h
  obtain ⟨h1, h2⟩ := h
  refine ⟨fun j hj => ?_, fun j oj ho hz hne => ?_⟩
  · have h3 := List.all_eq_true.1 h1 j hj
    rw [Bool.and_eq_true, Bool.and_eq_true] at h3
    obtain ⟨⟨h3, h4⟩, h5⟩ := h3
    refine ⟨(fun c => by subst c; rw [beq_self] at h3; cases h3), by simpa using h4, ?_⟩
    cases ho : ops[j]? with
    | none => rw [ho] at h5; cases h5
    | some oj =>
      rw [ho] at h5
      simp only [Array.any_eq_true'] at h5
      obtain ⟨e, he, h6⟩ := h5
      rw [Bool.and_eq_true, Bool.or_eq_true] at h6
      exact ⟨oj, rfl, e, he, h6.1, h6.2.imp Nat.eq_of_beq_eq_true any_beq⟩
  · have h3 := List.all_eq_true.1 h2 j (List.mem_range.2 (Array.getElem?_eq_some_iff.1 ho).1)
    rw [Bool.or_eq_true, Bool.or_eq_true] at h3
    rcases h3 with (h3 | h3) | h3
    · rw [hz] at h3; cases h3
    · exact absurd (Nat.eq_of_beq_eq_true h3) hne
    · exact any_beq h3
end
section
variable {P : Program} {ops : Array Oper} {Q : Post} {f : Fr} {w : World} {S : World → Prop} {Z : Nat → Bool}
def AL (P : Program) (ops : Array Oper) (Q : Post) (S : World → Prop) (Z : Nat → Bool) (n : Nat) (l : Array Bool) (f : Fr) (w : World) : Prop := ∀ a, Ag f a → wpAnyL P .any ops (lift Q) S Z n l a w
theorem CL.drawz {cs : List Code} {id : Nat} (S : World → Prop) (Z : Nat → Bool) (hm : P.follows .mixedOrders = true) (h : ∀ w', w'.heap = w.heap → K0 w w' → AL P ops (thenK (CL none P Q cs) Q) S Z ops.size (Array.replicate ops.size false) f w') : CL none P Q (.region id ops true :: cs) f w :=
  fun a ha => wp_region_any hm (wpAny_of_L _ _ _ _ (h { w with drawn := w.drawn + 1 } rfl (Kept.drew w) a ha))
theorem AL.takeY (i : Nat) (C : List Nat) {o : Oper} {d : Option Nat} {v : Value} {n : Nat} {l : Array Bool} (hi : ops[i]? = some o) (hz : waits ops Z l C i = true) (hs : Region.noSelect ops = true) (hf : Region.free .any ops l i = true) (hr : (Region.ready .any ops l).contains i = true)
    [PI Q] (hS : S w) {a : Act} (hy : YieldsIf P ops S o v a) (k : wpAnyL P .any ops (lift Q) S Z n (l.setIfInBounds i true) (a.put o.dst v) w) : wpAnyL P .any ops (lift Q) S Z (n + 1) l a w :=
  wpAnyL_first (C := (· ∈ C)) hi (Region.noSelect_spec hs) (PI.lift _ _) n l a w (Region.free_spec hi hf) (waits_spec hz).1 (waits_spec hz).2 (by simpa using hr) hy hS k
theorem AL.take (i : Nat) (C : List Nat) {op : Op} {ty : TypeId} {pos : String} {af : Array Edge} {d : Nat} {v : Value} {n : Nat} {l : Array Bool} (hi : ops[i]? = some { dst := some d, op := op, type := ty, pos := pos, after := af, guard := none }) (hs : Region.noSelect ops = true) (hf : Region.free .any ops l i = true) (hr : (Region.ready .any ops l).contains i = true) (hz : waits ops Z l C i = true)
    [PI Q] (hd : Nat.blt d f.n = true) (hS : S w) (hy : ∀ w, S w → Yd P f { dst := some d, op := op, type := ty, pos := pos, after := af, guard := none } v w) (k : AL P ops Q S Z n (l.setIfInBounds i true) (f.put d v) w) : AL P ops Q S Z (n + 1) l f w := by
  intro a ha
  exact AL.takeY (d := some d) i C hi hz hs hf hr hS (.inl ⟨by simp [Region.wanted], fun w' hw' => hy w' hw' a ha⟩) (k _ (ha.put v hd))
theorem AL.takeOn (i : Nat) (C : List Nat) {op : Op} {ty : TypeId} {pos : String} {af : Array Edge} {d j t : Nat} {b : Bool} {v : Value} {n : Nat} {l : Array Bool} (hi : ops[i]? = some { dst := some d, op := op, type := ty, pos := pos, after := af, guard := some (j, b) }) (hs : Region.noSelect ops = true) (hf : Region.free .any ops l i = true) (hr : (Region.ready .any ops l).contains i = true) (hz : waits ops Z l C i = true)
    [PI Q] (hj : (ops[j]?).bind (·.dst) = some t) (hn : Nat.blt t f.n = true) (hv : look f.e t = some (.bool b)) (hd : Nat.blt d f.n = true) (hS : S w) (hy : ∀ w, S w → Yd P f { dst := some d, op := op, type := ty, pos := pos, after := af, guard := none } v w) (k : AL P ops Q S Z n (l.setIfInBounds i true) (f.put d v) w) : AL P ops Q S Z (n + 1) l f w := by
  intro a ha
  exact AL.takeY (d := some d) i C hi hz hs hf hr hS (.inl ⟨by simp [Region.wanted, yields ha hj hn hv], fun w' hw' => hy w' hw' a ha⟩) (k _ (ha.put v hd))
theorem AL.takeOff (i : Nat) (C : List Nat) {op : Op} {ty : TypeId} {pos : String} {af : Array Edge} {d j t : Nat} {b c : Bool} {n : Nat} {l : Array Bool} (hi : ops[i]? = some { dst := some d, op := op, type := ty, pos := pos, after := af, guard := some (j, b) }) (hs : Region.noSelect ops = true) (hf : Region.free .any ops l i = true) (hr : (Region.ready .any ops l).contains i = true) (hz : waits ops Z l C i = true)
    [PI Q] (hj : (ops[j]?).bind (·.dst) = some t) (hn : Nat.blt t f.n = true) (hv : look f.e t = some (.bool c)) (hbc : (!c) = b) (hd : Nat.blt d f.n = true) (hS : S w) (k : AL P ops Q S Z n (l.setIfInBounds i true) (f.put d undef) w) : AL P ops Q S Z (n + 1) l f w := by
  intro a ha
  subst hbc
  exact AL.takeY (d := some d) i C hi hz hs hf hr hS (.inr ⟨by cases c <;> simp [Region.wanted, yields ha hj hn hv], rfl⟩) (k _ (ha.put undef hd))
theorem AL.takeOffU (i : Nat) (C : List Nat) {op : Op} {ty : TypeId} {pos : String} {af : Array Edge} {d j t : Nat} {b : Bool} {n : Nat} {l : Array Bool} (hi : ops[i]? = some { dst := some d, op := op, type := ty, pos := pos, after := af, guard := some (j, b) }) (hs : Region.noSelect ops = true) (hf : Region.free .any ops l i = true) (hr : (Region.ready .any ops l).contains i = true) (hz : waits ops Z l C i = true)
    [PI Q] (hj : (ops[j]?).bind (·.dst) = some t) (hn : Nat.blt t f.n = true) (hv : look f.e t = some undef) (hd : Nat.blt d f.n = true) (hS : S w) (k : AL P ops Q S Z n (l.setIfInBounds i true) (f.put d undef) w) : AL P ops Q S Z (n + 1) l f w := by
  intro a ha
  exact AL.takeY (d := some d) i C hi hz hs hf hr hS (.inr ⟨by cases b <;> simp [Region.wanted, yieldsU ha hj hn hv], rfl⟩) (k _ (ha.put undef hd))
theorem AL.donew {cs : List Code} {n : Nat} {l : Array Bool} (g : List Nat) (hr : Region.ready .any ops l = []) (h : CL none P Q cs ⟨f.n, f.ds, keep g f.e⟩ w) : AL P ops (thenK (CL none P Q cs) Q) S Z n l f w := by
  intro a ha
  have hc := RW.nilw (ops := ops) (M := none) g h a ha
  exact wpAnyL_done hr hc n
theorem AL.one (C : World → Prop) (i : Nat) {o : Oper} {n : Nat} {l : Array Bool} (hC : ∀ w, C w → Z i = false → S w) (hi : ops[i]? = some o) (k : RW none P ops (thenK (fun f w => C w ∧ AL P ops Q S Z n (l.setIfInBounds i true) f w) Q) [o] f w) {a : Act} (ha : Ag f a) : wpOp P ops (lift Q) i (fun a' w' => (Z i = false → S w') ∧ wpAnyL P .any ops (lift Q) S Z n (l.setIfInBounds i true) a' w') a w := by
  have h : wpList P ops _ [o] a w := k a ha
  unfold wpList at h
  unfold wpOp
  simp only [hi]
  have hq : ∀ x a w, lift (thenK (fun f w => C w ∧ AL P ops Q S Z n (l.setIfInBounds i true) f w) Q) x a w → match x with
      | .normal => (Z i = false → S w) ∧ wpAnyL P .any ops (lift Q) S Z n (l.setIfInBounds i true) a w
      | x => lift Q x a w := by
    intro x a w ⟨g, hg, q⟩
    cases x with
    | normal => exact ⟨hC w q.1, q.2 a hg⟩
    | _ => exact ⟨g, hg, q⟩
  by_cases hw : Region.wanted o (yielded ops a.tmps) = true
  · rw [if_pos hw] at h
    simp only [hw, if_true]
    rcases h with h | ⟨h1, a0, w0, h2⟩
    · left
      exact oper_mono (fun a w hk => hq .normal a w hk) (fun c a w hk => hq (.panic c) a w hk) (fun a w hk => hq .outgrown a w hk) h
    · exact .inr ⟨h1, a0, w0, hq .outgrown a0 w0 h2⟩
  · rw [if_neg hw] at h
    simp only [hw, if_false, Bool.false_eq_true]
    exact hq .normal _ _ h
/-- The one that may come next; it is none of the last writes. -/
theorem AL.next (i : Nat) {o : Oper} {n : Nat} {l : Array Bool} (hi : ops[i]? = some o) (hr : Region.ready .any ops l = [i]) (k : RW none P ops (thenK (fun f w => S w ∧ AL P ops Q S Z n (l.setIfInBounds i true) f w) Q) [o] f w) : AL P ops Q S Z (n + 1) l f w := by
  intro a ha
  refine wpAnyL_all hr (by simp) fun j hj => ?_
  rw [List.mem_singleton.1 hj]
  exact AL.one S i (fun _ h _ => h) hi k ha
/-- One of the last writes. -/
theorem AL.last (i : Nat) {o : Oper} {n : Nat} {l : Array Bool} (hi : ops[i]? = some o) (hr : Region.ready .any ops l = [i]) (hz : Z i = true) (k : RW none P ops (thenK (fun f w => True ∧ AL P ops Q S Z n (l.setIfInBounds i true) f w) Q) [o] f w) : AL P ops Q S Z (n + 1) l f w := by
  intro a ha
  refine wpAnyL_all hr (by simp) fun j hj => ?_
  rw [List.mem_singleton.1 hj]
  exact AL.one (fun _ => True) i (fun _ _ h => by rw [hz] at h; cases h) hi k ha
theorem AL.two (i j : Nat) {oi oj : Oper} {n : Nat} {l : Array Bool} (hr : Region.ready .any ops l = [i, j]) (hi : ops[i]? = some oi) (hj : ops[j]? = some oj) (ki : RW none P ops (thenK (fun f w => S w ∧ AL P ops Q S Z n (l.setIfInBounds i true) f w) Q) [oi] f w) (kj : RW none P ops (thenK (fun f w => S w ∧ AL P ops Q S Z n (l.setIfInBounds j true) f w) Q) [oj] f w) : AL P ops Q S Z (n + 1) l f w := by
  intro a ha
  refine wpAnyL_all hr (by simp) fun m hm => ?_
  simp only [List.mem_cons, List.not_mem_nil, or_false] at hm
  rcases hm with rfl | rfl
  · exact AL.one S _ (fun _ h _ => h) hi ki ha
  · exact AL.one S _ (fun _ h _ => h) hj kj ha
theorem AL.three (i j k : Nat) {oi oj ok : Oper} {n : Nat} {l : Array Bool} (hr : Region.ready .any ops l = [i, j, k]) (hi : ops[i]? = some oi) (hj : ops[j]? = some oj) (hk : ops[k]? = some ok) (ki : RW none P ops (thenK (fun f w => S w ∧ AL P ops Q S Z n (l.setIfInBounds i true) f w) Q) [oi] f w) (kj : RW none P ops (thenK (fun f w => S w ∧ AL P ops Q S Z n (l.setIfInBounds j true) f w) Q) [oj] f w) (kk : RW none P ops (thenK (fun f w => S w ∧ AL P ops Q S Z n (l.setIfInBounds k true) f w) Q) [ok] f w) : AL P ops Q S Z (n + 1) l f w := by
  intro a ha
  refine wpAnyL_all hr (by simp) fun m hm => ?_
  simp only [List.mem_cons, List.not_mem_nil, or_false] at hm
  rcases hm with rfl | rfl | rfl
  · exact AL.one S _ (fun _ h _ => h) hi ki ha
  · exact AL.one S _ (fun _ h _ => h) hj kj ha
  · exact AL.one S _ (fun _ h _ => h) hk kk ha
end
end Go.Proofs.Ytlbegmpikggmlaa.H

