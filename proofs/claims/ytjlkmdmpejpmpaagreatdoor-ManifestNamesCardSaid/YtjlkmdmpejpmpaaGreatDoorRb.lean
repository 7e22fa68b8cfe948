/-
  strings.Cut at one byte. Spans: plain. Contracts of the shelf of the kit at this translation, in plain words. Written by a program of the kit. strings.LastIndexByte and strings.Split at one byte. strings.Split at one byte. Versions, walked: digits, numbers, marks; the reference's. Versions, walked: the reference's split, digits, numbers, marks. Rules: cells of an array in a variable; a variable of several cells read and written whole. Versions, walked: Parse. A piece of code cut off, by the slots that are read behind it. Versions, walked: the reference's VersionOf. Versions, walked: their order. Versions, walked: Cmp, the program's. Versions, walked: Cmp, the reference's. strings.Join, by the shelf's contract. Versions, walked: their texts. Versions: plain laws of texts that are read. Lockfiles: plain. Lockfiles, plain: what is read is told as it was; what is told is read again. Versions, plain: three numbers told and read. Lockfiles, plain: what is told is read again. Lockfiles, plain: a pin is put in where a search from the end stops. Versions, walked: the next one; versions held against one another; small functions of the laws. Versions, walked: lists and versions held against one another; small functions of the laws. A new variable of several cells, and what is laid into it. Regions that draw their order: an operation whose guard was itself passed over; cells of an element. Arrays built; a number's bits turned. Bytes of a text: of a constant one, of any. Rows that grow, whose elements point at memory of their own. Rows cut in two, and joined anew. Rows of bytes held against themselves. Comparisons whose answer is known by a name; a block written in part.
-/
import Derived.Test.YtjlkmdmpejpmpaaGreatDoorRa
import Derived.Lib.Index
import Derived.Lib.IndexMore
import Derived.Shelf.Strings.OnBuilder
import Derived.Shelf.Strconv.Atoi
import Derived.Shelf.Strconv.Itoa3
import Derived.Shelf.Strings.Search3
import Derived.Shelf.Strings.Shaped
import Derived.Shelf.Strings.FieldsFuncAny
import Derived.Test.YtjlkmdmpejpmpaaGreatDoorProg
import Derived.Lib.ConvBytes
import Derived.Lib.SlBytesConst
import Derived.ChangeKeysEq
import Derived.Laws.StructEq
set_option linter.unusedVariables false
namespace Go.Proofs.YtjlkmdmpejpmpaaGreatDoor.S
open Go.RowKit H
attribute [local irreducible] H.CL H.RW H.CW H.Yd H.thenK H.blockQ Go.Calls

/-- What stands ahead of the first c, and behind it. -/
def cutB (c : UInt8) (l : List UInt8) : List UInt8 × List UInt8 × Bool :=
  if idx c l < 0 then (l, [], false) else (l.take (idx c l).toNat, l.drop ((idx c l).toNat + 1), true)
theorem idx_lt (c : UInt8) (l : List UInt8) : idx c l < l.length ∨ idx c l < 0 := by
  rcases split_idx c l with ⟨h, _⟩ | ⟨m, h, h2, _⟩
  · right; rw [idx, h]; decide
  · left; rw [idx, h]; omega
def cutV (p : List UInt8 × List UInt8 × Bool) : Value := .tuple #[vs p.1, vs p.2.1, .bool p.2.2]

theorem sliteCut (l : List UInt8) (c : UInt8) (hl : l.length ≤ 1000000000000) (w : World) : Calls Tryz.prog 90 #[vs l, vs [c]] w fun e w' => K0 w w' ∧ e = .returned (cutV (cutB c l)) := by
  refine H.enter Tryz.func90 Tryz.ntmps90 rfl rfl ?_; dsimp only [H.args]
  repeat' (first | (refine CL.seq ?_) | (refine CL.region ?_) | (refine CL.skip ?_) | (refine CL.condP rfl (fun _ => ?_) (fun _ => ?_) <;> try (exfalso; omega)) | (refine CL.condT rfl ?_) | (refine CL.condF rfl ?_) | (refine CL.cond rfl (fun _ => ?_) (fun _ => ?_)) | (refine CL.block ?_) | (refine CL.exit ?_) | (refine Ex.then ?_) | (refine Ex.hit ?_) | (refine Ex.miss rfl ?_) | (refine CL.ret ?_) | (refine Rt.then ?_) | (refine Rt.block ?_) | (refine Pn.then ?_) | (refine Pn.block ?_) | (refine CL.done ?_) | (refine Nm.block ?_) | (refine Nm.then ?_) | (refine Gt.nil ?_; refine RW.nilw [0, 1, 4, 5, 6, 7, 12] ?_; dsimp only [H.keep, H.look, H.Fr.put, Nat.beq]) | (refine Gt.assign ?_; refine RW.y (Y.assign rfl) rfl ?_) | (refine Gt.move ?_; refine RW.y (Y.move rfl) rfl ?_) | (refine Gt.geq ?_; refine RW.y (Y.geq rfl rfl) rfl ?_) | (refine Gt.slice ?_; first | (refine RW.y (Y.cuth rfl rfl (by omega) (by omega)) rfl ?_) | (refine RW.y (Y.cutl rfl rfl (by omega) (by omega)) rfl ?_)) | (refine Gt.len ?_; refine RW.y (Y.lens rfl) rfl ?_) | (refine Gt.add ?_; refine RW.y (Y.add64 rfl rfl (by omega) (by omega)) rfl ?_))
  refine RW.fn rfl rfl ((sliteIndex l c w).mono ?_)
  rintro e w' ⟨rfl, rfl⟩
  have h1 := idx_lt c l
  have h2 : -1 ≤ idx c l := idx_ge c l
  have hc1 : ([c] : List UInt8).length = 1 := rfl
  unfold cutB
  by_cases h : idx c l < 0
  · rw [if_pos h]
    repeat' (first | (refine CL.seq ?_) | (refine CL.region ?_) | (refine CL.skip ?_) | (refine CL.condP rfl (fun _ => ?_) (fun _ => ?_) <;> try (exfalso; omega)) | (refine CL.condT rfl ?_) | (refine CL.condF rfl ?_) | (refine CL.cond rfl (fun _ => ?_) (fun _ => ?_)) | (refine CL.block ?_) | (refine CL.exit ?_) | (refine Ex.then ?_) | (refine Ex.hit ?_) | (refine Ex.miss rfl ?_) | (refine CL.ret ?_) | (refine Rt.then ?_) | (refine Rt.block ?_) | (refine Pn.then ?_) | (refine Pn.block ?_) | (refine CL.done ?_) | (refine Nm.block ?_) | (refine Nm.then ?_) | (refine Gt.nil ?_; refine RW.nilw [0, 1, 4, 5, 6, 7, 12] ?_; dsimp only [H.keep, H.look, H.Fr.put, Nat.beq]) | (refine Gt.assign ?_; refine RW.y (Y.assign rfl) rfl ?_) | (refine Gt.move ?_; refine RW.y (Y.move rfl) rfl ?_) | (refine Gt.geq ?_; refine RW.y (Y.geq rfl rfl) rfl ?_) | (refine Gt.slice ?_; first | (refine RW.y (Y.cuth rfl rfl (by omega) (by omega)) rfl ?_) | (refine RW.y (Y.cutl rfl rfl (by omega) (by omega)) rfl ?_)) | (refine Gt.len ?_; refine RW.y (Y.lens rfl) rfl ?_) | (refine Gt.add ?_; refine RW.y (Y.add64 rfl rfl (by omega) (by omega)) rfl ?_))
    exact FQ.res (rs := [.tmp 4, .tmp 5, .tmp 6]) (vs := [_, _, _]) rfl rfl ⟨rfl, rfl, rfl, trivial⟩ rfl (⟨Kept.refl _ _, rfl⟩)
  · rw [if_neg h]
    repeat' (first | (refine CL.seq ?_) | (refine CL.region ?_) | (refine CL.skip ?_) | (refine CL.condP rfl (fun _ => ?_) (fun _ => ?_) <;> try (exfalso; omega)) | (refine CL.condT rfl ?_) | (refine CL.condF rfl ?_) | (refine CL.cond rfl (fun _ => ?_) (fun _ => ?_)) | (refine CL.block ?_) | (refine CL.exit ?_) | (refine Ex.then ?_) | (refine Ex.hit ?_) | (refine Ex.miss rfl ?_) | (refine CL.ret ?_) | (refine Rt.then ?_) | (refine Rt.block ?_) | (refine Pn.then ?_) | (refine Pn.block ?_) | (refine CL.done ?_) | (refine Nm.block ?_) | (refine Nm.then ?_) | (refine Gt.nil ?_; refine RW.nilw [0, 1, 4, 5, 6, 7, 12] ?_; dsimp only [H.keep, H.look, H.Fr.put, Nat.beq]) | (refine Gt.assign ?_; refine RW.y (Y.assign rfl) rfl ?_) | (refine Gt.move ?_; refine RW.y (Y.move rfl) rfl ?_) | (refine Gt.geq ?_; refine RW.y (Y.geq rfl rfl) rfl ?_) | (refine Gt.slice ?_; first | (refine RW.y (Y.cuth rfl rfl (by omega) (by omega)) rfl ?_) | (refine RW.y (Y.cutl rfl rfl (by omega) (by omega)) rfl ?_)) | (refine Gt.len ?_; refine RW.y (Y.lens rfl) rfl ?_) | (refine Gt.add ?_; refine RW.y (Y.add64 rfl rfl (by omega) (by omega)) rfl ?_))
    refine CL.draw (fun w' => Kept (fun _ => False) w w') (by kernel_rfl) (fun w1 hheap hk1 => ?_)
    have hS : Kept (fun _ => False) w w1 := hk1
    skip
    refine AW.take 0 rfl (by kernel_rfl) (by kernel_rfl) (by kernel_rfl) rfl (by assumption) (fun w hS => Y.move rfl) ?_
    refine AW.take 1 rfl (by kernel_rfl) (by kernel_rfl) (by kernel_rfl) rfl (by assumption) (fun w hS => Y.move rfl) ?_
    refine AW.take 2 rfl (by kernel_rfl) (by kernel_rfl) (by kernel_rfl) rfl (by assumption) (fun w hS => Y.cuth rfl rfl (by omega) (by omega)) ?_
    refine AW.take 3 rfl (by kernel_rfl) (by kernel_rfl) (by kernel_rfl) rfl (by assumption) (fun w hS => Y.move rfl) ?_
    refine AW.take 4 rfl (by kernel_rfl) (by kernel_rfl) (by kernel_rfl) rfl (by assumption) (fun w hS => Y.move rfl) ?_
    refine AW.take 5 rfl (by kernel_rfl) (by kernel_rfl) (by kernel_rfl) rfl (by assumption) (fun w hS => Y.move rfl) ?_
    refine AW.take 6 rfl (by kernel_rfl) (by kernel_rfl) (by kernel_rfl) rfl (by assumption) (fun w hS => by first | exact Y.lens rfl | exact Y.lenv rfl | exact Y.lenx rfl (by assumption)) ?_
    refine AW.take 7 rfl (by kernel_rfl) (by kernel_rfl) (by kernel_rfl) rfl (by assumption) (fun w hS => by first | exact Y.add64 rfl rfl (by omega) (by omega) | exact Y.addu rfl rfl (by omega) (by omega)) ?_
    refine AW.take 8 rfl (by kernel_rfl) (by kernel_rfl) (by kernel_rfl) rfl (by assumption) (fun w hS => Y.cutl rfl rfl (by omega) (by omega)) ?_
    refine AW.take 9 rfl (by kernel_rfl) (by kernel_rfl) (by kernel_rfl) rfl (by assumption) (fun w hS => Y.assign rfl) ?_
    refine AW.take 10 rfl (by kernel_rfl) (by kernel_rfl) (by kernel_rfl) rfl (by assumption) (fun w hS => Y.assign rfl) ?_
    refine AW.take 11 rfl (by kernel_rfl) (by kernel_rfl) (by kernel_rfl) rfl (by assumption) (fun w hS => Y.assign rfl) ?_
    refine AW.donew [4, 5, 6] (by kernel_rfl) ?_
    dsimp only [H.keep, H.look, H.Fr.put, Nat.beq]
    repeat' (first | (refine CL.seq ?_) | (refine CL.region ?_) | (refine CL.skip ?_) | (refine CL.condP rfl (fun _ => ?_) (fun _ => ?_) <;> try (exfalso; omega)) | (refine CL.condT rfl ?_) | (refine CL.condF rfl ?_) | (refine CL.cond rfl (fun _ => ?_) (fun _ => ?_)) | (refine CL.block ?_) | (refine CL.exit ?_) | (refine Ex.then ?_) | (refine Ex.hit ?_) | (refine Ex.miss rfl ?_) | (refine CL.ret ?_) | (refine Rt.then ?_) | (refine Rt.block ?_) | (refine Pn.then ?_) | (refine Pn.block ?_) | (refine CL.done ?_) | (refine Nm.block ?_) | (refine Nm.then ?_) | (refine Gt.nil ?_; refine RW.nilw [0, 1, 4, 5, 6, 7, 12] ?_; dsimp only [H.keep, H.look, H.Fr.put, Nat.beq]) | (refine Gt.assign ?_; refine RW.y (Y.assign rfl) rfl ?_) | (refine Gt.move ?_; refine RW.y (Y.move rfl) rfl ?_) | (refine Gt.geq ?_; refine RW.y (Y.geq rfl rfl) rfl ?_) | (refine Gt.slice ?_; first | (refine RW.y (Y.cuth rfl rfl (by omega) (by omega)) rfl ?_) | (refine RW.y (Y.cutl rfl rfl (by omega) (by omega)) rfl ?_)) | (refine Gt.len ?_; refine RW.y (Y.lens rfl) rfl ?_) | (refine Gt.add ?_; refine RW.y (Y.add64 rfl rfl (by omega) (by omega)) rfl ?_))
    refine FQ.res (rs := [.tmp 4, .tmp 5, .tmp 6]) (vs := [_, _, _]) rfl rfl ⟨rfl, rfl, rfl, trivial⟩ rfl (⟨hk1, ?_⟩)
    rw [cutV, show (idx c l + (([c] : List UInt8).length : Int)).toNat = (idx c l).toNat + 1 from by omega]
theorem cut (l : List UInt8) (c : UInt8) (hl : l.length ≤ 1000000000000) (w : World) : Calls Tryz.prog 73 #[vs l, vs [c]] w fun e w' => K0 w w' ∧ e = .returned (cutV (cutB c l)) := by
  refine H.enter Tryz.func73 Tryz.ntmps73 rfl rfl ?_; dsimp only [H.args]
  repeat' (first | (refine CL.seq ?_) | (refine CL.region ?_) | (refine CL.skip ?_) | (refine CL.condP rfl (fun _ => ?_) (fun _ => ?_) <;> try (exfalso; omega)) | (refine CL.condT rfl ?_) | (refine CL.condF rfl ?_) | (refine CL.cond rfl (fun _ => ?_) (fun _ => ?_)) | (refine CL.block ?_) | (refine CL.exit ?_) | (refine Ex.then ?_) | (refine Ex.hit ?_) | (refine Ex.miss rfl ?_) | (refine CL.ret ?_) | (refine Rt.then ?_) | (refine Rt.block ?_) | (refine Pn.then ?_) | (refine Pn.block ?_) | (refine CL.done ?_) | (refine Nm.block ?_) | (refine Nm.then ?_) | (refine Gt.nil ?_; refine RW.nilw [0, 1, 4, 5, 6] ?_; dsimp only [H.keep, H.look, H.Fr.put, Nat.beq]) | (refine Gt.assign ?_; refine RW.y (Y.assign rfl) rfl ?_) | (refine Gt.extract ?_; refine RW.y (Y.extract rfl rfl) rfl ?_) | (refine Gt.move ?_; refine RW.y (Y.move rfl) rfl ?_))
  refine RW.fn rfl rfl ((sliteCut l c hl w).mono ?_)
  rintro e w' ⟨hk, rfl⟩
  unfold cutV
  repeat' (first | (refine CL.seq ?_) | (refine CL.region ?_) | (refine CL.skip ?_) | (refine CL.condP rfl (fun _ => ?_) (fun _ => ?_) <;> try (exfalso; omega)) | (refine CL.condT rfl ?_) | (refine CL.condF rfl ?_) | (refine CL.cond rfl (fun _ => ?_) (fun _ => ?_)) | (refine CL.block ?_) | (refine CL.exit ?_) | (refine Ex.then ?_) | (refine Ex.hit ?_) | (refine Ex.miss rfl ?_) | (refine CL.ret ?_) | (refine Rt.then ?_) | (refine Rt.block ?_) | (refine Pn.then ?_) | (refine Pn.block ?_) | (refine CL.done ?_) | (refine Nm.block ?_) | (refine Nm.then ?_) | (refine Gt.nil ?_; refine RW.nilw [0, 1, 4, 5, 6] ?_; dsimp only [H.keep, H.look, H.Fr.put, Nat.beq]) | (refine Gt.assign ?_; refine RW.y (Y.assign rfl) rfl ?_) | (refine Gt.extract ?_; refine RW.y (Y.extract rfl rfl) rfl ?_) | (refine Gt.move ?_; refine RW.y (Y.move rfl) rfl ?_))
  exact FQ.res (rs := [.tmp 4, .tmp 5, .tmp 6]) (vs := [_, _, _]) rfl rfl ⟨rfl, rfl, rfl, trivial⟩ rfl (⟨hk, rfl⟩)
end Go.Proofs.YtjlkmdmpejpmpaaGreatDoor.S

namespace Go.Proofs.YtjlkmdmpejpmpaaGreatDoor.Sp
open Go.Proofs.YtjlkmdmpejpmpaaGreatDoor.S Go.Proofs.YtjlkmdmpejpmpaaGreatDoor.Ve
structure Bd where
  sign : T
  v : Ver
instance : Inhabited Bd := ⟨⟨[], default⟩⟩
structure Spn where
  any : Bool
  or : List (List Bd)
instance : Inhabited Spn := ⟨⟨false, []⟩⟩

/-- The words: what stands between spaces. -/
def wordsB (s : T) : List T := (splitB 32 s).filter (fun x => decide (x ≠ []))
/-- What stands between two bars. -/
def orB : T → List T
  | [] => [[]]
  | [a] => [[a]]
  | a :: b :: r => if a = 124 ∧ b = 124 then [] :: orB r else (a :: (orB (b :: r)).headD []) :: (orB (b :: r)).tail
def signOf (w : T) : T :=
  if w.take 2 = [60, 61] ∨ w.take 2 = [62, 61] then w.take 2
  else if w.take 1 = [60] ∨ w.take 1 = [62] ∨ w.take 1 = [61] ∨ w.take 1 = [94] ∨ w.take 1 = [126] then w.take 1 else []
def expand (g : T) (v : Ver) : List Bd :=
  if g = [] then [⟨[61], v⟩]
  else if g = [94] then [⟨[62, 61], v⟩, ⟨[60], nextV v (if 0 < v.a then 0 else if 0 < v.b then 1 else 2)⟩]
  else if g = [126] then [⟨[62, 61], v⟩, ⟨[60], nextV v 1⟩]
  else [⟨g, v⟩]
def boundsB (w : T) : Option (List Bd) := (parseV (cutB 45 (w.drop (signOf w).length))).map (expand (signOf w))
/-- Words read, behind bounds. -/
def rdW : List T → List Bd → Option (List Bd)
  | [], acc => some acc
  | x :: r, acc => match boundsB x with
    | none => none
    | some b => rdW r (acc ++ b)
def listB (x : T) : Option (List Bd) := if 1 ≤ (wordsB x).length ∧ (wordsB x).length ≤ 8 then rdW (wordsB x) [] else none
def rdL : List T → List (List Bd) → Option (List (List Bd))
  | [], acc => some acc
  | x :: r, acc => match listB x with
    | none => none
    | some b => rdL r (acc ++ [b])
/-- The same, refused as soon as it is too long. -/
def rdP : List T → List (List Bd) → Option (List (List Bd))
  | [], acc => some acc
  | x :: r, acc => if acc.length = 8 then none else match listB x with
    | none => none
    | some b => rdP r (acc ++ [b])
def spanB (s : T) : Option Spn :=
  if wordsB s = [[42]] then some ⟨true, []⟩
  else if (orB s).length ≤ 8 then (rdL (orB s) []).map (⟨false, ·⟩) else none
def spanR (o : Option Spn) : Spn × Int := match o with
  | none => (⟨false, []⟩, 61)
  | some v => (v, 0)

theorem rdP_rdL : ∀ (l : List T) (acc : List (List Bd)), acc.length ≤ 8 → rdP l acc = if acc.length + l.length ≤ 8 then rdL l acc else none := by
  intro l
  induction l with
  | nil => intro acc h; simp [rdP, rdL, h]
  | cons x r ih =>
    intro acc h
    rw [rdP]
    by_cases h8 : acc.length = 8
    · rw [if_pos h8, if_neg (by simp; omega)]
    · rw [if_neg h8]
      cases hb : listB x with
      | none => simp [rdL, hb]
      | some b =>
        simp only
        rw [ih _ (by simp; omega)]
        simp only [rdL, hb, List.length_append, List.length_cons, List.length_nil]
        have : (acc.length + (0 + 1) + r.length ≤ 8) = (acc.length + (r.length + 1) ≤ 8) := by apply propext; omega
        simp only [this]
theorem spanB_P (s : T) : spanB s = if wordsB s = [[42]] then some ⟨true, []⟩ else (rdP (orB s) []).map (⟨false, ·⟩) := by
  rw [spanB, rdP_rdL _ _ (by simp)]
  split
  · rfl
  · simp only [List.length_nil, Nat.zero_add]
    split <;> rfl

/-! Words. -/
theorem splitB_snocL (c : UInt8) : ∀ (x r : T), c ∉ x → splitB c (x ++ c :: r) = x :: splitB c r := by
  intro x r h
  induction x with
  | nil => simp [splitB]
  | cons a x ih =>
    have ha : ¬ a = c := fun e => h (by simp [e])
    rw [List.cons_append, splitB, if_neg ha, ih (fun e => h (by simp [e]))]
    simp
theorem splitB_no (c : UInt8) : ∀ (x : T), c ∉ x → splitB c x = [x] := by
  intro x h
  induction x with
  | nil => rfl
  | cons a x ih =>
    have ha : ¬ a = c := fun e => h (by simp [e])
    rw [splitB, if_neg ha, ih (fun e => h (by simp [e]))]
    simp
theorem wordsB_sp (r : T) : wordsB (32 :: r) = wordsB r := by simp [wordsB, splitB]
theorem wordsB_word (x r : T) (h : (32 : UInt8) ∉ x) (h0 : x ≠ []) : wordsB (x ++ 32 :: r) = x :: wordsB r := by
  rw [wordsB, splitB_snocL 32 x r h, List.filter_cons, if_pos (by simpa using h0), wordsB]
theorem wordsB_last (x : T) (h : (32 : UInt8) ∉ x) (h0 : x ≠ []) : wordsB x = [x] := by
  rw [wordsB, splitB_no 32 x h]; simp [h0]
theorem wordsB_len (s : T) : ∀ x ∈ wordsB s, x.length ≤ s.length ∧ x ≠ [] := by
  intro x hx
  rw [wordsB, List.mem_filter] at hx
  exact ⟨splitB_mem_len 32 s x hx.1, by simpa using hx.2⟩
theorem wordsB_num (s : T) : (wordsB s).length ≤ s.length + 1 := by
  have h2 := splitB_len 32 s
  have h3 : s.count 32 ≤ s.length := List.count_le_length
  exact Nat.le_trans (List.length_filter_le _ _) (by omega)

/-! Lists. -/
theorem orB_ne (s : T) : orB s ≠ [] := by
  induction s using orB.induct with
  | case1 => simp [orB]
  | case2 => simp [orB]
  | case3 a b r h => rw [orB, if_pos h]; simp
  | case4 a b r h => rw [orB, if_neg h]; simp
theorem orB_cons (a : UInt8) (s : T) (h : ¬ (a = 124 ∧ s.take 1 = [124])) : orB (a :: s) = (a :: (orB s).headD []) :: (orB s).tail := by
  cases s with
  | nil => simp [orB]
  | cons b r => rw [orB, if_neg (by simpa using h)]
theorem orB_bars (r : T) : orB (124 :: 124 :: r) = [] :: orB r := by rw [orB, if_pos ⟨rfl, rfl⟩]
theorem orB_len : ∀ (s : T), (orB s).length ≤ s.length + 1 := by
  intro s
  induction s using orB.induct with
  | case1 => simp [orB]
  | case2 => simp [orB]
  | case3 a b r h ih => rw [orB, if_pos h]; simp; omega
  | case4 a b r h ih => rw [orB, if_neg h]; simp at ih ⊢; omega
theorem orB_mem : ∀ (s : T), ∀ x ∈ orB s, x.length ≤ s.length := by
  intro s
  induction s using orB.induct with
  | case1 => simp [orB]
  | case2 => simp [orB]
  | case3 a b r h ih =>
    rw [orB, if_pos h]
    intro x hx
    rcases List.mem_cons.1 hx with rfl | hx
    · simp
    · have := ih x hx; simp; omega
  | case4 a b r h ih =>
    rw [orB, if_neg h]
    intro x hx
    rcases List.mem_cons.1 hx with rfl | hx
    · cases ho : orB (b :: r) with
      | nil => simp
      | cons y m => have := ih y (by rw [ho]; simp); simp at this ⊢; omega
    · have := ih x (List.mem_of_mem_tail hx); simp at this ⊢; omega

theorem occ_iff (s : T) (i : Nat) : Go.Lib.occAt s [124, 124] i = true ↔ (s.drop i).take 2 = [124, 124] := by
  rw [Go.Lib.occAt]
  cases h : s.drop i with
  | nil => simp
  | cons a m => cases m with
    | nil => simp
    | cons b m =>
      simp [List.isPrefixOf]
      constructor <;> (rintro ⟨h1, h2⟩; exact ⟨h1.symm, h2.symm⟩)

theorem orB_first : ∀ (i : Nat) (s : T), i ≤ s.length → (∀ j, j < i → ¬ (s.drop j).take 2 = [124, 124]) → (s.drop i).take 2 = [124, 124] → orB s = s.take i :: orB (s.drop (i + 2)) := by
  intro i
  induction i with
  | zero =>
    intro s _ _ h
    match s, h with
    | a :: b :: r, h =>
      simp at h
      obtain ⟨rfl, rfl⟩ := h
      rw [orB_bars]; simp
  | succ i ih =>
    intro s hl hn h
    match s, hl with
    | a :: r, hl =>
      have h1 := ih r (by simpa using hl) (fun j hj => by have := hn (j + 1) (by omega); simpa using this) (by simpa using h)
      have h0 := hn 0 (by omega)
      rw [orB_cons a r (by intro ⟨ha, hb⟩; apply h0; cases r with | nil => simp at hb | cons b r => simp at hb ⊢; exact ⟨ha, hb⟩), h1]
      simp
theorem orB_none : ∀ (s : T), (∀ j, j ≤ s.length → ¬ (s.drop j).take 2 = [124, 124]) → orB s = [s] := by
  intro s
  induction s with
  | nil => intro _; rfl
  | cons a r ih =>
    intro hn
    have h0 := hn 0 (by omega)
    rw [orB_cons a r (by intro ⟨ha, hb⟩; apply h0; cases r with | nil => simp at hb | cons b r => simp at hb ⊢; exact ⟨ha, hb⟩), ih (fun j hj => by have := hn (j + 1) (by simp; omega); simpa using this)]
    simp
/-- The library's search for two bars, and what is parted there. -/
theorem orB_index (s : T) : (Go.Lib.index s [124, 124] = -1 ∧ orB s = [s]) ∨ ∃ m : Nat, Go.Lib.index s [124, 124] = (m : Int) ∧ m + 2 ≤ s.length ∧ orB s = s.take m :: orB (s.drop (m + 2)) := by
  rcases Go.Lib.index_spec s [124, 124] with ⟨h, hn⟩ | ⟨i, h, hi, ho, hn⟩
  · exact .inl ⟨h, orB_none s fun j hj c => by have := hn j hj; rw [(occ_iff s j).2 c] at this; cases this⟩
  · have h2 := (occ_iff s i).1 ho
    refine .inr ⟨i, h, ?_, orB_first i s hi (fun j hj c => by have := hn j hj; rw [(occ_iff s j).2 c] at this; cases this) h2⟩
    have := congrArg List.length h2
    simp at this
    omega

/-! Texts, what is had, the best. -/
def bdT (b : Bd) : T := (if b.sign = [61] then [] else b.sign) ++ textV b.v
def listT (l : List Bd) : T := Go.Lib.join (l.map bdT) [32]
def spanT (s : Spn) : T := if s.any = true then [42] else Go.Lib.join (s.or.map listT) [32, 124, 124, 32]
def holdsB (b : Bd) (v : Ver) : Bool :=
  if b.sign = [61] then decide (cmpV v b.v = 0)
  else if b.sign = [60] then decide (cmpV v b.v < 0)
  else if b.sign = [60, 61] then decide (cmpV v b.v ≤ 0)
  else if b.sign = [62] then decide (0 < cmpV v b.v)
  else if b.sign = [62, 61] then decide (0 ≤ cmpV v b.v) else false
def nearB (b : Bd) (v : Ver) : Bool := decide (b.v.pre ≠ []) && decide (b.v.a = v.a) && decide (b.v.b = v.b) && decide (b.v.c = v.c)
def hasL (l : List Bd) (v : Ver) : Bool := l.all (fun b => holdsB b v) && (decide (v.pre = []) || l.any (fun b => nearB b v))
def hasB (s : Spn) (v : Ver) : Bool := if s.any = true then decide (v.pre = []) else s.or.any (fun l => hasL l v)
/-- The best of the first i. -/
def bestF (s : Spn) (l : List Ver) : Nat → Int
  | 0 => -1
  | i + 1 => if (hasB s (l.getD i default) && (decide (bestF s l i < 0) || decide (0 < cmpV (l.getD i default) (l.getD (bestF s l i).toNat default)))) = true then (i : Int) else bestF s l i
end Go.Proofs.YtjlkmdmpejpmpaaGreatDoor.Sp

namespace Go.Proofs
open Go.Shelf
def Tryz.lays156_ren : Go.Shelf.Ren := ⟨fun | 156 => 64 | 165 => 84 | 166 => 36 | 169 => 39 | 240 => 62 | 241 => 103 | 276 => 82 | 277 => 126 | n => n, fun | 31 => 23 | 9 => 9 | 3 => 3 | 4 => 4 | 0 => 0 | 20 => 20 | 72 => 76 | 76 => 79 | 70 => 74 | 37 => 39 | 75 => 78 | 127 => 108 | 164 => 123 | 5 => 5 | 80 => 83 | n => n, fun | n => n⟩
theorem Tryz.lays156 : Go.Proofs.Lays.n156 Tryz.prog Tryz.lays156_ren := {
  mixed := by kernel_rfl
  f156 := Tryz.func64.trans (congrArg some (by kernel_rfl))
  f165 := Tryz.func84.trans (congrArg some (by kernel_rfl))
  f166 := Tryz.func36.trans (congrArg some (by kernel_rfl))
  f169 := Tryz.func39.trans (congrArg some (by kernel_rfl))
  f240 := Tryz.func62.trans (congrArg some (by kernel_rfl))
  f241 := Tryz.func103.trans (congrArg some (by kernel_rfl))
  f276 := Tryz.func82.trans (congrArg some (by kernel_rfl))
  f277 := Tryz.func126.trans (congrArg some (by kernel_rfl))
  t0 := Tryz.underlying0
  a0 := Tryz.isAgg0
  z0 := Tryz.sizeOf0
  v0 := Tryz.zeroValue0
  t3 := Tryz.underlying3
  a3 := Tryz.isAgg3
  z3 := Tryz.sizeOf3
  v3 := Tryz.zeroValue3
  t4 := Tryz.underlying4
  a4 := Tryz.isAgg4
  z4 := Tryz.sizeOf4
  v4 := Tryz.zeroValue4
  t9 := Tryz.underlying9
  a9 := Tryz.isAgg9
  z9 := Tryz.sizeOf9
  v9 := Tryz.zeroValue9
  t20 := Tryz.underlying20
  a20 := Tryz.isAgg20
  z20 := Tryz.sizeOf20
  v20 := Tryz.zeroValue20
  t31 := Tryz.underlying23
  a31 := Tryz.isAgg23
  z31 := Tryz.sizeOf23
  v31 := Tryz.zeroValue23
  t37 := Tryz.underlying39
  a37 := Tryz.isAgg39
  z37 := Tryz.sizeOf39
  v37 := Tryz.zeroValue39
  t70 := Tryz.underlying74
  a70 := Tryz.isAgg74
  z70 := Tryz.sizeOf74
  v70 := Tryz.zeroValue74
  t72 := Tryz.underlying76
  a72 := Tryz.isAgg76
  z72 := Tryz.sizeOf76
  v72 := Tryz.zeroValue76
  t75 := Tryz.underlying78
  a75 := Tryz.isAgg78
  z75 := Tryz.sizeOf78
  v75 := Tryz.zeroValue78
  t76 := Tryz.underlying79
  a76 := Tryz.isAgg79
  z76 := Tryz.sizeOf79
  v76 := Tryz.zeroValue79
  t127 := Tryz.underlying108
  a127 := Tryz.isAgg108
  z127 := Tryz.sizeOf108
  v127 := Tryz.zeroValue108
  t164 := Tryz.underlying123
  a164 := Tryz.isAgg123
  z164 := Tryz.sizeOf123
  v164 := Tryz.zeroValue123 }
theorem Tryz.Builder_Extra_156 : Builder.Extra Tryz.prog Tryz.lays156_ren := {
  sizeBuilder := by kernel_rfl
  liesBuilder := by kernel_rfl
  t5 := Tryz.underlying5
  a5 := Tryz.isAgg5
  z5 := Tryz.sizeOf5
  v5 := Tryz.zeroValue5
  infoByte := by kernel_rfl
  cellsByte := by kernel_rfl
  sizeByte := by kernel_rfl
  neB5 := by decide }
open Go.RowKit in
/-- No element: the empty string; the world is as it was. (Whatever the slice's address and capacity: a nil slice too.) (LAID: no walk: one application.) -/
theorem Tryz.strings_Join_none (a : Option Addr) (c : Nat) (sep : ByteArray) (w : World) :
    Calls Tryz.prog 64 #[.slice a 0 c, .string sep] w fun e w' => e = .returned (.string ⟨#[]⟩) ∧ w' = w := Any.strings_Join_none Tryz.lays156 Tryz.Builder_Extra_156 a c sep w
open Go.RowKit in
/-- strings.Join: "Join concatenates the elements of its first argument to create a single string. The separator string sep is placed between elements in the resulting string.": HOWEVER MANY ELEMENTS. Below the heap's end the world is as it was. (LAID: no walk: one application.) -/
theorem Tryz.strings_Join (bk o c : Nat) (xs : List ByteArray) (sep : ByteArray) (w : World) (hcells : ∀ (j : Nat) x, xs[j]? = some x → w.cell? ⟨bk, o + j, none⟩ = some (.string x)) (hbk : bk < w.heap.size) (hN : xs.length ≤ 140737488355328) (hcap : xs.length ≤ c) (hlen : (Lib.join (xs.map (·.data.toList)) sep.data.toList).length ≤ 140737488355328) :
    Calls Tryz.prog 64 #[.slice (some ⟨bk, o, none⟩) xs.length c, .string sep] w fun e w' => e = .returned (.string ⟨(Lib.join (xs.map (·.data.toList)) sep.data.toList).toArray⟩) ∧ Below w.heap.size w w' := Any.strings_Join Tryz.lays156 Tryz.Builder_Extra_156 bk o c xs sep w hcells hbk hN hcap hlen
def Tryz.lays172_ren : Go.Shelf.Ren := ⟨fun | 172 => 93 | 244 => 109 | 245 => 110 | 247 => 132 | 279 => 133 | 280 => 134 | 281 => 135 | 282 => 136 | 287 => 149 | 316 => 150 | 171 => 63 | 205 => 151 | 321 => 156 | 322 => 157 | 243 => 83 | 246 => 102 | 283 => 122 | 284 => 123 | 285 => 124 | 286 => 125 | 129 => 143 | 317 => 142 | 318 => 144 | 319 => 145 | 320 => 146 | 337 => 154 | 338 => 155 | n => n, fun | 9 => 9 | 3 => 3 | 75 => 78 | 76 => 79 | 4 => 4 | 5 => 5 | 167 => 163 | 37 => 39 | 0 => 0 | 85 => 164 | 2 => 2 | 168 => 166 | 53 => 157 | 175 => 184 | 46 => 135 | 210 => 188 | 127 => 108 | 145 => 195 | 143 => 193 | 21 => 21 | 171 => 156 | 173 => 160 | 212 => 173 | 51 => 174 | 20 => 20 | 213 => 175 | 232 => 196 | 233 => 197 | 80 => 83 | n => n, fun | 15 => 4 | 16 => 5 | 17 => 1 | 18 => 6 | 19 => 7 | n => n⟩
theorem Tryz.lays172 : Go.Proofs.Lays.n172 Tryz.prog Tryz.lays172_ren := {
  mixed := by kernel_rfl
  f129 := Tryz.func143.trans (congrArg some (by kernel_rfl))
  f171 := Tryz.func63.trans (congrArg some (by kernel_rfl))
  f172 := Tryz.func93.trans (congrArg some (by kernel_rfl))
  f205 := Tryz.func151.trans (congrArg some (by kernel_rfl))
  f243 := Tryz.func83.trans (congrArg some (by kernel_rfl))
  f244 := Tryz.func109.trans (congrArg some (by kernel_rfl))
  f245 := Tryz.func110.trans (congrArg some (by kernel_rfl))
  f246 := Tryz.func102.trans (congrArg some (by kernel_rfl))
  f247 := Tryz.func132.trans (congrArg some (by kernel_rfl))
  f279 := Tryz.func133.trans (congrArg some (by kernel_rfl))
  f280 := Tryz.func134.trans (congrArg some (by kernel_rfl))
  f281 := Tryz.func135.trans (congrArg some (by kernel_rfl))
  f282 := Tryz.func136.trans (congrArg some (by kernel_rfl))
  f283 := Tryz.func122.trans (congrArg some (by kernel_rfl))
  f284 := Tryz.func123.trans (congrArg some (by kernel_rfl))
  f285 := Tryz.func124.trans (congrArg some (by kernel_rfl))
  f286 := Tryz.func125.trans (congrArg some (by kernel_rfl))
  f287 := Tryz.func149.trans (congrArg some (by kernel_rfl))
  f316 := Tryz.func150.trans (congrArg some (by kernel_rfl))
  f317 := Tryz.func142.trans (congrArg some (by kernel_rfl))
  f318 := Tryz.func144.trans (congrArg some (by kernel_rfl))
  f319 := Tryz.func145.trans (congrArg some (by kernel_rfl))
  f320 := Tryz.func146.trans (congrArg some (by kernel_rfl))
  f321 := Tryz.func156.trans (congrArg some (by kernel_rfl))
  f322 := Tryz.func157.trans (congrArg some (by kernel_rfl))
  f337 := Tryz.func154.trans (congrArg some (by kernel_rfl))
  f338 := Tryz.func155.trans (congrArg some (by kernel_rfl))
  t0 := Tryz.underlying0
  a0 := Tryz.isAgg0
  z0 := Tryz.sizeOf0
  v0 := Tryz.zeroValue0
  t2 := Tryz.underlying2
  a2 := Tryz.isAgg2
  z2 := Tryz.sizeOf2
  v2 := Tryz.zeroValue2
  t3 := Tryz.underlying3
  a3 := Tryz.isAgg3
  z3 := Tryz.sizeOf3
  v3 := Tryz.zeroValue3
  t4 := Tryz.underlying4
  a4 := Tryz.isAgg4
  z4 := Tryz.sizeOf4
  v4 := Tryz.zeroValue4
  t5 := Tryz.underlying5
  a5 := Tryz.isAgg5
  z5 := Tryz.sizeOf5
  v5 := Tryz.zeroValue5
  t9 := Tryz.underlying9
  a9 := Tryz.isAgg9
  z9 := Tryz.sizeOf9
  v9 := Tryz.zeroValue9
  t20 := Tryz.underlying20
  a20 := Tryz.isAgg20
  z20 := Tryz.sizeOf20
  v20 := Tryz.zeroValue20
  t21 := Tryz.underlying21
  a21 := Tryz.isAgg21
  z21 := Tryz.sizeOf21
  v21 := Tryz.zeroValue21
  t37 := Tryz.underlying39
  a37 := Tryz.isAgg39
  z37 := Tryz.sizeOf39
  v37 := Tryz.zeroValue39
  t46 := Tryz.underlying135
  a46 := Tryz.isAgg135
  z46 := Tryz.sizeOf135
  v46 := Tryz.zeroValue135
  t51 := Tryz.underlying174
  a51 := Tryz.isAgg174
  z51 := Tryz.sizeOf174
  v51 := Tryz.zeroValue174
  t53 := Tryz.underlying157
  a53 := Tryz.isAgg157
  z53 := Tryz.sizeOf157
  v53 := Tryz.zeroValue157
  t75 := Tryz.underlying78
  a75 := Tryz.isAgg78
  z75 := Tryz.sizeOf78
  v75 := Tryz.zeroValue78
  t76 := Tryz.underlying79
  a76 := Tryz.isAgg79
  z76 := Tryz.sizeOf79
  v76 := Tryz.zeroValue79
  t85 := Tryz.underlying164
  a85 := Tryz.isAgg164
  z85 := Tryz.sizeOf164
  v85 := Tryz.zeroValue164
  t127 := Tryz.underlying108
  a127 := Tryz.isAgg108
  z127 := Tryz.sizeOf108
  v127 := Tryz.zeroValue108
  t143 := Tryz.underlying193
  a143 := Tryz.isAgg193
  z143 := Tryz.sizeOf193
  v143 := Tryz.zeroValue193
  t145 := Tryz.underlying195
  a145 := Tryz.isAgg195
  z145 := Tryz.sizeOf195
  v145 := Tryz.zeroValue195
  t167 := Tryz.underlying163
  a167 := Tryz.isAgg163
  z167 := Tryz.sizeOf163
  v167 := Tryz.zeroValue163
  t168 := Tryz.underlying166
  a168 := Tryz.isAgg166
  z168 := Tryz.sizeOf166
  v168 := Tryz.zeroValue166
  t171 := Tryz.underlying156
  a171 := Tryz.isAgg156
  z171 := Tryz.sizeOf156
  v171 := Tryz.zeroValue156
  t173 := Tryz.underlying160
  a173 := Tryz.isAgg160
  z173 := Tryz.sizeOf160
  v173 := Tryz.zeroValue160
  t175 := Tryz.underlying184
  a175 := Tryz.isAgg184
  z175 := Tryz.sizeOf184
  v175 := Tryz.zeroValue184
  t210 := Tryz.underlying188
  a210 := Tryz.isAgg188
  z210 := Tryz.sizeOf188
  v210 := Tryz.zeroValue188
  t212 := Tryz.underlying173
  a212 := Tryz.isAgg173
  z212 := Tryz.sizeOf173
  v212 := Tryz.zeroValue173
  t213 := Tryz.underlying175
  a213 := Tryz.isAgg175
  z213 := Tryz.sizeOf175
  t232 := Tryz.underlying196
  a232 := Tryz.isAgg196
  z232 := Tryz.sizeOf196
  v232 := Tryz.zeroValue196
  t233 := Tryz.underlying197
  a233 := Tryz.isAgg197
  z233 := Tryz.sizeOf197
  v233 := Tryz.zeroValue197
  g15 := by kernel_rfl
  g16 := by kernel_rfl
  g17 := by kernel_rfl
  g18 := by kernel_rfl
  g19 := by kernel_rfl }
open Go.RowKit in
/-- strconv.Atoi: "Atoi is equivalent to ParseInt(s, 10, 0), converted to type int.": AT A DECIMAL NUMERAL OF AT MOST 18 BYTES: its value, and a nil error. The world behind the call: the one new row that the library's '[]byte(s)' lays. (LAID: no walk: one application.) -/
theorem Tryz.strconv_Atoi (s : ByteArray) (n : Int) (hl : s.size ≤ 18) (h : Lib.atoi s.data.toList = some n) (w : World) :
    Calls Tryz.prog 93 #[.string s] w fun e w' => e = .returned (.tuple #[.int .i64 n, .nilIface]) ∧ ∃ t, w' = Lib.bytesWorld w 5 t := Any.strconv_Atoi Tryz.lays172 s n hl h w
def Tryz.laysM171_ren : Go.Shelf.Ren := ⟨fun | 171 => 63 | 243 => 83 | 246 => 102 | 283 => 122 | 284 => 123 | 285 => 124 | 286 => 125 | 129 => 143 | 317 => 142 | 318 => 144 | 319 => 145 | 320 => 146 | 337 => 154 | 338 => 155 | n => n, fun | 3 => 3 | 9 => 9 | 2 => 2 | 4 => 4 | 171 => 156 | 0 => 0 | 53 => 157 | 37 => 39 | 5 => 5 | 173 => 160 | 212 => 173 | 51 => 174 | 20 => 20 | 213 => 175 | 46 => 135 | 232 => 196 | 233 => 197 | n => n, fun | 17 => 1 | 18 => 6 | 19 => 7 | n => n⟩
theorem Tryz.laysM171 : Go.Proofs.LaysM.n171 Tryz.prog Tryz.laysM171_ren := {
  mixed := by kernel_rfl
  f129 := Tryz.func143.trans (congrArg some (by kernel_rfl))
  f171 := Tryz.func63.trans (congrArg some (by kernel_rfl))
  f243 := Tryz.func83.trans (congrArg some (by kernel_rfl))
  f246 := Tryz.func102.trans (congrArg some (by kernel_rfl))
  f283 := Tryz.func122.trans (congrArg some (by kernel_rfl))
  f284 := Tryz.func123.trans (congrArg some (by kernel_rfl))
  f285 := Tryz.func124.trans (congrArg some (by kernel_rfl))
  f286 := Tryz.func125.trans (congrArg some (by kernel_rfl))
  f317 := Tryz.func142.trans (congrArg some (by kernel_rfl))
  f318 := Tryz.func144.trans (congrArg some (by kernel_rfl))
  f319 := Tryz.func145.trans (congrArg some (by kernel_rfl))
  f320 := Tryz.func146.trans (congrArg some (by kernel_rfl))
  f337 := Tryz.func154.trans (congrArg some (by kernel_rfl))
  f338 := Tryz.func155.trans (congrArg some (by kernel_rfl))
  t0 := Tryz.underlying0
  a0 := Tryz.isAgg0
  z0 := Tryz.sizeOf0
  v0 := Tryz.zeroValue0
  t2 := Tryz.underlying2
  a2 := Tryz.isAgg2
  z2 := Tryz.sizeOf2
  v2 := Tryz.zeroValue2
  t3 := Tryz.underlying3
  a3 := Tryz.isAgg3
  z3 := Tryz.sizeOf3
  v3 := Tryz.zeroValue3
  t4 := Tryz.underlying4
  a4 := Tryz.isAgg4
  z4 := Tryz.sizeOf4
  v4 := Tryz.zeroValue4
  t5 := Tryz.underlying5
  a5 := Tryz.isAgg5
  z5 := Tryz.sizeOf5
  v5 := Tryz.zeroValue5
  t9 := Tryz.underlying9
  a9 := Tryz.isAgg9
  z9 := Tryz.sizeOf9
  v9 := Tryz.zeroValue9
  t20 := Tryz.underlying20
  a20 := Tryz.isAgg20
  z20 := Tryz.sizeOf20
  v20 := Tryz.zeroValue20
  t37 := Tryz.underlying39
  a37 := Tryz.isAgg39
  z37 := Tryz.sizeOf39
  v37 := Tryz.zeroValue39
  t46 := Tryz.underlying135
  a46 := Tryz.isAgg135
  z46 := Tryz.sizeOf135
  v46 := Tryz.zeroValue135
  t51 := Tryz.underlying174
  a51 := Tryz.isAgg174
  z51 := Tryz.sizeOf174
  v51 := Tryz.zeroValue174
  t53 := Tryz.underlying157
  a53 := Tryz.isAgg157
  z53 := Tryz.sizeOf157
  v53 := Tryz.zeroValue157
  t171 := Tryz.underlying156
  a171 := Tryz.isAgg156
  z171 := Tryz.sizeOf156
  v171 := Tryz.zeroValue156
  t173 := Tryz.underlying160
  a173 := Tryz.isAgg160
  z173 := Tryz.sizeOf160
  v173 := Tryz.zeroValue160
  t212 := Tryz.underlying173
  a212 := Tryz.isAgg173
  z212 := Tryz.sizeOf173
  v212 := Tryz.zeroValue173
  t213 := Tryz.underlying175
  a213 := Tryz.isAgg175
  z213 := Tryz.sizeOf175
  t232 := Tryz.underlying196
  a232 := Tryz.isAgg196
  z232 := Tryz.sizeOf196
  v232 := Tryz.zeroValue196
  t233 := Tryz.underlying197
  a233 := Tryz.isAgg197
  z233 := Tryz.sizeOf197
  v233 := Tryz.zeroValue197
  g17 := by kernel_rfl
  g18 := by kernel_rfl
  g19 := by kernel_rfl
  i0 := by kernel_rfl
  i2 := by kernel_rfl
  i3 := by kernel_rfl
  i4 := by kernel_rfl
  i5 := by kernel_rfl
  i9 := by kernel_rfl
  i20 := by kernel_rfl
  i37 := by kernel_rfl
  i46 := by kernel_rfl
  i51 := by kernel_rfl
  i53 := by kernel_rfl
  i171 := by kernel_rfl
  i173 := by kernel_rfl
  i212 := by kernel_rfl
  i232 := by kernel_rfl
  i233 := by kernel_rfl
  m17 := by kernel_rfl
  m18 := by kernel_rfl
  m19 := by kernel_rfl }
open Go.RowKit Go.Sort Go.Lib in
/-- strconv.Itoa: "Itoa is equivalent to FormatInt(int64(i), 10).": i's DECIMAL NUMERAL ('Lib.itoa': a '-' where i is negative, then the digits), FOR EVERY int. The world behind the call: the world before it, new blocks behind the heap (the library's 'var a [24]byte'), draws. (LAID: no walk: one application.) -/
theorem Tryz.strconv_Itoa (n : Int) (h0 : -9223372036854775808 ≤ n) (h1 : n ≤ 9223372036854775807) (w : World) (htab : Lib.TabIs Tryz.prog w "internal/strconv.uint64pow10" .u64 Lib.pow10Tab) :
    Calls Tryz.prog 63 #[.int .i64 n] w fun e w' => e = .returned (.string ⟨(Lib.itoa n).toArray⟩) ∧ ∃ k os, w' = grow (w.drewN k) os := Any.strconv_Itoa Tryz.laysM171 n h0 h1 w htab
def Tryz.lays171_ren : Go.Shelf.Ren := ⟨fun | 171 => 63 | 243 => 83 | 246 => 102 | 283 => 122 | 284 => 123 | 285 => 124 | 286 => 125 | 129 => 143 | 317 => 142 | 318 => 144 | 319 => 145 | 320 => 146 | 337 => 154 | 338 => 155 | n => n, fun | 3 => 3 | 9 => 9 | 2 => 2 | 4 => 4 | 171 => 156 | 0 => 0 | 53 => 157 | 37 => 39 | 5 => 5 | 173 => 160 | 212 => 173 | 51 => 174 | 20 => 20 | 213 => 175 | 46 => 135 | 232 => 196 | 233 => 197 | n => n, fun | 17 => 1 | 18 => 6 | 19 => 7 | n => n⟩
open Go.RowKit Go.Sort Go.Lib in
def Tryz.lays143_ren : Go.Shelf.Ren := ⟨fun | 143 => 88 | 219 => 108 | 217 => 128 | 225 => 129 | 224 => 130 | 267 => 131 | 266 => 147 | 314 => 148 | n => n, fun | 9 => 9 | 3 => 3 | 4 => 4 | 5 => 5 | 46 => 135 | 146 => 182 | 51 => 174 | n => n, fun | 1 => 0 | n => n⟩
theorem Tryz.lays143 : Go.Proofs.Lays.n143 Tryz.prog Tryz.lays143_ren := {
  mixed := by kernel_rfl
  f143 := Tryz.func88.trans (congrArg some (by kernel_rfl))
  f217 := Tryz.func128.trans (congrArg some (by kernel_rfl))
  f219 := Tryz.func108.trans (congrArg some (by kernel_rfl))
  f224 := Tryz.func130.trans (congrArg some (by kernel_rfl))
  f225 := Tryz.func129.trans (congrArg some (by kernel_rfl))
  f266 := Tryz.func147.trans (congrArg some (by kernel_rfl))
  f267 := Tryz.func131.trans (congrArg some (by kernel_rfl))
  f314 := Tryz.func148.trans (congrArg some (by kernel_rfl))
  t3 := Tryz.underlying3
  a3 := Tryz.isAgg3
  z3 := Tryz.sizeOf3
  v3 := Tryz.zeroValue3
  t4 := Tryz.underlying4
  a4 := Tryz.isAgg4
  z4 := Tryz.sizeOf4
  v4 := Tryz.zeroValue4
  t5 := Tryz.underlying5
  a5 := Tryz.isAgg5
  z5 := Tryz.sizeOf5
  v5 := Tryz.zeroValue5
  t9 := Tryz.underlying9
  a9 := Tryz.isAgg9
  z9 := Tryz.sizeOf9
  v9 := Tryz.zeroValue9
  t46 := Tryz.underlying135
  a46 := Tryz.isAgg135
  z46 := Tryz.sizeOf135
  v46 := Tryz.zeroValue135
  t51 := Tryz.underlying174
  a51 := Tryz.isAgg174
  z51 := Tryz.sizeOf174
  v51 := Tryz.zeroValue174
  t146 := Tryz.underlying182
  a146 := Tryz.isAgg182
  z146 := Tryz.sizeOf182
  v146 := Tryz.zeroValue182
  g1 := by kernel_rfl }
open Go.RowKit Go.Lib in
open Go.RowKit Go.Lib in
/-- strings.Index: "Index returns the index of the first instance of substr in s, or -1 if substr is not present in s.": IT RETURNS 'Lib.index s substr'; the world is as it was. (LAID: no walk: one application.) -/
theorem Tryz.strings_Index (s sub : ByteArray) (m : Int) (w : World) (hs : s.size < 4294967281) (hm : w.cell? ⟨0, 0, none⟩ = some (.int .i64 m)) :
    Calls Tryz.prog 88 #[.string s, .string sub] w fun e w' => e = .returned (.int .i64 (Lib.index s.data.toList sub.data.toList)) ∧ w' = w := Any.strings_Index Tryz.lays143 s sub m w hs hm
def Tryz.laysM143_ren : Go.Shelf.Ren := ⟨fun | 143 => 88 | 219 => 108 | 217 => 128 | 225 => 129 | 224 => 130 | 267 => 131 | 266 => 147 | 314 => 148 | n => n, fun | 9 => 9 | 3 => 3 | 4 => 4 | 5 => 5 | 46 => 135 | 146 => 182 | 51 => 174 | n => n, fun | 1 => 0 | n => n⟩
open Go.RowKit Go.Lib in
def Tryz.lays229_ren : Go.Shelf.Ren := ⟨fun | 229 => 98 | n => n, fun | 9 => 9 | 40 => 134 | 31 => 23 | 152 => 151 | 3 => 3 | 0 => 0 | 4 => 4 | 21 => 21 | 154 => 153 | n => n, fun | n => n⟩
theorem Tryz.lays229 : Go.Proofs.Lays.n229 Tryz.prog Tryz.lays229_ren := {
  mixed := by kernel_rfl
  f229 := Tryz.func98.trans (congrArg some (by kernel_rfl))
  t0 := Tryz.underlying0
  a0 := Tryz.isAgg0
  z0 := Tryz.sizeOf0
  v0 := Tryz.zeroValue0
  t3 := Tryz.underlying3
  a3 := Tryz.isAgg3
  z3 := Tryz.sizeOf3
  v3 := Tryz.zeroValue3
  t4 := Tryz.underlying4
  a4 := Tryz.isAgg4
  z4 := Tryz.sizeOf4
  v4 := Tryz.zeroValue4
  t9 := Tryz.underlying9
  a9 := Tryz.isAgg9
  z9 := Tryz.sizeOf9
  v9 := Tryz.zeroValue9
  t21 := Tryz.underlying21
  a21 := Tryz.isAgg21
  z21 := Tryz.sizeOf21
  v21 := Tryz.zeroValue21
  t31 := Tryz.underlying23
  a31 := Tryz.isAgg23
  z31 := Tryz.sizeOf23
  v31 := Tryz.zeroValue23
  t40 := Tryz.underlying134
  a40 := Tryz.isAgg134
  z40 := Tryz.sizeOf134
  v40 := Tryz.zeroValue134
  t152 := Tryz.underlying151
  a152 := Tryz.isAgg151
  z152 := Tryz.sizeOf151
  v152 := Tryz.zeroValue151
  t154 := Tryz.underlying153
  a154 := Tryz.isAgg153
  z154 := Tryz.sizeOf153
  v154 := Tryz.zeroValue153 }
end Go.Proofs

namespace Go.Proofs.YtjlkmdmpejpmpaaGreatDoor.S
open Go.RowKit H
attribute [local irreducible] H.CL H.RW H.CW H.Yd H.thenK H.blockQ Go.Calls

def lastIdxA (c : UInt8) (l : List UInt8) : Nat → Int
  | 0 => -1
  | n + 1 => if l.getD n 0 = c then (n : Int) else lastIdxA c l n
def lastIdx (c : UInt8) (l : List UInt8) : Int := lastIdxA c l l.length
theorem u8_eq {a b : UInt8} (h : (a.toNat : Int) = (b.toNat : Int)) : a = b := UInt8.toNat_inj.1 (by omega)

end Go.Proofs.YtjlkmdmpejpmpaaGreatDoor.S

namespace Go.Proofs.YtjlkmdmpejpmpaaGreatDoor.S
open Go.RowKit H
attribute [local irreducible] H.CL H.RW H.CW H.Yd H.thenK H.blockQ Go.Calls

abbrev strT : TypeId := 9
theorem set_rep (done : List (List UInt8)) (x : List UInt8) (k : Nat) : (sv done ++ List.replicate (k + 1) (vs [])).set done.length (vs x) = sv (done ++ [x]) ++ List.replicate k (vs []) := by
  rw [List.set_append_right _ _ (by simp)]
  simp [List.replicate_succ]

set_option maxHeartbeats 1000000 in
theorem genSplit (l : List UInt8) (c : UInt8) (hl : l.length ≤ 1000000) (w : World) : Calls Tryz.prog 71 #[vs l, vs [c], .int .i64 0, .int .i64 (-1)] w fun e w' => ∃ v', e = .returned v' ∧ w'.ownsRow w.heap.size strT 1 v' (splitB c l).length (sv (splitB c l)) ∧ K0 w w' := by
  have hcl : l.count c ≤ l.length := List.count_le_length
  have hmin : min ((l.count c : Int) + 1) ((l.length : Int) + 1) = ((l.count c + 1 : Nat) : Int) := by omega
  have hlen := splitB_len c l
  refine H.enter Tryz.func71 Tryz.ntmps71 rfl rfl ?_; dsimp only [H.args]
  repeat' (first | (refine CL.seq ?_) | (refine CL.region ?_) | (refine CL.skip ?_) | (refine CL.condP rfl (fun _ => ?_) (fun _ => ?_) <;> try (exfalso; omega)) | (refine CL.condT rfl ?_) | (refine CL.condF rfl ?_) | (refine CL.cond rfl (fun _ => ?_) (fun _ => ?_)) | (refine CL.block ?_) | (refine CL.exit ?_) | (refine Ex.then ?_) | (refine Ex.hit ?_) | (refine Ex.miss rfl ?_) | (refine CL.ret ?_) | (refine Rt.then ?_) | (refine Rt.block ?_) | (refine Pn.then ?_) | (refine Pn.block ?_) | (refine CL.done ?_) | (refine Nm.block ?_) | (refine Nm.then ?_) | (refine Gt.nil ?_; refine RW.nilw [0, 1, 2, 3, 8, 9, 10, 11, 13, 15, 20, 36, 41] ?_; dsimp only [H.keep, H.look, H.Fr.put, Nat.beq]) | (refine Gt.move ?_; refine RW.y (Y.move rfl) rfl ?_) | (refine Gt.assign ?_; refine RW.y (Y.assign rfl) rfl ?_) | (refine Gt.add ?_; refine RW.y (Y.add64 rfl rfl (by omega) (by omega)) rfl ?_) | (refine Gt.lss ?_; refine RW.y (Y.lss rfl rfl) rfl ?_) | (refine Gt.len ?_; refine RW.y (Y.lens rfl) rfl ?_) | (refine Gt.idx ?_; refine RW.elemS rfl rfl rfl rfl (by assumption) (by omega) (by omega) ?_) | (refine Gt.eql ?_; first | (refine RW.y (Y.eqi rfl rfl) rfl ?_) | (refine RW.y (Y.eqs rfl rfl) rfl ?_)) | (refine Gt.call ?_; refine RW.y (Y.min2 rfl rfl) rfl ?_) | (refine Gt.sub ?_; refine RW.y (Y.sub64 rfl rfl (by omega) (by omega)) rfl ?_) | (refine Gt.slice ?_; first | (refine RW.y (Y.cuth rfl rfl (by omega) (by omega)) rfl ?_) | (refine RW.y (Y.cutl rfl rfl (by omega) (by omega)) rfl ?_)))
  · rename_i h; cases h
  refine RW.fn rfl rfl ((count l c w).mono ?_)
  rintro e w1 ⟨rfl, rfl⟩
  repeat' (first | (refine CL.seq ?_) | (refine CL.region ?_) | (refine CL.skip ?_) | (refine CL.condP rfl (fun _ => ?_) (fun _ => ?_) <;> try (exfalso; omega)) | (refine CL.condT rfl ?_) | (refine CL.condF rfl ?_) | (refine CL.cond rfl (fun _ => ?_) (fun _ => ?_)) | (refine CL.block ?_) | (refine CL.exit ?_) | (refine Ex.then ?_) | (refine Ex.hit ?_) | (refine Ex.miss rfl ?_) | (refine CL.ret ?_) | (refine Rt.then ?_) | (refine Rt.block ?_) | (refine Pn.then ?_) | (refine Pn.block ?_) | (refine CL.done ?_) | (refine Nm.block ?_) | (refine Nm.then ?_) | (refine Gt.nil ?_; refine RW.nilw [0, 1, 2, 3, 8, 9, 10, 11, 13, 15, 20, 36, 41] ?_; dsimp only [H.keep, H.look, H.Fr.put, Nat.beq]) | (refine Gt.move ?_; refine RW.y (Y.move rfl) rfl ?_) | (refine Gt.assign ?_; refine RW.y (Y.assign rfl) rfl ?_) | (refine Gt.add ?_; refine RW.y (Y.add64 rfl rfl (by omega) (by omega)) rfl ?_) | (refine Gt.lss ?_; refine RW.y (Y.lss rfl rfl) rfl ?_) | (refine Gt.len ?_; refine RW.y (Y.lens rfl) rfl ?_) | (refine Gt.idx ?_; refine RW.elemS rfl rfl rfl rfl (by assumption) (by omega) (by omega) ?_) | (refine Gt.eql ?_; first | (refine RW.y (Y.eqi rfl rfl) rfl ?_) | (refine RW.y (Y.eqs rfl rfl) rfl ?_)) | (refine Gt.call ?_; refine RW.y (Y.min2 rfl rfl) rfl ?_) | (refine Gt.sub ?_; refine RW.y (Y.sub64 rfl rfl (by omega) (by omega)) rfl ?_) | (refine Gt.slice ?_; first | (refine RW.y (Y.cuth rfl rfl (by omega) (by omega)) rfl ?_) | (refine RW.y (Y.cutl rfl rfl (by omega) (by omega)) rfl ?_)))
  rw [hmin]
  refine RW.make1 rfl rfl rfl rfl (by omega) (by omega) (fun v1 w1 how1 hk1 => ?_)
  repeat' (first | (refine CL.seq ?_) | (refine CL.region ?_) | (refine CL.skip ?_) | (refine CL.condP rfl (fun _ => ?_) (fun _ => ?_) <;> try (exfalso; omega)) | (refine CL.condT rfl ?_) | (refine CL.condF rfl ?_) | (refine CL.cond rfl (fun _ => ?_) (fun _ => ?_)) | (refine CL.block ?_) | (refine CL.exit ?_) | (refine Ex.then ?_) | (refine Ex.hit ?_) | (refine Ex.miss rfl ?_) | (refine CL.ret ?_) | (refine Rt.then ?_) | (refine Rt.block ?_) | (refine Pn.then ?_) | (refine Pn.block ?_) | (refine CL.done ?_) | (refine Nm.block ?_) | (refine Nm.then ?_) | (refine Gt.nil ?_; refine RW.nilw [0, 1, 2, 3, 8, 9, 10, 11, 13, 15, 20, 36, 41] ?_; dsimp only [H.keep, H.look, H.Fr.put, Nat.beq]) | (refine Gt.move ?_; refine RW.y (Y.move rfl) rfl ?_) | (refine Gt.assign ?_; refine RW.y (Y.assign rfl) rfl ?_) | (refine Gt.add ?_; refine RW.y (Y.add64 rfl rfl (by omega) (by omega)) rfl ?_) | (refine Gt.lss ?_; refine RW.y (Y.lss rfl rfl) rfl ?_) | (refine Gt.len ?_; refine RW.y (Y.lens rfl) rfl ?_) | (refine Gt.idx ?_; refine RW.elemS rfl rfl rfl rfl (by assumption) (by omega) (by omega) ?_) | (refine Gt.eql ?_; first | (refine RW.y (Y.eqi rfl rfl) rfl ?_) | (refine RW.y (Y.eqs rfl rfl) rfl ?_)) | (refine Gt.call ?_; refine RW.y (Y.min2 rfl rfl) rfl ?_) | (refine Gt.sub ?_; refine RW.y (Y.sub64 rfl rfl (by omega) (by omega)) rfl ?_) | (refine Gt.slice ?_; first | (refine RW.y (Y.cuth rfl rfl (by omega) (by omega)) rfl ?_) | (refine RW.y (Y.cutl rfl rfl (by omega) (by omega)) rfl ?_)))
  refine CL.loopS [0, 1, 2, 3, 9, 10] (fun m vals wr => ∃ (i : Nat) (done : List (List UInt8)) (rest : List UInt8), vals = [vs rest, vs [c], .int .i64 0, .int .i64 (l.count c : Int), v1, .int .i64 (i : Int)] ∧ m = l.count c - i ∧ rest.count c + i = l.count c ∧ splitB c l = done ++ splitB c rest ∧ done.length = i ∧ rest.length ≤ l.length ∧ wr.ownsRow w.heap.size strT 1 v1 (l.count c + 1) (sv done ++ List.replicate (l.count c - i + 1) (vs [])) ∧ K0 w wr) (l.count c) ⟨_, rfl, 0, [], l, by simp, rfl, rfl, rfl, rfl, Nat.le_refl _, by simpa using how1, hk1⟩ ?_
  rintro m vals wr ⟨i, done, rest, rfl, rfl, hcnt, hsp, hdl, hrl, how, hk⟩
  dsimp only [List.zip, List.zipWith]
  rcases split_idx c rest with ⟨hi, h0, hs⟩ | ⟨m, hi, hm, h0, hs⟩
  · have hin : i = l.count c := by omega
    subst hin
    repeat' (first | (refine CL.seq ?_) | (refine CL.region ?_) | (refine CL.skip ?_) | (refine CL.condP rfl (fun _ => ?_) (fun _ => ?_) <;> try (exfalso; omega)) | (refine CL.condT rfl ?_) | (refine CL.condF rfl ?_) | (refine CL.cond rfl (fun _ => ?_) (fun _ => ?_)) | (refine CL.block ?_) | (refine CL.exit ?_) | (refine Ex.then ?_) | (refine Ex.hit ?_) | (refine Ex.miss rfl ?_) | (refine CL.ret ?_) | (refine Rt.then ?_) | (refine Rt.block ?_) | (refine Pn.then ?_) | (refine Pn.block ?_) | (refine CL.done ?_) | (refine Nm.block ?_) | (refine Nm.then ?_) | (refine Gt.nil ?_; refine RW.nilw [0, 1, 2, 3, 8, 9, 10, 11, 13, 15, 20, 36, 41] ?_; dsimp only [H.keep, H.look, H.Fr.put, Nat.beq]) | (refine Gt.move ?_; refine RW.y (Y.move rfl) rfl ?_) | (refine Gt.assign ?_; refine RW.y (Y.assign rfl) rfl ?_) | (refine Gt.add ?_; refine RW.y (Y.add64 rfl rfl (by omega) (by omega)) rfl ?_) | (refine Gt.lss ?_; refine RW.y (Y.lss rfl rfl) rfl ?_) | (refine Gt.len ?_; refine RW.y (Y.lens rfl) rfl ?_) | (refine Gt.idx ?_; refine RW.elemS rfl rfl rfl rfl (by assumption) (by omega) (by omega) ?_) | (refine Gt.eql ?_; first | (refine RW.y (Y.eqi rfl rfl) rfl ?_) | (refine RW.y (Y.eqs rfl rfl) rfl ?_)) | (refine Gt.call ?_; refine RW.y (Y.min2 rfl rfl) rfl ?_) | (refine Gt.sub ?_; refine RW.y (Y.sub64 rfl rfl (by omega) (by omega)) rfl ?_) | (refine Gt.slice ?_; first | (refine RW.y (Y.cuth rfl rfl (by omega) (by omega)) rfl ?_) | (refine RW.y (Y.cutl rfl rfl (by omega) (by omega)) rfl ?_)))
    refine RW.setEl rfl rfl rfl how (by omega) (by omega) (fun _ => rfl) rfl (fun p w2 how2 hk2 => ?_)
    have hx : (sv done ++ List.replicate (l.count c - l.count c + 1) (vs [])).set ((l.count c : Int)).toNat (vs rest) = sv (splitB c l) := by
      rw [Int.toNat_natCast, ← hdl, set_rep, hsp, hs]
      simp
    rw [hx] at how2
    repeat' (first | (refine CL.seq ?_) | (refine CL.region ?_) | (refine CL.skip ?_) | (refine CL.condP rfl (fun _ => ?_) (fun _ => ?_) <;> try (exfalso; omega)) | (refine CL.condT rfl ?_) | (refine CL.condF rfl ?_) | (refine CL.cond rfl (fun _ => ?_) (fun _ => ?_)) | (refine CL.block ?_) | (refine CL.exit ?_) | (refine Ex.then ?_) | (refine Ex.hit ?_) | (refine Ex.miss rfl ?_) | (refine CL.ret ?_) | (refine Rt.then ?_) | (refine Rt.block ?_) | (refine Pn.then ?_) | (refine Pn.block ?_) | (refine CL.done ?_) | (refine Nm.block ?_) | (refine Nm.then ?_) | (refine Gt.nil ?_; refine RW.nilw [0, 1, 2, 3, 8, 9, 10, 11, 13, 15, 20, 36, 41] ?_; dsimp only [H.keep, H.look, H.Fr.put, Nat.beq]) | (refine Gt.move ?_; refine RW.y (Y.move rfl) rfl ?_) | (refine Gt.assign ?_; refine RW.y (Y.assign rfl) rfl ?_) | (refine Gt.add ?_; refine RW.y (Y.add64 rfl rfl (by omega) (by omega)) rfl ?_) | (refine Gt.lss ?_; refine RW.y (Y.lss rfl rfl) rfl ?_) | (refine Gt.len ?_; refine RW.y (Y.lens rfl) rfl ?_) | (refine Gt.idx ?_; refine RW.elemS rfl rfl rfl rfl (by assumption) (by omega) (by omega) ?_) | (refine Gt.eql ?_; first | (refine RW.y (Y.eqi rfl rfl) rfl ?_) | (refine RW.y (Y.eqs rfl rfl) rfl ?_)) | (refine Gt.call ?_; refine RW.y (Y.min2 rfl rfl) rfl ?_) | (refine Gt.sub ?_; refine RW.y (Y.sub64 rfl rfl (by omega) (by omega)) rfl ?_) | (refine Gt.slice ?_; first | (refine RW.y (Y.cuth rfl rfl (by omega) (by omega)) rfl ?_) | (refine RW.y (Y.cutl rfl rfl (by omega) (by omega)) rfl ?_)))
    refine RW.ownh rfl rfl rfl how2 (by omega) (by omega) (fun v3 how3 hb3 => ?_)
    have hn : (((l.count c : Int)) + 1).toNat = l.count c + 1 := by omega
    rw [hn, Nat.mul_one, ← hlen, List.take_of_length_le (by simp)] at how3
    repeat' (first | (refine CL.seq ?_) | (refine CL.region ?_) | (refine CL.skip ?_) | (refine CL.condP rfl (fun _ => ?_) (fun _ => ?_) <;> try (exfalso; omega)) | (refine CL.condT rfl ?_) | (refine CL.condF rfl ?_) | (refine CL.cond rfl (fun _ => ?_) (fun _ => ?_)) | (refine CL.block ?_) | (refine CL.exit ?_) | (refine Ex.then ?_) | (refine Ex.hit ?_) | (refine Ex.miss rfl ?_) | (refine CL.ret ?_) | (refine Rt.then ?_) | (refine Rt.block ?_) | (refine Pn.then ?_) | (refine Pn.block ?_) | (refine CL.done ?_) | (refine Nm.block ?_) | (refine Nm.then ?_) | (refine Gt.nil ?_; refine RW.nilw [0, 1, 2, 3, 8, 9, 10, 11, 13, 15, 20, 36, 41] ?_; dsimp only [H.keep, H.look, H.Fr.put, Nat.beq]) | (refine Gt.move ?_; refine RW.y (Y.move rfl) rfl ?_) | (refine Gt.assign ?_; refine RW.y (Y.assign rfl) rfl ?_) | (refine Gt.add ?_; refine RW.y (Y.add64 rfl rfl (by omega) (by omega)) rfl ?_) | (refine Gt.lss ?_; refine RW.y (Y.lss rfl rfl) rfl ?_) | (refine Gt.len ?_; refine RW.y (Y.lens rfl) rfl ?_) | (refine Gt.idx ?_; refine RW.elemS rfl rfl rfl rfl (by assumption) (by omega) (by omega) ?_) | (refine Gt.eql ?_; first | (refine RW.y (Y.eqi rfl rfl) rfl ?_) | (refine RW.y (Y.eqs rfl rfl) rfl ?_)) | (refine Gt.call ?_; refine RW.y (Y.min2 rfl rfl) rfl ?_) | (refine Gt.sub ?_; refine RW.y (Y.sub64 rfl rfl (by omega) (by omega)) rfl ?_) | (refine Gt.slice ?_; first | (refine RW.y (Y.cuth rfl rfl (by omega) (by omega)) rfl ?_) | (refine RW.y (Y.cutl rfl rfl (by omega) (by omega)) rfl ?_)))
    exact FQ.one rfl rfl rfl ⟨v3, rfl, how3, hk.trans hk2 fun k h => .inr (how.lt k h).1⟩
  · repeat' (first | (refine CL.seq ?_) | (refine CL.region ?_) | (refine CL.skip ?_) | (refine CL.condP rfl (fun _ => ?_) (fun _ => ?_) <;> try (exfalso; omega)) | (refine CL.condT rfl ?_) | (refine CL.condF rfl ?_) | (refine CL.cond rfl (fun _ => ?_) (fun _ => ?_)) | (refine CL.block ?_) | (refine CL.exit ?_) | (refine Ex.then ?_) | (refine Ex.hit ?_) | (refine Ex.miss rfl ?_) | (refine CL.ret ?_) | (refine Rt.then ?_) | (refine Rt.block ?_) | (refine Pn.then ?_) | (refine Pn.block ?_) | (refine CL.done ?_) | (refine Nm.block ?_) | (refine Nm.then ?_) | (refine Gt.nil ?_; refine RW.nilw [0, 1, 2, 3, 8, 9, 10, 11, 13, 15, 20, 36, 41] ?_; dsimp only [H.keep, H.look, H.Fr.put, Nat.beq]) | (refine Gt.move ?_; refine RW.y (Y.move rfl) rfl ?_) | (refine Gt.assign ?_; refine RW.y (Y.assign rfl) rfl ?_) | (refine Gt.add ?_; refine RW.y (Y.add64 rfl rfl (by omega) (by omega)) rfl ?_) | (refine Gt.lss ?_; refine RW.y (Y.lss rfl rfl) rfl ?_) | (refine Gt.len ?_; refine RW.y (Y.lens rfl) rfl ?_) | (refine Gt.idx ?_; refine RW.elemS rfl rfl rfl rfl (by assumption) (by omega) (by omega) ?_) | (refine Gt.eql ?_; first | (refine RW.y (Y.eqi rfl rfl) rfl ?_) | (refine RW.y (Y.eqs rfl rfl) rfl ?_)) | (refine Gt.call ?_; refine RW.y (Y.min2 rfl rfl) rfl ?_) | (refine Gt.sub ?_; refine RW.y (Y.sub64 rfl rfl (by omega) (by omega)) rfl ?_) | (refine Gt.slice ?_; first | (refine RW.y (Y.cuth rfl rfl (by omega) (by omega)) rfl ?_) | (refine RW.y (Y.cutl rfl rfl (by omega) (by omega)) rfl ?_)))
    refine RW.fn rfl rfl ((index rest c wr).mono ?_)
    rintro e w2 ⟨rfl, rfl⟩
    rw [show idx c rest = (m : Int) from hi]
    have h1 : ([c] : List UInt8).length = 1 := rfl
    repeat' (first | (refine CL.seq ?_) | (refine CL.region ?_) | (refine CL.skip ?_) | (refine CL.condP rfl (fun _ => ?_) (fun _ => ?_) <;> try (exfalso; omega)) | (refine CL.condT rfl ?_) | (refine CL.condF rfl ?_) | (refine CL.cond rfl (fun _ => ?_) (fun _ => ?_)) | (refine CL.block ?_) | (refine CL.exit ?_) | (refine Ex.then ?_) | (refine Ex.hit ?_) | (refine Ex.miss rfl ?_) | (refine CL.ret ?_) | (refine Rt.then ?_) | (refine Rt.block ?_) | (refine Pn.then ?_) | (refine Pn.block ?_) | (refine CL.done ?_) | (refine Nm.block ?_) | (refine Nm.then ?_) | (refine Gt.nil ?_; refine RW.nilw [0, 1, 2, 3, 8, 9, 10, 11, 13, 15, 20, 36, 41] ?_; dsimp only [H.keep, H.look, H.Fr.put, Nat.beq]) | (refine Gt.move ?_; refine RW.y (Y.move rfl) rfl ?_) | (refine Gt.assign ?_; refine RW.y (Y.assign rfl) rfl ?_) | (refine Gt.add ?_; refine RW.y (Y.add64 rfl rfl (by omega) (by omega)) rfl ?_) | (refine Gt.lss ?_; refine RW.y (Y.lss rfl rfl) rfl ?_) | (refine Gt.len ?_; refine RW.y (Y.lens rfl) rfl ?_) | (refine Gt.idx ?_; refine RW.elemS rfl rfl rfl rfl (by assumption) (by omega) (by omega) ?_) | (refine Gt.eql ?_; first | (refine RW.y (Y.eqi rfl rfl) rfl ?_) | (refine RW.y (Y.eqs rfl rfl) rfl ?_)) | (refine Gt.call ?_; refine RW.y (Y.min2 rfl rfl) rfl ?_) | (refine Gt.sub ?_; refine RW.y (Y.sub64 rfl rfl (by omega) (by omega)) rfl ?_) | (refine Gt.slice ?_; first | (refine RW.y (Y.cuth rfl rfl (by omega) (by omega)) rfl ?_) | (refine RW.y (Y.cutl rfl rfl (by omega) (by omega)) rfl ?_)))
    refine RW.setEl rfl rfl rfl how (by omega) (by omega) (fun _ => rfl) rfl (fun p w3 how3 hk3 => ?_)
    repeat' (first | (refine CL.seq ?_) | (refine CL.region ?_) | (refine CL.skip ?_) | (refine CL.condP rfl (fun _ => ?_) (fun _ => ?_) <;> try (exfalso; omega)) | (refine CL.condT rfl ?_) | (refine CL.condF rfl ?_) | (refine CL.cond rfl (fun _ => ?_) (fun _ => ?_)) | (refine CL.block ?_) | (refine CL.exit ?_) | (refine Ex.then ?_) | (refine Ex.hit ?_) | (refine Ex.miss rfl ?_) | (refine CL.ret ?_) | (refine Rt.then ?_) | (refine Rt.block ?_) | (refine Pn.then ?_) | (refine Pn.block ?_) | (refine CL.done ?_) | (refine Nm.block ?_) | (refine Nm.then ?_) | (refine Gt.nil ?_; refine RW.nilw [0, 1, 2, 3, 8, 9, 10, 11, 13, 15, 20, 36, 41] ?_; dsimp only [H.keep, H.look, H.Fr.put, Nat.beq]) | (refine Gt.move ?_; refine RW.y (Y.move rfl) rfl ?_) | (refine Gt.assign ?_; refine RW.y (Y.assign rfl) rfl ?_) | (refine Gt.add ?_; refine RW.y (Y.add64 rfl rfl (by omega) (by omega)) rfl ?_) | (refine Gt.lss ?_; refine RW.y (Y.lss rfl rfl) rfl ?_) | (refine Gt.len ?_; refine RW.y (Y.lens rfl) rfl ?_) | (refine Gt.idx ?_; refine RW.elemS rfl rfl rfl rfl (by assumption) (by omega) (by omega) ?_) | (refine Gt.eql ?_; first | (refine RW.y (Y.eqi rfl rfl) rfl ?_) | (refine RW.y (Y.eqs rfl rfl) rfl ?_)) | (refine Gt.call ?_; refine RW.y (Y.min2 rfl rfl) rfl ?_) | (refine Gt.sub ?_; refine RW.y (Y.sub64 rfl rfl (by omega) (by omega)) rfl ?_) | (refine Gt.slice ?_; first | (refine RW.y (Y.cuth rfl rfl (by omega) (by omega)) rfl ?_) | (refine RW.y (Y.cutl rfl rfl (by omega) (by omega)) rfl ?_)))
    have hn1 : ((m : Int) + 0).toNat = m := by omega
    have hn2 : ((m : Int) + (([c] : List UInt8).length : Int)).toNat = m + 1 := by rw [h1]; omega
    obtain ⟨k, hk'⟩ : ∃ k, l.count c - i = k + 1 := ⟨l.count c - i - 1, by omega⟩
    refine ⟨l.count c - (i + 1), _, rfl, rfl, rfl, by omega, i + 1, done ++ [rest.take m], rest.drop (m + 1), by rw [hn2]; simp, rfl, by omega, by rw [hsp, hs]; simp, by simp [hdl], by rw [List.length_drop]; omega, ?_, hk.trans hk3 fun k h => .inr (how.lt k h).1⟩
    rw [Int.toNat_natCast, hn1, hk', ← hdl, set_rep] at how3
    have : l.count c - (i + 1) + 1 = k + 1 := by omega
    rw [this]
    exact how3
theorem split (l : List UInt8) (c : UInt8) (hl : l.length ≤ 1000000) (w : World) : Calls Tryz.prog 54 #[vs l, vs [c]] w fun e w' => ∃ v', e = .returned v' ∧ w'.ownsRow w.heap.size strT 1 v' (splitB c l).length (sv (splitB c l)) ∧ K0 w w' := by
  refine H.enter Tryz.func54 Tryz.ntmps54 rfl rfl ?_; dsimp only [H.args]
  repeat' (first | (refine CL.seq ?_) | (refine CL.region ?_) | (refine CL.skip ?_) | (refine CL.condP rfl (fun _ => ?_) (fun _ => ?_) <;> try (exfalso; omega)) | (refine CL.condT rfl ?_) | (refine CL.condF rfl ?_) | (refine CL.cond rfl (fun _ => ?_) (fun _ => ?_)) | (refine CL.block ?_) | (refine CL.exit ?_) | (refine Ex.then ?_) | (refine Ex.hit ?_) | (refine Ex.miss rfl ?_) | (refine CL.ret ?_) | (refine Rt.then ?_) | (refine Rt.block ?_) | (refine Pn.then ?_) | (refine Pn.block ?_) | (refine CL.done ?_) | (refine Nm.block ?_) | (refine Nm.then ?_) | (refine Gt.nil ?_; refine RW.nilw [0, 1, 4] ?_; dsimp only [H.keep, H.look, H.Fr.put, Nat.beq]) | (refine Gt.assign ?_; refine RW.y (Y.assign rfl) rfl ?_) | (refine Gt.move ?_; refine RW.y (Y.move rfl) rfl ?_))
  refine RW.fn rfl rfl ((genSplit l c hl w).mono ?_)
  rintro e w1 ⟨v1, rfl, how1, hk1⟩
  repeat' (first | (refine CL.seq ?_) | (refine CL.region ?_) | (refine CL.skip ?_) | (refine CL.condP rfl (fun _ => ?_) (fun _ => ?_) <;> try (exfalso; omega)) | (refine CL.condT rfl ?_) | (refine CL.condF rfl ?_) | (refine CL.cond rfl (fun _ => ?_) (fun _ => ?_)) | (refine CL.block ?_) | (refine CL.exit ?_) | (refine Ex.then ?_) | (refine Ex.hit ?_) | (refine Ex.miss rfl ?_) | (refine CL.ret ?_) | (refine Rt.then ?_) | (refine Rt.block ?_) | (refine Pn.then ?_) | (refine Pn.block ?_) | (refine CL.done ?_) | (refine Nm.block ?_) | (refine Nm.then ?_) | (refine Gt.nil ?_; refine RW.nilw [0, 1, 4] ?_; dsimp only [H.keep, H.look, H.Fr.put, Nat.beq]) | (refine Gt.assign ?_; refine RW.y (Y.assign rfl) rfl ?_) | (refine Gt.move ?_; refine RW.y (Y.move rfl) rfl ?_))
  exact FQ.one rfl rfl rfl ⟨_, rfl, how1, hk1⟩
end Go.Proofs.YtjlkmdmpejpmpaaGreatDoor.S

namespace Go.Proofs.YtjlkmdmpejpmpaaGreatDoor.Ve
open Go.RowKit H S
attribute [local irreducible] H.CL H.RW H.CW H.Yd H.thenK H.blockQ Go.Calls

theorem dig_hi {c : UInt8} (h : ¬ ((c.toNat : Int) < 48)) (h2 : ¬ ((57 : Int) < c.toNat)) : isDig c = true := by
  simp only [isDig, Bool.and_eq_true, decide_eq_true_eq]; omega
theorem dig_lo {c : UInt8} (h : (c.toNat : Int) < 48) : isDig c = false := by
  simp only [isDig, Bool.and_eq_false_iff, decide_eq_false_iff_not]; omega
theorem dig_lo2 {c : UInt8} (h : (57 : Int) < c.toNat) : isDig c = false := by
  simp only [isDig, Bool.and_eq_false_iff, decide_eq_false_iff_not]; omega
theorem dig_all {l : T} (h : l.all isDig = true) : decide (l ≠ []) = digB l := by simp [digB, h]
theorem dig_none {l : T} (h : l.all isDig = false) : digB l = false := by simp [digB, h]

theorem retb {a b : Bool} (h : a = true ↔ b = true) : Ending.returned (.bool a) = .returned (.bool b) := by rw [Bool.eq_iff_iff.2 h]

theorem digits (l : T) (hl : l.length ≤ 1000000000000) (w : World) : Calls Tryz.prog 91 #[vs l] w fun e w' => w = w' ∧ e = .returned (.bool (digB l)) := by
  refine H.enter Tryz.func91 Tryz.ntmps91 rfl rfl ?_; dsimp only [H.args]
  repeat' (first | (refine CL.seq ?_) | (refine CL.region ?_) | (refine CL.block ?_) | (refine Gt.nil ?_; refine RW.nilw [0, 2, 3, 5, 6, 7, 18] ?_; dsimp only [H.keep, H.look, H.Fr.put, Nat.beq]) | (refine Gt.move ?_; refine RW.y (Y.move rfl) rfl ?_) | (refine Gt.assign ?_; refine RW.y (Y.assign rfl) rfl ?_) | (refine Gt.len ?_; refine RW.y (Y.lens rfl) rfl ?_))
  refine CL.loopS [0, 2, 5, 6] (fun k vals wr => ∃ (i : Nat) (b : Bool), vals = [vs l, .bool b, .int .i64 (l.length : Int), .int .i64 (i : Int)] ∧ k = l.length - i ∧ i ≤ l.length ∧ (l.take i).all isDig = true ∧ wr = w) l.length ⟨_, rfl, 0, false, rfl, rfl, Nat.zero_le _, rfl, rfl⟩ ?_
  rintro k vals wr ⟨i, b, rfl, rfl, hi, hall, rfl⟩
  dsimp only [List.zip, List.zipWith]
  rcases Nat.lt_or_ge i l.length with hlt | hge
  · repeat' (first | (refine CL.seq ?_) | (refine CL.region ?_) | (refine CL.skip ?_) | (refine CL.condP rfl (fun _ => ?_) (fun _ => ?_) <;> try (exfalso; omega)) | (refine CL.condT rfl ?_) | (refine CL.block ?_) | (refine CL.ret ?_) | (refine Rt.then ?_) | (refine Rt.block ?_) | (refine CL.done ?_) | (refine Nm.block ?_) | (refine Nm.then ?_) | (refine Gt.nil ?_; refine RW.nilw [0, 2, 3, 5, 6, 7, 18] ?_; dsimp only [H.keep, H.look, H.Fr.put, Nat.beq]) | (refine Gt.move ?_; refine RW.y (Y.move rfl) rfl ?_) | (refine Gt.guard ?_; first | (refine RW.part rfl rfl rfl (fun _ => ?_) (fun _ => ?_) <;> try (exfalso; omega)) | (refine RW.on rfl rfl rfl ?_) | (refine RW.off1 rfl rfl rfl rfl rfl ?_)) | (refine Gt.assign ?_; refine RW.y (Y.assign rfl) rfl ?_) | (refine Gt.lss ?_; refine RW.y (Y.lss rfl rfl) rfl ?_) | (refine Gt.index ?_; refine RW.y (Y.idxs rfl rfl (by omega) (by omega)) rfl ?_) | (refine Gt.gtr ?_; refine RW.y (Y.gtr rfl rfl) rfl ?_) | (refine Gt.pick ?_; first | (refine RW.y (Y.pickT rfl rfl) rfl ?_) | (refine RW.y (Y.pickF rfl rfl) rfl ?_)) | (refine Gt.add ?_; refine RW.y (Y.add64 rfl rfl (by omega) (by omega)) rfl ?_))
    · rename_i h
      exact FQ.one rfl rfl rfl ⟨rfl, by rw [dig_none (all_false 0 hlt (dig_lo h))]⟩
    · rename_i h1 h2
      exact FQ.one rfl rfl rfl ⟨rfl, by rw [dig_none (all_false 0 hlt (dig_lo2 h2))]⟩
    · rename_i h1 h2
      exact ⟨l.length - (i + 1), _, rfl, rfl, rfl, by omega, i + 1, b, rfl, rfl, by omega, all_step 0 hlt hall (dig_hi h1 h2), rfl⟩
  · have hi : i = l.length := by omega
    subst hi
    rw [List.take_length] at hall
    repeat' (first | (refine CL.seq ?_) | (refine CL.region ?_) | (refine CL.condP rfl (fun _ => ?_) (fun _ => ?_) <;> try (exfalso; omega)) | (refine CL.exit ?_) | (refine Ex.then ?_) | (refine Ex.hit ?_) | (refine CL.ret ?_) | (refine Gt.nil ?_; refine RW.nilw [0, 2, 3, 5, 6, 7, 18] ?_; dsimp only [H.keep, H.look, H.Fr.put, Nat.beq]) | (refine Gt.move ?_; refine RW.y (Y.move rfl) rfl ?_) | (refine Gt.assign ?_; refine RW.y (Y.assign rfl) rfl ?_) | (refine Gt.lss ?_; refine RW.y (Y.lss rfl rfl) rfl ?_) | (refine Gt.neq ?_; refine RW.y (Y.nes rfl rfl) rfl ?_))
    exact FQ.one rfl rfl rfl ⟨rfl, by rw [dig_all hall]⟩

theorem plain (l : T) (h0 : l ≠ []) (hl : l.length ≤ 1000000000000) (w : World) : Calls Tryz.prog 92 #[vs l] w fun e w' => w = w' ∧ e = .returned (.bool (plainB l)) := by
  have hpos := List.length_pos_iff.2 h0
  refine H.enter Tryz.func92 Tryz.ntmps92 rfl rfl ?_; dsimp only [H.args]
  repeat' (first | (refine CL.seq ?_) | (refine CL.region ?_) | (refine CL.ret ?_) | (refine Gt.nil ?_; refine RW.nilw [0, 2] ?_; dsimp only [H.keep, H.look, H.Fr.put, Nat.beq]) | (refine Gt.move ?_; refine RW.y (Y.move rfl) rfl ?_) | (refine Gt.guard ?_; first | (refine RW.part rfl rfl rfl (fun _ => ?_) (fun _ => ?_) <;> try (exfalso; omega)) | (refine RW.on rfl rfl rfl ?_) | (refine RW.off1 rfl rfl rfl rfl rfl ?_)) | (refine Gt.assign ?_; refine RW.y (Y.assign rfl) rfl ?_) | (refine Gt.len ?_; refine RW.y (Y.lens rfl) rfl ?_) | (refine Gt.eql ?_; refine RW.y (Y.eqi rfl rfl) rfl ?_) | (refine Gt.index ?_; refine RW.y (Y.idxs rfl rfl (by omega) (by omega)) rfl ?_) | (refine Gt.neq ?_; refine RW.y (Y.nei rfl rfl) rfl ?_) | (refine Gt.pick ?_; first | (refine RW.y (Y.pickT rfl rfl) rfl ?_) | (refine RW.y (Y.pickF rfl rfl) rfl ?_)))
  · rename_i h
    exact FQ.one rfl rfl rfl ⟨rfl, retb (by simp only [plainB, Bool.or_eq_true, decide_eq_true_eq]; exact iff_of_true trivial (.inl (by omega)))⟩
  · rename_i h
    exact FQ.one rfl rfl rfl ⟨rfl, retb (by
      simp only [plainB, Bool.or_eq_true, decide_eq_true_eq]
      constructor
      · intro c; exact .inr fun e => c (by rw [show Int.toNat 0 = 0 from rfl, e]; rfl)
      · rintro (c | c)
        · omega
        · exact fun e => c (u8_eq (by simpa using e)))⟩

theorem decFrom_val : ∀ (l : T) (acc : Nat), l.all isDig = true → Go.Lib.decFrom acc l = some (l.foldl (fun n c => 10 * n + (c.toNat - 48)) acc) := by
  intro l
  induction l with
  | nil => intro acc _; rfl
  | cons c r ih =>
    intro acc h
    simp only [List.all_cons, Bool.and_eq_true] at h
    have hc := h.1
    simp only [isDig, Bool.and_eq_true, decide_eq_true_eq] at hc
    rw [Go.Lib.decFrom, Go.Lib.digitVal, if_pos hc]
    simp only [List.foldl_cons]
    rw [ih _ h.2, Nat.mul_comm]
theorem decNat_val (l : T) (h : digB l = true) : Go.Lib.atoi l = some (val l : Int) := by
  simp only [digB, Bool.and_eq_true, decide_eq_true_eq] at h
  obtain ⟨h0, ha⟩ := h
  cases l with
  | nil => exact absurd rfl h0
  | cons c r =>
    have hc := ha
    simp only [List.all_cons, Bool.and_eq_true, isDig, decide_eq_true_eq] at hc
    have n1 : (c == 45) = false := by rw [beq_eq_false_iff_ne]; rintro rfl; exact absurd hc.1.1 (by decide)
    have n2 : (c == 43) = false := by rw [beq_eq_false_iff_ne]; rintro rfl; exact absurd hc.1.1 (by decide)
    rw [Go.Lib.atoi, n1, n2]
    simp only [Bool.false_eq_true, if_false, Go.Lib.decNat, List.isEmpty_cons]
    rw [decFrom_val _ _ ha]
    rfl
theorem bytes_kept (w : World) (e : TypeId) (s : ByteArray) : K0 w (Go.Lib.bytesWorld w e s) :=
  ⟨rfl, rfl, rfl, by rw [Go.Lib.bytesWorld_size]; omega, fun k hk _ => Go.Lib.bytesWorld_at_old w e s k hk⟩

theorem number (l : T) (hl : l.length ≤ 1000000000000) (w : World) : Calls Tryz.prog 74 #[vs l] w fun e w' => K0 w w' ∧ e = .returned (.tuple #[.int .i64 (if numB l = true then val l else 0 : Nat), .bool (numB l)]) := by
  refine H.enter Tryz.func74 Tryz.ntmps74 rfl rfl ?_; dsimp only [H.args]
  repeat' (first | (refine CL.seq ?_) | (refine CL.region ?_) | (refine Gt.nil ?_; refine RW.nilw [0, 2, 3, 4, 18] ?_; dsimp only [H.keep, H.look, H.Fr.put, Nat.beq]) | (refine Gt.assign ?_; refine RW.y (Y.assign rfl) rfl ?_) | (refine Gt.move ?_; refine RW.y (Y.move rfl) rfl ?_))
  refine RW.fn rfl rfl ((digits l hl w).mono ?_)
  rintro e w' ⟨rfl, rfl⟩
  cases hd : digB l
  · have hn : numB l = false := by simp [numB, hd]
    rw [hn]
    repeat' (first | (refine CL.seq ?_) | (refine CL.region ?_) | (refine CL.condT rfl ?_) | (refine CL.ret ?_) | (refine Gt.nil ?_; refine RW.nilw [0, 2, 3, 4, 18] ?_; dsimp only [H.keep, H.look, H.Fr.put, Nat.beq]) | (refine Gt.assign ?_; refine RW.y (Y.assign rfl) rfl ?_) | (refine Gt.guard ?_; (refine RW.off1 rfl rfl rfl rfl rfl ?_)) | (refine Gt.move ?_; refine RW.y (Y.move rfl) rfl ?_) | (refine Gt.not ?_; (refine RW.y (Y.notb rfl) rfl ?_)) | (refine Gt.pick ?_; (refine RW.y (Y.pickT rfl rfl) rfl ?_)))
    exact FQ.res (rs := [.tmp 2, .tmp 3]) (vs := [_, _]) rfl rfl ⟨rfl, rfl, trivial⟩ rfl (⟨Kept.refl _ _, rfl⟩)
  · have hd' := hd
    simp only [digB, Bool.and_eq_true, decide_eq_true_eq] at hd'
    repeat' (first | (refine CL.seq ?_) | (refine CL.region ?_) | (refine CL.condT rfl ?_) | (refine CL.ret ?_) | (refine Gt.nil ?_; refine RW.nilw [0, 2, 3, 4, 18] ?_; dsimp only [H.keep, H.look, H.Fr.put, Nat.beq]) | (refine Gt.assign ?_; refine RW.y (Y.assign rfl) rfl ?_) | (refine Gt.guard ?_; first | (refine RW.part rfl rfl rfl (fun _ => ?_) (fun _ => ?_) <;> try (exfalso; omega)) | (refine RW.on rfl rfl rfl ?_) | (refine RW.off1 rfl rfl rfl rfl rfl ?_)) | (refine Gt.move ?_; refine RW.y (Y.move rfl) rfl ?_) | (refine Gt.not ?_; (refine RW.y (Y.notb rfl) rfl ?_)) | (refine Gt.pick ?_; first | (refine RW.y (Y.pickT rfl rfl) rfl ?_) | (refine RW.y (Y.pickF rfl rfl) rfl ?_)) | (refine Gt.len ?_; refine RW.y (Y.lens rfl) rfl ?_) | (refine Gt.gtr ?_; refine RW.y (Y.gtr rfl rfl) rfl ?_))
    · have hn : numB l = false := by simp only [numB, Bool.and_eq_false_iff, decide_eq_false_iff_not]; exact .inl (.inr (by omega))
      rw [hn]
      exact FQ.res (rs := [.tmp 2, .tmp 3]) (vs := [_, _]) rfl rfl ⟨rfl, rfl, trivial⟩ rfl (⟨Kept.refl _ _, rfl⟩)
    · refine RW.fn rfl rfl ((plain l hd'.1 hl w).mono ?_)
      rintro e w' ⟨rfl, rfl⟩
      cases hp : plainB l
      · have hn : numB l = false := by simp [numB, hp]
        rw [hn]
        repeat' (first | (refine CL.seq ?_) | (refine CL.region ?_) | (refine CL.condT rfl ?_) | (refine CL.ret ?_) | (refine Gt.nil ?_; refine RW.nilw [0, 2, 3, 4, 18] ?_; dsimp only [H.keep, H.look, H.Fr.put, Nat.beq]) | (refine Gt.assign ?_; refine RW.y (Y.assign rfl) rfl ?_) | (refine Gt.guard ?_; (refine RW.on rfl rfl rfl ?_)) | (refine Gt.not ?_; (refine RW.y (Y.notb rfl) rfl ?_)) | (refine Gt.pick ?_; (refine RW.y (Y.pickF rfl rfl) rfl ?_)))
        exact FQ.res (rs := [.tmp 2, .tmp 3]) (vs := [_, _]) rfl rfl ⟨rfl, rfl, trivial⟩ rfl (⟨Kept.refl _ _, rfl⟩)
      · have hn : numB l = true := by simp only [numB, hd, hp, Bool.and_true, Bool.true_and, decide_eq_true_eq]; omega
        rw [hn]
        repeat' (first | (refine CL.seq ?_) | (refine CL.region ?_) | (refine CL.skip ?_) | (refine CL.condF rfl ?_) | (refine Gt.nil ?_; refine RW.nilw [0, 2, 3, 4, 18] ?_; dsimp only [H.keep, H.look, H.Fr.put, Nat.beq]) | (refine Gt.guard ?_; (refine RW.on rfl rfl rfl ?_)) | (refine Gt.move ?_; refine RW.y (Y.move rfl) rfl ?_) | (refine Gt.not ?_; (refine RW.y (Y.notb rfl) rfl ?_)) | (refine Gt.pick ?_; (refine RW.y (Y.pickF rfl rfl) rfl ?_)))
        refine RW.fn rfl rfl ((Tryz.strconv_Atoi (B l) (val l) (by rw [B_size]; omega) (decNat_val l hd) w).mono ?_)
        rintro e w1 ⟨rfl, t, rfl⟩
        have hk : K0 w (Go.Lib.bytesWorld w 5 t) := bytes_kept _ _ _
        repeat' (first | (refine CL.seq ?_) | (refine CL.region ?_) | (refine CL.ret ?_) | (refine Gt.nil ?_; refine RW.nilw [0, 2, 3, 4, 18] ?_; dsimp only [H.keep, H.look, H.Fr.put, Nat.beq]) | (refine Gt.assign ?_; refine RW.y (Y.assign rfl) rfl ?_) | (refine Gt.move ?_; refine RW.y (Y.move rfl) rfl ?_) | (refine Gt.extract ?_; refine RW.y (Y.extract rfl rfl) rfl ?_))
        exact FQ.res (rs := [.tmp 2, .tmp 3]) (vs := [_, _]) rfl rfl ⟨rfl, rfl, trivial⟩ rfl (⟨hk, rfl⟩)

theorem isSign_iff (c : UInt8) : isSign c = true ↔ (48 ≤ (c.toNat : Int) ∧ (c.toNat : Int) ≤ 57) ∨ (97 ≤ (c.toNat : Int) ∧ (c.toNat : Int) ≤ 122) ∨ (65 ≤ (c.toNat : Int) ∧ (c.toNat : Int) ≤ 90) ∨ (c.toNat : Int) = 45 := by
  simp only [isSign, isDig, Bool.or_eq_true, Bool.and_eq_true, decide_eq_true_eq]
  omega

theorem sign (c : UInt8) (w : World) : Calls Tryz.prog 95 #[vb c] w fun e w' => w = w' ∧ e = .returned (.bool (isSign c)) := by
  refine H.enter Tryz.func95 Tryz.ntmps95 rfl rfl ?_; dsimp only [H.args]
  repeat' (first | (refine CL.seq ?_) | (refine CL.region ?_) | (refine CL.skip ?_) | (refine CL.condP rfl (fun _ => ?_) (fun _ => ?_) <;> try (exfalso; omega)) | (refine CL.condF rfl ?_) | (refine CL.block ?_) | (refine CL.exit ?_) | (refine Ex.hit ?_) | (refine Ex.miss rfl ?_) | (refine CL.ret ?_) | (refine Rt.block ?_) | (refine CL.done ?_) | (refine Nm.block ?_) | (refine Gt.nil ?_; refine RW.nilw [0, 2, 3, 10, 17] ?_; dsimp only [H.keep, H.look, H.Fr.put, Nat.beq]) | (refine Gt.move ?_; refine RW.y (Y.move rfl) rfl ?_) | (refine Gt.guard ?_; first | (refine RW.part rfl rfl rfl (fun _ => ?_) (fun _ => ?_) <;> try (exfalso; omega)) | (refine RW.on rfl rfl rfl ?_) | (refine RW.off1 rfl rfl rfl rfl rfl ?_)) | (refine Gt.assign ?_; refine RW.y (Y.assign rfl) rfl ?_) | (refine Gt.geq ?_; refine RW.y (Y.geq rfl rfl) rfl ?_) | (refine Gt.leq ?_; refine RW.y (Y.leq rfl rfl) rfl ?_) | (refine Gt.pick ?_; first | (refine RW.y (Y.pickT rfl rfl) rfl ?_) | (refine RW.y (Y.pickF rfl rfl) rfl ?_)) | (refine Gt.eql ?_; refine RW.y (Y.eqi rfl rfl) rfl ?_))
  all_goals exact FQ.one rfl rfl rfl ⟨rfl, retb (by rw [isSign_iff]; first | (rw [decide_eq_true_eq]; omega) | (exact iff_of_true rfl (by omega)))⟩

theorem mark_iff (l : T) : markB l = true ↔ (l ≠ [] ∧ l.length ≤ 16 ∧ (digB l = true → plainB l = true)) ∧ l.all isSign = true := by
  simp only [markB, Bool.and_eq_true, Bool.or_eq_true, decide_eq_true_eq, Bool.not_eq_true']
  cases digB l <;> simp [and_assoc]

theorem mark (l : T) (hl : l.length ≤ 1000000000000) (w : World) : Calls Tryz.prog 77 #[vs l] w fun e w' => w = w' ∧ e = .returned (.bool (markB l)) := by
  refine H.enter Tryz.func77 Tryz.ntmps77 rfl rfl ?_; dsimp only [H.args]
  repeat' (first | (refine CL.seq ?_) | (refine CL.region ?_) | (refine CL.condT rfl ?_) | (refine CL.ret ?_) | (refine Gt.nil ?_; refine RW.nilw [0, 2, 3, 19, 21, 22, 23, 29] ?_; dsimp only [H.keep, H.look, H.Fr.put, Nat.beq]) | (refine Gt.move ?_; refine RW.y (Y.move rfl) rfl ?_) | (refine Gt.guard ?_; first | (refine RW.part rfl rfl rfl (fun _ => ?_) (fun _ => ?_) <;> try (exfalso; omega)) | (refine RW.on rfl rfl rfl ?_) | (refine RW.off1 rfl rfl rfl rfl rfl ?_) | (refine RW.offu rfl rfl rfl rfl ?_)) | (refine Gt.assign ?_; refine RW.y (Y.assign rfl) rfl ?_) | (refine Gt.pick ?_; first | (refine RW.y (Y.pickT rfl rfl) rfl ?_) | (refine RW.y (Y.pickF rfl rfl) rfl ?_)) | (refine Gt.len ?_; refine RW.y (Y.lens rfl) rfl ?_) | (refine Gt.eql ?_; refine RW.y (Y.eqs rfl rfl) rfl ?_) | (refine Gt.gtr ?_; refine RW.y (Y.gtr rfl rfl) rfl ?_))
  · rename_i h
    exact FQ.one rfl rfl rfl ⟨rfl, retb (by rw [mark_iff]; simp [h])⟩
  · exact FQ.one rfl rfl rfl ⟨rfl, retb (by rw [mark_iff]; simp; omega)⟩
  rename_i hne h16
  refine RW.fn rfl rfl ((digits l hl w).mono ?_)
  rintro e w' ⟨rfl, rfl⟩
  cases hd : digB l
  · repeat' (first | (refine CL.seq ?_) | (refine CL.region ?_) | (refine CL.skip ?_) | (refine CL.condF rfl ?_) | (refine CL.block ?_) | (refine Gt.nil ?_; refine RW.nilw [0, 2, 3, 19, 21, 22, 23, 29] ?_; dsimp only [H.keep, H.look, H.Fr.put, Nat.beq]) | (refine Gt.move ?_; refine RW.y (Y.move rfl) rfl ?_) | (refine Gt.guard ?_; first | (refine RW.on rfl rfl rfl ?_) | (refine RW.off1 rfl rfl rfl rfl rfl ?_)) | (refine Gt.pick ?_; (refine RW.y (Y.pickF rfl rfl) rfl ?_)) | (refine Gt.len ?_; refine RW.y (Y.lens rfl) rfl ?_))
    have hpl : digB l = true → plainB l = true := fun c => by rw [hd] at c; cases c
    refine CL.loopS [0, 2, 21, 22] (fun k vals wr => ∃ (i : Nat) (b : Bool), vals = [vs l, .bool b, .int .i64 (l.length : Int), .int .i64 (i : Int)] ∧ k = l.length - i ∧ i ≤ l.length ∧ (l.take i).all isSign = true ∧ wr = w) l.length ⟨_, rfl, 0, false, rfl, rfl, Nat.zero_le _, rfl, rfl⟩ ?_
    rintro k vals wr ⟨i, b, rfl, rfl, hi, hall, rfl⟩
    dsimp only [List.zip, List.zipWith]
    rcases Nat.lt_or_ge i l.length with hlt | hge
    · repeat' (first | (refine CL.seq ?_) | (refine CL.region ?_) | (refine CL.skip ?_) | (refine CL.condP rfl (fun _ => ?_) (fun _ => ?_) <;> try (exfalso; omega)) | (refine CL.block ?_) | (refine Gt.nil ?_; refine RW.nilw [0, 2, 3, 19, 21, 22, 23, 29] ?_; dsimp only [H.keep, H.look, H.Fr.put, Nat.beq]) | (refine Gt.move ?_; refine RW.y (Y.move rfl) rfl ?_) | (refine Gt.assign ?_; refine RW.y (Y.assign rfl) rfl ?_) | (refine Gt.lss ?_; refine RW.y (Y.lss rfl rfl) rfl ?_) | (refine Gt.index ?_; refine RW.y (Y.idxs rfl rfl (by omega) (by omega)) rfl ?_))
      refine RW.fn rfl rfl ((sign _ wr).mono ?_)
      rintro e w' ⟨rfl, rfl⟩
      rw [Int.toNat_natCast]
      cases hs : isSign (l.getD i 0)
      · repeat' (first | (refine CL.seq ?_) | (refine CL.region ?_) | (refine CL.condT rfl ?_) | (refine CL.ret ?_) | (refine Rt.then ?_) | (refine Rt.block ?_) | (refine Gt.nil ?_; refine RW.nilw [0, 2, 3, 19, 21, 22, 23, 29] ?_; dsimp only [H.keep, H.look, H.Fr.put, Nat.beq]) | (refine Gt.assign ?_; refine RW.y (Y.assign rfl) rfl ?_) | (refine Gt.not ?_; (refine RW.y (Y.notb rfl) rfl ?_)))
        exact FQ.one rfl rfl rfl ⟨rfl, retb (by rw [mark_iff, all_false 0 hlt hs]; simp)⟩
      · repeat' (first | (refine CL.region ?_) | (refine CL.skip ?_) | (refine CL.condF rfl ?_) | (refine CL.done ?_) | (refine Nm.block ?_) | (refine Nm.then ?_) | (refine Gt.nil ?_; refine RW.nilw [0, 2, 3, 19, 21, 22, 23, 29] ?_; dsimp only [H.keep, H.look, H.Fr.put, Nat.beq]) | (refine Gt.move ?_; refine RW.y (Y.move rfl) rfl ?_) | (refine Gt.not ?_; (refine RW.y (Y.notb rfl) rfl ?_)) | (refine Gt.add ?_; refine RW.y (Y.add64 rfl rfl (by omega) (by omega)) rfl ?_))
        exact ⟨l.length - (i + 1), _, rfl, rfl, rfl, by omega, i + 1, b, rfl, rfl, by omega, all_step 0 hlt hall hs, rfl⟩
    · have hi : i = l.length := by omega
      subst hi
      rw [List.take_length] at hall
      repeat' (first | (refine CL.seq ?_) | (refine CL.region ?_) | (refine CL.condP rfl (fun _ => ?_) (fun _ => ?_) <;> try (exfalso; omega)) | (refine CL.exit ?_) | (refine Ex.then ?_) | (refine Ex.hit ?_) | (refine CL.ret ?_) | (refine Gt.nil ?_; refine RW.nilw [0, 2, 3, 19, 21, 22, 23, 29] ?_; dsimp only [H.keep, H.look, H.Fr.put, Nat.beq]) | (refine Gt.assign ?_; refine RW.y (Y.assign rfl) rfl ?_) | (refine Gt.lss ?_; refine RW.y (Y.lss rfl rfl) rfl ?_))
      exact FQ.one rfl rfl rfl ⟨rfl, retb (by rw [mark_iff]; exact iff_of_true rfl ⟨⟨hne, by omega, hpl⟩, hall⟩)⟩
  · have hd' := hd
    repeat' (first | (refine Gt.move ?_; refine RW.y (Y.move rfl) rfl ?_) | (refine Gt.guard ?_; (refine RW.on rfl rfl rfl ?_)))
    refine RW.fn rfl rfl ((plain l hne hl w).mono ?_)
    rintro e w' ⟨rfl, rfl⟩
    cases hp : plainB l
    · repeat' (first | (refine CL.seq ?_) | (refine CL.region ?_) | (refine CL.condT rfl ?_) | (refine CL.ret ?_) | (refine Gt.nil ?_; refine RW.nilw [0, 2, 3, 19, 21, 22, 23, 29] ?_; dsimp only [H.keep, H.look, H.Fr.put, Nat.beq]) | (refine Gt.guard ?_; (refine RW.on rfl rfl rfl ?_)) | (refine Gt.assign ?_; refine RW.y (Y.assign rfl) rfl ?_) | (refine Gt.pick ?_; first | (refine RW.y (Y.pickT rfl rfl) rfl ?_) | (refine RW.y (Y.pickF rfl rfl) rfl ?_)) | (refine Gt.not ?_; (refine RW.y (Y.notb rfl) rfl ?_)))
      exact FQ.one rfl rfl rfl ⟨rfl, retb (by rw [mark_iff]; simp [hd, hp])⟩
    · repeat' (first | (refine CL.seq ?_) | (refine CL.region ?_) | (refine CL.skip ?_) | (refine CL.condF rfl ?_) | (refine CL.block ?_) | (refine Gt.nil ?_; refine RW.nilw [0, 2, 3, 19, 21, 22, 23, 29] ?_; dsimp only [H.keep, H.look, H.Fr.put, Nat.beq]) | (refine Gt.move ?_; refine RW.y (Y.move rfl) rfl ?_) | (refine Gt.guard ?_; (refine RW.on rfl rfl rfl ?_)) | (refine Gt.pick ?_; first | (refine RW.y (Y.pickT rfl rfl) rfl ?_) | (refine RW.y (Y.pickF rfl rfl) rfl ?_)) | (refine Gt.len ?_; refine RW.y (Y.lens rfl) rfl ?_) | (refine Gt.not ?_; (refine RW.y (Y.notb rfl) rfl ?_)))
      have hpl : digB l = true → plainB l = true := fun _ => hp
      refine CL.loopS [0, 2, 21, 22] (fun k vals wr => ∃ (i : Nat) (b : Bool), vals = [vs l, .bool b, .int .i64 (l.length : Int), .int .i64 (i : Int)] ∧ k = l.length - i ∧ i ≤ l.length ∧ (l.take i).all isSign = true ∧ wr = w) l.length ⟨_, rfl, 0, false, rfl, rfl, Nat.zero_le _, rfl, rfl⟩ ?_
      rintro k vals wr ⟨i, b, rfl, rfl, hi, hall, rfl⟩
      dsimp only [List.zip, List.zipWith]
      rcases Nat.lt_or_ge i l.length with hlt | hge
      · repeat' (first | (refine CL.seq ?_) | (refine CL.region ?_) | (refine CL.skip ?_) | (refine CL.condP rfl (fun _ => ?_) (fun _ => ?_) <;> try (exfalso; omega)) | (refine CL.block ?_) | (refine Gt.nil ?_; refine RW.nilw [0, 2, 3, 19, 21, 22, 23, 29] ?_; dsimp only [H.keep, H.look, H.Fr.put, Nat.beq]) | (refine Gt.move ?_; refine RW.y (Y.move rfl) rfl ?_) | (refine Gt.assign ?_; refine RW.y (Y.assign rfl) rfl ?_) | (refine Gt.lss ?_; refine RW.y (Y.lss rfl rfl) rfl ?_) | (refine Gt.index ?_; refine RW.y (Y.idxs rfl rfl (by omega) (by omega)) rfl ?_))
        refine RW.fn rfl rfl ((sign _ wr).mono ?_)
        rintro e w' ⟨rfl, rfl⟩
        rw [Int.toNat_natCast]
        cases hs : isSign (l.getD i 0)
        · repeat' (first | (refine CL.seq ?_) | (refine CL.region ?_) | (refine CL.condT rfl ?_) | (refine CL.ret ?_) | (refine Rt.then ?_) | (refine Rt.block ?_) | (refine Gt.nil ?_; refine RW.nilw [0, 2, 3, 19, 21, 22, 23, 29] ?_; dsimp only [H.keep, H.look, H.Fr.put, Nat.beq]) | (refine Gt.assign ?_; refine RW.y (Y.assign rfl) rfl ?_) | (refine Gt.not ?_; (refine RW.y (Y.notb rfl) rfl ?_)))
          exact FQ.one rfl rfl rfl ⟨rfl, retb (by rw [mark_iff, all_false 0 hlt hs]; simp)⟩
        · repeat' (first | (refine CL.region ?_) | (refine CL.skip ?_) | (refine CL.condF rfl ?_) | (refine CL.done ?_) | (refine Nm.block ?_) | (refine Nm.then ?_) | (refine Gt.nil ?_; refine RW.nilw [0, 2, 3, 19, 21, 22, 23, 29] ?_; dsimp only [H.keep, H.look, H.Fr.put, Nat.beq]) | (refine Gt.move ?_; refine RW.y (Y.move rfl) rfl ?_) | (refine Gt.not ?_; (refine RW.y (Y.notb rfl) rfl ?_)) | (refine Gt.add ?_; refine RW.y (Y.add64 rfl rfl (by omega) (by omega)) rfl ?_))
          exact ⟨l.length - (i + 1), _, rfl, rfl, rfl, by omega, i + 1, b, rfl, rfl, by omega, all_step 0 hlt hall hs, rfl⟩
      · have hi : i = l.length := by omega
        subst hi
        rw [List.take_length] at hall
        repeat' (first | (refine CL.seq ?_) | (refine CL.region ?_) | (refine CL.condP rfl (fun _ => ?_) (fun _ => ?_) <;> try (exfalso; omega)) | (refine CL.exit ?_) | (refine Ex.then ?_) | (refine Ex.hit ?_) | (refine CL.ret ?_) | (refine Gt.nil ?_; refine RW.nilw [0, 2, 3, 19, 21, 22, 23, 29] ?_; dsimp only [H.keep, H.look, H.Fr.put, Nat.beq]) | (refine Gt.assign ?_; refine RW.y (Y.assign rfl) rfl ?_) | (refine Gt.lss ?_; refine RW.y (Y.lss rfl rfl) rfl ?_))
        exact FQ.one rfl rfl rfl ⟨rfl, retb (by rw [mark_iff]; exact iff_of_true rfl ⟨⟨hne, by omega, hpl⟩, hall⟩)⟩
end Go.Proofs.YtjlkmdmpejpmpaaGreatDoor.Ve

namespace Go.Proofs.YtjlkmdmpejpmpaaGreatDoor.Ve
open Go.RowKit H S
attribute [local irreducible] H.CL H.RW H.CW H.Yd H.thenK H.blockQ Go.Calls
theorem one_vs (l : List UInt8) : ∀ y ∈ (vs l).cells.toList, y.oneCell' = true := by
  intro y hy
  simp only [Value.cells] at hy
  simp at hy
  subst hy
  rfl

set_option maxHeartbeats 400000 in
theorem refSplit (l : List UInt8) (c : UInt8) (hl : l.length ≤ 1000000000) (w : World) : Calls Tryz.prog 46 #[vs l, vb c] w fun e w' => ∃ v', e = .returned v' ∧ w'.ownsRow w.heap.size strT 1 v' (splitB c l).length (sv (splitB c l)) ∧ K0 w w' := by
  refine H.enter Tryz.func46 Tryz.ntmps46 rfl rfl ?_; dsimp only [H.args]
  repeat' (first | (refine CL.seq ?_) | (refine CL.region ?_) | (refine CL.block ?_) | (refine Gt.nil ?_; refine RW.nilw [0, 1, 4, 5, 6, 7, 11, 24] ?_; dsimp only [H.keep, H.look, H.Fr.put, Nat.beq]) | (refine Gt.assign ?_; refine RW.y (Y.assign rfl) rfl ?_))
  refine CL.loopS [0, 1, 5, 6, 7] (fun m vals wr => ∃ (i j : Nat) (u : Value) (done : List (List UInt8)), vals = [vs l, vb c, u, .int .i64 (j : Int), .int .i64 (i : Int)] ∧ m = l.length + 1 - i ∧ i ≤ l.length + 1 ∧ j ≤ i ∧ done.length ≤ i ∧ wr.ownsRow w.heap.size strT 1 u done.length (sv done) ∧ K0 w wr ∧
      (if i ≤ l.length then splitB c l = done ++ (((l.take i).drop j ++ (splitB c (l.drop i)).headD []) :: (splitB c (l.drop i)).tail) else splitB c l = done)) (l.length + 1) ⟨_, rfl, 0, 0, _, [], rfl, rfl, Nat.zero_le _, Nat.le_refl _, Nat.le_refl _, World.ownsRow_nil _ _ _ _, Kept.refl _ _, ?_⟩ ?_
  · rw [if_pos (Nat.zero_le _)]
    have := splitB_ne c l
    cases h : splitB c l with
    | nil => exact absurd h this
    | cons a r => simp [h]
  rintro m vals wr ⟨i, j, u, done, rfl, rfl, hil, hji, hdl, how, hk, hsp⟩
  dsimp only [List.zip, List.zipWith]
  have hsz := hk.size
  rcases Nat.lt_or_ge l.length i with hgt | hle
  · rw [if_neg (by omega)] at hsp
    have hd : done = splitB c l := hsp.symm
    subst hd
    repeat' (first | (refine CL.seq ?_) | (refine CL.region ?_) | (refine CL.condP rfl (fun _ => ?_) (fun _ => ?_) <;> try (exfalso; omega)) | (refine CL.exit ?_) | (refine Ex.then ?_) | (refine Ex.hit ?_) | (refine CL.ret ?_) | (refine Gt.nil ?_; refine RW.nilw [0, 1, 4, 5, 6, 7, 11, 24] ?_; dsimp only [H.keep, H.look, H.Fr.put, Nat.beq]) | (refine Gt.move ?_; refine RW.y (Y.move rfl) rfl ?_) | (refine Gt.assign ?_; refine RW.y (Y.assign rfl) rfl ?_) | (refine Gt.len ?_; refine RW.y (Y.lens rfl) rfl ?_) | (refine Gt.leq ?_; refine RW.y (Y.leq rfl rfl) rfl ?_))
    exact FQ.one rfl rfl rfl ⟨_, rfl, how, hk⟩
  rw [if_pos hle] at hsp
  rcases Nat.lt_or_ge i l.length with hlt | hge
  · have hdrop : l.drop i = l.getD i 0 :: l.drop (i + 1) := by rw [List.drop_eq_getElem_cons hlt]; simp [List.getD_eq_getElem?_getD, hlt]
    have htk : (l.take (i + 1)).drop j = (l.take i).drop j ++ [l.getD i 0] := by
      rw [List.take_succ_eq_append_getElem hlt, List.drop_append_of_le_length (by rw [List.length_take]; omega)]
      simp [List.getD_eq_getElem?_getD, hlt]
    have hlast : splitB c (l.drop (i + 1)) = (splitB c (l.drop (i + 1))).headD [] :: (splitB c (l.drop (i + 1))).tail := by
      have := splitB_ne c (l.drop (i + 1))
      cases h : splitB c (l.drop (i + 1)) with
      | nil => exact absurd h this
      | cons a r => rfl
    rw [hdrop, splitB] at hsp
    repeat' (first | (refine CL.seq ?_) | (refine CL.region ?_) | (refine CL.skip ?_) | (refine CL.condP rfl (fun _ => ?_) (fun _ => ?_) <;> try (exfalso; omega)) | (refine CL.block ?_) | (refine CL.done ?_) | (refine Nm.block ?_) | (refine Nm.then ?_) | (refine Gt.nil ?_; refine RW.nilw [0, 1, 4, 5, 6, 7, 11, 24] ?_; dsimp only [H.keep, H.look, H.Fr.put, Nat.beq]) | (refine Gt.move ?_; refine RW.y (Y.move rfl) rfl ?_) | (refine Gt.guard ?_; first | (refine RW.part rfl rfl rfl (fun _ => ?_) (fun _ => ?_) <;> try (exfalso; omega)) | (refine RW.on rfl rfl rfl ?_)) | (refine Gt.assign ?_; refine RW.y (Y.assign rfl) rfl ?_) | (refine Gt.len ?_; refine RW.y (Y.lens rfl) rfl ?_) | (refine Gt.eql ?_; refine RW.y (Y.eqi rfl rfl) rfl ?_) | (refine Gt.add ?_; refine RW.y (Y.add64 rfl rfl (by omega) (by omega)) rfl ?_) | (refine Gt.leq ?_; refine RW.y (Y.leq rfl rfl) rfl ?_) | (refine Gt.index ?_; refine RW.y (Y.idxs rfl rfl (by omega) (by omega)) rfl ?_) | (refine Gt.pick ?_; (refine RW.y (Y.pickF rfl rfl) rfl ?_)) | (refine Gt.slice ?_; refine RW.y (Y.cutlh rfl rfl rfl (by omega) (by omega) (by omega)) rfl ?_))
    · rename_i h
      rw [Int.toNat_natCast] at h
      have hx : l.getD i 0 = c := u8_eq h
      rw [if_pos hx] at hsp
      have hcut : (l.take ((i : Int)).toNat).drop ((j : Int)).toNat = (l.take i).drop j := by rw [Int.toNat_natCast, Int.toNat_natCast]
      rw [hcut]
      refine RW.app1 rfl rfl rfl rfl how rfl rfl rfl rfl (one_vs _) (by omega) (by omega) (by omega) (fun u' w1 how' hk' hl' => ?_)
      repeat' (first | (refine CL.region ?_) | (refine CL.done ?_) | (refine Nm.block ?_) | (refine Nm.then ?_) | (refine Gt.nil ?_; refine RW.nilw [0, 1, 4, 5, 6, 7, 11, 24] ?_; dsimp only [H.keep, H.look, H.Fr.put, Nat.beq]) | (refine Gt.move ?_; refine RW.y (Y.move rfl) rfl ?_) | (refine Gt.assign ?_; refine RW.y (Y.assign rfl) rfl ?_) | (refine Gt.add ?_; refine RW.y (Y.add64 rfl rfl (by omega) (by omega)) rfl ?_))
      refine ⟨l.length + 1 - (i + 1), _, rfl, rfl, rfl, by omega, i + 1, i + 1, u', done ++ [(l.take i).drop j], by simp, rfl, by omega, by omega, by simp; omega, by simpa [Value.cells] using how', hk.trans hk' fun k h => .inr (how.lt k h).1, ?_⟩
      rw [if_pos (by omega)]
      have : (l.take (i + 1)).drop (i + 1) = [] := by rw [List.drop_eq_nil_iff, List.length_take]; omega
      rw [this, List.nil_append, ← hlast, hsp]
      simp
    · rename_i h
      rw [Int.toNat_natCast] at h
      have hx : ¬ l.getD i 0 = c := fun q => h (by rw [q])
      rw [if_neg hx] at hsp
      refine ⟨l.length + 1 - (i + 1), _, rfl, rfl, rfl, by omega, i + 1, j, u, done, by simp, rfl, by omega, by omega, by omega, how, hk, ?_⟩
      rw [if_pos (by omega), htk, hsp]
      simp
  · have hi : i = l.length := by omega
    subst hi
    rw [List.drop_length] at hsp
    have hcut : (l.take ((l.length : Int)).toNat).drop ((j : Int)).toNat = (l.take l.length).drop j := by rw [Int.toNat_natCast, Int.toNat_natCast]
    repeat' (first | (refine CL.seq ?_) | (refine CL.region ?_) | (refine CL.skip ?_) | (refine CL.condP rfl (fun _ => ?_) (fun _ => ?_) <;> try (exfalso; omega)) | (refine CL.condT rfl ?_) | (refine CL.block ?_) | (refine Gt.nil ?_; refine RW.nilw [0, 1, 4, 5, 6, 7, 11, 24] ?_; dsimp only [H.keep, H.look, H.Fr.put, Nat.beq]) | (refine Gt.move ?_; refine RW.y (Y.move rfl) rfl ?_) | (refine Gt.guard ?_; first | (refine RW.part rfl rfl rfl (fun _ => ?_) (fun _ => ?_) <;> try (exfalso; omega)) | (refine RW.off1 rfl rfl rfl rfl rfl ?_)) | (refine Gt.len ?_; refine RW.y (Y.lens rfl) rfl ?_) | (refine Gt.eql ?_; refine RW.y (Y.eqi rfl rfl) rfl ?_) | (refine Gt.leq ?_; refine RW.y (Y.leq rfl rfl) rfl ?_) | (refine Gt.pick ?_; (refine RW.y (Y.pickT rfl rfl) rfl ?_)) | (refine Gt.slice ?_; refine RW.y (Y.cutlh rfl rfl rfl (by omega) (by omega) (by omega)) rfl ?_))
    rw [hcut]
    refine RW.app1 rfl rfl rfl rfl how rfl rfl rfl rfl (one_vs _) (by omega) (by omega) (by omega) (fun u' w1 how' hk' hl' => ?_)
    repeat' (first | (refine CL.region ?_) | (refine CL.done ?_) | (refine Nm.block ?_) | (refine Nm.then ?_) | (refine Gt.nil ?_; refine RW.nilw [0, 1, 4, 5, 6, 7, 11, 24] ?_; dsimp only [H.keep, H.look, H.Fr.put, Nat.beq]) | (refine Gt.move ?_; refine RW.y (Y.move rfl) rfl ?_) | (refine Gt.assign ?_; refine RW.y (Y.assign rfl) rfl ?_) | (refine Gt.add ?_; refine RW.y (Y.add64 rfl rfl (by omega) (by omega)) rfl ?_))
    refine ⟨l.length + 1 - (l.length + 1), _, rfl, rfl, rfl, by omega, l.length + 1, l.length + 1, u', done ++ [(l.take l.length).drop j], by simp, rfl, by omega, by omega, by simp; omega, by simpa [Value.cells] using how', hk.trans hk' fun k h => .inr (how.lt k h).1, ?_⟩
    rw [if_neg (by omega), hsp]
    simp [splitB]


theorem refDigits (l : T) (hl : l.length ≤ 1000000000000) (w : World) : Calls Tryz.prog 67 #[vs l] w fun e w' => w = w' ∧ e = .returned (.bool (digB l)) := by
  refine H.enter Tryz.func67 Tryz.ntmps67 rfl rfl ?_; dsimp only [H.args]
  repeat' (first | (refine CL.seq ?_) | (refine CL.region ?_) | (refine CL.block ?_) | (refine Gt.nil ?_; refine RW.nilw [0, 2, 3, 7, 19] ?_; dsimp only [H.keep, H.look, H.Fr.put, Nat.beq]) | (refine Gt.assign ?_; refine RW.y (Y.assign rfl) rfl ?_))
  refine CL.loopS [0, 2, 3] (fun k vals wr => ∃ (i : Nat) (b : Bool), vals = [vs l, .bool b, .int .i64 (i : Int)] ∧ k = l.length - i ∧ i ≤ l.length ∧ (l.take i).all isDig = true ∧ wr = w) l.length ⟨_, rfl, 0, false, rfl, rfl, Nat.zero_le _, rfl, rfl⟩ ?_
  rintro k vals wr ⟨i, b, rfl, rfl, hi, hall, rfl⟩
  dsimp only [List.zip, List.zipWith]
  rcases Nat.lt_or_ge i l.length with hlt | hge
  · repeat' (first | (refine CL.seq ?_) | (refine CL.region ?_) | (refine CL.skip ?_) | (refine CL.condP rfl (fun _ => ?_) (fun _ => ?_) <;> try (exfalso; omega)) | (refine CL.condT rfl ?_) | (refine CL.block ?_) | (refine CL.ret ?_) | (refine Rt.then ?_) | (refine Rt.block ?_) | (refine CL.done ?_) | (refine Nm.block ?_) | (refine Nm.then ?_) | (refine Gt.nil ?_; refine RW.nilw [0, 2, 3, 7, 19] ?_; dsimp only [H.keep, H.look, H.Fr.put, Nat.beq]) | (refine Gt.move ?_; refine RW.y (Y.move rfl) rfl ?_) | (refine Gt.guard ?_; first | (refine RW.part rfl rfl rfl (fun _ => ?_) (fun _ => ?_) <;> try (exfalso; omega)) | (refine RW.on rfl rfl rfl ?_) | (refine RW.off1 rfl rfl rfl rfl rfl ?_)) | (refine Gt.assign ?_; refine RW.y (Y.assign rfl) rfl ?_) | (refine Gt.lss ?_; refine RW.y (Y.lss rfl rfl) rfl ?_) | (refine Gt.index ?_; refine RW.y (Y.idxs rfl rfl (by omega) (by omega)) rfl ?_) | (refine Gt.len ?_; refine RW.y (Y.lens rfl) rfl ?_) | (refine Gt.gtr ?_; refine RW.y (Y.gtr rfl rfl) rfl ?_) | (refine Gt.pick ?_; first | (refine RW.y (Y.pickT rfl rfl) rfl ?_) | (refine RW.y (Y.pickF rfl rfl) rfl ?_)) | (refine Gt.add ?_; refine RW.y (Y.add64 rfl rfl (by omega) (by omega)) rfl ?_))
    · rename_i h
      exact FQ.one rfl rfl rfl ⟨rfl, by rw [dig_none (all_false 0 hlt (dig_lo h))]⟩
    · rename_i h1 h2
      exact FQ.one rfl rfl rfl ⟨rfl, by rw [dig_none (all_false 0 hlt (dig_lo2 h2))]⟩
    · rename_i h1 h2
      exact ⟨l.length - (i + 1), _, rfl, rfl, rfl, by omega, i + 1, b, rfl, rfl, by omega, all_step 0 hlt hall (dig_hi h1 h2), rfl⟩
  · have hi : i = l.length := by omega
    subst hi
    rw [List.take_length] at hall
    repeat' (first | (refine CL.seq ?_) | (refine CL.region ?_) | (refine CL.condP rfl (fun _ => ?_) (fun _ => ?_) <;> try (exfalso; omega)) | (refine CL.exit ?_) | (refine Ex.then ?_) | (refine Ex.hit ?_) | (refine CL.ret ?_) | (refine Gt.nil ?_; refine RW.nilw [0, 2, 3, 7, 19] ?_; dsimp only [H.keep, H.look, H.Fr.put, Nat.beq]) | (refine Gt.move ?_; refine RW.y (Y.move rfl) rfl ?_) | (refine Gt.assign ?_; refine RW.y (Y.assign rfl) rfl ?_) | (refine Gt.lss ?_; refine RW.y (Y.lss rfl rfl) rfl ?_) | (refine Gt.len ?_; refine RW.y (Y.lens rfl) rfl ?_) | (refine Gt.neq ?_; refine RW.y (Y.nes rfl rfl) rfl ?_))
    exact FQ.one rfl rfl rfl ⟨rfl, by rw [dig_all hall]⟩

set_option maxHeartbeats 400000 in
theorem refNumber (l : T) (hl : l.length ≤ 1000000000000) (w : World) : Calls Tryz.prog 48 #[vs l, .int .i64 999999999] w fun e w' => w = w' ∧ ∃ n : Int, e = .returned (.tuple #[.int .i64 n, .bool (numB l)]) ∧ (numB l = true → n = val l) := by
  refine H.enter Tryz.func48 Tryz.ntmps48 rfl rfl ?_; dsimp only [H.args]
  repeat' (first | (refine CL.seq ?_) | (refine CL.region ?_) | (refine Gt.nil ?_; refine RW.nilw [0, 1, 4, 5, 6, 7, 25, 29] ?_; dsimp only [H.keep, H.look, H.Fr.put, Nat.beq]) | (refine Gt.move ?_; refine RW.y (Y.move rfl) rfl ?_) | (refine Gt.assign ?_; refine RW.y (Y.assign rfl) rfl ?_))
  refine RW.fn rfl rfl ((refDigits l hl w).mono ?_)
  rintro e w' ⟨rfl, rfl⟩
  have hr := num_ref l
  cases hd : digB l
  · have hn : numB l = false := by simp [numB, hd]
    rw [hn]
    repeat' (first | (refine CL.seq ?_) | (refine CL.region ?_) | (refine CL.condT rfl ?_) | (refine CL.ret ?_) | (refine Gt.nil ?_; refine RW.nilw [0, 1, 4, 5, 6, 7, 25, 29] ?_; dsimp only [H.keep, H.look, H.Fr.put, Nat.beq]) | (refine Gt.move ?_; refine RW.y (Y.move rfl) rfl ?_) | (refine Gt.guard ?_; first | (refine RW.off1 rfl rfl rfl rfl rfl ?_) | (refine RW.offu rfl rfl rfl rfl ?_)) | (refine Gt.assign ?_; refine RW.y (Y.assign rfl) rfl ?_) | (refine Gt.pick ?_; (refine RW.y (Y.pickT rfl rfl) rfl ?_)) | (refine Gt.not ?_; (refine RW.y (Y.notb rfl) rfl ?_)))
    exact FQ.res (rs := [.tmp 4, .tmp 5]) (vs := [_, _]) rfl rfl ⟨rfl, rfl, trivial⟩ rfl (⟨rfl, _, rfl, fun c => by cases c⟩)
  · rw [hd] at hr
    have hd' := hd
    simp only [digB, Bool.and_eq_true, decide_eq_true_eq] at hd'
    have hpos := List.length_pos_iff.2 hd'.1
    repeat' (first | (refine CL.seq ?_) | (refine CL.region ?_) | (refine CL.skip ?_) | (refine CL.condP rfl (fun _ => ?_) (fun _ => ?_) <;> try (exfalso; omega)) | (refine CL.condT rfl ?_) | (refine CL.block ?_) | (refine CL.ret ?_) | (refine Gt.nil ?_; refine RW.nilw [0, 1, 4, 5, 6, 7, 25, 29] ?_; dsimp only [H.keep, H.look, H.Fr.put, Nat.beq]) | (refine Gt.move ?_; refine RW.y (Y.move rfl) rfl ?_) | (refine Gt.guard ?_; first | (refine RW.part rfl rfl rfl (fun _ => ?_) (fun _ => ?_) <;> try (exfalso; omega)) | (refine RW.on rfl rfl rfl ?_) | (refine RW.off1 rfl rfl rfl rfl rfl ?_)) | (refine Gt.assign ?_; refine RW.y (Y.assign rfl) rfl ?_) | (refine Gt.len ?_; refine RW.y (Y.lens rfl) rfl ?_) | (refine Gt.pick ?_; first | (refine RW.y (Y.pickT rfl rfl) rfl ?_) | (refine RW.y (Y.pickF rfl rfl) rfl ?_)) | (refine Gt.gtr ?_; refine RW.y (Y.gtr rfl rfl) rfl ?_) | (refine Gt.index ?_; refine RW.y (Y.idxs rfl rfl (by omega) (by omega)) rfl ?_) | (refine Gt.not ?_; (refine RW.y (Y.notb rfl) rfl ?_)) | (refine Gt.eql ?_; refine RW.y (Y.eqi rfl rfl) rfl ?_))
    · rename_i h1 h2
      have hn : numB l = false := by rw [Bool.eq_false_iff, Ne, ← hr]; exact fun c => c.2.1 ⟨by omega, u8_eq (by simpa using h2)⟩
      rw [hn]
      exact FQ.res (rs := [.tmp 4, .tmp 5]) (vs := [_, _]) rfl rfl ⟨rfl, rfl, trivial⟩ rfl (⟨rfl, _, rfl, fun c => by cases c⟩)
    · have hn : numB l = false := by rw [Bool.eq_false_iff, Ne, ← hr]; exact fun c => by have := c.2.2.1; omega
      rw [hn]
      exact FQ.res (rs := [.tmp 4, .tmp 5]) (vs := [_, _]) rfl rfl ⟨rfl, rfl, trivial⟩ rfl (⟨rfl, _, rfl, fun c => by cases c⟩)
    · rename_i h1 h2 h3
      have hno : ¬ (1 < l.length ∧ l.getD 0 0 = 48) := fun c => h2 (by rw [show Int.toNat 0 = 0 from rfl, c.2]; rfl)
      refine CL.loopS [0, 1, 6, 7] (fun k vals wr => ∃ (i : Nat), vals = [vs l, .int .i64 999999999, .int .i64 (val (l.take i) : Int), .int .i64 (i : Int)] ∧ k = l.length - i ∧ i ≤ l.length ∧ wr = w) l.length ⟨_, rfl, 0, rfl, rfl, Nat.zero_le _, rfl⟩ ?_
      rintro k vals wr ⟨i, rfl, rfl, hi, rfl⟩
      dsimp only [List.zip, List.zipWith]
      rcases Nat.lt_or_ge i l.length with hlt | hge
      · have hv := val_lt (l.take i).length (l.take i) rfl (List.all_eq_true.2 fun x hx => List.all_eq_true.1 hd'.2 x (List.mem_of_mem_take hx))
        have hv2 : 10 ^ (l.take i).length ≤ 10 ^ 9 := Nat.pow_le_pow_right (by decide) (by rw [List.length_take]; omega)
        have e9 : (10 : Nat) ^ 9 = 1000000000 := by decide
        have hdg := List.all_eq_true.1 hd'.2 _ (getD_mem 0 hlt)
        simp only [isDig, Bool.and_eq_true, decide_eq_true_eq] at hdg
        have hi2 : ((i : Int)).toNat = i := Int.toNat_natCast i
        rw [← hi2] at hdg
        repeat' (first | (refine CL.seq ?_) | (refine CL.region ?_) | (refine CL.skip ?_) | (refine CL.condP rfl (fun _ => ?_) (fun _ => ?_) <;> try (exfalso; omega)) | (refine CL.block ?_) | (refine CL.done ?_) | (refine Nm.block ?_) | (refine Nm.then ?_) | (refine Gt.nil ?_; refine RW.nilw [0, 1, 4, 5, 6, 7, 25, 29] ?_; dsimp only [H.keep, H.look, H.Fr.put, Nat.beq]) | (refine Gt.move ?_; refine RW.y (Y.move rfl) rfl ?_) | (refine Gt.assign ?_; refine RW.y (Y.assign rfl) rfl ?_) | (refine Gt.len ?_; refine RW.y (Y.lens rfl) rfl ?_) | (refine Gt.index ?_; refine RW.y (Y.idxs rfl rfl (by omega) (by omega)) rfl ?_) | (refine Gt.add ?_; refine RW.y (Y.add64 rfl rfl (by omega) (by omega)) rfl ?_) | (refine Gt.lss ?_; refine RW.y (Y.lss rfl rfl) rfl ?_) | (refine Gt.mul ?_; (refine RW.y (Y.mul64 rfl rfl (by omega) (by omega)) rfl ?_)) | (refine Gt.sub ?_; refine RW.y (Y.subN rfl rfl (by exact wrapu8_id (by omega) (by omega))) rfl ?_) | (refine Gt.convert ?_; (refine RW.y (Y.convN rfl (by exact wrap64_id (by omega) (by omega))) rfl ?_)))
        refine ⟨l.length - (i + 1), _, rfl, rfl, rfl, by omega, i + 1, ?_, rfl, by omega, rfl⟩
        rw [take_snoc 0 l i hlt, val_snoc, hi2]
        rw [hi2] at hdg
        rw [show ((10 * val (l.take i) + ((l.getD i 0).toNat - 48) : Nat) : Int) = 10 * (val (l.take i) : Int) + (((l.getD i 0).toNat : Int) - 48) from by omega]
        rfl
      · have hi : i = l.length := by omega
        subst hi
        rw [List.take_length]
        repeat' (first | (refine CL.seq ?_) | (refine CL.region ?_) | (refine CL.condP rfl (fun _ => ?_) (fun _ => ?_) <;> try (exfalso; omega)) | (refine CL.exit ?_) | (refine Ex.then ?_) | (refine Ex.hit ?_) | (refine CL.ret ?_) | (refine Gt.nil ?_; refine RW.nilw [0, 1, 4, 5, 6, 7, 25, 29] ?_; dsimp only [H.keep, H.look, H.Fr.put, Nat.beq]) | (refine Gt.move ?_; refine RW.y (Y.move rfl) rfl ?_) | (refine Gt.assign ?_; refine RW.y (Y.assign rfl) rfl ?_) | (refine Gt.len ?_; refine RW.y (Y.lens rfl) rfl ?_) | (refine Gt.lss ?_; refine RW.y (Y.lss rfl rfl) rfl ?_) | (refine Gt.leq ?_; refine RW.y (Y.leq rfl rfl) rfl ?_))
        refine FQ.res (rs := [.tmp 4, .tmp 5]) (vs := [_, _]) rfl rfl ⟨rfl, rfl, trivial⟩ rfl (⟨rfl, _, congrArg Ending.returned (congrArg (fun b => Value.tuple #[_, .bool b]) ?_), fun _ => rfl⟩)
        rw [Bool.eq_iff_iff, ← hr, decide_eq_true_eq]
        exact ⟨fun c => ⟨rfl, hno, by omega, by omega⟩, fun c => by have := c.2.2.2; omega⟩
    · rename_i h1 h3
      have hno : ¬ (1 < l.length ∧ l.getD 0 0 = 48) := fun c => h1 (by omega)
      refine CL.loopS [0, 1, 6, 7] (fun k vals wr => ∃ (i : Nat), vals = [vs l, .int .i64 999999999, .int .i64 (val (l.take i) : Int), .int .i64 (i : Int)] ∧ k = l.length - i ∧ i ≤ l.length ∧ wr = w) l.length ⟨_, rfl, 0, rfl, rfl, Nat.zero_le _, rfl⟩ ?_
      rintro k vals wr ⟨i, rfl, rfl, hi, rfl⟩
      dsimp only [List.zip, List.zipWith]
      rcases Nat.lt_or_ge i l.length with hlt | hge
      · have hv := val_lt (l.take i).length (l.take i) rfl (List.all_eq_true.2 fun x hx => List.all_eq_true.1 hd'.2 x (List.mem_of_mem_take hx))
        have hv2 : 10 ^ (l.take i).length ≤ 10 ^ 9 := Nat.pow_le_pow_right (by decide) (by rw [List.length_take]; omega)
        have e9 : (10 : Nat) ^ 9 = 1000000000 := by decide
        have hdg := List.all_eq_true.1 hd'.2 _ (getD_mem 0 hlt)
        simp only [isDig, Bool.and_eq_true, decide_eq_true_eq] at hdg
        have hi2 : ((i : Int)).toNat = i := Int.toNat_natCast i
        rw [← hi2] at hdg
        repeat' (first | (refine CL.seq ?_) | (refine CL.region ?_) | (refine CL.skip ?_) | (refine CL.condP rfl (fun _ => ?_) (fun _ => ?_) <;> try (exfalso; omega)) | (refine CL.block ?_) | (refine CL.done ?_) | (refine Nm.block ?_) | (refine Nm.then ?_) | (refine Gt.nil ?_; refine RW.nilw [0, 1, 4, 5, 6, 7, 25, 29] ?_; dsimp only [H.keep, H.look, H.Fr.put, Nat.beq]) | (refine Gt.move ?_; refine RW.y (Y.move rfl) rfl ?_) | (refine Gt.assign ?_; refine RW.y (Y.assign rfl) rfl ?_) | (refine Gt.len ?_; refine RW.y (Y.lens rfl) rfl ?_) | (refine Gt.index ?_; refine RW.y (Y.idxs rfl rfl (by omega) (by omega)) rfl ?_) | (refine Gt.add ?_; refine RW.y (Y.add64 rfl rfl (by omega) (by omega)) rfl ?_) | (refine Gt.lss ?_; refine RW.y (Y.lss rfl rfl) rfl ?_) | (refine Gt.mul ?_; (refine RW.y (Y.mul64 rfl rfl (by omega) (by omega)) rfl ?_)) | (refine Gt.sub ?_; refine RW.y (Y.subN rfl rfl (by exact wrapu8_id (by omega) (by omega))) rfl ?_) | (refine Gt.convert ?_; (refine RW.y (Y.convN rfl (by exact wrap64_id (by omega) (by omega))) rfl ?_)))
        refine ⟨l.length - (i + 1), _, rfl, rfl, rfl, by omega, i + 1, ?_, rfl, by omega, rfl⟩
        rw [take_snoc 0 l i hlt, val_snoc, hi2]
        rw [hi2] at hdg
        rw [show ((10 * val (l.take i) + ((l.getD i 0).toNat - 48) : Nat) : Int) = 10 * (val (l.take i) : Int) + (((l.getD i 0).toNat : Int) - 48) from by omega]
        rfl
      · have hi : i = l.length := by omega
        subst hi
        rw [List.take_length]
        repeat' (first | (refine CL.seq ?_) | (refine CL.region ?_) | (refine CL.condP rfl (fun _ => ?_) (fun _ => ?_) <;> try (exfalso; omega)) | (refine CL.exit ?_) | (refine Ex.then ?_) | (refine Ex.hit ?_) | (refine CL.ret ?_) | (refine Gt.nil ?_; refine RW.nilw [0, 1, 4, 5, 6, 7, 25, 29] ?_; dsimp only [H.keep, H.look, H.Fr.put, Nat.beq]) | (refine Gt.move ?_; refine RW.y (Y.move rfl) rfl ?_) | (refine Gt.assign ?_; refine RW.y (Y.assign rfl) rfl ?_) | (refine Gt.len ?_; refine RW.y (Y.lens rfl) rfl ?_) | (refine Gt.lss ?_; refine RW.y (Y.lss rfl rfl) rfl ?_) | (refine Gt.leq ?_; refine RW.y (Y.leq rfl rfl) rfl ?_))
        refine FQ.res (rs := [.tmp 4, .tmp 5]) (vs := [_, _]) rfl rfl ⟨rfl, rfl, trivial⟩ rfl (⟨rfl, _, congrArg Ending.returned (congrArg (fun b => Value.tuple #[_, .bool b]) ?_), fun _ => rfl⟩)
        rw [Bool.eq_iff_iff, ← hr, decide_eq_true_eq]
        exact ⟨fun c => ⟨rfl, hno, by omega, by omega⟩, fun c => by have := c.2.2.2; omega⟩

set_option maxHeartbeats 1000000 in
theorem refMark (l : T) (hl : l.length ≤ 1000000000000) (w : World) : Calls Tryz.prog 47 #[vs l] w fun e w' => w = w' ∧ e = .returned (.bool (markB l)) := by
  refine H.enter Tryz.func47 Tryz.ntmps47 rfl rfl ?_; dsimp only [H.args]
  repeat' (first | (refine CL.seq ?_) | (refine CL.region ?_) | (refine CL.skip ?_) | (refine CL.condP rfl (fun _ => ?_) (fun _ => ?_) <;> try (exfalso; omega)) | (refine CL.condT rfl ?_) | (refine CL.block ?_) | (refine CL.ret ?_) | (refine Gt.nil ?_; refine RW.nilw [0, 2, 3, 4, 12, 16, 48] ?_; dsimp only [H.keep, H.look, H.Fr.put, Nat.beq]) | (refine Gt.move ?_; refine RW.y (Y.move rfl) rfl ?_) | (refine Gt.guard ?_; first | (refine RW.part rfl rfl rfl (fun _ => ?_) (fun _ => ?_) <;> try (exfalso; omega)) | (refine RW.on rfl rfl rfl ?_) | (refine RW.off1 rfl rfl rfl rfl rfl ?_)) | (refine Gt.pick ?_; first | (refine RW.y (Y.pickT rfl rfl) rfl ?_) | (refine RW.y (Y.pickF rfl rfl) rfl ?_)) | (refine Gt.assign ?_; refine RW.y (Y.assign rfl) rfl ?_) | (refine Gt.len ?_; refine RW.y (Y.lens rfl) rfl ?_) | (refine Gt.lss ?_; refine RW.y (Y.lss rfl rfl) rfl ?_) | (refine Gt.gtr ?_; refine RW.y (Y.gtr rfl rfl) rfl ?_))
  · exact FQ.one rfl rfl rfl ⟨rfl, retb (by rw [mark_iff]; refine iff_of_false (by simp) (fun c => ?_); have := List.length_pos_iff.2 c.1.1; omega)⟩
  · exact FQ.one rfl rfl rfl ⟨rfl, retb (by rw [mark_iff]; exact iff_of_false (by simp) (fun c => by have := c.1.2.1; omega))⟩
  rename_i h1 h16
  have hne : l ≠ [] := List.length_pos_iff.1 (by omega)
  refine CL.loopS [0, 2, 3] (fun k vals wr => ∃ (i : Nat) (b : Bool), vals = [vs l, .bool b, .int .i64 (i : Int)] ∧ k = l.length - i ∧ i ≤ l.length ∧ (l.take i).all isSign = true ∧ wr = w) l.length ⟨_, rfl, 0, false, rfl, rfl, Nat.zero_le _, rfl, rfl⟩ ?_
  rintro k vals wr ⟨i, b, rfl, rfl, hi, hall, rfl⟩
  dsimp only [List.zip, List.zipWith]
  rcases Nat.lt_or_ge i l.length with hlt | hge
  · have hi2 : ((i : Int)).toNat = i := Int.toNat_natCast i
    have hs := isSign_iff (l.getD ((i : Int)).toNat 0)
    have hbad : isSign (l.getD ((i : Int)).toNat 0) = false → markB l = false := fun c => by rw [hi2] at c; rw [Bool.eq_false_iff, Ne, mark_iff, all_false 0 hlt c]; simp
    have hst : isSign (l.getD ((i : Int)).toNat 0) = true → (l.take (i + 1)).all isSign = true := fun c => by rw [hi2] at c; exact all_step 0 hlt hall c
    repeat' (first | (refine CL.seq ?_) | (refine CL.region ?_) | (refine CL.skip ?_) | (refine CL.condP rfl (fun _ => ?_) (fun _ => ?_) <;> try (exfalso; omega)) | (refine CL.condF rfl ?_) | (refine CL.block ?_) | (refine CL.ret ?_) | (refine Rt.then ?_) | (refine Rt.block ?_) | (refine CL.done ?_) | (refine Nm.block ?_) | (refine Nm.then ?_) | (refine Gt.nil ?_; refine RW.nilw [0, 2, 3, 4, 12, 16, 48] ?_; dsimp only [H.keep, H.look, H.Fr.put, Nat.beq]) | (refine Gt.move ?_; refine RW.y (Y.move rfl) rfl ?_) | (refine Gt.guard ?_; first | (refine RW.part rfl rfl rfl (fun _ => ?_) (fun _ => ?_) <;> try (exfalso; omega)) | (refine RW.on rfl rfl rfl ?_) | (refine RW.off1 rfl rfl rfl rfl rfl ?_) | (refine RW.offu rfl rfl rfl rfl ?_)) | (refine Gt.pick ?_; first | (refine RW.y (Y.pickT rfl rfl) rfl ?_) | (refine RW.y (Y.pickF rfl rfl) rfl ?_)) | (refine Gt.assign ?_; refine RW.y (Y.assign rfl) rfl ?_) | (refine Gt.len ?_; refine RW.y (Y.lens rfl) rfl ?_) | (refine Gt.geq ?_; refine RW.y (Y.geq rfl rfl) rfl ?_) | (refine Gt.leq ?_; refine RW.y (Y.leq rfl rfl) rfl ?_) | (refine Gt.lss ?_; refine RW.y (Y.lss rfl rfl) rfl ?_) | (refine Gt.index ?_; refine RW.y (Y.idxs rfl rfl (by omega) (by omega)) rfl ?_) | (refine Gt.not ?_; first | (refine RW.y (Y.not rfl) rfl ?_) | (refine RW.y (Y.notb rfl) rfl ?_)) | (refine Gt.eql ?_; (refine RW.y (Y.eqi rfl rfl) rfl ?_)) | (refine Gt.add ?_; refine RW.y (Y.add64 rfl rfl (by omega) (by omega)) rfl ?_))
    all_goals first
      | exact FQ.one rfl rfl rfl ⟨rfl, by rw [hbad (by rw [Bool.eq_false_iff, Ne, hs]; omega)]⟩
      | exact ⟨l.length - (i + 1), _, rfl, rfl, rfl, by omega, i + 1, b, rfl, rfl, by omega, hst (by rw [hs]; omega), rfl⟩
  · have hi : i = l.length := by omega
    subst hi
    rw [List.take_length] at hall
    repeat' (first | (refine CL.seq ?_) | (refine CL.region ?_) | (refine CL.condP rfl (fun _ => ?_) (fun _ => ?_) <;> try (exfalso; omega)) | (refine CL.exit ?_) | (refine Ex.then ?_) | (refine Ex.hit ?_) | (refine Gt.nil ?_; refine RW.nilw [0, 2, 3, 4, 12, 16, 48] ?_; dsimp only [H.keep, H.look, H.Fr.put, Nat.beq]) | (refine Gt.move ?_; refine RW.y (Y.move rfl) rfl ?_) | (refine Gt.len ?_; refine RW.y (Y.lens rfl) rfl ?_) | (refine Gt.lss ?_; refine RW.y (Y.lss rfl rfl) rfl ?_))
    refine RW.fn rfl rfl ((refDigits l hl wr).mono ?_)
    rintro e w' ⟨rfl, rfl⟩
    cases hd : digB l
    · repeat' (first | (refine CL.ret ?_) | (refine Gt.nil ?_; refine RW.nilw [0, 2, 3, 4, 12, 16, 48] ?_; dsimp only [H.keep, H.look, H.Fr.put, Nat.beq]) | (refine Gt.move ?_; refine RW.y (Y.move rfl) rfl ?_) | (refine Gt.guard ?_; (refine RW.off1 rfl rfl rfl rfl rfl ?_)) | (refine Gt.pick ?_; (refine RW.y (Y.pickT rfl rfl) rfl ?_)) | (refine Gt.assign ?_; refine RW.y (Y.assign rfl) rfl ?_) | (refine Gt.not ?_; (refine RW.y (Y.notb rfl) rfl ?_)))
      exact FQ.one rfl rfl rfl ⟨rfl, retb (by rw [mark_iff]; exact iff_of_true rfl ⟨⟨hne, by omega, fun c => by rw [hd] at c; cases c⟩, hall⟩)⟩
    · repeat' (first | (refine CL.ret ?_) | (refine Gt.nil ?_; refine RW.nilw [0, 2, 3, 4, 12, 16, 48] ?_; dsimp only [H.keep, H.look, H.Fr.put, Nat.beq]) | (refine Gt.move ?_; refine RW.y (Y.move rfl) rfl ?_) | (refine Gt.guard ?_; first | (refine RW.part rfl rfl rfl (fun _ => ?_) (fun _ => ?_) <;> try (exfalso; omega)) | (refine RW.on rfl rfl rfl ?_) | (refine RW.off1 rfl rfl rfl rfl rfl ?_)) | (refine Gt.pick ?_; first | (refine RW.y (Y.pickT rfl rfl) rfl ?_) | (refine RW.y (Y.pickF rfl rfl) rfl ?_)) | (refine Gt.assign ?_; refine RW.y (Y.assign rfl) rfl ?_) | (refine Gt.index ?_; refine RW.y (Y.idxs rfl rfl (by omega) (by omega)) rfl ?_) | (refine Gt.not ?_; (refine RW.y (Y.notb rfl) rfl ?_)) | (refine Gt.eql ?_; (refine RW.y (Y.eqs rfl rfl) rfl ?_)) | (refine Gt.neq ?_; refine RW.y (Y.nei rfl rfl) rfl ?_))
      · rename_i h
        exact FQ.one rfl rfl rfl ⟨rfl, retb (by rw [mark_iff]; exact iff_of_true rfl ⟨⟨hne, by omega, fun _ => by rw [h]; rfl⟩, hall⟩)⟩
      · rename_i h
        refine FQ.one rfl rfl rfl ⟨rfl, retb (by
          rw [mark_iff, decide_eq_true_eq]
          constructor
          · intro c
            refine ⟨⟨hne, by omega, fun _ => ?_⟩, hall⟩
            simp only [plainB, Bool.or_eq_true, decide_eq_true_eq]
            exact .inr fun e => c (by rw [show Int.toNat 0 = 0 from rfl, e]; rfl)
          · rintro ⟨⟨_, _, c⟩, _⟩ e
            have c := c hd
            simp only [plainB, Bool.or_eq_true, decide_eq_true_eq] at c
            have e' : l.getD 0 0 = 48 := u8_eq (by simpa using e)
            rcases c with c | c
            · apply h
              match l, c, e' with
              | [x], _, e' => rw [show x = 48 from e']
            · exact c e')⟩
end Go.Proofs.YtjlkmdmpejpmpaaGreatDoor.Ve

namespace Go.Proofs.YtjlkmdmpejpmpaaGreatDoor.H
open Go.RowKit
section
variable {M : Option (Option Nat)} {P : Program} {ops : Array Oper} {Q : Post} {rest : List Oper} {f : Fr} {w : World} {d : Nat} {ty : TypeId} {pos : String} {af : Array Edge}
/-- The address of a cell of an array. -/
theorem Y.idxP {t e n : TypeId} {z : Value} {sz b : Nat} [ht : Und P t (.array n e)] [Inf P e z sz b] {x y : Operand} {k : IntKind} {g o : Nat} {i : Int} (hx : f.ev x = some (.pointer (some ⟨g, o, none⟩))) (hy : f.ev y = some (.int k i)) (h0 : 0 ≤ i) (h1 : i < (n : Nat)) :
    Yd P f (op1 d (.indexAddr t x y) ty pos af) (.pointer (some ⟨g, o + i.toNat * sz, none⟩)) w := by
  intro a ha
  have hsz := run_sizeOf (P := P) (t := e) w
  simp [execOp, ha.eval hx, ha.eval hy, Instr.indexAt, asIntOf, run_underlying ht.out, h0, h1, hsz, addr_add, Instr.sureAddr]
theorem Y.loadBlock {t : TypeId} {n : Nat} [h : Many P t n] {x : Operand} {g : Nat} {c : Array Value} {e : TypeId} {fz : Nat × Nat} (hx : f.ev x = some (.pointer (some ⟨g, 0, none⟩))) (hb : w.heap[g]? = some (.cells c e fz)) (hl : Nat.beq c.size n = true) :
    Yd P f (op1 d (.load t x) ty pos af) (.agg c) w := by
  have := Y.loadN (P := P) (f := f) (w := w) (d := d) (ty := ty) (pos := pos) (af := af) (t := t) (cs := c.toList) hx (by simpa using Nat.eq_of_beq_eq_true hl) (fun j v hv => by
    rw [addr_add, Nat.zero_add, cell_row (off := 0) hb]
    simpa using hv)
  simpa using this
/-- A variable of several cells written whole. -/
theorem RW.storeBlock {t : TypeId} {n : Nat} [h : Many P t n] {x y : Operand} {g : Nat} {u : Array Value} {c : Array Value} {e : TypeId} (hx : f.ev x = some (.pointer (some ⟨g, 0, none⟩))) (hy : f.ev y = some (.agg u)) (hu : Nat.beq u.size n = true) (h1 : ∀ z ∈ u.toList, z.oneCell' = true)
    (hb : w.heap[g]? = some (.cells c e (0, 0))) (hj : Nat.beq c.size n = true)
    (k : ∀ w', w'.heap[g]? = some (.cells u e (0, 0)) → Kept (fun k => k = g) w w' → RW M P ops Q rest f w') : RW M P ops Q (op0 (.store t x y) ty pos af :: rest) f w := by
  have hu' := Nat.eq_of_beq_eq_true hu
  have hj' := Nat.eq_of_beq_eq_true hj
  refine RW.storeN (j := 0) (fun w => h.size w) hx hy (by simpa [Value.cells] using hu') (by simpa [Value.cells] using h1) hb (by omega) fun w' hb' hk => k w' ?_ hk
  rw [hb']
  have : c.toList.drop (0 + n) = [] := by rw [List.drop_eq_nil_iff]; simp; omega
  rw [this]
  simp [Value.cells]
end
end Go.Proofs.YtjlkmdmpejpmpaaGreatDoor.H

namespace Go.Proofs.YtjlkmdmpejpmpaaGreatDoor.Ve
open Go.RowKit H S
attribute [local irreducible] H.CL H.RW H.CW H.Yd H.thenK H.blockQ Go.Calls
abbrev verT : TypeId := 25

/-- A value that is a version. -/
def verV (v : Ver) (p : Value) : Value := .agg #[.int .i64 v.a, .int .i64 v.b, .int .i64 v.c, p]
/-- Its marks lie in memory. -/
def VerAt (w : World) (V : Value) (v : Ver) : Prop := ∃ p, V = verV v p ∧ Sl w 1 p v.pre.length (sv v.pre)
/-- The same, in memory that was not there below B. -/
def VerNew (B : Nat) (w : World) (V : Value) (v : Ver) : Prop := ∃ p, V = verV v p ∧ Sl w 1 p v.pre.length (sv v.pre) ∧ ∀ g, live p = some g → B ≤ g
theorem VerNew.at {B : Nat} {w : World} {V : Value} {v : Ver} (h : VerNew B w V v) : VerAt w V v := by obtain ⟨p, h1, h2, _⟩ := h; exact ⟨p, h1, h2⟩
theorem nolive {B : Nat} : ∀ g, live (.slice none 0 0) = some g → B ≤ g := fun g h => by simp [live] at h
theorem parseLam (l : T) (hl : l.length ≤ 1000000000000) (w : World) : Calls Tryz.prog 76 #[vs l] w fun e w' => w = w' ∧ e = .returned (.bool (!markB l)) := by
  refine H.enter Tryz.func76 Tryz.ntmps76 rfl rfl ?_; dsimp only [H.args]
  repeat' (first | (refine CL.seq ?_) | (refine CL.region ?_) | (refine Gt.nil ?_; refine RW.nilw [0, 2] ?_; dsimp only [H.keep, H.look, H.Fr.put, Nat.beq]) | (refine Gt.assign ?_; refine RW.y (Y.assign rfl) rfl ?_) | (refine Gt.move ?_; refine RW.y (Y.move rfl) rfl ?_))
  refine RW.fn rfl rfl ((mark l hl w).mono ?_)
  rintro e w' ⟨rfl, rfl⟩
  repeat' (first | (refine CL.ret ?_) | (refine Gt.nil ?_; refine RW.nilw [0, 2] ?_; dsimp only [H.keep, H.look, H.Fr.put, Nat.beq]) | (refine Gt.assign ?_; refine RW.y (Y.assign rfl) rfl ?_) | (refine Gt.not ?_; (refine RW.y (Y.notb rfl) rfl ?_)))
  exact FQ.one rfl rfl rfl ⟨rfl, rfl⟩

theorem idxMark (v : Value) (l : List T) (w : World) (hs : Sl w 1 v l.length (sv l)) (hb : ∀ x ∈ l, x.length ≤ 1000000000000) (hl : l.length ≤ 1000000000000) : Calls Tryz.prog 94 #[v, .func (.func 76) #[] #[]] w fun e w' => w = w' ∧ ∃ n : Int, e = .returned (.int .i64 n) ∧ (0 ≤ n ↔ l.all markB = false) := by
  refine H.enter Tryz.func94 Tryz.ntmps94 rfl rfl ?_; dsimp only [H.args]
  repeat' (first | (refine CL.seq ?_) | (refine CL.region ?_) | (refine CL.block ?_) | (refine Gt.nil ?_; refine RW.nilw [0, 1, 4, 5, 7, 8, 9, 16] ?_; dsimp only [H.keep, H.look, H.Fr.put, Nat.beq]) | (refine Gt.move ?_; refine RW.y (Y.move rfl) rfl ?_) | (refine Gt.assign ?_; refine RW.y (Y.assign rfl) rfl ?_) | (refine Gt.len ?_; (refine RW.y (Y.lenx rfl (by assumption)) rfl ?_)))
  refine CL.loopS [0, 1, 4, 7, 8] (fun k vals wr => ∃ (i : Nat) (n : Int), vals = [v, .func (.func 76) #[] #[], .int .i64 n, .int .i64 (l.length : Int), .int .i64 (i : Int)] ∧ k = l.length - i ∧ i ≤ l.length ∧ (l.take i).all markB = true ∧ wr = w) l.length ⟨_, rfl, 0, 0, rfl, rfl, Nat.zero_le _, rfl, rfl⟩ ?_
  rintro k vals wr ⟨i, n, rfl, rfl, hi, hall, rfl⟩
  dsimp only [List.zip, List.zipWith]
  rcases Nat.lt_or_ge i l.length with hlt | hge
  · repeat' (first | (refine CL.seq ?_) | (refine CL.region ?_) | (refine CL.skip ?_) | (refine CL.condP rfl (fun _ => ?_) (fun _ => ?_) <;> try (exfalso; omega)) | (refine CL.block ?_) | (refine Gt.nil ?_; refine RW.nilw [0, 1, 4, 5, 7, 8, 9, 16] ?_; dsimp only [H.keep, H.look, H.Fr.put, Nat.beq]) | (refine Gt.move ?_; refine RW.y (Y.move rfl) rfl ?_) | (refine Gt.assign ?_; refine RW.y (Y.assign rfl) rfl ?_) | (refine Gt.lss ?_; refine RW.y (Y.lss rfl rfl) rfl ?_) | (refine Gt.idx ?_; refine RW.elemS rfl rfl rfl rfl (by assumption) (by omega) (by omega) ?_))
    refine RW.fnv (cap := []) rfl rfl rfl ((parseLam _ (hb _ (by rw [Int.toNat_natCast]; exact getD_mem [] hlt)) wr).mono ?_)
    rintro e w' ⟨rfl, rfl⟩
    rw [Int.toNat_natCast]
    cases hm : markB (l.getD i [])
    · repeat' (first | (refine CL.seq ?_) | (refine CL.region ?_) | (refine CL.condT rfl ?_) | (refine CL.ret ?_) | (refine Rt.then ?_) | (refine Rt.block ?_) | (refine Gt.nil ?_; refine RW.nilw [0, 1, 4, 5, 7, 8, 9, 16] ?_; dsimp only [H.keep, H.look, H.Fr.put, Nat.beq]) | (refine Gt.move ?_; refine RW.y (Y.move rfl) rfl ?_) | (refine Gt.assign ?_; refine RW.y (Y.assign rfl) rfl ?_))
      exact FQ.one rfl rfl rfl ⟨rfl, _, rfl, iff_of_true (by omega) (all_false [] hlt hm)⟩
    · repeat' (first | (refine CL.region ?_) | (refine CL.skip ?_) | (refine CL.condF rfl ?_) | (refine CL.done ?_) | (refine Nm.block ?_) | (refine Nm.then ?_) | (refine Gt.nil ?_; refine RW.nilw [0, 1, 4, 5, 7, 8, 9, 16] ?_; dsimp only [H.keep, H.look, H.Fr.put, Nat.beq]) | (refine Gt.move ?_; refine RW.y (Y.move rfl) rfl ?_) | (refine Gt.add ?_; refine RW.y (Y.add64 rfl rfl (by omega) (by omega)) rfl ?_))
      exact ⟨l.length - (i + 1), _, rfl, rfl, rfl, by omega, i + 1, n, rfl, rfl, by omega, all_step [] hlt hall hm, rfl⟩
  · have hi : i = l.length := by omega
    subst hi
    rw [List.take_length] at hall
    repeat' (first | (refine CL.seq ?_) | (refine CL.region ?_) | (refine CL.condP rfl (fun _ => ?_) (fun _ => ?_) <;> try (exfalso; omega)) | (refine CL.exit ?_) | (refine Ex.then ?_) | (refine Ex.hit ?_) | (refine CL.ret ?_) | (refine Gt.nil ?_; refine RW.nilw [0, 1, 4, 5, 7, 8, 9, 16] ?_; dsimp only [H.keep, H.look, H.Fr.put, Nat.beq]) | (refine Gt.assign ?_; refine RW.y (Y.assign rfl) rfl ?_) | (refine Gt.lss ?_; refine RW.y (Y.lss rfl rfl) rfl ?_))
    exact FQ.one rfl rfl rfl ⟨rfl, _, rfl, iff_of_false (by decide) (by rw [hall]; decide)⟩

theorem containsMark (v : Value) (l : List T) (w : World) (hs : Sl w 1 v l.length (sv l)) (hb : ∀ x ∈ l, x.length ≤ 1000000000000) (hl : l.length ≤ 1000000000000) : Calls Tryz.prog 75 #[v, .func (.func 76) #[] #[]] w fun e w' => w = w' ∧ e = .returned (.bool (!(l.all markB))) := by
  refine H.enter Tryz.func75 Tryz.ntmps75 rfl rfl ?_; dsimp only [H.args]
  repeat' (first | (refine CL.seq ?_) | (refine CL.region ?_) | (refine Gt.nil ?_; refine RW.nilw [0, 1, 4] ?_; dsimp only [H.keep, H.look, H.Fr.put, Nat.beq]) | (refine Gt.assign ?_; refine RW.y (Y.assign rfl) rfl ?_) | (refine Gt.move ?_; refine RW.y (Y.move rfl) rfl ?_))
  refine RW.fn rfl rfl ((idxMark v l w hs hb hl).mono ?_)
  rintro e w' ⟨rfl, n, rfl, hn⟩
  repeat' (first | (refine CL.ret ?_) | (refine Gt.nil ?_; refine RW.nilw [0, 1, 4] ?_; dsimp only [H.keep, H.look, H.Fr.put, Nat.beq]) | (refine Gt.assign ?_; refine RW.y (Y.assign rfl) rfl ?_) | (refine Gt.geq ?_; refine RW.y (Y.geq rfl rfl) rfl ?_))
  exact FQ.one rfl rfl rfl ⟨rfl, retb (by rw [decide_eq_true_eq, hn, Bool.not_eq_true'])⟩

theorem cutB_len (c : UInt8) (l : T) : (cutB c l).1.length ≤ l.length ∧ (cutB c l).2.1.length ≤ l.length := by
  unfold cutB
  split
  · simp
  · simp; omega
theorem noCells {a b c : Int} : ∀ z ∈ (#[.int .i64 a, .int .i64 b, .int .i64 c, .slice none 0 0] : Array Value).toList, z.oneCell' = true := by
  intro z hz
  simp at hz
  rcases hz with rfl | rfl | rfl | rfl <;> rfl
theorem verCells {a b c : Int} {p : Value} (hp : p.oneCell' = true) : ∀ z ∈ (#[.int .i64 a, .int .i64 b, .int .i64 c, p] : Array Value).toList, z.oneCell' = true := by
  intro z hz
  simp at hz
  rcases hz with rfl | rfl | rfl | rfl <;> first | rfl | exact hp

set_option maxHeartbeats 1000000 in
theorem parseN (s : T) (hl : s.length ≤ 1000000) (w : World) : Calls Tryz.prog 56 #[vs s] w fun e w' => K0 w w' ∧ ∃ V, e = .returned (.tuple #[V, .int .i64 (verR (parseV (cutB 45 s))).2]) ∧ VerNew w.heap.size w' V (verR (parseV (cutB 45 s))).1 := by
  have hcl := cutB_len 45 s
  refine H.enter Tryz.func56 Tryz.ntmps56 rfl rfl ?_; dsimp only [H.args]
  repeat' (first | (refine CL.seq ?_) | (refine CL.region ?_))
  refine RW.alloc rfl (fun w1 hb1 hk1 hlt1 => ?_)
  repeat' (first | (refine CL.seq ?_) | (refine CL.region ?_) | (refine Gt.nil ?_; refine RW.nilw [0, 2, 3, 4, 5, 6, 7, 8, 9, 10, 11, 12, 23, 25, 26, 37, 51, 64] ?_; dsimp only [H.keep, H.look, H.Fr.put, Nat.beq]) | (refine Gt.move ?_; refine RW.y (Y.move rfl) rfl ?_) | (refine Gt.assign ?_; refine RW.y (Y.assign rfl) rfl ?_))
  refine RW.fn rfl rfl ((cut s 45 (by omega) w1).mono ?_)
  rintro e w2 ⟨hk2, rfl⟩
  unfold cutV
  generalize cutB 45 s = cc at *
  obtain ⟨three, pre, has⟩ := cc
  simp only at hcl
  repeat' (first | (refine CL.seq ?_) | (refine CL.region ?_) | (refine Gt.nil ?_; refine RW.nilw [0, 2, 3, 4, 5, 6, 7, 8, 9, 10, 11, 12, 23, 25, 26, 37, 51, 64] ?_; dsimp only [H.keep, H.look, H.Fr.put, Nat.beq]) | (refine Gt.move ?_; refine RW.y (Y.move rfl) rfl ?_) | (refine Gt.assign ?_; refine RW.y (Y.assign rfl) rfl ?_) | (refine Gt.extract ?_; refine RW.y (Y.extract rfl rfl) rfl ?_))
  refine RW.fn rfl rfl ((split three 46 (by omega) w2).mono ?_)
  rintro e w3 ⟨v3, rfl, how3, hk3⟩
  have hs3 := Sl.of_own how3
  have hml : ∀ x ∈ splitB 46 three, x.length ≤ 1000000 := fun x hx => Nat.le_trans (splitB_mem_len 46 three x hx) (by omega)
  simp only [parseV]
  generalize splitB 46 three = l at *
  repeat' (first | (refine CL.seq ?_) | (refine CL.region ?_) | (refine Gt.nil ?_; refine RW.nilw [0, 2, 3, 4, 5, 6, 7, 8, 9, 10, 11, 12, 23, 25, 26, 37, 51, 64] ?_; dsimp only [H.keep, H.look, H.Fr.put, Nat.beq]) | (refine Gt.assign ?_; refine RW.y (Y.assign rfl) rfl ?_))
  refine RW.alloc rfl (fun w4 hb4 hk4 hlt4 => ?_)
  have hs4 := hs3.keep0 hk4
  have hKc : K0 w w4 := ((hk1.trans0 hk2).trans0 hk3).trans0 hk4
  have hbr := hk4.at0 (hk3.at0 (hk2.at0 hb1))
  repeat' (first | (refine CL.seq ?_) | (refine CL.region ?_) | (refine CL.skip ?_) | (refine CL.condP rfl (fun _ => ?_) (fun _ => ?_) <;> try (exfalso; omega)) | (refine CL.block ?_) | (refine Gt.nil ?_; refine RW.nilw [0, 2, 3, 4, 5, 6, 7, 8, 9, 10, 11, 12, 23, 25, 26, 37, 51, 64] ?_; dsimp only [H.keep, H.look, H.Fr.put, Nat.beq]) | (refine RW.y (Y.build (ps := []) (l := []) rfl rfl) rfl ?_) | (refine Gt.move ?_; refine RW.y (Y.move rfl) rfl ?_) | (refine Gt.len ?_; (refine RW.y (Y.lenx rfl (by assumption)) rfl ?_)) | (refine Gt.neq ?_; refine RW.y (Y.nei rfl rfl) rfl ?_))
  · rename_i h3
    rw [parseL_ne (by omega)]
    simp only [verR]
    refine RW.storeBlock rfl rfl rfl noCells hbr rfl (fun wz hbz hkz => ?_)
    repeat' (first | (refine CL.ret ?_) | (refine Gt.nil ?_; refine RW.nilw [0, 2, 3, 4, 5, 6, 7, 8, 9, 10, 11, 12, 23, 25, 26, 37, 51, 64] ?_; dsimp only [H.keep, H.look, H.Fr.put, Nat.beq]) | (refine Gt.assign ?_; refine RW.y (Y.assign rfl) rfl ?_))
    exact FQ.res (rs := [.cell 2 25, .tmp 3]) (vs := [_, _]) rfl rfl ⟨⟨_, rfl, load_block hbz rfl⟩, rfl, trivial⟩ rfl (⟨hKc.trans hkz fun k h => .inr (by rw [h]; exact Nat.le_refl _), _, rfl, _, rfl, Sl.nil _ _, nolive⟩)
  rename_i h3
  obtain ⟨x, y, z, rfl⟩ := len3 (show l.length = 3 by omega)
  have hx := hml x (by simp)
  have hy := hml y (by simp)
  have hz := hml z (by simp)
  refine CL.loopS [2, 3, 5, 6, 7, 8, 25] (fun k vals wr => ∃ (i : Nat) (u0 u1 u2 : Int), vals = [.pointer (some ⟨w.heap.size, 0, none⟩), .int .i64 0, vs pre, .bool has, v3, .pointer (some ⟨w3.heap.size, 0, none⟩), .int .i64 (i : Int)] ∧ k = 3 - i ∧ i ≤ 3 ∧ Kept (fun k => k = w3.heap.size) w4 wr ∧
      wr.heap[w3.heap.size]? = some (.cells #[.int .i64 u0, .int .i64 u1, .int .i64 u2] 116 (0, 0)) ∧ (1 ≤ i → numB x = true ∧ u0 = val x) ∧ (2 ≤ i → numB y = true ∧ u1 = val y) ∧ (3 ≤ i → numB z = true ∧ u2 = val z)) 3 ⟨_, rfl, 0, 0, 0, 0, rfl, rfl, Nat.zero_le _, Kept.refl _ _, hb4, by omega, by omega, by omega⟩ ?_
  rintro k vals wr ⟨i, u0, u1, u2, rfl, rfl, hi, hkr, hbl, c1, c2, c3⟩
  dsimp only [List.zip, List.zipWith]
  have hw3 : w.heap.size < w3.heap.size := by have := hk2.size; have := hk3.size; omega
  have hsr := hs4.keep hkr fun g hg c => by have := hs3.lt hg; have c' : g = w3.heap.size := c; omega
  have hbrr := hkr.at hbr (fun c => by have c' : w.heap.size = w3.heap.size := c; omega)
  have hKr : K0 w wr := hKc.trans hkr fun k h => .inr (by have h' : k = w3.heap.size := h; omega)
  rcases (by omega : i = 0 ∨ i = 1 ∨ i = 2 ∨ i = 3) with rfl | rfl | rfl | rfl
  · repeat' (first | (refine CL.seq ?_) | (refine CL.region ?_) | (refine CL.skip ?_) | (refine CL.condP rfl (fun _ => ?_) (fun _ => ?_) <;> try (exfalso; omega)) | (refine CL.block ?_) | (refine Gt.nil ?_; refine RW.nilw [0, 2, 3, 4, 5, 6, 7, 8, 9, 10, 11, 12, 23, 25, 26, 37, 51, 64] ?_; dsimp only [H.keep, H.look, H.Fr.put, Nat.beq]) | (refine Gt.move ?_; refine RW.y (Y.move rfl) rfl ?_) | (refine Gt.assign ?_; refine RW.y (Y.assign rfl) rfl ?_) | (refine Gt.idx ?_; (refine RW.elemS rfl rfl rfl rfl (by assumption) (by omega) (by omega) ?_)) | (refine Gt.lss ?_; refine RW.y (Y.lss rfl rfl) rfl ?_))
    refine RW.fn rfl rfl ((number x (by omega) wr).mono ?_)
    rintro e w5 ⟨hk5, rfl⟩
    have hbr5 := hk5.at0 hbrr
    have hbl5 := hk5.at0 hbl
    have hK5 := hKr.trans0 hk5
    cases hn : numB x
    · repeat' (first | (refine CL.seq ?_) | (refine CL.region ?_) | (refine CL.condT rfl ?_) | (refine Gt.nil ?_; refine RW.nilw [0, 2, 3, 4, 5, 6, 7, 8, 9, 10, 11, 12, 23, 25, 26, 37, 51, 64] ?_; dsimp only [H.keep, H.look, H.Fr.put, Nat.beq]) | (refine RW.y (Y.build (ps := []) (l := []) rfl rfl) rfl ?_) | (refine Gt.move ?_; refine RW.y (Y.move rfl) rfl ?_) | (refine Gt.assign ?_; refine RW.y (Y.assign rfl) rfl ?_) | (refine Gt.extract ?_; refine RW.y (Y.extract rfl rfl) rfl ?_) | (refine Gt.not ?_; (refine RW.y (Y.notb rfl) rfl ?_)))
      rw [show parseL [x, y, z] pre has = none from by simp [parseL, hn]]
      simp only [verR]
      have hKc := hK5
      have hbr := hbr5
      refine RW.storeBlock rfl rfl rfl noCells hbr rfl (fun wz hbz hkz => ?_)
      repeat' (first | (refine CL.ret ?_) | (refine Rt.then ?_) | (refine Rt.block ?_) | (refine Gt.nil ?_; refine RW.nilw [0, 2, 3, 4, 5, 6, 7, 8, 9, 10, 11, 12, 23, 25, 26, 37, 51, 64] ?_; dsimp only [H.keep, H.look, H.Fr.put, Nat.beq]) | (refine Gt.assign ?_; refine RW.y (Y.assign rfl) rfl ?_))
      exact FQ.res (rs := [.cell 2 25, .tmp 3]) (vs := [_, _]) rfl rfl ⟨⟨_, rfl, load_block hbz rfl⟩, rfl, trivial⟩ rfl (⟨hKc.trans hkz fun k h => .inr (by rw [h]; exact Nat.le_refl _), _, rfl, _, rfl, Sl.nil _ _, nolive⟩)
    · repeat' (first | (refine CL.seq ?_) | (refine CL.region ?_) | (refine CL.skip ?_) | (refine CL.condF rfl ?_) | (refine Gt.nil ?_; refine RW.nilw [0, 2, 3, 4, 5, 6, 7, 8, 9, 10, 11, 12, 23, 25, 26, 37, 51, 64] ?_; dsimp only [H.keep, H.look, H.Fr.put, Nat.beq]) | (refine Gt.move ?_; refine RW.y (Y.move rfl) rfl ?_) | (refine Gt.assign ?_; refine RW.y (Y.assign rfl) rfl ?_) | (refine Gt.extract ?_; refine RW.y (Y.extract rfl rfl) rfl ?_) | (refine Gt.idx ?_; (refine RW.y (Y.idxP rfl rfl (by omega) (by omega)) rfl ?_)) | (refine Gt.not ?_; (refine RW.y (Y.notb rfl) rfl ?_)))
      refine RW.storeB rfl rfl rfl hbl5 (show (_ : Nat) < 3 from by decide) (fun w6 hb6 hk6 => ?_)
      repeat' (first | (refine CL.region ?_) | (refine CL.done ?_) | (refine Nm.block ?_) | (refine Nm.then ?_) | (refine Gt.nil ?_; refine RW.nilw [0, 2, 3, 4, 5, 6, 7, 8, 9, 10, 11, 12, 23, 25, 26, 37, 51, 64] ?_; dsimp only [H.keep, H.look, H.Fr.put, Nat.beq]) | (refine Gt.move ?_; refine RW.y (Y.move rfl) rfl ?_) | (refine Gt.add ?_; refine RW.y (Y.add64 rfl rfl (by omega) (by omega)) rfl ?_))
      refine ⟨3 - (0 + 1), _, rfl, rfl, rfl, by omega, 0 + 1, val x, u1, u2, rfl, rfl, by omega, (hkr.trans0 hk5).trans hk6 fun k h => .inl h, hb6, ?_, ?_, ?_⟩ <;> first | (intro c; omega) | (intro _; exact ⟨by rfl, rfl⟩)
  · repeat' (first | (refine CL.seq ?_) | (refine CL.region ?_) | (refine CL.skip ?_) | (refine CL.condP rfl (fun _ => ?_) (fun _ => ?_) <;> try (exfalso; omega)) | (refine CL.block ?_) | (refine Gt.nil ?_; refine RW.nilw [0, 2, 3, 4, 5, 6, 7, 8, 9, 10, 11, 12, 23, 25, 26, 37, 51, 64] ?_; dsimp only [H.keep, H.look, H.Fr.put, Nat.beq]) | (refine Gt.move ?_; refine RW.y (Y.move rfl) rfl ?_) | (refine Gt.assign ?_; refine RW.y (Y.assign rfl) rfl ?_) | (refine Gt.idx ?_; (refine RW.elemS rfl rfl rfl rfl (by assumption) (by omega) (by omega) ?_)) | (refine Gt.lss ?_; refine RW.y (Y.lss rfl rfl) rfl ?_))
    refine RW.fn rfl rfl ((number y (by omega) wr).mono ?_)
    rintro e w5 ⟨hk5, rfl⟩
    have hbr5 := hk5.at0 hbrr
    have hbl5 := hk5.at0 hbl
    have hK5 := hKr.trans0 hk5
    cases hn : numB y
    · repeat' (first | (refine CL.seq ?_) | (refine CL.region ?_) | (refine CL.condT rfl ?_) | (refine Gt.nil ?_; refine RW.nilw [0, 2, 3, 4, 5, 6, 7, 8, 9, 10, 11, 12, 23, 25, 26, 37, 51, 64] ?_; dsimp only [H.keep, H.look, H.Fr.put, Nat.beq]) | (refine RW.y (Y.build (ps := []) (l := []) rfl rfl) rfl ?_) | (refine Gt.move ?_; refine RW.y (Y.move rfl) rfl ?_) | (refine Gt.assign ?_; refine RW.y (Y.assign rfl) rfl ?_) | (refine Gt.extract ?_; refine RW.y (Y.extract rfl rfl) rfl ?_) | (refine Gt.not ?_; (refine RW.y (Y.notb rfl) rfl ?_)))
      rw [show parseL [x, y, z] pre has = none from by simp [parseL, hn]]
      simp only [verR]
      have hKc := hK5
      have hbr := hbr5
      refine RW.storeBlock rfl rfl rfl noCells hbr rfl (fun wz hbz hkz => ?_)
      repeat' (first | (refine CL.ret ?_) | (refine Rt.then ?_) | (refine Rt.block ?_) | (refine Gt.nil ?_; refine RW.nilw [0, 2, 3, 4, 5, 6, 7, 8, 9, 10, 11, 12, 23, 25, 26, 37, 51, 64] ?_; dsimp only [H.keep, H.look, H.Fr.put, Nat.beq]) | (refine Gt.assign ?_; refine RW.y (Y.assign rfl) rfl ?_))
      exact FQ.res (rs := [.cell 2 25, .tmp 3]) (vs := [_, _]) rfl rfl ⟨⟨_, rfl, load_block hbz rfl⟩, rfl, trivial⟩ rfl (⟨hKc.trans hkz fun k h => .inr (by rw [h]; exact Nat.le_refl _), _, rfl, _, rfl, Sl.nil _ _, nolive⟩)
    · repeat' (first | (refine CL.seq ?_) | (refine CL.region ?_) | (refine CL.skip ?_) | (refine CL.condF rfl ?_) | (refine Gt.nil ?_; refine RW.nilw [0, 2, 3, 4, 5, 6, 7, 8, 9, 10, 11, 12, 23, 25, 26, 37, 51, 64] ?_; dsimp only [H.keep, H.look, H.Fr.put, Nat.beq]) | (refine Gt.move ?_; refine RW.y (Y.move rfl) rfl ?_) | (refine Gt.assign ?_; refine RW.y (Y.assign rfl) rfl ?_) | (refine Gt.extract ?_; refine RW.y (Y.extract rfl rfl) rfl ?_) | (refine Gt.idx ?_; (refine RW.y (Y.idxP rfl rfl (by omega) (by omega)) rfl ?_)) | (refine Gt.not ?_; (refine RW.y (Y.notb rfl) rfl ?_)))
      refine RW.storeB rfl rfl rfl hbl5 (show (_ : Nat) < 3 from by decide) (fun w6 hb6 hk6 => ?_)
      repeat' (first | (refine CL.region ?_) | (refine CL.done ?_) | (refine Nm.block ?_) | (refine Nm.then ?_) | (refine Gt.nil ?_; refine RW.nilw [0, 2, 3, 4, 5, 6, 7, 8, 9, 10, 11, 12, 23, 25, 26, 37, 51, 64] ?_; dsimp only [H.keep, H.look, H.Fr.put, Nat.beq]) | (refine Gt.move ?_; refine RW.y (Y.move rfl) rfl ?_) | (refine Gt.add ?_; refine RW.y (Y.add64 rfl rfl (by omega) (by omega)) rfl ?_))
      refine ⟨3 - (1 + 1), _, rfl, rfl, rfl, by omega, 1 + 1, u0, val y, u2, rfl, rfl, by omega, (hkr.trans0 hk5).trans hk6 fun k h => .inl h, hb6, ?_, ?_, ?_⟩ <;> first | (intro c; omega) | (intro _; first | exact c1 (by omega) | exact ⟨by rfl, rfl⟩)
  · repeat' (first | (refine CL.seq ?_) | (refine CL.region ?_) | (refine CL.skip ?_) | (refine CL.condP rfl (fun _ => ?_) (fun _ => ?_) <;> try (exfalso; omega)) | (refine CL.block ?_) | (refine Gt.nil ?_; refine RW.nilw [0, 2, 3, 4, 5, 6, 7, 8, 9, 10, 11, 12, 23, 25, 26, 37, 51, 64] ?_; dsimp only [H.keep, H.look, H.Fr.put, Nat.beq]) | (refine Gt.move ?_; refine RW.y (Y.move rfl) rfl ?_) | (refine Gt.assign ?_; refine RW.y (Y.assign rfl) rfl ?_) | (refine Gt.idx ?_; (refine RW.elemS rfl rfl rfl rfl (by assumption) (by omega) (by omega) ?_)) | (refine Gt.lss ?_; refine RW.y (Y.lss rfl rfl) rfl ?_))
    refine RW.fn rfl rfl ((number z (by omega) wr).mono ?_)
    rintro e w5 ⟨hk5, rfl⟩
    have hbr5 := hk5.at0 hbrr
    have hbl5 := hk5.at0 hbl
    have hK5 := hKr.trans0 hk5
    cases hn : numB z
    · repeat' (first | (refine CL.seq ?_) | (refine CL.region ?_) | (refine CL.condT rfl ?_) | (refine Gt.nil ?_; refine RW.nilw [0, 2, 3, 4, 5, 6, 7, 8, 9, 10, 11, 12, 23, 25, 26, 37, 51, 64] ?_; dsimp only [H.keep, H.look, H.Fr.put, Nat.beq]) | (refine RW.y (Y.build (ps := []) (l := []) rfl rfl) rfl ?_) | (refine Gt.move ?_; refine RW.y (Y.move rfl) rfl ?_) | (refine Gt.assign ?_; refine RW.y (Y.assign rfl) rfl ?_) | (refine Gt.extract ?_; refine RW.y (Y.extract rfl rfl) rfl ?_) | (refine Gt.not ?_; (refine RW.y (Y.notb rfl) rfl ?_)))
      rw [show parseL [x, y, z] pre has = none from by simp [parseL, hn]]
      simp only [verR]
      have hKc := hK5
      have hbr := hbr5
      refine RW.storeBlock rfl rfl rfl noCells hbr rfl (fun wz hbz hkz => ?_)
      repeat' (first | (refine CL.ret ?_) | (refine Rt.then ?_) | (refine Rt.block ?_) | (refine Gt.nil ?_; refine RW.nilw [0, 2, 3, 4, 5, 6, 7, 8, 9, 10, 11, 12, 23, 25, 26, 37, 51, 64] ?_; dsimp only [H.keep, H.look, H.Fr.put, Nat.beq]) | (refine Gt.assign ?_; refine RW.y (Y.assign rfl) rfl ?_))
      exact FQ.res (rs := [.cell 2 25, .tmp 3]) (vs := [_, _]) rfl rfl ⟨⟨_, rfl, load_block hbz rfl⟩, rfl, trivial⟩ rfl (⟨hKc.trans hkz fun k h => .inr (by rw [h]; exact Nat.le_refl _), _, rfl, _, rfl, Sl.nil _ _, nolive⟩)
    · repeat' (first | (refine CL.seq ?_) | (refine CL.region ?_) | (refine CL.skip ?_) | (refine CL.condF rfl ?_) | (refine Gt.nil ?_; refine RW.nilw [0, 2, 3, 4, 5, 6, 7, 8, 9, 10, 11, 12, 23, 25, 26, 37, 51, 64] ?_; dsimp only [H.keep, H.look, H.Fr.put, Nat.beq]) | (refine Gt.move ?_; refine RW.y (Y.move rfl) rfl ?_) | (refine Gt.assign ?_; refine RW.y (Y.assign rfl) rfl ?_) | (refine Gt.extract ?_; refine RW.y (Y.extract rfl rfl) rfl ?_) | (refine Gt.idx ?_; (refine RW.y (Y.idxP rfl rfl (by omega) (by omega)) rfl ?_)) | (refine Gt.not ?_; (refine RW.y (Y.notb rfl) rfl ?_)))
      refine RW.storeB rfl rfl rfl hbl5 (show (_ : Nat) < 3 from by decide) (fun w6 hb6 hk6 => ?_)
      repeat' (first | (refine CL.region ?_) | (refine CL.done ?_) | (refine Nm.block ?_) | (refine Nm.then ?_) | (refine Gt.nil ?_; refine RW.nilw [0, 2, 3, 4, 5, 6, 7, 8, 9, 10, 11, 12, 23, 25, 26, 37, 51, 64] ?_; dsimp only [H.keep, H.look, H.Fr.put, Nat.beq]) | (refine Gt.move ?_; refine RW.y (Y.move rfl) rfl ?_) | (refine Gt.add ?_; refine RW.y (Y.add64 rfl rfl (by omega) (by omega)) rfl ?_))
      refine ⟨3 - (2 + 1), _, rfl, rfl, rfl, by omega, 2 + 1, u0, u1, val z, rfl, rfl, by omega, (hkr.trans0 hk5).trans hk6 fun k h => .inl h, hb6, ?_, ?_, ?_⟩ <;> (intro _; first | exact c1 (by omega) | exact c2 (by omega) | exact ⟨by rfl, rfl⟩)
  · obtain ⟨n1, rfl⟩ := c1 (by omega)
    obtain ⟨n2, rfl⟩ := c2 (by omega)
    obtain ⟨n3, rfl⟩ := c3 (by omega)
    repeat' (first | (refine CL.seq ?_) | (refine CL.region ?_) | (refine CL.condP rfl (fun _ => ?_) (fun _ => ?_) <;> try (exfalso; omega)) | (refine CL.exit ?_) | (refine Ex.then ?_) | (refine Ex.hit ?_) | (refine Gt.nil ?_; refine RW.nilw [0, 2, 3, 4, 5, 6, 7, 8, 9, 10, 11, 12, 23, 25, 26, 37, 51, 64] ?_; dsimp only [H.keep, H.look, H.Fr.put, Nat.beq]) | (refine RW.y (Y.build (ps := [(0, _), (1, _), (2, _)]) rfl rfl) rfl ?_) | (refine Gt.load ?_; (refine RW.y (Y.loadB rfl (by assumption) rfl) rfl ?_)) | (refine Gt.idx ?_; (refine RW.y (Y.idxP rfl rfl (by omega) (by omega)) rfl ?_)) | (refine Gt.lss ?_; refine RW.y (Y.lss rfl rfl) rfl ?_))
    refine RW.alloc rfl (fun w5 hb5 hk5 hlt5 => ?_)
    have hw5 : w.heap.size < w5.heap.size := by have := hKr.size; have := hk5.size; omega
    have hwr : w.heap.size < wr.heap.size := by have := hkr.size; have := hk4.size; omega
    refine RW.storeBlock rfl rfl rfl noCells hb5 rfl (fun w6 hb6 hk6 => ?_)
    have hbr6 := hk6.at (hk5.at0 hbrr) (fun c => by have c' : w.heap.size = wr.heap.size := c; omega)
    have hK6 : K0 w w6 := (hKr.trans0 hk5).trans hk6 fun k h => .inr (by have h' : k = wr.heap.size := h; omega)
    have hp3 : (numB x && numB y && numB z) = true := by rw [n1, n2, n3]; rfl
    cases has
    · repeat' (first | (refine CL.seq ?_) | (refine CL.region ?_) | (refine CL.condT rfl ?_) | (refine Gt.nil ?_; refine RW.nilw [0, 2, 3, 4, 5, 6, 7, 8, 9, 10, 11, 12, 23, 25, 26, 37, 51, 64] ?_; dsimp only [H.keep, H.look, H.Fr.put, Nat.beq]) | (refine RW.y (Y.loadBlock rfl hb6 rfl) rfl ?_) | (refine Gt.move ?_; refine RW.y (Y.move rfl) rfl ?_) | (refine Gt.not ?_; (refine RW.y (Y.notb rfl) rfl ?_)))
      refine RW.storeBlock rfl rfl rfl noCells hbr6 rfl (fun w7 hb7 hk7 => ?_)
      repeat' (first | (refine CL.ret ?_) | (refine Gt.nil ?_; refine RW.nilw [0, 2, 3, 4, 5, 6, 7, 8, 9, 10, 11, 12, 23, 25, 26, 37, 51, 64] ?_; dsimp only [H.keep, H.look, H.Fr.put, Nat.beq]) | (refine Gt.assign ?_; refine RW.y (Y.assign rfl) rfl ?_))
      rw [show parseL [x, y, z] pre false = some ⟨val x, val y, val z, []⟩ from by simp [parseL, hp3]]
      exact FQ.res (rs := [.cell 2 25, .tmp 3]) (vs := [_, _]) rfl rfl ⟨⟨_, rfl, load_block hb7 rfl⟩, rfl, trivial⟩ rfl (⟨hK6.trans hk7 fun k h => .inr (by have h' : k = w.heap.size := h; omega), _, rfl, _, rfl, Sl.nil _ _, nolive⟩)
    · repeat' (first | (refine CL.seq ?_) | (refine CL.region ?_) | (refine CL.skip ?_) | (refine CL.condF rfl ?_) | (refine Gt.nil ?_; refine RW.nilw [0, 2, 3, 4, 5, 6, 7, 8, 9, 10, 11, 12, 23, 25, 26, 37, 51, 64] ?_; dsimp only [H.keep, H.look, H.Fr.put, Nat.beq]) | (refine Gt.move ?_; refine RW.y (Y.move rfl) rfl ?_) | (refine Gt.not ?_; (refine RW.y (Y.notb rfl) rfl ?_)))
      refine RW.fn rfl rfl ((split pre 46 (by omega) w6).mono ?_)
      rintro e w7 ⟨v7, rfl, how7, hk7⟩
      have hs7 := Sl.of_own how7
      have hbr7 := hk7.at0 hbr6
      have hb7 := hk7.at0 hb6
      have hw7 := hk7.size
      have hw6 := hk6.size
      have hml7 : ∀ x ∈ splitB 46 pre, x.length ≤ 1000000000000 := fun x hx => Nat.le_trans (splitB_mem_len 46 pre x hx) (by omega)
      have hln7 : (splitB 46 pre).length ≤ 1000001 := by rw [splitB_len]; have : pre.count 46 ≤ pre.length := List.count_le_length; omega
      have hpl : parseL [x, y, z] pre true = if (splitB 46 pre).length ≤ 5 ∧ (splitB 46 pre).all markB = true then some ⟨val x, val y, val z, splitB 46 pre⟩ else none := by simp [parseL, hp3]
      rw [hpl]
      generalize splitB 46 pre = m at *
      repeat' ((refine Gt.fieldAddr ?_; refine RW.y (Y.fieldAddr rfl (by rfl)) rfl ?_))
      refine RW.storeB rfl rfl hs7.one hb7 (show (_ : Nat) < 4 from by decide) (fun w8 hb8 hk8 => ?_)
      have hs8 := hs7.keep hk8 fun g hg c => by have := how7.lt g (live_own hg); have c' : g = wr.heap.size := c; have := hk5.size; omega
      have hbr8 := hk8.at hbr7 (fun c => by have c' : w.heap.size = wr.heap.size := c; omega)
      have hK8 : K0 w w8 := (hK6.trans0 hk7).trans hk8 fun k h => .inr (by have h' : k = wr.heap.size := h; omega)
      repeat' (first | (refine CL.seq ?_) | (refine CL.region ?_) | (refine CL.condT rfl ?_) | (refine Gt.nil ?_; refine RW.nilw [0, 2, 3, 4, 5, 6, 7, 8, 9, 10, 11, 12, 23, 25, 26, 37, 51, 64] ?_; dsimp only [H.keep, H.look, H.Fr.put, Nat.beq]) | (refine RW.y (Y.build (ps := []) (l := []) rfl rfl) rfl ?_) | (refine Gt.move ?_; refine RW.y (Y.move rfl) rfl ?_) | (refine Gt.guard ?_; first | (refine RW.part rfl rfl rfl (fun _ => ?_) (fun _ => ?_) <;> try (exfalso; omega)) | (refine RW.on rfl rfl rfl ?_) | (refine RW.off1 rfl rfl rfl rfl rfl ?_)) | (refine Gt.load ?_; (refine RW.y (Y.loadB rfl (by assumption) rfl) rfl ?_)) | (refine Gt.fieldAddr ?_; refine RW.y (Y.fieldAddr rfl (by rfl)) rfl ?_) | (refine Gt.len ?_; (refine RW.y (Y.lenx rfl (by assumption)) rfl ?_)) | (refine Gt.gtr ?_; refine RW.y (Y.gtr rfl rfl) rfl ?_) | (refine Gt.pick ?_; (refine RW.y (Y.pickT rfl rfl) rfl ?_)))
      · rw [if_neg (by omega)]
        simp only [verR]
        have hKc := hK8
        have hbr := hbr8
        refine RW.storeBlock rfl rfl rfl noCells hbr rfl (fun wz hbz hkz => ?_)
        repeat' (first | (refine CL.ret ?_) | (refine Gt.nil ?_; refine RW.nilw [0, 2, 3, 4, 5, 6, 7, 8, 9, 10, 11, 12, 23, 25, 26, 37, 51, 64] ?_; dsimp only [H.keep, H.look, H.Fr.put, Nat.beq]) | (refine Gt.assign ?_; refine RW.y (Y.assign rfl) rfl ?_))
        exact FQ.res (rs := [.cell 2 25, .tmp 3]) (vs := [_, _]) rfl rfl ⟨⟨_, rfl, load_block hbz rfl⟩, rfl, trivial⟩ rfl (⟨hKc.trans hkz fun k h => .inr (by rw [h]; exact Nat.le_refl _), _, rfl, _, rfl, Sl.nil _ _, nolive⟩)
      · refine RW.fn rfl rfl ((containsMark v7 m w8 hs8 hml7 (by omega)).mono ?_)
        rintro e w9 ⟨rfl, rfl⟩
        cases hall : m.all markB
        · repeat' (first | (refine CL.seq ?_) | (refine CL.region ?_) | (refine CL.condT rfl ?_) | (refine Gt.nil ?_; refine RW.nilw [0, 2, 3, 4, 5, 6, 7, 8, 9, 10, 11, 12, 23, 25, 26, 37, 51, 64] ?_; dsimp only [H.keep, H.look, H.Fr.put, Nat.beq]) | (refine RW.y (Y.build (ps := []) (l := []) rfl rfl) rfl ?_) | (refine Gt.pick ?_; (refine RW.y (Y.pickF rfl rfl) rfl ?_)))
          rw [if_neg (by simp)]
          simp only [verR]
          have hKc := hK8
          have hbr := hbr8
          refine RW.storeBlock rfl rfl rfl noCells hbr rfl (fun wz hbz hkz => ?_)
          repeat' (first | (refine CL.ret ?_) | (refine Gt.nil ?_; refine RW.nilw [0, 2, 3, 4, 5, 6, 7, 8, 9, 10, 11, 12, 23, 25, 26, 37, 51, 64] ?_; dsimp only [H.keep, H.look, H.Fr.put, Nat.beq]) | (refine Gt.assign ?_; refine RW.y (Y.assign rfl) rfl ?_))
          exact FQ.res (rs := [.cell 2 25, .tmp 3]) (vs := [_, _]) rfl rfl ⟨⟨_, rfl, load_block hbz rfl⟩, rfl, trivial⟩ rfl (⟨hKc.trans hkz fun k h => .inr (by rw [h]; exact Nat.le_refl _), _, rfl, _, rfl, Sl.nil _ _, nolive⟩)
        · repeat' (first | (refine CL.seq ?_) | (refine CL.region ?_) | (refine CL.skip ?_) | (refine CL.condF rfl ?_) | (refine Gt.nil ?_; refine RW.nilw [0, 2, 3, 4, 5, 6, 7, 8, 9, 10, 11, 12, 23, 25, 26, 37, 51, 64] ?_; dsimp only [H.keep, H.look, H.Fr.put, Nat.beq]) | (refine RW.y (Y.loadBlock rfl hb8 rfl) rfl ?_) | (refine Gt.pick ?_; (refine RW.y (Y.pickF rfl rfl) rfl ?_)))
          refine RW.storeBlock rfl rfl rfl (verCells hs8.one) hbr8 rfl (fun w10 hb10 hk10 => ?_)
          repeat' (first | (refine CL.ret ?_) | (refine Gt.nil ?_; refine RW.nilw [0, 2, 3, 4, 5, 6, 7, 8, 9, 10, 11, 12, 23, 25, 26, 37, 51, 64] ?_; dsimp only [H.keep, H.look, H.Fr.put, Nat.beq]) | (refine Gt.assign ?_; refine RW.y (Y.assign rfl) rfl ?_))
          rw [if_pos ⟨by omega, rfl⟩]
          exact FQ.res (rs := [.cell 2 25, .tmp 3]) (vs := [_, _]) rfl rfl ⟨⟨_, rfl, load_block hb10 rfl⟩, rfl, trivial⟩ rfl (⟨hK8.trans hk10 fun k h => .inr (by have h' : k = w.heap.size := h; omega), _, rfl, _, rfl, hs8.keep hk10 fun g hg c => by have := how7.lt g (live_own hg); have c' : g = w.heap.size := c; omega, fun g hg => by have := how7.lt g (live_own hg); have := hK6.size; omega⟩)
end Go.Proofs.YtjlkmdmpejpmpaaGreatDoor.Ve

namespace Go.Proofs.YtjlkmdmpejpmpaaGreatDoor.H
open Go.RowKit
theorem CL.cutS {M : Option (Option Nat)} {P : Program} {Q : Post} {f : Fr} {w : World} {cs : List Code} {c : Code} (l : List Nat) (I : List Value → World → Prop) (hc : cs ≠ [])
    (h : CL M P (thenK (fun f' w' => ∃ vals, looks f'.e l = some vals ∧ f'.n = f.n ∧ f'.ds = f.ds ∧ I vals w') Q) [c] f w) (hk : ∀ vals w, I vals w → CL M P Q cs ⟨f.n, f.ds, l.zip vals⟩ w) : CL M P Q (c :: cs) f w := by
  refine CL.cut _ h fun f' w' ⟨vals, h1, h2, h3, h4⟩ => ?_
  have := hk vals w' h4
  cases cs with
  | nil => exact absurd rfl hc
  | cons d ds =>
    intro a ha
    refine this a ?_
    have hw := ha.weaken (looks_zip f'.e l vals h1)
    rw [h2, h3] at hw
    exact hw

/-- In a region that draws its order: what was kept is kept on from here. -/
theorem rebase {P : Program} {ops : Array Oper} {Q : Post} {Z T : Nat → Prop} {n : Nat} {l : Array Bool} {f : Fr} {w0 w1 w2 : World} (h : Kept Z w0 w1) (hk : Kept T w1 w2) (ht : ∀ k, T k → Z k) (k : Kept Z w2 w2 → AW P ops Q (fun w' => Kept Z w2 w') n l f w2) :
    Kept Z w0 w2 ∧ AW P ops Q (fun w' => Kept Z w0 w') n l f w2 :=
  have h2 : Kept Z w0 w2 := h.trans hk fun k hk' => .inl (ht k hk')
  ⟨h2, AW.more (fun w hw => h2.trans hw fun k hk' => .inl hk') (k (Kept.refl Z w2))⟩
theorem rebase0 {P : Program} {ops : Array Oper} {Q : Post} {n : Nat} {l : Array Bool} {f : Fr} {w0 w1 w2 : World} (h : K0 w0 w1) (hk : K0 w1 w2) (k : K0 w2 w2 → AW P ops Q (fun w' => K0 w2 w') n l f w2) :
    K0 w0 w2 ∧ AW P ops Q (fun w' => K0 w0 w') n l f w2 := rebase h hk (fun _ c => c.elim) k
section
variable {P : Program} {ops : Array Oper} {Q : Post} {f : Fr} {w : World} {S : World → Prop}
end
end Go.Proofs.YtjlkmdmpejpmpaaGreatDoor.H

namespace Go.Proofs.YtjlkmdmpejpmpaaGreatDoor.Ve
open Go.RowKit H S
attribute [local irreducible] H.CL H.RW H.CW H.Yd H.thenK H.blockQ Go.Calls

theorem idx_none (c : UInt8) : ∀ (l : T), c ∉ l → idx c l = -1
  | [], _ => rfl
  | x :: r, h => by
    have hx : (x == c) = false := by rw [beq_eq_false_iff_ne]; rintro rfl; exact h (by simp)
    have ih := idx_none c r (fun q => h (by simp [q]))
    unfold idx at ih
    simp [idx, Go.Lib.indexByte, hx, ih]
theorem idx_some (c : UInt8) : ∀ (l : T) (i : Nat), i < l.length → c ∉ l.take i → l.getD i 0 = c → idx c l = (i : Int)
  | [], _, h, _, _ => by simp at h
  | x :: r, 0, _, _, h => by
    have hx : (x == c) = true := by simpa using h
    simp [idx, Go.Lib.indexByte, hx]
  | x :: r, i + 1, hi, hn, h => by
    have hx : (x == c) = false := by rw [beq_eq_false_iff_ne]; rintro rfl; exact hn (by simp)
    have ih := idx_some c r i (by simpa using hi) (fun q => hn (by simp [q])) (by simpa using h)
    unfold idx at ih
    have h2 : ((i : Int) == -1) = false := by rw [beq_eq_false_iff_ne]; omega
    simp [idx, Go.Lib.indexByte, hx, ih, h2]
theorem cut_none (c : UInt8) (l : T) (h : c ∉ l) : cutB c l = (l, [], false) := by rw [cutB, idx_none c l h, if_pos (by decide)]
theorem cut_some (c : UInt8) (l : T) (i : Nat) (hi : i < l.length) (hn : c ∉ l.take i) (h : l.getD i 0 = c) : cutB c l = (l.take i, l.drop (i + 1), true) := by
  rw [cutB, idx_some c l i hi hn h, if_neg (by omega), Int.toNat_natCast]

theorem parseL_bad {l : List T} {pre : T} (h : ¬ ((splitB 46 pre).length ≤ 5 ∧ (splitB 46 pre).all markB = true)) : parseL l pre true = none := by
  by_cases h3 : l.length = 3
  · obtain ⟨x, y, z, rfl⟩ := len3 h3
    simp only [parseL, if_true]
    rw [if_neg h]
    simp
  · exact parseL_ne h3

set_option maxHeartbeats 1000000 in
theorem versionOfN (s : T) (hl : s.length ≤ 2000000) (w : World) : Calls Tryz.prog 19 #[vs s] w fun e w' => K0 w w' ∧ ∃ V, e = .returned (.tuple #[V, .int .i64 (verR (parseV (cutB 45 s))).2]) ∧ VerNew w.heap.size w' V (verR (parseV (cutB 45 s))).1 := by
  refine H.enter Tryz.func19 Tryz.ntmps19 rfl rfl ?_; dsimp only [H.args]
  repeat' (first | (refine CL.seq ?_) | (refine CL.region ?_))
  refine RW.alloc rfl (fun w1 hb1 hk1 hlt1 => ?_)
  repeat' (first | (refine CL.seq ?_) | (refine CL.region ?_) | (refine Gt.nil ?_; refine RW.nilw [0, 2, 3, 4, 5, 6, 7, 8, 9, 10, 11, 12, 13, 14, 19, 25, 38, 44, 53, 59, 91] ?_; dsimp only [H.keep, H.look, H.Fr.put, Nat.beq]) | (refine Gt.assign ?_; refine RW.y (Y.assign rfl) rfl ?_))
  refine RW.alloc rfl (fun w2 hb2 hk2 hlt2 => ?_)
  repeat' (first | (refine CL.seq ?_) | (refine CL.region ?_) | (refine Gt.nil ?_; refine RW.nilw [0, 2, 3, 4, 5, 6, 7, 8, 9, 10, 11, 12, 13, 14, 19, 25, 38, 44, 53, 59, 91] ?_; dsimp only [H.keep, H.look, H.Fr.put, Nat.beq]) | (refine Gt.move ?_; refine RW.y (Y.move rfl) rfl ?_) | (refine Gt.assign ?_; refine RW.y (Y.assign rfl) rfl ?_))
  have hw12 : w.heap.size < w1.heap.size := hlt1
  have hbr2 := hk2.at0 hb1
  have hK2 : K0 w w2 := hk1.trans0 hk2
  refine CL.cutS [2, 3, 4, 5] (fun vals wr => ∃ (core pre : T) (has : Bool) (p : Value) (m : List T), vals = [.pointer (some ⟨w.heap.size, 0, none⟩), .int .i64 0, .pointer (some ⟨w1.heap.size, 0, none⟩), vs core] ∧ cutB 45 s = (core, pre, has) ∧ core.length ≤ s.length ∧ Kept (fun k => k = w1.heap.size) w2 wr ∧
      wr.heap[w1.heap.size]? = some (.cells #[.int .i64 0, .int .i64 0, .int .i64 0, p] verT (0, 0)) ∧ Sl wr 1 p m.length (sv m) ∧ (∀ g, live p = some g → w2.heap.size ≤ g) ∧ m = (if has = true then splitB 46 pre else []) ∧ (has = true → m.length ≤ 5 ∧ m.all markB = true)) (by simp) ?_ ?_
  · repeat' ((refine CL.block ?_))
    refine CL.loopS [0, 2, 3, 4, 5, 6] (fun k vals wr => ∃ (i : Nat), vals = [vs s, .pointer (some ⟨w.heap.size, 0, none⟩), .int .i64 0, .pointer (some ⟨w1.heap.size, 0, none⟩), vs s, .int .i64 (i : Int)] ∧ k = s.length - i ∧ i ≤ s.length ∧ 45 ∉ s.take i ∧ wr = w2) s.length ⟨_, rfl, 0, rfl, rfl, Nat.zero_le _, by simp, rfl⟩ ?_
    rintro k vals wr ⟨i, rfl, rfl, hi, hno, rfl⟩
    dsimp only [List.zip, List.zipWith]
    rcases Nat.lt_or_ge i s.length with hlt | hge
    · repeat' (first | (refine CL.seq ?_) | (refine CL.region ?_) | (refine CL.skip ?_) | (refine CL.condP rfl (fun _ => ?_) (fun _ => ?_) <;> try (exfalso; omega)) | (refine CL.block ?_) | (refine CL.done ?_) | (refine Nm.block ?_) | (refine Nm.then ?_) | (refine Gt.nil ?_; refine RW.nilw [0, 2, 3, 4, 5, 6, 7, 8, 9, 10, 11, 12, 13, 14, 19, 25, 38, 44, 53, 59, 91] ?_; dsimp only [H.keep, H.look, H.Fr.put, Nat.beq]) | (refine Gt.move ?_; refine RW.y (Y.move rfl) rfl ?_) | (refine Gt.assign ?_; refine RW.y (Y.assign rfl) rfl ?_) | (refine Gt.add ?_; refine RW.y (Y.add64 rfl rfl (by omega) (by omega)) rfl ?_) | (refine Gt.len ?_; (refine RW.y (Y.lens rfl) rfl ?_)) | (refine Gt.lss ?_; refine RW.y (Y.lss rfl rfl) rfl ?_) | (refine Gt.index ?_; refine RW.y (Y.idxs rfl rfl (by omega) (by omega)) rfl ?_) | (refine Gt.eql ?_; refine RW.y (Y.eqi rfl rfl) rfl ?_) | (refine Gt.slice ?_; first | (refine RW.y (Y.cuth rfl rfl (by omega) (by omega)) rfl ?_) | (refine RW.y (Y.cutl rfl rfl (by omega) (by omega)) rfl ?_)))
      · rename_i h
        rw [Int.toNat_natCast] at h
        have hc := cut_some 45 s i hlt hno (u8_eq (by simpa using h))
        have hdl : (s.drop ((i : Int) + 1).toNat).length ≤ 2000000 := by rw [List.length_drop]; omega
        have hti : ((i : Int) + 1).toNat = i + 1 := by omega
        have htk : ((i : Int)).toNat = i := by omega
        refine RW.fn rfl rfl ((refSplit _ 46 (by omega) wr).mono ?_)
        rintro e w3 ⟨v3, rfl, how3, hk3⟩
        rw [hti] at how3
        rw [htk]
        have hs3 := Sl.of_own how3
        have hbr3 := hk3.at0 hbr2
        have hb3 := hk3.at0 hb2
        have hw3 := hk3.size
        rw [hc, parseV]
        have hcl := cutB_len 45 s
        rw [hc] at hcl
        simp only at hcl ⊢
        have hml3 : ∀ x ∈ splitB 46 (s.drop (i + 1)), x.length ≤ 1000000000000 := fun x hx => Nat.le_trans (splitB_mem_len 46 _ x hx) (by omega)
        have hln3 : (splitB 46 (s.drop (i + 1))).length ≤ 2000001 := by rw [splitB_len]; have : (s.drop (i + 1)).count 46 ≤ (s.drop (i + 1)).length := List.count_le_length; omega
        have hpl : ¬ ((splitB 46 (s.drop (i + 1))).length ≤ 5 ∧ (splitB 46 (s.drop (i + 1))).all markB = true) → parseL (splitB 46 (s.take i)) (s.drop (i + 1)) true = none := parseL_bad
        generalize hle : splitB 46 (s.drop (i + 1)) = l at *
        repeat' ((refine Gt.fieldAddr ?_; refine RW.y (Y.fieldAddr rfl (by rfl)) rfl ?_))
        refine RW.storeB rfl rfl hs3.one hb3 (show (_ : Nat) < 4 from by decide) (fun w4 hb4 hk4 => ?_)
        have hs4 := hs3.keep hk4 fun g hg c => by have := how3.lt g (live_own hg); have c' : g = w1.heap.size := c; omega
        have hbr4 := hk4.at hbr3 (fun c => by have c' : w.heap.size = w1.heap.size := c; omega)
        have hK4 : K0 w w4 := (hK2.trans0 hk3).trans hk4 fun k h => .inr (by have h' : k = w1.heap.size := h; omega)
        repeat' (first | (refine CL.seq ?_) | (refine CL.region ?_) | (refine CL.skip ?_) | (refine CL.condP rfl (fun _ => ?_) (fun _ => ?_) <;> try (exfalso; omega)) | (refine CL.block ?_) | (refine Gt.nil ?_; refine RW.nilw [0, 2, 3, 4, 5, 6, 7, 8, 9, 10, 11, 12, 13, 14, 19, 25, 38, 44, 53, 59, 91] ?_; dsimp only [H.keep, H.look, H.Fr.put, Nat.beq]) | (refine RW.y (Y.build (ps := []) (l := []) rfl rfl) rfl ?_) | (refine Gt.assign ?_; refine RW.y (Y.assign rfl) rfl ?_) | (refine Gt.load ?_; (refine RW.y (Y.loadB rfl (by assumption) rfl) rfl ?_)) | (refine Gt.fieldAddr ?_; refine RW.y (Y.fieldAddr rfl (by rfl)) rfl ?_) | (refine Gt.len ?_; (refine RW.y (Y.lenx rfl (by assumption)) rfl ?_)) | (refine Gt.gtr ?_; refine RW.y (Y.gtr rfl rfl) rfl ?_))
        · rw [hpl (by omega)]
          simp only [verR]
          have hKc := hK4
          have hbr := hbr4
          refine RW.storeBlock rfl rfl rfl noCells hbr rfl (fun wz hbz hkz => ?_)
          repeat' (first | (refine CL.ret ?_) | (refine Rt.then ?_) | (refine Rt.block ?_) | (refine Gt.nil ?_; refine RW.nilw [0, 2, 3, 4, 5, 6, 7, 8, 9, 10, 11, 12, 13, 14, 19, 25, 38, 44, 53, 59, 91] ?_; dsimp only [H.keep, H.look, H.Fr.put, Nat.beq]) | (refine Gt.assign ?_; refine RW.y (Y.assign rfl) rfl ?_))
          exact FQ.res (rs := [.cell 2 25, .tmp 3]) (vs := [_, _]) rfl rfl ⟨⟨_, rfl, load_block hbz rfl⟩, rfl, trivial⟩ rfl (⟨hKc.trans hkz fun k h => .inr (by rw [h]; exact Nat.le_refl _), _, rfl, _, rfl, Sl.nil _ _, nolive⟩)
        refine CL.loopS [2, 3, 4, 5, 7] (fun k vals wr => ∃ (j : Nat), vals = [.pointer (some ⟨w.heap.size, 0, none⟩), .int .i64 0, .pointer (some ⟨w1.heap.size, 0, none⟩), vs (s.take i), .int .i64 (j : Int)] ∧ k = l.length - j ∧ j ≤ l.length ∧ (l.take j).all markB = true ∧ wr = w4) l.length ⟨_, rfl, 0, rfl, rfl, Nat.zero_le _, rfl, rfl⟩ ?_
        rintro k vals wr4 ⟨j, rfl, rfl, hj, hall, rfl⟩
        dsimp only [List.zip, List.zipWith]
        rcases Nat.lt_or_ge j l.length with hjl | hjg
        · repeat' (first | (refine CL.seq ?_) | (refine CL.region ?_) | (refine CL.skip ?_) | (refine CL.condP rfl (fun _ => ?_) (fun _ => ?_) <;> try (exfalso; omega)) | (refine CL.block ?_) | (refine Gt.nil ?_; refine RW.nilw [0, 2, 3, 4, 5, 6, 7, 8, 9, 10, 11, 12, 13, 14, 19, 25, 38, 44, 53, 59, 91] ?_; dsimp only [H.keep, H.look, H.Fr.put, Nat.beq]) | (refine Gt.move ?_; refine RW.y (Y.move rfl) rfl ?_) | (refine Gt.load ?_; (refine RW.y (Y.loadB rfl (by assumption) rfl) rfl ?_)) | (refine Gt.fieldAddr ?_; refine RW.y (Y.fieldAddr rfl (by rfl)) rfl ?_) | (refine Gt.idx ?_; refine RW.elemS rfl rfl rfl rfl (by assumption) (by omega) (by omega) ?_) | (refine Gt.len ?_; (refine RW.y (Y.lenx rfl (by assumption)) rfl ?_)) | (refine Gt.lss ?_; refine RW.y (Y.lss rfl rfl) rfl ?_))
          refine RW.fn rfl rfl ((refMark _ (hml3 _ (by rw [Int.toNat_natCast]; exact getD_mem [] hjl)) wr4).mono ?_)
          rintro e w5 ⟨rfl, rfl⟩
          rw [Int.toNat_natCast]
          cases hm : markB (l.getD j [])
          · repeat' (first | (refine CL.seq ?_) | (refine CL.region ?_) | (refine CL.condT rfl ?_) | (refine Gt.nil ?_; refine RW.nilw [0, 2, 3, 4, 5, 6, 7, 8, 9, 10, 11, 12, 13, 14, 19, 25, 38, 44, 53, 59, 91] ?_; dsimp only [H.keep, H.look, H.Fr.put, Nat.beq]) | (refine RW.y (Y.build (ps := []) (l := []) rfl rfl) rfl ?_) | (refine Gt.not ?_; (refine RW.y (Y.notb rfl) rfl ?_)))
            rw [hpl (fun c => by rw [all_false [] hjl hm] at c; exact absurd c.2 (by decide))]
            simp only [verR]
            have hKc := hK4
            have hbr := hbr4
            refine RW.storeBlock rfl rfl rfl noCells hbr rfl (fun wz hbz hkz => ?_)
            repeat' (first | (refine CL.ret ?_) | (refine Rt.then ?_) | (refine Rt.block ?_) | (refine Gt.nil ?_; refine RW.nilw [0, 2, 3, 4, 5, 6, 7, 8, 9, 10, 11, 12, 13, 14, 19, 25, 38, 44, 53, 59, 91] ?_; dsimp only [H.keep, H.look, H.Fr.put, Nat.beq]) | (refine Gt.assign ?_; refine RW.y (Y.assign rfl) rfl ?_))
            exact FQ.res (rs := [.cell 2 25, .tmp 3]) (vs := [_, _]) rfl rfl ⟨⟨_, rfl, load_block hbz rfl⟩, rfl, trivial⟩ rfl (⟨hKc.trans hkz fun k h => .inr (by rw [h]; exact Nat.le_refl _), _, rfl, _, rfl, Sl.nil _ _, nolive⟩)
          · repeat' (first | (refine CL.region ?_) | (refine CL.skip ?_) | (refine CL.condF rfl ?_) | (refine CL.done ?_) | (refine Nm.block ?_) | (refine Nm.then ?_) | (refine Gt.nil ?_; refine RW.nilw [0, 2, 3, 4, 5, 6, 7, 8, 9, 10, 11, 12, 13, 14, 19, 25, 38, 44, 53, 59, 91] ?_; dsimp only [H.keep, H.look, H.Fr.put, Nat.beq]) | (refine Gt.move ?_; refine RW.y (Y.move rfl) rfl ?_) | (refine Gt.assign ?_; refine RW.y (Y.assign rfl) rfl ?_) | (refine Gt.not ?_; (refine RW.y (Y.notb rfl) rfl ?_)) | (refine Gt.add ?_; refine RW.y (Y.add64 rfl rfl (by omega) (by omega)) rfl ?_))
            exact ⟨l.length - (j + 1), _, rfl, rfl, rfl, by omega, j + 1, rfl, rfl, by omega, all_step [] hjl hall hm, rfl⟩
        · have hj : j = l.length := by omega
          subst hj
          rw [List.take_length] at hall
          repeat' (first | (refine CL.seq ?_) | (refine CL.region ?_) | (refine CL.condP rfl (fun _ => ?_) (fun _ => ?_) <;> try (exfalso; omega)) | (refine CL.exit ?_) | (refine Ex.then ?_) | (refine Ex.hit ?_) | (refine Ex.miss rfl ?_) | (refine CL.done ?_) | (refine Nm.then ?_) | (refine Gt.nil ?_; refine RW.nilw [0, 2, 3, 4, 5, 6, 7, 8, 9, 10, 11, 12, 13, 14, 19, 25, 38, 44, 53, 59, 91] ?_; dsimp only [H.keep, H.look, H.Fr.put, Nat.beq]) | (refine Gt.move ?_; refine RW.y (Y.move rfl) rfl ?_) | (refine Gt.load ?_; (refine RW.y (Y.loadB rfl (by assumption) rfl) rfl ?_)) | (refine Gt.fieldAddr ?_; refine RW.y (Y.fieldAddr rfl (by rfl)) rfl ?_) | (refine Gt.len ?_; (refine RW.y (Y.lenx rfl (by assumption)) rfl ?_)) | (refine Gt.lss ?_; refine RW.y (Y.lss rfl rfl) rfl ?_))
          exact ⟨_, rfl, rfl, rfl, _, _, _, v3, l, rfl, rfl, by rw [List.length_take]; omega, (hk3.mono fun _ c => c.elim).trans hk4 fun k h => .inl h, hb4, hs4, fun g hg => (how3.lt g (live_own hg)).1, by rw [if_pos rfl, hle], fun _ => ⟨by omega, hall⟩⟩
      · rename_i h
        rw [Int.toNat_natCast] at h
        refine ⟨s.length - (i + 1), _, rfl, rfl, rfl, by omega, i + 1, rfl, rfl, by omega, ?_, rfl⟩
        rw [take_snoc 0 s i hlt]
        simp only [List.mem_append, List.mem_singleton, not_or]
        exact ⟨hno, fun q => h (by rw [← q]; rfl)⟩
    · have hi : i = s.length := by omega
      subst hi
      rw [List.take_length] at hno
      repeat' (first | (refine CL.seq ?_) | (refine CL.region ?_) | (refine CL.condP rfl (fun _ => ?_) (fun _ => ?_) <;> try (exfalso; omega)) | (refine CL.exit ?_) | (refine Ex.then ?_) | (refine Ex.hit ?_) | (refine CL.done ?_) | (refine Nm.then ?_) | (refine Gt.nil ?_; refine RW.nilw [0, 2, 3, 4, 5, 6, 7, 8, 9, 10, 11, 12, 13, 14, 19, 25, 38, 44, 53, 59, 91] ?_; dsimp only [H.keep, H.look, H.Fr.put, Nat.beq]) | (refine Gt.move ?_; refine RW.y (Y.move rfl) rfl ?_) | (refine Gt.len ?_; (refine RW.y (Y.lens rfl) rfl ?_)) | (refine Gt.lss ?_; refine RW.y (Y.lss rfl rfl) rfl ?_))
      exact ⟨_, rfl, rfl, rfl, s, [], false, .slice none 0 0, [], rfl, cut_none 45 s hno, Nat.le_refl _, Kept.refl _ _, hb2, Sl.nil _ _, fun g hg => by simp [live] at hg, rfl, fun c => by cases c⟩
  · rintro vals wr ⟨core, pre, has, p, m, rfl, hcut, hcl, hkr, hbl, hsl, hlv, hm, hok⟩
    dsimp only [List.zip, List.zipWith]
    have hwr := hkr.size
    have hbrr := hkr.at hbr2 (fun c => by have c' : w.heap.size = w1.heap.size := c; omega)
    have hKr : K0 w wr := hK2.trans hkr fun k h => .inr (by have h' : k = w1.heap.size := h; omega)
    rw [hcut, parseV]
    simp only
    have hpR : ∀ x y z, (numB x && numB y && numB z) = true → parseL [x, y, z] pre has = some ⟨val x, val y, val z, m⟩ := by
      intro x y z h3
      simp only [parseL]
      rw [if_pos h3]
      cases has with
      | false => rw [hm]; rfl
      | true => rw [if_pos rfl, if_pos (by have := hok rfl; rw [hm, if_pos rfl] at this; exact this), hm]; rfl
    have hml : ∀ x ∈ splitB 46 core, x.length ≤ 2000000 := fun x hx => Nat.le_trans (splitB_mem_len 46 core x hx) (by omega)
    repeat' (first | (refine CL.seq ?_) | (refine CL.region ?_) | (refine Gt.move ?_; refine RW.y (Y.move rfl) rfl ?_))
    refine RW.fn rfl rfl ((refSplit _ 46 (by omega) wr).mono ?_)
    rintro e w3 ⟨v3, rfl, how3, hk3⟩
    have hs3 := Sl.of_own how3
    have hbr3 := hk3.at0 hbrr
    have hb3 := hk3.at0 hbl
    have hsl3 := hsl.keep0 hk3
    have hK3 := hKr.trans0 hk3
    have hw3 := hk3.size
    generalize splitB 46 core = l at *
    repeat' (first | (refine CL.seq ?_) | (refine CL.region ?_) | (refine CL.skip ?_) | (refine CL.condP rfl (fun _ => ?_) (fun _ => ?_) <;> try (exfalso; omega)) | (refine Gt.nil ?_; refine RW.nilw [0, 2, 3, 4, 5, 6, 7, 8, 9, 10, 11, 12, 13, 14, 19, 25, 38, 44, 53, 59, 91] ?_; dsimp only [H.keep, H.look, H.Fr.put, Nat.beq]) | (refine RW.y (Y.build (ps := []) (l := []) rfl rfl) rfl ?_) | (refine Gt.move ?_; refine RW.y (Y.move rfl) rfl ?_) | (refine Gt.assign ?_; refine RW.y (Y.assign rfl) rfl ?_) | (refine Gt.idx ?_; refine RW.elemS rfl rfl rfl rfl (by assumption) (by omega) (by omega) ?_) | (refine Gt.len ?_; (refine RW.y (Y.lenx rfl (by assumption)) rfl ?_)) | (refine Gt.neq ?_; refine RW.y (Y.nei rfl rfl) rfl ?_))
    · rename_i h3
      rw [parseL_ne (by omega)]
      simp only [verR]
      have hKc := hK3
      have hbr := hbr3
      refine RW.storeBlock rfl rfl rfl noCells hbr rfl (fun wz hbz hkz => ?_)
      repeat' (first | (refine CL.ret ?_) | (refine Gt.nil ?_; refine RW.nilw [0, 2, 3, 4, 5, 6, 7, 8, 9, 10, 11, 12, 13, 14, 19, 25, 38, 44, 53, 59, 91] ?_; dsimp only [H.keep, H.look, H.Fr.put, Nat.beq]) | (refine Gt.assign ?_; refine RW.y (Y.assign rfl) rfl ?_))
      exact FQ.res (rs := [.cell 2 25, .tmp 3]) (vs := [_, _]) rfl rfl ⟨⟨_, rfl, load_block hbz rfl⟩, rfl, trivial⟩ rfl (⟨hKc.trans hkz fun k h => .inr (by rw [h]; exact Nat.le_refl _), _, rfl, _, rfl, Sl.nil _ _, nolive⟩)
    rename_i h3
    obtain ⟨x, y, z, rfl⟩ := len3 (show l.length = 3 by omega)
    have hx := hml x (by simp)
    have hy := hml y (by simp)
    have hz := hml z (by simp)
    have h3l : ([x, y, z] : List T).length = 3 := rfl
    skip
    refine RW.fn rfl rfl ((refNumber x (by omega) w3).mono ?_)
    rintro e w4 ⟨rfl, n1, rfl, hn1⟩
    repeat' (first | (refine CL.seq ?_) | (refine CL.region ?_) | (refine Gt.nil ?_; refine RW.nilw [0, 2, 3, 4, 5, 6, 7, 8, 9, 10, 11, 12, 13, 14, 19, 25, 38, 44, 53, 59, 91] ?_; dsimp only [H.keep, H.look, H.Fr.put, Nat.beq]) | (refine Gt.move ?_; refine RW.y (Y.move rfl) rfl ?_) | (refine Gt.assign ?_; refine RW.y (Y.assign rfl) rfl ?_) | (refine Gt.extract ?_; refine RW.y (Y.extract rfl rfl) rfl ?_) | (refine Gt.idx ?_; refine RW.elemS rfl rfl rfl rfl (by assumption) (by omega) (by omega) ?_))
    refine RW.fn rfl rfl ((refNumber y (by omega) w3).mono ?_)
    rintro e w4 ⟨rfl, n2, rfl, hn2⟩
    repeat' (first | (refine CL.seq ?_) | (refine CL.region ?_) | (refine Gt.nil ?_; refine RW.nilw [0, 2, 3, 4, 5, 6, 7, 8, 9, 10, 11, 12, 13, 14, 19, 25, 38, 44, 53, 59, 91] ?_; dsimp only [H.keep, H.look, H.Fr.put, Nat.beq]) | (refine Gt.move ?_; refine RW.y (Y.move rfl) rfl ?_) | (refine Gt.assign ?_; refine RW.y (Y.assign rfl) rfl ?_) | (refine Gt.extract ?_; refine RW.y (Y.extract rfl rfl) rfl ?_) | (refine Gt.idx ?_; refine RW.elemS rfl rfl rfl rfl (by assumption) (by omega) (by omega) ?_))
    refine RW.fn rfl rfl ((refNumber z (by omega) w3).mono ?_)
    rintro e w4 ⟨rfl, n3, rfl, hn3⟩
    by_cases hall : (numB x && numB y && numB z) = true
    · have hall' := hall
      simp only [Bool.and_eq_true] at hall'
      obtain ⟨⟨e1, e2⟩, e3⟩ := hall'
      rw [hpR x y z hall]
      have i1 := hn1 e1
      have i2 := hn2 e2
      have i3 := hn3 e3
      subst i1 i2 i3
      rw [e1, e2, e3]
      repeat' (first | (refine CL.seq ?_) | (refine CL.region ?_) | (refine CL.skip ?_) | (refine CL.condF rfl ?_) | (refine Gt.nil ?_; refine RW.nilw [0, 2, 3, 4, 5, 6, 7, 8, 9, 10, 11, 12, 13, 14, 19, 25, 38, 44, 53, 59, 91] ?_; dsimp only [H.keep, H.look, H.Fr.put, Nat.beq]) | (refine Gt.move ?_; refine RW.y (Y.move rfl) rfl ?_) | (refine Gt.guard ?_; (refine RW.on rfl rfl rfl ?_)) | (refine Gt.assign ?_; refine RW.y (Y.assign rfl) rfl ?_) | (refine Gt.fieldAddr ?_; refine RW.y (Y.fieldAddr rfl (by rfl)) rfl ?_) | (refine Gt.extract ?_; refine RW.y (Y.extract rfl rfl) rfl ?_) | (refine Gt.not ?_; (refine RW.y (Y.notb rfl) rfl ?_)) | (refine Gt.pick ?_; (refine RW.y (Y.pickF rfl rfl) rfl ?_)))
      refine RW.storeB rfl rfl rfl hb3 (show (_ : Nat) < 4 from by decide) (fun w4 hb4 hk4 => ?_)
      repeat' ((refine Gt.fieldAddr ?_; refine RW.y (Y.fieldAddr rfl (by rfl)) rfl ?_))
      refine RW.storeB rfl rfl rfl hb4 (show (_ : Nat) < 4 from by decide) (fun w5 hb5 hk5 => ?_)
      repeat' ((refine Gt.fieldAddr ?_; refine RW.y (Y.fieldAddr rfl (by rfl)) rfl ?_))
      refine RW.storeB rfl rfl rfl hb5 (show (_ : Nat) < 4 from by decide) (fun w6 hb6 hk6 => ?_)
      have hk36 : Kept (fun k => k = w1.heap.size) w3 w6 := (hk4.trans hk5 fun k h => .inl h).trans hk6 fun k h => .inl h
      have hbr6 := hk36.at hbr3 (fun c => by have c' : w.heap.size = w1.heap.size := c; omega)
      have hK6 : K0 w w6 := hK3.trans hk36 fun k h => .inr (by have h' : k = w1.heap.size := h; omega)
      have hs6 := hsl3.keep hk36 fun g hg c => by have := hlv g hg; have c' : g = w1.heap.size := c; omega
      repeat' (first | (refine CL.seq ?_) | (refine CL.region ?_) | (refine Gt.nil ?_; refine RW.nilw [0, 2, 3, 4, 5, 6, 7, 8, 9, 10, 11, 12, 13, 14, 19, 25, 38, 44, 53, 59, 91] ?_; dsimp only [H.keep, H.look, H.Fr.put, Nat.beq]) | (refine RW.y (Y.loadBlock rfl hb6 rfl) rfl ?_))
      refine RW.storeBlock rfl rfl rfl (verCells hs6.one) hbr6 rfl (fun w7 hb7 hk7 => ?_)
      repeat' (first | (refine CL.ret ?_) | (refine Gt.nil ?_; refine RW.nilw [0, 2, 3, 4, 5, 6, 7, 8, 9, 10, 11, 12, 13, 14, 19, 25, 38, 44, 53, 59, 91] ?_; dsimp only [H.keep, H.look, H.Fr.put, Nat.beq]) | (refine Gt.assign ?_; refine RW.y (Y.assign rfl) rfl ?_))
      exact FQ.res (rs := [.cell 2 25, .tmp 3]) (vs := [_, _]) rfl rfl ⟨⟨_, rfl, load_block hb7 rfl⟩, rfl, trivial⟩ rfl (⟨hK6.trans hk7 fun k h => .inr (by have h' : k = w.heap.size := h; omega), _, rfl, _, rfl, hs6.keep hk7 fun g hg c => by have := hlv g hg; have c' : g = w.heap.size := c; omega, fun g hg => by have := hlv g hg; have := hK2.size; omega⟩)
    · rw [show parseL [x, y, z] pre has = none from by simp only [parseL]; rw [if_neg hall]]
      simp only [verR]
      have hKc := hK3
      have hbr := hbr3
      cases e1 : numB x <;> cases e2 : numB y <;> cases e3 : numB z <;> first
        | (rw [e1, e2, e3] at hall; exact absurd rfl hall)
        | skip
      all_goals
        repeat' (first | (refine CL.seq ?_) | (refine CL.region ?_) | (refine CL.condT rfl ?_) | (refine Gt.nil ?_; refine RW.nilw [0, 2, 3, 4, 5, 6, 7, 8, 9, 10, 11, 12, 13, 14, 19, 25, 38, 44, 53, 59, 91] ?_; dsimp only [H.keep, H.look, H.Fr.put, Nat.beq]) | (refine RW.y (Y.build (ps := []) (l := []) rfl rfl) rfl ?_) | (refine Gt.move ?_; refine RW.y (Y.move rfl) rfl ?_) | (refine Gt.guard ?_; first | (refine RW.on rfl rfl rfl ?_) | (refine RW.off1 rfl rfl rfl rfl rfl ?_)) | (refine Gt.assign ?_; refine RW.y (Y.assign rfl) rfl ?_) | (refine Gt.extract ?_; refine RW.y (Y.extract rfl rfl) rfl ?_) | (refine Gt.not ?_; (refine RW.y (Y.notb rfl) rfl ?_)) | (refine Gt.pick ?_; first | (refine RW.y (Y.pickT rfl rfl) rfl ?_) | (refine RW.y (Y.pickF rfl rfl) rfl ?_)))
        refine RW.storeBlock rfl rfl rfl noCells hbr rfl (fun wz hbz hkz => ?_)
        repeat' (first | (refine CL.ret ?_) | (refine Gt.nil ?_; refine RW.nilw [0, 2, 3, 4, 5, 6, 7, 8, 9, 10, 11, 12, 13, 14, 19, 25, 38, 44, 53, 59, 91] ?_; dsimp only [H.keep, H.look, H.Fr.put, Nat.beq]) | (refine Gt.assign ?_; refine RW.y (Y.assign rfl) rfl ?_))
        exact FQ.res (rs := [.cell 2 25, .tmp 3]) (vs := [_, _]) rfl rfl ⟨⟨_, rfl, load_block hbz rfl⟩, rfl, trivial⟩ rfl (⟨hKc.trans hkz fun k h => .inr (by rw [h]; exact Nat.le_refl _), _, rfl, _, rfl, Sl.nil _ _, nolive⟩)
theorem versionOf (s : T) (hl : s.length ≤ 2000000) (w : World) : Calls Tryz.prog 19 #[vs s] w fun e w' => K0 w w' ∧ ∃ V, e = .returned (.tuple #[V, .int .i64 (verR (parseV (cutB 45 s))).2]) ∧ VerAt w' V (verR (parseV (cutB 45 s))).1 :=
  (versionOfN s hl w).mono fun _ _ ⟨h1, V, h2, h3⟩ => ⟨h1, V, h2, h3.at⟩
end Go.Proofs.YtjlkmdmpejpmpaaGreatDoor.Ve

namespace Go.Proofs.YtjlkmdmpejpmpaaGreatDoor.Ve
open Go.RowKit H S
attribute [local irreducible] H.CL H.RW H.CW H.Yd H.thenK H.blockQ Go.Calls

theorem ret_int {k : IntKind} {a b : Int} (h : a = b) : Ending.returned (.int k a) = .returned (.int k b) := by rw [h]
theorem nanT (a : T) (w : World) : Calls Tryz.prog 81 #[vs a] w fun e w' => w = w' ∧ e = .returned (.bool false) := by
  refine H.enter Tryz.func81 Tryz.ntmps81 rfl rfl ?_; dsimp only [H.args]
  repeat' (first | (refine CL.seq ?_) | (refine CL.region ?_) | (refine CL.skip ?_) | (refine CL.condP rfl (fun _ => ?_) (fun _ => ?_) <;> try (exfalso; omega)) | (refine CL.condT rfl ?_) | (refine CL.condF rfl ?_) | (refine CL.cond rfl (fun _ => ?_) (fun _ => ?_)) | (refine CL.block ?_) | (refine CL.exit ?_) | (refine Ex.then ?_) | (refine Ex.hit ?_) | (refine Ex.miss rfl ?_) | (refine CL.ret ?_) | (refine Rt.then ?_) | (refine Rt.block ?_) | (refine Pn.then ?_) | (refine Pn.block ?_) | (refine CL.done ?_) | (refine Nm.block ?_) | (refine Nm.then ?_) | (refine Gt.nil ?_; refine RW.nilw [0, 2] ?_; dsimp only [H.keep, H.look, H.Fr.put, Nat.beq]) | (refine RW.y (Y.nesS rfl rfl) rfl ?_) | (refine Gt.assign ?_; refine RW.y (Y.assign rfl) rfl ?_) | (refine Gt.move ?_; refine RW.y (Y.move rfl) rfl ?_) | (refine Gt.neq ?_; refine RW.y (Y.nes rfl rfl) rfl ?_))
  exact FQ.one rfl rfl rfl ⟨rfl, rfl⟩
theorem compareT (a b : T) (w : World) : Calls Tryz.prog 59 #[vs a, vs b] w fun e w' => w = w' ∧ e = .returned (.int .i64 (cmpT a b)) := by
  refine H.enter Tryz.func59 Tryz.ntmps59 rfl rfl ?_; dsimp only [H.args]
  repeat' (first | (refine CL.seq ?_) | (refine CL.region ?_) | (refine CL.skip ?_) | (refine CL.condP rfl (fun _ => ?_) (fun _ => ?_) <;> try (exfalso; omega)) | (refine CL.condT rfl ?_) | (refine CL.condF rfl ?_) | (refine CL.cond rfl (fun _ => ?_) (fun _ => ?_)) | (refine CL.block ?_) | (refine CL.exit ?_) | (refine Ex.then ?_) | (refine Ex.hit ?_) | (refine Ex.miss rfl ?_) | (refine CL.ret ?_) | (refine Rt.then ?_) | (refine Rt.block ?_) | (refine Pn.then ?_) | (refine Pn.block ?_) | (refine CL.done ?_) | (refine Nm.block ?_) | (refine Nm.then ?_) | (refine Gt.nil ?_; refine RW.nilw [0, 1, 4, 5, 6, 11, 12, 13, 16, 19] ?_; dsimp only [H.keep, H.look, H.Fr.put, Nat.beq]) | (refine Gt.assign ?_; refine RW.y (Y.assign rfl) rfl ?_) | (refine Gt.move ?_; refine RW.y (Y.move rfl) rfl ?_) | (refine Gt.lss ?_; refine RW.y (Y.lts rfl rfl) rfl ?_) | (refine Gt.gtr ?_; refine RW.y (Y.gts rfl rfl) rfl ?_))
  refine RW.fn rfl rfl ((nanT a w).mono ?_)
  rintro e w' ⟨rfl, rfl⟩
  repeat' (first | (refine CL.seq ?_) | (refine CL.region ?_) | (refine CL.skip ?_) | (refine CL.condP rfl (fun _ => ?_) (fun _ => ?_) <;> try (exfalso; omega)) | (refine CL.condT rfl ?_) | (refine CL.condF rfl ?_) | (refine CL.cond rfl (fun _ => ?_) (fun _ => ?_)) | (refine CL.block ?_) | (refine CL.exit ?_) | (refine Ex.then ?_) | (refine Ex.hit ?_) | (refine Ex.miss rfl ?_) | (refine CL.ret ?_) | (refine Rt.then ?_) | (refine Rt.block ?_) | (refine Pn.then ?_) | (refine Pn.block ?_) | (refine CL.done ?_) | (refine Nm.block ?_) | (refine Nm.then ?_) | (refine Gt.nil ?_; refine RW.nilw [0, 1, 4, 5, 6, 11, 12, 13, 16, 19] ?_; dsimp only [H.keep, H.look, H.Fr.put, Nat.beq]) | (refine Gt.assign ?_; refine RW.y (Y.assign rfl) rfl ?_) | (refine Gt.move ?_; refine RW.y (Y.move rfl) rfl ?_) | (refine Gt.lss ?_; refine RW.y (Y.lts rfl rfl) rfl ?_) | (refine Gt.gtr ?_; refine RW.y (Y.gts rfl rfl) rfl ?_))
  refine RW.fn rfl rfl ((nanT b w).mono ?_)
  rintro e w' ⟨rfl, rfl⟩
  repeat' (first | (refine CL.seq ?_) | (refine CL.region ?_) | (refine CL.skip ?_) | (refine CL.condP rfl (fun _ => ?_) (fun _ => ?_) <;> try (exfalso; omega)) | (refine CL.condT rfl ?_) | (refine CL.condF rfl ?_) | (refine CL.cond rfl (fun _ => ?_) (fun _ => ?_)) | (refine CL.block ?_) | (refine CL.exit ?_) | (refine Ex.then ?_) | (refine Ex.hit ?_) | (refine Ex.miss rfl ?_) | (refine CL.ret ?_) | (refine Rt.then ?_) | (refine Rt.block ?_) | (refine Pn.then ?_) | (refine Pn.block ?_) | (refine CL.done ?_) | (refine Nm.block ?_) | (refine Nm.then ?_) | (refine Gt.nil ?_; refine RW.nilw [0, 1, 4, 5, 6, 11, 12, 13, 16, 19] ?_; dsimp only [H.keep, H.look, H.Fr.put, Nat.beq]) | (refine Gt.assign ?_; refine RW.y (Y.assign rfl) rfl ?_) | (refine Gt.move ?_; refine RW.y (Y.move rfl) rfl ?_) | (refine Gt.lss ?_; refine RW.y (Y.lts rfl rfl) rfl ?_) | (refine Gt.gtr ?_; refine RW.y (Y.gts rfl rfl) rfl ?_))
  · rename_i h
    exact FQ.one rfl rfl rfl ⟨rfl, ret_int (by rw [cmpT, if_pos h])⟩
  · rename_i h h2
    exact FQ.one rfl rfl rfl ⟨rfl, ret_int (by rw [h] at h2; simp at h2; rw [cmpT, h, if_neg (by decide), if_neg h2])⟩
  · rename_i h h2
    exact FQ.one rfl rfl rfl ⟨rfl, ret_int (by rw [h] at h2; simp at h2; rw [cmpT, h, if_neg (by decide), if_pos h2])⟩

def orI : List Int → Int
  | [] => 0
  | x :: r => if x ≠ 0 then x else orI r
theorem sl_new {w : World} {g : Nat} {c : Array Value} {e : TypeId} (h : w.heap[g]? = some (.cells c e (0, 0))) {n sz : Nat} (hn : c.size = n * sz) (hm : n ≤ 1000000) : Sl w sz (.slice (some ⟨g, 0, none⟩) n n) n c.toList :=
  Sl.of_own (own_new h (Nat.zero_le g) hn (by simp only [maxLen]; omega))
end Go.Proofs.YtjlkmdmpejpmpaaGreatDoor.Ve

namespace Go.Proofs.YtjlkmdmpejpmpaaGreatDoor.Ve
open Go.RowKit H S
attribute [local irreducible] H.CL H.RW H.CW H.Yd H.thenK H.blockQ Go.Calls

/-- A version whose marks are short enough for a machine. -/
def Fit (v : Ver) : Prop := v.pre.length ≤ 1000000 ∧ ∀ s ∈ v.pre, s.length ≤ 1000000
end Go.Proofs.YtjlkmdmpejpmpaaGreatDoor.Ve

namespace Go.Proofs.YtjlkmdmpejpmpaaGreatDoor.Ve
open Go.RowKit H S
attribute [local irreducible] H.CL H.RW H.CW H.Yd H.thenK H.blockQ Go.Calls

theorem sv_at {l : List T} {i : Nat} (h : i < l.length) : (sv l)[i]? = some (vs (l.getD i [])) := by
  simp [sv, List.getD_eq_getElem?_getD, List.getElem?_eq_getElem h]
end Go.Proofs.YtjlkmdmpejpmpaaGreatDoor.Ve

namespace Go.Proofs.YtjlkmdmpejpmpaaGreatDoor.S
open Go.RowKit H

theorem strings_data (l : List (List UInt8)) : (l.map B).map (·.data.toList) = l := by
  rw [List.map_map]
  conv => rhs; rw [← List.map_id l]
  exact List.map_congr_left fun a _ => rfl

theorem join (v : Value) (l : List (List UInt8)) (sep : List UInt8) (w : World) (hs : Sl w 1 v l.length (sv l)) (hlen : (Go.Lib.join l sep).length ≤ 140737488355328) (hl : l.length ≤ 140737488355328) :
    Calls Tryz.prog 64 #[v, vs sep] w fun e w' => e = .returned (vs (Go.Lib.join l sep)) ∧ K0 w w' := by
  rcases hs.2.2 with ⟨p, rfl, h0⟩ | ⟨g, off, cap, cur, e, fz, rfl, hg, hn, hm, ho, ht⟩
  · have : l = [] := List.eq_nil_of_length_eq_zero h0
    subst this
    refine (Tryz.strings_Join_none p 0 (B sep) w).mono fun e w' ⟨he, hw⟩ => ⟨he, ?_⟩
    rw [hw]; exact Kept.refl _ _
  · have h := Tryz.strings_Join g off cap (l.map B) (B sep) w (fun j x hj => by
        rw [List.getElem?_map, Option.map_eq_some_iff] at hj
        obtain ⟨s, hs', rfl⟩ := hj
        have hc := hs.cell (j := j) (u := vs s) (by rw [List.getElem?_map, hs']; rfl)
        simpa [Value.spot, addr_add] using hc) (lt_of_at hg) (by rw [List.length_map]; exact hl) (by rw [List.length_map]; exact hn) (by rw [strings_data]; exact hlen)
    rw [strings_data, List.length_map] at h
    exact h.mono fun e w' ⟨he, hb⟩ => ⟨he, Kept.of_below hb⟩
end Go.Proofs.YtjlkmdmpejpmpaaGreatDoor.S

namespace Go.Proofs.YtjlkmdmpejpmpaaGreatDoor.Ve
open Go.RowKit H S
attribute [local irreducible] H.CL H.RW H.CW H.Yd H.thenK H.blockQ Go.Calls

/-- The library's table of tens lies where it was laid. -/
def Tb (w : World) : Prop := Go.Lib.TabIs Tryz.prog w "internal/strconv.uint64pow10" .u64 Go.Lib.pow10Tab
theorem var_kept {P : Program} {w w' : World} {n : String} {cs : Array Value} (h : w.var? P n = some cs) (k : K0 w w') : w'.var? P n = some cs := by
  unfold World.var? at h ⊢
  cases hg : P.globalNamed n with
  | none => rw [hg] at h; cases h
  | some g =>
    rw [hg] at h
    simp only [Option.bind_some] at h ⊢
    cases ho : w.heap[g]? with
    | none => rw [ho] at h; cases h
    | some o => rw [k.at0 ho]; rw [ho] at h; exact h
theorem Tb.keep0 {w w' : World} (h : Tb w) (k : K0 w w') : Tb w' := var_kept h k
theorem dec_len : ∀ (k u : Nat), u < 10 ^ (k + 1) → (Go.Lib.decDigits u).length ≤ k + 1
  | 0, u, h => by rw [Go.Lib.decDigits, dif_pos (by simpa using h)]; simp
  | k + 1, u, h => by
    rw [Go.Lib.decDigits]
    split
    · simp
    · have := dec_len k (u / 10) (by rw [Nat.pow_succ] at h; omega)
      simp only [List.length_append, List.length_cons, List.length_nil]
      omega
theorem decI_len (n : Int) (h : n ≤ 9223372036854775807) : (decI n).length ≤ 19 :=
  dec_len 18 n.toNat (by have : (10 : Nat) ^ 19 = 10000000000000000000 := by decide
                         omega)

theorem itoa (n : Int) (h0 : 0 ≤ n) (h1 : n ≤ 9223372036854775807) (w : World) (hT : Tb w) : Calls Tryz.prog 63 #[.int .i64 n] w fun e w' => K0 w w' ∧ e = .returned (vs (decI n)) := by
  refine (Tryz.strconv_Itoa n (by omega) h1 w hT).mono ?_
  rintro e w' ⟨rfl, k, os, rfl⟩
  refine ⟨⟨rfl, rfl, rfl, by simp [Go.Sort.grow], fun j hj _ => ?_⟩, ?_⟩
  · simp only [Go.Sort.grow]
    exact Array.getElem?_append_left hj
  · rw [Go.Lib.itoa, if_neg (by omega)]; rfl

theorem decI_max (n : Int) : decI (max n 0) = decI n := by
  unfold decI
  rw [show (max n 0).toNat = n.toNat from by omega]

set_option maxHeartbeats 1000000 in
theorem text (X : Value) (x : Ver) (w : World) (hX : VerAt w X x) (fx : Fit x) (hT : Tb w) (b1 : x.a ≤ 9223372036854775807) (b2 : x.b ≤ 9223372036854775807) (b3 : x.c ≤ 9223372036854775807) : Calls Tryz.prog 37 #[X] w fun e w' => K0 w w' ∧ e = .returned (vs (textV x)) := by
  obtain ⟨p, rfl, hp⟩ := hX
  have l1 := decI_len x.a b1
  have l2 := decI_len x.b b2
  have l3 := decI_len x.c b3
  have lg := glueC_len 46 1000000 x.pre fx.2
  have lf := fx.1
  have lg2 : x.pre.length * (1000000 + 1) ≤ 1000000 * 1000001 := Nat.mul_le_mul lf (Nat.le_refl _)
  have k1 : ([46] : T).length = 1 := rfl
  have k2 : ([45] : T).length = 1 := rfl
  refine H.enter Tryz.func37 Tryz.ntmps37 rfl rfl ?_; dsimp only [H.args]
  repeat' (first | (refine CL.seq ?_) | (refine CL.region ?_))
  refine RW.box rfl rfl (fun w1 hb1 hk1 hlt1 => ?_)
  have hX1 : w1.heap[w.heap.size]? = some (.cells #[.int .i64 x.a, .int .i64 x.b, .int .i64 x.c, p] verT (0, 0)) := hb1
  have hT1 := hT.keep0 hk1
  repeat' (first | (refine CL.seq ?_) | (refine Gt.nil ?_; refine RW.nilw [0, 1, 2, 3, 23] ?_; dsimp only [H.keep, H.look, H.Fr.put, Nat.beq]) | (refine Gt.assign ?_; refine RW.y (Y.assign rfl) rfl ?_))
  refine CL.draw (fun w' => K0 w1 w') (by kernel_rfl) (fun w2 hheap hk2 => ?_)
  have hS : K0 w1 w2 := hk2
  skip
  refine AW.take 0 rfl (by kernel_rfl) (by kernel_rfl) (by kernel_rfl) rfl (by assumption) (fun w hS => Y.fieldAddr rfl (by rfl)) ?_
  refine AW.take 1 rfl (by kernel_rfl) (by kernel_rfl) (by kernel_rfl) rfl (by assumption) (fun w hS => Y.loadB rfl (hS.at0 hX1) rfl) ?_
  refine AW.take 2 rfl (by kernel_rfl) (by kernel_rfl) (by kernel_rfl) rfl (by assumption) (fun w hS => Y.max2 rfl rfl) ?_
  refine AW.take 5 rfl (by kernel_rfl) (by kernel_rfl) (by kernel_rfl) rfl (by assumption) (fun w hS => Y.fieldAddr rfl (by rfl)) ?_
  refine AW.take 6 rfl (by kernel_rfl) (by kernel_rfl) (by kernel_rfl) rfl (by assumption) (fun w hS => Y.loadB rfl (hS.at0 hX1) rfl) ?_
  refine AW.take 7 rfl (by kernel_rfl) (by kernel_rfl) (by kernel_rfl) rfl (by assumption) (fun w hS => Y.max2 rfl rfl) ?_
  refine AW.take 11 rfl (by kernel_rfl) (by kernel_rfl) (by kernel_rfl) rfl (by assumption) (fun w hS => Y.fieldAddr rfl (by rfl)) ?_
  refine AW.take 12 rfl (by kernel_rfl) (by kernel_rfl) (by kernel_rfl) rfl (by assumption) (fun w hS => Y.loadB rfl (hS.at0 hX1) rfl) ?_
  refine AW.take 13 rfl (by kernel_rfl) (by kernel_rfl) (by kernel_rfl) rfl (by assumption) (fun w hS => Y.max2 rfl rfl) ?_
  refine AW.next 3 rfl (by kernel_rfl) ?_
  refine RW.fn rfl rfl ((itoa _ (by omega) (by omega) w2 (hT1.keep0 hk2)).mono ?_)
  rintro e w3 ⟨hk3, rfl⟩
  rw [decI_max]
  refine RW.nil (Nm.then (rebase0 hS hk3 fun hS => ?_))
  have hT3 := (hT1.keep0 hk2).keep0 hk3
  refine AW.take 4 rfl (by kernel_rfl) (by kernel_rfl) (by kernel_rfl) rfl (by assumption) (fun w hS => Y.cat rfl rfl (by omega)) ?_
  refine AW.next 8 rfl (by kernel_rfl) ?_
  refine RW.fn rfl rfl ((itoa _ (by omega) (by omega) w3 hT3).mono ?_)
  rintro e w4 ⟨hk4, rfl⟩
  rw [decI_max]
  refine RW.nil (Nm.then (rebase0 hS hk4 fun hS => ?_))
  have hT4 := hT3.keep0 hk4
  refine AW.take 9 rfl (by kernel_rfl) (by kernel_rfl) (by kernel_rfl) rfl (by assumption) (fun w hS => by exact Y.cat rfl rfl (by (simp only [List.length_append, List.length_cons, List.length_nil]; omega))) ?_
  refine AW.take 10 rfl (by kernel_rfl) (by kernel_rfl) (by kernel_rfl) rfl (by assumption) (fun w hS => by exact Y.cat rfl rfl (by (simp only [List.length_append, List.length_cons, List.length_nil]; omega))) ?_
  refine AW.next 14 rfl (by kernel_rfl) ?_
  refine RW.fn rfl rfl ((itoa _ (by omega) (by omega) w4 hT4).mono ?_)
  rintro e w5 ⟨hk5, rfl⟩
  rw [decI_max]
  refine RW.nil (Nm.then (rebase0 hS hk5 fun hS => ?_))
  refine AW.take 15 rfl (by kernel_rfl) (by kernel_rfl) (by kernel_rfl) rfl (by assumption) (fun w hS => by exact Y.cat rfl rfl (by (simp only [List.length_append, List.length_cons, List.length_nil]; omega))) ?_
  refine AW.take 16 rfl (by kernel_rfl) (by kernel_rfl) (by kernel_rfl) rfl (by assumption) (fun w hS => Y.assign rfl) ?_
  refine AW.donew [1, 2, 3] (by kernel_rfl) ?_
  dsimp only [H.keep, H.look, H.Fr.put, Nat.beq]
  have hK15 : K0 w1 w5 := ((hk2.trans0 hk3).trans0 hk4).trans0 hk5
  have hX5 := hK15.at0 hX1
  have hK5 : K0 w w5 := hk1.trans0 hK15
  have hp5 := hp.keep0 hK5
  repeat' (first | (refine CL.seq ?_) | (refine CL.region ?_) | (refine CL.skip ?_) | (refine CL.condP rfl (fun _ => ?_) (fun _ => ?_) <;> try (exfalso; omega)) | (refine CL.ret ?_) | (refine Gt.nil ?_; refine RW.nilw [0, 1, 2, 3, 23] ?_; dsimp only [H.keep, H.look, H.Fr.put, Nat.beq]) | (refine Gt.fieldAddr ?_; refine RW.y (Y.fieldAddr rfl (by rfl)) rfl ?_) | (refine Gt.load ?_; refine RW.y (Y.loadB rfl (by assumption) rfl) rfl ?_) | (refine Gt.assign ?_; refine RW.y (Y.assign rfl) rfl ?_) | (refine Gt.move ?_; refine RW.y (Y.move rfl) rfl ?_) | (refine Gt.len ?_; (refine RW.y (Y.lenx rfl (by assumption)) rfl ?_)) | (refine Gt.gtr ?_; refine RW.y (Y.gtr rfl rfl) rfl ?_))
  · rename_i h
    have hne : x.pre ≠ [] := List.length_pos_iff.1 (by omega)
    refine RW.fn rfl rfl ((join p x.pre [46] w5 hp5 (by rw [join_glueC]; omega) (by omega)).mono ?_)
    rintro e w6 ⟨rfl, hk6⟩
    rw [join_glueC]
    repeat' (first | (refine CL.seq ?_) | (refine CL.region ?_) | (refine CL.ret ?_) | (refine Gt.nil ?_; refine RW.nilw [0, 1, 2, 3, 23] ?_; dsimp only [H.keep, H.look, H.Fr.put, Nat.beq]) | (refine Gt.add ?_; refine RW.y (Y.cat rfl rfl (by first | omega | (simp only [List.length_append, List.length_cons, List.length_nil]; omega))) rfl ?_) | (refine Gt.assign ?_; refine RW.y (Y.assign rfl) rfl ?_) | (refine Gt.move ?_; refine RW.y (Y.move rfl) rfl ?_))
    refine FQ.one rfl rfl rfl ⟨hK5.trans0 hk6, ?_⟩
    rw [textV, if_neg hne]
    simp only [List.append_assoc]
    rfl
  · rename_i h
    have hne : x.pre = [] := List.length_eq_zero_iff.1 (by omega)
    refine FQ.one rfl rfl rfl ⟨hK5, ?_⟩
    rw [textV, if_pos hne, List.append_nil]

theorem dig_cut (n : Int) (h0 : 0 ≤ n) (h1 : n < 10) : ((([48, 49, 50, 51, 52, 53, 54, 55, 56, 57] : T).take (n + 1).toNat).drop n.toNat) = [UInt8.ofNat (48 + n.toNat)] := by
  obtain ⟨k, rfl⟩ : ∃ k : Nat, n = k := ⟨n.toNat, by omega⟩
  have h2 : ((k : Int) + 1).toNat = k + 1 := by omega
  rw [h2, Int.toNat_natCast]
  have : k = 0 ∨ k = 1 ∨ k = 2 ∨ k = 3 ∨ k = 4 ∨ k = 5 ∨ k = 6 ∨ k = 7 ∨ k = 8 ∨ k = 9 := by omega
  rcases this with rfl | rfl | rfl | rfl | rfl | rfl | rfl | rfl | rfl | rfl <;> rfl

theorem refDecSmall (n : Int) (h10 : n < 10) (w : World) : Calls Tryz.prog 17 #[.int .i64 n] w fun e w' => K0 w w' ∧ e = .returned (vs (decI n)) := by
  refine H.enter Tryz.func17 Tryz.ntmps17 rfl rfl ?_; dsimp only [H.args]
  repeat' (first | (refine CL.seq ?_) | (refine CL.region ?_) | (refine CL.condP rfl (fun _ => ?_) (fun _ => ?_) <;> try (exfalso; omega)) | (refine Gt.nil ?_; refine RW.nilw [0, 2, 4] ?_; dsimp only [H.keep, H.look, H.Fr.put, Nat.beq]) | (refine Gt.move ?_; refine RW.y (Y.move rfl) rfl ?_) | (refine Gt.assign ?_; refine RW.y (Y.assign rfl) rfl ?_) | (refine Gt.add ?_; (refine RW.y (Y.add64 rfl rfl (by omega) (by omega)) rfl ?_)) | (refine Gt.lss ?_; refine RW.y (Y.lss rfl rfl) rfl ?_) | (refine Gt.call ?_; refine RW.y (Y.max2 rfl rfl) rfl ?_))
  refine RW.y (Y.cutlh (l := [48, 49, 50, 51, 52, 53, 54, 55, 56, 57]) rfl rfl rfl (by omega) (by omega) (show (_ : Int) ≤ ((10 : Nat) : Int) from by omega)) rfl ?_
  repeat' (first | (refine CL.ret ?_) | (refine Gt.nil ?_; refine RW.nilw [0, 2, 4] ?_; dsimp only [H.keep, H.look, H.Fr.put, Nat.beq]) | (refine Gt.assign ?_; refine RW.y (Y.assign rfl) rfl ?_))
  refine FQ.one rfl rfl rfl ⟨Kept.refl _ _, ?_⟩
  rw [dig_cut _ (by omega) (by omega), decI, Go.Lib.decDigits, dif_pos (by omega), show (max n 0).toNat = n.toNat from by omega]

set_option maxHeartbeats 400000 in
theorem refDec : ∀ (m : Nat) (n : Int), n.toNat ≤ m → n ≤ 9223372036854775807 → ∀ (w : World), Calls Tryz.prog 17 #[.int .i64 n] w fun e w' => K0 w w' ∧ e = .returned (vs (decI n)) := by
  intro m
  induction m with
  | zero => exact fun n hm _ w => refDecSmall n (by omega) w
  | succ m ih =>
    intro n hm h1 w
    by_cases h10 : n < 10
    · exact refDecSmall n h10 w
    have hl := decI_len (n / 10) (by omega)
    refine H.enter Tryz.func17 Tryz.ntmps17 rfl rfl ?_; dsimp only [H.args]
    repeat' (first | (refine CL.seq ?_) | (refine CL.region ?_) | (refine CL.skip ?_) | (refine CL.condP rfl (fun _ => ?_) (fun _ => ?_) <;> try (exfalso; omega)) | (refine Gt.nil ?_; refine RW.nilw [0, 2, 4] ?_; dsimp only [H.keep, H.look, H.Fr.put, Nat.beq]) | (refine Gt.move ?_; refine RW.y (Y.move rfl) rfl ?_) | (refine Gt.assign ?_; refine RW.y (Y.assign rfl) rfl ?_) | (refine Gt.lss ?_; refine RW.y (Y.lss rfl rfl) rfl ?_))
    refine CL.draw (fun w' => K0 w w') (by kernel_rfl) (fun w1 hheap hk1 => ?_)
    have hS : K0 w w1 := hk1
    skip
    refine AW.take 0 rfl (by kernel_rfl) (by kernel_rfl) (by kernel_rfl) rfl (by assumption) (fun w hS => Y.move rfl) ?_
    refine AW.take 1 rfl (by kernel_rfl) (by kernel_rfl) (by kernel_rfl) rfl (by assumption) (fun w hS => Y.quoP rfl rfl (by omega) (by omega) (by exact wrap64_id (by omega) (by omega))) ?_
    refine AW.take 3 rfl (by kernel_rfl) (by kernel_rfl) (by kernel_rfl) rfl (by assumption) (fun w hS => Y.move rfl) ?_
    refine AW.take 4 rfl (by kernel_rfl) (by kernel_rfl) (by kernel_rfl) rfl (by assumption) (fun w hS => by exact Y.remP rfl rfl (by omega) (by omega)) ?_
    refine AW.take 5 rfl (by kernel_rfl) (by kernel_rfl) (by kernel_rfl) rfl (by assumption) (fun w hS => Y.move rfl) ?_
    refine AW.take 6 rfl (by kernel_rfl) (by kernel_rfl) (by kernel_rfl) rfl (by assumption) (fun w hS => by exact Y.remP rfl rfl (by omega) (by omega)) ?_
    refine AW.take 7 rfl (by kernel_rfl) (by kernel_rfl) (by kernel_rfl) rfl (by assumption) (fun w hS => by exact Y.add64 rfl rfl (by omega) (by omega)) ?_
    refine AW.take 8 rfl (by kernel_rfl) (by kernel_rfl) (by kernel_rfl) rfl (by assumption) (fun w hS => Y.cutlh (l := [48, 49, 50, 51, 52, 53, 54, 55, 56, 57]) rfl rfl rfl (by omega) (by omega) (show (_ : Int) ≤ ((10 : Nat) : Int) from by omega)) ?_
    refine AW.next 2 rfl (by kernel_rfl) ?_
    refine RW.fn rfl rfl ((ih (n / 10) (by omega) (by omega) w1).mono ?_)
    rintro e w2 ⟨hk2, rfl⟩
    refine RW.nil (Nm.then (rebase0 hS hk2 fun hS => ?_))
    rw [dig_cut _ (by omega) (by omega)]
    have k1 : ∀ c : UInt8, ([c] : T).length = 1 := fun _ => rfl
    refine AW.take 9 rfl (by kernel_rfl) (by kernel_rfl) (by kernel_rfl) rfl (by assumption) (fun w hS => Y.cat rfl rfl (by rw [k1]; omega)) ?_
    refine AW.take 10 rfl (by kernel_rfl) (by kernel_rfl) (by kernel_rfl) rfl (by assumption) (fun w hS => Y.assign rfl) ?_
    refine AW.donew [2] (by kernel_rfl) ?_
    dsimp only [H.keep, H.look, H.Fr.put, Nat.beq]
    repeat' ((refine CL.ret ?_))
    refine FQ.one rfl rfl rfl ⟨hk1.trans0 hk2, ?_⟩
    conv => rhs; rw [decI, Go.Lib.decDigits, dif_neg (by omega)]
    rw [decI, show (n / 10).toNat = n.toNat / 10 from by omega, show (n % 10).toNat = n.toNat % 10 from by omega]

theorem dec (n : Int) (h1 : n ≤ 9223372036854775807) (w : World) : Calls Tryz.prog 17 #[.int .i64 n] w fun e w' => K0 w w' ∧ e = .returned (vs (decI n)) := refDec n.toNat n (Nat.le_refl _) h1 w

def markT (l : List T) : T := if l = [] then [] else 45 :: glueC 46 l
theorem markT_snoc (l : List T) (x : T) : markT (l ++ [x]) = if l = [] then 45 :: x else markT l ++ [46] ++ x := by
  unfold markT
  rw [if_neg (by simp), glueC_snoc]
  by_cases h : l = []
  · simp [h]
  · simp [h]

set_option maxHeartbeats 1000000 in
theorem refVText (X : Value) (x : Ver) (w : World) (hX : VerAt w X x) (fx : Fit x) (b1 : x.a ≤ 9223372036854775807) (b2 : x.b ≤ 9223372036854775807) (b3 : x.c ≤ 9223372036854775807) : Calls Tryz.prog 40 #[X] w fun e w' => K0 w w' ∧ e = .returned (vs (textV x)) := by
  obtain ⟨p, rfl, hp⟩ := hX
  have l1 := decI_len x.a b1
  have l2 := decI_len x.b b2
  have l3 := decI_len x.c b3
  have lf := fx.1
  have k1 : ([46] : T).length = 1 := rfl
  have k2 : ([45] : T).length = 1 := rfl
  refine H.enter Tryz.func40 Tryz.ntmps40 rfl rfl ?_; dsimp only [H.args]
  repeat' (first | (refine CL.seq ?_) | (refine CL.region ?_))
  refine RW.box rfl rfl (fun w1 hb1 hk1 hlt1 => ?_)
  have hX1 : w1.heap[w.heap.size]? = some (.cells #[.int .i64 x.a, .int .i64 x.b, .int .i64 x.c, p] verT (0, 0)) := hb1
  repeat' (first | (refine CL.seq ?_) | (refine Gt.nil ?_; refine RW.nilw [0, 1, 2, 3, 4, 22, 26] ?_; dsimp only [H.keep, H.look, H.Fr.put, Nat.beq]) | (refine Gt.assign ?_; refine RW.y (Y.assign rfl) rfl ?_))
  refine CL.draw (fun w' => K0 w1 w') (by kernel_rfl) (fun w2 hheap hk2 => ?_)
  have hS : K0 w1 w2 := hk2
  skip
  refine AW.take 0 rfl (by kernel_rfl) (by kernel_rfl) (by kernel_rfl) rfl (by assumption) (fun w hS => Y.fieldAddr rfl (by rfl)) ?_
  refine AW.take 1 rfl (by kernel_rfl) (by kernel_rfl) (by kernel_rfl) rfl (by assumption) (fun w hS => Y.loadB rfl (hS.at0 hX1) rfl) ?_
  refine AW.take 4 rfl (by kernel_rfl) (by kernel_rfl) (by kernel_rfl) rfl (by assumption) (fun w hS => Y.fieldAddr rfl (by rfl)) ?_
  refine AW.take 5 rfl (by kernel_rfl) (by kernel_rfl) (by kernel_rfl) rfl (by assumption) (fun w hS => Y.loadB rfl (hS.at0 hX1) rfl) ?_
  refine AW.take 9 rfl (by kernel_rfl) (by kernel_rfl) (by kernel_rfl) rfl (by assumption) (fun w hS => Y.fieldAddr rfl (by rfl)) ?_
  refine AW.take 10 rfl (by kernel_rfl) (by kernel_rfl) (by kernel_rfl) rfl (by assumption) (fun w hS => Y.loadB rfl (hS.at0 hX1) rfl) ?_
  refine AW.next 2 rfl (by kernel_rfl) ?_
  refine RW.fn rfl rfl ((dec _ (by omega) w2).mono ?_)
  rintro e w3 ⟨hk3, rfl⟩
  refine RW.nil (Nm.then (rebase0 hS hk3 fun hS => ?_))
  refine AW.take 3 rfl (by kernel_rfl) (by kernel_rfl) (by kernel_rfl) rfl (by assumption) (fun w hS => by exact Y.cat rfl rfl (by omega)) ?_
  refine AW.next 6 rfl (by kernel_rfl) ?_
  refine RW.fn rfl rfl ((dec _ (by omega) w3).mono ?_)
  rintro e w4 ⟨hk4, rfl⟩
  refine RW.nil (Nm.then (rebase0 hS hk4 fun hS => ?_))
  refine AW.take 7 rfl (by kernel_rfl) (by kernel_rfl) (by kernel_rfl) rfl (by assumption) (fun w hS => by exact Y.cat rfl rfl (by (simp only [List.length_append, List.length_cons, List.length_nil]; omega))) ?_
  refine AW.take 8 rfl (by kernel_rfl) (by kernel_rfl) (by kernel_rfl) rfl (by assumption) (fun w hS => by exact Y.cat rfl rfl (by (simp only [List.length_append, List.length_cons, List.length_nil]; omega))) ?_
  refine AW.next 11 rfl (by kernel_rfl) ?_
  refine RW.fn rfl rfl ((dec _ (by omega) w4).mono ?_)
  rintro e w5 ⟨hk5, rfl⟩
  refine RW.nil (Nm.then (rebase0 hS hk5 fun hS => ?_))
  refine AW.take 12 rfl (by kernel_rfl) (by kernel_rfl) (by kernel_rfl) rfl (by assumption) (fun w hS => by exact Y.cat rfl rfl (by (simp only [List.length_append, List.length_cons, List.length_nil]; omega))) ?_
  refine AW.take 13 rfl (by kernel_rfl) (by kernel_rfl) (by kernel_rfl) rfl (by assumption) (fun w hS => Y.assign rfl) ?_
  refine AW.donew [1, 2, 3] (by kernel_rfl) ?_
  dsimp only [H.keep, H.look, H.Fr.put, Nat.beq]
  have hK15 : K0 w1 w5 := ((hk2.trans0 hk3).trans0 hk4).trans0 hk5
  have hX5 := hK15.at0 hX1
  have hK5 : K0 w w5 := hk1.trans0 hK15
  have hp5 := hp.keep0 hK5
  have hbl : (decI x.a ++ [46] ++ decI x.b ++ [46] ++ decI x.c).length ≤ 100 := by simp only [List.length_append]; omega
  have htx : textV x = decI x.a ++ [46] ++ decI x.b ++ [46] ++ decI x.c ++ markT x.pre := rfl
  rw [htx]
  generalize decI x.a ++ [46] ++ decI x.b ++ [46] ++ decI x.c = base at *
  repeat' (first | (refine CL.seq ?_) | (refine CL.region ?_) | (refine CL.block ?_) | (refine Gt.nil ?_; refine RW.nilw [0, 1, 2, 3, 4, 22, 26] ?_; dsimp only [H.keep, H.look, H.Fr.put, Nat.beq]) | (refine Gt.assign ?_; refine RW.y (Y.assign rfl) rfl ?_))
  refine CL.loopS [1, 3, 4] (fun k vals wr => ∃ (i : Nat), vals = [.pointer (some ⟨w.heap.size, 0, none⟩), vs (base ++ markT (x.pre.take i)), .int .i64 (i : Int)] ∧ k = x.pre.length - i ∧ i ≤ x.pre.length ∧ (markT (x.pre.take i)).length ≤ i * 1000001 ∧ wr = w5) x.pre.length ⟨_, rfl, 0, by simp [markT], rfl, Nat.zero_le _, by simp [markT], rfl⟩ ?_
  rintro k vals wr ⟨i, rfl, rfl, hi, hml, rfl⟩
  dsimp only [List.zip, List.zipWith]
  have hi2 : ((i : Int)).toNat = i := Int.toNat_natCast i
  rcases Nat.lt_or_ge i x.pre.length with hlt | hge
  · have hsn := markT_snoc (x.pre.take i) (x.pre.getD i [])
    rw [← take_snoc [] x.pre i hlt] at hsn
    have hb := fx.2 _ (getD_mem [] hlt)
    have hu : (x.pre.getD ((i : Int)).toNat []).length ≤ 1000000 := by rw [hi2]; exact hb
    rcases Nat.eq_zero_or_pos i with h0 | h0
    · subst h0
      rw [if_pos (by simp)] at hsn
      repeat' (first | (refine CL.seq ?_) | (refine CL.region ?_) | (refine CL.skip ?_) | (refine CL.condP rfl (fun _ => ?_) (fun _ => ?_) <;> try (exfalso; omega)) | (refine CL.block ?_) | (refine CL.done ?_) | (refine Nm.block ?_) | (refine Nm.then ?_) | (refine Gt.nil ?_; refine RW.nilw [0, 1, 2, 3, 4, 22, 26] ?_; dsimp only [H.keep, H.look, H.Fr.put, Nat.beq]) | (refine Gt.assign ?_; refine RW.y (Y.assign rfl) rfl ?_) | (refine Gt.move ?_; refine RW.y (Y.move rfl) rfl ?_) | (refine Gt.add ?_; first | (refine RW.y (Y.cat rfl rfl (by (simp only [List.length_append, List.length_cons, List.length_nil]; omega))) rfl ?_) | (refine RW.y (Y.add64 rfl rfl (by omega) (by omega)) rfl ?_)) | (refine Gt.load ?_; refine RW.y (Y.loadB rfl (by assumption) rfl) rfl ?_) | (refine Gt.fieldAddr ?_; refine RW.y (Y.fieldAddr rfl (by rfl)) rfl ?_) | (refine Gt.len ?_; (refine RW.y (Y.lenx rfl (by assumption)) rfl ?_)) | (refine Gt.lss ?_; refine RW.y (Y.lss rfl rfl) rfl ?_) | (refine Gt.eql ?_; refine RW.y (Y.eqi rfl rfl) rfl ?_) | (refine Gt.idx ?_; refine RW.elemS rfl rfl rfl rfl (by assumption) (by omega) (by omega) ?_))
      refine ⟨x.pre.length - (0 + 1), _, rfl, rfl, rfl, by omega, 0 + 1, ?_, rfl, by omega, by rw [hsn, List.length_cons]; omega, rfl⟩
      rw [hsn]
      simp [markT]
    · have hne : x.pre.take i ≠ [] := fun h => by have := congrArg List.length h; rw [List.length_take] at this; simp only [List.length_nil] at this; omega
      rw [if_neg hne] at hsn
      repeat' (first | (refine CL.seq ?_) | (refine CL.region ?_) | (refine CL.skip ?_) | (refine CL.condP rfl (fun _ => ?_) (fun _ => ?_) <;> try (exfalso; omega)) | (refine CL.block ?_) | (refine CL.done ?_) | (refine Nm.block ?_) | (refine Nm.then ?_) | (refine Gt.nil ?_; refine RW.nilw [0, 1, 2, 3, 4, 22, 26] ?_; dsimp only [H.keep, H.look, H.Fr.put, Nat.beq]) | (refine Gt.assign ?_; refine RW.y (Y.assign rfl) rfl ?_) | (refine Gt.move ?_; refine RW.y (Y.move rfl) rfl ?_) | (refine Gt.add ?_; first | (refine RW.y (Y.cat rfl rfl (by (simp only [List.length_append, List.length_cons, List.length_nil]; omega))) rfl ?_) | (refine RW.y (Y.add64 rfl rfl (by omega) (by omega)) rfl ?_)) | (refine Gt.load ?_; refine RW.y (Y.loadB rfl (by assumption) rfl) rfl ?_) | (refine Gt.fieldAddr ?_; refine RW.y (Y.fieldAddr rfl (by rfl)) rfl ?_) | (refine Gt.len ?_; (refine RW.y (Y.lenx rfl (by assumption)) rfl ?_)) | (refine Gt.lss ?_; refine RW.y (Y.lss rfl rfl) rfl ?_) | (refine Gt.eql ?_; refine RW.y (Y.eqi rfl rfl) rfl ?_) | (refine Gt.idx ?_; refine RW.elemS rfl rfl rfl rfl (by assumption) (by omega) (by omega) ?_))
      refine ⟨x.pre.length - (i + 1), _, rfl, rfl, rfl, by omega, i + 1, ?_, rfl, by omega, by rw [hsn]; simp only [List.length_append]; omega, rfl⟩
      rw [hsn, hi2]
      simp
  · have hi : i = x.pre.length := by omega
    subst hi
    rw [List.take_length]
    repeat' (first | (refine CL.seq ?_) | (refine CL.region ?_) | (refine CL.condP rfl (fun _ => ?_) (fun _ => ?_) <;> try (exfalso; omega)) | (refine CL.exit ?_) | (refine Ex.then ?_) | (refine Ex.hit ?_) | (refine CL.ret ?_) | (refine Gt.nil ?_; refine RW.nilw [0, 1, 2, 3, 4, 22, 26] ?_; dsimp only [H.keep, H.look, H.Fr.put, Nat.beq]) | (refine Gt.assign ?_; refine RW.y (Y.assign rfl) rfl ?_) | (refine Gt.move ?_; refine RW.y (Y.move rfl) rfl ?_) | (refine Gt.load ?_; refine RW.y (Y.loadB rfl (by assumption) rfl) rfl ?_) | (refine Gt.fieldAddr ?_; refine RW.y (Y.fieldAddr rfl (by rfl)) rfl ?_) | (refine Gt.len ?_; (refine RW.y (Y.lenx rfl (by assumption)) rfl ?_)) | (refine Gt.lss ?_; refine RW.y (Y.lss rfl rfl) rfl ?_))
    exact FQ.one rfl rfl rfl ⟨hK5, rfl⟩
end Go.Proofs.YtjlkmdmpejpmpaaGreatDoor.Ve

namespace Go.Proofs.YtjlkmdmpejpmpaaGreatDoor.Ve
open S

theorem glueC_split (c : UInt8) : ∀ (x : T), glueC c (splitB c x) = x := by
  intro x
  induction x with
  | nil => rfl
  | cons a r ih =>
    have hne := splitB_ne c r
    by_cases h : a = c
    · rw [splitB, if_pos h]
      cases hs : splitB c r with
      | nil => exact absurd hs hne
      | cons b m => rw [hs] at ih; rw [glueC, ih, h]; rfl
    · rw [splitB, if_neg h]
      cases hs : splitB c r with
      | nil => exact absurd hs hne
      | cons b m =>
        rw [hs] at ih
        cases m with
        | nil => simpa [glueC] using ih
        | cons d m => simp only [List.headD_cons, List.tail_cons, glueC, List.cons_append] at ih ⊢; rw [ih]

theorem cut_glue (c : UInt8) (l : T) : l = (cutB c l).1 ++ (if (cutB c l).2.2 = true then c :: (cutB c l).2.1 else []) := by
  by_cases h : c ∈ l
  · obtain ⟨i, hi, hn, he⟩ : ∃ i, i < l.length ∧ c ∉ l.take i ∧ l.getD i 0 = c := by
      induction l with
      | nil => simp at h
      | cons a r ih =>
        by_cases ha : a = c
        · exact ⟨0, by simp, by simp, by simp [ha]⟩
        · have ha' : ¬ c = a := fun q => ha q.symm
          obtain ⟨i, h1, h2, h3⟩ := ih (by simpa [ha'] using h)
          exact ⟨i + 1, by simpa using h1, by simpa [ha'] using h2, by simpa using h3⟩
    rw [cut_some c l i hi hn he, if_pos rfl]
    have hd : l.drop i = c :: l.drop (i + 1) := by
      rw [List.drop_eq_getElem_cons hi]
      rw [List.getD_eq_getElem?_getD, List.getElem?_eq_getElem hi] at he
      simp only [Option.getD_some] at he
      rw [he]
    rw [← hd, List.take_append_drop]
  · rw [cut_none c l h]; simp

theorem ofNat_dig {c : UInt8} (h : isDig c = true) : UInt8.ofNat (48 + (c.toNat - 48)) = c := by
  simp only [isDig, Bool.and_eq_true, decide_eq_true_eq] at h
  rw [show 48 + (c.toNat - 48) = c.toNat from by omega]
  simp
theorem dec_val : ∀ (n : Nat) (l : T), l.length = n + 1 → l.all isDig = true → (n = 0 ∨ l.getD 0 0 ≠ 48) → Go.Lib.decDigits (val l) = l := by
  intro n
  induction n with
  | zero =>
    intro l h ha _
    match l, h with
    | [c], _ =>
      simp only [List.all_cons, List.all_nil, Bool.and_true] at ha
      have ho := ofNat_dig ha
      simp only [isDig, Bool.and_eq_true, decide_eq_true_eq] at ha
      have hv : val [c] = c.toNat - 48 := by simp [val]
      rw [hv, Go.Lib.decDigits, dif_pos (by omega), ho]
  | succ n ih =>
    intro l h ha h0
    have h0 : l.getD 0 0 ≠ 48 := by rcases h0 with h0 | h0; { omega }; exact h0
    have hne : l ≠ [] := by rintro rfl; simp at h
    have hd : l.dropLast.getD 0 0 = l.getD 0 0 := by
      match l, h with
      | a :: b :: r, _ => rfl
    have hl := List.dropLast_concat_getLast hne
    rw [← hl] at ha
    rw [List.all_append, Bool.and_eq_true] at ha
    have hlen : l.dropLast.length = n + 1 := by simp; omega
    have h1 := ih l.dropLast hlen ha.1 (.inr (by rw [hd]; exact h0))
    have hg := val_ge n l.dropLast hlen ha.1 (by rw [hd]; exact h0)
    have hp : 1 ≤ 10 ^ n := Nat.one_le_pow n 10 (by decide)
    have hc := ha.2
    simp only [List.all_cons, List.all_nil, Bool.and_true] at hc
    have ho := ofNat_dig hc
    simp only [isDig, Bool.and_eq_true, decide_eq_true_eq] at hc
    conv => lhs; rw [← hl, val_snoc]
    rw [Go.Lib.decDigits, dif_neg (by omega), show (10 * val l.dropLast + ((l.getLast hne).toNat - 48)) / 10 = val l.dropLast from by omega, show (10 * val l.dropLast + ((l.getLast hne).toNat - 48)) % 10 = (l.getLast hne).toNat - 48 from by omega, h1, ho, hl]
theorem num_dec {l : T} (h : numB l = true) : decI (val l : Int) = l := by
  simp only [numB, plainB, digB, Bool.and_eq_true, Bool.or_eq_true, decide_eq_true_eq] at h
  obtain ⟨⟨⟨h1, h2⟩, h3⟩, h4⟩ := h
  have := List.length_pos_iff.2 h1
  rw [decI, Int.toNat_natCast]
  exact dec_val (l.length - 1) l (by omega) h2 (by rcases h4 with h | h; { left; omega }; exact .inr h)

/-- What is read is told as it was. -/
theorem parse_text {s : T} {v : Ver} (h : parseV (cutB 45 s) = some v) : textV v = s := by
  have hs := cut_glue 45 s
  rcases hc : cutB 45 s with ⟨three, pre, has⟩
  rw [hc] at h hs
  simp only [parseV] at h
  have h3 : (splitB 46 three).length = 3 := Decidable.byContradiction fun c => by rw [parseL_ne c] at h; cases h
  obtain ⟨x, y, z, he⟩ := len3 h3
  have hg := glueC_split 46 three
  rw [he] at h hg
  simp only [parseL] at h
  split at h
  · rename_i hn
    simp only [Bool.and_eq_true] at hn
    obtain ⟨⟨n1, n2⟩, n3⟩ := hn
    have hg2 : three = x ++ [46] ++ y ++ [46] ++ z := by rw [← hg]; simp [glueC]
    cases has with
    | false =>
      simp only [Bool.false_eq_true, if_false, Option.some.injEq] at h
      subst h
      simp only [Bool.false_eq_true, if_false, List.append_nil] at hs
      rw [textV]
      simp only [num_dec n1, num_dec n2, num_dec n3, if_true, List.append_nil]
      rw [hs, hg2]
    | true =>
      simp only [if_true] at h hs
      split at h
      · simp only [Option.some.injEq] at h
        subst h
        rw [textV]
        simp only [num_dec n1, num_dec n2, num_dec n3]
        rw [if_neg (splitB_ne 46 pre), glueC_split, hs, hg2]
      · cases h
  · cases h
/-- The parts of what is read. -/
theorem parse_parts {s : T} {v : Ver} (h : parseV (cutB 45 s) = some v) : v.pre.length ≤ 5 ∧ v.pre.all markB = true ∧ (0 ≤ v.a ∧ v.a ≤ 999999999) ∧ (0 ≤ v.b ∧ v.b ≤ 999999999) ∧ (0 ≤ v.c ∧ v.c ≤ 999999999) := by
  rcases hc : cutB 45 s with ⟨three, pre, has⟩
  rw [hc] at h
  simp only [parseV] at h
  have h3 : (splitB 46 three).length = 3 := Decidable.byContradiction fun c => by rw [parseL_ne c] at h; cases h
  obtain ⟨x, y, z, he⟩ := len3 h3
  rw [he] at h
  simp only [parseL] at h
  split at h
  · rename_i hn
    simp only [Bool.and_eq_true] at hn
    obtain ⟨⟨n1, n2⟩, n3⟩ := hn
    have b1 := ((num_ref x).2 n1).2.2.2
    have b2 := ((num_ref y).2 n2).2.2.2
    have b3 := ((num_ref z).2 n3).2.2.2
    cases has with
    | false =>
      simp only [Bool.false_eq_true, if_false, Option.some.injEq] at h
      subst h
      exact ⟨by simp, rfl, by simp only; omega, by simp only; omega, by simp only; omega⟩
    | true =>
      simp only [if_true] at h
      split at h
      · rename_i hm
        simp only [Option.some.injEq] at h
        subst h
        exact ⟨hm.1, hm.2, by simp only; omega, by simp only; omega, by simp only; omega⟩
      · cases h
  · cases h
theorem mark_len {l : T} (h : markB l = true) : l ≠ [] ∧ l.length ≤ 16 := by rw [mark_iff] at h; exact ⟨h.1.1, h.1.2.1⟩
theorem parse_fit (s : T) : Fit (verR (parseV (cutB 45 s))).1 := by
  cases h : parseV (cutB 45 s) with
  | none => exact ⟨by simp [verR], by simp [verR]⟩
  | some v =>
    obtain ⟨h1, h2, _⟩ := parse_parts h
    refine ⟨by simp only [verR]; omega, fun x hx => ?_⟩
    have := mark_len (List.all_eq_true.1 h2 x hx)
    omega
end Go.Proofs.YtjlkmdmpejpmpaaGreatDoor.Ve

namespace Go.Proofs.YtjlkmdmpejpmpaaGreatDoor.Lk
open Go.Proofs.YtjlkmdmpejpmpaaGreatDoor.S Go.Proofs.YtjlkmdmpejpmpaaGreatDoor.Ve Go.Proofs.YtjlkmdmpejpmpaaGreatDoor.Sp
/-- A pin: a name, a version, the bytes of a sum. -/
structure Pn where
  name : T
  v : Ver
  sum : T
instance : Inhabited Pn := ⟨⟨[], default, []⟩⟩
def smallB (c : UInt8) : Bool := decide (97 ≤ c.toNat) && decide (c.toNat ≤ 122)
def nameC (c : UInt8) : Bool := smallB c || isDig c || decide (c.toNat = 45)
def nameB (s : T) : Bool := decide (1 ≤ s.length) && decide (s.length ≤ 32) && smallB (s.getD 0 0) && s.all nameC
def hexD (n : Nat) : UInt8 := UInt8.ofNat (if n < 10 then 48 + n else 87 + n)
def hexB (l : T) : T := l.flatMap fun b => [hexD (b.toNat / 16), hexD (b.toNat % 16)]
def isHex (c : UInt8) : Bool := isDig c || (decide (97 ≤ c.toNat) && decide (c.toNat ≤ 102))
def hexV (c : UInt8) : Nat := if c.toNat ≤ 57 then c.toNat - 48 else c.toNat - 87
def pairB : T → T
  | a :: b :: r => UInt8.ofNat (16 * hexV a + hexV b) :: pairB r
  | _ => []
def unhexB (s : T) : Option T := if s.length = 64 ∧ s.all isHex = true then some (pairB s) else none
/-- A line read. -/
def pinB (x : T) : Option Pn := match splitB 32 x with
  | [a, b, c] => if nameB a = true then (match parseV (cutB 45 b), unhexB c with
    | some v, some k => some ⟨a, v, k⟩
    | _, _ => none) else none
  | _ => none
def lastName (acc : List Pn) : T := (acc.getLastD default).name
def rdPins : List T → List Pn → Nat → List Pn × Int × Int
  | [], acc, _ => (acc, 0, 0)
  | x :: r, acc, n => match pinB x with
    | none => ([], (n : Int), 63)
    | some p => if acc.length < 200 ∧ (acc = [] ∨ Op.bytesLess (lastName acc) p.name = true) then rdPins r (acc ++ [p]) (n + 1) else ([], (n : Int), 63)
def headL : T := [108, 111, 99, 107, 32, 49]
/-- A lockfile read. -/
def lockB (s : T) : List Pn × Int × Int :=
  if s.length ≤ 65536 ∧ s.getLastD 0 = 10 ∧ (splitB 10 s.dropLast).headD [] = headL then rdPins (splitB 10 s.dropLast).tail [] 2 else ([], 0, 63)
def pinT (p : Pn) : T := p.name ++ [32] ++ textV p.v ++ [32] ++ hexB p.sum ++ [10]
/-- A pin put in, behind those whose names are not greater. -/
def insP (p : Pn) : List Pn → List Pn
  | [] => [p]
  | q :: r => if Op.bytesLess p.name q.name = true then p :: q :: r else q :: insP p r
def sortP (l : List Pn) : List Pn := l.foldl (fun acc p => insP p acc) []
def lockT (l : List Pn) : T := headL ++ [10] ++ (sortP l).flatMap pinT
end Go.Proofs.YtjlkmdmpejpmpaaGreatDoor.Lk

namespace Go.Proofs.YtjlkmdmpejpmpaaGreatDoor.Lk
open Go.Proofs.YtjlkmdmpejpmpaaGreatDoor.S Go.Proofs.YtjlkmdmpejpmpaaGreatDoor.Ve Go.Proofs.YtjlkmdmpejpmpaaGreatDoor.Sp
open Go
abbrev ltT (a b : T) : Bool := Op.bytesLess a b
/-- Names in their order, none twice. -/
def Asc (l : List Pn) : Prop := l.Pairwise fun a b => ltT a.name b.name = true
/-- Names in their order. -/
def Srt (l : List Pn) : Prop := l.Pairwise fun a b => ltT b.name a.name = false
end Go.Proofs.YtjlkmdmpejpmpaaGreatDoor.Lk

namespace Go.Proofs.YtjlkmdmpejpmpaaGreatDoor.Ve
open Go.RowKit H S

theorem ofNat_toNat {k : Nat} (h : k < 10) : (UInt8.ofNat (48 + k)).toNat = 48 + k := by
  simp; omega
theorem dec_spec : ∀ (m u : Nat), u ≤ m → (Go.Lib.decDigits u).all isDig = true ∧ Go.Lib.decDigits u ≠ [] ∧ val (Go.Lib.decDigits u) = u ∧ (u ≠ 0 → (Go.Lib.decDigits u).getD 0 0 ≠ 48) := by
  have one : ∀ u, u < 10 → ([UInt8.ofNat (48 + u)] : T).all isDig = true ∧ ([UInt8.ofNat (48 + u)] : T) ≠ [] ∧ val [UInt8.ofNat (48 + u)] = u ∧ (u ≠ 0 → ([UInt8.ofNat (48 + u)] : T).getD 0 0 ≠ 48) := by
    intro u h
    have e := ofNat_toNat h
    refine ⟨?_, by simp, by simp only [val, List.foldl_cons, List.foldl_nil]; omega, fun h0 c => ?_⟩
    · simp only [List.all_cons, List.all_nil, Bool.and_true, isDig, Bool.and_eq_true, decide_eq_true_eq]; omega
    · have c' : UInt8.ofNat (48 + u) = 48 := c
      rw [c'] at e
      have : (48 : UInt8).toNat = 48 := rfl
      omega
  intro m
  induction m with
  | zero => intro u h; rw [Go.Lib.decDigits, dif_pos (by omega)]; exact one u (by omega)
  | succ m ih =>
    intro u h
    rw [Go.Lib.decDigits]
    by_cases h10 : u < 10
    · rw [dif_pos h10]; exact one u h10
    · rw [dif_neg h10]
      obtain ⟨i1, i2, i3, i4⟩ := ih (u / 10) (by omega)
      obtain ⟨o1, o2, o3, _⟩ := one (u % 10) (by omega)
      have e := ofNat_toNat (show u % 10 < 10 by omega)
      refine ⟨by rw [List.all_append, i1, o1]; rfl, by simp, by rw [val_snoc, i3]; omega, fun _ => ?_⟩
      have := i4 (by omega)
      cases hd : Go.Lib.decDigits (u / 10) with
      | nil => exact absurd hd i2
      | cons c r => rw [hd] at this; exact this
theorem decI_no (x : Int) (c : UInt8) (hc : isDig c = false) : c ∉ decI x := by
  intro h
  have := List.all_eq_true.1 (dec_spec x.toNat x.toNat (Nat.le_refl _)).1 c h
  rw [hc] at this; cases this

def numT (x y z : Int) : T := decI x ++ [46] ++ decI y ++ [46] ++ decI z
end Go.Proofs.YtjlkmdmpejpmpaaGreatDoor.Ve

namespace Go.Proofs.YtjlkmdmpejpmpaaGreatDoor.Lk
open Go.Proofs.YtjlkmdmpejpmpaaGreatDoor.S Go.Proofs.YtjlkmdmpejpmpaaGreatDoor.Ve Go.Proofs.YtjlkmdmpejpmpaaGreatDoor.Sp
open Go
theorem glueC_mem (c d : UInt8) : ∀ l : List T, d ∈ glueC c l → d = c ∨ ∃ x ∈ l, d ∈ x
  | [], h => by simp [glueC] at h
  | [a], h => .inr ⟨a, by simp, by simpa [glueC] using h⟩
  | a :: b :: r, h => by
    have h' : d ∈ a ++ c :: glueC c (b :: r) := h
    rcases List.mem_append.1 h' with h1 | h1
    · exact .inr ⟨a, by simp, h1⟩
    · rcases List.mem_cons.1 h1 with h | h
      · exact .inl h
      · rcases glueC_mem c d (b :: r) h with h | ⟨x, hx, h⟩
        · exact .inl h
        · exact .inr ⟨x, List.mem_cons_of_mem _ hx, h⟩
theorem text_no {s : T} {v : Ver} (h : parseV (cutB 45 s) = some v) {c : UInt8} (hc : isSign c = false) (h2 : c ≠ 46) : c ∉ textV v := by
  obtain ⟨_, hp, _⟩ := parse_parts h
  have hd : isDig c = false := by
    rw [Bool.eq_false_iff]; intro d; rw [isSign, d] at hc; simp at hc
  have h45 : c ≠ 45 := fun e => by subst e; simp [isSign] at hc
  intro hm
  rw [textV] at hm
  simp only [List.mem_append, List.mem_singleton, List.mem_cons, List.not_mem_nil, or_false] at hm
  rcases hm with ((((hm | hm) | hm) | hm) | hm) | hm
  · exact decI_no _ c hd hm
  · exact h2 hm
  · exact decI_no _ c hd hm
  · exact h2 hm
  · exact decI_no _ c hd hm
  · split at hm
    · cases hm
    · rcases List.mem_cons.1 hm with hm | hm
      · exact h45 hm
      · rcases glueC_mem 46 c _ hm with hm | ⟨x, hx, hm⟩
        · exact h2 hm
        · have h3 := (mark_iff x).1 (List.all_eq_true.1 hp x hx)
          have := List.all_eq_true.1 h3.2 c hm
          rw [hc] at this; cases this
theorem name_no {s : T} (h : nameB s = true) {c : UInt8} (hc : nameC c = false) : c ∉ s := fun hm => by
  simp only [nameB, Bool.and_eq_true] at h
  have := List.all_eq_true.1 h.2 c hm
  rw [hc] at this; cases this
/-- A pin that a lockfile may hold. -/
structure Ok (p : Pn) : Prop where
  name : nameB p.name = true
  v : ∃ s, parseV (cutB 45 s) = some p.v
  sum : p.sum.length = 32
def lineP (p : Pn) : T := p.name ++ [32] ++ textV p.v ++ [32] ++ hexB p.sum
/-- Names that differ. -/
def Diff (l : List Pn) : Prop := (l.map (·.name)).Nodup
end Go.Proofs.YtjlkmdmpejpmpaaGreatDoor.Lk

namespace Go.Proofs.YtjlkmdmpejpmpaaGreatDoor.Lk
open Go.Proofs.YtjlkmdmpejpmpaaGreatDoor.S Go.Proofs.YtjlkmdmpejpmpaaGreatDoor.Ve Go.Proofs.YtjlkmdmpejpmpaaGreatDoor.Sp
open Go
end Go.Proofs.YtjlkmdmpejpmpaaGreatDoor.Lk

namespace Go.Proofs.YtjlkmdmpejpmpaaGreatDoor.Ve
open Go.RowKit H S
attribute [local irreducible] H.CL H.RW H.CW H.Yd H.thenK H.blockQ Go.Calls

theorem refMore (n : Int) (h1 : n ≤ 9223372036854775807) (h0 : -9223372036854775808 ≤ n) (w : World) : Calls Tryz.prog 104 #[.int .i64 n] w fun e w' => w = w' ∧ e = .returned (.int .i64 (if n < 999999999 then n + 1 else n)) := by
  refine H.enter Tryz.func104 Tryz.ntmps104 rfl rfl ?_; dsimp only [H.args]
  repeat' (first | (refine CL.seq ?_) | (refine CL.region ?_) | (refine CL.skip ?_) | (refine CL.condP rfl (fun _ => ?_) (fun _ => ?_) <;> try (exfalso; omega)) | (refine CL.ret ?_) | (refine Gt.nil ?_; refine RW.nilw [0, 2, 4] ?_; dsimp only [H.keep, H.look, H.Fr.put, Nat.beq]) | (refine Gt.assign ?_; refine RW.y (Y.assign rfl) rfl ?_) | (refine Gt.move ?_; refine RW.y (Y.move rfl) rfl ?_) | (refine Gt.geq ?_; refine RW.y (Y.geq rfl rfl) rfl ?_) | (refine Gt.add ?_; refine RW.y (Y.add64 rfl rfl (by omega) (by omega)) rfl ?_))
  · exact FQ.one rfl rfl rfl ⟨rfl, ret_int (by rw [if_neg (by omega)])⟩
  · exact FQ.one rfl rfl rfl ⟨rfl, ret_int (by rw [if_pos (by omega)])⟩

/-- The three numbers fit a machine's. -/
def I64 (v : Ver) : Prop := (-9223372036854775808 ≤ v.a ∧ v.a ≤ 9223372036854775807) ∧ (-9223372036854775808 ≤ v.b ∧ v.b ≤ 9223372036854775807) ∧ (-9223372036854775808 ≤ v.c ∧ v.c ≤ 9223372036854775807)

set_option maxHeartbeats 1000000 in
theorem refNext (X : Value) (x : Ver) (part : Int) (w : World) (hX : VerAt w X x) (hx : I64 x) : Calls Tryz.prog 85 #[X, .int .i64 part] w fun e w' => K0 w w' ∧ e = .returned (verV (nextV x part) (.slice none 0 0)) := by
  obtain ⟨p, rfl, hp⟩ := hX
  obtain ⟨⟨a0, a1⟩, ⟨b0, b1⟩, ⟨c0, c1⟩⟩ := hx
  refine H.enter Tryz.func85 Tryz.ntmps85 rfl rfl ?_; dsimp only [H.args]
  repeat' (first | (refine CL.seq ?_) | (refine CL.region ?_))
  refine RW.box rfl rfl (fun w1 hb1 hk1 hlt1 => ?_)
  skip
  refine RW.alloc rfl (fun w2 hb2 hk2 hlt2 => ?_)
  have hX1 : w2.heap[w.heap.size]? = some (.cells #[.int .i64 x.a, .int .i64 x.b, .int .i64 x.c, p] verT (0, 0)) := hk2.at0 hb1
  repeat' (first | (refine CL.seq ?_) | (refine CL.region ?_) | (refine Gt.nil ?_; refine RW.nilw [0, 1, 2, 4, 6, 18, 22, 36] ?_; dsimp only [H.keep, H.look, H.Fr.put, Nat.beq]) | (refine Gt.fieldAddr ?_; refine RW.y (Y.fieldAddr rfl (by rfl)) rfl ?_))
  refine RW.storeB rfl rfl rfl hX1 (show (_ : Nat) < 4 from by decide) (fun w3 hb3 hk3 => ?_)
  have hr3 := hk3.at hb2 (fun c => by have c' : w1.heap.size = w.heap.size := c; omega)
  have hb3 : w3.heap[w.heap.size]? = some (.cells #[.int .i64 x.a, .int .i64 x.b, .int .i64 x.c, .slice none 0 0] verT (0, 0)) := hb3
  have hK3 : K0 w w3 := (hk1.trans0 hk2).trans hk3 fun k h => .inr (by have h' : k = w.heap.size := h; omega)
  have hsz := hk2.size
  repeat' (first | (refine CL.seq ?_) | (refine CL.region ?_) | (refine CL.skip ?_) | (refine CL.condP rfl (fun _ => ?_) (fun _ => ?_) <;> try (exfalso; omega)) | (refine CL.condF rfl ?_) | (refine CL.block ?_) | (refine CL.done ?_) | (refine Nm.block ?_) | (refine Gt.nil ?_; refine RW.nilw [0, 1, 2, 4, 6, 18, 22, 36] ?_; dsimp only [H.keep, H.look, H.Fr.put, Nat.beq]) | (refine Gt.load ?_; first | (refine RW.y (Y.loadB rfl (by assumption) rfl) rfl ?_) | (refine RW.y (Y.loadBlock rfl (by assumption) rfl) rfl ?_)) | (refine Gt.guard ?_; first | (refine RW.part rfl rfl rfl (fun _ => ?_) (fun _ => ?_) <;> try (exfalso; omega)) | (refine RW.on rfl rfl rfl ?_) | (refine RW.off1 rfl rfl rfl rfl rfl ?_)) | (refine Gt.fieldAddr ?_; refine RW.y (Y.fieldAddr rfl (by rfl)) rfl ?_) | (refine Gt.move ?_; refine RW.y (Y.move rfl) rfl ?_) | (refine Gt.eql ?_; refine RW.y (Y.eqi rfl rfl) rfl ?_) | (refine Gt.assign ?_; refine RW.y (Y.assign rfl) rfl ?_) | (refine Gt.lss ?_; refine RW.y (Y.lss rfl rfl) rfl ?_) | (refine Gt.pick ?_; first | (refine RW.y (Y.pickT rfl rfl) rfl ?_) | (refine RW.y (Y.pickF rfl rfl) rfl ?_)) | (refine Gt.add ?_; refine RW.y (Y.add64 rfl rfl (by omega) (by omega)) rfl ?_) | (refine RW.y (Y.build (ps := [(0, _)]) rfl rfl) rfl ?_) | (refine RW.y (Y.build (ps := [(0, _), (1, _)]) rfl rfl) rfl ?_))
  · rename_i h1 h2
    refine RW.storeBlock (u := #[.int .i64 (x.a + 1), .int .i64 0, .int .i64 0, .slice none 0 0]) rfl rfl rfl noCells hr3 rfl (fun w4 hb4 hk4 => ?_)
    repeat' (first | (refine CL.ret ?_) | (refine Rt.block ?_) | (refine Gt.nil ?_; refine RW.nilw [0, 1, 2, 4, 6, 18, 22, 36] ?_; dsimp only [H.keep, H.look, H.Fr.put, Nat.beq]))
    rw [show nextV x part = _ from by unfold nextV; rw [if_pos h1, if_pos h2]]
    exact FQ.res1 (v := _) rfl rfl ⟨⟨_, rfl, load_block hb4 rfl⟩, trivial⟩ (⟨hK3.trans hk4 fun k h => .inr (by have h' : k = w1.heap.size := h; omega), rfl⟩)
  · rename_i h1 h2 _
    refine RW.storeBlock (u := #[.int .i64 x.a, .int .i64 x.b, .int .i64 x.c, .slice none 0 0]) rfl rfl rfl noCells hr3 rfl (fun w4 hb4 hk4 => ?_)
    repeat' (first | (refine CL.ret ?_) | (refine Rt.block ?_) | (refine Gt.nil ?_; refine RW.nilw [0, 1, 2, 4, 6, 18, 22, 36] ?_; dsimp only [H.keep, H.look, H.Fr.put, Nat.beq]))
    rw [show nextV x part = _ from by unfold nextV; rw [if_pos h1, if_neg h2]]
    exact FQ.res1 (v := _) rfl rfl ⟨⟨_, rfl, load_block hb4 rfl⟩, trivial⟩ (⟨hK3.trans hk4 fun k h => .inr (by have h' : k = w1.heap.size := h; omega), rfl⟩)
  · rename_i h1 _ h2 h3
    refine RW.storeBlock (u := #[.int .i64 x.a, .int .i64 (x.b + 1), .int .i64 0, .slice none 0 0]) rfl rfl rfl noCells hr3 rfl (fun w4 hb4 hk4 => ?_)
    repeat' (first | (refine CL.ret ?_) | (refine Rt.block ?_) | (refine Gt.nil ?_; refine RW.nilw [0, 1, 2, 4, 6, 18, 22, 36] ?_; dsimp only [H.keep, H.look, H.Fr.put, Nat.beq]))
    rw [show nextV x part = _ from by unfold nextV; rw [if_neg h1, if_pos h2, if_pos h3]]
    exact FQ.res1 (v := _) rfl rfl ⟨⟨_, rfl, load_block hb4 rfl⟩, trivial⟩ (⟨hK3.trans hk4 fun k h => .inr (by have h' : k = w1.heap.size := h; omega), rfl⟩)
  · rename_i h1 _ h2 h3 _
    refine RW.storeBlock (u := #[.int .i64 x.a, .int .i64 x.b, .int .i64 x.c, .slice none 0 0]) rfl rfl rfl noCells hr3 rfl (fun w4 hb4 hk4 => ?_)
    repeat' (first | (refine CL.ret ?_) | (refine Rt.block ?_) | (refine Gt.nil ?_; refine RW.nilw [0, 1, 2, 4, 6, 18, 22, 36] ?_; dsimp only [H.keep, H.look, H.Fr.put, Nat.beq]))
    rw [show nextV x part = _ from by unfold nextV; rw [if_neg h1, if_pos h2, if_neg h3]]
    exact FQ.res1 (v := _) rfl rfl ⟨⟨_, rfl, load_block hb4 rfl⟩, trivial⟩ (⟨hK3.trans hk4 fun k h => .inr (by have h' : k = w1.heap.size := h; omega), rfl⟩)
  · rename_i h1 _ h2 _
    refine RW.fn rfl rfl ((refMore x.c c1 c0 w3).mono ?_)
    rintro e w' ⟨rfl, rfl⟩
    repeat' ((refine Gt.fieldAddr ?_; refine RW.y (Y.fieldAddr rfl (by rfl)) rfl ?_))
    refine RW.storeB rfl rfl rfl hb3 (show (_ : Nat) < 4 from by decide) (fun w5 hb5 hk5 => ?_)
    have hb5 : w5.heap[w.heap.size]? = some (.cells #[.int .i64 x.a, .int .i64 x.b, .int .i64 (if x.c < 999999999 then x.c + 1 else x.c), .slice none 0 0] verT (0, 0)) := hb5
    have hr5 := hk5.at hr3 (fun c => by have c' : w1.heap.size = w.heap.size := c; omega)
    have hK5 : K0 w w5 := hK3.trans hk5 fun k h => .inr (by have h' : k = w.heap.size := h; omega)
    repeat' (first | (refine CL.seq ?_) | (refine CL.region ?_) | (refine Gt.nil ?_; refine RW.nilw [0, 1, 2, 4, 6, 18, 22, 36] ?_; dsimp only [H.keep, H.look, H.Fr.put, Nat.beq]) | (refine Gt.load ?_; (refine RW.y (Y.loadBlock rfl (by assumption) rfl) rfl ?_)))
    refine RW.storeBlock rfl rfl rfl noCells hr5 rfl (fun w4 hb4 hk4 => ?_)
    repeat' (first | (refine CL.ret ?_) | (refine Gt.nil ?_; refine RW.nilw [0, 1, 2, 4, 6, 18, 22, 36] ?_; dsimp only [H.keep, H.look, H.Fr.put, Nat.beq]))
    rw [show nextV x part = ⟨x.a, x.b, if x.c < 999999999 then x.c + 1 else x.c, []⟩ from by unfold nextV; rw [if_neg h1, if_neg h2]; split <;> rfl]
    exact FQ.res1 (v := _) rfl rfl ⟨⟨_, rfl, load_block hb4 rfl⟩, trivial⟩ (⟨hK5.trans hk4 fun k h => .inr (by have h' : k = w1.heap.size := h; omega), rfl⟩)

theorem ptr_cells {g : Nat} {l : List Nat} : ∀ v ∈ l.map (fun j => Value.pointer (some ⟨g, j, none⟩)), v.cells.size = 1 := by
  intro v hv
  obtain ⟨x, _, rfl⟩ := List.mem_map.1 hv
  rfl

set_option maxHeartbeats 2000000 in
theorem next (X : Value) (x : Ver) (part : Int) (w : World) (hX : VerAt w X x) (hx : I64 x) : Calls Tryz.prog 120 #[X, .int .i64 part] w fun e w' => K0 w w' ∧ e = .returned (verV (nextV x part) (.slice none 0 0)) := by
  obtain ⟨p, rfl, hp⟩ := hX
  obtain ⟨⟨a0, a1⟩, ⟨b0, b1⟩, ⟨c0, c1⟩⟩ := hx
  refine H.enter Tryz.func120 Tryz.ntmps120 rfl rfl ?_; dsimp only [H.args]
  repeat' (first | (refine CL.seq ?_) | (refine CL.region ?_))
  refine RW.box rfl rfl (fun w1 hb1 hk1 hlt1 => ?_)
  skip
  refine RW.alloc rfl (fun w2 hb2 hk2 hlt2 => ?_)
  have hX1 : w2.heap[w.heap.size]? = some (.cells #[.int .i64 x.a, .int .i64 x.b, .int .i64 x.c, p] verT (0, 0)) := hk2.at0 hb1
  repeat' (first | (refine CL.seq ?_) | (refine CL.region ?_) | (refine Gt.nil ?_; refine RW.nilw [0, 1, 2, 4, 5, 7, 18, 25, 38, 39, 40, 41] ?_; dsimp only [H.keep, H.look, H.Fr.put, Nat.beq]) | (refine Gt.fieldAddr ?_; refine RW.y (Y.fieldAddr rfl (by rfl)) rfl ?_))
  refine RW.storeB rfl rfl rfl hX1 (show (_ : Nat) < 4 from by decide) (fun w3 hb3 hk3 => ?_)
  have hr3 := hk3.at hb2 (fun c => by have c' : w1.heap.size = w.heap.size := c; omega)
  have hb3 : w3.heap[w.heap.size]? = some (.cells #[.int .i64 x.a, .int .i64 x.b, .int .i64 x.c, .slice none 0 0] verT (0, 0)) := hb3
  have hK3 : K0 w w3 := (hk1.trans0 hk2).trans hk3 fun k h => .inr (by have h' : k = w.heap.size := h; omega)
  have hsz := hk2.size
  repeat' (first | (refine CL.seq ?_) | (refine CL.region ?_) | (refine Gt.nil ?_; refine RW.nilw [0, 1, 2, 4, 5, 7, 18, 25, 38, 39, 40, 41] ?_; dsimp only [H.keep, H.look, H.Fr.put, Nat.beq]) | (refine Gt.fieldAddr ?_; refine RW.y (Y.fieldAddr rfl (by rfl)) rfl ?_))
  refine RW.buildL (ps := [(0, _), (1, _), (2, _)]) (l := [0, 1, 2].map (fun j => Value.pointer (some ⟨w.heap.size, j, none⟩))) rfl rfl rfl ptr_cells rfl rfl (fun w4 hb4 hk4 hlt4 => ?_)
  have hb34 := hk4.at0 hb3
  have hr4 := hk4.at0 hr3
  have hK4 : K0 w w4 := hK3.trans0 hk4
  have hsl4 : Sl w4 1 (.slice (some ⟨w3.heap.size, 0, none⟩) 3 3) 3 ([0, 1, 2].map (fun j : Nat => Value.pointer (some ⟨w.heap.size, j, none⟩))) := sl_new hb4 rfl (show (3 : Nat) ≤ 1000000 from by decide)
  have hw13 : w1.heap.size < w3.heap.size := by have := hk3.size; omega
  have h3l : ([0, 1, 2] : List Nat).length = 3 := rfl
  rcases (by omega : part = 0 ∨ part = 1 ∨ (part ≠ 0 ∧ part ≠ 1)) with rfl | rfl | ⟨h0, h1⟩
  · repeat' (first | (refine CL.seq ?_) | (refine CL.region ?_) | (refine CL.skip ?_) | (refine CL.condP rfl (fun _ => ?_) (fun _ => ?_) <;> try (exfalso; omega)) | (refine CL.condF rfl ?_) | (refine Gt.nil ?_; refine RW.nilw [0, 1, 2, 4, 5, 7, 18, 25, 38, 39, 40, 41] ?_; dsimp only [H.keep, H.look, H.Fr.put, Nat.beq]) | (refine Gt.move ?_; refine RW.y (Y.move rfl) rfl ?_) | (refine Gt.guard ?_; first | (refine RW.part rfl rfl rfl (fun _ => ?_) (fun _ => ?_) <;> try (exfalso; omega)) | (refine RW.off1 rfl rfl rfl rfl rfl ?_)) | (refine Gt.load ?_; first | (refine RW.y (Y.loadB rfl (by assumption) rfl) rfl ?_) | (refine RW.y (Y.loadBlock rfl (by assumption) rfl) rfl ?_)) | (refine Gt.nilck ?_; refine RW.y (Y.nilck rfl) rfl ?_) | (refine Gt.assign ?_; refine RW.y (Y.assign rfl) rfl ?_) | (refine Gt.idx ?_; refine RW.elemM rfl rfl rfl rfl (by assumption) (by omega) (by omega) ?_) | (refine Gt.add ?_; refine RW.y (Y.add64 rfl rfl (by omega) (by omega)) rfl ?_) | (refine Gt.neq ?_; refine RW.y (Y.nei rfl rfl) rfl ?_) | (refine Gt.pick ?_; (refine RW.y (Y.pickF rfl rfl) rfl ?_)) | (refine Gt.geq ?_; refine RW.y (Y.geq rfl rfl) rfl ?_))
    · rename_i h9
      refine RW.storeBlock (u := #[.int .i64 x.a, .int .i64 x.b, .int .i64 x.c, .slice none 0 0]) rfl rfl rfl noCells hr4 rfl (fun w5 hb5 hk5 => ?_)
      repeat' (first | (refine CL.ret ?_) | (refine Gt.nil ?_; refine RW.nilw [0, 1, 2, 4, 5, 7, 18, 25, 38, 39, 40, 41] ?_; dsimp only [H.keep, H.look, H.Fr.put, Nat.beq]))
      rw [show nextV x 0 = ⟨x.a, x.b, x.c, []⟩ from by unfold nextV; rw [if_pos rfl, if_neg (by omega)]]
      exact FQ.res1 (v := _) rfl rfl ⟨⟨_, rfl, load_block hb5 rfl⟩, trivial⟩ (⟨hK4.trans hk5 fun k h => .inr (by have h' : k = w1.heap.size := h; omega), rfl⟩)
    · rename_i h9
      refine RW.storeB rfl rfl rfl hb34 (show (_ : Nat) < 4 from by decide) (fun w5 hb5 hk5 => ?_)
      have hb5 : w5.heap[w.heap.size]? = some (.cells #[.int .i64 (x.a + 1), .int .i64 x.b, .int .i64 x.c, .slice none 0 0] verT (0, 0)) := hb5
      have hr5 := hk5.at hr4 (fun c => by have c' : w1.heap.size = w.heap.size := c; omega)
      have hK5 : K0 w w5 := hK4.trans hk5 fun k h => .inr (by have h' : k = w.heap.size := h; omega)
      have hsl5 := hsl4.keep hk5 (fun g hg c => by have hg' : w3.heap.size = g := by simpa [live] using hg
                                                   have c' : g = w.heap.size := c
                                                   omega)
      repeat' (first | (refine CL.seq ?_) | (refine CL.region ?_) | (refine Gt.nil ?_; refine RW.nilw [0, 1, 2, 4, 5, 7, 18, 25, 38, 39, 40, 41] ?_; dsimp only [H.keep, H.look, H.Fr.put, Nat.beq]) | (refine Gt.move ?_; refine RW.y (Y.move rfl) rfl ?_) | (refine Gt.add ?_; refine RW.y (Y.add64 rfl rfl (by omega) (by omega)) rfl ?_))
      refine RW.subl rfl rfl rfl hsl5 (by decide) (by decide) (fun v6 hs6 hl6 => ?_)
      have hs6 : Sl w5 1 v6 2 (([1, 2] : List Nat).map (fun j => Value.pointer (some ⟨w.heap.size, j, none⟩))) := hs6
      have hl7 : ([1, 2] : List Nat).length = 2 := rfl
      have hlv : ∀ g, live v6 = some g → g = w3.heap.size := fun g hg => by have := hl6 g hg; simp [live] at this; exact this.symm
      repeat' (first | (refine CL.block ?_) | (refine Gt.nil ?_; refine RW.nilw [0, 1, 2, 4, 5, 7, 18, 25, 38, 39, 40, 41] ?_; dsimp only [H.keep, H.look, H.Fr.put, Nat.beq]) | (refine Gt.move ?_; refine RW.y (Y.move rfl) rfl ?_) | (refine Gt.len ?_; (refine RW.y (Y.lenx rfl (by assumption)) rfl ?_)))
      refine CL.loopS [2, 4, 38, 39, 40] (fun k vals wr => ∃ (i : Nat), vals = [.pointer (some ⟨w.heap.size, 0, none⟩), .pointer (some ⟨w1.heap.size, 0, none⟩), v6, .int .i64 2, .int .i64 (i : Int)] ∧ k = 2 - i ∧ i ≤ 2 ∧ Kept (fun k => k = w.heap.size) w5 wr ∧
        wr.heap[w.heap.size]? = some (.cells #[.int .i64 (x.a + 1), .int .i64 (if 0 < i then 0 else x.b), .int .i64 (if 1 < i then 0 else x.c), .slice none 0 0] verT (0, 0))) 2 ⟨_, rfl, 0, rfl, rfl, Nat.zero_le _, Kept.refl _ _, hb5⟩ ?_
      rintro k vals wr ⟨i, rfl, rfl, hi, hkr, hbr⟩
      dsimp only [List.zip, List.zipWith]
      have hsr := hs6.keep hkr fun g hg c => by have := hlv g hg; have c' : g = w.heap.size := c; omega
      have hrr := hkr.at hr5 (fun c => by have c' : w1.heap.size = w.heap.size := c; omega)
      have hKr : K0 w wr := hK5.trans hkr fun k h => .inr (by have h' : k = w.heap.size := h; omega)
      rcases (by omega : i = 0 ∨ i = 1 ∨ i = 2) with rfl | rfl | rfl
      · repeat' (first | (refine CL.seq ?_) | (refine CL.region ?_) | (refine CL.skip ?_) | (refine CL.condP rfl (fun _ => ?_) (fun _ => ?_) <;> try (exfalso; omega)) | (refine CL.block ?_) | (refine Gt.nil ?_; refine RW.nilw [0, 1, 2, 4, 5, 7, 18, 25, 38, 39, 40, 41] ?_; dsimp only [H.keep, H.look, H.Fr.put, Nat.beq]) | (refine Gt.move ?_; refine RW.y (Y.move rfl) rfl ?_) | (refine Gt.nilck ?_; refine RW.y (Y.nilck rfl) rfl ?_) | (refine Gt.assign ?_; refine RW.y (Y.assign rfl) rfl ?_) | (refine Gt.idx ?_; refine RW.elemM rfl rfl rfl rfl (by assumption) (by omega) (by omega) ?_) | (refine Gt.lss ?_; refine RW.y (Y.lss rfl rfl) rfl ?_))
        refine RW.storeB rfl rfl rfl hbr (show (_ : Nat) < 4 from by decide) (fun w7 hb7 hk7 => ?_)
        repeat' (first | (refine CL.region ?_) | (refine CL.done ?_) | (refine Nm.block ?_) | (refine Nm.then ?_) | (refine Gt.nil ?_; refine RW.nilw [0, 1, 2, 4, 5, 7, 18, 25, 38, 39, 40, 41] ?_; dsimp only [H.keep, H.look, H.Fr.put, Nat.beq]) | (refine Gt.move ?_; refine RW.y (Y.move rfl) rfl ?_) | (refine Gt.add ?_; refine RW.y (Y.add64 rfl rfl (by omega) (by omega)) rfl ?_))
        exact ⟨2 - (0 + 1), _, rfl, rfl, rfl, by omega, 0 + 1, rfl, rfl, by omega, hkr.trans hk7 fun k h => .inl h, hb7⟩
      · repeat' (first | (refine CL.seq ?_) | (refine CL.region ?_) | (refine CL.skip ?_) | (refine CL.condP rfl (fun _ => ?_) (fun _ => ?_) <;> try (exfalso; omega)) | (refine CL.block ?_) | (refine Gt.nil ?_; refine RW.nilw [0, 1, 2, 4, 5, 7, 18, 25, 38, 39, 40, 41] ?_; dsimp only [H.keep, H.look, H.Fr.put, Nat.beq]) | (refine Gt.move ?_; refine RW.y (Y.move rfl) rfl ?_) | (refine Gt.nilck ?_; refine RW.y (Y.nilck rfl) rfl ?_) | (refine Gt.assign ?_; refine RW.y (Y.assign rfl) rfl ?_) | (refine Gt.idx ?_; refine RW.elemM rfl rfl rfl rfl (by assumption) (by omega) (by omega) ?_) | (refine Gt.lss ?_; refine RW.y (Y.lss rfl rfl) rfl ?_))
        refine RW.storeB rfl rfl rfl hbr (show (_ : Nat) < 4 from by decide) (fun w7 hb7 hk7 => ?_)
        repeat' (first | (refine CL.region ?_) | (refine CL.done ?_) | (refine Nm.block ?_) | (refine Nm.then ?_) | (refine Gt.nil ?_; refine RW.nilw [0, 1, 2, 4, 5, 7, 18, 25, 38, 39, 40, 41] ?_; dsimp only [H.keep, H.look, H.Fr.put, Nat.beq]) | (refine Gt.move ?_; refine RW.y (Y.move rfl) rfl ?_) | (refine Gt.add ?_; refine RW.y (Y.add64 rfl rfl (by omega) (by omega)) rfl ?_))
        exact ⟨2 - (1 + 1), _, rfl, rfl, rfl, by omega, 1 + 1, rfl, rfl, by omega, hkr.trans hk7 fun k h => .inl h, hb7⟩
      · repeat' (first | (refine CL.seq ?_) | (refine CL.region ?_) | (refine CL.condP rfl (fun _ => ?_) (fun _ => ?_) <;> try (exfalso; omega)) | (refine CL.exit ?_) | (refine Ex.then ?_) | (refine Ex.hit ?_) | (refine Gt.nil ?_; refine RW.nilw [0, 1, 2, 4, 5, 7, 18, 25, 38, 39, 40, 41] ?_; dsimp only [H.keep, H.look, H.Fr.put, Nat.beq]) | (refine Gt.load ?_; (refine RW.y (Y.loadBlock rfl (by assumption) rfl) rfl ?_)) | (refine Gt.lss ?_; refine RW.y (Y.lss rfl rfl) rfl ?_))
        refine RW.storeBlock (u := #[.int .i64 (x.a + 1), .int .i64 0, .int .i64 0, .slice none 0 0]) rfl rfl rfl noCells hrr rfl (fun w7 hb7 hk7 => ?_)
        repeat' (first | (refine CL.ret ?_) | (refine Gt.nil ?_; refine RW.nilw [0, 1, 2, 4, 5, 7, 18, 25, 38, 39, 40, 41] ?_; dsimp only [H.keep, H.look, H.Fr.put, Nat.beq]))
        rw [show nextV x 0 = ⟨(x.a + 1), 0, 0, []⟩ from by unfold nextV; rw [if_pos rfl, if_pos (by omega)]]
        exact FQ.res1 (v := _) rfl rfl ⟨⟨_, rfl, load_block hb7 rfl⟩, trivial⟩ (⟨hKr.trans hk7 fun k h => .inr (by have h' : k = w1.heap.size := h; omega), rfl⟩)
  · repeat' (first | (refine CL.seq ?_) | (refine CL.region ?_) | (refine CL.skip ?_) | (refine CL.condP rfl (fun _ => ?_) (fun _ => ?_) <;> try (exfalso; omega)) | (refine Gt.nil ?_; refine RW.nilw [0, 1, 2, 4, 5, 7, 18, 25, 38, 39, 40, 41] ?_; dsimp only [H.keep, H.look, H.Fr.put, Nat.beq]) | (refine Gt.move ?_; refine RW.y (Y.move rfl) rfl ?_) | (refine Gt.guard ?_; first | (refine RW.part rfl rfl rfl (fun _ => ?_) (fun _ => ?_) <;> try (exfalso; omega)) | (refine RW.on rfl rfl rfl ?_)) | (refine Gt.load ?_; first | (refine RW.y (Y.loadB rfl (by assumption) rfl) rfl ?_) | (refine RW.y (Y.loadBlock rfl (by assumption) rfl) rfl ?_)) | (refine Gt.nilck ?_; refine RW.y (Y.nilck rfl) rfl ?_) | (refine Gt.assign ?_; refine RW.y (Y.assign rfl) rfl ?_) | (refine Gt.idx ?_; refine RW.elemM rfl rfl rfl rfl (by assumption) (by omega) (by omega) ?_) | (refine Gt.add ?_; refine RW.y (Y.add64 rfl rfl (by omega) (by omega)) rfl ?_) | (refine Gt.neq ?_; refine RW.y (Y.nei rfl rfl) rfl ?_) | (refine Gt.pick ?_; (refine RW.y (Y.pickT rfl rfl) rfl ?_)) | (refine Gt.geq ?_; refine RW.y (Y.geq rfl rfl) rfl ?_))
    · rename_i h9
      refine RW.storeBlock (u := #[.int .i64 x.a, .int .i64 x.b, .int .i64 x.c, .slice none 0 0]) rfl rfl rfl noCells hr4 rfl (fun w5 hb5 hk5 => ?_)
      repeat' (first | (refine CL.ret ?_) | (refine Gt.nil ?_; refine RW.nilw [0, 1, 2, 4, 5, 7, 18, 25, 38, 39, 40, 41] ?_; dsimp only [H.keep, H.look, H.Fr.put, Nat.beq]))
      rw [show nextV x 1 = ⟨x.a, x.b, x.c, []⟩ from by unfold nextV; rw [if_neg (by decide), if_pos rfl, if_neg (by omega)]]
      exact FQ.res1 (v := _) rfl rfl ⟨⟨_, rfl, load_block hb5 rfl⟩, trivial⟩ (⟨hK4.trans hk5 fun k h => .inr (by have h' : k = w1.heap.size := h; omega), rfl⟩)
    · rename_i h9
      refine RW.storeB rfl rfl rfl hb34 (show (_ : Nat) < 4 from by decide) (fun w5 hb5 hk5 => ?_)
      have hb5 : w5.heap[w.heap.size]? = some (.cells #[.int .i64 x.a, .int .i64 (x.b + 1), .int .i64 x.c, .slice none 0 0] verT (0, 0)) := hb5
      have hr5 := hk5.at hr4 (fun c => by have c' : w1.heap.size = w.heap.size := c; omega)
      have hK5 : K0 w w5 := hK4.trans hk5 fun k h => .inr (by have h' : k = w.heap.size := h; omega)
      have hsl5 := hsl4.keep hk5 (fun g hg c => by have hg' : w3.heap.size = g := by simpa [live] using hg
                                                   have c' : g = w.heap.size := c
                                                   omega)
      repeat' (first | (refine CL.seq ?_) | (refine CL.region ?_) | (refine Gt.nil ?_; refine RW.nilw [0, 1, 2, 4, 5, 7, 18, 25, 38, 39, 40, 41] ?_; dsimp only [H.keep, H.look, H.Fr.put, Nat.beq]) | (refine Gt.move ?_; refine RW.y (Y.move rfl) rfl ?_) | (refine Gt.add ?_; refine RW.y (Y.add64 rfl rfl (by omega) (by omega)) rfl ?_))
      refine RW.subl rfl rfl rfl hsl5 (by decide) (by decide) (fun v6 hs6 hl6 => ?_)
      have hs6 : Sl w5 1 v6 1 (([2] : List Nat).map (fun j => Value.pointer (some ⟨w.heap.size, j, none⟩))) := hs6
      have hl7 : ([2] : List Nat).length = 1 := rfl
      have hlv : ∀ g, live v6 = some g → g = w3.heap.size := fun g hg => by have := hl6 g hg; simp [live] at this; exact this.symm
      repeat' (first | (refine CL.block ?_) | (refine Gt.nil ?_; refine RW.nilw [0, 1, 2, 4, 5, 7, 18, 25, 38, 39, 40, 41] ?_; dsimp only [H.keep, H.look, H.Fr.put, Nat.beq]) | (refine Gt.move ?_; refine RW.y (Y.move rfl) rfl ?_) | (refine Gt.len ?_; (refine RW.y (Y.lenx rfl (by assumption)) rfl ?_)))
      refine CL.loopS [2, 4, 38, 39, 40] (fun k vals wr => ∃ (i : Nat), vals = [.pointer (some ⟨w.heap.size, 0, none⟩), .pointer (some ⟨w1.heap.size, 0, none⟩), v6, .int .i64 1, .int .i64 (i : Int)] ∧ k = 1 - i ∧ i ≤ 1 ∧ Kept (fun k => k = w.heap.size) w5 wr ∧
        wr.heap[w.heap.size]? = some (.cells #[.int .i64 x.a, .int .i64 (x.b + 1), .int .i64 (if 0 < i then 0 else x.c), .slice none 0 0] verT (0, 0))) 1 ⟨_, rfl, 0, rfl, rfl, Nat.zero_le _, Kept.refl _ _, hb5⟩ ?_
      rintro k vals wr ⟨i, rfl, rfl, hi, hkr, hbr⟩
      dsimp only [List.zip, List.zipWith]
      have hsr := hs6.keep hkr fun g hg c => by have := hlv g hg; have c' : g = w.heap.size := c; omega
      have hrr := hkr.at hr5 (fun c => by have c' : w1.heap.size = w.heap.size := c; omega)
      have hKr : K0 w wr := hK5.trans hkr fun k h => .inr (by have h' : k = w.heap.size := h; omega)
      rcases (by omega : i = 0 ∨ i = 1) with rfl | rfl
      · repeat' (first | (refine CL.seq ?_) | (refine CL.region ?_) | (refine CL.skip ?_) | (refine CL.condP rfl (fun _ => ?_) (fun _ => ?_) <;> try (exfalso; omega)) | (refine CL.block ?_) | (refine Gt.nil ?_; refine RW.nilw [0, 1, 2, 4, 5, 7, 18, 25, 38, 39, 40, 41] ?_; dsimp only [H.keep, H.look, H.Fr.put, Nat.beq]) | (refine Gt.move ?_; refine RW.y (Y.move rfl) rfl ?_) | (refine Gt.nilck ?_; refine RW.y (Y.nilck rfl) rfl ?_) | (refine Gt.assign ?_; refine RW.y (Y.assign rfl) rfl ?_) | (refine Gt.idx ?_; refine RW.elemM rfl rfl rfl rfl (by assumption) (by omega) (by omega) ?_) | (refine Gt.lss ?_; refine RW.y (Y.lss rfl rfl) rfl ?_))
        refine RW.storeB rfl rfl rfl hbr (show (_ : Nat) < 4 from by decide) (fun w7 hb7 hk7 => ?_)
        repeat' (first | (refine CL.region ?_) | (refine CL.done ?_) | (refine Nm.block ?_) | (refine Nm.then ?_) | (refine Gt.nil ?_; refine RW.nilw [0, 1, 2, 4, 5, 7, 18, 25, 38, 39, 40, 41] ?_; dsimp only [H.keep, H.look, H.Fr.put, Nat.beq]) | (refine Gt.move ?_; refine RW.y (Y.move rfl) rfl ?_) | (refine Gt.add ?_; refine RW.y (Y.add64 rfl rfl (by omega) (by omega)) rfl ?_))
        exact ⟨1 - (0 + 1), _, rfl, rfl, rfl, by omega, 0 + 1, rfl, rfl, by omega, hkr.trans hk7 fun k h => .inl h, hb7⟩
      · repeat' (first | (refine CL.seq ?_) | (refine CL.region ?_) | (refine CL.condP rfl (fun _ => ?_) (fun _ => ?_) <;> try (exfalso; omega)) | (refine CL.exit ?_) | (refine Ex.then ?_) | (refine Ex.hit ?_) | (refine Gt.nil ?_; refine RW.nilw [0, 1, 2, 4, 5, 7, 18, 25, 38, 39, 40, 41] ?_; dsimp only [H.keep, H.look, H.Fr.put, Nat.beq]) | (refine Gt.load ?_; (refine RW.y (Y.loadBlock rfl (by assumption) rfl) rfl ?_)) | (refine Gt.lss ?_; refine RW.y (Y.lss rfl rfl) rfl ?_))
        refine RW.storeBlock (u := #[.int .i64 x.a, .int .i64 (x.b + 1), .int .i64 0, .slice none 0 0]) rfl rfl rfl noCells hrr rfl (fun w7 hb7 hk7 => ?_)
        repeat' (first | (refine CL.ret ?_) | (refine Gt.nil ?_; refine RW.nilw [0, 1, 2, 4, 5, 7, 18, 25, 38, 39, 40, 41] ?_; dsimp only [H.keep, H.look, H.Fr.put, Nat.beq]))
        rw [show nextV x 1 = ⟨x.a, (x.b + 1), 0, []⟩ from by unfold nextV; rw [if_neg (by decide), if_pos rfl, if_pos (by omega)]]
        exact FQ.res1 (v := _) rfl rfl ⟨⟨_, rfl, load_block hb7 rfl⟩, trivial⟩ (⟨hKr.trans hk7 fun k h => .inr (by have h' : k = w1.heap.size := h; omega), rfl⟩)
  · repeat' (first | (refine CL.seq ?_) | (refine CL.region ?_) | (refine CL.skip ?_) | (refine CL.condP rfl (fun _ => ?_) (fun _ => ?_) <;> try (exfalso; omega)) | (refine Gt.nil ?_; refine RW.nilw [0, 1, 2, 4, 5, 7, 18, 25, 38, 39, 40, 41] ?_; dsimp only [H.keep, H.look, H.Fr.put, Nat.beq]) | (refine Gt.move ?_; refine RW.y (Y.move rfl) rfl ?_) | (refine Gt.guard ?_; first | (refine RW.part rfl rfl rfl (fun _ => ?_) (fun _ => ?_) <;> try (exfalso; omega)) | (refine RW.on rfl rfl rfl ?_)) | (refine Gt.load ?_; first | (refine RW.y (Y.loadB rfl (by assumption) rfl) rfl ?_) | (refine RW.y (Y.loadBlock rfl (by assumption) rfl) rfl ?_)) | (refine Gt.nilck ?_; refine RW.y (Y.nilck rfl) rfl ?_) | (refine Gt.assign ?_; refine RW.y (Y.assign rfl) rfl ?_) | (refine Gt.idx ?_; refine RW.elemM rfl rfl rfl rfl (by assumption) (by omega) (by omega) ?_) | (refine Gt.add ?_; refine RW.y (Y.add64 rfl rfl (by omega) (by omega)) rfl ?_) | (refine Gt.neq ?_; refine RW.y (Y.nei rfl rfl) rfl ?_) | (refine Gt.pick ?_; (refine RW.y (Y.pickT rfl rfl) rfl ?_)) | (refine Gt.geq ?_; refine RW.y (Y.geq rfl rfl) rfl ?_))
    · rename_i h9
      refine RW.storeBlock (u := #[.int .i64 x.a, .int .i64 x.b, .int .i64 x.c, .slice none 0 0]) rfl rfl rfl noCells hr4 rfl (fun w5 hb5 hk5 => ?_)
      repeat' (first | (refine CL.ret ?_) | (refine Gt.nil ?_; refine RW.nilw [0, 1, 2, 4, 5, 7, 18, 25, 38, 39, 40, 41] ?_; dsimp only [H.keep, H.look, H.Fr.put, Nat.beq]))
      rw [show nextV x part = ⟨x.a, x.b, x.c, []⟩ from by unfold nextV; rw [if_neg h0, if_neg h1, if_neg (by omega)]]
      exact FQ.res1 (v := _) rfl rfl ⟨⟨_, rfl, load_block hb5 rfl⟩, trivial⟩ (⟨hK4.trans hk5 fun k h => .inr (by have h' : k = w1.heap.size := h; omega), rfl⟩)
    · rename_i h9
      refine RW.storeB rfl rfl rfl hb34 (show (_ : Nat) < 4 from by decide) (fun w5 hb5 hk5 => ?_)
      have hb5 : w5.heap[w.heap.size]? = some (.cells #[.int .i64 x.a, .int .i64 x.b, .int .i64 (x.c + 1), .slice none 0 0] verT (0, 0)) := hb5
      have hr5 := hk5.at hr4 (fun c => by have c' : w1.heap.size = w.heap.size := c; omega)
      have hK5 : K0 w w5 := hK4.trans hk5 fun k h => .inr (by have h' : k = w.heap.size := h; omega)
      have hsl5 := hsl4.keep hk5 (fun g hg c => by have hg' : w3.heap.size = g := by simpa [live] using hg
                                                   have c' : g = w.heap.size := c
                                                   omega)
      repeat' (first | (refine CL.seq ?_) | (refine CL.region ?_) | (refine Gt.nil ?_; refine RW.nilw [0, 1, 2, 4, 5, 7, 18, 25, 38, 39, 40, 41] ?_; dsimp only [H.keep, H.look, H.Fr.put, Nat.beq]) | (refine Gt.move ?_; refine RW.y (Y.move rfl) rfl ?_) | (refine Gt.add ?_; refine RW.y (Y.add64 rfl rfl (by omega) (by omega)) rfl ?_))
      refine RW.subl rfl rfl rfl hsl5 (by decide) (by decide) (fun v6 hs6 hl6 => ?_)
      have hs6 : Sl w5 1 v6 0 (([] : List Nat).map (fun j => Value.pointer (some ⟨w.heap.size, j, none⟩))) := hs6
      have hl7 : ([] : List Nat).length = 0 := rfl
      have hlv : ∀ g, live v6 = some g → g = w3.heap.size := fun g hg => by have := hl6 g hg; simp [live] at this; exact this.symm
      repeat' (first | (refine CL.block ?_) | (refine Gt.nil ?_; refine RW.nilw [0, 1, 2, 4, 5, 7, 18, 25, 38, 39, 40, 41] ?_; dsimp only [H.keep, H.look, H.Fr.put, Nat.beq]) | (refine Gt.move ?_; refine RW.y (Y.move rfl) rfl ?_) | (refine Gt.len ?_; (refine RW.y (Y.lenx rfl (by assumption)) rfl ?_)))
      refine CL.loopS [2, 4, 38, 39, 40] (fun k vals wr => ∃ (i : Nat), vals = [.pointer (some ⟨w.heap.size, 0, none⟩), .pointer (some ⟨w1.heap.size, 0, none⟩), v6, .int .i64 0, .int .i64 (i : Int)] ∧ k = 0 - i ∧ i ≤ 0 ∧ Kept (fun k => k = w.heap.size) w5 wr ∧
        wr.heap[w.heap.size]? = some (.cells #[.int .i64 x.a, .int .i64 x.b, .int .i64 (x.c + 1), .slice none 0 0] verT (0, 0))) 0 ⟨_, rfl, 0, rfl, rfl, Nat.zero_le _, Kept.refl _ _, hb5⟩ ?_
      rintro k vals wr ⟨i, rfl, rfl, hi, hkr, hbr⟩
      dsimp only [List.zip, List.zipWith]
      have hsr := hs6.keep hkr fun g hg c => by have := hlv g hg; have c' : g = w.heap.size := c; omega
      have hrr := hkr.at hr5 (fun c => by have c' : w1.heap.size = w.heap.size := c; omega)
      have hKr : K0 w wr := hK5.trans hkr fun k h => .inr (by have h' : k = w.heap.size := h; omega)
      rcases (by omega : i = 0) with rfl
      · repeat' (first | (refine CL.seq ?_) | (refine CL.region ?_) | (refine CL.condP rfl (fun _ => ?_) (fun _ => ?_) <;> try (exfalso; omega)) | (refine CL.exit ?_) | (refine Ex.then ?_) | (refine Ex.hit ?_) | (refine Gt.nil ?_; refine RW.nilw [0, 1, 2, 4, 5, 7, 18, 25, 38, 39, 40, 41] ?_; dsimp only [H.keep, H.look, H.Fr.put, Nat.beq]) | (refine Gt.load ?_; (refine RW.y (Y.loadBlock rfl (by assumption) rfl) rfl ?_)) | (refine Gt.lss ?_; refine RW.y (Y.lss rfl rfl) rfl ?_))
        refine RW.storeBlock (u := #[.int .i64 x.a, .int .i64 x.b, .int .i64 (x.c + 1), .slice none 0 0]) rfl rfl rfl noCells hrr rfl (fun w7 hb7 hk7 => ?_)
        repeat' (first | (refine CL.ret ?_) | (refine Gt.nil ?_; refine RW.nilw [0, 1, 2, 4, 5, 7, 18, 25, 38, 39, 40, 41] ?_; dsimp only [H.keep, H.look, H.Fr.put, Nat.beq]))
        rw [show nextV x part = ⟨x.a, x.b, (x.c + 1), []⟩ from by unfold nextV; rw [if_neg h0, if_neg h1, if_pos (by omega)]]
        exact FQ.res1 (v := _) rfl rfl ⟨⟨_, rfl, load_block hb7 rfl⟩, trivial⟩ (⟨hKr.trans hk7 fun k h => .inr (by have h' : k = w1.heap.size := h; omega), rfl⟩)
end Go.Proofs.YtjlkmdmpejpmpaaGreatDoor.Ve

namespace Go.Proofs.YtjlkmdmpejpmpaaGreatDoor.Ve
open Go.RowKit H S
attribute [local irreducible] H.CL H.RW H.CW H.Yd H.thenK H.blockQ Go.Calls

set_option maxHeartbeats 400000 in
theorem helpStrings (v u : Value) (a b : List (List UInt8)) (w : World) (ha : Sl w 1 v a.length (sv a)) (hb : Sl w 1 u b.length (sv b)) : Calls Tryz.prog 60 #[v, u] w fun e w' => K0 w w' ∧ e = .returned (.bool (decide (a = b))) := by
  have hml : a.length ≤ 9223372036854775807 := by have := ha.2.1; simpa [maxLen] using this
  refine H.enter Tryz.func60 Tryz.ntmps60 rfl rfl ?_; dsimp only [H.args]
  repeat' (first | (refine CL.seq ?_) | (refine CL.region ?_) | (refine CL.skip ?_) | (refine CL.condP rfl (fun _ => ?_) (fun _ => ?_) <;> try (exfalso; omega)) | (refine CL.block ?_) | (refine CL.ret ?_) | (refine Gt.nil ?_; refine RW.nilw [0, 1, 4, 5, 10, 14, 25] ?_; dsimp only [H.keep, H.look, H.Fr.put, Nat.beq]) | (refine Gt.move ?_; refine RW.y (Y.move rfl) rfl ?_) | (refine Gt.assign ?_; refine RW.y (Y.assign rfl) rfl ?_) | (refine Gt.len ?_; (refine RW.y (Y.lenx rfl (by assumption)) rfl ?_)) | (refine Gt.neq ?_; (refine RW.y (Y.nei rfl rfl) rfl ?_)))
  · rename_i h
    refine FQ.one rfl rfl rfl ⟨Kept.refl _ _, ?_⟩
    rw [decide_eq_false]
    intro c; subst c; exact h rfl
  rename_i hlen
  have hlen' : a.length = b.length := by omega
  refine CL.loopS [0, 1, 5] (fun m vals wr => ∃ (i : Nat), vals = [v, u, .int .i64 (i : Int)] ∧ m = a.length - i ∧ i ≤ a.length ∧ a.take i = b.take i ∧ K0 w wr) a.length ⟨_, rfl, 0, rfl, rfl, Nat.zero_le _, rfl, Kept.refl _ _⟩ ?_
  rintro m vals wr ⟨i, rfl, rfl, hil, heq, hk⟩
  dsimp only [List.zip, List.zipWith]
  have ha' := ha.keep0 hk
  have hb' := hb.keep0 hk
  rcases Nat.lt_or_ge i a.length with hlt | hge
  · repeat' (first | (refine CL.seq ?_) | (refine CL.region ?_) | (refine CL.skip ?_) | (refine CL.condP rfl (fun _ => ?_) (fun _ => ?_) <;> try (exfalso; omega)) | (refine CL.block ?_) | (refine Gt.nil ?_; refine RW.nilw [0, 1, 4, 5, 10, 14, 25] ?_; dsimp only [H.keep, H.look, H.Fr.put, Nat.beq]) | (refine Gt.move ?_; refine RW.y (Y.move rfl) rfl ?_) | (refine Gt.len ?_; (refine RW.y (Y.lenx rfl (by assumption)) rfl ?_)) | (refine Gt.lss ?_; refine RW.y (Y.lss rfl rfl) rfl ?_))
    refine CL.draw (fun w' => Kept (fun _ => False) wr w') (by kernel_rfl) (fun w4 hheap hk4 => ?_)
    have hS : Kept (fun _ => False) wr w4 := hk4
    have hc1 : ∀ {w' : World}, K0 wr w' → w'.cell? (Value.spot v (((i : Int)).toNat * 1)) = some (vs (a.getD i [])) := fun h => by rw [Int.toNat_natCast, Nat.mul_one]; exact (ha'.keep0 h).cell (sv_at hlt)
    have hc2 : ∀ {w' : World}, K0 wr w' → w'.cell? (Value.spot u (((i : Int)).toNat * 1)) = some (vs (b.getD i [])) := fun h => by rw [Int.toNat_natCast, Nat.mul_one]; exact (hb'.keep0 h).cell (sv_at (by omega))
    skip
    refine AW.take 0 rfl (by kernel_rfl) (by kernel_rfl) (by kernel_rfl) rfl (by assumption) (fun w hS => Y.move rfl) ?_
    refine AW.take 1 rfl (by kernel_rfl) (by kernel_rfl) (by kernel_rfl) rfl (by assumption) (fun w hS => Y.move rfl) ?_
    refine AW.take 2 rfl (by kernel_rfl) (by kernel_rfl) (by kernel_rfl) rfl (by assumption) (fun w hS => Y.idx rfl rfl (ha'.keep0 hS) (by omega) (by omega)) ?_
    refine AW.take 3 rfl (by kernel_rfl) (by kernel_rfl) (by kernel_rfl) rfl (by assumption) (fun w hS => Y.load1 rfl (hc1 hS)) ?_
    refine AW.take 4 rfl (by kernel_rfl) (by kernel_rfl) (by kernel_rfl) rfl (by assumption) (fun w hS => Y.move rfl) ?_
    refine AW.take 5 rfl (by kernel_rfl) (by kernel_rfl) (by kernel_rfl) rfl (by assumption) (fun w hS => Y.move rfl) ?_
    refine AW.take 6 rfl (by kernel_rfl) (by kernel_rfl) (by kernel_rfl) rfl (by assumption) (fun w hS => Y.idx rfl rfl (hb'.keep0 hS) (by omega) (by omega)) ?_
    refine AW.take 7 rfl (by kernel_rfl) (by kernel_rfl) (by kernel_rfl) rfl (by assumption) (fun w hS => Y.load1 rfl (hc2 hS)) ?_
    refine AW.take 8 rfl (by kernel_rfl) (by kernel_rfl) (by kernel_rfl) rfl (by assumption) (fun w hS => by exact Y.nes rfl rfl) ?_
    refine AW.donew [0, 1, 5, 25] (by kernel_rfl) ?_
    dsimp only [H.keep, H.look, H.Fr.put, Nat.beq]
    repeat' (first | (refine CL.seq ?_) | (refine CL.region ?_) | (refine CL.skip ?_) | (refine CL.condP rfl (fun _ => ?_) (fun _ => ?_) <;> try (exfalso; omega)) | (refine CL.ret ?_) | (refine Rt.then ?_) | (refine Rt.block ?_) | (refine CL.done ?_) | (refine Nm.block ?_) | (refine Nm.then ?_) | (refine Gt.nil ?_; refine RW.nilw [0, 1, 4, 5, 10, 14, 25] ?_; dsimp only [H.keep, H.look, H.Fr.put, Nat.beq]) | (refine Gt.move ?_; refine RW.y (Y.move rfl) rfl ?_) | (refine Gt.assign ?_; refine RW.y (Y.assign rfl) rfl ?_) | (refine Gt.add ?_; refine RW.y (Y.add64 rfl rfl (by omega) (by omega)) rfl ?_))
    · rename_i h
      refine FQ.one rfl rfl rfl ⟨hk.trans0 hk4, ?_⟩
      rw [decide_eq_false]
      intro c; subst c; exact h rfl
    · rename_i h
      have hx : a.getD i [] = b.getD i [] := Decidable.not_not.1 h
      refine ⟨a.length - (i + 1), _, rfl, rfl, rfl, by omega, i + 1, by simp, rfl, by omega, ?_, hk.trans0 hk4⟩
      have h1 := take_snoc [] a i hlt
      have h2 := take_snoc [] b i (by omega)
      rw [h1, h2, heq]
      rw [hx]
  · have hi : i = a.length := by omega
    subst hi
    rw [List.take_length, hlen', List.take_length] at heq
    repeat' (first | (refine CL.seq ?_) | (refine CL.region ?_) | (refine CL.condP rfl (fun _ => ?_) (fun _ => ?_) <;> try (exfalso; omega)) | (refine CL.exit ?_) | (refine Ex.then ?_) | (refine Ex.hit ?_) | (refine CL.ret ?_) | (refine Gt.nil ?_; refine RW.nilw [0, 1, 4, 5, 10, 14, 25] ?_; dsimp only [H.keep, H.look, H.Fr.put, Nat.beq]) | (refine Gt.move ?_; refine RW.y (Y.move rfl) rfl ?_) | (refine Gt.assign ?_; refine RW.y (Y.assign rfl) rfl ?_) | (refine Gt.len ?_; (refine RW.y (Y.lenx rfl (by assumption)) rfl ?_)) | (refine Gt.lss ?_; refine RW.y (Y.lss rfl rfl) rfl ?_))
    refine FQ.one rfl rfl rfl ⟨hk, ?_⟩
    rw [decide_eq_true heq]

def eqV (x y : Ver) : Bool := decide (x.a = y.a) && decide (x.b = y.b) && decide (x.c = y.c) && decide (x.pre = y.pre)
theorem eqV_self (x : Ver) : eqV x x = true := by simp [eqV]

set_option maxHeartbeats 400000 in
theorem helpVersion (X Y : Value) (x y : Ver) (w : World) (hX : VerAt w X x) (hY : VerAt w Y y) : Calls Tryz.prog 34 #[X, Y] w fun e w' => K0 w w' ∧ e = .returned (.bool (eqV x y)) := by
  obtain ⟨p, rfl, hp⟩ := hX
  obtain ⟨q, rfl, hq⟩ := hY
  refine H.enter Tryz.func34 Tryz.ntmps34 rfl rfl ?_; dsimp only [H.args]
  repeat' (first | (refine CL.seq ?_) | (refine CL.region ?_))
  refine RW.box rfl rfl (fun w1 hb1 hk1 hlt1 => ?_)
  skip
  refine RW.box rfl rfl (fun w2 hb2 hk2 hlt2 => ?_)
  have hX2 : w2.heap[w.heap.size]? = some (.cells #[.int .i64 x.a, .int .i64 x.b, .int .i64 x.c, p] verT (0, 0)) := hk2.at0 hb1
  have hY2 : w2.heap[w1.heap.size]? = some (.cells #[.int .i64 y.a, .int .i64 y.b, .int .i64 y.c, q] verT (0, 0)) := hb2
  have hK2 : K0 w w2 := hk1.trans0 hk2
  repeat' (first | (refine CL.seq ?_) | (refine CL.region ?_) | (refine CL.ret ?_) | (refine Gt.nil ?_; refine RW.nilw [0, 1, 2, 3, 4] ?_; dsimp only [H.keep, H.look, H.Fr.put, Nat.beq]) | (refine Gt.fieldAddr ?_; refine RW.y (Y.fieldAddr rfl (by rfl)) rfl ?_) | (refine Gt.guard ?_; first | (refine RW.part rfl rfl rfl (fun _ => ?_) (fun _ => ?_) <;> try (exfalso; omega)) | (refine RW.on rfl rfl rfl ?_) | (refine RW.off1 rfl rfl rfl rfl rfl ?_)) | (refine Gt.load ?_; refine RW.y (Y.loadB rfl (by assumption) rfl) rfl ?_) | (refine Gt.eql ?_; refine RW.y (Y.eqi rfl rfl) rfl ?_) | (refine Gt.move ?_; refine RW.y (Y.move rfl) rfl ?_) | (refine Gt.pick ?_; first | (refine RW.y (Y.pickT rfl rfl) rfl ?_) | (refine RW.y (Y.pickF rfl rfl) rfl ?_)) | (refine Gt.assign ?_; refine RW.y (Y.assign rfl) rfl ?_))
  · rename_i h1 h2 h3
    refine RW.fn rfl rfl ((helpStrings p q x.pre y.pre w2 (hp.keep0 hK2) (hq.keep0 hK2)).mono ?_)
    rintro e w3 ⟨hk3, rfl⟩
    repeat' (first | (refine CL.ret ?_) | (refine Gt.nil ?_; refine RW.nilw [0, 1, 2, 3, 4] ?_; dsimp only [H.keep, H.look, H.Fr.put, Nat.beq]) | (refine Gt.pick ?_; (refine RW.y (Y.pickT rfl rfl) rfl ?_)) | (refine Gt.assign ?_; refine RW.y (Y.assign rfl) rfl ?_))
    exact FQ.one rfl rfl rfl ⟨hK2.trans0 hk3, by simp [eqV, h1, h2, h3]⟩
  · rename_i h1 h2 h3
    exact FQ.one rfl rfl rfl ⟨hK2, by simp [eqV, h3]⟩
  · rename_i h1 h2
    exact FQ.one rfl rfl rfl ⟨hK2, by simp [eqV, h2]⟩
  · rename_i h1
    exact FQ.one rfl rfl rfl ⟨hK2, by simp [eqV, h1]⟩

def lightB (v : Ver) : Bool := decide (v.pre.length ≤ 6) && v.pre.all (fun s => decide (s.length ≤ 30))
end Go.Proofs.YtjlkmdmpejpmpaaGreatDoor.Ve

namespace Go.Proofs.YtjlkmdmpejpmpaaGreatDoor.H
open Go.RowKit
section
variable {M : Option (Option Nat)} {P : Program} {ops : Array Oper} {Q : Post} {rest : List Oper} {f : Fr} {w : World} {d : Nat} {ty : TypeId} {pos : String} {af : Array Edge}
theorem RW.varN {t ty2 : TypeId} {pos2 : String} {af2 : Array Edge} {z : Value} {sz b : Nat} [Inf P t z sz b] [Many P t sz] {y : Operand} {u : Array Value} (hy : (f.put d (.pointer (some ⟨w.heap.size, 0, none⟩))).ev y = some (.agg u)) (hu : Nat.beq u.size sz = true) (hz : Nat.beq z.cells.size sz = true) (h1 : ∀ z ∈ u.toList, z.oneCell' = true) (hd : Nat.blt d f.n = true)
    (k : ∀ w', w'.heap[w.heap.size]? = some (.cells u t (0, 0)) → K0 w w' → w.heap.size < w'.heap.size → RW M P ops Q rest (f.put d (.pointer (some ⟨w.heap.size, 0, none⟩))) w') :
    RW M P ops Q (op1 d (.alloc t) ty pos af :: op0 (.store t (.tmp d) y) ty2 pos2 af2 :: rest) f w := by
  refine RW.alloc hd fun w1 hb1 hk1 hlt1 => ?_
  refine RW.storeBlock (g := w.heap.size) ?_ hy hu h1 hb1 hz fun w2 hb2 hk2 => ?_
  · simp [Fr.ev, Fr.put, look]
  · exact k w2 hb2 (hk1.trans hk2 fun k h => .inr (by have h' : k = w.heap.size := h; omega)) (Nat.lt_of_lt_of_le hlt1 hk2.size)
end
end Go.Proofs.YtjlkmdmpejpmpaaGreatDoor.H

namespace Go.Proofs.YtjlkmdmpejpmpaaGreatDoor.H
open Go.RowKit
section
variable {P : Program} {ops : Array Oper} {Q : Post} {f : Fr} {w : World} {S : World → Prop}
end
/-- The cells of an element of a row. -/
theorem elCells {α : Type} [Inhabited α] {w : World} {sz : Nat} {v : Value} {l : List α} {enc : α → List Value} (hs : Sl w sz v l.length (l.flatMap enc)) (he : ∀ x, (enc x).length = sz) {i : Nat} (hi : i < l.length) : ∀ (j : Nat) (u : Value), (enc (l.getD i default))[j]? = some u → w.cell? ((Value.spot v ((i : Int).toNat * sz)).add j) = some u := by
  intro j u hu
  obtain ⟨g, o, h2, h3⟩ := spot_ptr hs (by omega) (i * sz)
  have hj : j < sz := by have := (List.getElem?_eq_some_iff.1 hu).1; rw [he] at this; exact this
  rw [Int.toNat_natCast, h2, addr_add, ← h3 j]
  refine hs.cell ?_
  rw [cells_at he l i j (l.getD i default) (by simp [List.getD_eq_getElem?_getD, hi]) hj, hu]
theorem elPtr {w : World} {sz : Nat} {v : Value} {n : Nat} {xs : List Value} (hs : Sl w sz v n xs) (hn : 0 < n) (k : Nat) : ∃ g o, Value.spot v k = ⟨g, o, none⟩ := by
  obtain ⟨g, o, h2, _⟩ := spot_ptr hs hn k
  exact ⟨g, o, h2⟩
end Go.Proofs.YtjlkmdmpejpmpaaGreatDoor.H

namespace Go.Proofs.YtjlkmdmpejpmpaaGreatDoor.H
open Go.RowKit
section
variable {M : Option (Option Nat)} {P : Program} {ops : Array Oper} {Q : Post} {rest : List Oper} {f : Fr} {w : World} {d : Nat} {ty : TypeId} {pos : String} {af : Array Edge}
end
/-- So many numbers of 32 bits. -/
def Us (c : Array Value) (n : Nat) : Prop := c.size = n ∧ ∀ i, i < n → ∃ x : Int, c[i]? = some (.int .u32 x)
end Go.Proofs.YtjlkmdmpejpmpaaGreatDoor.H

namespace Go.Proofs.YtjlkmdmpejpmpaaGreatDoor.H
open Go.RowKit
section
variable {M : Option (Option Nat)} {P : Program} {ops : Array Oper} {Q : Post} {rest : List Oper} {f : Fr} {w : World} {d : Nat} {ty : TypeId} {pos : String} {af : Array Edge}
end
end Go.Proofs.YtjlkmdmpejpmpaaGreatDoor.H

namespace Go.Proofs.YtjlkmdmpejpmpaaGreatDoor.H
open Go.RowKit
/-- A kind of elements: their cells, what they point at, in which blocks that lies. -/
structure Dp (α : Type) where
  sz : Nat
  enc : α → List Value
  D : World → α → Prop
  R : α → Nat → Prop
  len : ∀ x, (enc x).length = sz
  ones : ∀ w x, D w x → ∀ z ∈ enc x, z.oneCell' = true
  keep : ∀ (S : Nat → Prop) w w' x, D w x → Kept S w w' → (∀ g, g < w.heap.size → R x g → ¬ S g) → D w' x
  lt : ∀ w x g, D w x → R x g → g < w.heap.size
theorem Dp.keep0 {α : Type} (K : Dp α) {w w' : World} {x : α} (h : K.D w x) (k : K0 w w') : K.D w' x := K.keep _ w w' x h k fun _ _ _ c => c
/-- Elements in memory. -/
def GA {α : Type} (K : Dp α) (w : World) (v : Value) (L : List α) : Prop := Sl w K.sz v L.length (L.flatMap K.enc) ∧ ∀ x ∈ L, K.D w x
theorem GA.keep0 {α : Type} {K : Dp α} {w w' : World} {v : Value} {L : List α} (h : GA K w v L) (k : K0 w w') : GA K w' v L := ⟨h.1.keep0 k, fun x hx => K.keep0 (h.2 x hx) k⟩
/-- A row of the call's own. -/
def GI {α : Type} (K : Dp α) (w : World) (B : Nat) (e : TypeId) (u : Value) (L : List α) : Prop := w.ownsRow B e K.sz u L.length (L.flatMap K.enc) ∧ ∀ x ∈ L, K.D w x ∧ ∀ g, K.R x g → u.ownBlock ≠ some g
theorem GI.nil {α : Type} (K : Dp α) (w : World) (B : Nat) (e : TypeId) : GI K w B e (.slice none 0 0) [] := ⟨World.ownsRow_nil _ _ _ _, fun x hx => by cases hx⟩
theorem GI.ga {α : Type} {K : Dp α} {w : World} {B : Nat} {e : TypeId} {u : Value} {L : List α} (h : GI K w B e u L) : GA K w u L := ⟨Sl.of_own h.1, fun x hx => (h.2 x hx).1⟩
theorem GI.keep0 {α : Type} {K : Dp α} {w w' : World} {B : Nat} {e : TypeId} {u : Value} {L : List α} (h : GI K w B e u L) (k : K0 w w') : GI K w' B e u L := ⟨own_kept0 h.1 k, fun x hx => ⟨K.keep0 (h.2 x hx).1 k, (h.2 x hx).2⟩⟩
theorem GI.keep {α : Type} {K : Dp α} {w w' : World} {B : Nat} {e : TypeId} {u : Value} {L : List α} (h : GI K w B e u L) {S : Nat → Prop} (k : Kept S w w') (hS : ∀ g, g < w.heap.size → (u.ownBlock = some g ∨ ∃ x ∈ L, K.R x g) → ¬ S g) : GI K w' B e u L :=
  ⟨own_kept h.1 k fun g hg => hS g (h.1.lt g hg).2 (.inl hg), fun x hx => ⟨K.keep _ w w' x (h.2 x hx).1 k fun g hl hr => hS g hl (.inr ⟨x, hx, hr⟩), (h.2 x hx).2⟩⟩
theorem GI.lt {α : Type} {K : Dp α} {w : World} {B : Nat} {e : TypeId} {u : Value} {L : List α} (h : GI K w B e u L) : ∀ g, u.ownBlock = some g → B ≤ g ∧ g < w.heap.size := fun g hg => h.1.lt g hg
section
variable {M : Option (Option Nat)} {P : Program} {ops : Array Oper} {Q : Post} {rest : List Oper} {f : Fr} {w : World} {d : Nat} {ty : TypeId} {pos : String} {af : Array Edge}
/-- append of one element, written out. -/
theorem RW.appG {α : Type} (K : Dp α) {t e ty1 : TypeId} {d1 : Nat} {pos1 : String} {af1 : Array Edge} {z : Value} {b : Nat} [ht : Und P t (.slice e)] [hi : Inf P e z K.sz b] {s x : Operand} {v u : Value} (y : α) (hx : f.ev x = some u) (hs : (f.put d1 (.slice (some ⟨w.heap.size, 0, none⟩) 1 1)).ev s = some v) (hd1 : Nat.blt d1 f.n = true) (hd : Nat.blt d f.n = true)
    {B : Nat} {L : List α} (h : GI K w B e v L) (hu : u.cells = (K.enc y).toArray) (hz : z.cells.size = K.sz) (hsz : Nat.blt 0 K.sz = true) (hsz2 : Nat.ble K.sz 65536 = true) (hD : K.D w y) (hR : ∀ g, K.R y g → v.ownBlock ≠ some g) (hB : B ≤ w.heap.size) (hl : L.length ≤ 1000000) (hb : Nat.ble b 100000 = true)
    (k : ∀ v' w', GI K w' B e v' (L ++ [y]) → Kept (fun k => v.ownBlock = some k) w w' → Lies w v v' → RW M P ops Q rest ((f.put d1 (.slice (some ⟨w.heap.size, 0, none⟩) 1 1)).put d v') w') :
    RW M P ops Q (op1 d1 (.buildSlice t 1 #[(0, x)]) ty1 pos1 af1 :: op1 d (.call { callee := .builtin .append, args := #[s, .tmp d1], argTypes := #[t, t] }) ty pos af :: rest) f w := by
  have hb' := ble_le hb
  have hbb : (L.length + 1) * b ≤ 1000001 * 100000 := Nat.mul_le_mul (by omega) hb'
  have hlen := K.len y
  refine RW.app1 (sz := K.sz) hx hs hd1 hd h.1 hz (by rw [hu, List.size_toArray, hlen]) hsz hsz2 (fun q hq => K.ones w y hD q (by rw [hu] at hq; simpa using hq)) hB (by omega) (by omega) fun v' w' how hk hl' => k v' w' ⟨?_, ?_⟩ hk hl'
  · rw [List.length_append, List.length_singleton, List.flatMap_append, List.flatMap_cons, List.flatMap_nil, List.append_nil]
    rw [hu] at how; simpa using how
  · intro x hx
    have hold : K.D w x ∧ ∀ g, K.R x g → v.ownBlock ≠ some g := by
      rcases List.mem_append.1 hx with hx | hx
      · exact h.2 x hx
      · rw [List.mem_singleton.1 hx]; exact ⟨hD, hR⟩
    refine ⟨K.keep _ w w' x hold.1 hk fun g _ hr => hold.2 g hr, fun g hr c => ?_⟩
    rcases hl' g c with e | e
    · exact hold.2 g hr e
    · have := K.lt w x g hold.1 hr; omega
end
end Go.Proofs.YtjlkmdmpejpmpaaGreatDoor.H

namespace Go.Proofs.YtjlkmdmpejpmpaaGreatDoor.H
open Go.RowKit
theorem cells_take {α : Type} {enc : α → List Value} {sz : Nat} (he : ∀ x, (enc x).length = sz) : ∀ (l : List α) (i : Nat), (l.flatMap enc).take (i * sz) = (l.take i).flatMap enc := by
  intro l
  induction l with
  | nil => intro i; simp
  | cons x r ih =>
    intro i
    cases i with
    | zero => simp
    | succ i => rw [List.flatMap_cons, List.take_succ_cons, List.flatMap_cons, ← ih, Nat.succ_mul, Nat.add_comm, ← he x, List.take_length_add_append]
theorem cells_drop {α : Type} {enc : α → List Value} {sz : Nat} (he : ∀ x, (enc x).length = sz) : ∀ (l : List α) (i : Nat), (l.flatMap enc).drop (i * sz) = (l.drop i).flatMap enc := by
  intro l
  induction l with
  | nil => intro i; simp
  | cons x r ih =>
    intro i
    cases i with
    | zero => simp
    | succ i => rw [List.flatMap_cons, List.drop_succ_cons, ← ih, Nat.succ_mul, Nat.add_comm, ← he x, List.drop_length_add_append]
theorem add_zeroA (x : Addr) : x.add 0 = x := by unfold Addr.add; split <;> simp_all
theorem map_add_zero (p : Option Addr) : p.map (·.add 0) = p := by cases p <;> simp [add_zeroA]
theorem Sl.upto {w : World} {sz : Nat} {p : Option Addr} {cap n : Nat} {xs : List Value} (h : Sl w sz (.slice p n cap) n xs) {a : Nat} (ha : a ≤ n) (hc : n ≤ cap) : Sl w sz (.slice p a a) a (xs.take (a * sz)) := by
  have h1 := h.sub (a := 0) (b := a) (m := a) rfl (Nat.zero_le _) ha (Nat.le_refl _) (by omega)
  simp only [Nat.zero_mul, map_add_zero, ite_self, Nat.sub_zero, List.drop_zero] at h1
  exact h1
theorem Sl.from {w : World} {sz : Nat} {p : Option Addr} {cap n : Nat} {xs : List Value} (h : Sl w sz (.slice p n cap) n xs) {a : Nat} (ha : a ≤ n) (hc : n ≤ cap) : Sl w sz (.slice (if cap = a then p else p.map (·.add (a * sz))) (n - a) (cap - a)) (n - a) (xs.drop (a * sz)) := by
  have h1 := h.sub (a := a) (b := n) (m := cap) rfl ha (Nat.le_refl _) hc (Nat.le_refl _)
  rw [List.take_of_length_le (by rw [h.1]; exact Nat.le_refl _)] at h1
  exact h1
theorem GA.upto {α : Type} {K : Dp α} {w : World} {p : Option Addr} {n cap : Nat} {L : List α} (h : GA K w (.slice p n cap) L) (hn : n = L.length) {a : Nat} (ha : a ≤ L.length) (hc : n ≤ cap) : GA K w (.slice p a a) (L.take a) := by
  subst hn
  refine ⟨?_, fun x hx => h.2 x (List.mem_of_mem_take hx)⟩
  rw [List.length_take, Nat.min_eq_left ha, ← cells_take K.len]
  exact h.1.upto ha hc
theorem GA.from {α : Type} {K : Dp α} {w : World} {p : Option Addr} {n cap : Nat} {L : List α} (h : GA K w (.slice p n cap) L) (hn : n = L.length) {a : Nat} (ha : a ≤ L.length) (hc : n ≤ cap) : GA K w (.slice (if cap = a then p else p.map (·.add (a * K.sz))) (n - a) (cap - a)) (L.drop a) := by
  subst hn
  refine ⟨?_, fun x hx => h.2 x (List.mem_of_mem_drop hx)⟩
  rw [List.length_drop, ← cells_drop K.len]
  exact h.1.from ha hc
theorem GA.shape {α : Type} {K : Dp α} {w : World} {v : Value} {L : List α} (h : GA K w v L) : ∃ p cap, v = .slice p L.length cap ∧ L.length ≤ cap := h.1.shape
theorem GA.ones {α : Type} {K : Dp α} {w : World} {v : Value} {L : List α} (h : GA K w v L) : ∀ u ∈ L.flatMap K.enc, u.oneCell' = true := by
  intro u hu
  obtain ⟨x, hx, hu⟩ := List.mem_flatMap.1 hu
  exact K.ones w x (h.2 x hx) u hu
section
variable {M : Option (Option Nat)} {P : Program} {ops : Array Oper} {Q : Post} {rest : List Oper} {f : Fr} {w : World} {d : Nat} {ty : TypeId} {pos : String} {af : Array Edge}
/-- x[:i:i] -/
theorem Y.upto {t e : TypeId} {z : Value} {sz b : Nat} [ht : Und P t (.slice e)] [Inf P e z sz b] {x y y2 : Operand} {k k2 : IntKind} {p : Option Addr} {n cap : Nat} {i : Int} (hx : f.ev x = some (.slice p n cap)) (hy : f.ev y = some (.int k i)) (hy2 : f.ev y2 = some (.int k2 i)) (h0 : 0 ≤ i) (hc : i ≤ cap) :
    Yd P f (op1 d (.slice t x none (some y) (some y2)) ty pos af) (.slice p i.toNat i.toNat) w := by
  intro a ha
  obtain ⟨m, rfl⟩ : ∃ m : Nat, i = (m : Int) := ⟨i.toNat, by omega⟩
  rw [Int.toNat_natCast]
  have hsz := run_sizeOf (P := P) (t := e) w
  have e1 : ∀ k, (Instr.sliceBound (.int k (m : Int)) cap .slice3Acap).run P w = .ok m w := fun k => by have := run_sliceBound (P := P) (w := w) k m cap .slice3Acap (by omega) (by omega); simpa using this
  have e2 : ∀ k, (Instr.sliceBound (.int k (m : Int)) m .slice3B).run P w = .ok m w := fun k => by have := run_sliceBound (P := P) (w := w) k m m .slice3B (by omega) (by omega); simpa using this
  cases p <;> simp [execOp, ha.eval hx, ha.eval hy, ha.eval hy2, Instr.sliceAt, Instr.slice, run_underlying ht.out, Instr.sliceBounds, hsz, e1, e2, Addr.add]
/-- x[i:] -/
theorem Y.from {t e : TypeId} {z : Value} {sz b : Nat} [ht : Und P t (.slice e)] [Inf P e z sz b] {x y : Operand} {k : IntKind} {p : Option Addr} {n cap : Nat} {i : Int} (hx : f.ev x = some (.slice p n cap)) (hy : f.ev y = some (.int k i)) (h0 : 0 ≤ i) (h1 : i ≤ n) (hc : n ≤ cap) :
    Yd P f (op1 d (.slice t x (some y) none none) ty pos af) (.slice (if cap = i.toNat then p else p.map (·.add (i.toNat * sz))) (n - i.toNat) (cap - i.toNat)) w := by
  intro a ha
  have hi : i = (i.toNat : Int) := by omega
  have hr := run_sub (P := P) (w := w) (t := t) (sz := sz) p n cap (some (.int k i)) none i.toNat n (.inr ⟨k, by rw [← hi]⟩) (.inl ⟨rfl, rfl⟩) (by omega) hc
  simp only [execOp, ha.eval hx, Option.map_some, Option.map_none, ha.eval hy, Sem.run_bind, hr]; rfl
/-- append of a slice's elements, also to a slice that is full. -/
theorem RW.appA {t e : TypeId} {z : Value} {sz b : Nat} [ht : Und P t (.slice e)] [hi : Inf P e z sz b] {s x : Operand} {v vx : Value} (hs : f.ev s = some v) (hx : f.ev x = some vx) (hd : Nat.blt d f.n = true) {base : Nat} (hz : z.cells.size = sz) (hsz : Nat.blt 0 sz = true) {n : Nat} {xs : List Value} {row : Option Nat}
    (hown : Ap w base e sz v n xs row) {m : Nat} {news : List Value} (hm : 0 < m) (hsrc : Sl w sz vx m news) (h1 : ∀ u ∈ news, u.oneCell' = true) (h63 : n + m ≤ 9223372036854775807) (hbytes : (n + m) * b ≤ 140737488355328) (hbase : base ≤ w.heap.size)
    (k : ∀ v' w', w'.ownsRow base e sz v' (n + m) (xs ++ news) → Kept (fun k => row = some k) w w' → LiesR w row v' → RW M P ops Q rest (f.put d v') w') :
    RW M P ops Q (op1 d (.call { callee := .builtin .append, args := #[s, x], argTypes := #[t, t] }) ty pos af :: rest) f w := by
  obtain ⟨v', w', h, h2, h3, h4⟩ := run_apA (P := P) (t := t) (u := ty) base hz (blt_lt hsz) hown hm hsrc h1 (by simpa [maxLen] using h63) hbytes hbase
  refine RW.val rfl rfl hd (fun a ha => ?_) (k v' w' h2 h3 h4)
  simp [execOp, resolve, invoke, builtin, ha.eval hs, ha.eval hx, h]
end
end Go.Proofs.YtjlkmdmpejpmpaaGreatDoor.H

namespace Go.Proofs.YtjlkmdmpejpmpaaGreatDoor.H
open Go.RowKit
section
variable {M : Option (Option Nat)} {P : Program} {ops : Array Oper} {Q : Post} {rest : List Oper} {f : Fr} {w : World} {d : Nat} {ty : TypeId} {pos : String} {af : Array Edge}
theorem Y.gtsE {t yt : TypeId} {x y : Operand} {a b : List UInt8} {c : Bool} (hx : f.ev x = some (.string (B a))) (hy : f.ev y = some (.string (B b))) (h : (!(Op.bytesLess a b || a == b)) = c) : Yd P f (op1 d (.binOp .gtr t x y yt) ty pos af) (.bool c) w := by
  have := Y.gts (P := P) (w := w) (d := d) (ty := ty) (pos := pos) (af := af) (t := t) (yt := yt) hx hy
  rwa [h] at this
theorem Y.gtrT {t yt : TypeId} {x y : Operand} {k : IntKind} {a b : Int} (hx : f.ev x = some (.int k a)) (hy : f.ev y = some (.int k b)) (h : b < a) : Yd P f (op1 d (.binOp .gtr t x y yt) ty pos af) (.bool true) w := by
  have := Y.gtr (P := P) (w := w) (d := d) (ty := ty) (pos := pos) (af := af) (t := t) (yt := yt) hx hy
  rwa [decide_eq_true h] at this
theorem Y.gtrF {t yt : TypeId} {x y : Operand} {k : IntKind} {a b : Int} (hx : f.ev x = some (.int k a)) (hy : f.ev y = some (.int k b)) (h : a ≤ b) : Yd P f (op1 d (.binOp .gtr t x y yt) ty pos af) (.bool false) w := by
  have := Y.gtr (P := P) (w := w) (d := d) (ty := ty) (pos := pos) (af := af) (t := t) (yt := yt) hx hy
  rwa [decide_eq_false (by omega)] at this
end
end Go.Proofs.YtjlkmdmpejpmpaaGreatDoor.H

namespace Go.Proofs.YtjlkmdmpejpmpaaGreatDoor.H
open Go.RowKit
section
variable {M : Option (Option Nat)} {P : Program} {ops : Array Oper} {Q : Post} {rest : List Oper} {f : Fr} {w : World} {d : Nat} {ty : TypeId} {pos : String} {af : Array Edge} {t yt : TypeId} {x y : Operand}
theorem Y.eqsE {a b : List UInt8} {c : Bool} (hx : f.ev x = some (.string (B a))) (hy : f.ev y = some (.string (B b))) (h : decide (a = b) = c) : Yd P f (op1 d (.binOp .eql t x y yt) ty pos af) (.bool c) w := by
  have := Y.eqs (P := P) (w := w) (d := d) (ty := ty) (pos := pos) (af := af) (t := t) (yt := yt) hx hy
  rwa [h] at this
theorem Y.nesE {a b : List UInt8} {c : Bool} (hx : f.ev x = some (.string (B a))) (hy : f.ev y = some (.string (B b))) (h : decide (a ≠ b) = c) : Yd P f (op1 d (.binOp .neq t x y yt) ty pos af) (.bool c) w := by
  have := Y.nes (P := P) (w := w) (d := d) (ty := ty) (pos := pos) (af := af) (t := t) (yt := yt) hx hy
  rwa [h] at this
theorem Y.ltsE {a b : List UInt8} {c : Bool} (hx : f.ev x = some (.string (B a))) (hy : f.ev y = some (.string (B b))) (h : Op.bytesLess a b = c) : Yd P f (op1 d (.binOp .lss t x y yt) ty pos af) (.bool c) w := by
  have := Y.lts (P := P) (w := w) (d := d) (ty := ty) (pos := pos) (af := af) (t := t) (yt := yt) hx hy
  rwa [h] at this
theorem Y.eqiE {k : IntKind} {a b : Int} {c : Bool} (hx : f.ev x = some (.int k a)) (hy : f.ev y = some (.int k b)) (h : decide (a = b) = c) : Yd P f (op1 d (.binOp .eql t x y yt) ty pos af) (.bool c) w := by
  have := Y.eqi (P := P) (w := w) (d := d) (ty := ty) (pos := pos) (af := af) (t := t) (yt := yt) hx hy
  rwa [h] at this
theorem Y.neiE {k : IntKind} {a b : Int} {c : Bool} (hx : f.ev x = some (.int k a)) (hy : f.ev y = some (.int k b)) (h : decide (a ≠ b) = c) : Yd P f (op1 d (.binOp .neq t x y yt) ty pos af) (.bool c) w := by
  have := Y.nei (P := P) (w := w) (d := d) (ty := ty) (pos := pos) (af := af) (t := t) (yt := yt) hx hy
  rwa [h] at this
theorem Y.lssE {k : IntKind} {a b : Int} {c : Bool} (hx : f.ev x = some (.int k a)) (hy : f.ev y = some (.int k b)) (h : decide (a < b) = c) : Yd P f (op1 d (.binOp .lss t x y yt) ty pos af) (.bool c) w := by
  have := Y.lss (P := P) (w := w) (d := d) (ty := ty) (pos := pos) (af := af) (t := t) (yt := yt) hx hy
  rwa [h] at this
end
end Go.Proofs.YtjlkmdmpejpmpaaGreatDoor.H

