/-
  Needs and manifests in memory; held against one another. Regions that draw their order and end in writes, with operations between the writes that touch no memory. Needs put in order in place by the library. Lines, names among needs, needs put in order: the program's, the reference's. Rules: several cells written into a block; a row that grew by one. clear of a slice: its cells are written anew. Needs taken away in place by the library. A need read, a line read: the program's. A line read: the program's. A manifest read: the program's. A manifest without a need: the program's, the reference's. The reference: a need read; a need put among needs. The reference: a need put among needs in order. A manifest read: the reference's. A manifest with a need: the program's; a manifest without one: the reference's.
-/
import Derived.Test.YtjlkmdmpejpmpaaGreatDoorRc
import Derived.Test.YtjlkmdmpejpmpaaGreatDoorRb
set_option linter.unusedVariables false
namespace Go.Proofs.YtjlkmdmpejpmpaaGreatDoor.Ma
open Go.RowKit H S Ve Sp
attribute [local irreducible] H.CL H.RW H.CW H.Yd H.thenK H.blockQ Go.Calls

def OrOn (A : Nat → Prop) (w : World) (p : Value) (o : List (List Bd)) : Prop := ∃ R : List (List Bd × Value), R.map (·.1) = o ∧ Sl w 1 p R.length (R.map (·.2)) ∧ (∀ g, live p = some g → A g) ∧ ∀ x ∈ R, BdsOn A w x.2 x.1
theorem OrNew.on {B : Nat} {w : World} {p : Value} {o : List (List Bd)} (h : OrNew B w p o) : OrOn (fun g => B ≤ g ∧ g < w.heap.size) w p o := by
  obtain ⟨R, h1, h2, h3, h4⟩ := h
  exact ⟨R, h1, h2, fun g hg => ⟨h3 g hg, h2.lt hg⟩, fun x hx => (h4 x hx).on.mono fun g hl hA => ⟨hA, hl⟩⟩
theorem OrOn.at {A : Nat → Prop} {w : World} {p : Value} {o : List (List Bd)} (h : OrOn A w p o) : OrAt w p o := by
  obtain ⟨R, h1, h2, _, h4⟩ := h
  exact ⟨R, h1, h2, fun x hx => (h4 x hx).at⟩
theorem OrOn.keep {A S : Nat → Prop} {w w' : World} {p : Value} {o : List (List Bd)} (h : OrOn A w p o) (k : Kept S w w') (hS : ∀ g, g < w.heap.size → A g → ¬ S g) : OrOn A w' p o := by
  obtain ⟨R, h1, h2, h3, h4⟩ := h
  exact ⟨R, h1, h2.keep k fun g hg => hS g (h2.lt hg) (h3 g hg), h3, fun x hx => (h4 x hx).keep k hS⟩
theorem OrOn.one {A : Nat → Prop} {w : World} {p : Value} {o : List (List Bd)} (h : OrOn A w p o) : p.oneCell' = true := by
  obtain ⟨R, h1, h2, _⟩ := h; exact h2.one

/-- It in memory: the pointer of its bounds, the blocks that they lie in. -/
structure Np where
  d : Nd
  p : Value
  A : Nat → Prop
instance : Inhabited Np := ⟨⟨default, .slice none 0 0, fun _ => False⟩⟩
def npC (x : Np) : List Value := [vs x.d.name, .bool x.d.sp.any, x.p, vs x.d.text]
def ndK : Dp Np where
  sz := 4
  enc := npC
  D := fun w x => OrOn x.A w x.p x.d.sp.or ∧ ∀ g, x.A g → g < w.heap.size
  R := fun x g => x.A g
  len := fun _ => rfl
  ones := fun w x h z hz => by
    simp [npC] at hz
    rcases hz with rfl | rfl | rfl | rfl <;> first | rfl | exact h.1.one
  keep := fun S w w' x h k hS => ⟨h.1.keep k fun g hl hA => hS g hl hA, fun g hg => Nat.lt_of_lt_of_le (h.2 g hg) k.size⟩
  lt := fun w x g h hg => h.2 g hg
abbrev ndT : TypeId := 47
abbrev mfT : TypeId := 28
/-- The cells of a manifest: the pointers of its marks, of its needs. -/
def mfC (m : Mf) (p q : Value) : List Value := [vs m.name, .int .i64 m.v.a, .int .i64 m.v.b, .int .i64 m.v.c, p, q]
/-- A manifest in memory. -/
def MfAt (w : World) (V : Value) (m : Mf) : Prop := ∃ (p q : Value) (L : List Np), V = .agg (mfC m p q).toArray ∧ Sl w 1 p m.v.pre.length (sv m.v.pre) ∧ GA ndK w q L ∧ L.map (·.d) = m.needs
theorem MfAt.keep0 {w w' : World} {V : Value} {m : Mf} (h : MfAt w V m) (k : K0 w w') : MfAt w' V m := by
  obtain ⟨p, q, L, h1, h2, h3, h4⟩ := h
  exact ⟨p, q, L, h1, h2.keep0 k, h3.keep0 k, h4⟩
theorem mfC_one {m : Mf} {p q : Value} (h1 : p.oneCell' = true) (h2 : q.oneCell' = true) : ∀ z ∈ mfC m p q, z.oneCell' = true := by
  intro z hz
  simp [mfC] at hz
  rcases hz with rfl | rfl | rfl | rfl | rfl | rfl <;> first | rfl | exact h1 | exact h2
theorem mfVer {w : World} {g : Nat} {m : Mf} {p q : Value} {e : TypeId} {fz : Nat × Nat} (h : w.heap[g]? = some (.cells (mfC m p q).toArray e fz)) : ∀ j u, ([.int .i64 m.v.a, .int .i64 m.v.b, .int .i64 m.v.c, p] : List Value)[j]? = some u → w.cell? ((⟨g, 0 + 1, none⟩ : Addr).add j) = some u := fun j u hu => by
  have hj : j < 4 := (List.getElem?_eq_some_iff.1 hu).1
  rw [addr_add, cell_row (off := 0) h]
  rcases (by omega : j = 0 ∨ j = 1 ∨ j = 2 ∨ j = 3) with rfl | rfl | rfl | rfl <;> exact hu
theorem npSpan {w : World} {g o : Nat} {y : Np} (h : ∀ j u, (npC y)[j]? = some u → w.cell? ⟨g, o + j, none⟩ = some u) : ∀ j u, ([.bool y.d.sp.any, y.p] : List Value)[j]? = some u → w.cell? ((⟨g, o + 1, none⟩ : Addr).add j) = some u := fun j u hu => by
  have hj : j < 2 := (List.getElem?_eq_some_iff.1 hu).1
  have h2 := h (1 + j) u (by
    have : j = 0 ∨ j = 1 := by omega
    rcases this with rfl | rfl <;> exact hu)
  rw [addr_add, Nat.add_assoc]; exact h2
theorem helpNeeds (v u : Value) (N M : List Np) (w : World) (hv : GA ndK w v N) (hu : GA ndK w u M) (he : N.map (·.d) = M.map (·.d)) : Calls Tryz.prog 35 #[v, u] w fun e w' => K0 w w' ∧ e = .returned (.bool true) := by
  have hlen : N.length = M.length := by simpa using congrArg List.length he
  have hs := hv.1
  have ht := hu.1
  have hmx : N.length ≤ 9223372036854775807 := by have := hs.2.1; simpa [maxLen] using this
  refine H.enter Tryz.func35 Tryz.ntmps35 rfl rfl ?_; dsimp only [H.args]
  repeat' (first | (refine CL.seq ?_) | (refine CL.region ?_) | (refine CL.skip ?_) | (refine CL.condP rfl (fun _ => ?_) (fun _ => ?_) <;> try (exfalso; omega)) | (refine CL.condT rfl ?_) | (refine CL.condF rfl ?_) | (refine CL.cond rfl (fun _ => ?_) (fun _ => ?_)) | (refine CL.block ?_) | (refine CL.exit ?_) | (refine Ex.then ?_) | (refine Ex.hit ?_) | (refine Ex.miss rfl ?_) | (refine CL.ret ?_) | (refine Rt.then ?_) | (refine Rt.block ?_) | (refine Pn.then ?_) | (refine Pn.block ?_) | (refine CL.done ?_) | (refine Nm.block ?_) | (refine Nm.then ?_) | (refine Gt.nil ?_; refine RW.nilw [0, 1, 4, 5, 10, 14, 54] ?_; dsimp only [H.keep, H.look, H.Fr.put, Nat.beq]) | (refine Gt.move ?_; refine RW.y (Y.move rfl) rfl ?_) | (refine Gt.guard ?_; first | (refine RW.part rfl rfl rfl (fun _ => ?_) (fun _ => ?_) <;> try (exfalso; omega)) | (refine RW.on rfl rfl rfl ?_) | (refine RW.off1 rfl rfl rfl rfl rfl ?_) | (refine RW.off rfl rfl rfl rfl rfl ?_) | (refine RW.offu rfl rfl rfl rfl ?_) | (refine RW.partb rfl rfl rfl (fun _ => ?_) (fun _ => ?_))) | (refine Gt.assign ?_; refine RW.y (Y.assign rfl) rfl ?_) | (refine Gt.idx ?_; first | (refine RW.elemF rfl rfl rfl rfl rfl rfl (by assumption) (fun _ => by rfl) rfl (by omega) (by omega) (by rfl) (fun _ _ => ?_)) | (refine RW.elemA rfl rfl rfl rfl (by assumption) (fun _ => by rfl) rfl (by omega) (by omega) (fun _ => ?_))) | (refine Gt.fieldAddr ?_; refine RW.y (Y.fieldAddr rfl (by rfl)) rfl ?_) | (refine Gt.load ?_; first | (refine RW.y (Y.loadB rfl (by assumption) rfl) rfl ?_) | (refine RW.y (Y.loadBlock rfl (by assumption) rfl) rfl ?_)) | (refine Gt.len ?_; first | (refine RW.y (Y.lenv rfl) rfl ?_) | (refine RW.y (Y.lenx rfl (by assumption)) rfl ?_)) | (refine Gt.neq ?_; first | (refine RW.y (Y.nes rfl rfl) rfl ?_) | (refine RW.y (Y.nei rfl rfl) rfl ?_)) | (refine Gt.pick ?_; first | (refine RW.y (Y.pickT rfl rfl) rfl ?_) | (refine RW.y (Y.pickF rfl rfl) rfl ?_)) | (refine Gt.lss ?_; refine RW.y (Y.lss rfl rfl) rfl ?_) | (refine Gt.not ?_; first | (refine RW.y (Y.not rfl) rfl ?_) | (refine RW.y (Y.notb rfl) rfl ?_)) | (refine Gt.add ?_; refine RW.y (Y.add64 rfl rfl (by omega) (by omega)) rfl ?_))
  refine CL.loopS [0, 1, 5] (fun k vals wr => ∃ i : Nat, vals = [v, u, .int .i64 (i : Int)] ∧ k = N.length - i ∧ i ≤ N.length ∧ K0 w wr) N.length ⟨_, rfl, 0, rfl, rfl, Nat.zero_le _, Kept.refl _ _⟩ ?_
  rintro k vals wr ⟨i, rfl, rfl, hi, hkr⟩
  dsimp only [List.zip, List.zipWith]
  have hvr := hv.keep0 hkr
  have hur := hu.keep0 hkr
  have hsr := hvr.1
  have htr := hur.1
  rcases Nat.lt_or_ge i N.length with hlt | hge
  · have hti : ((i : Int)).toNat = i := Int.toNat_natCast i
    obtain ⟨g1, o1, hsp1, hcl1⟩ := elSpot hsr ndK.len (i := (i : Int)) (by omega) (by omega)
    obtain ⟨g2, o2, hsp2, hcl2⟩ := elSpot htr ndK.len (i := (i : Int)) (by omega) (by omega)
    have hm1 : N.getD ((i : Int)).toNat default ∈ N := mem_getD default (by omega)
    have hm2 : M.getD ((i : Int)).toNat default ∈ M := mem_getD default (by omega)
    have hd : (N.getD ((i : Int)).toNat default).d = (M.getD ((i : Int)).toNat default).d := by
      rw [← getD_map (·.d) default default N _ (by omega), ← getD_map (·.d) default default M _ (by omega), he]
    have hD1 := (hvr.2 _ hm1).1
    have hD2 := (hur.2 _ hm2).1
    generalize N.getD ((i : Int)).toNat default = x at *
    generalize M.getD ((i : Int)).toNat default = y at *
    have hn1 : decide (x.d.name ≠ y.d.name) = false := by rw [hd]; simp
    have hn2 : decide (x.d.text ≠ y.d.text) = false := by rw [hd]; simp
    repeat' (first | (refine CL.seq ?_) | (refine CL.region ?_) | (refine CL.skip ?_) | (refine CL.condP rfl (fun _ => ?_) (fun _ => ?_) <;> try (exfalso; omega)) | (refine CL.condT rfl ?_) | (refine CL.condF rfl ?_) | (refine CL.cond rfl (fun _ => ?_) (fun _ => ?_)) | (refine CL.block ?_) | (refine CL.exit ?_) | (refine Ex.then ?_) | (refine Ex.hit ?_) | (refine Ex.miss rfl ?_) | (refine CL.ret ?_) | (refine Rt.then ?_) | (refine Rt.block ?_) | (refine Pn.then ?_) | (refine Pn.block ?_) | (refine CL.done ?_) | (refine Nm.block ?_) | (refine Nm.then ?_) | (refine Gt.nil ?_; refine RW.nilw [0, 1, 4, 5, 10, 14, 54] ?_; dsimp only [H.keep, H.look, H.Fr.put, Nat.beq]) | (refine Gt.move ?_; refine RW.y (Y.move rfl) rfl ?_) | (refine Gt.guard ?_; first | (refine RW.part rfl rfl rfl (fun _ => ?_) (fun _ => ?_) <;> try (exfalso; omega)) | (refine RW.on rfl rfl rfl ?_) | (refine RW.off1 rfl rfl rfl rfl rfl ?_) | (refine RW.off rfl rfl rfl rfl rfl ?_) | (refine RW.offu rfl rfl rfl rfl ?_) | (refine RW.partb rfl rfl rfl (fun _ => ?_) (fun _ => ?_))) | (refine Gt.assign ?_; refine RW.y (Y.assign rfl) rfl ?_) | (refine Gt.idx ?_; first | (refine RW.elemF rfl rfl rfl rfl rfl rfl (by assumption) (fun _ => by rfl) rfl (by omega) (by omega) (by rfl) (fun _ _ => ?_)) | (refine RW.elemA rfl rfl rfl rfl (by assumption) (fun _ => by rfl) rfl (by omega) (by omega) (fun _ => ?_))) | (refine Gt.fieldAddr ?_; refine RW.y (Y.fieldAddr rfl (by rfl)) rfl ?_) | (refine Gt.load ?_; first | (refine RW.y (Y.loadB rfl (by assumption) rfl) rfl ?_) | (refine RW.y (Y.loadBlock rfl (by assumption) rfl) rfl ?_)) | (refine Gt.len ?_; first | (refine RW.y (Y.lenv rfl) rfl ?_) | (refine RW.y (Y.lenx rfl (by assumption)) rfl ?_)) | (refine Gt.neq ?_; first | (refine RW.y (Y.nes rfl rfl) rfl ?_) | (refine RW.y (Y.nei rfl rfl) rfl ?_)) | (refine Gt.pick ?_; first | (refine RW.y (Y.pickT rfl rfl) rfl ?_) | (refine RW.y (Y.pickF rfl rfl) rfl ?_)) | (refine Gt.lss ?_; refine RW.y (Y.lss rfl rfl) rfl ?_) | (refine Gt.not ?_; first | (refine RW.y (Y.not rfl) rfl ?_) | (refine RW.y (Y.notb rfl) rfl ?_)) | (refine Gt.add ?_; refine RW.y (Y.add64 rfl rfl (by omega) (by omega)) rfl ?_))
    refine CL.draw (fun w' => K0 wr w') (by kernel_rfl) (fun w1 hheap hk1 => ?_)
    have hS : K0 wr w1 := hk1
    skip
    refine AW.take 0 rfl (by kernel_rfl) (by kernel_rfl) (by kernel_rfl) rfl (by assumption) (fun w hS => Y.move rfl) ?_
    refine AW.take 1 rfl (by kernel_rfl) (by kernel_rfl) (by kernel_rfl) rfl (by assumption) (fun w hS => Y.move rfl) ?_
    refine AW.take 2 rfl (by kernel_rfl) (by kernel_rfl) (by kernel_rfl) rfl (by assumption) (fun w hS => Y.idx rfl rfl (hsr.keep0 hS) (by omega) (by omega)) ?_
    refine AW.take 3 rfl (by kernel_rfl) (by kernel_rfl) (by kernel_rfl) rfl (by assumption) (fun w hS => Y.fieldAddr (congrArg (fun a => some (Value.pointer (some a))) hsp1) (by rfl)) ?_
    refine AW.take 4 rfl (by kernel_rfl) (by kernel_rfl) (by kernel_rfl) rfl (by assumption) (fun w hS => Y.load1A rfl (hcl1 _ hS 0 _ rfl)) ?_
    refine AW.take 5 rfl (by kernel_rfl) (by kernel_rfl) (by kernel_rfl) rfl (by assumption) (fun w hS => Y.move rfl) ?_
    refine AW.take 6 rfl (by kernel_rfl) (by kernel_rfl) (by kernel_rfl) rfl (by assumption) (fun w hS => Y.move rfl) ?_
    refine AW.take 7 rfl (by kernel_rfl) (by kernel_rfl) (by kernel_rfl) rfl (by assumption) (fun w hS => Y.idx rfl rfl (htr.keep0 hS) (by omega) (by omega)) ?_
    refine AW.take 8 rfl (by kernel_rfl) (by kernel_rfl) (by kernel_rfl) rfl (by assumption) (fun w hS => Y.fieldAddr (congrArg (fun a => some (Value.pointer (some a))) hsp2) (by rfl)) ?_
    refine AW.take 9 rfl (by kernel_rfl) (by kernel_rfl) (by kernel_rfl) rfl (by assumption) (fun w hS => Y.load1A rfl (hcl2 _ hS 0 _ rfl)) ?_
    refine AW.take 10 rfl (by kernel_rfl) (by kernel_rfl) (by kernel_rfl) rfl (by assumption) (fun w hS => Y.nesE rfl rfl hn1) ?_
    refine AW.take 11 rfl (by kernel_rfl) (by kernel_rfl) (by kernel_rfl) rfl (by assumption) (fun w hS => Y.move rfl) ?_
    refine AW.takeOn 12 rfl (by kernel_rfl) (by kernel_rfl) (by kernel_rfl) rfl rfl rfl rfl (by assumption) (fun w hS => Y.move rfl) ?_
    refine AW.takeOn 13 rfl (by kernel_rfl) (by kernel_rfl) (by kernel_rfl) rfl rfl rfl rfl (by assumption) (fun w hS => Y.move rfl) ?_
    refine AW.takeOn 14 rfl (by kernel_rfl) (by kernel_rfl) (by kernel_rfl) rfl rfl rfl rfl (by assumption) (fun w hS => Y.idx rfl rfl (hsr.keep0 hS) (by omega) (by omega)) ?_
    refine AW.takeOn 15 rfl (by kernel_rfl) (by kernel_rfl) (by kernel_rfl) rfl rfl rfl rfl (by assumption) (fun w hS => Y.fieldAddr (congrArg (fun a => some (Value.pointer (some a))) hsp1) (by rfl)) ?_
    refine AW.takeOn 16 rfl (by kernel_rfl) (by kernel_rfl) (by kernel_rfl) rfl rfl rfl rfl (by assumption) (fun w hS => Y.load1A rfl (hcl1 _ hS 3 _ rfl)) ?_
    refine AW.takeOn 17 rfl (by kernel_rfl) (by kernel_rfl) (by kernel_rfl) rfl rfl rfl rfl (by assumption) (fun w hS => Y.move rfl) ?_
    refine AW.takeOn 18 rfl (by kernel_rfl) (by kernel_rfl) (by kernel_rfl) rfl rfl rfl rfl (by assumption) (fun w hS => Y.move rfl) ?_
    refine AW.takeOn 19 rfl (by kernel_rfl) (by kernel_rfl) (by kernel_rfl) rfl rfl rfl rfl (by assumption) (fun w hS => Y.idx rfl rfl (htr.keep0 hS) (by omega) (by omega)) ?_
    refine AW.takeOn 20 rfl (by kernel_rfl) (by kernel_rfl) (by kernel_rfl) rfl rfl rfl rfl (by assumption) (fun w hS => Y.fieldAddr (congrArg (fun a => some (Value.pointer (some a))) hsp2) (by rfl)) ?_
    refine AW.takeOn 21 rfl (by kernel_rfl) (by kernel_rfl) (by kernel_rfl) rfl rfl rfl rfl (by assumption) (fun w hS => Y.load1A rfl (hcl2 _ hS 3 _ rfl)) ?_
    refine AW.takeOn 22 rfl (by kernel_rfl) (by kernel_rfl) (by kernel_rfl) rfl rfl rfl rfl (by assumption) (fun w hS => Y.nesE rfl rfl hn2) ?_
    refine AW.take 23 rfl (by kernel_rfl) (by kernel_rfl) (by kernel_rfl) rfl (by assumption) (fun w hS => by first | exact Y.pickT rfl rfl | exact Y.pickF rfl rfl) ?_
    refine AW.take 24 rfl (by kernel_rfl) (by kernel_rfl) (by kernel_rfl) rfl (by assumption) (fun w hS => Y.move rfl) ?_
    refine AW.takeOn 25 rfl (by kernel_rfl) (by kernel_rfl) (by kernel_rfl) rfl rfl rfl rfl (by assumption) (fun w hS => Y.move rfl) ?_
    refine AW.takeOn 26 rfl (by kernel_rfl) (by kernel_rfl) (by kernel_rfl) rfl rfl rfl rfl (by assumption) (fun w hS => Y.move rfl) ?_
    refine AW.takeOn 27 rfl (by kernel_rfl) (by kernel_rfl) (by kernel_rfl) rfl rfl rfl rfl (by assumption) (fun w hS => Y.idx rfl rfl (hsr.keep0 hS) (by omega) (by omega)) ?_
    refine AW.takeOn 28 rfl (by kernel_rfl) (by kernel_rfl) (by kernel_rfl) rfl rfl rfl rfl (by assumption) (fun w hS => Y.fieldAddr (congrArg (fun a => some (Value.pointer (some a))) hsp1) (by rfl)) ?_
    refine AW.takeOn 29 rfl (by kernel_rfl) (by kernel_rfl) (by kernel_rfl) rfl rfl rfl rfl (by assumption) (fun w hS => Y.loadN (cs := [_, _]) rfl rfl (npSpan (hcl1 _ hS))) ?_
    refine AW.takeOn 30 rfl (by kernel_rfl) (by kernel_rfl) (by kernel_rfl) rfl rfl rfl rfl (by assumption) (fun w hS => Y.move rfl) ?_
    refine AW.takeOn 31 rfl (by kernel_rfl) (by kernel_rfl) (by kernel_rfl) rfl rfl rfl rfl (by assumption) (fun w hS => Y.move rfl) ?_
    refine AW.takeOn 32 rfl (by kernel_rfl) (by kernel_rfl) (by kernel_rfl) rfl rfl rfl rfl (by assumption) (fun w hS => Y.idx rfl rfl (htr.keep0 hS) (by omega) (by omega)) ?_
    refine AW.takeOn 33 rfl (by kernel_rfl) (by kernel_rfl) (by kernel_rfl) rfl rfl rfl rfl (by assumption) (fun w hS => Y.fieldAddr (congrArg (fun a => some (Value.pointer (some a))) hsp2) (by rfl)) ?_
    refine AW.takeOn 34 rfl (by kernel_rfl) (by kernel_rfl) (by kernel_rfl) rfl rfl rfl rfl (by assumption) (fun w hS => Y.loadN (cs := [_, _]) rfl rfl (npSpan (hcl2 _ hS))) ?_
    refine AW.next 35 rfl (by kernel_rfl) ?_
    refine RW.on rfl rfl rfl ?_
    refine RW.fn rfl rfl ((helpSpanS _ _ x.d.sp w1 ⟨_, rfl, (OrOn.at hD1).keep0 hk1⟩ ⟨_, by rw [hd], by rw [hd]; exact (OrOn.at hD2).keep0 hk1⟩).mono ?_)
    rintro e w2 ⟨hk2, rfl⟩
    refine RW.nil (Nm.then (rebase0 hS hk2 fun hS => ?_))
    refine AW.takeOn 36 rfl (by kernel_rfl) (by kernel_rfl) (by kernel_rfl) rfl rfl rfl rfl (by assumption) (fun w hS => by first | exact Y.not rfl | exact Y.notb rfl | exact Y.neg64 rfl (by omega) (by omega)) ?_
    refine AW.take 37 rfl (by kernel_rfl) (by kernel_rfl) (by kernel_rfl) rfl (by assumption) (fun w hS => by first | exact Y.pickT rfl rfl | exact Y.pickF rfl rfl) ?_
    refine AW.donew [0, 1, 5, 54] (by kernel_rfl) ?_
    dsimp only [H.keep, H.look, H.Fr.put, Nat.beq]
    repeat' (first | (refine CL.seq ?_) | (refine CL.region ?_) | (refine CL.skip ?_) | (refine CL.condP rfl (fun _ => ?_) (fun _ => ?_) <;> try (exfalso; omega)) | (refine CL.condT rfl ?_) | (refine CL.condF rfl ?_) | (refine CL.cond rfl (fun _ => ?_) (fun _ => ?_)) | (refine CL.block ?_) | (refine CL.exit ?_) | (refine Ex.then ?_) | (refine Ex.hit ?_) | (refine Ex.miss rfl ?_) | (refine CL.ret ?_) | (refine Rt.then ?_) | (refine Rt.block ?_) | (refine Pn.then ?_) | (refine Pn.block ?_) | (refine CL.done ?_) | (refine Nm.block ?_) | (refine Nm.then ?_) | (refine Gt.nil ?_; refine RW.nilw [0, 1, 4, 5, 10, 14, 54] ?_; dsimp only [H.keep, H.look, H.Fr.put, Nat.beq]) | (refine Gt.move ?_; refine RW.y (Y.move rfl) rfl ?_) | (refine Gt.guard ?_; first | (refine RW.part rfl rfl rfl (fun _ => ?_) (fun _ => ?_) <;> try (exfalso; omega)) | (refine RW.on rfl rfl rfl ?_) | (refine RW.off1 rfl rfl rfl rfl rfl ?_) | (refine RW.off rfl rfl rfl rfl rfl ?_) | (refine RW.offu rfl rfl rfl rfl ?_) | (refine RW.partb rfl rfl rfl (fun _ => ?_) (fun _ => ?_))) | (refine Gt.assign ?_; refine RW.y (Y.assign rfl) rfl ?_) | (refine Gt.idx ?_; first | (refine RW.elemF rfl rfl rfl rfl rfl rfl (by assumption) (fun _ => by rfl) rfl (by omega) (by omega) (by rfl) (fun _ _ => ?_)) | (refine RW.elemA rfl rfl rfl rfl (by assumption) (fun _ => by rfl) rfl (by omega) (by omega) (fun _ => ?_))) | (refine Gt.fieldAddr ?_; refine RW.y (Y.fieldAddr rfl (by rfl)) rfl ?_) | (refine Gt.load ?_; first | (refine RW.y (Y.loadB rfl (by assumption) rfl) rfl ?_) | (refine RW.y (Y.loadBlock rfl (by assumption) rfl) rfl ?_)) | (refine Gt.len ?_; first | (refine RW.y (Y.lenv rfl) rfl ?_) | (refine RW.y (Y.lenx rfl (by assumption)) rfl ?_)) | (refine Gt.neq ?_; first | (refine RW.y (Y.nes rfl rfl) rfl ?_) | (refine RW.y (Y.nei rfl rfl) rfl ?_)) | (refine Gt.pick ?_; first | (refine RW.y (Y.pickT rfl rfl) rfl ?_) | (refine RW.y (Y.pickF rfl rfl) rfl ?_)) | (refine Gt.lss ?_; refine RW.y (Y.lss rfl rfl) rfl ?_) | (refine Gt.not ?_; first | (refine RW.y (Y.not rfl) rfl ?_) | (refine RW.y (Y.notb rfl) rfl ?_)) | (refine Gt.add ?_; refine RW.y (Y.add64 rfl rfl (by omega) (by omega)) rfl ?_))
    exact ⟨N.length - (i + 1), _, rfl, rfl, rfl, by omega, i + 1, rfl, rfl, by omega, hkr.trans0 (hk1.trans0 hk2)⟩
  · have hi : i = N.length := by omega
    subst hi
    repeat' (first | (refine CL.seq ?_) | (refine CL.region ?_) | (refine CL.skip ?_) | (refine CL.condP rfl (fun _ => ?_) (fun _ => ?_) <;> try (exfalso; omega)) | (refine CL.condT rfl ?_) | (refine CL.condF rfl ?_) | (refine CL.cond rfl (fun _ => ?_) (fun _ => ?_)) | (refine CL.block ?_) | (refine CL.exit ?_) | (refine Ex.then ?_) | (refine Ex.hit ?_) | (refine Ex.miss rfl ?_) | (refine CL.ret ?_) | (refine Rt.then ?_) | (refine Rt.block ?_) | (refine Pn.then ?_) | (refine Pn.block ?_) | (refine CL.done ?_) | (refine Nm.block ?_) | (refine Nm.then ?_) | (refine Gt.nil ?_; refine RW.nilw [0, 1, 4, 5, 10, 14, 54] ?_; dsimp only [H.keep, H.look, H.Fr.put, Nat.beq]) | (refine Gt.move ?_; refine RW.y (Y.move rfl) rfl ?_) | (refine Gt.guard ?_; first | (refine RW.part rfl rfl rfl (fun _ => ?_) (fun _ => ?_) <;> try (exfalso; omega)) | (refine RW.on rfl rfl rfl ?_) | (refine RW.off1 rfl rfl rfl rfl rfl ?_) | (refine RW.off rfl rfl rfl rfl rfl ?_) | (refine RW.offu rfl rfl rfl rfl ?_) | (refine RW.partb rfl rfl rfl (fun _ => ?_) (fun _ => ?_))) | (refine Gt.assign ?_; refine RW.y (Y.assign rfl) rfl ?_) | (refine Gt.idx ?_; first | (refine RW.elemF rfl rfl rfl rfl rfl rfl (by assumption) (fun _ => by rfl) rfl (by omega) (by omega) (by rfl) (fun _ _ => ?_)) | (refine RW.elemA rfl rfl rfl rfl (by assumption) (fun _ => by rfl) rfl (by omega) (by omega) (fun _ => ?_))) | (refine Gt.fieldAddr ?_; refine RW.y (Y.fieldAddr rfl (by rfl)) rfl ?_) | (refine Gt.load ?_; first | (refine RW.y (Y.loadB rfl (by assumption) rfl) rfl ?_) | (refine RW.y (Y.loadBlock rfl (by assumption) rfl) rfl ?_)) | (refine Gt.len ?_; first | (refine RW.y (Y.lenv rfl) rfl ?_) | (refine RW.y (Y.lenx rfl (by assumption)) rfl ?_)) | (refine Gt.neq ?_; first | (refine RW.y (Y.nes rfl rfl) rfl ?_) | (refine RW.y (Y.nei rfl rfl) rfl ?_)) | (refine Gt.pick ?_; first | (refine RW.y (Y.pickT rfl rfl) rfl ?_) | (refine RW.y (Y.pickF rfl rfl) rfl ?_)) | (refine Gt.lss ?_; refine RW.y (Y.lss rfl rfl) rfl ?_) | (refine Gt.not ?_; first | (refine RW.y (Y.not rfl) rfl ?_) | (refine RW.y (Y.notb rfl) rfl ?_)) | (refine Gt.add ?_; refine RW.y (Y.add64 rfl rfl (by omega) (by omega)) rfl ?_))
    exact FQ.one rfl rfl rfl ⟨hkr, rfl⟩

theorem helpManifest (X Y : Value) (m : Mf) (w : World) (hX : MfAt w X m) (hY : MfAt w Y m) : Calls Tryz.prog 12 #[X, Y] w fun e w' => K0 w w' ∧ e = .returned (.bool true) := by
  obtain ⟨p, q, N, rfl, hp, hq, hN⟩ := hX
  obtain ⟨p2, q2, M, rfl, hp2, hq2, hM⟩ := hY
  refine H.enter Tryz.func12 Tryz.ntmps12 rfl rfl ?_; dsimp only [H.args]
  refine CL.seq ?_
  refine CL.region ?_
  refine RW.box rfl rfl (fun w1 hb1 hk1 hlt1 => ?_)
  refine RW.box rfl rfl (fun w2 hb2 hk2 hlt2 => ?_)
  have hb1' : w2.heap[w.heap.size]? = some (.cells (mfC m p q).toArray mfT (0, 0)) := hk2.at0 hb1
  have hb2' : w2.heap[w1.heap.size]? = some (.cells (mfC m p2 q2).toArray mfT (0, 0)) := hb2
  clear hb1 hb2
  have hK := hk1.trans0 hk2
  repeat' (first | (refine CL.seq ?_) | (refine CL.region ?_) | (refine CL.skip ?_) | (refine CL.condP rfl (fun _ => ?_) (fun _ => ?_) <;> try (exfalso; omega)) | (refine CL.condT rfl ?_) | (refine CL.condF rfl ?_) | (refine CL.cond rfl (fun _ => ?_) (fun _ => ?_)) | (refine CL.block ?_) | (refine CL.exit ?_) | (refine Ex.then ?_) | (refine Ex.hit ?_) | (refine Ex.miss rfl ?_) | (refine CL.ret ?_) | (refine Rt.then ?_) | (refine Rt.block ?_) | (refine Pn.then ?_) | (refine Pn.block ?_) | (refine CL.done ?_) | (refine Nm.block ?_) | (refine Nm.then ?_) | (refine Gt.nil ?_; refine RW.nilw [0, 1, 2, 3, 4] ?_; dsimp only [H.keep, H.look, H.Fr.put, Nat.beq]) | (refine Gt.fieldAddr ?_; refine RW.y (Y.fieldAddr rfl (by rfl)) rfl ?_) | (refine Gt.guard ?_; first | (refine RW.part rfl rfl rfl (fun _ => ?_) (fun _ => ?_) <;> try (exfalso; omega)) | (refine RW.on rfl rfl rfl ?_) | (refine RW.off1 rfl rfl rfl rfl rfl ?_) | (refine RW.off rfl rfl rfl rfl rfl ?_) | (refine RW.offu rfl rfl rfl rfl ?_) | (refine RW.partb rfl rfl rfl (fun _ => ?_) (fun _ => ?_))) | (refine Gt.load ?_; first | (refine RW.y (Y.loadB rfl (by assumption) rfl) rfl ?_) | (refine RW.y (Y.loadBlock rfl (by assumption) rfl) rfl ?_)) | (refine Gt.assign ?_; refine RW.y (Y.assign rfl) rfl ?_) | (refine Gt.move ?_; refine RW.y (Y.move rfl) rfl ?_) | (refine Gt.pick ?_; first | (refine RW.y (Y.pickT rfl rfl) rfl ?_) | (refine RW.y (Y.pickF rfl rfl) rfl ?_)) | (refine Gt.eql ?_; refine RW.y (Y.eqs rfl rfl) rfl ?_))
  · refine RW.y (Y.loadN (cs := [_, _, _, _]) rfl rfl (mfVer hb1')) rfl ?_
    refine RW.on rfl rfl rfl ?_
    refine RW.y (Y.fieldAddr rfl (by rfl)) rfl ?_
    refine RW.on rfl rfl rfl ?_
    refine RW.y (Y.loadN (cs := [_, _, _, _]) rfl rfl (mfVer hb2')) rfl ?_
    refine RW.on rfl rfl rfl ?_
    refine RW.fn rfl rfl ((helpVersion _ _ m.v m.v w2 ⟨_, rfl, hp.keep0 hK⟩ ⟨_, rfl, hp2.keep0 hK⟩).mono ?_)
    rintro e w3 ⟨hk3, rfl⟩
    rw [eqV_self]
    have hb13 := hk3.at0 hb1'
    have hb23 := hk3.at0 hb2'
    have hK3 := hK.trans0 hk3
    repeat' (first | (refine CL.seq ?_) | (refine CL.region ?_) | (refine CL.skip ?_) | (refine CL.condP rfl (fun _ => ?_) (fun _ => ?_) <;> try (exfalso; omega)) | (refine CL.condT rfl ?_) | (refine CL.condF rfl ?_) | (refine CL.cond rfl (fun _ => ?_) (fun _ => ?_)) | (refine CL.block ?_) | (refine CL.exit ?_) | (refine Ex.then ?_) | (refine Ex.hit ?_) | (refine Ex.miss rfl ?_) | (refine CL.ret ?_) | (refine Rt.then ?_) | (refine Rt.block ?_) | (refine Pn.then ?_) | (refine Pn.block ?_) | (refine CL.done ?_) | (refine Nm.block ?_) | (refine Nm.then ?_) | (refine Gt.nil ?_; refine RW.nilw [0, 1, 2, 3, 4] ?_; dsimp only [H.keep, H.look, H.Fr.put, Nat.beq]) | (refine Gt.fieldAddr ?_; refine RW.y (Y.fieldAddr rfl (by rfl)) rfl ?_) | (refine Gt.guard ?_; first | (refine RW.part rfl rfl rfl (fun _ => ?_) (fun _ => ?_) <;> try (exfalso; omega)) | (refine RW.on rfl rfl rfl ?_) | (refine RW.off1 rfl rfl rfl rfl rfl ?_) | (refine RW.off rfl rfl rfl rfl rfl ?_) | (refine RW.offu rfl rfl rfl rfl ?_) | (refine RW.partb rfl rfl rfl (fun _ => ?_) (fun _ => ?_))) | (refine Gt.load ?_; first | (refine RW.y (Y.loadB rfl (by assumption) rfl) rfl ?_) | (refine RW.y (Y.loadBlock rfl (by assumption) rfl) rfl ?_)) | (refine Gt.assign ?_; refine RW.y (Y.assign rfl) rfl ?_) | (refine Gt.move ?_; refine RW.y (Y.move rfl) rfl ?_) | (refine Gt.pick ?_; first | (refine RW.y (Y.pickT rfl rfl) rfl ?_) | (refine RW.y (Y.pickF rfl rfl) rfl ?_)) | (refine Gt.eql ?_; refine RW.y (Y.eqs rfl rfl) rfl ?_))
    refine RW.fn rfl rfl ((helpNeeds _ _ N M w3 (hq.keep0 hK3) (hq2.keep0 hK3) (hN.trans hM.symm)).mono ?_)
    rintro e w4 ⟨hk4, rfl⟩
    repeat' (first | (refine CL.seq ?_) | (refine CL.region ?_) | (refine CL.skip ?_) | (refine CL.condP rfl (fun _ => ?_) (fun _ => ?_) <;> try (exfalso; omega)) | (refine CL.condT rfl ?_) | (refine CL.condF rfl ?_) | (refine CL.cond rfl (fun _ => ?_) (fun _ => ?_)) | (refine CL.block ?_) | (refine CL.exit ?_) | (refine Ex.then ?_) | (refine Ex.hit ?_) | (refine Ex.miss rfl ?_) | (refine CL.ret ?_) | (refine Rt.then ?_) | (refine Rt.block ?_) | (refine Pn.then ?_) | (refine Pn.block ?_) | (refine CL.done ?_) | (refine Nm.block ?_) | (refine Nm.then ?_) | (refine Gt.nil ?_; refine RW.nilw [0, 1, 2, 3, 4] ?_; dsimp only [H.keep, H.look, H.Fr.put, Nat.beq]) | (refine Gt.fieldAddr ?_; refine RW.y (Y.fieldAddr rfl (by rfl)) rfl ?_) | (refine Gt.guard ?_; first | (refine RW.part rfl rfl rfl (fun _ => ?_) (fun _ => ?_) <;> try (exfalso; omega)) | (refine RW.on rfl rfl rfl ?_) | (refine RW.off1 rfl rfl rfl rfl rfl ?_) | (refine RW.off rfl rfl rfl rfl rfl ?_) | (refine RW.offu rfl rfl rfl rfl ?_) | (refine RW.partb rfl rfl rfl (fun _ => ?_) (fun _ => ?_))) | (refine Gt.load ?_; first | (refine RW.y (Y.loadB rfl (by assumption) rfl) rfl ?_) | (refine RW.y (Y.loadBlock rfl (by assumption) rfl) rfl ?_)) | (refine Gt.assign ?_; refine RW.y (Y.assign rfl) rfl ?_) | (refine Gt.move ?_; refine RW.y (Y.move rfl) rfl ?_) | (refine Gt.pick ?_; first | (refine RW.y (Y.pickT rfl rfl) rfl ?_) | (refine RW.y (Y.pickF rfl rfl) rfl ?_)) | (refine Gt.eql ?_; refine RW.y (Y.eqs rfl rfl) rfl ?_))
    exact FQ.one rfl rfl rfl ⟨hK3.trans0 hk4, rfl⟩
  · rename_i h
    exact absurd rfl h
end Go.Proofs.YtjlkmdmpejpmpaaGreatDoor.Ma

namespace Go.Proofs.YtjlkmdmpejpmpaaGreatDoor.H
open Go.RowKit
section
variable {P : Program} {ops : Array Oper} {Q : Exit → Act → World → Prop} {md : Region.Mode} {S : World → Prop} {Z : Nat → Bool}
theorem wpAnyL_firstU {C : Nat → Prop} {i : Nat} {oi : Oper} {v : Value} (hi : ops[i]? = some oi) (hsel : ∀ (j : Nat) (o : Oper) cs b, ops[j]? = some o → o.op ≠ .select cs b)
    (hQ : ∀ c a w, Q (.panic c) (a.put oi.dst v) w → Q (.panic c) a w) :
    ∀ (fuel : Nat) (listed : Array Bool) (a : Act) (w : World),
      (∀ j oj, ops[j]? = some oj → j ≠ i → listed.getD j true = false → (∀ e ∈ oj.after, Region.binds md e = true → e.on ≠ i) → oi.apart ops oj = true) →
      (∀ j, C j → j ≠ i ∧ listed.getD j true = false ∧ ∃ oj, ops[j]? = some oj ∧ ∃ e ∈ oj.after, Region.binds md e = true ∧ (e.on = i ∨ C e.on)) →
      (∀ j oj, ops[j]? = some oj → Z j = true → listed.getD j true = false → j ≠ i → C j) →
      i ∈ Region.ready md ops listed → YieldsIf P ops S oi v a → S w →
      wpAnyL P md ops Q S Z fuel (listed.setIfInBounds i true) (a.put oi.dst v) w → wpAnyL P md ops Q S Z (fuel + 1) listed a w := by
  intro fuel
  induction fuel with
  | zero =>
    intro listed a w _ _ _ hr hy hS H
    refine ⟨fun h => (by rw [h] at hr; cases hr), fun j hj => ?_⟩
    by_cases hji : j = i
    · subst hji; exact hy.wpOp hi hS ⟨fun _ => hS, H⟩
    · have := ready_mono hj hji
      rw [H.1] at this
      cases this
  | succ fuel ih =>
    intro listed a w hfree hwait hzc hr hy hS H
    refine ⟨fun h => (by rw [h] at hr; cases hr), fun j hj => ?_⟩
    by_cases hji : j = i
    · subst hji; exact hy.wpOp hi hS ⟨fun _ => hS, H⟩
    · have h1 := H.2 j (ready_mono hj hji)
      obtain ⟨hjun, oj, hoj, hall⟩ := mem_ready.1 hj
      have hnot : ∀ e ∈ oj.after, Region.binds md e = true → e.on ≠ i := fun e he hb heq => by
        have h1 := hall e he hb
        have h0 := (mem_ready.1 hr).1
        rw [heq] at h1
        rcases Nat.lt_or_ge i listed.size with h' | h'
        · simp [h'] at h0 h1; rw [h0] at h1; cases h1
        · simp [Array.getElem?_eq_none h'] at h1
      have hlisted : ∀ e ∈ oj.after, Region.binds md e = true → listed.getD e.on true = true := fun e he hb => by
        have h1 := hall e he hb
        rcases Nat.lt_or_ge e.on listed.size with h' | h'
        · simp [h'] at h1 ⊢; exact h1
        · simp [Array.getD, Nat.not_lt.2 h']
      have hcj : ¬ C j := fun hc => by
        obtain ⟨_, _, oj', hoj', e, he, hb, ho⟩ := hwait j hc
        rw [hoj] at hoj'
        cases hoj'
        rcases ho with ho | ho
        · exact hnot e he hb ho
        · have := (hwait e.on ho).2.1
          rw [hlisted e he hb] at this
          cases this
      have hz : Z j = false := by
        cases hzj : Z j with
        | false => rfl
        | true => exact absurd (hzc j oj hoj hzj hjun hji) hcj
      have h2 := wpOp_putIf hoj (hfree j oj hoj hji hjun hnot) (fun cs b => hsel i oi cs b hi) (fun cs b => hsel j oj cs b hoj) hQ hy h1
      have hun' : ∀ k, (listed.setIfInBounds j true).getD k true = false → listed.getD k true = false := fun k hun => by
        by_cases hjk : j = k
        · subst hjk; exact hjun
        · rw [getD_set_ne true hjk] at hun; exact hun
      refine wpOp_mono (fun a' w' h3 => ⟨h3.2.1, ih (listed.setIfInBounds j true) a' w' (fun k ok hk hki hun => hfree k ok hk hki (hun' k hun)) (fun k hk => ⟨(hwait k hk).1, by rw [getD_set_ne true (fun (h : j = k) => hcj (by rw [h]; exact hk))]; exact (hwait k hk).2.1, (hwait k hk).2.2⟩) (fun k ok hk hz hun => hzc k ok hk hz (hun' k hun)) (ready_mono hr (Ne.symm hji)) h3.1 (h3.2.1 hz) ?_⟩) h2
      rw [Array.setIfInBounds_comm _ _ hji]
      exact h3.2.2
theorem wpAnyL_firstP {i : Nat} {oi : Oper} {v : Value} (hi : ops[i]? = some oi) (hzi : Z i = true) (hsel : ∀ (j : Nat) (o : Oper) cs b, ops[j]? = some o → o.op ≠ .select cs b)
    (hQ : ∀ c a w, Q (.panic c) (a.put oi.dst v) w → Q (.panic c) a w) :
    ∀ (fuel : Nat) (listed : Array Bool) (a : Act) (w : World),
      (∀ j oj, ops[j]? = some oj → j ≠ i → listed.getD j true = false → (∀ e ∈ oj.after, Region.binds md e = true → e.on ≠ i) → oi.apart ops oj = true) →
      i ∈ Region.ready md ops listed → YieldsIf P ops (fun _ => True) oi v a →
      wpAnyL P md ops Q S Z fuel (listed.setIfInBounds i true) (a.put oi.dst v) w → wpAnyL P md ops Q S Z (fuel + 1) listed a w := by
  intro fuel
  induction fuel with
  | zero =>
    intro listed a w _ hr hy H
    refine ⟨fun h => (by rw [h] at hr; cases hr), fun j hj => ?_⟩
    by_cases hji : j = i
    · subst hji; exact hy.wpOp hi trivial ⟨fun c => (by rw [hzi] at c; cases c), H⟩
    · have := ready_mono hj hji
      rw [H.1] at this
      cases this
  | succ fuel ih =>
    intro listed a w hfree hr hy H
    refine ⟨fun h => (by rw [h] at hr; cases hr), fun j hj => ?_⟩
    by_cases hji : j = i
    · subst hji; exact hy.wpOp hi trivial ⟨fun c => (by rw [hzi] at c; cases c), H⟩
    · have h1 := H.2 j (ready_mono hj hji)
      obtain ⟨hjun, oj, hoj, hall⟩ := mem_ready.1 hj
      have hnot : ∀ e ∈ oj.after, Region.binds md e = true → e.on ≠ i := fun e he hb heq => by
        have h1 := hall e he hb
        have h0 := (mem_ready.1 hr).1
        rw [heq] at h1
        rcases Nat.lt_or_ge i listed.size with h' | h'
        · simp [h'] at h0 h1; rw [h0] at h1; cases h1
        · simp [Array.getElem?_eq_none h'] at h1
      have h2 := wpOp_putIf hoj (hfree j oj hoj hji hjun hnot) (fun cs b => hsel i oi cs b hi) (fun cs b => hsel j oj cs b hoj) hQ hy h1
      have hun' : ∀ k, (listed.setIfInBounds j true).getD k true = false → listed.getD k true = false := fun k hun => by
        by_cases hjk : j = k
        · subst hjk; exact hjun
        · rw [getD_set_ne true hjk] at hun; exact hun
      refine wpOp_mono (fun a' w' h3 => ⟨h3.2.1, ih (listed.setIfInBounds j true) a' w' (fun k ok hk hki hun => hfree k ok hk hki (hun' k hun)) (ready_mono hr (Ne.symm hji)) h3.1 ?_⟩) h2
      rw [Array.setIfInBounds_comm _ _ hji]
      exact h3.2.2
/-- The writes that are left wait for number i, each one or by others of C. -/
def waitsU (ops : Array Oper) (Z : Nat → Bool) (l : Array Bool) (C : List Nat) (i : Nat) : Bool :=
  C.all (fun j => !(Nat.beq j i) && !(l.getD j true) && (match ops[j]? with | some o => o.after.any (fun e => Region.binds .any e && (Nat.beq e.on i || C.any (Nat.beq e.on))) | none => false)) && (List.range ops.size).all (fun j => !Z j || l.getD j true || Nat.beq j i || C.any (Nat.beq j))
theorem waitsU_spec {l : Array Bool} {C : List Nat} {i : Nat} (h : waitsU ops Z l C i = true) : (∀ j, j ∈ C → j ≠ i ∧ l.getD j true = false ∧ ∃ oj, ops[j]? = some oj ∧ ∃ e ∈ oj.after, Region.binds .any e = true ∧ (e.on = i ∨ e.on ∈ C)) ∧ (∀ j oj, ops[j]? = some oj → Z j = true → l.getD j true = false → j ≠ i → j ∈ C) := by
  rw [waitsU, Bool.and_eq_true] at h
  obtain ⟨h1, h2⟩ := h
  refine ⟨fun j hj => ?_, fun j oj ho hz hun hne => ?_⟩
  · have h3 := List.all_eq_true.1 h1 j hj
    rw [Bool.and_eq_true, Bool.and_eq_true] at h3
    obtain ⟨⟨h3, h4⟩, h5⟩ := h3
    refine ⟨(fun c => by subst c; rw [beq_self] at h3; cases h3), by simpa using h4, ?_⟩
    cases ho : ops[j]? with
    | none => rw [ho] at h5; cases h5
    | some oj =>
      rw [ho] at h5
      simp only [Array.any_eq_true'] at h5
      obtain ⟨e, he, h6⟩ := h5
      rw [Bool.and_eq_true, Bool.or_eq_true] at h6
      exact ⟨oj, rfl, e, he, h6.1, h6.2.imp Nat.eq_of_beq_eq_true any_beq⟩
  · have h3 := List.all_eq_true.1 h2 j (List.mem_range.2 (Array.getElem?_eq_some_iff.1 ho).1)
    rw [Bool.or_eq_true, Bool.or_eq_true, Bool.or_eq_true] at h3
    rcases h3 with ((h3 | h3) | h3) | h3
    · rw [hz] at h3; cases h3
    · rw [hun] at h3; cases h3
    · exact absurd (Nat.eq_of_beq_eq_true h3) hne
    · exact any_beq h3
end
section
variable {P : Program} {ops : Array Oper} {Q : Post} {f : Fr} {w : World} {S : World → Prop} {Z : Nat → Bool}
theorem AP.takeY (i : Nat) (C : List Nat) {o : Oper} {d : Option Nat} {v : Value} {n : Nat} {l : Array Bool} (hi : ops[i]? = some o) (hz : waitsU ops Z l C i = true) (hs : Region.noSelect ops = true) (hf : Region.free .any ops l i = true) (hr : (Region.ready .any ops l).contains i = true)
    [PI Q] (hS : S w) {a : Act} (hy : YieldsIf P ops S o v a) (k : wpAnyL P .any ops (lift Q) S Z n (l.setIfInBounds i true) (a.put o.dst v) w) : wpAnyL P .any ops (lift Q) S Z (n + 1) l a w :=
  wpAnyL_firstU (C := (· ∈ C)) hi (Region.noSelect_spec hs) (PI.lift _ _) n l a w (Region.free_spec hi hf) (waitsU_spec hz).1 (waitsU_spec hz).2 (by simpa using hr) hy hS k
theorem AP.take (i : Nat) (C : List Nat) {op : Op} {ty : TypeId} {pos : String} {af : Array Edge} {d : Nat} {v : Value} {n : Nat} {l : Array Bool} (hi : ops[i]? = some { dst := some d, op := op, type := ty, pos := pos, after := af, guard := none }) (hs : Region.noSelect ops = true) (hf : Region.free .any ops l i = true) (hr : (Region.ready .any ops l).contains i = true) (hz : waitsU ops Z l C i = true)
    [PI Q] (hd : Nat.blt d f.n = true) (hS : S w) (hy : ∀ w, S w → Yd P f { dst := some d, op := op, type := ty, pos := pos, after := af, guard := none } v w) (k : AL P ops Q S Z n (l.setIfInBounds i true) (f.put d v) w) : AL P ops Q S Z (n + 1) l f w := by
  intro a ha
  exact AP.takeY (d := some d) i C hi hz hs hf hr hS (.inl ⟨by simp [Region.wanted], fun w' hw' => hy w' hw' a ha⟩) (k _ (ha.put v hd))
/-- One that yields its value in every world: it may be done at any time. -/
theorem AP.pure (i : Nat) {op : Op} {ty : TypeId} {pos : String} {af : Array Edge} {d : Nat} {v : Value} {n : Nat} {l : Array Bool} (hi : ops[i]? = some { dst := some d, op := op, type := ty, pos := pos, after := af, guard := none }) (hs : Region.noSelect ops = true) (hf : Region.free .any ops l i = true) (hr : (Region.ready .any ops l).contains i = true) (hz : Z i = true)
    [PI Q] (hd : Nat.blt d f.n = true) (hy : ∀ w, Yd P f { dst := some d, op := op, type := ty, pos := pos, after := af, guard := none } v w) (k : AL P ops Q S Z n (l.setIfInBounds i true) (f.put d v) w) : AL P ops Q S Z (n + 1) l f w := by
  intro a ha
  exact wpAnyL_firstP hi hz (Region.noSelect_spec hs) (PI.lift _ _) n l a w (Region.free_spec hi hf) (by simpa using hr) (.inl ⟨by simp [Region.wanted], fun w' _ => hy w' a ha⟩) (k _ (ha.put v hd))
end
section
variable {M : Option (Option Nat)} {P : Program} {ops : Array Oper} {Q : Post} {rest : List Oper} {f : Fr} {w : World} {ty : TypeId} {pos : String} {af : Array Edge}
theorem set_flat {α : Type} {enc : α → List Value} {sz : Nat} (he : ∀ x, (enc x).length = sz) (L : List α) (i : Nat) (hi : i < L.length) (u : α) : (L.flatMap enc).take (i * sz) ++ enc u ++ (L.flatMap enc).drop (i * sz + sz) = (L.set i u).flatMap enc := by
  rw [← Nat.succ_mul, cells_take he, cells_drop he, List.set_eq_take_append_cons_drop, if_pos hi, List.flatMap_append, List.flatMap_cons, List.append_assoc]
/-- An element of several cells of a row of the call's own is written. -/
theorem RW.putEl {α : Type} (K : Dp α) {t e : TypeId} [hm : Many P t K.sz] {x y : Operand} {g base n cap i : Nat} {L : List α} {u : α} (hx : f.ev x = some (.pointer (some ⟨g, i * K.sz, none⟩))) (hy : f.ev y = some (.agg (K.enc u).toArray))
    (how : w.ownsRow base e K.sz (.slice (some ⟨g, 0, none⟩) n cap) n (L.flatMap K.enc)) (hn : n = L.length) (hi : i < n) (h1 : ∀ z ∈ K.enc u, z.oneCell' = true)
    (k : ∀ w', w'.ownsRow base e K.sz (.slice (some ⟨g, 0, none⟩) n cap) n ((L.set i u).flatMap K.enc) → Kept (fun k => k = g) w w' → RW M P ops Q rest f w') : RW M P ops Q (op0 (.store t x y) ty pos af :: rest) f w := by
  have how' := how
  obtain ⟨hl, h | ⟨g', cap', cur, hv, hB, hg, hnc, hmm, hs, ht⟩⟩ := how'
  · cases h.1
  · cases hv
    have hle : i * K.sz + K.sz ≤ cur.size := by
      rw [hs, ← Nat.succ_mul]; exact Nat.mul_le_mul_right _ (by omega)
    refine RW.storeN (n := K.sz) (fun w => hm.size w) hx hy (by show (K.enc u).toArray.size = _; rw [List.size_toArray, K.len]) (fun z hz => h1 z (by simpa [Value.cells] using hz)) hg hle (fun w' hb hk => k w' ?_ hk)
    have := own_put how hg hi (K.len u) (by simpa [Value.cells] using hb)
    rwa [set_flat K.len L i (by omega) u] at this
end
end Go.Proofs.YtjlkmdmpejpmpaaGreatDoor.H

namespace Go.Proofs.YtjlkmdmpejpmpaaGreatDoor.Ma
open Go.RowKit H S Ve Sp Od
attribute [local irreducible] H.CL H.RW H.CW H.Yd H.thenK H.blockQ Go.Calls

theorem npC_len (x : Np) : (npC x).length = 4 := rfl
theorem npC_one {x : Np} (h : x.p.oneCell' = true) : ∀ z ∈ npC x, z.oneCell' = true := by
  intro z hz
  simp [npC] at hz
  rcases hz with rfl | rfl | rfl | rfl <;> first | rfl | exact h
def nmN (x : Np) : T := x.d.name
theorem needCmp (x y : Np) (w : World) : Calls Tryz.prog 29 #[.agg (npC x).toArray, .agg (npC y).toArray] w fun e w' => K0 w w' ∧ e = .returned (.int .i64 (cmpT (nmN x) (nmN y))) := by
  refine H.enter Tryz.func29 Tryz.ntmps29 rfl rfl ?_; dsimp only [H.args]
  refine CL.seq ?_
  refine CL.region ?_
  refine RW.box rfl rfl (fun w1 hb1 hk1 hlt1 => ?_)
  refine RW.box rfl rfl (fun w2 hb2 hk2 hlt2 => ?_)
  have hb1' : w2.heap[w.heap.size]? = some (.cells (npC x).toArray ndT (0, 0)) := hk2.at0 hb1
  have hb2' : w2.heap[w1.heap.size]? = some (.cells (npC y).toArray ndT (0, 0)) := hb2
  clear hb1 hb2
  repeat' (first | (refine CL.seq ?_) | (refine CL.region ?_) | (refine Gt.nil ?_; refine RW.nilw [0, 1, 2, 3, 4] ?_; dsimp only [H.keep, H.look, H.Fr.put, Nat.beq]) | (refine Gt.assign ?_; refine RW.y (Y.assign rfl) rfl ?_) | (refine Gt.fieldAddr ?_; refine RW.y (Y.fieldAddr rfl (by rfl)) rfl ?_) | (refine Gt.load ?_; refine RW.y (Y.loadB rfl (by assumption) rfl) rfl ?_))
  refine RW.fn rfl rfl ((compareT _ _ w2).mono ?_)
  rintro e w3 ⟨rfl, rfl⟩
  repeat' (first | (refine CL.ret ?_) | (refine Gt.nil ?_; refine RW.nilw [0, 1, 2, 3, 4] ?_; dsimp only [H.keep, H.look, H.Fr.put, Nat.beq]) | (refine Gt.assign ?_; refine RW.y (Y.assign rfl) rfl ?_))
  exact FQ.one rfl rfl rfl ⟨hk1.trans0 hk2, rfl⟩
abbrev cmpN : Value := .func (.func 29) #[] #[]

theorem segN_self (X : List Np) (a : Nat) : segN nmN X a a = X := by
  have : (X.take a).drop a = [] := List.drop_of_length_le (by rw [List.length_take]; omega)
  rw [segN, this]; simp [sortN]
theorem segN_one (X : List Np) (a : Nat) (h : a < X.length) : segN nmN X a (a + 1) = X := by
  have : (X.take (a + 1)).drop a = [X.getD a default] := by rw [take_snoc default X a h, List.drop_append_of_le_length (by rw [List.length_take]; omega), List.drop_of_length_le (by rw [List.length_take]; omega)]; rfl
  rw [segN, this]
  have h2 := take_snoc default X a h
  rw [show sortN nmN [X.getD a default] = [X.getD a default] from rfl, ← h2, List.take_append_drop]
theorem srt_drop (X : List Np) (a i j : Nat) (ha : a < j) (hj : j ≤ i) (hi : i < X.length) {p : Np} (h : ∀ q ∈ (sortN nmN ((X.take i).drop a)).drop (j - a), ltT (nmN p) (nmN q) = true) (h2 : ltT (nmN p) (nmN ((sortN nmN ((X.take i).drop a)).getD (j - a - 1) default)) = true) : ∀ q ∈ (sortN nmN ((X.take i).drop a)).drop (j - 1 - a), ltT (nmN p) (nmN q) = true := by
  have hl := sortN_len nmN ((X.take i).drop a)
  rw [cut_take_drop X a i (by omega)] at hl
  intro q hq
  rw [show j - 1 - a = j - a - 1 from by omega] at hq
  rcases drop_mem default (by omega) (by omega) hq with e | e
  · rw [e]; exact h2
  · exact h q e


theorem insertionN (B : Nat) (v : Value) (X : List Np) (a b : Nat) (w : World) (how : w.ownsRow B ndT 4 v X.length (X.flatMap npC)) (hD : ∀ x ∈ X, x.p.oneCell' = true) (hab : a ≤ b) (hb : b ≤ X.length) (hl : X.length ≤ 1000000) :
    Calls Tryz.prog 79 #[v, .int .i64 (a : Int), .int .i64 (b : Int), cmpN] w fun e w' => e = .returned (.tuple #[]) ∧ w'.ownsRow B ndT 4 v X.length ((segN nmN X a b).flatMap npC) ∧ Kept (fun k => v.ownBlock = some k) w w' := by
  refine H.enter Tryz.func79 Tryz.ntmps79 rfl rfl ?_; dsimp only [H.args]
  repeat' (first | (refine CL.seq ?_) | (refine CL.region ?_) | (refine CL.block ?_) | (refine Gt.nil ?_; refine RW.nilw [0, 1, 2, 3, 8, 9, 14, 34] ?_; dsimp only [H.keep, H.look, H.Fr.put, Nat.beq]) | (refine Gt.move ?_; refine RW.y (Y.move rfl) rfl ?_) | (refine Gt.assign ?_; refine RW.y (Y.assign rfl) rfl ?_) | (refine Gt.add ?_; refine RW.y (Y.add64 rfl rfl (by omega) (by omega)) rfl ?_))
  refine CL.loopS [0, 1, 2, 3, 8] (fun k vals wr => ∃ i : Nat, vals = [v, .int .i64 (a : Int), .int .i64 (b : Int), cmpN, .int .i64 (i : Int)] ∧ k = b - i ∧ a + 1 ≤ i ∧ (i ≤ b ∨ i = a + 1) ∧ wr.ownsRow B ndT 4 v X.length ((segN nmN X a (min i b)).flatMap npC) ∧ Kept (fun k => v.ownBlock = some k) w wr) (b - (a + 1)) ⟨_, rfl, a + 1, rfl, rfl, Nat.le_refl _, .inr rfl, ?_, Kept.refl _ _⟩ ?_
  · rcases Nat.lt_or_ge a b with h | h
    · rw [Nat.min_eq_left (by omega), segN_one X a (by omega)]; exact how
    · rw [Nat.min_eq_right (by omega), show b = a from by omega, segN_self]; exact how
  rintro k vals wr ⟨i, rfl, rfl, hai, hib, howr, hkr⟩
  dsimp only [List.zip, List.zipWith]
  rcases Nat.lt_or_ge i b with hlt | hge
  · rw [Nat.min_eq_left (by omega), wayN_first nmN default X a i (by omega) (by omega)] at howr
    obtain ⟨g, cap, cur0, rfl, hg0, hc0, hBg⟩ := own_block how (by omega)
    repeat' (first | (refine CL.seq ?_) | (refine CL.region ?_) | (refine CL.skip ?_) | (refine CL.condP rfl (fun _ => ?_) (fun _ => ?_) <;> try (exfalso; omega)) | (refine Gt.nil ?_; refine RW.nilw [0, 1, 2, 3, 8, 9, 14, 34] ?_; dsimp only [H.keep, H.look, H.Fr.put, Nat.beq]) | (refine Gt.move ?_; refine RW.y (Y.move rfl) rfl ?_) | (refine Gt.lss ?_; refine RW.y (Y.lss rfl rfl) rfl ?_))
    refine CL.cutS [0, 1, 2, 3, 8] (fun vals wx => vals = [.slice (some ⟨g, 0, none⟩) X.length cap, .int .i64 (a : Int), .int .i64 (b : Int), cmpN, .int .i64 (i : Int)] ∧ wx.ownsRow B ndT 4 (.slice (some ⟨g, 0, none⟩) X.length cap) X.length ((segN nmN X a (i + 1)).flatMap npC) ∧ Kept (fun k => k = g) wr wx) (by simp) ?_ ?_
    · refine CL.block ?_
      repeat' (first | (refine CL.seq ?_) | (refine CL.region ?_) | (refine Gt.nil ?_; refine RW.nilw [0, 1, 2, 3, 8, 9, 14, 34] ?_; dsimp only [H.keep, H.look, H.Fr.put, Nat.beq]) | (refine Gt.move ?_; refine RW.y (Y.move rfl) rfl ?_) | (refine Gt.assign ?_; refine RW.y (Y.assign rfl) rfl ?_))
      refine CL.block ?_
      refine CL.loopS [0, 1, 2, 3, 8, 9] (fun k vals wv => ∃ j : Nat, vals = [.slice (some ⟨g, 0, none⟩) X.length cap, .int .i64 (a : Int), .int .i64 (b : Int), cmpN, .int .i64 (i : Int), .int .i64 (j : Int)] ∧ k = j ∧ a ≤ j ∧ j ≤ i ∧ (∀ q ∈ (sortN nmN ((X.take i).drop a)).drop (j - a), ltT (nmN (X.getD i default)) (nmN q) = true) ∧ wv.ownsRow B ndT 4 (.slice (some ⟨g, 0, none⟩) X.length cap) X.length ((wayN nmN default X a i j).flatMap npC) ∧ Kept (fun k => k = g) wr wv) i ⟨_, rfl, i, rfl, rfl, by omega, Nat.le_refl _, ?_, howr, Kept.refl _ _⟩ ?_
      · intro q hq
        rw [List.drop_of_length_le (by rw [sortN_len, cut_take_drop X a i (by omega)]; omega)] at hq; cases hq
      rintro k vals wv ⟨j, rfl, hkj, haj, hji, hup, hrow, hkv⟩
      dsimp only [List.zip, List.zipWith]
      have hsv := Sl.of_own hrow
      have hUl := wayN_len nmN default X a i j haj hji (by omega)
      have hUm : ∀ q ∈ wayN nmN default X a i j, q ∈ X := wayN_mem nmN default X a i j (by omega)
      have hxj := wayN_at nmN default X a i j haj hji (by omega)
      have hti : ((j : Int)).toNat = j := Int.toNat_natCast j
      have hsw := wayN_swap nmN default X a i j
      have hpr := wayN_prev nmN default X a i j
      have hla := wayN_last nmN default X a i j haj hji (by omega) hup
      have hdn := srt_drop X a i j (p := X.getD i default)
      generalize hU : wayN nmN default X a i j = U at *
      have hsu : Sl wv 4 (.slice (some ⟨g, 0, none⟩) X.length cap) U.length (U.flatMap ndK.enc) := by rw [hUl]; exact hsv
      repeat' ((refine CL.seq ?_))
      refine CL.draw (fun w' => K0 wv w') (by kernel_rfl) (fun w1 hheap1 hk1 => ?_)
      have hS : K0 wv w1 := hk1
      skip
      skip
      rcases Nat.eq_or_lt_of_le haj with h0 | h0
      · subst h0
        refine AW.take 0 rfl (by kernel_rfl) (by kernel_rfl) (by kernel_rfl) rfl (by assumption) (fun w hS => Y.move rfl) ?_
        refine AW.take 1 rfl (by kernel_rfl) (by kernel_rfl) (by kernel_rfl) rfl (by assumption) (fun w hS => Y.move rfl) ?_
        refine AW.take 2 rfl (by kernel_rfl) (by kernel_rfl) (by kernel_rfl) rfl (by assumption) (fun w hS => Y.gtrF rfl rfl (by omega)) ?_
        refine AW.take 3 rfl (by kernel_rfl) (by kernel_rfl) (by kernel_rfl) rfl (by assumption) (fun w hS => Y.move rfl) ?_
        refine AW.takeOff 4 rfl (by kernel_rfl) (by kernel_rfl) (by kernel_rfl) rfl rfl rfl rfl rfl (by assumption) ?_
        refine AW.takeOff 5 rfl (by kernel_rfl) (by kernel_rfl) (by kernel_rfl) rfl rfl rfl rfl rfl (by assumption) ?_
        refine AW.takeOff 6 rfl (by kernel_rfl) (by kernel_rfl) (by kernel_rfl) rfl rfl rfl rfl rfl (by assumption) ?_
        refine AW.takeOff 7 rfl (by kernel_rfl) (by kernel_rfl) (by kernel_rfl) rfl rfl rfl rfl rfl (by assumption) ?_
        refine AW.takeOff 8 rfl (by kernel_rfl) (by kernel_rfl) (by kernel_rfl) rfl rfl rfl rfl rfl (by assumption) ?_
        refine AW.takeOff 9 rfl (by kernel_rfl) (by kernel_rfl) (by kernel_rfl) rfl rfl rfl rfl rfl (by assumption) ?_
        refine AW.takeOff 10 rfl (by kernel_rfl) (by kernel_rfl) (by kernel_rfl) rfl rfl rfl rfl rfl (by assumption) ?_
        refine AW.takeOff 11 rfl (by kernel_rfl) (by kernel_rfl) (by kernel_rfl) rfl rfl rfl rfl rfl (by assumption) ?_
        refine AW.takeOff 12 rfl (by kernel_rfl) (by kernel_rfl) (by kernel_rfl) rfl rfl rfl rfl rfl (by assumption) ?_
        refine AW.takeOff 13 rfl (by kernel_rfl) (by kernel_rfl) (by kernel_rfl) rfl rfl rfl rfl rfl (by assumption) ?_
        refine AW.takeOff 14 rfl (by kernel_rfl) (by kernel_rfl) (by kernel_rfl) rfl rfl rfl rfl rfl (by assumption) ?_
        refine AW.takeOff 15 rfl (by kernel_rfl) (by kernel_rfl) (by kernel_rfl) rfl rfl rfl rfl rfl (by assumption) ?_
        refine AW.take 16 rfl (by kernel_rfl) (by kernel_rfl) (by kernel_rfl) rfl (by assumption) (fun w hS => by exact Y.pickF rfl rfl) ?_
        refine AW.donew [0, 1, 2, 3, 8, 9, 34] (by kernel_rfl) ?_
        dsimp only [H.keep, H.look, H.Fr.put, Nat.beq]
        repeat' (first | (refine CL.condF rfl ?_) | (refine CL.exit ?_) | (refine Ex.then ?_) | (refine Ex.hit ?_) | (refine CL.done ?_) | (refine Nm.block ?_) | (refine Nm.then ?_))
        rw [hla (.inl rfl)] at hrow
        exact ⟨_, rfl, rfl, rfl, rfl, own_kept0 hrow hk1, hkv.trans0 hk1⟩
      · have hti2 : ((j : Int) - 1).toNat = j - 1 := by omega
        have hel1 := elAll hsu ndK.len (i := (j : Int)) (by omega) (by omega)
        have hel2 := elAll hsu ndK.len (i := (j : Int) - 1) (by omega) (by omega)
        rw [hti2] at hel2
        rw [hti] at hel1
        obtain ⟨bb, hbb⟩ : ∃ bb : Bool, decide (cmpT (nmN (U.getD j default)) (nmN (U.getD (j - 1) default)) < 0) = bb := ⟨_, rfl⟩
        skip
        refine AW.take 0 rfl (by kernel_rfl) (by kernel_rfl) (by kernel_rfl) rfl (by assumption) (fun w hS => Y.move rfl) ?_
        refine AW.take 1 rfl (by kernel_rfl) (by kernel_rfl) (by kernel_rfl) rfl (by assumption) (fun w hS => Y.move rfl) ?_
        refine AW.take 2 rfl (by kernel_rfl) (by kernel_rfl) (by kernel_rfl) rfl (by assumption) (fun w hS => Y.gtrT rfl rfl (by omega)) ?_
        refine AW.take 3 rfl (by kernel_rfl) (by kernel_rfl) (by kernel_rfl) rfl (by assumption) (fun w hS => Y.move rfl) ?_
        refine AW.takeOn 4 rfl (by kernel_rfl) (by kernel_rfl) (by kernel_rfl) rfl rfl rfl rfl (by assumption) (fun w hS => Y.move rfl) ?_
        refine AW.takeOn 5 rfl (by kernel_rfl) (by kernel_rfl) (by kernel_rfl) rfl rfl rfl rfl (by assumption) (fun w hS => Y.move rfl) ?_
        refine AW.takeOn 6 rfl (by kernel_rfl) (by kernel_rfl) (by kernel_rfl) rfl rfl rfl rfl (by assumption) (fun w hS => Y.move rfl) ?_
        refine AW.takeOn 7 rfl (by kernel_rfl) (by kernel_rfl) (by kernel_rfl) rfl rfl rfl rfl (by assumption) (fun w hS => Y.idx rfl rfl (hsv.keep0 hS) (by omega) (by omega)) ?_
        refine AW.takeOn 8 rfl (by kernel_rfl) (by kernel_rfl) (by kernel_rfl) rfl rfl rfl rfl (by assumption) (fun w hS => Y.loadN (cs := npC (U.getD j default)) rfl (npC_len _) (hel1 _ hS)) ?_
        refine AW.takeOn 9 rfl (by kernel_rfl) (by kernel_rfl) (by kernel_rfl) rfl rfl rfl rfl (by assumption) (fun w hS => Y.move rfl) ?_
        refine AW.takeOn 10 rfl (by kernel_rfl) (by kernel_rfl) (by kernel_rfl) rfl rfl rfl rfl (by assumption) (fun w hS => Y.move rfl) ?_
        refine AW.takeOn 11 rfl (by kernel_rfl) (by kernel_rfl) (by kernel_rfl) rfl rfl rfl rfl (by assumption) (fun w hS => by exact Y.sub64 rfl rfl (by omega) (by omega)) ?_
        refine AW.takeOn 12 rfl (by kernel_rfl) (by kernel_rfl) (by kernel_rfl) rfl rfl rfl rfl (by assumption) (fun w hS => Y.idx rfl rfl (hsv.keep0 hS) (by omega) (by omega)) ?_
        refine AW.takeOn 13 rfl (by kernel_rfl) (by kernel_rfl) (by kernel_rfl) rfl rfl rfl rfl (by assumption) (fun w hS => Y.loadN (cs := npC (U.getD (j - 1) default)) rfl (npC_len _) (by rw [hti2]; exact hel2 _ hS)) ?_
        refine AW.next 14 rfl (by kernel_rfl) ?_
        refine RW.on rfl rfl rfl ?_
        refine RW.fnv rfl rfl rfl ((needCmp _ _ w1).mono ?_)
        rintro e w2 ⟨hk2, rfl⟩
        refine RW.nil (Nm.then ⟨hS.trans0 hk2, ?_⟩)
        have hS := hS.trans0 hk2
        refine AW.takeOn 15 rfl (by kernel_rfl) (by kernel_rfl) (by kernel_rfl) rfl rfl rfl rfl (by assumption) (fun w hS => Y.lssE rfl rfl hbb) ?_
        refine AW.take 16 rfl (by kernel_rfl) (by kernel_rfl) (by kernel_rfl) rfl (by assumption) (fun w hS => by exact Y.pickT rfl rfl) ?_
        refine AW.donew [0, 1, 2, 3, 8, 9, 34] (by kernel_rfl) ?_
        dsimp only [H.keep, H.look, H.Fr.put, Nat.beq]
        rw [cmpT_lt, hxj, hpr h0 hji (by omega)] at hbb
        cases bb
        · repeat' (first | (refine CL.condF rfl ?_) | (refine CL.exit ?_) | (refine Ex.then ?_) | (refine Ex.hit ?_) | (refine CL.done ?_) | (refine Nm.block ?_) | (refine Nm.then ?_))
          rw [hla (.inr hbb)] at hrow
          exact ⟨_, rfl, rfl, rfl, rfl, own_kept0 hrow hS, hkv.trans0 hS⟩
        · have hone : ∀ i, i < X.length → (U.getD i default).p.oneCell' = true := fun i h => hD _ (hUm _ (getD_mem default (by omega)))
          have hspA : Value.spot (.slice (some ⟨g, 0, none⟩) X.length cap) (((j : Int)).toNat * 4) = ⟨g, j * 4, none⟩ := by rw [hti]; simp [Value.spot, addr_add]
          have hspB : Value.spot (.slice (some ⟨g, 0, none⟩) X.length cap) ((((j : Int) - 1)).toNat * 4) = ⟨g, (j - 1) * 4, none⟩ := by rw [hti2]; simp [Value.spot, addr_add]
          have hS2 := hS
          repeat' (first | (refine CL.seq ?_) | (refine CL.skip ?_) | (refine CL.condT rfl ?_) | (refine CL.block ?_))
          have hrow2 := own_kept0 hrow hS
          refine CL.drawz (fun w' => K0 w2 w') (fun j => Nat.beq j 2 || Nat.beq j 3 || Nat.beq j 4 || Nat.beq j 15 || Nat.beq j 16 || Nat.beq j 17) (by kernel_rfl) (fun w4 hheap4 hk4 => ?_)
          have hS4 := hS.trans0 hk4
          have hS : K0 w2 w4 := hk4
          skip
          refine AP.pure 2 rfl (by kernel_rfl) (by kernel_rfl) (by kernel_rfl) rfl rfl (fun w => Y.move rfl) ?_
          refine AP.pure 3 rfl (by kernel_rfl) (by kernel_rfl) (by kernel_rfl) rfl rfl (fun w => Y.move rfl) ?_
          refine AP.pure 4 rfl (by kernel_rfl) (by kernel_rfl) (by kernel_rfl) rfl rfl (fun w => by exact Y.sub64 rfl rfl (by omega) (by omega)) ?_
          refine AP.take 0 [14, 15, 16, 17] rfl (by kernel_rfl) (by kernel_rfl) (by kernel_rfl) (by kernel_rfl) rfl (by assumption) (fun w hS => Y.move rfl) ?_
          refine AP.take 1 [14, 15, 16, 17] rfl (by kernel_rfl) (by kernel_rfl) (by kernel_rfl) (by kernel_rfl) rfl (by assumption) (fun w hS => Y.move rfl) ?_
          refine AP.take 5 [8, 9, 14, 15, 16, 17] rfl (by kernel_rfl) (by kernel_rfl) (by kernel_rfl) (by kernel_rfl) rfl (by assumption) (fun w hS => Y.move rfl) ?_
          refine AP.take 6 [7, 8, 9, 14, 15, 16, 17] rfl (by kernel_rfl) (by kernel_rfl) (by kernel_rfl) (by kernel_rfl) rfl (by assumption) (fun w hS => Y.move rfl) ?_
          refine AP.take 7 [8, 9, 14, 15, 16, 17] rfl (by kernel_rfl) (by kernel_rfl) (by kernel_rfl) (by kernel_rfl) rfl (by assumption) (fun w hS => by exact Y.sub64 rfl rfl (by omega) (by omega)) ?_
          refine AP.take 8 [9, 14, 15, 16, 17] rfl (by kernel_rfl) (by kernel_rfl) (by kernel_rfl) (by kernel_rfl) rfl (by assumption) (fun w hS => Y.idx rfl rfl ((Sl.of_own hrow2).keep0 hS) (by omega) (by omega)) ?_
          refine AP.take 9 [14, 15, 16, 17] rfl (by kernel_rfl) (by kernel_rfl) (by kernel_rfl) (by kernel_rfl) rfl (by assumption) (fun w hS => Y.loadN (cs := npC (U.getD (j - 1) default)) rfl (npC_len _) (by rw [hti2]; exact hel2 _ (hS2.trans0 hS))) ?_
          refine AP.take 10 [12, 13, 14, 15, 16, 17] rfl (by kernel_rfl) (by kernel_rfl) (by kernel_rfl) (by kernel_rfl) rfl (by assumption) (fun w hS => Y.move rfl) ?_
          refine AP.take 11 [12, 13, 14, 15, 16, 17] rfl (by kernel_rfl) (by kernel_rfl) (by kernel_rfl) (by kernel_rfl) rfl (by assumption) (fun w hS => Y.move rfl) ?_
          refine AP.take 12 [13, 14, 15, 16, 17] rfl (by kernel_rfl) (by kernel_rfl) (by kernel_rfl) (by kernel_rfl) rfl (by assumption) (fun w hS => Y.idx rfl rfl ((Sl.of_own hrow2).keep0 hS) (by omega) (by omega)) ?_
          refine AP.take 13 [14, 15, 16, 17] rfl (by kernel_rfl) (by kernel_rfl) (by kernel_rfl) (by kernel_rfl) rfl (by assumption) (fun w hS => Y.loadN (cs := npC (U.getD j default)) rfl (npC_len _) (hel1 _ (hS2.trans0 hS))) ?_
          refine AP.take 14 [15, 16, 17] rfl (by kernel_rfl) (by kernel_rfl) (by kernel_rfl) (by kernel_rfl) rfl (by assumption) (fun w hS => Y.idx rfl rfl ((Sl.of_own hrow2).keep0 hS) (by omega) (by omega)) ?_
          refine AL.last 15 rfl (by kernel_rfl) rfl ?_
          refine RW.putEl ndK (i := j) (u := U.getD (j - 1) default) (congrArg (fun a => some (Value.pointer (some a))) hspA) rfl (own_kept0 hrow2 hS) hUl.symm (by omega) (npC_one (hone _ (by omega))) (fun w5 how5 hk5 => ?_)
          refine RW.nil (Nm.then ⟨trivial, ?_⟩)
          refine AL.last 16 rfl (by kernel_rfl) rfl ?_
          refine RW.y (Y.idx rfl rfl (Sl.of_own how5) (by omega) (by omega)) rfl ?_
          refine RW.nil (Nm.then ⟨trivial, ?_⟩)
          refine AL.last 17 rfl (by kernel_rfl) rfl ?_
          refine RW.putEl ndK (i := j - 1) (u := U.getD j default) (congrArg (fun a => some (Value.pointer (some a))) hspB) rfl how5 (by rw [List.length_set, hUl]) (by omega) (npC_one (hone _ (by omega))) (fun w6 how6 hk6 => ?_)
          refine RW.nil (Nm.then ⟨trivial, ?_⟩)
          refine AL.donew [0, 1, 2, 3, 8, 9] (by kernel_rfl) ?_
          dsimp only [H.keep, H.look, H.Fr.put, Nat.beq]
          rw [hsw h0 hji (by omega)] at how6
          repeat' (first | (refine CL.region ?_) | (refine CL.done ?_) | (refine Nm.block ?_) | (refine Nm.then ?_) | (refine Gt.nil ?_; refine RW.nilw [0, 1, 2, 3, 8, 9, 14, 34] ?_; dsimp only [H.keep, H.look, H.Fr.put, Nat.beq]) | (refine Gt.move ?_; refine RW.y (Y.move rfl) rfl ?_) | (refine Gt.assign ?_; refine RW.y (Y.assign rfl) rfl ?_) | (refine Gt.sub ?_; refine RW.y (Y.sub64 rfl rfl (by omega) (by omega)) rfl ?_))
          exact ⟨j - 1, _, rfl, rfl, rfl, by omega, j - 1, by simp; omega, rfl, by omega, by omega, hdn h0 hji (by omega) hup hbb, how6, hkv.trans ((Kept.of0 hS4).trans hk5 (fun k h => .inl h) |>.trans hk6 fun k h => .inl h) fun k h => .inl h⟩
    · rintro vals wx ⟨rfl, howx, hkx⟩
      dsimp only [List.zip, List.zipWith]
      repeat' (first | (refine CL.region ?_) | (refine CL.done ?_) | (refine Nm.then ?_) | (refine Gt.nil ?_; refine RW.nilw [0, 1, 2, 3, 8, 9, 14, 34] ?_; dsimp only [H.keep, H.look, H.Fr.put, Nat.beq]) | (refine Gt.move ?_; refine RW.y (Y.move rfl) rfl ?_) | (refine Gt.assign ?_; refine RW.y (Y.assign rfl) rfl ?_) | (refine Gt.add ?_; refine RW.y (Y.add64 rfl rfl (by omega) (by omega)) rfl ?_))
      exact ⟨b - (i + 1), _, rfl, rfl, rfl, by omega, i + 1, rfl, rfl, by omega, .inl (by omega), by rw [Nat.min_eq_left (by omega)]; exact howx, hkr.trans hkx fun k h => .inl (by rw [h]; rfl)⟩
  · rw [Nat.min_eq_right (by omega)] at howr
    repeat' (first | (refine CL.seq ?_) | (refine CL.region ?_) | (refine CL.condP rfl (fun _ => ?_) (fun _ => ?_) <;> try (exfalso; omega)) | (refine CL.exit ?_) | (refine Ex.then ?_) | (refine Ex.hit ?_) | (refine CL.done ?_) | (refine Gt.nil ?_; refine RW.nilw [0, 1, 2, 3, 8, 9, 14, 34] ?_; dsimp only [H.keep, H.look, H.Fr.put, Nat.beq]) | (refine Gt.move ?_; refine RW.y (Y.move rfl) rfl ?_) | (refine Gt.lss ?_; refine RW.y (Y.lss rfl rfl) rfl ?_))
    exact FQ.norm (FQ.none rfl rfl ⟨rfl, howr, hkr⟩)

theorem stableFew (B : Nat) (v : Value) (X : List Np) (w : World) (how : w.ownsRow B ndT 4 v X.length (X.flatMap npC)) (hD : ∀ x ∈ X, x.p.oneCell' = true) (hl : X.length ≤ 20) :
    Calls Tryz.prog 58 #[v, .int .i64 (X.length : Int), cmpN] w fun e w' => e = .returned (.tuple #[]) ∧ w'.ownsRow B ndT 4 v X.length ((sortN nmN X).flatMap npC) ∧ Kept (fun k => v.ownBlock = some k) w w' := by
  refine H.enter Tryz.func58 Tryz.ntmps58 rfl rfl ?_; dsimp only [H.args]
  repeat' (first | (refine CL.seq ?_) | (refine CL.region ?_) | (refine CL.block ?_) | (refine Gt.nil ?_; refine RW.nilw [0, 1, 2, 6, 7, 8, 9, 13, 30, 35, 54] ?_; dsimp only [H.keep, H.look, H.Fr.put, Nat.beq]) | (refine Gt.move ?_; refine RW.y (Y.move rfl) rfl ?_) | (refine Gt.assign ?_; refine RW.y (Y.assign rfl) rfl ?_))
  refine CL.loopS [0, 1, 2, 6, 7, 8] (fun k vals wr => ∃ i : Nat, vals = [v, .int .i64 (X.length : Int), cmpN, .int .i64 20, .int .i64 (i : Int), .int .i64 ((i : Int) + 20)] ∧ k = 20 - i ∧ ((i = 0 ∧ wr = w) ∨ (i = 20 ∧ X.length = 20 ∧ wr.ownsRow B ndT 4 v X.length ((sortN nmN X).flatMap npC) ∧ Kept (fun k => v.ownBlock = some k) w wr))) 20 ⟨_, rfl, 0, rfl, rfl, .inl ⟨rfl, rfl⟩⟩ ?_
  rintro k vals wr ⟨i, rfl, rfl, ⟨rfl, rfl⟩ | ⟨rfl, hl20, howr, hkr⟩⟩
  · dsimp only [List.zip, List.zipWith]
    rcases Nat.lt_or_ge X.length 20 with hlt | hge
    · repeat' (first | (refine CL.seq ?_) | (refine CL.region ?_) | (refine CL.condP rfl (fun _ => ?_) (fun _ => ?_) <;> try (exfalso; omega)) | (refine CL.exit ?_) | (refine Ex.then ?_) | (refine Ex.hit ?_) | (refine Gt.nil ?_; refine RW.nilw [0, 1, 2, 6, 7, 8, 9, 13, 30, 35, 54] ?_; dsimp only [H.keep, H.look, H.Fr.put, Nat.beq]) | (refine Gt.move ?_; refine RW.y (Y.move rfl) rfl ?_) | (refine Gt.leq ?_; refine RW.y (Y.leq rfl rfl) rfl ?_))
      refine RW.fn rfl rfl ((insertionN B v X 0 X.length wr how hD (Nat.zero_le _) (Nat.le_refl _) (by omega)).mono ?_)
      rintro e w1 ⟨rfl, how1, hk1⟩
      rw [segN_all] at how1
      repeat' (first | (refine CL.block ?_) | (refine Gt.nil ?_; refine RW.nilw [0, 1, 2, 6, 7, 8, 9, 13, 30, 35, 54] ?_; dsimp only [H.keep, H.look, H.Fr.put, Nat.beq]))
      refine CL.loopS [0, 1, 2, 6] (fun k vals wt => vals = [v, .int .i64 (X.length : Int), cmpN, .int .i64 20] ∧ wt = w1) 0 ⟨_, rfl, rfl, rfl⟩ ?_
      rintro k vals wt ⟨rfl, rfl⟩
      dsimp only [List.zip, List.zipWith]
      repeat' (first | (refine CL.seq ?_) | (refine CL.region ?_) | (refine CL.condP rfl (fun _ => ?_) (fun _ => ?_) <;> try (exfalso; omega)) | (refine CL.exit ?_) | (refine Ex.then ?_) | (refine Ex.hit ?_) | (refine CL.done ?_) | (refine Gt.nil ?_; refine RW.nilw [0, 1, 2, 6, 7, 8, 9, 13, 30, 35, 54] ?_; dsimp only [H.keep, H.look, H.Fr.put, Nat.beq]) | (refine Gt.move ?_; refine RW.y (Y.move rfl) rfl ?_) | (refine Gt.lss ?_; refine RW.y (Y.lss rfl rfl) rfl ?_))
      exact FQ.norm (FQ.none rfl rfl ⟨rfl, how1, hk1⟩)
    · have hl20 : X.length = 20 := by omega
      repeat' (first | (refine CL.seq ?_) | (refine CL.region ?_) | (refine CL.skip ?_) | (refine CL.condP rfl (fun _ => ?_) (fun _ => ?_) <;> try (exfalso; omega)) | (refine CL.block ?_) | (refine Gt.nil ?_; refine RW.nilw [0, 1, 2, 6, 7, 8, 9, 13, 30, 35, 54] ?_; dsimp only [H.keep, H.look, H.Fr.put, Nat.beq]) | (refine Gt.move ?_; refine RW.y (Y.move rfl) rfl ?_) | (refine Gt.leq ?_; refine RW.y (Y.leq rfl rfl) rfl ?_))
      refine RW.fn rfl rfl ((insertionN B v X 0 20 wr how hD (Nat.zero_le _) (by omega) (by omega)).mono ?_)
      rintro e w1 ⟨rfl, how1, hk1⟩
      rw [show (20 : Nat) = X.length from hl20.symm, segN_all] at how1
      repeat' (first | (refine CL.seq ?_) | (refine CL.region ?_) | (refine CL.done ?_) | (refine Nm.block ?_) | (refine Nm.then ?_) | (refine Gt.nil ?_; refine RW.nilw [0, 1, 2, 6, 7, 8, 9, 13, 30, 35, 54] ?_; dsimp only [H.keep, H.look, H.Fr.put, Nat.beq]) | (refine Gt.move ?_; refine RW.y (Y.move rfl) rfl ?_) | (refine Gt.assign ?_; refine RW.y (Y.assign rfl) rfl ?_) | (refine Gt.add ?_; refine RW.y (Y.add64 rfl rfl (by omega) (by omega)) rfl ?_))
      exact ⟨0, _, rfl, rfl, rfl, by omega, 20, rfl, rfl, .inr ⟨rfl, hl20, how1, hk1⟩⟩
  · dsimp only [List.zip, List.zipWith]
    repeat' (first | (refine CL.seq ?_) | (refine CL.region ?_) | (refine CL.condP rfl (fun _ => ?_) (fun _ => ?_) <;> try (exfalso; omega)) | (refine CL.exit ?_) | (refine Ex.then ?_) | (refine Ex.hit ?_) | (refine Gt.nil ?_; refine RW.nilw [0, 1, 2, 6, 7, 8, 9, 13, 30, 35, 54] ?_; dsimp only [H.keep, H.look, H.Fr.put, Nat.beq]) | (refine Gt.move ?_; refine RW.y (Y.move rfl) rfl ?_) | (refine Gt.leq ?_; refine RW.y (Y.leq rfl rfl) rfl ?_))
    have hsl := sortN_len nmN X
    have hone : ∀ x ∈ sortN nmN X, x.p.oneCell' = true := fun x hx => hD x ((sortN_mem nmN X x).1 hx)
    have how' : wr.ownsRow B ndT 4 v (sortN nmN X).length ((sortN nmN X).flatMap npC) := by rw [hsl]; exact howr
    refine RW.fn rfl rfl ((insertionN B v (sortN nmN X) 20 X.length wr how' hone (by omega) (by omega) (by omega)).mono ?_)
    rintro e w1 ⟨rfl, how1, hk1⟩
    rw [segN_same nmN _ _ _ (by omega) (sortN_srt nmN X), hsl] at how1
    repeat' (first | (refine CL.block ?_) | (refine Gt.nil ?_; refine RW.nilw [0, 1, 2, 6, 7, 8, 9, 13, 30, 35, 54] ?_; dsimp only [H.keep, H.look, H.Fr.put, Nat.beq]))
    refine CL.loopS [0, 1, 2, 6] (fun k vals wt => vals = [v, .int .i64 (X.length : Int), cmpN, .int .i64 20] ∧ wt = w1) 0 ⟨_, rfl, rfl, rfl⟩ ?_
    rintro k vals wt ⟨rfl, rfl⟩
    dsimp only [List.zip, List.zipWith]
    repeat' (first | (refine CL.seq ?_) | (refine CL.region ?_) | (refine CL.condP rfl (fun _ => ?_) (fun _ => ?_) <;> try (exfalso; omega)) | (refine CL.exit ?_) | (refine Ex.then ?_) | (refine Ex.hit ?_) | (refine CL.done ?_) | (refine Gt.nil ?_; refine RW.nilw [0, 1, 2, 6, 7, 8, 9, 13, 30, 35, 54] ?_; dsimp only [H.keep, H.look, H.Fr.put, Nat.beq]) | (refine Gt.move ?_; refine RW.y (Y.move rfl) rfl ?_) | (refine Gt.lss ?_; refine RW.y (Y.lss rfl rfl) rfl ?_))
    exact FQ.norm (FQ.none rfl rfl ⟨rfl, how1, hkr.trans hk1 fun k h => .inl h⟩)

theorem sortNeeds (B : Nat) (v : Value) (X : List Np) (w : World) (how : w.ownsRow B ndT 4 v X.length (X.flatMap npC)) (hD : ∀ x ∈ X, x.p.oneCell' = true) (hl : X.length ≤ 20) :
    Calls Tryz.prog 28 #[v, cmpN] w fun e w' => e = .returned (.tuple #[]) ∧ w'.ownsRow B ndT 4 v X.length ((sortN nmN X).flatMap npC) ∧ Kept (fun k => v.ownBlock = some k) w w' := by
  have hs := Sl.of_own how
  refine H.enter Tryz.func28 Tryz.ntmps28 rfl rfl ?_; dsimp only [H.args]
  repeat' (first | (refine CL.region ?_) | (refine Gt.move ?_; refine RW.y (Y.move rfl) rfl ?_) | (refine Gt.len ?_; (refine RW.y (Y.lenx rfl (by assumption)) rfl ?_)))
  refine RW.fn rfl rfl ((stableFew B v X w how hD hl).mono ?_)
  rintro e w1 ⟨rfl, how1, hk1⟩
  repeat' (first | (refine CL.done ?_) | (refine Gt.nil ?_; refine RW.nilw [0, 1] ?_; dsimp only [H.keep, H.look, H.Fr.put, Nat.beq]))
  exact FQ.norm (FQ.none rfl rfl ⟨rfl, how1, hk1⟩)
end Go.Proofs.YtjlkmdmpejpmpaaGreatDoor.Ma

namespace Go.Proofs.YtjlkmdmpejpmpaaGreatDoor.Ma
open Go.RowKit H S Ve Sp Od
attribute [local irreducible] H.CL H.RW H.CW H.Yd H.thenK H.blockQ Go.Calls

def cutP (p s : T) : T := if s.take p.length = p then s.drop p.length else s
theorem sliteCutPrefix (s p : T) (w : World) : Calls Tryz.prog 72 #[vs s, vs p] w fun e w' => w = w' ∧ e = .returned (.tuple #[vs (cutP p s), .bool (decide (s.take p.length = p))]) := by
  refine H.enter Tryz.func72 Tryz.ntmps72 rfl rfl ?_; dsimp only [H.args]
  repeat' (first | (refine CL.seq ?_) | (refine CL.region ?_) | (refine Gt.nil ?_; refine RW.nilw [0, 1, 4, 5, 9] ?_; dsimp only [H.keep, H.look, H.Fr.put, Nat.beq]) | (refine Gt.assign ?_; refine RW.y (Y.assign rfl) rfl ?_) | (refine Gt.move ?_; refine RW.y (Y.move rfl) rfl ?_))
  refine RW.fn rfl rfl ((sliteHasPrefix s p w).mono ?_)
  rintro e w1 ⟨rfl, rfl⟩
  by_cases h : s.take p.length = p
  · have hle : p.length ≤ s.length := by have := congrArg List.length h; rw [List.length_take] at this; omega
    rw [decide_eq_true h]
    repeat' (first | (refine CL.seq ?_) | (refine CL.region ?_) | (refine CL.skip ?_) | (refine CL.condF rfl ?_) | (refine CL.ret ?_) | (refine Gt.nil ?_; refine RW.nilw [0, 1, 4, 5, 9] ?_; dsimp only [H.keep, H.look, H.Fr.put, Nat.beq]) | (refine Gt.assign ?_; refine RW.y (Y.assign rfl) rfl ?_) | (refine Gt.move ?_; refine RW.y (Y.move rfl) rfl ?_) | (refine Gt.not ?_; (refine RW.y (Y.notb rfl) rfl ?_)) | (refine Gt.len ?_; refine RW.y (Y.lens rfl) rfl ?_) | (refine Gt.slice ?_; refine RW.y (Y.cutl rfl rfl (by omega) (by omega)) rfl ?_))
    exact FQ.two rfl rfl rfl rfl ⟨rfl, by rw [cutP, if_pos h, Int.toNat_natCast]⟩
  · rw [decide_eq_false h]
    repeat' (first | (refine CL.seq ?_) | (refine CL.region ?_) | (refine CL.condT rfl ?_) | (refine CL.ret ?_) | (refine Gt.nil ?_; refine RW.nilw [0, 1, 4, 5, 9] ?_; dsimp only [H.keep, H.look, H.Fr.put, Nat.beq]) | (refine Gt.assign ?_; refine RW.y (Y.assign rfl) rfl ?_) | (refine Gt.move ?_; refine RW.y (Y.move rfl) rfl ?_) | (refine Gt.not ?_; (refine RW.y (Y.notb rfl) rfl ?_)))
    exact FQ.two rfl rfl rfl rfl ⟨rfl, by rw [cutP, if_neg h]⟩
theorem cutPrefix (s p : T) (w : World) : Calls Tryz.prog 55 #[vs s, vs p] w fun e w' => w = w' ∧ e = .returned (.tuple #[vs (cutP p s), .bool (decide (s.take p.length = p))]) := by
  refine H.enter Tryz.func55 Tryz.ntmps55 rfl rfl ?_; dsimp only [H.args]
  repeat' (first | (refine CL.seq ?_) | (refine CL.region ?_) | (refine Gt.nil ?_; refine RW.nilw [0, 1, 4, 5] ?_; dsimp only [H.keep, H.look, H.Fr.put, Nat.beq]) | (refine Gt.assign ?_; refine RW.y (Y.assign rfl) rfl ?_) | (refine Gt.move ?_; refine RW.y (Y.move rfl) rfl ?_))
  refine RW.fn rfl rfl ((sliteCutPrefix s p w).mono ?_)
  rintro e w1 ⟨rfl, rfl⟩
  repeat' (first | (refine CL.ret ?_) | (refine Gt.nil ?_; refine RW.nilw [0, 1, 4, 5] ?_; dsimp only [H.keep, H.look, H.Fr.put, Nat.beq]) | (refine Gt.assign ?_; refine RW.y (Y.assign rfl) rfl ?_) | (refine Gt.extract ?_; refine RW.y (Y.extract rfl rfl) rfl ?_))
  exact FQ.two rfl rfl rfl rfl ⟨rfl, rfl⟩
theorem u8_eq (c d : UInt8) : c = d ↔ ((c.toNat : Int) = (d.toNat : Int)) := ⟨fun h => by rw [h], fun h => UInt8.toNat_inj.1 (by omega)⟩
theorem silent (s : T) (w : World) : Calls Tryz.prog 26 #[vs s] w fun e w' => w = w' ∧ e = .returned (.bool (silentB s)) := by
  refine H.enter Tryz.func26 Tryz.ntmps26 rfl rfl ?_; dsimp only [H.args]
  repeat' (first | (refine CL.seq ?_) | (refine CL.region ?_) | (refine CL.ret ?_) | (refine Gt.nil ?_; refine RW.nilw [0, 2] ?_; dsimp only [H.keep, H.look, H.Fr.put, Nat.beq]) | (refine Gt.move ?_; refine RW.y (Y.move rfl) rfl ?_) | (refine Gt.guard ?_; first | (refine RW.part rfl rfl rfl (fun _ => ?_) (fun _ => ?_) <;> try (exfalso; omega)) | (refine RW.on rfl rfl rfl ?_) | (refine RW.off1 rfl rfl rfl rfl rfl ?_)) | (refine Gt.assign ?_; refine RW.y (Y.assign rfl) rfl ?_) | (refine Gt.eql ?_; (refine RW.y (Y.eqs rfl rfl) rfl ?_)) | (refine Gt.pick ?_; (refine RW.y (Y.pickT rfl rfl) rfl ?_)))
  · rename_i h
    exact FQ.one rfl rfl rfl ⟨rfl, by rw [silentB, decide_eq_true h]; rfl⟩
  · rename_i h
    have h1 := List.length_pos_iff.2 h
    repeat' (first | (refine CL.ret ?_) | (refine Gt.nil ?_; refine RW.nilw [0, 2] ?_; dsimp only [H.keep, H.look, H.Fr.put, Nat.beq]) | (refine Gt.guard ?_; (refine RW.on rfl rfl rfl ?_)) | (refine Gt.assign ?_; refine RW.y (Y.assign rfl) rfl ?_) | (refine Gt.eql ?_; (refine RW.y (Y.eqi rfl rfl) rfl ?_)) | (refine Gt.index ?_; refine RW.y (Y.idxs rfl rfl (by omega) (by omega)) rfl ?_) | (refine Gt.pick ?_; (refine RW.y (Y.pickF rfl rfl) rfl ?_)))
    exact FQ.one rfl rfl rfl ⟨rfl, by rw [silentB, decide_eq_false h, Bool.false_or, decide_eq_decide.2 (u8_eq (s.getD 0 0) 35)]; rfl⟩
theorem progLines (s : T) (hl : s.length ≤ 1000000) (w : World) : Calls Tryz.prog 25 #[vs s] w fun e w' => ∃ v', e = .returned v' ∧ w'.ownsRow w.heap.size strT 1 v' (Lk.linesB s).length (sv (Lk.linesB s)) ∧ K0 w w' := by
  refine H.enter Tryz.func25 Tryz.ntmps25 rfl rfl ?_; dsimp only [H.args]
  repeat' (first | (refine CL.seq ?_) | (refine CL.region ?_) | (refine Gt.nil ?_; refine RW.nilw [0, 2, 3, 12] ?_; dsimp only [H.keep, H.look, H.Fr.put, Nat.beq]) | (refine Gt.move ?_; refine RW.y (Y.move rfl) rfl ?_) | (refine Gt.assign ?_; refine RW.y (Y.assign rfl) rfl ?_))
  refine RW.fn rfl rfl ((split s 10 hl w).mono ?_)
  rintro e w1 ⟨v1, rfl, how, hk1⟩
  have hs := Sl.of_own how
  have hp := List.length_pos_iff.2 (splitB_ne 10 s)
  have hsm := splitB_len 10 s
  have hcm := List.count_le_length (a := (10 : UInt8)) (l := s)
  have e1 : ((((splitB 10 s).length : Nat) : Int) - 1).toNat = (splitB 10 s).length - 1 := by omega
  repeat' (first | (refine CL.seq ?_) | (refine CL.region ?_) | (refine CL.skip ?_) | (refine CL.condP rfl (fun _ => ?_) (fun _ => ?_) <;> try (exfalso; omega)) | (refine CL.ret ?_) | (refine Gt.nil ?_; refine RW.nilw [0, 2, 3, 12] ?_; dsimp only [H.keep, H.look, H.Fr.put, Nat.beq]) | (refine Gt.move ?_; refine RW.y (Y.move rfl) rfl ?_) | (refine Gt.assign ?_; refine RW.y (Y.assign rfl) rfl ?_) | (refine Gt.len ?_; (refine RW.y (Y.lenx rfl (by assumption)) rfl ?_)) | (refine Gt.sub ?_; refine RW.y (Y.sub64 rfl rfl (by omega) (by omega)) rfl ?_) | (refine Gt.idx ?_; refine RW.elemS rfl rfl rfl rfl (by assumption) (by omega) (by omega) ?_) | (refine Gt.eql ?_; refine RW.y (Y.eqs rfl rfl) rfl ?_))
  · rename_i h
    rw [e1, Lk.getLastD_getD] at h
    refine RW.ownh rfl rfl rfl how (by omega) (by omega) (fun v2 how2 hb2 => ?_)
    rw [e1] at how2
    have hd : Lk.linesB s = (splitB 10 s).dropLast := if_pos h
    repeat' (first | (refine CL.seq ?_) | (refine CL.region ?_) | (refine CL.ret ?_) | (refine Gt.nil ?_; refine RW.nilw [0, 2, 3, 12] ?_; dsimp only [H.keep, H.look, H.Fr.put, Nat.beq]) | (refine Gt.move ?_; refine RW.y (Y.move rfl) rfl ?_) | (refine Gt.assign ?_; refine RW.y (Y.assign rfl) rfl ?_))
    refine FQ.one rfl rfl rfl ⟨_, rfl, ?_, hk1⟩
    rw [hd, List.length_dropLast, sv, List.dropLast_eq_take, List.map_take]
    rw [Nat.mul_one] at how2
    exact how2
  · rename_i h
    rw [e1, Lk.getLastD_getD] at h
    exact FQ.one rfl rfl rfl ⟨_, rfl, by rw [show Lk.linesB s = splitB 10 s from if_neg h]; exact how, hk1⟩
/-- The place of the first that is hit, or -1. -/
def idxI {α : Type} (p : α → Bool) : List α → Nat → Int
  | [], _ => -1
  | x :: r, k => if p x = true then (k : Int) else idxI p r (k + 1)
theorem idxI_drop {α : Type} [Inhabited α] (p : α → Bool) (L : List α) (i : Nat) (hi : i < L.length) : idxI p (L.drop i) i = if p (L.getD i default) = true then (i : Int) else idxI p (L.drop (i + 1)) (i + 1) := by
  rw [show L.drop i = L.getD i default :: L.drop (i + 1) from by simp [List.getD_eq_getElem?_getD, hi]]
  rfl
theorem idxI_any {α : Type} (p : α → Bool) : ∀ (L : List α) (k : Nat), decide (idxI p L k ≥ 0) = L.any p
  | [], _ => rfl
  | x :: r, k => by
    rw [idxI, List.any_cons]
    cases h : p x
    · rw [if_neg (by simp), idxI_any p r]; rfl
    · rw [if_pos rfl, decide_eq_true (by omega)]; rfl
def hitN (nm : T) (x : Np) : Bool := decide (x.d.name = nm)
theorem any_hit (nm : T) (L : List Np) : L.any (hitN nm) = hasN (L.map (·.d)) nm := by rw [hasN, List.any_map]; rfl
theorem hasLam (x : Np) (nm : T) (gn : Nat) (w : World) (hn : w.heap[gn]? = some (.cells #[vs nm] strT (0, 0))) : Calls Tryz.prog 69 #[.agg (npC x).toArray, .pointer (some ⟨gn, 0, none⟩)] w fun e w' => K0 w w' ∧ e = .returned (.bool (hitN nm x)) := by
  refine H.enter Tryz.func69 Tryz.ntmps69 rfl rfl ?_; dsimp only [H.args]
  refine CL.seq ?_
  refine CL.region ?_
  refine RW.box rfl rfl (fun w1 hb1 hk1 hlt1 => ?_)
  have hb1' : w1.heap[w.heap.size]? = some (.cells (npC x).toArray ndT (0, 0)) := hb1
  have hn1 := hk1.at0 hn
  repeat' (first | (refine CL.seq ?_) | (refine CL.region ?_) | (refine CL.ret ?_) | (refine Gt.nil ?_; refine RW.nilw [0, 1, 2, 3] ?_; dsimp only [H.keep, H.look, H.Fr.put, Nat.beq]) | (refine Gt.assign ?_; refine RW.y (Y.assign rfl) rfl ?_) | (refine Gt.load ?_; refine RW.y (Y.loadB rfl (by assumption) rfl) rfl ?_) | (refine Gt.fieldAddr ?_; refine RW.y (Y.fieldAddr rfl (by rfl)) rfl ?_) | (refine Gt.eql ?_; refine RW.y (Y.eqs rfl rfl) rfl ?_))
  exact FQ.one rfl rfl rfl ⟨hk1, rfl⟩
theorem remLam (x : Np) (nm : T) (gn : Nat) (w : World) (hn : w.heap[gn]? = some (.cells #[vs nm] strT (0, 0))) : Calls Tryz.prog 53 #[.agg (npC x).toArray, .pointer (some ⟨gn, 0, none⟩)] w fun e w' => K0 w w' ∧ e = .returned (.bool (hitN nm x)) := by
  refine H.enter Tryz.func53 Tryz.ntmps53 rfl rfl ?_; dsimp only [H.args]
  refine CL.seq ?_
  refine CL.region ?_
  refine RW.box rfl rfl (fun w1 hb1 hk1 hlt1 => ?_)
  have hb1' : w1.heap[w.heap.size]? = some (.cells (npC x).toArray ndT (0, 0)) := hb1
  have hn1 := hk1.at0 hn
  repeat' (first | (refine CL.seq ?_) | (refine CL.region ?_) | (refine CL.ret ?_) | (refine Gt.nil ?_; refine RW.nilw [0, 1, 2, 3] ?_; dsimp only [H.keep, H.look, H.Fr.put, Nat.beq]) | (refine Gt.assign ?_; refine RW.y (Y.assign rfl) rfl ?_) | (refine Gt.load ?_; refine RW.y (Y.loadB rfl (by assumption) rfl) rfl ?_) | (refine Gt.fieldAddr ?_; refine RW.y (Y.fieldAddr rfl (by rfl)) rfl ?_) | (refine Gt.eql ?_; refine RW.y (Y.eqs rfl rfl) rfl ?_))
  exact FQ.one rfl rfl rfl ⟨hk1, rfl⟩
/-- A closure that says whether a need has that name. -/
def LamN (F : Nat) : Prop := ∀ (x : Np) (nm : T) (gn : Nat) (w : World), w.heap[gn]? = some (.cells #[vs nm] strT (0, 0)) → Calls Tryz.prog F #[.agg (npC x).toArray, .pointer (some ⟨gn, 0, none⟩)] w fun e w' => K0 w w' ∧ e = .returned (.bool (hitN nm x))
theorem idxNeeds (F : Nat) [Ent Tryz.prog F] (hF : LamN F) (v : Value) (L : List Np) (nm : T) (gn : Nat) (w : World) (hv : GA ndK w v L) (hn : w.heap[gn]? = some (.cells #[vs nm] strT (0, 0))) (hl : L.length ≤ 1000000) : Calls Tryz.prog 70 #[v, .func (.func F) #[] #[.pointer (some ⟨gn, 0, none⟩)]] w fun e w' => K0 w w' ∧ e = .returned (.int .i64 (idxI (hitN nm) L 0)) := by
  refine H.enter Tryz.func70 Tryz.ntmps70 rfl rfl ?_; dsimp only [H.args]
  have hs := hv.1
  repeat' (first | (refine CL.seq ?_) | (refine CL.region ?_) | (refine CL.block ?_) | (refine Gt.nil ?_; refine RW.nilw [0, 1, 4, 5, 7, 8, 9, 16] ?_; dsimp only [H.keep, H.look, H.Fr.put, Nat.beq]) | (refine Gt.move ?_; refine RW.y (Y.move rfl) rfl ?_) | (refine Gt.assign ?_; refine RW.y (Y.assign rfl) rfl ?_) | (refine Gt.len ?_; (refine RW.y (Y.lenx rfl (by assumption)) rfl ?_)))
  refine CL.loopS [0, 1, 4, 7, 8] (fun k vals wr => ∃ (i : Nat) (n : Int), vals = [v, .func (.func F) #[] #[.pointer (some ⟨gn, 0, none⟩)], .int .i64 n, .int .i64 (L.length : Int), .int .i64 (i : Int)] ∧ k = L.length - i ∧ i ≤ L.length ∧ idxI (hitN nm) L 0 = idxI (hitN nm) (L.drop i) i ∧ K0 w wr) L.length ⟨_, rfl, 0, 0, rfl, rfl, Nat.zero_le _, rfl, Kept.refl _ _⟩ ?_
  rintro k vals wr ⟨i, n, rfl, rfl, hi, hix, hkr⟩
  dsimp only [List.zip, List.zipWith]
  have hvr := hv.keep0 hkr
  have hsr : Sl wr 4 v L.length (L.flatMap npC) := hvr.1
  have hti : ((i : Int)).toNat = i := Int.toNat_natCast i
  rcases Nat.lt_or_ge i L.length with hlt | hge
  · have hall := elAll hsr npC_len (i := (i : Int)) (by omega) (by omega)
    have hst := idxI_drop (hitN nm) L i hlt
    rw [← hti] at hst
    repeat' (first | (refine CL.seq ?_) | (refine CL.region ?_) | (refine CL.skip ?_) | (refine CL.condP rfl (fun _ => ?_) (fun _ => ?_) <;> try (exfalso; omega)) | (refine CL.block ?_) | (refine Gt.nil ?_; refine RW.nilw [0, 1, 4, 5, 7, 8, 9, 16] ?_; dsimp only [H.keep, H.look, H.Fr.put, Nat.beq]) | (refine Gt.move ?_; refine RW.y (Y.move rfl) rfl ?_) | (refine Gt.assign ?_; refine RW.y (Y.assign rfl) rfl ?_) | (refine Gt.lss ?_; refine RW.y (Y.lss rfl rfl) rfl ?_) | (refine Gt.idx ?_; (refine RW.elemA rfl rfl rfl rfl (by assumption) (fun _ => by rfl) rfl (by omega) (by omega) (fun _ => ?_))))
    generalize hxd : L.getD ((i : Int)).toNat default = x at *
    rw [hti] at hst
    refine RW.fnv (cap := [.pointer (some ⟨gn, 0, none⟩)]) rfl rfl rfl ((hF x nm gn wr (hkr.at0 hn)).mono ?_)
    rintro e w' ⟨hk', rfl⟩
    cases hm : hitN nm x
    · rw [hm] at hst
      repeat' (first | (refine CL.region ?_) | (refine CL.skip ?_) | (refine CL.condF rfl ?_) | (refine CL.done ?_) | (refine Nm.block ?_) | (refine Nm.then ?_) | (refine Gt.nil ?_; refine RW.nilw [0, 1, 4, 5, 7, 8, 9, 16] ?_; dsimp only [H.keep, H.look, H.Fr.put, Nat.beq]) | (refine Gt.move ?_; refine RW.y (Y.move rfl) rfl ?_) | (refine Gt.add ?_; refine RW.y (Y.add64 rfl rfl (by omega) (by omega)) rfl ?_))
      exact ⟨L.length - (i + 1), _, rfl, rfl, rfl, by omega, i + 1, n, rfl, rfl, by omega, by rw [hix, hst]; rfl, hkr.trans0 hk'⟩
    · rw [hm] at hst
      repeat' (first | (refine CL.seq ?_) | (refine CL.region ?_) | (refine CL.condT rfl ?_) | (refine CL.ret ?_) | (refine Rt.then ?_) | (refine Rt.block ?_) | (refine Gt.nil ?_; refine RW.nilw [0, 1, 4, 5, 7, 8, 9, 16] ?_; dsimp only [H.keep, H.look, H.Fr.put, Nat.beq]) | (refine Gt.move ?_; refine RW.y (Y.move rfl) rfl ?_) | (refine Gt.assign ?_; refine RW.y (Y.assign rfl) rfl ?_))
      exact FQ.one rfl rfl rfl ⟨hkr.trans0 hk', by rw [hix, hst]; rfl⟩
  · have hi : i = L.length := by omega
    subst hi
    rw [List.drop_length] at hix
    repeat' (first | (refine CL.seq ?_) | (refine CL.region ?_) | (refine CL.condP rfl (fun _ => ?_) (fun _ => ?_) <;> try (exfalso; omega)) | (refine CL.exit ?_) | (refine Ex.then ?_) | (refine Ex.hit ?_) | (refine CL.ret ?_) | (refine Gt.nil ?_; refine RW.nilw [0, 1, 4, 5, 7, 8, 9, 16] ?_; dsimp only [H.keep, H.look, H.Fr.put, Nat.beq]) | (refine Gt.assign ?_; refine RW.y (Y.assign rfl) rfl ?_) | (refine Gt.lss ?_; refine RW.y (Y.lss rfl rfl) rfl ?_))
    exact FQ.one rfl rfl rfl ⟨hkr, by rw [hix]; rfl⟩
theorem containsN (v : Value) (L : List Np) (nm : T) (gn : Nat) (w : World) (hv : GA ndK w v L) (hn : w.heap[gn]? = some (.cells #[vs nm] strT (0, 0))) (hl : L.length ≤ 1000000) : Calls Tryz.prog 68 #[v, .func (.func 69) #[] #[.pointer (some ⟨gn, 0, none⟩)]] w fun e w' => K0 w w' ∧ e = .returned (.bool (hasN (L.map (·.d)) nm)) := by
  refine H.enter Tryz.func68 Tryz.ntmps68 rfl rfl ?_; dsimp only [H.args]
  repeat' (first | (refine CL.seq ?_) | (refine CL.region ?_) | (refine Gt.nil ?_; refine RW.nilw [0, 1, 4] ?_; dsimp only [H.keep, H.look, H.Fr.put, Nat.beq]) | (refine Gt.assign ?_; refine RW.y (Y.assign rfl) rfl ?_) | (refine Gt.move ?_; refine RW.y (Y.move rfl) rfl ?_))
  refine RW.fn rfl rfl ((idxNeeds 69 (fun x nm gn w hn => hasLam x nm gn w hn) v L nm gn w hv hn hl).mono ?_)
  rintro e w1 ⟨hk1, rfl⟩
  refine RW.y (Y.geq rfl rfl) rfl ?_
  rw [idxI_any, any_hit]
  repeat' (first | (refine CL.ret ?_) | (refine Gt.nil ?_; refine RW.nilw [0, 1, 4] ?_; dsimp only [H.keep, H.look, H.Fr.put, Nat.beq]) | (refine Gt.assign ?_; refine RW.y (Y.assign rfl) rfl ?_))
  exact FQ.one rfl rfl rfl ⟨hk1, rfl⟩
theorem has (v : Value) (L : List Np) (nm : T) (w : World) (hv : GA ndK w v L) (hl : L.length ≤ 1000000) : Calls Tryz.prog 50 #[v, vs nm] w fun e w' => K0 w w' ∧ e = .returned (.bool (hasN (L.map (·.d)) nm)) := by
  refine H.enter Tryz.func50 Tryz.ntmps50 rfl rfl ?_; dsimp only [H.args]
  refine CL.seq ?_
  refine CL.region ?_
  refine RW.box rfl rfl (fun w1 hb1 hk1 hlt1 => ?_)
  repeat' (first | (refine CL.seq ?_) | (refine CL.region ?_) | (refine Gt.nil ?_; refine RW.nilw [0, 1, 3, 4] ?_; dsimp only [H.keep, H.look, H.Fr.put, Nat.beq]) | (refine RW.y (Y.makeFunc (xs := []) (ys := [_]) rfl rfl) rfl ?_) | (refine Gt.assign ?_; refine RW.y (Y.assign rfl) rfl ?_) | (refine Gt.move ?_; refine RW.y (Y.move rfl) rfl ?_))
  refine RW.fn rfl rfl ((containsN v L nm w.heap.size w1 (hv.keep0 hk1) hb1 hl).mono ?_)
  rintro e w2 ⟨hk2, rfl⟩
  repeat' (first | (refine CL.ret ?_) | (refine Gt.nil ?_; refine RW.nilw [0, 1, 3, 4] ?_; dsimp only [H.keep, H.look, H.Fr.put, Nat.beq]) | (refine Gt.assign ?_; refine RW.y (Y.assign rfl) rfl ?_))
  exact FQ.one rfl rfl rfl ⟨hk1.trans0 hk2, rfl⟩
theorem cloneN (v : Value) (n : Nat) (xs : List Value) (w : World) (hs : Sl w 4 v n xs) (h1 : ∀ u ∈ xs, u.oneCell' = true) (hn : n ≤ 1000000) : Calls Tryz.prog 52 #[v] w fun e w' => K0 w w' ∧ ∃ u, e = .returned u ∧ w'.ownsRow w.heap.size ndT 4 u n xs := by
  refine H.enter Tryz.func52 Tryz.ntmps52 rfl rfl ?_; dsimp only [H.args]
  repeat' (first | (refine CL.seq ?_) | (refine CL.region ?_) | (refine Gt.nil ?_; refine RW.nilw [0, 2, 4] ?_; dsimp only [H.keep, H.look, H.Fr.put, Nat.beq]) | (refine Gt.assign ?_; refine RW.y (Y.assign rfl) rfl ?_) | (refine Gt.move ?_; refine RW.y (Y.move rfl) rfl ?_))
  obtain ⟨p, cap, rfl, hcap⟩ := hs.shape
  refine RW.y (Y.eqsn rfl rfl) rfl ?_
  cases p with
  | none =>
    have hn : n = 0 := by
      rcases hs.2.2 with ⟨p, h, _⟩ | ⟨g, off, cap, cur, e', fz, h, _⟩
      · cases h; rfl
      · cases h
    subst hn
    have hx : xs = [] := List.eq_nil_of_length_eq_zero (by simpa using hs.1)
    subst hx
    repeat' (first | (refine CL.seq ?_) | (refine CL.region ?_) | (refine CL.condT rfl ?_) | (refine CL.ret ?_) | (refine Gt.nil ?_; refine RW.nilw [0, 2, 4] ?_; dsimp only [H.keep, H.look, H.Fr.put, Nat.beq]) | (refine Gt.assign ?_; refine RW.y (Y.assign rfl) rfl ?_))
    exact FQ.one rfl rfl rfl ⟨Kept.refl _ _, _, rfl, World.ownsRow_nil _ _ _ _⟩
  | some a =>
    repeat' (first | (refine CL.seq ?_) | (refine CL.region ?_) | (refine CL.skip ?_) | (refine CL.condF rfl ?_) | (refine Gt.nil ?_; refine RW.nilw [0, 2, 4] ?_; dsimp only [H.keep, H.look, H.Fr.put, Nat.beq]))
    refine RW.build0 rfl (fun w1 hb1 hk1 hlt1 => ?_)
    have hown := fun sz => own_new (n := 0) (sz := sz) hb1 (Nat.le_refl _) (by simp) (by decide)
    repeat' ((refine Gt.move ?_; refine RW.y (Y.move rfl) rfl ?_))
    refine RW.app (sz := 4) rfl rfl rfl rfl rfl (hown 4) (hs.keep0 hk1) h1 (by omega) (by omega) (by omega) (fun u' w2 how hk2 hl2 => ?_)
    repeat' (first | (refine CL.ret ?_) | (refine Gt.nil ?_; refine RW.nilw [0, 2, 4] ?_; dsimp only [H.keep, H.look, H.Fr.put, Nat.beq]) | (refine Gt.assign ?_; refine RW.y (Y.assign rfl) rfl ?_))
    have how' := how
    rw [Nat.zero_add] at how'
    exact FQ.one rfl rfl rfl ⟨hk1.trans hk2 fun k h => .inr (by simp [Value.ownBlock] at h; omega), _, rfl, how'⟩
theorem sorted (v : Value) (L : List Np) (w : World) (hv : GA ndK w v L) (hl : L.length ≤ 20) : Calls Tryz.prog 38 #[v] w fun e w' => K0 w w' ∧ ∃ u, e = .returned u ∧ GI ndK w' w.heap.size ndT u (sortN nmN L) := by
  refine H.enter Tryz.func38 Tryz.ntmps38 rfl rfl ?_; dsimp only [H.args]
  repeat' (first | (refine CL.seq ?_) | (refine CL.region ?_) | (refine Gt.nil ?_; refine RW.nilw [0, 2] ?_; dsimp only [H.keep, H.look, H.Fr.put, Nat.beq]) | (refine Gt.assign ?_; refine RW.y (Y.assign rfl) rfl ?_) | (refine Gt.move ?_; refine RW.y (Y.move rfl) rfl ?_))
  refine RW.fn rfl rfl ((cloneN v L.length _ w hv.1 hv.ones (by omega)).mono ?_)
  rintro e w1 ⟨hk1, u, rfl, how⟩
  have hg := GI.clone hv hk1 how
  repeat' (first | (refine CL.seq ?_) | (refine CL.region ?_) | (refine Gt.nil ?_; refine RW.nilw [0, 2] ?_; dsimp only [H.keep, H.look, H.Fr.put, Nat.beq]) | (refine Gt.assign ?_; refine RW.y (Y.assign rfl) rfl ?_) | (refine Gt.move ?_; refine RW.y (Y.move rfl) rfl ?_))
  refine RW.fn rfl rfl ((sortNeeds w.heap.size u L w1 how (fun x hx => (hv.2 x hx).1.one) hl).mono ?_)
  rintro e w2 ⟨rfl, how2, hk2⟩
  repeat' (first | (refine CL.seq ?_) | (refine CL.region ?_) | (refine CL.ret ?_) | (refine Gt.nil ?_; refine RW.nilw [0, 2] ?_; dsimp only [H.keep, H.look, H.Fr.put, Nat.beq]) | (refine Gt.assign ?_; refine RW.y (Y.assign rfl) rfl ?_) | (refine Gt.move ?_; refine RW.y (Y.move rfl) rfl ?_))
  refine FQ.one rfl rfl rfl ⟨hk1.trans hk2 fun k h => .inr (hg.lt k h).1, u, rfl, ?_, ?_⟩
  · rw [sortN_len]; exact how2
  · intro x hx
    have hx' := (sortN_mem nmN L x).1 hx
    have h2 := hg.2 x hx'
    exact ⟨ndK.keep _ _ _ x h2.1 hk2 fun g _ hg => h2.2 g hg, h2.2⟩
theorem refSorted (v : Value) (L : List Np) (w : World) (hv : GA ndK w v L) (hl : L.length ≤ 1000) : Calls Tryz.prog 41 #[v] w fun e w' => K0 w w' ∧ ∃ u, e = .returned u ∧ GA ndK w' u (sortN nmN L) := by
  refine H.enter Tryz.func41 Tryz.ntmps41 rfl rfl ?_; dsimp only [H.args]
  repeat' (first | (refine CL.seq ?_) | (refine CL.region ?_) | (refine CL.block ?_) | (refine Gt.nil ?_; refine RW.nilw [0, 2, 3, 4, 5, 9, 29] ?_; dsimp only [H.keep, H.look, H.Fr.put, Nat.beq]) | (refine Gt.assign ?_; refine RW.y (Y.assign rfl) rfl ?_))
  refine CL.loopS [0, 3, 4] (fun k vals wr => ∃ (i : Nat) (q : Value) (Lo : List Np), vals = [v, q, .int .i64 (i : Int)] ∧ k = L.length - i ∧ i ≤ L.length ∧ GA ndK wr q Lo ∧ Lo.length = i ∧ Lo = sortN nmN (L.take i) ∧ (∀ y ∈ Lo, y ∈ L) ∧ K0 w wr) L.length ⟨_, rfl, 0, _, [], rfl, rfl, Nat.zero_le _, ⟨Sl.nil _ _, fun x hx => by cases hx⟩, rfl, rfl, (fun y hy => by cases hy), Kept.refl _ _⟩ ?_
  rintro k vals wr ⟨i, q, Lo, rfl, rfl, hi, hq, hLo, hso, hin, hKr⟩
  dsimp only [List.zip, List.zipWith]
  have hsr := hv.1.keep0 hKr
  obtain ⟨p, cap, rfl, hcap⟩ := hq.shape
  rcases Nat.lt_or_ge i L.length with hlt | hge
  · have hti : ((i : Int)).toNat = i := Int.toNat_natCast i
    obtain ⟨X, hX⟩ : ∃ X, X = L.getD ((i : Int)).toNat default := ⟨_, rfl⟩
    have hdl : Lo.length = i := hLo
    repeat' (first | (refine CL.seq ?_) | (refine CL.region ?_) | (refine CL.skip ?_) | (refine CL.condP rfl (fun _ => ?_) (fun _ => ?_) <;> try (exfalso; omega)) | (refine Gt.nil ?_; refine RW.nilw [0, 2, 3, 4, 5, 9, 29] ?_; dsimp only [H.keep, H.look, H.Fr.put, Nat.beq]) | (refine Gt.move ?_; refine RW.y (Y.move rfl) rfl ?_) | (refine Gt.len ?_; (refine RW.y (Y.lenx rfl (by assumption)) rfl ?_)) | (refine Gt.lss ?_; refine RW.y (Y.lss rfl rfl) rfl ?_))
    refine CL.block ?_
    repeat' (first | (refine CL.seq ?_) | (refine CL.region ?_) | (refine Gt.nil ?_; refine RW.nilw [0, 2, 3, 4, 5, 9, 29] ?_; dsimp only [H.keep, H.look, H.Fr.put, Nat.beq]) | (refine Gt.move ?_; refine RW.y (Y.move rfl) rfl ?_) | (refine Gt.assign ?_; refine RW.y (Y.assign rfl) rfl ?_) | (refine Gt.len ?_; (refine RW.y (Y.lenv rfl) rfl ?_)))
    refine CL.cutS [0, 3, 4, 5] (fun vals wx => ∃ a : Nat, vals = [v, .slice p Lo.length cap, .int .i64 (i : Int), .int .i64 (a : Int)] ∧ a ≤ i ∧ (∀ q ∈ Lo.drop a, ltT (nmN X) (nmN q) = true) ∧ (a = 0 ∨ ltT (nmN X) (nmN (Lo.getD (a - 1) default)) = false) ∧ K0 wr wx) (by simp) ?_ ?_
    · skip
      refine CL.block ?_
      refine CL.loopS [0, 3, 4, 5] (fun k vals wv => ∃ (a : Nat), vals = [v, .slice p Lo.length cap, .int .i64 (i : Int), .int .i64 (a : Int)] ∧ k = a ∧ a ≤ i ∧ (∀ q ∈ Lo.drop a, ltT (nmN X) (nmN q) = true) ∧ K0 wr wv) i ⟨_, rfl, i, by rw [hLo], rfl, Nat.le_refl _, (fun q hq => by rw [List.drop_of_length_le (by omega)] at hq; cases hq), Kept.refl _ _⟩ ?_
      rintro k vals wv ⟨a, rfl, hka, ha, hup, hkv⟩
      dsimp only [List.zip, List.zipWith]
      have hsv := hsr.keep0 hkv
      have hqv := hq.1.keep0 hkv
      obtain ⟨g2, o2, hsp2, hcl2⟩ := elSpot hsv ndK.len (i := (i : Int)) (by omega) (by omega)
      repeat' ((refine CL.seq ?_))
      refine CL.draw (fun w' => K0 wv w') (by kernel_rfl) (fun w1 hheap1 hk1 => ?_)
      have hS : K0 wv w1 := hk1
      skip
      skip
      rcases Nat.eq_zero_or_pos a with h0 | h0
      · subst h0
        refine AW.take 0 rfl (by kernel_rfl) (by kernel_rfl) (by kernel_rfl) rfl (by assumption) (fun w hS => Y.move rfl) ?_
        refine AW.take 1 rfl (by kernel_rfl) (by kernel_rfl) (by kernel_rfl) rfl (by assumption) (fun w hS => Y.gtr rfl rfl) ?_
        refine AW.take 2 rfl (by kernel_rfl) (by kernel_rfl) (by kernel_rfl) rfl (by assumption) (fun w hS => Y.move rfl) ?_
        refine AW.takeOff 3 rfl (by kernel_rfl) (by kernel_rfl) (by kernel_rfl) rfl rfl rfl rfl rfl (by assumption) ?_
        refine AW.takeOff 4 rfl (by kernel_rfl) (by kernel_rfl) (by kernel_rfl) rfl rfl rfl rfl rfl (by assumption) ?_
        refine AW.takeOff 5 rfl (by kernel_rfl) (by kernel_rfl) (by kernel_rfl) rfl rfl rfl rfl rfl (by assumption) ?_
        refine AW.takeOff 6 rfl (by kernel_rfl) (by kernel_rfl) (by kernel_rfl) rfl rfl rfl rfl rfl (by assumption) ?_
        refine AW.takeOff 7 rfl (by kernel_rfl) (by kernel_rfl) (by kernel_rfl) rfl rfl rfl rfl rfl (by assumption) ?_
        refine AW.takeOff 8 rfl (by kernel_rfl) (by kernel_rfl) (by kernel_rfl) rfl rfl rfl rfl rfl (by assumption) ?_
        refine AW.takeOff 9 rfl (by kernel_rfl) (by kernel_rfl) (by kernel_rfl) rfl rfl rfl rfl rfl (by assumption) ?_
        refine AW.takeOff 10 rfl (by kernel_rfl) (by kernel_rfl) (by kernel_rfl) rfl rfl rfl rfl rfl (by assumption) ?_
        refine AW.takeOff 11 rfl (by kernel_rfl) (by kernel_rfl) (by kernel_rfl) rfl rfl rfl rfl rfl (by assumption) ?_
        refine AW.takeOff 12 rfl (by kernel_rfl) (by kernel_rfl) (by kernel_rfl) rfl rfl rfl rfl rfl (by assumption) ?_
        refine AW.takeOff 13 rfl (by kernel_rfl) (by kernel_rfl) (by kernel_rfl) rfl rfl rfl rfl rfl (by assumption) ?_
        refine AW.takeOff 14 rfl (by kernel_rfl) (by kernel_rfl) (by kernel_rfl) rfl rfl rfl rfl rfl (by assumption) ?_
        refine AW.take 15 rfl (by kernel_rfl) (by kernel_rfl) (by kernel_rfl) rfl (by assumption) (fun w hS => by exact Y.pickF rfl rfl) ?_
        refine AW.donew [0, 3, 4, 5, 29] (by kernel_rfl) ?_
        dsimp only [H.keep, H.look, H.Fr.put, Nat.beq]
        repeat' (first | (refine CL.condF rfl ?_) | (refine CL.exit ?_) | (refine Ex.then ?_) | (refine Ex.hit ?_) | (refine CL.done ?_) | (refine Nm.then ?_))
        exact ⟨_, rfl, rfl, rfl, 0, rfl, Nat.zero_le _, hup, .inl rfl, hkv.trans0 hk1⟩
      · obtain ⟨g1, o1, hsp1, hcl1⟩ := elSpot hqv ndK.len (i := (a : Int) - 1) (by omega) (by omega)
        have hg0 : decide ((0 : Int) < (a : Int)) = true := decide_eq_true (by omega)
        obtain ⟨bb, hbb⟩ : ∃ bb : Bool, (!(Op.bytesLess (Lo.getD ((a : Int) - 1).toNat default).d.name (L.getD ((i : Int)).toNat default).d.name || (Lo.getD ((a : Int) - 1).toNat default).d.name == (L.getD ((i : Int)).toNat default).d.name)) = bb := ⟨_, rfl⟩
        have hbx := hbb
        rw [gts_lt, ← hX, show ((a : Int) - 1).toNat = a - 1 from by omega] at hbx
        skip
        refine AW.take 0 rfl (by kernel_rfl) (by kernel_rfl) (by kernel_rfl) rfl (by assumption) (fun w hS => Y.move rfl) ?_
        refine AW.take 1 rfl (by kernel_rfl) (by kernel_rfl) (by kernel_rfl) rfl (by assumption) (fun w hS => Y.gtrT rfl rfl (by omega)) ?_
        refine AW.take 2 rfl (by kernel_rfl) (by kernel_rfl) (by kernel_rfl) rfl (by assumption) (fun w hS => Y.move rfl) ?_
        refine AW.takeOn 3 rfl (by kernel_rfl) (by kernel_rfl) (by kernel_rfl) rfl rfl rfl rfl (by assumption) (fun w hS => Y.move rfl) ?_
        refine AW.takeOn 4 rfl (by kernel_rfl) (by kernel_rfl) (by kernel_rfl) rfl rfl rfl rfl (by assumption) (fun w hS => Y.move rfl) ?_
        refine AW.takeOn 5 rfl (by kernel_rfl) (by kernel_rfl) (by kernel_rfl) rfl rfl rfl rfl (by assumption) (fun w hS => by exact Y.sub64 rfl rfl (by omega) (by omega)) ?_
        refine AW.takeOn 6 rfl (by kernel_rfl) (by kernel_rfl) (by kernel_rfl) rfl rfl rfl rfl (by assumption) (fun w hS => Y.idx rfl rfl (hqv.keep0 hS) (by omega) (by omega)) ?_
        refine AW.takeOn 7 rfl (by kernel_rfl) (by kernel_rfl) (by kernel_rfl) rfl rfl rfl rfl (by assumption) (fun w hS => Y.fieldAddr (congrArg (fun a => some (Value.pointer (some a))) hsp1) (by rfl)) ?_
        refine AW.takeOn 8 rfl (by kernel_rfl) (by kernel_rfl) (by kernel_rfl) rfl rfl rfl rfl (by assumption) (fun w hS => Y.load1A rfl (hcl1 _ hS 0 _ rfl)) ?_
        refine AW.takeOn 9 rfl (by kernel_rfl) (by kernel_rfl) (by kernel_rfl) rfl rfl rfl rfl (by assumption) (fun w hS => Y.move rfl) ?_
        refine AW.takeOn 10 rfl (by kernel_rfl) (by kernel_rfl) (by kernel_rfl) rfl rfl rfl rfl (by assumption) (fun w hS => Y.move rfl) ?_
        refine AW.takeOn 11 rfl (by kernel_rfl) (by kernel_rfl) (by kernel_rfl) rfl rfl rfl rfl (by assumption) (fun w hS => Y.idx rfl rfl (hsv.keep0 hS) (by omega) (by omega)) ?_
        refine AW.takeOn 12 rfl (by kernel_rfl) (by kernel_rfl) (by kernel_rfl) rfl rfl rfl rfl (by assumption) (fun w hS => Y.fieldAddr (congrArg (fun a => some (Value.pointer (some a))) hsp2) (by rfl)) ?_
        refine AW.takeOn 13 rfl (by kernel_rfl) (by kernel_rfl) (by kernel_rfl) rfl rfl rfl rfl (by assumption) (fun w hS => Y.load1A rfl (hcl2 _ hS 0 _ rfl)) ?_
        refine AW.takeOn 14 rfl (by kernel_rfl) (by kernel_rfl) (by kernel_rfl) rfl rfl rfl rfl (by assumption) (fun w hS => Y.gtsE rfl rfl hbb) ?_
        refine AW.take 15 rfl (by kernel_rfl) (by kernel_rfl) (by kernel_rfl) rfl (by assumption) (fun w hS => by exact Y.pickT rfl rfl) ?_
        refine AW.donew [0, 3, 4, 5, 29] (by kernel_rfl) ?_
        dsimp only [H.keep, H.look, H.Fr.put, Nat.beq]
        cases bb
        · repeat' (first | (refine CL.condF rfl ?_) | (refine CL.exit ?_) | (refine Ex.then ?_) | (refine Ex.hit ?_) | (refine CL.done ?_) | (refine Nm.then ?_))
          exact ⟨_, rfl, rfl, rfl, a, rfl, ha, hup, .inr hbx, hkv.trans0 hk1⟩
        · repeat' (first | (refine CL.region ?_) | (refine CL.skip ?_) | (refine CL.condT rfl ?_) | (refine CL.block ?_) | (refine CL.done ?_) | (refine Nm.block ?_) | (refine Nm.then ?_) | (refine Gt.nil ?_; refine RW.nilw [0, 2, 3, 4, 5, 9, 29] ?_; dsimp only [H.keep, H.look, H.Fr.put, Nat.beq]) | (refine Gt.move ?_; refine RW.y (Y.move rfl) rfl ?_) | (refine Gt.assign ?_; refine RW.y (Y.assign rfl) rfl ?_) | (refine Gt.sub ?_; refine RW.y (Y.sub64 rfl rfl (by omega) (by omega)) rfl ?_))
          exact ⟨a - 1, _, rfl, rfl, rfl, by omega, a - 1, by simp; omega, rfl, by omega, (fun q hq => (drop_mem default (by omega) (by omega) hq).elim (fun e => by rw [e]; exact hbx) (hup q)), hkv.trans0 hk1⟩
    · rintro vals wv ⟨a, rfl, ha, hup, hst, hkv⟩
      dsimp only [List.zip, List.zipWith]
      have hsv := hsr.keep0 hkv
      have hel := elAll hsv ndK.len (i := (i : Int)) (by omega) (by omega)
      have hti2 : ((a : Int)).toNat = a := Int.toNat_natCast a
      skip
      refine CL.draw (fun w' => K0 wv w') (by kernel_rfl) (fun w2 hheap hk2 => ?_)
      have hS : K0 wv w2 := hk2
      skip
      refine AW.take 0 rfl (by kernel_rfl) (by kernel_rfl) (by kernel_rfl) rfl (by assumption) (fun w hS => Y.move rfl) ?_
      refine AW.take 1 rfl (by kernel_rfl) (by kernel_rfl) (by kernel_rfl) rfl (by assumption) (fun w hS => Y.move rfl) ?_
      refine AW.take 2 rfl (by kernel_rfl) (by kernel_rfl) (by kernel_rfl) rfl (by assumption) (fun w hS => Y.move rfl) ?_
      refine AW.take 3 rfl (by kernel_rfl) (by kernel_rfl) (by kernel_rfl) rfl (by assumption) (fun w hS => Y.upto rfl rfl rfl (by omega) (by omega)) ?_
      refine AW.take 4 rfl (by kernel_rfl) (by kernel_rfl) (by kernel_rfl) rfl (by assumption) (fun w hS => Y.move rfl) ?_
      refine AW.take 5 rfl (by kernel_rfl) (by kernel_rfl) (by kernel_rfl) rfl (by assumption) (fun w hS => Y.move rfl) ?_
      refine AW.take 6 rfl (by kernel_rfl) (by kernel_rfl) (by kernel_rfl) rfl (by assumption) (fun w hS => Y.idx rfl rfl (hsv.keep0 hS) (by omega) (by omega)) ?_
      refine AW.take 7 rfl (by kernel_rfl) (by kernel_rfl) (by kernel_rfl) rfl (by assumption) (fun w hS => Y.loadN (cs := npC (L.getD ((i : Int)).toNat default)) rfl (npC_len _) (hel _ hS)) ?_
      refine AW.take 9 rfl (by kernel_rfl) (by kernel_rfl) (by kernel_rfl) rfl (by assumption) (fun w hS => Y.move rfl) ?_
      refine AW.take 10 rfl (by kernel_rfl) (by kernel_rfl) (by kernel_rfl) rfl (by assumption) (fun w hS => Y.move rfl) ?_
      refine AW.take 11 rfl (by kernel_rfl) (by kernel_rfl) (by kernel_rfl) rfl (by assumption) (fun w hS => Y.from rfl rfl (by omega) (by omega) (by omega)) ?_
      refine AW.next 8 rfl (by kernel_rfl) ?_
      have hz2 := hk2.size
      refine RW.build1 rfl (by show (npC _).toArray.size = _; rw [List.size_toArray, npC_len]) rfl rfl (fun w3 hb3 hk3 hlt3 => ?_)
      have hown3 : w3.ownsRow w2.heap.size ndT 4 (.slice (some ⟨w2.heap.size, 0, none⟩) 1 1) 1 (npC (L.getD ((i : Int)).toNat default)) := own_new hb3 (Nat.le_refl _) (by show (npC _).toArray.size = _; rw [List.size_toArray, npC_len]) (by decide)
      have hS := hk2.trans0 hk3
      refine RW.nil (Nm.then ⟨hS, ?_⟩)
      skip
      refine AW.next 12 rfl (by kernel_rfl) ?_
      have hgf := (hq.keep0 ((hkv.trans0 hk2).trans0 hk3)).from rfl (a := a) (by omega) (by omega)
      have hgu := (hq.keep0 (hkv.trans0 hk2)).upto rfl (a := a) (by omega) (by omega)
      have hz3 := hk3.size
      rw [← hti2] at hgf hgu
      refine RW.app (sz := 4) rfl rfl rfl rfl rfl hown3 hgf.1 hgf.ones (by rw [List.length_drop]; omega) (by rw [List.length_drop]; omega) (by omega) (fun u4 w4 how4 hk4 hl4 => ?_)
      have hK34 : K0 w2 w4 := (hk3.trans hk4 fun k h => .inr (by simp [Value.ownBlock] at h; omega))
      have hS := hk2.trans0 hK34
      refine RW.nil (Nm.then ⟨hS, ?_⟩)
      skip
      refine AW.next 13 rfl (by kernel_rfl) ?_
      have hz4 := hk4.size
      have hgu4 := hgu.1.keep0 hK34
      have hlt4 : (L.getD ((i : Int)).toNat default) ∈ L := getD_mem default (by omega)
      refine RW.appA (sz := 4) rfl rfl rfl rfl rfl (.inr ⟨hgu4, ⟨_, by rw [List.length_take]; congr 1 <;> omega⟩, rfl⟩) (by omega) (Sl.of_own how4) (fun z hz => ?_) (by simp only [List.length_take, List.length_drop]; omega) (by simp only [List.length_take, List.length_drop]; omega) (Nat.zero_le _) (fun u5 w5 how5 hk5 hl5 => ?_)
      · rcases List.mem_append.1 hz with hz | hz
        · exact ndK.ones w _ (hv.2 _ hlt4) z hz
        · obtain ⟨y, hy, hz⟩ := List.mem_flatMap.1 hz
          exact ndK.ones w y (hv.2 y (hin y (List.mem_of_mem_drop hy))) z hz
      · have hK25 : K0 w2 w5 := hK34.trans0 (hk5.mono fun k h => by cases h)
        have hS := hk2.trans0 hK25
        refine RW.nil (Nm.then ⟨hS, ?_⟩)
        refine AW.take 14 rfl (by kernel_rfl) (by kernel_rfl) (by kernel_rfl) rfl (by assumption) (fun w hS => Y.assign rfl) ?_
        refine AW.donew [0, 3, 4] (by kernel_rfl) ?_
        dsimp only [H.keep, H.look, H.Fr.put, Nat.beq]
        have hc : u5 = u5 := rfl
        have hf : (Lo.take ((a : Int)).toNat ++ L.getD ((i : Int)).toNat default :: Lo.drop ((a : Int)).toNat).length = i + 1 := by rw [List.length_append, List.length_cons, List.length_take, List.length_drop]; omega
        repeat' (first | (refine CL.region ?_) | (refine CL.done ?_) | (refine Nm.block ?_) | (refine Nm.then ?_) | (refine Gt.nil ?_; refine RW.nilw [0, 2, 3, 4, 5, 9, 29] ?_; dsimp only [H.keep, H.look, H.Fr.put, Nat.beq]) | (refine Gt.move ?_; refine RW.y (Y.move rfl) rfl ?_) | (refine Gt.assign ?_; refine RW.y (Y.assign rfl) rfl ?_) | (refine Gt.add ?_; refine RW.y (Y.add64 rfl rfl (by omega) (by omega)) rfl ?_))
        refine ⟨L.length - (i + 1), _, rfl, rfl, rfl, by omega, i + 1, _, Lo.take ((a : Int)).toNat ++ L.getD ((i : Int)).toNat default :: Lo.drop ((a : Int)).toNat, rfl, rfl, by omega, ⟨?_, fun y hy => ?_⟩, hf, ?_, fun y hy => ?_, hKr.trans0 (hkv.trans0 hS)⟩
        · rw [List.flatMap_append, List.flatMap_cons, hf]
          have h5 := Sl.of_own how5
          rw [show (Lo.take ((a : Int)).toNat).length + (1 + (Lo.drop ((a : Int)).toNat).length) = i + 1 from by rw [List.length_take, List.length_drop]; omega] at h5
          exact h5
        · have hy2 : y ∈ L := by
            rcases List.mem_append.1 hy with h | h
            · exact hin y (List.mem_of_mem_take h)
            · rcases List.mem_cons.1 h with h | h
              · rw [h]; exact hlt4
              · exact hin y (List.mem_of_mem_drop h)
          exact ndK.keep0 (hv.2 y hy2) (hKr.trans0 (hkv.trans0 hS))
        · rw [take_snoc default L i hlt, sortN_snoc, ← hso, hti2, hti, insN_stop nmN default _ _ (by rw [hso]; exact sortN_srt nmN _) a (by omega) (by rw [hti] at hX; rw [← hX]; exact hup) (by rw [hti] at hX; rw [← hX]; exact hst)]
        · rcases List.mem_append.1 hy with h | h
          · exact hin y (List.mem_of_mem_take h)
          · rcases List.mem_cons.1 h with h | h
            · rw [h]; exact hlt4
            · exact hin y (List.mem_of_mem_drop h)
  · have hi : i = L.length := by omega
    subst hi
    repeat' (first | (refine CL.seq ?_) | (refine CL.region ?_) | (refine CL.condP rfl (fun _ => ?_) (fun _ => ?_) <;> try (exfalso; omega)) | (refine CL.exit ?_) | (refine Ex.then ?_) | (refine Ex.hit ?_) | (refine CL.ret ?_) | (refine Gt.nil ?_; refine RW.nilw [0, 2, 3, 4, 5, 9, 29] ?_; dsimp only [H.keep, H.look, H.Fr.put, Nat.beq]) | (refine Gt.move ?_; refine RW.y (Y.move rfl) rfl ?_) | (refine Gt.assign ?_; refine RW.y (Y.assign rfl) rfl ?_) | (refine Gt.len ?_; (refine RW.y (Y.lenx rfl (by assumption)) rfl ?_)) | (refine Gt.lss ?_; refine RW.y (Y.lss rfl rfl) rfl ?_))
    exact FQ.one rfl rfl rfl ⟨hKr, _, rfl, by rw [List.take_length] at hso; rw [← hso]; exact hq⟩
end Go.Proofs.YtjlkmdmpejpmpaaGreatDoor.Ma

namespace Go.Proofs.YtjlkmdmpejpmpaaGreatDoor.H
open Go.RowKit
section
variable {M : Option (Option Nat)} {P : Program} {ops : Array Oper} {Q : Post} {rest : List Oper} {f : Fr} {w : World} {d : Nat} {ty : TypeId} {pos : String} {af : Array Edge}
theorem RW.storeM {t : TypeId} {n : Nat} [h : Many P t n] {x y : Operand} {g j : Nat} {u : Array Value} {c : Array Value} {e : TypeId} (hx : f.ev x = some (.pointer (some ⟨g, j, none⟩))) (hy : f.ev y = some (.agg u)) (hu : Nat.beq u.size n = true) (h1 : ∀ z ∈ u.toList, z.oneCell' = true)
    (hb : w.heap[g]? = some (.cells c e (0, 0))) (hj : Nat.ble (j + n) c.size = true)
    (k : ∀ w', w'.heap[g]? = some (.cells (c.toList.take j ++ u.toList ++ c.toList.drop (j + n)).toArray e (0, 0)) → Kept (fun k => k = g) w w' → RW M P ops Q rest f w') : RW M P ops Q (op0 (.store t x y) ty pos af :: rest) f w := by
  have hu' := Nat.eq_of_beq_eq_true hu
  exact RW.storeN (fun w => h.size w) hx hy (by simpa [Value.cells] using hu') (by simpa [Value.cells] using h1) hb (Nat.le_of_ble_eq_true hj) fun w' hb' hk => k w' (by rw [hb']; simp [Value.cells]) hk
end
theorem GI.snoc {α : Type} {K : Dp α} {w w' : World} {B : Nat} {e : TypeId} {v v' : Value} {L : List α} {y : α} (h : GI K w B e v L) (hD : K.D w y) (hR : ∀ g, K.R y g → v.ownBlock ≠ some g) (how : w'.ownsRow B e K.sz v' (L.length + 1) (L.flatMap K.enc ++ K.enc y)) (hk : Kept (fun k => v.ownBlock = some k) w w') (hl' : Lies w v v') : GI K w' B e v' (L ++ [y]) := by
  refine ⟨?_, ?_⟩
  · rw [List.length_append, List.length_singleton, List.flatMap_append, List.flatMap_cons, List.flatMap_nil, List.append_nil]
    exact how
  · intro x hx
    have hold : K.D w x ∧ ∀ g, K.R x g → v.ownBlock ≠ some g := by
      rcases List.mem_append.1 hx with hx | hx
      · exact h.2 x hx
      · rw [List.mem_singleton.1 hx]; exact ⟨hD, hR⟩
    refine ⟨K.keep _ w w' x hold.1 hk fun g _ hr => hold.2 g hr, fun g hr c => ?_⟩
    rcases hl' g c with e | e
    · exact hold.2 g hr e
    · have := K.lt w x g hold.1 hr; omega
end Go.Proofs.YtjlkmdmpejpmpaaGreatDoor.H

namespace Go.Proofs.YtjlkmdmpejpmpaaGreatDoor.H
open Go.RowKit
section
variable {M : Option (Option Nat)} {P : Program} {ops : Array Oper} {Q : Post} {rest : List Oper} {f : Fr} {w : World} {d : Nat} {ty : TypeId} {pos : String} {af : Array Edge}
theorem zero_len (z : Array Value) (n : Nat) : (Builtin.zeroCells z n).toList.length = n * z.size := by simp [Builtin.zeroCells]
theorem zero_one {z : Array Value} {n : Nat} (h : ∀ u ∈ z.toList, u.oneCell' = true) : ∀ u ∈ (Builtin.zeroCells z n).toList, u.oneCell' = true := by
  intro u hu
  simp only [Builtin.zeroCells, Array.toList_map, List.mem_map, Array.toList_range, List.mem_range] at hu
  obtain ⟨i, hi, rfl⟩ := hu
  have hs : 0 < z.size := by
    rcases Nat.eq_zero_or_pos z.size with h0 | h0
    · rw [h0] at hi; omega
    · exact h0
  have hlt : i % z.size < z.size := Nat.mod_lt _ hs
  rw [getElem!_pos z (i % z.size) hlt]
  exact h _ (by simp)
theorem RW.clr {t e : TypeId} {z : Value} {sz b : Nat} [ht : Und P t (.slice e)] [hi : Inf P e z sz b] {x : Operand} {g off n cap : Nat} {c : Array Value} {e' : TypeId} (hx : f.ev x = some (.slice (some ⟨g, off, none⟩) n cap)) (h0 : 0 < n) (hz : z.cells.size = sz) (h1 : ∀ u ∈ z.cells.toList, u.oneCell' = true) (hb : w.heap[g]? = some (.cells c e' (0, 0))) (hj : off + n * sz ≤ c.size)
    (k : ∀ w' R, R.length = n * sz → w'.heap[g]? = some (.cells (c.toList.take off ++ R ++ c.toList.drop (off + n * sz)).toArray e' (0, 0)) → Kept (fun k => k = g) w w' → RW M P ops Q rest f w') :
    RW M P ops Q (op0 (.call { callee := .builtin .clear, args := #[x], argTypes := #[t] }) ty pos af :: rest) f w := by
  have hR : (Builtin.zeroCells z.cells n).toList.length = n * sz := by rw [zero_len, hz]
  have hst := run_storeCells_at P g off e' (Builtin.zeroCells z.cells n).toList 0 c w hb (by rw [hR]; omega) (zero_one h1)
  simp only [Nat.add_zero, hR] at hst
  have hzv := run_zeroValue (P := P) (t := e) w
  intro a ha
  refine lwp_plain rfl fun K hK => owp_val (v := .tuple #[]) (w' := w.setRow g (c.toList.take off ++ (Builtin.zeroCells z.cells n).toList ++ c.toList.drop (off + n * sz)).toArray) ?_ ?_
  · obtain ⟨m, rfl⟩ : ∃ m, n = m + 1 := ⟨n - 1, by omega⟩
    simp [execOp, resolve, invoke, builtin, ha.eval hx, Builtin.clear_, run_underlying ht.out, hzv, hst]
  · exact hK _ _ (k _ _ hR (setRow_heap w g c _ e' (0, 0) hb) (Kept.setRow w g _) a ha)
end
/-- The row whose end has been cleared. -/
theorem own_clr {w w' : World} {base : Nat} {e : TypeId} {sz n cap g a : Nat} {cur : Array Value} {xs R : List Value} (h : w.ownsRow base e sz (.slice (some ⟨g, 0, none⟩) n cap) n xs) (hg : w.heap[g]? = some (.cells cur e (0, 0))) (ha : a ≤ n) (hR : R.length = (n - a) * sz)
    (hb : w'.heap[g]? = some (.cells (cur.toList.take (a * sz) ++ R ++ cur.toList.drop (a * sz + (n - a) * sz)).toArray e (0, 0))) : w'.ownsRow base e sz (.slice (some ⟨g, 0, none⟩) n cap) n (xs.take (a * sz) ++ R) := by
  rcases h.2 with ⟨h, _⟩ | ⟨g', cap', cur', hv, hB, hg', hnc, hm, hs, ht⟩
  · cases h
  · cases hv
    rw [hg] at hg'; cases hg'
    have hl := h.1
    have has : a * sz + (n - a) * sz = n * sz := by rw [← Nat.add_mul]; congr 1; omega
    have hcs : n * sz ≤ cur.size := by rw [hs]; exact Nat.mul_le_mul_right _ hnc
    have hcl : cur.toList.length = cur.size := rfl
    refine ⟨?_, .inr ⟨g, cap, _, rfl, hB, hb, hnc, hm, ?_, ?_⟩⟩
    · simp only [List.length_append, List.length_take]; omega
    · simp only [List.size_toArray, List.length_append, List.length_take, List.length_drop]; omega
    · rw [← ht]
      have e1 : (cur.toList.take (a * sz) ++ R).length = n * sz := by simp only [List.length_append, List.length_take]; omega
      rw [List.take_append, e1, List.take_of_length_le (l := cur.toList.take (a * sz) ++ R) (by omega), List.take_take, Nat.min_eq_left (by omega), Nat.sub_self, List.take_zero, List.append_nil]
end Go.Proofs.YtjlkmdmpejpmpaaGreatDoor.H

namespace Go.Proofs.YtjlkmdmpejpmpaaGreatDoor.Ma
open Go.RowKit H S Ve Sp Od
attribute [local irreducible] H.CL H.RW H.CW H.Yd H.thenK H.blockQ Go.Calls

theorem idxI_spec {p : Np → Bool} : ∀ (L : List Np) (k : Nat), (idxI p L k = -1 ∧ ∀ x ∈ L, p x = false) ∨ ∃ j, j < L.length ∧ idxI p L k = ((k + j : Nat) : Int) ∧ p (L.getD j default) = true ∧ ∀ x ∈ L.take j, p x = false
  | [], _ => .inl ⟨rfl, fun x hx => by cases hx⟩
  | x :: r, k => by
    rw [idxI]
    cases h : p x with
    | true => exact .inr ⟨0, by simp, by rw [if_pos rfl]; rfl, by simpa using h, by simp⟩
    | false =>
      rw [if_neg (by simp)]
      rcases idxI_spec r (k + 1) with ⟨h1, h2⟩ | ⟨j, h1, h2, h3, h4⟩
      · exact .inl ⟨h1, fun y hy => (List.mem_cons.1 hy).elim (fun e => by rw [e]; exact h) (h2 y)⟩
      · refine .inr ⟨j + 1, by simp; omega, by rw [h2]; congr 1; omega, by simpa using h3, fun y hy => ?_⟩
        rw [List.take_succ_cons] at hy
        exact (List.mem_cons.1 hy).elim (fun e => by rw [e]; exact h) (h4 y)
abbrev keepN (nm : T) (L : List Np) : List Np := L.filter fun x => !hitN nm x
theorem keepN_all {nm : T} {L : List Np} (h : ∀ x ∈ L, hitN nm x = false) : keepN nm L = L := List.filter_eq_self.2 fun x hx => by rw [h x hx]; rfl
theorem keepN_snoc (nm : T) (L : List Np) (x : Np) : keepN nm (L ++ [x]) = if hitN nm x = true then keepN nm L else keepN nm L ++ [x] := by
  rw [keepN, List.filter_append]
  cases h : hitN nm x <;> simp [h]
abbrev remF (gn : Nat) : Value := .func (.func 53) #[] #[.pointer (some ⟨gn, 0, none⟩)]
/-- What stands while needs are taken away: those kept, what has been read, the rest. -/
structure DelI (B : Nat) (w wr : World) (v : Value) (L U : List Np) (nm : T) (a i : Nat) : Prop where
  len : U.length = L.length
  mem : ∀ x ∈ U, x ∈ L
  kept : U.take a = keepN nm (L.take i)
  rest : U.drop i = L.drop i
  ai : a < i
  own : wr.ownsRow B ndT 4 v L.length (U.flatMap npC)
  k : Kept (fun k => v.ownBlock = some k) w wr
theorem set_take {α : Type} (d : α) (U : List α) (a : Nat) (x : α) (h : a < U.length) : (U.set a x).take (a + 1) = U.take a ++ [x] := by
  rw [List.set_eq_take_append_cons_drop, if_pos h, List.take_append, List.length_take, Nat.min_eq_left (by omega)]
  simp [List.take_take]
theorem deleteN (B : Nat) (v : Value) (L : List Np) (nm : T) (gn : Nat) (w : World) (hv : GI ndK w B ndT v L) (hn : w.heap[gn]? = some (.cells #[vs nm] strT (0, 0))) (hgn : v.ownBlock ≠ some gn) (hl : L.length ≤ 1000) : Calls Tryz.prog 51 #[v, remF gn] w fun e w' => Kept (fun k => v.ownBlock = some k) w w' ∧ ∃ u, e = .returned u ∧ GI ndK w' B ndT u (keepN nm L) := by
  refine H.enter Tryz.func51 Tryz.ntmps51 rfl rfl ?_; dsimp only [H.args]
  repeat' (first | (refine CL.seq ?_) | (refine CL.region ?_) | (refine Gt.nil ?_; refine RW.nilw [0, 1, 4, 5, 6, 7, 12, 19, 29] ?_; dsimp only [H.keep, H.look, H.Fr.put, Nat.beq]) | (refine Gt.move ?_; refine RW.y (Y.move rfl) rfl ?_) | (refine Gt.assign ?_; refine RW.y (Y.assign rfl) rfl ?_))
  refine RW.fn rfl rfl ((idxNeeds 53 (fun x nm gn w hn => remLam x nm gn w hn) v L nm gn w hv.ga hn (by omega)).mono ?_)
  rintro e w1 ⟨hk1, rfl⟩
  have hv1 := hv.keep0 hk1
  have hn1 := hk1.at0 hn
  rcases idxI_spec (p := hitN nm) L 0 with ⟨h1, h2⟩ | ⟨j, hj, h1, h2, h3⟩
  · rw [h1]
    repeat' (first | (refine CL.seq ?_) | (refine CL.region ?_) | (refine CL.condP rfl (fun _ => ?_) (fun _ => ?_) <;> try (exfalso; omega)) | (refine CL.ret ?_) | (refine Gt.nil ?_; refine RW.nilw [0, 1, 4, 5, 6, 7, 12, 19, 29] ?_; dsimp only [H.keep, H.look, H.Fr.put, Nat.beq]) | (refine Gt.move ?_; refine RW.y (Y.move rfl) rfl ?_) | (refine Gt.assign ?_; refine RW.y (Y.assign rfl) rfl ?_) | (refine Gt.eql ?_; refine RW.y (Y.eqi rfl rfl) rfl ?_))
    exact FQ.one rfl rfl rfl ⟨Kept.of0 hk1, v, rfl, by rw [keepN_all h2]; exact hv1⟩
  rw [h1, Nat.zero_add]
  have hlen : 0 < L.length := by omega
  obtain ⟨g, cap, cur0, rfl, hg0, hc0, hBg⟩ := own_block hv.1 hlen
  have hgn' : ¬ gn = g := fun c => hgn (by rw [c]; rfl)
  repeat' (first | (refine CL.seq ?_) | (refine CL.region ?_) | (refine CL.skip ?_) | (refine CL.condP rfl (fun _ => ?_) (fun _ => ?_) <;> try (exfalso; omega)) | (refine CL.block ?_) | (refine Gt.nil ?_; refine RW.nilw [0, 1, 4, 5, 6, 7, 12, 19, 29] ?_; dsimp only [H.keep, H.look, H.Fr.put, Nat.beq]) | (refine Gt.move ?_; refine RW.y (Y.move rfl) rfl ?_) | (refine Gt.assign ?_; refine RW.y (Y.assign rfl) rfl ?_) | (refine Gt.add ?_; refine RW.y (Y.add64 rfl rfl (by omega) (by omega)) rfl ?_) | (refine Gt.eql ?_; refine RW.y (Y.eqi rfl rfl) rfl ?_))
  refine CL.loopS [0, 1, 5, 6] (fun k vals wr => ∃ (a i : Nat) (U : List Np), vals = [.slice (some ⟨g, 0, none⟩) L.length cap, remF gn, .int .i64 (a : Int), .int .i64 (i : Int)] ∧ k = L.length - i ∧ i ≤ L.length ∧ DelI B w wr (.slice (some ⟨g, 0, none⟩) L.length cap) L U nm a i) (L.length - (j + 1)) ⟨_, rfl, j, j + 1, L, by simp, rfl, by omega, ⟨rfl, fun x hx => hx, ?_, rfl, by omega, hv1.1, Kept.of0 hk1⟩⟩ ?_
  · rw [take_snoc default L j hj, keepN_snoc, if_pos h2, keepN_all h3]
  rintro k vals wr ⟨a, i, U, rfl, rfl, hi, hI⟩
  dsimp only [List.zip, List.zipWith]
  have hnr := hI.k.at hn fun c => hgn c
  have hti : ((i : Int)).toNat = i := Int.toNat_natCast i
  have hta : ((a : Int)).toNat = a := Int.toNat_natCast a
  have hai := hI.ai
  have hown := hI.own
  have hUl := hI.len
  have hsu : Sl wr 4 (.slice (some ⟨g, 0, none⟩) L.length cap) U.length (U.flatMap ndK.enc) := by rw [hUl]; exact Sl.of_own hown
  rcases Nat.lt_or_ge i L.length with hlt | hge
  · have hall := elAll hsu ndK.len (i := (i : Int)) (by omega) (by omega)
    have hUi : U.getD i default = L.getD i default := by
      have h := congrArg (fun l => l.getD 0 default) hI.rest
      simpa [List.getD_eq_getElem?_getD] using h
    have hxm : U.getD i default ∈ L := hI.mem _ (getD_mem default (by omega))
    have hxD := (hv.2 _ hxm).1
    have hts : keepN nm (L.take (i + 1)) = if hitN nm (U.getD i default) = true then keepN nm (L.take i) else keepN nm (L.take i) ++ [U.getD i default] := by rw [take_snoc default L i hlt, keepN_snoc, hUi]
    rw [hti] at hall
    generalize hxe : U.getD i default = x at *
    have hxone : x.p.oneCell' = true := hxD.1.one
    repeat' (first | (refine CL.seq ?_) | (refine CL.region ?_) | (refine CL.skip ?_) | (refine CL.condP rfl (fun _ => ?_) (fun _ => ?_) <;> try (exfalso; omega)) | (refine CL.block ?_) | (refine Gt.nil ?_; refine RW.nilw [0, 1, 4, 5, 6, 7, 12, 19, 29] ?_; dsimp only [H.keep, H.look, H.Fr.put, Nat.beq]) | (refine Gt.move ?_; refine RW.y (Y.move rfl) rfl ?_) | (refine Gt.idx ?_; (refine RW.elemA rfl rfl rfl rfl (by assumption) (fun _ => by rfl) rfl (by omega) (by omega) (fun _ => ?_))) | (refine Gt.len ?_; (refine RW.y (Y.lenv rfl) rfl ?_)) | (refine Gt.lss ?_; refine RW.y (Y.lss rfl rfl) rfl ?_))
    rw [hti, hxe]
    refine RW.varN rfl (by rfl) rfl (npC_one hxone) rfl (fun w2 hb2 hk2 hlt2 => ?_)
    have hn2 := hk2.at0 hnr
    repeat' (first | (refine CL.seq ?_) | (refine CL.region ?_) | (refine Gt.nil ?_; refine RW.nilw [0, 1, 4, 5, 6, 7, 12, 19, 29] ?_; dsimp only [H.keep, H.look, H.Fr.put, Nat.beq]) | (refine RW.y (Y.loadBlock rfl hb2 rfl) rfl ?_) | (refine Gt.move ?_; refine RW.y (Y.move rfl) rfl ?_))
    refine RW.fnv (cap := [.pointer (some ⟨gn, 0, none⟩)]) rfl rfl rfl ((remLam x nm gn w2 hn2).mono ?_)
    rintro e w3 ⟨hk3, rfl⟩
    have hk23 := hk2.trans0 hk3
    have hb3 := hk3.at0 hb2
    have how3 := own_kept0 hown hk23
    have hs3 : Sl w3 4 (.slice (some ⟨g, 0, none⟩) L.length cap) U.length (U.flatMap ndK.enc) := by rw [hUl]; exact Sl.of_own how3
    have hspA : Value.spot (.slice (some ⟨g, 0, none⟩) L.length cap) (((a : Int)).toNat * 4) = ⟨g, a * 4, none⟩ := by rw [hta]; simp [Value.spot, addr_add]
    cases hm : hitN nm x with
    | true =>
      rw [hm, if_pos rfl] at hts
      repeat' (first | (refine CL.region ?_) | (refine CL.skip ?_) | (refine CL.condF rfl ?_) | (refine CL.done ?_) | (refine Nm.block ?_) | (refine Nm.then ?_) | (refine Gt.nil ?_; refine RW.nilw [0, 1, 4, 5, 6, 7, 12, 19, 29] ?_; dsimp only [H.keep, H.look, H.Fr.put, Nat.beq]) | (refine Gt.move ?_; refine RW.y (Y.move rfl) rfl ?_) | (refine Gt.assign ?_; refine RW.y (Y.assign rfl) rfl ?_) | (refine Gt.add ?_; refine RW.y (Y.add64 rfl rfl (by omega) (by omega)) rfl ?_) | (refine Gt.not ?_; (refine RW.y (Y.notb rfl) rfl ?_)))
      exact ⟨L.length - (i + 1), _, rfl, rfl, rfl, by omega, a, i + 1, U, rfl, rfl, by omega, ⟨hUl, hI.mem, by rw [hI.kept, hts], by rw [← List.drop_drop, ← List.drop_drop, hI.rest], by omega, how3, hI.k.trans0 hk23⟩⟩
    | false =>
      rw [hm, if_neg (by simp)] at hts
      repeat' (first | (refine CL.seq ?_) | (refine CL.region ?_) | (refine CL.condT rfl ?_) | (refine Gt.nil ?_; refine RW.nilw [0, 1, 4, 5, 6, 7, 12, 19, 29] ?_; dsimp only [H.keep, H.look, H.Fr.put, Nat.beq]) | (refine RW.y (Y.loadBlock rfl hb3 rfl) rfl ?_) | (refine Gt.move ?_; refine RW.y (Y.move rfl) rfl ?_) | (refine Gt.not ?_; (refine RW.y (Y.notb rfl) rfl ?_)))
      refine RW.y (Y.idx rfl rfl hs3 (by omega) (by omega)) rfl ?_
      refine RW.putEl ndK (i := a) (u := x) (congrArg (fun a => some (Value.pointer (some a))) hspA) rfl how3 hUl.symm (by omega) (npC_one hxone) (fun w4 how4 hk4 => ?_)
      repeat' (first | (refine CL.region ?_) | (refine CL.done ?_) | (refine Nm.block ?_) | (refine Nm.then ?_) | (refine Gt.nil ?_; refine RW.nilw [0, 1, 4, 5, 6, 7, 12, 19, 29] ?_; dsimp only [H.keep, H.look, H.Fr.put, Nat.beq]) | (refine Gt.move ?_; refine RW.y (Y.move rfl) rfl ?_) | (refine Gt.assign ?_; refine RW.y (Y.assign rfl) rfl ?_) | (refine Gt.add ?_; refine RW.y (Y.add64 rfl rfl (by omega) (by omega)) rfl ?_))
      refine ⟨L.length - (i + 1), _, rfl, rfl, rfl, by omega, a + 1, i + 1, U.set a x, rfl, rfl, by omega, ⟨by rw [List.length_set, hUl], fun z hz => ?_, ?_, ?_, by omega, how4, (hI.k.trans0 hk23).trans hk4 fun k c => .inl (by rw [c]; rfl)⟩⟩
      · rcases List.mem_or_eq_of_mem_set hz with hz | hz
        · exact hI.mem z hz
        · rw [hz]; exact hxm
      · rw [set_take default U a x (by omega), hI.kept, hts]
      · rw [List.drop_set_of_lt (by omega), ← List.drop_drop, ← List.drop_drop, hI.rest]
  · have hi : i = L.length := by omega
    subst hi
    have hkp := hI.kept
    rw [List.take_length] at hkp
    obtain ⟨g', cap', cur, hvv, hgr, hcr, hBr⟩ := own_block hown hlen
    cases hvv
    obtain ⟨p9, cap9, hv9, hcap⟩ := (Sl.of_own hown).shape
    cases hv9
    have hv38 : Value.slice (if cap = ((a : Int)).toNat then some ⟨g, 0, none⟩ else (some (⟨g, 0, none⟩ : Addr)).map (·.add (((a : Int)).toNat * 4))) (L.length - ((a : Int)).toNat) (cap - ((a : Int)).toNat) = .slice (some ⟨g, a * 4, none⟩) (L.length - a) (cap - a) := by
      rw [hta, if_neg (by omega)]; simp [addr_add]
    repeat' (first | (refine CL.seq ?_) | (refine CL.region ?_) | (refine CL.condP rfl (fun _ => ?_) (fun _ => ?_) <;> try (exfalso; omega)) | (refine CL.exit ?_) | (refine Ex.then ?_) | (refine Ex.hit ?_) | (refine Gt.nil ?_; refine RW.nilw [0, 1, 4, 5, 6, 7, 12, 19, 29] ?_; dsimp only [H.keep, H.look, H.Fr.put, Nat.beq]) | (refine RW.y (Y.from rfl rfl (by omega) (by omega) (by omega)) rfl ?_) | (refine Gt.move ?_; refine RW.y (Y.move rfl) rfl ?_) | (refine Gt.len ?_; (refine RW.y (Y.lenv rfl) rfl ?_)) | (refine Gt.lss ?_; refine RW.y (Y.lss rfl rfl) rfl ?_))
    refine RW.clr (congrArg some hv38) (by omega) rfl (by decide) hgr (by show a * 4 + (L.length - a) * 4 ≤ cur.size; omega) (fun w2 R hR hb2 hk2 => ?_)
    have how2 := own_clr hown hgr (by omega) hR hb2
    repeat' (first | (refine CL.seq ?_) | (refine CL.region ?_) | (refine Gt.nil ?_; refine RW.nilw [0, 1, 4, 5, 6, 7, 12, 19, 29] ?_; dsimp only [H.keep, H.look, H.Fr.put, Nat.beq]) | (refine Gt.move ?_; refine RW.y (Y.move rfl) rfl ?_))
    refine RW.ownh rfl rfl rfl how2 (by omega) (by omega) (fun v2 how3 hbo => ?_)
    repeat' (first | (refine CL.ret ?_) | (refine Gt.nil ?_; refine RW.nilw [0, 1, 4, 5, 6, 7, 12, 19, 29] ?_; dsimp only [H.keep, H.look, H.Fr.put, Nat.beq]) | (refine Gt.assign ?_; refine RW.y (Y.assign rfl) rfl ?_))
    rw [hta] at how3
    have hLk : (keepN nm L).length = a := by rw [← hkp, List.length_take]; omega
    have hK2 : Kept (fun k => Value.ownBlock (.slice (some ⟨g, 0, none⟩) L.length cap) = some k) w w2 := hI.k.trans hk2 fun k c => .inl (by rw [c]; rfl)
    refine FQ.one rfl rfl rfl ⟨hK2, v2, rfl, ?_, fun x hx => ?_⟩
    · rw [hLk, ← hkp, ← cells_take ndK.len]
      rw [List.take_append_of_le_length (by rw [List.length_take]; have := (Sl.of_own hown).1; omega), List.take_take, Nat.min_self] at how3
      exact how3
    · have h := hv.2 x ((List.mem_filter.1 hx).1)
      exact ⟨ndK.keep _ _ _ x h.1 hK2 fun k _ hk => h.2 k hk, fun k hk c => h.2 k hk (by rw [← hbo]; exact c)⟩
end Go.Proofs.YtjlkmdmpejpmpaaGreatDoor.Ma

namespace Go.Proofs.YtjlkmdmpejpmpaaGreatDoor.Ma
open Go.RowKit H S Ve Sp Od
attribute [local irreducible] H.CL H.RW H.CW H.Yd H.thenK H.blockQ Go.Calls

def needL (x : T) : Option Nd := if x.take 5 = needW then needB (x.drop 5) else none
/-- A need that lies behind B: what was read. -/
structure NdNew (B : Nat) (w : World) (V : Value) (o : Option Nd) (y : Np) : Prop where
  val : V = .agg (npC y).toArray
  D : ndK.D w y
  new : ∀ g, y.A g → B ≤ g
  eq : ∀ d, o = some d → y.d = d
def zeroN : Np := ⟨⟨[], ⟨false, []⟩, []⟩, .slice none 0 0, fun _ => False⟩
theorem zeroN_D (w : World) : ndK.D w zeroN := ⟨⟨[], rfl, Sl.nil _ _, (fun g hg => by cases hg), (fun x hx => by cases hx)⟩, fun g hg => hg.elim⟩
theorem cutP_needW (s : T) (h : s.take 5 = needW) : cutP needW s = s.drop 5 := if_pos h
theorem needCells {a b p c : Value} (h1 : a.oneCell' = true) (h2 : b.oneCell' = true) (h3 : p.oneCell' = true) (h4 : c.oneCell' = true) : ∀ z ∈ (#[a, b, p, c] : Array Value).toList, z.oneCell' = true := by
  intro z hz
  simp at hz
  rcases hz with rfl | rfl | rfl | rfl <;> assumption

set_option maxHeartbeats 1000000 in
theorem need (s : T) (hl : s.length ≤ 1000000) (w : World) (hM : Ml w) : Calls Tryz.prog 57 #[vs s] w fun e w' => K0 w w' ∧ ∃ V y, e = .returned (.tuple #[V, .bool (needL s).isSome]) ∧ NdNew w.heap.size w' V (needL s) y := by
  refine H.enter Tryz.func57 Tryz.ntmps57 rfl rfl ?_; dsimp only [H.args]
  refine CL.seq ?_
  refine CL.region ?_
  refine RW.alloc rfl (fun w1 hb1 hk1 hlt1 => ?_)
  repeat' (first | (refine CL.seq ?_) | (refine CL.region ?_) | (refine Gt.nil ?_; refine RW.nilw [0, 2, 3, 4, 5, 6, 7, 8, 9, 10, 32] ?_; dsimp only [H.keep, H.look, H.Fr.put, Nat.beq]) | (refine Gt.move ?_; refine RW.y (Y.move rfl) rfl ?_) | (refine Gt.assign ?_; refine RW.y (Y.assign rfl) rfl ?_))
  refine RW.fn rfl rfl ((cutPrefix s needW w1).mono ?_)
  rintro e w' ⟨rfl, rfl⟩
  by_cases hp : s.take 5 = needW
  · have hd : decide (s.take needW.length = needW) = true := decide_eq_true hp
    have hnl : needL s = needB (s.drop 5) := if_pos hp
    rw [hd, cutP_needW s hp]
    generalize hr : s.drop 5 = r at *
    have hrl : r.length ≤ 1000000 := by rw [← hr, List.length_drop]; omega
    repeat' (first | (refine CL.seq ?_) | (refine CL.region ?_) | (refine Gt.nil ?_; refine RW.nilw [0, 2, 3, 4, 5, 6, 7, 8, 9, 10, 32] ?_; dsimp only [H.keep, H.look, H.Fr.put, Nat.beq]) | (refine Gt.move ?_; refine RW.y (Y.move rfl) rfl ?_) | (refine Gt.assign ?_; refine RW.y (Y.assign rfl) rfl ?_) | (refine Gt.extract ?_; refine RW.y (Y.extract rfl rfl) rfl ?_))
    refine RW.fn rfl rfl ((cut r 32 (by omega) w1).mono ?_)
    rintro e w2 ⟨hk2, rfl⟩
    unfold cutV
    have hb2 := hk2.at0 hb1
    have hcn : needB r = if (cutB 32 r).2.2 = true ∧ Lk.nameB (cutB 32 r).1 = true then (spanB (cutB 32 r).2.1).map fun x => ⟨(cutB 32 r).1, x, (cutB 32 r).2.1⟩ else none := rfl
    have hcl : (cutB 32 r).1.length ≤ 1000000 ∧ (cutB 32 r).2.1.length ≤ 1000000 := by
      rw [cutB]; split
      · exact ⟨hrl, Nat.zero_le _⟩
      · constructor
        · simp only [List.length_take]; omega
        · simp only [List.length_drop]; omega
    generalize cutB 32 r = cc at *
    obtain ⟨nm, tx, fd⟩ := cc
    simp only at hcl hcn
    have hbF := hb2
    have hKF := hk1.trans0 hk2
    cases fd with
    | false =>
      have hno : needL s = none := by rw [hnl, hcn]; simp
      repeat' (first | (refine CL.seq ?_) | (refine CL.region ?_) | (refine CL.condT rfl ?_) | (refine Gt.nil ?_; refine RW.nilw [0, 2, 3, 4, 5, 6, 7, 8, 9, 10, 32] ?_; dsimp only [H.keep, H.look, H.Fr.put, Nat.beq]) | (refine Gt.move ?_; refine RW.y (Y.move rfl) rfl ?_) | (refine Gt.guard ?_; first | (refine RW.on rfl rfl rfl ?_) | (refine RW.off1 rfl rfl rfl rfl rfl ?_)) | (refine Gt.assign ?_; refine RW.y (Y.assign rfl) rfl ?_) | (refine Gt.extract ?_; refine RW.y (Y.extract rfl rfl) rfl ?_) | (refine Gt.not ?_; (refine RW.y (Y.notb rfl) rfl ?_)) | (refine Gt.pick ?_; first | (refine RW.y (Y.pickT rfl rfl) rfl ?_) | (refine RW.y (Y.pickF rfl rfl) rfl ?_)) | (refine RW.y (Y.build (ps := []) rfl rfl) rfl ?_))
      refine RW.storeBlock rfl rfl rfl (needCells rfl rfl rfl rfl) hbF rfl (fun wq hbq hkq => ?_)
      repeat' (first | (refine CL.ret ?_) | (refine Gt.nil ?_; refine RW.nilw [0, 2, 3, 4, 5, 6, 7, 8, 9, 10, 32] ?_; dsimp only [H.keep, H.look, H.Fr.put, Nat.beq]) | (refine Gt.assign ?_; refine RW.y (Y.assign rfl) rfl ?_))
      exact FQ.res (rs := [.cell 2 47, .tmp 3]) (vs := [_, _]) rfl rfl ⟨⟨_, rfl, load_block hbq rfl⟩, rfl, trivial⟩ rfl (⟨hKF.trans hkq fun k h => .inr (by rw [h]; exact Nat.le_refl _), _, zeroN, by rw [hno]; rfl, rfl, zeroN_D _, fun g hg => hg.elim, fun d hd => by rw [hno] at hd; cases hd⟩)
    | true =>
      repeat' (first | (refine CL.seq ?_) | (refine CL.region ?_) | (refine Gt.nil ?_; refine RW.nilw [0, 2, 3, 4, 5, 6, 7, 8, 9, 10, 32] ?_; dsimp only [H.keep, H.look, H.Fr.put, Nat.beq]) | (refine Gt.move ?_; refine RW.y (Y.move rfl) rfl ?_) | (refine Gt.guard ?_; (refine RW.on rfl rfl rfl ?_)) | (refine Gt.assign ?_; refine RW.y (Y.assign rfl) rfl ?_) | (refine Gt.extract ?_; refine RW.y (Y.extract rfl rfl) rfl ?_) | (refine Gt.not ?_; (refine RW.y (Y.notb rfl) rfl ?_)) | (refine Gt.pick ?_; (refine RW.y (Y.pickF rfl rfl) rfl ?_)))
      refine RW.fn rfl rfl ((Lk.name nm (by omega) w2).mono ?_)
      rintro e w' ⟨rfl, rfl⟩
      cases hn : Lk.nameB nm with
      | false =>
        have hno : needL s = none := by rw [hnl, hcn, hn]; simp
        repeat' (first | (refine CL.seq ?_) | (refine CL.region ?_) | (refine CL.condT rfl ?_) | (refine Gt.nil ?_; refine RW.nilw [0, 2, 3, 4, 5, 6, 7, 8, 9, 10, 32] ?_; dsimp only [H.keep, H.look, H.Fr.put, Nat.beq]) | (refine Gt.guard ?_; (refine RW.on rfl rfl rfl ?_)) | (refine Gt.not ?_; (refine RW.y (Y.notb rfl) rfl ?_)) | (refine Gt.pick ?_; (refine RW.y (Y.pickF rfl rfl) rfl ?_)) | (refine RW.y (Y.build (ps := []) rfl rfl) rfl ?_))
        refine RW.storeBlock rfl rfl rfl (needCells rfl rfl rfl rfl) hbF rfl (fun wq hbq hkq => ?_)
        repeat' (first | (refine CL.ret ?_) | (refine Gt.nil ?_; refine RW.nilw [0, 2, 3, 4, 5, 6, 7, 8, 9, 10, 32] ?_; dsimp only [H.keep, H.look, H.Fr.put, Nat.beq]) | (refine Gt.assign ?_; refine RW.y (Y.assign rfl) rfl ?_))
        exact FQ.res (rs := [.cell 2 47, .tmp 3]) (vs := [_, _]) rfl rfl ⟨⟨_, rfl, load_block hbq rfl⟩, rfl, trivial⟩ rfl (⟨hKF.trans hkq fun k h => .inr (by rw [h]; exact Nat.le_refl _), _, zeroN, by rw [hno]; rfl, rfl, zeroN_D _, fun g hg => hg.elim, fun d hd => by rw [hno] at hd; cases hd⟩)
      | true =>
        rw [hn, if_pos ⟨rfl, rfl⟩] at hcn
        repeat' (first | (refine CL.seq ?_) | (refine CL.region ?_) | (refine CL.skip ?_) | (refine CL.condF rfl ?_) | (refine Gt.nil ?_; refine RW.nilw [0, 2, 3, 4, 5, 6, 7, 8, 9, 10, 32] ?_; dsimp only [H.keep, H.look, H.Fr.put, Nat.beq]) | (refine Gt.move ?_; refine RW.y (Y.move rfl) rfl ?_) | (refine Gt.guard ?_; (refine RW.on rfl rfl rfl ?_)) | (refine Gt.not ?_; (refine RW.y (Y.notb rfl) rfl ?_)) | (refine Gt.pick ?_; (refine RW.y (Y.pickF rfl rfl) rfl ?_)))
        refine RW.fn rfl rfl ((parseS tx hcl.2 w2 (hM.keep0 hKF)).mono ?_)
        rintro e w3 ⟨hk3, V, rfl, q, rfl, ho⟩
        have hb3 := hk3.at0 hb2
        repeat' (first | (refine Gt.move ?_; refine RW.y (Y.move rfl) rfl ?_) | (refine Gt.extract ?_; refine RW.y (Y.extract rfl rfl) rfl ?_))
        refine RW.varN rfl (by rfl) rfl (spnCells (OrNew.on ho).one) rfl (fun w4 hb4 hk4 hlt4 => ?_)
        have hb34 := hk4.at0 hb3
        have hz4 := hk4.size
        have hz3 := hk3.size
        have hz2 := hk2.size
        have hz1 := hk1.size
        repeat' (first | (refine CL.seq ?_) | (refine CL.region ?_) | (refine Gt.nil ?_; refine RW.nilw [0, 2, 3, 4, 5, 6, 7, 8, 9, 10, 32] ?_; dsimp only [H.keep, H.look, H.Fr.put, Nat.beq]) | (refine RW.y (Y.loadBlock rfl hb4 rfl) rfl ?_) | (refine Gt.move ?_; refine RW.y (Y.move rfl) rfl ?_) | (refine Gt.assign ?_; refine RW.y (Y.assign rfl) rfl ?_) | (refine Gt.eql ?_; refine RW.y (Y.eqi rfl rfl) rfl ?_) | (refine RW.y (Y.build (ps := [(0, _), (1, _), (2, _)]) rfl rfl) rfl ?_))
        refine RW.storeBlock (u := #[vs nm, .bool (spanR (spanB tx)).1.any, q, vs tx]) rfl rfl rfl (needCells rfl rfl (OrNew.on ho).one rfl) hb34 rfl (fun w5 hb5 hk5 => ?_)
        repeat' (first | (refine CL.ret ?_) | (refine Gt.nil ?_; refine RW.nilw [0, 2, 3, 4, 5, 6, 7, 8, 9, 10, 32] ?_; dsimp only [H.keep, H.look, H.Fr.put, Nat.beq]) | (refine Gt.assign ?_; refine RW.y (Y.assign rfl) rfl ?_))
        have hK35 : Kept (fun k => k = w.heap.size) w3 w5 := (Kept.of0 hk4).trans hk5 fun k h => .inl h
        have hK5 : K0 w w5 := ((hKF.trans0 hk3).trans0 hk4).trans hk5 fun k h => .inr (by rw [h]; exact Nat.le_refl _)
        have hsm : decide ((spanR (spanB tx)).2 = 0) = (needL s).isSome := by
          rw [hnl, hcn]
          cases spanB tx <;> rfl
        rw [hsm]
        refine FQ.res (rs := [.cell 2 47, .tmp 3]) (vs := [_, _]) rfl rfl ⟨⟨_, rfl, load_block hb5 rfl⟩, rfl, trivial⟩ rfl (⟨hK5, _, ⟨⟨nm, (spanR (spanB tx)).1, tx⟩, q, fun g => w2.heap.size ≤ g ∧ g < w3.heap.size⟩, rfl, rfl, ⟨(OrNew.on ho).keep hK35 (fun g _ hA c => by have c' : g = w.heap.size := c; omega), fun g hg => Nat.lt_of_lt_of_le hg.2 hK35.size⟩, (fun g hg => by have := hg.1; omega), ?_⟩)
        intro d hd
        rw [hnl, hcn] at hd
        cases hs : spanB tx with
        | none => rw [hs] at hd; cases hd
        | some x => rw [hs] at hd; cases hd; rfl
  · have hd : decide (s.take needW.length = needW) = false := decide_eq_false hp
    have hno : needL s = none := if_neg hp
    rw [hd]
    repeat' (first | (refine CL.seq ?_) | (refine CL.region ?_) | (refine Gt.nil ?_; refine RW.nilw [0, 2, 3, 4, 5, 6, 7, 8, 9, 10, 32] ?_; dsimp only [H.keep, H.look, H.Fr.put, Nat.beq]) | (refine Gt.move ?_; refine RW.y (Y.move rfl) rfl ?_) | (refine Gt.assign ?_; refine RW.y (Y.assign rfl) rfl ?_) | (refine Gt.extract ?_; refine RW.y (Y.extract rfl rfl) rfl ?_))
    refine RW.fn rfl rfl ((cut (cutP needW s) 32 (by rw [show cutP needW s = s from if_neg hp]; omega) w1).mono ?_)
    rintro e w2 ⟨hk2, rfl⟩
    unfold cutV
    have hbF := hk2.at0 hb1
    have hKF := hk1.trans0 hk2
    repeat' (first | (refine CL.seq ?_) | (refine CL.region ?_) | (refine CL.condT rfl ?_) | (refine Gt.nil ?_; refine RW.nilw [0, 2, 3, 4, 5, 6, 7, 8, 9, 10, 32] ?_; dsimp only [H.keep, H.look, H.Fr.put, Nat.beq]) | (refine Gt.move ?_; refine RW.y (Y.move rfl) rfl ?_) | (refine Gt.guard ?_; (refine RW.off1 rfl rfl rfl rfl rfl ?_)) | (refine Gt.assign ?_; refine RW.y (Y.assign rfl) rfl ?_) | (refine Gt.extract ?_; refine RW.y (Y.extract rfl rfl) rfl ?_) | (refine Gt.not ?_; (refine RW.y (Y.notb rfl) rfl ?_)) | (refine Gt.pick ?_; (refine RW.y (Y.pickT rfl rfl) rfl ?_)) | (refine RW.y (Y.build (ps := []) rfl rfl) rfl ?_))
    refine RW.storeBlock rfl rfl rfl (needCells rfl rfl rfl rfl) hbF rfl (fun wq hbq hkq => ?_)
    repeat' (first | (refine CL.ret ?_) | (refine Gt.nil ?_; refine RW.nilw [0, 2, 3, 4, 5, 6, 7, 8, 9, 10, 32] ?_; dsimp only [H.keep, H.look, H.Fr.put, Nat.beq]) | (refine Gt.assign ?_; refine RW.y (Y.assign rfl) rfl ?_))
    exact FQ.res (rs := [.cell 2 47, .tmp 3]) (vs := [_, _]) rfl rfl ⟨⟨_, rfl, load_block hbq rfl⟩, rfl, trivial⟩ rfl (⟨hKF.trans hkq fun k h => .inr (by rw [h]; exact Nat.le_refl _), _, zeroN, by rw [hno]; rfl, rfl, zeroN_D _, fun g hg => hg.elim, fun d hd => by rw [hno] at hd; cases hd⟩)
end Go.Proofs.YtjlkmdmpejpmpaaGreatDoor.Ma

namespace Go.Proofs.YtjlkmdmpejpmpaaGreatDoor.Ma
open Go.RowKit H S Ve Sp Od
attribute [local irreducible] H.CL H.RW H.CW H.Yd H.thenK H.blockQ Go.Calls

/-- A manifest that is being read: its block, its marks, its needs. -/
structure LnI (B g : Nat) (w : World) (m : Mf) (p q : Value) (L : List Np) : Prop where
  blk : w.heap[g]? = some (.cells (mfC m p q).toArray mfT (0, 0))
  gB : g < B
  pre : Sl w 1 p m.v.pre.length (sv m.v.pre)
  preB : ∀ h, live p = some h → B ≤ h
  row : GI ndK w B ndT q L
  rowB : ∀ x ∈ L, ∀ h, x.A h → B ≤ h
  nd : L.map (·.d) = m.needs
  sep : ∀ i, live p = some i → q.ownBlock ≠ some i
theorem LnI.keep {B g : Nat} {w w' : World} {m : Mf} {p q : Value} {L : List Np} (h : LnI B g w m p q L) {S : Nat → Prop} (k : Kept S w w') (hS : ∀ i, S i → i < B ∧ i ≠ g) : LnI B g w' m p q L where
  blk := k.at h.blk fun c => (hS _ c).2 rfl
  gB := h.gB
  pre := h.pre.keep k fun i hi c => by have := h.preB i hi; have := (hS i c).1; omega
  preB := h.preB
  row := h.row.keep k fun i _ hi c => by
    have := (hS i c).1
    rcases hi with hi | ⟨x, hx, hi⟩
    · have := (h.row.lt i hi).1; omega
    · have := h.rowB x hx i hi; omega
  rowB := h.rowB
  nd := h.nd
  sep := h.sep
theorem LnI.keep0 {B g : Nat} {w w' : World} {m : Mf} {p q : Value} {L : List Np} (h : LnI B g w m p q L) (k : K0 w w') : LnI B g w' m p q L := h.keep k fun i c => c.elim
def LnR (B g : Nat) (q : Value) (w : World) (o : Option Mf) (e : Ending) (w' : World) : Prop := Kept (fun k => k = g ∨ q.ownBlock = some k) w w' ∧ e = .returned (.bool o.isSome) ∧ ∀ m', o = some m' → ∃ p' q' L', LnI B g w' m' p' q' L'
theorem lineB_need (k : Nat) (m : Mf) (x : T) : lineB (k + 2) m x = match needL x with
    | some d => if d.name ≠ m.name ∧ hasN m.needs d.name = false ∧ m.needs.length < 20 then some ⟨m.name, m.v, m.needs ++ [d]⟩ else none
    | none => none := by
  rw [lineB_two, needL]
  by_cases h : x.take 5 = needW
  · rw [if_pos h, if_pos h]; cases needB (x.drop 5) <;> rfl
  · rw [if_neg h, if_neg h]

theorem cutP_len (p s : T) : (cutP p s).length ≤ s.length := by
  rw [cutP]; split
  · rw [List.length_drop]; omega
  · exact Nat.le_refl _

theorem lineName (m : Mf) (x : T) (B g : Nat) (p q : Value) (L : List Np) (w : World) (h : LnI B g w m p q L) (hl : x.length ≤ 1000000) : Calls Tryz.prog 27 #[.pointer (some ⟨g, 0, none⟩), .int .i64 0, vs x] w (LnR B g q w (lineB 0 m x)) := by
  refine H.enter Tryz.func27 Tryz.ntmps27 rfl rfl ?_; dsimp only [H.args]
  repeat' (first | (refine CL.seq ?_) | (refine CL.region ?_) | (refine CL.condP rfl (fun _ => ?_) (fun _ => ?_) <;> try (exfalso; omega)) | (refine CL.block ?_) | (refine Gt.nil ?_; refine RW.nilw [0, 1, 2, 6, 7, 8, 9, 10, 11, 12, 13, 14, 15, 16, 32, 85] ?_; dsimp only [H.keep, H.look, H.Fr.put, Nat.beq]) | (refine Gt.move ?_; refine RW.y (Y.move rfl) rfl ?_) | (refine Gt.assign ?_; refine RW.y (Y.assign rfl) rfl ?_) | (refine Gt.eql ?_; (refine RW.y (Y.eqi rfl rfl) rfl ?_)))
  refine RW.fn rfl rfl ((cutPrefix x nameW w).mono ?_)
  rintro e w' ⟨rfl, rfl⟩
  have hcl : (cutP nameW x).length ≤ 1000000 := Nat.le_trans (cutP_len _ _) hl
  by_cases hp : x.take 5 = nameW
  · rw [show decide (x.take nameW.length = nameW) = true from decide_eq_true hp, show cutP nameW x = x.drop 5 from if_pos hp] at *
    repeat' (first | (refine CL.seq ?_) | (refine CL.region ?_) | (refine Gt.nil ?_; refine RW.nilw [0, 1, 2, 6, 7, 8, 9, 10, 11, 12, 13, 14, 15, 16, 32, 85] ?_; dsimp only [H.keep, H.look, H.Fr.put, Nat.beq]) | (refine Gt.move ?_; refine RW.y (Y.move rfl) rfl ?_) | (refine Gt.assign ?_; refine RW.y (Y.assign rfl) rfl ?_) | (refine Gt.fieldAddr ?_; refine RW.y (Y.fieldAddr rfl (by rfl)) rfl ?_) | (refine Gt.extract ?_; refine RW.y (Y.extract rfl rfl) rfl ?_) | (refine Gt.nilck ?_; refine RW.y (Y.nilck rfl) rfl ?_))
    refine RW.storeB rfl rfl rfl h.blk (by show 0 < 6; omega) (fun w2 hb2 hk2 => ?_)
    repeat' (first | (refine CL.seq ?_) | (refine CL.region ?_) | (refine Gt.nil ?_; refine RW.nilw [0, 1, 2, 6, 7, 8, 9, 10, 11, 12, 13, 14, 15, 16, 32, 85] ?_; dsimp only [H.keep, H.look, H.Fr.put, Nat.beq]) | (refine Gt.move ?_; refine RW.y (Y.move rfl) rfl ?_) | (refine Gt.guard ?_; (refine RW.on rfl rfl rfl ?_)))
    refine RW.fn rfl rfl ((Lk.name (x.drop 5) (by omega) w2).mono ?_)
    rintro e w' ⟨rfl, rfl⟩
    repeat' (first | (refine CL.ret ?_) | (refine Rt.block ?_) | (refine Gt.nil ?_; refine RW.nilw [0, 1, 2, 6, 7, 8, 9, 10, 11, 12, 13, 14, 15, 16, 32, 85] ?_; dsimp only [H.keep, H.look, H.Fr.put, Nat.beq]) | (refine Gt.assign ?_; refine RW.y (Y.assign rfl) rfl ?_) | (refine Gt.pick ?_; (refine RW.y (Y.pickT rfl rfl) rfl ?_)))
    refine FQ.one rfl rfl rfl ⟨hk2.mono fun k c => .inl c, ?_, ?_⟩
    · rw [lineB]
      by_cases hn : Lk.nameB (x.drop 5) = true
      · rw [if_pos ⟨hp, hn⟩, hn]; rfl
      · rw [if_neg fun c => hn c.2, Bool.eq_false_iff.2 hn]; rfl
    · intro m' hm
      rw [lineB] at hm
      split at hm
      · cases hm
        have hg : LnI B g w m p q L := h
        exact ⟨p, q, L, hb2, h.gB, h.pre.keep hk2 fun i hi c => by have := h.preB i hi; have := h.gB; have c' : i = g := c; omega, h.preB, h.row.keep hk2 fun i _ hi c => (by
          have c' : i = g := c
          have := h.gB
          rcases hi with hi | ⟨y, hy, hi⟩
          · have := (h.row.lt i hi).1; omega
          · have := h.rowB y hy i hi; omega), h.rowB, h.nd, h.sep⟩
      · cases hm
  · rw [show decide (x.take nameW.length = nameW) = false from decide_eq_false hp]
    repeat' (first | (refine CL.seq ?_) | (refine CL.region ?_) | (refine Gt.nil ?_; refine RW.nilw [0, 1, 2, 6, 7, 8, 9, 10, 11, 12, 13, 14, 15, 16, 32, 85] ?_; dsimp only [H.keep, H.look, H.Fr.put, Nat.beq]) | (refine Gt.move ?_; refine RW.y (Y.move rfl) rfl ?_) | (refine Gt.assign ?_; refine RW.y (Y.assign rfl) rfl ?_) | (refine Gt.fieldAddr ?_; refine RW.y (Y.fieldAddr rfl (by rfl)) rfl ?_) | (refine Gt.extract ?_; refine RW.y (Y.extract rfl rfl) rfl ?_) | (refine Gt.nilck ?_; refine RW.y (Y.nilck rfl) rfl ?_))
    refine RW.storeB rfl rfl rfl h.blk (by show 0 < 6; omega) (fun w2 hb2 hk2 => ?_)
    repeat' (first | (refine CL.seq ?_) | (refine CL.region ?_) | (refine CL.ret ?_) | (refine Rt.block ?_) | (refine Gt.nil ?_; refine RW.nilw [0, 1, 2, 6, 7, 8, 9, 10, 11, 12, 13, 14, 15, 16, 32, 85] ?_; dsimp only [H.keep, H.look, H.Fr.put, Nat.beq]) | (refine Gt.move ?_; refine RW.y (Y.move rfl) rfl ?_) | (refine Gt.guard ?_; (refine RW.off1 rfl rfl rfl rfl rfl ?_)) | (refine Gt.assign ?_; refine RW.y (Y.assign rfl) rfl ?_) | (refine Gt.pick ?_; (refine RW.y (Y.pickF rfl rfl) rfl ?_)))
    have hno : lineB 0 m x = none := by rw [lineB, if_neg fun c => hp c.1]
    exact FQ.one rfl rfl rfl ⟨hk2.mono fun k c => .inl c, by rw [hno]; rfl, fun m' hm => by rw [hno] at hm; cases hm⟩
theorem lineVers (m : Mf) (x : T) (B g : Nat) (p q : Value) (L : List Np) (w : World) (h : LnI B g w m p q L) (hl : x.length ≤ 1000000) (hB : B ≤ w.heap.size) : Calls Tryz.prog 27 #[.pointer (some ⟨g, 0, none⟩), .int .i64 1, vs x] w (LnR B g q w (lineB 1 m x)) := by
  refine H.enter Tryz.func27 Tryz.ntmps27 rfl rfl ?_; dsimp only [H.args]
  repeat' (first | (refine CL.seq ?_) | (refine CL.region ?_) | (refine CL.condP rfl (fun _ => ?_) (fun _ => ?_) <;> try (exfalso; omega)) | (refine CL.block ?_) | (refine Gt.nil ?_; refine RW.nilw [0, 1, 2, 6, 7, 8, 9, 10, 11, 12, 13, 14, 15, 16, 32, 85] ?_; dsimp only [H.keep, H.look, H.Fr.put, Nat.beq]) | (refine Gt.move ?_; refine RW.y (Y.move rfl) rfl ?_) | (refine Gt.assign ?_; refine RW.y (Y.assign rfl) rfl ?_) | (refine Gt.eql ?_; (refine RW.y (Y.eqi rfl rfl) rfl ?_)))
  refine RW.fn rfl rfl ((cutPrefix x versW w).mono ?_)
  rintro e w' ⟨rfl, rfl⟩
  have hcl : (cutP versW x).length ≤ 1000000 := Nat.le_trans (cutP_len _ _) hl
  generalize hy : cutP versW x = y at *
  repeat' (first | (refine CL.seq ?_) | (refine CL.region ?_) | (refine Gt.nil ?_; refine RW.nilw [0, 1, 2, 6, 7, 8, 9, 10, 11, 12, 13, 14, 15, 16, 32, 85] ?_; dsimp only [H.keep, H.look, H.Fr.put, Nat.beq]) | (refine Gt.move ?_; refine RW.y (Y.move rfl) rfl ?_) | (refine Gt.assign ?_; refine RW.y (Y.assign rfl) rfl ?_) | (refine Gt.extract ?_; refine RW.y (Y.extract rfl rfl) rfl ?_))
  refine RW.fn rfl rfl ((parseN y hcl w).mono ?_)
  rintro e w2 ⟨hk2, V, rfl, p', rfl, hpv, hpB⟩
  have hz2 := hk2.size
  repeat' (first | (refine Gt.move ?_; refine RW.y (Y.move rfl) rfl ?_) | (refine Gt.extract ?_; refine RW.y (Y.extract rfl rfl) rfl ?_))
  refine RW.varN rfl (by rfl) rfl (verCells hpv.one) rfl (fun w3 hb3 hk3 hlt3 => ?_)
  have h3 := (h.keep0 hk2).keep0 hk3
  repeat' (first | (refine CL.seq ?_) | (refine CL.region ?_) | (refine Gt.nil ?_; refine RW.nilw [0, 1, 2, 6, 7, 8, 9, 10, 11, 12, 13, 14, 15, 16, 32, 85] ?_; dsimp only [H.keep, H.look, H.Fr.put, Nat.beq]) | (refine RW.y (Y.loadBlock rfl hb3 rfl) rfl ?_) | (refine Gt.move ?_; refine RW.y (Y.move rfl) rfl ?_) | (refine Gt.assign ?_; refine RW.y (Y.assign rfl) rfl ?_) | (refine Gt.fieldAddr ?_; refine RW.y (Y.fieldAddr rfl (by rfl)) rfl ?_) | (refine Gt.nilck ?_; refine RW.y (Y.nilck rfl) rfl ?_))
  refine RW.storeM rfl rfl rfl (verCells hpv.one) h3.blk rfl (fun w4 hb4 hk4 => ?_)
  have hgB := h.gB
  have hz3 := hk3.size
  have hI : ∀ v, (verR (parseV (cutB 45 y))).1 = v → LnI B g w4 ⟨m.name, v, m.needs⟩ p' q L := fun v hv => by
    subst hv
    exact ⟨hb4, h.gB, (hpv.keep0 hk3).keep hk4 fun i hi c => (by have := hpB i hi; have c' : i = g := c; omega), fun i hi => (by have := hpB i hi; omega), h3.row.keep hk4 fun i _ hi c => (by
          have c' : i = g := c
          rcases hi with hi | ⟨y, hy, hi⟩
          · have := (h.row.lt i hi).1; omega
          · have := h.rowB y hy i hi; omega), h.rowB, h.nd, fun i hi c => by have := hpB i hi; have := (h.row.lt i c).2; omega⟩
  have hK : Kept (fun k => k = g ∨ q.ownBlock = some k) w w4 := (Kept.of0 (hk2.trans0 hk3)).trans hk4 fun k c => .inl (.inl c)
  by_cases hp : x.take 8 = versW
  · have hy8 : y = x.drop 8 := by rw [← hy]; exact if_pos hp
    have hlb : lineB 1 m x = (parseV (cutB 45 y)).map fun v => ⟨m.name, v, m.needs⟩ := by rw [hy8]; exact if_pos hp
    rw [show decide (x.take versW.length = versW) = true from decide_eq_true hp]
    cases hpv' : parseV (cutB 45 y) with
    | none =>
      rw [hpv'] at hlb
      repeat' (first | (refine CL.seq ?_) | (refine CL.region ?_) | (refine CL.ret ?_) | (refine Rt.block ?_) | (refine Gt.nil ?_; refine RW.nilw [0, 1, 2, 6, 7, 8, 9, 10, 11, 12, 13, 14, 15, 16, 32, 85] ?_; dsimp only [H.keep, H.look, H.Fr.put, Nat.beq]) | (refine Gt.move ?_; refine RW.y (Y.move rfl) rfl ?_) | (refine Gt.guard ?_; (refine RW.on rfl rfl rfl ?_)) | (refine Gt.assign ?_; refine RW.y (Y.assign rfl) rfl ?_) | (refine Gt.pick ?_; (refine RW.y (Y.pickT rfl rfl) rfl ?_)) | (refine Gt.eql ?_; (refine RW.y (Y.eqi rfl rfl) rfl ?_)))
      exact FQ.one rfl rfl rfl ⟨hK, by rw [hlb]; rfl, fun m' hm => by rw [hlb] at hm; cases hm⟩
    | some v =>
      rw [hpv'] at hlb hI
      repeat' (first | (refine CL.seq ?_) | (refine CL.region ?_) | (refine CL.ret ?_) | (refine Rt.block ?_) | (refine Gt.nil ?_; refine RW.nilw [0, 1, 2, 6, 7, 8, 9, 10, 11, 12, 13, 14, 15, 16, 32, 85] ?_; dsimp only [H.keep, H.look, H.Fr.put, Nat.beq]) | (refine Gt.move ?_; refine RW.y (Y.move rfl) rfl ?_) | (refine Gt.guard ?_; (refine RW.on rfl rfl rfl ?_)) | (refine Gt.assign ?_; refine RW.y (Y.assign rfl) rfl ?_) | (refine Gt.pick ?_; (refine RW.y (Y.pickT rfl rfl) rfl ?_)) | (refine Gt.eql ?_; (refine RW.y (Y.eqi rfl rfl) rfl ?_)))
      exact FQ.one rfl rfl rfl ⟨hK, by rw [hlb]; rfl, fun m' hm => by rw [hlb] at hm; cases hm; exact ⟨_, _, _, hI v rfl⟩⟩
  · have hno : lineB 1 m x = none := if_neg hp
    rw [show decide (x.take versW.length = versW) = false from decide_eq_false hp]
    repeat' (first | (refine CL.seq ?_) | (refine CL.region ?_) | (refine CL.ret ?_) | (refine Rt.block ?_) | (refine Gt.nil ?_; refine RW.nilw [0, 1, 2, 6, 7, 8, 9, 10, 11, 12, 13, 14, 15, 16, 32, 85] ?_; dsimp only [H.keep, H.look, H.Fr.put, Nat.beq]) | (refine Gt.move ?_; refine RW.y (Y.move rfl) rfl ?_) | (refine Gt.guard ?_; (refine RW.off1 rfl rfl rfl rfl rfl ?_)) | (refine Gt.assign ?_; refine RW.y (Y.assign rfl) rfl ?_) | (refine Gt.pick ?_; (refine RW.y (Y.pickF rfl rfl) rfl ?_)))
    exact FQ.one rfl rfl rfl ⟨hK, by rw [hno]; rfl, fun m' hm => by rw [hno] at hm; cases hm⟩

theorem lineNeed (n : Nat) (m : Mf) (x : T) (B g : Nat) (p q : Value) (L : List Np) (w : World) (h : LnI B g w m p q L) (hl : x.length ≤ 1000000) (hn : n ≤ 1000000) (hB : B ≤ w.heap.size) (hm : m.needs.length ≤ 20) (hM : Ml w) : Calls Tryz.prog 27 #[.pointer (some ⟨g, 0, none⟩), .int .i64 ((n + 2 : Nat) : Int), vs x] w (LnR B g q w (lineB (n + 2) m x)) := by
  have hLl : L.length ≤ 20 := by have := congrArg List.length h.nd; rw [List.length_map] at this; omega
  have hnl : (L.length : Int) = (m.needs.length : Int) := by have := congrArg List.length h.nd; rw [List.length_map] at this; omega
  refine H.enter Tryz.func27 Tryz.ntmps27 rfl rfl ?_; dsimp only [H.args]
  repeat' (first | (refine CL.seq ?_) | (refine CL.region ?_) | (refine CL.skip ?_) | (refine CL.condP rfl (fun _ => ?_) (fun _ => ?_) <;> try (exfalso; omega)) | (refine CL.block ?_) | (refine CL.done ?_) | (refine Nm.block ?_) | (refine Gt.nil ?_; refine RW.nilw [0, 1, 2, 6, 7, 8, 9, 10, 11, 12, 13, 14, 15, 16, 32, 85] ?_; dsimp only [H.keep, H.look, H.Fr.put, Nat.beq]) | (refine Gt.move ?_; refine RW.y (Y.move rfl) rfl ?_) | (refine Gt.assign ?_; refine RW.y (Y.assign rfl) rfl ?_) | (refine Gt.eql ?_; (refine RW.y (Y.eqi rfl rfl) rfl ?_)))
  refine RW.fn rfl rfl ((need x hl w hM).mono ?_)
  rintro e w2 ⟨hk2, V, y, rfl, hy⟩
  have hV := hy.val
  subst hV
  have hlb := lineB_need n m x
  repeat' (first | (refine Gt.move ?_; refine RW.y (Y.move rfl) rfl ?_) | (refine Gt.extract ?_; refine RW.y (Y.extract rfl rfl) rfl ?_))
  refine RW.varN rfl (by rfl) rfl (npC_one hy.D.1.one) rfl (fun w3 hb3 hk3 hlt3 => ?_)
  have hz2 := hk2.size
  have hz3 := hk3.size
  have h3 := (h.keep0 hk2).keep0 hk3
  repeat' (first | (refine CL.seq ?_) | (refine Gt.nil ?_; refine RW.nilw [0, 1, 2, 6, 7, 8, 9, 10, 11, 12, 13, 14, 15, 16, 32, 85] ?_; dsimp only [H.keep, H.look, H.Fr.put, Nat.beq]) | (refine Gt.assign ?_; refine RW.y (Y.assign rfl) rfl ?_))
  have hK3 : Kept (fun k => k = g ∨ q.ownBlock = some k) w w3 := Kept.of0 (hk2.trans0 hk3)
  refine CL.draw (fun w' => K0 w3 w') (by kernel_rfl) (fun w4 hheap hk4 => ?_)
  have hS : K0 w3 w4 := hk4
  obtain ⟨o, ho⟩ : ∃ o, needL x = o := ⟨_, rfl⟩
  rw [ho] at hlb hy
  rw [ho]
  skip
  skip
  cases o with
  | none =>
    have hno : lineB (n + 2) m x = none := hlb
    refine AW.take 0 rfl (by kernel_rfl) (by kernel_rfl) (by kernel_rfl) rfl (by assumption) (fun w hS => Y.move rfl) ?_
    refine AW.take 1 rfl (by kernel_rfl) (by kernel_rfl) (by kernel_rfl) rfl (by assumption) (fun w hS => by exact Y.notb rfl) ?_
    refine AW.take 2 rfl (by kernel_rfl) (by kernel_rfl) (by kernel_rfl) rfl (by assumption) (fun w hS => Y.move rfl) ?_
    refine AW.takeOff 3 rfl (by kernel_rfl) (by kernel_rfl) (by kernel_rfl) rfl rfl rfl rfl rfl (by assumption) ?_
    refine AW.takeOff 4 rfl (by kernel_rfl) (by kernel_rfl) (by kernel_rfl) rfl rfl rfl rfl rfl (by assumption) ?_
    refine AW.takeOff 5 rfl (by kernel_rfl) (by kernel_rfl) (by kernel_rfl) rfl rfl rfl rfl rfl (by assumption) ?_
    refine AW.takeOff 6 rfl (by kernel_rfl) (by kernel_rfl) (by kernel_rfl) rfl rfl rfl rfl rfl (by assumption) ?_
    refine AW.takeOff 7 rfl (by kernel_rfl) (by kernel_rfl) (by kernel_rfl) rfl rfl rfl rfl rfl (by assumption) ?_
    refine AW.takeOff 8 rfl (by kernel_rfl) (by kernel_rfl) (by kernel_rfl) rfl rfl rfl rfl rfl (by assumption) ?_
    refine AW.takeOff 9 rfl (by kernel_rfl) (by kernel_rfl) (by kernel_rfl) rfl rfl rfl rfl rfl (by assumption) ?_
    refine AW.take 10 rfl (by kernel_rfl) (by kernel_rfl) (by kernel_rfl) rfl (by assumption) (fun w hS => by exact Y.pickT rfl rfl) ?_
    refine AW.take 11 rfl (by kernel_rfl) (by kernel_rfl) (by kernel_rfl) rfl (by assumption) (fun w hS => Y.move rfl) ?_
    refine AW.takeOff 12 rfl (by kernel_rfl) (by kernel_rfl) (by kernel_rfl) rfl rfl rfl rfl rfl (by assumption) ?_
    refine AW.takeOff 13 rfl (by kernel_rfl) (by kernel_rfl) (by kernel_rfl) rfl rfl rfl rfl rfl (by assumption) ?_
    refine AW.takeOff 14 rfl (by kernel_rfl) (by kernel_rfl) (by kernel_rfl) rfl rfl rfl rfl rfl (by assumption) ?_
    refine AW.takeOff 15 rfl (by kernel_rfl) (by kernel_rfl) (by kernel_rfl) rfl rfl rfl rfl rfl (by assumption) ?_
    refine AW.takeOff 16 rfl (by kernel_rfl) (by kernel_rfl) (by kernel_rfl) rfl rfl rfl rfl rfl (by assumption) ?_
    refine AW.takeOff 17 rfl (by kernel_rfl) (by kernel_rfl) (by kernel_rfl) rfl rfl rfl rfl rfl (by assumption) ?_
    refine AW.takeOff 18 rfl (by kernel_rfl) (by kernel_rfl) (by kernel_rfl) rfl rfl rfl rfl rfl (by assumption) ?_
    refine AW.take 19 rfl (by kernel_rfl) (by kernel_rfl) (by kernel_rfl) rfl (by assumption) (fun w hS => by exact Y.pickT rfl rfl) ?_
    refine AW.take 20 rfl (by kernel_rfl) (by kernel_rfl) (by kernel_rfl) rfl (by assumption) (fun w hS => Y.move rfl) ?_
    refine AW.takeOff 21 rfl (by kernel_rfl) (by kernel_rfl) (by kernel_rfl) rfl rfl rfl rfl rfl (by assumption) ?_
    refine AW.takeOff 22 rfl (by kernel_rfl) (by kernel_rfl) (by kernel_rfl) rfl rfl rfl rfl rfl (by assumption) ?_
    refine AW.takeOff 23 rfl (by kernel_rfl) (by kernel_rfl) (by kernel_rfl) rfl rfl rfl rfl rfl (by assumption) ?_
    refine AW.takeOff 24 rfl (by kernel_rfl) (by kernel_rfl) (by kernel_rfl) rfl rfl rfl rfl rfl (by assumption) ?_
    refine AW.takeOff 25 rfl (by kernel_rfl) (by kernel_rfl) (by kernel_rfl) rfl rfl rfl rfl rfl (by assumption) ?_
    refine AW.takeOff 26 rfl (by kernel_rfl) (by kernel_rfl) (by kernel_rfl) rfl rfl rfl rfl rfl (by assumption) ?_
    refine AW.take 27 rfl (by kernel_rfl) (by kernel_rfl) (by kernel_rfl) rfl (by assumption) (fun w hS => by exact Y.pickT rfl rfl) ?_
    refine AW.donew [0, 6, 13, 85] (by kernel_rfl) ?_
    dsimp only [H.keep, H.look, H.Fr.put, Nat.beq]
    repeat' (first | (refine CL.seq ?_) | (refine CL.region ?_) | (refine CL.condT rfl ?_) | (refine CL.ret ?_) | (refine Gt.nil ?_; refine RW.nilw [0, 1, 2, 6, 7, 8, 9, 10, 11, 12, 13, 14, 15, 16, 32, 85] ?_; dsimp only [H.keep, H.look, H.Fr.put, Nat.beq]) | (refine Gt.assign ?_; refine RW.y (Y.assign rfl) rfl ?_))
    exact FQ.one rfl rfl rfl ⟨hK3.trans0 hk4, by rw [hno]; rfl, fun m' hm => by rw [hno] at hm; cases hm⟩
  | some d =>
    have hd : y.d = d := hy.eq d rfl
    obtain ⟨b1, hb1⟩ : ∃ b : Bool, decide (y.d.name = m.name) = b := ⟨_, rfl⟩
    simp only at hlb
    cases b1 with
    | true =>
      have hno : lineB (n + 2) m x = none := by rw [hlb, if_neg fun c => c.1 (by rw [← hd]; exact of_decide_eq_true hb1)]
      skip
      refine AW.take 0 rfl (by kernel_rfl) (by kernel_rfl) (by kernel_rfl) rfl (by assumption) (fun w hS => Y.move rfl) ?_
      refine AW.take 1 rfl (by kernel_rfl) (by kernel_rfl) (by kernel_rfl) rfl (by assumption) (fun w hS => by exact Y.notb rfl) ?_
      refine AW.take 2 rfl (by kernel_rfl) (by kernel_rfl) (by kernel_rfl) rfl (by assumption) (fun w hS => Y.move rfl) ?_
      refine AW.takeOn 3 rfl (by kernel_rfl) (by kernel_rfl) (by kernel_rfl) rfl rfl rfl rfl (by assumption) (fun w hS => Y.fieldAddr rfl (by rfl)) ?_
      refine AW.takeOn 4 rfl (by kernel_rfl) (by kernel_rfl) (by kernel_rfl) rfl rfl rfl rfl (by assumption) (fun w hS => Y.loadB rfl (hS.at0 hb3) rfl) ?_
      refine AW.takeOn 5 rfl (by kernel_rfl) (by kernel_rfl) (by kernel_rfl) rfl rfl rfl rfl (by assumption) (fun w hS => Y.move rfl) ?_
      refine AW.takeOn 6 rfl (by kernel_rfl) (by kernel_rfl) (by kernel_rfl) rfl rfl rfl rfl (by assumption) (fun w hS => Y.nilck rfl) ?_
      refine AW.takeOn 7 rfl (by kernel_rfl) (by kernel_rfl) (by kernel_rfl) rfl rfl rfl rfl (by assumption) (fun w hS => Y.fieldAddr rfl (by rfl)) ?_
      refine AW.takeOn 8 rfl (by kernel_rfl) (by kernel_rfl) (by kernel_rfl) rfl rfl rfl rfl (by assumption) (fun w hS => Y.loadB rfl (hS.at0 h3.blk) rfl) ?_
      refine AW.takeOn 9 rfl (by kernel_rfl) (by kernel_rfl) (by kernel_rfl) rfl rfl rfl rfl (by assumption) (fun w hS => Y.eqsE rfl rfl hb1) ?_
      refine AW.take 10 rfl (by kernel_rfl) (by kernel_rfl) (by kernel_rfl) rfl (by assumption) (fun w hS => by exact Y.pickF rfl rfl) ?_
      refine AW.take 11 rfl (by kernel_rfl) (by kernel_rfl) (by kernel_rfl) rfl (by assumption) (fun w hS => Y.move rfl) ?_
      refine AW.takeOff 12 rfl (by kernel_rfl) (by kernel_rfl) (by kernel_rfl) rfl rfl rfl rfl rfl (by assumption) ?_
      refine AW.takeOff 13 rfl (by kernel_rfl) (by kernel_rfl) (by kernel_rfl) rfl rfl rfl rfl rfl (by assumption) ?_
      refine AW.takeOff 14 rfl (by kernel_rfl) (by kernel_rfl) (by kernel_rfl) rfl rfl rfl rfl rfl (by assumption) ?_
      refine AW.takeOff 15 rfl (by kernel_rfl) (by kernel_rfl) (by kernel_rfl) rfl rfl rfl rfl rfl (by assumption) ?_
      refine AW.takeOff 16 rfl (by kernel_rfl) (by kernel_rfl) (by kernel_rfl) rfl rfl rfl rfl rfl (by assumption) ?_
      refine AW.takeOff 17 rfl (by kernel_rfl) (by kernel_rfl) (by kernel_rfl) rfl rfl rfl rfl rfl (by assumption) ?_
      refine AW.takeOff 18 rfl (by kernel_rfl) (by kernel_rfl) (by kernel_rfl) rfl rfl rfl rfl rfl (by assumption) ?_
      refine AW.take 19 rfl (by kernel_rfl) (by kernel_rfl) (by kernel_rfl) rfl (by assumption) (fun w hS => by exact Y.pickT rfl rfl) ?_
      refine AW.take 20 rfl (by kernel_rfl) (by kernel_rfl) (by kernel_rfl) rfl (by assumption) (fun w hS => Y.move rfl) ?_
      refine AW.takeOff 21 rfl (by kernel_rfl) (by kernel_rfl) (by kernel_rfl) rfl rfl rfl rfl rfl (by assumption) ?_
      refine AW.takeOff 22 rfl (by kernel_rfl) (by kernel_rfl) (by kernel_rfl) rfl rfl rfl rfl rfl (by assumption) ?_
      refine AW.takeOff 23 rfl (by kernel_rfl) (by kernel_rfl) (by kernel_rfl) rfl rfl rfl rfl rfl (by assumption) ?_
      refine AW.takeOff 24 rfl (by kernel_rfl) (by kernel_rfl) (by kernel_rfl) rfl rfl rfl rfl rfl (by assumption) ?_
      refine AW.takeOff 25 rfl (by kernel_rfl) (by kernel_rfl) (by kernel_rfl) rfl rfl rfl rfl rfl (by assumption) ?_
      refine AW.takeOff 26 rfl (by kernel_rfl) (by kernel_rfl) (by kernel_rfl) rfl rfl rfl rfl rfl (by assumption) ?_
      refine AW.take 27 rfl (by kernel_rfl) (by kernel_rfl) (by kernel_rfl) rfl (by assumption) (fun w hS => by exact Y.pickT rfl rfl) ?_
      refine AW.donew [0, 6, 13, 85] (by kernel_rfl) ?_
      dsimp only [H.keep, H.look, H.Fr.put, Nat.beq]
      repeat' (first | (refine CL.seq ?_) | (refine CL.region ?_) | (refine CL.condT rfl ?_) | (refine CL.ret ?_) | (refine Gt.nil ?_; refine RW.nilw [0, 1, 2, 6, 7, 8, 9, 10, 11, 12, 13, 14, 15, 16, 32, 85] ?_; dsimp only [H.keep, H.look, H.Fr.put, Nat.beq]) | (refine Gt.assign ?_; refine RW.y (Y.assign rfl) rfl ?_))
      exact FQ.one rfl rfl rfl ⟨hK3.trans0 hk4, by rw [hno]; rfl, fun m' hm => by rw [hno] at hm; cases hm⟩
    | false =>
      have hn1 : d.name ≠ m.name := by rw [← hd]; exact of_decide_eq_false hb1
      skip
      refine AW.take 0 rfl (by kernel_rfl) (by kernel_rfl) (by kernel_rfl) rfl (by assumption) (fun w hS => Y.move rfl) ?_
      refine AW.take 1 rfl (by kernel_rfl) (by kernel_rfl) (by kernel_rfl) rfl (by assumption) (fun w hS => by exact Y.notb rfl) ?_
      refine AW.take 2 rfl (by kernel_rfl) (by kernel_rfl) (by kernel_rfl) rfl (by assumption) (fun w hS => Y.move rfl) ?_
      refine AW.takeOn 3 rfl (by kernel_rfl) (by kernel_rfl) (by kernel_rfl) rfl rfl rfl rfl (by assumption) (fun w hS => Y.fieldAddr rfl (by rfl)) ?_
      refine AW.takeOn 4 rfl (by kernel_rfl) (by kernel_rfl) (by kernel_rfl) rfl rfl rfl rfl (by assumption) (fun w hS => Y.loadB rfl (hS.at0 hb3) rfl) ?_
      refine AW.takeOn 5 rfl (by kernel_rfl) (by kernel_rfl) (by kernel_rfl) rfl rfl rfl rfl (by assumption) (fun w hS => Y.move rfl) ?_
      refine AW.takeOn 6 rfl (by kernel_rfl) (by kernel_rfl) (by kernel_rfl) rfl rfl rfl rfl (by assumption) (fun w hS => Y.nilck rfl) ?_
      refine AW.takeOn 7 rfl (by kernel_rfl) (by kernel_rfl) (by kernel_rfl) rfl rfl rfl rfl (by assumption) (fun w hS => Y.fieldAddr rfl (by rfl)) ?_
      refine AW.takeOn 8 rfl (by kernel_rfl) (by kernel_rfl) (by kernel_rfl) rfl rfl rfl rfl (by assumption) (fun w hS => Y.loadB rfl (hS.at0 h3.blk) rfl) ?_
      refine AW.takeOn 9 rfl (by kernel_rfl) (by kernel_rfl) (by kernel_rfl) rfl rfl rfl rfl (by assumption) (fun w hS => Y.eqsE rfl rfl hb1) ?_
      refine AW.take 10 rfl (by kernel_rfl) (by kernel_rfl) (by kernel_rfl) rfl (by assumption) (fun w hS => by exact Y.pickF rfl rfl) ?_
      refine AW.take 11 rfl (by kernel_rfl) (by kernel_rfl) (by kernel_rfl) rfl (by assumption) (fun w hS => Y.move rfl) ?_
      refine AW.takeOn 12 rfl (by kernel_rfl) (by kernel_rfl) (by kernel_rfl) rfl rfl rfl rfl (by assumption) (fun w hS => Y.move rfl) ?_
      refine AW.takeOn 13 rfl (by kernel_rfl) (by kernel_rfl) (by kernel_rfl) rfl rfl rfl rfl (by assumption) (fun w hS => Y.nilck rfl) ?_
      refine AW.takeOn 14 rfl (by kernel_rfl) (by kernel_rfl) (by kernel_rfl) rfl rfl rfl rfl (by assumption) (fun w hS => Y.fieldAddr rfl (by rfl)) ?_
      refine AW.takeOn 15 rfl (by kernel_rfl) (by kernel_rfl) (by kernel_rfl) rfl rfl rfl rfl (by assumption) (fun w hS => Y.loadB rfl (hS.at0 h3.blk) rfl) ?_
      refine AW.takeOn 16 rfl (by kernel_rfl) (by kernel_rfl) (by kernel_rfl) rfl rfl rfl rfl (by assumption) (fun w hS => Y.fieldAddr rfl (by rfl)) ?_
      refine AW.takeOn 17 rfl (by kernel_rfl) (by kernel_rfl) (by kernel_rfl) rfl rfl rfl rfl (by assumption) (fun w hS => Y.loadB rfl (hS.at0 hb3) rfl) ?_
      refine AW.next 18 rfl (by kernel_rfl) ?_
      refine RW.on rfl rfl rfl ?_
      refine RW.fn rfl rfl ((has q L y.d.name w4 (h3.row.ga.keep0 hk4) (by omega)).mono ?_)
      rintro e w5 ⟨hk5, rfl⟩
      rw [h.nd]
      have hk35 := hk4.trans0 hk5
      refine RW.nil (Nm.then (rebase0 hS hk5 fun hS => ?_))
      obtain ⟨b2, hb2⟩ : ∃ b : Bool, hasN m.needs y.d.name = b := ⟨_, rfl⟩
      rw [hb2]
      skip
      cases b2 with
      | true =>
        have hno : lineB (n + 2) m x = none := by rw [hlb, if_neg fun c => by rw [← hd, hb2] at c; cases c.2.1]
        refine AW.take 19 rfl (by kernel_rfl) (by kernel_rfl) (by kernel_rfl) rfl (by assumption) (fun w hS => by exact Y.pickF rfl rfl) ?_
        refine AW.take 20 rfl (by kernel_rfl) (by kernel_rfl) (by kernel_rfl) rfl (by assumption) (fun w hS => Y.move rfl) ?_
        refine AW.takeOff 21 rfl (by kernel_rfl) (by kernel_rfl) (by kernel_rfl) rfl rfl rfl rfl rfl (by assumption) ?_
        refine AW.takeOff 22 rfl (by kernel_rfl) (by kernel_rfl) (by kernel_rfl) rfl rfl rfl rfl rfl (by assumption) ?_
        refine AW.takeOff 23 rfl (by kernel_rfl) (by kernel_rfl) (by kernel_rfl) rfl rfl rfl rfl rfl (by assumption) ?_
        refine AW.takeOff 24 rfl (by kernel_rfl) (by kernel_rfl) (by kernel_rfl) rfl rfl rfl rfl rfl (by assumption) ?_
        refine AW.takeOff 25 rfl (by kernel_rfl) (by kernel_rfl) (by kernel_rfl) rfl rfl rfl rfl rfl (by assumption) ?_
        refine AW.takeOff 26 rfl (by kernel_rfl) (by kernel_rfl) (by kernel_rfl) rfl rfl rfl rfl rfl (by assumption) ?_
        refine AW.take 27 rfl (by kernel_rfl) (by kernel_rfl) (by kernel_rfl) rfl (by assumption) (fun w hS => by exact Y.pickT rfl rfl) ?_
        refine AW.donew [0, 6, 13, 85] (by kernel_rfl) ?_
        dsimp only [H.keep, H.look, H.Fr.put, Nat.beq]
        repeat' (first | (refine CL.seq ?_) | (refine CL.region ?_) | (refine CL.condT rfl ?_) | (refine CL.ret ?_) | (refine Gt.nil ?_; refine RW.nilw [0, 1, 2, 6, 7, 8, 9, 10, 11, 12, 13, 14, 15, 16, 32, 85] ?_; dsimp only [H.keep, H.look, H.Fr.put, Nat.beq]) | (refine Gt.assign ?_; refine RW.y (Y.assign rfl) rfl ?_))
        exact FQ.one rfl rfl rfl ⟨hK3.trans0 hk35, by rw [hno]; rfl, fun m' hm => by rw [hno] at hm; cases hm⟩
      | false =>
        skip
        obtain ⟨b3, hb4⟩ : ∃ b : Bool, decide ((L.length : Int) = 20) = b := ⟨_, rfl⟩
        have h5 := h3.keep0 hk35
        refine AW.take 19 rfl (by kernel_rfl) (by kernel_rfl) (by kernel_rfl) rfl (by assumption) (fun w hS => by exact Y.pickF rfl rfl) ?_
        refine AW.take 20 rfl (by kernel_rfl) (by kernel_rfl) (by kernel_rfl) rfl (by assumption) (fun w hS => Y.move rfl) ?_
        refine AW.takeOn 21 rfl (by kernel_rfl) (by kernel_rfl) (by kernel_rfl) rfl rfl rfl rfl (by assumption) (fun w hS => Y.move rfl) ?_
        refine AW.takeOn 22 rfl (by kernel_rfl) (by kernel_rfl) (by kernel_rfl) rfl rfl rfl rfl (by assumption) (fun w hS => Y.nilck rfl) ?_
        refine AW.takeOn 23 rfl (by kernel_rfl) (by kernel_rfl) (by kernel_rfl) rfl rfl rfl rfl (by assumption) (fun w hS => Y.fieldAddr rfl (by rfl)) ?_
        refine AW.takeOn 24 rfl (by kernel_rfl) (by kernel_rfl) (by kernel_rfl) rfl rfl rfl rfl (by assumption) (fun w hS => Y.loadB rfl (hS.at0 h5.blk) rfl) ?_
        refine AW.takeOn 25 rfl (by kernel_rfl) (by kernel_rfl) (by kernel_rfl) rfl rfl rfl rfl (by assumption) (fun w hS => Y.lenx rfl ((h5.row.ga.keep0 hS).1)) ?_
        refine AW.takeOn 26 rfl (by kernel_rfl) (by kernel_rfl) (by kernel_rfl) rfl rfl rfl rfl (by assumption) (fun w hS => Y.eqiE rfl rfl hb4) ?_
        refine AW.take 27 rfl (by kernel_rfl) (by kernel_rfl) (by kernel_rfl) rfl (by assumption) (fun w hS => by exact Y.pickF rfl rfl) ?_
        refine AW.donew [0, 6, 13, 85] (by kernel_rfl) ?_
        dsimp only [H.keep, H.look, H.Fr.put, Nat.beq]
        cases b3 with
        | true =>
          have h20 : (L.length : Int) = 20 := of_decide_eq_true hb4
          have hno : lineB (n + 2) m x = none := by rw [hlb, if_neg fun c => by omega]
          repeat' (first | (refine CL.seq ?_) | (refine CL.region ?_) | (refine CL.condT rfl ?_) | (refine CL.ret ?_) | (refine Gt.nil ?_; refine RW.nilw [0, 1, 2, 6, 7, 8, 9, 10, 11, 12, 13, 14, 15, 16, 32, 85] ?_; dsimp only [H.keep, H.look, H.Fr.put, Nat.beq]) | (refine Gt.assign ?_; refine RW.y (Y.assign rfl) rfl ?_))
          exact FQ.one rfl rfl rfl ⟨hK3.trans0 hk35, by rw [hno]; rfl, fun m' hm => by rw [hno] at hm; cases hm⟩
        | false =>
          have h20 : ¬ (L.length : Int) = 20 := of_decide_eq_false hb4
          have hyes : lineB (n + 2) m x = some ⟨m.name, m.v, m.needs ++ [d]⟩ := by rw [hlb, if_pos ⟨hn1, by rw [← hd]; exact hb2, by omega⟩]
          have h5 := h3.keep0 hk35
          have hbd := hk35.at0 hb3
          have hz35 := hk35.size
          have hgB := h.gB
          have hz1 := lt_of_at h.blk
          have hq : ¬ q.ownBlock = some g := fun c => by have := (h.row.lt _ c).1; omega
          have hq2 : ¬ q.ownBlock = some w2.heap.size := fun c => by have := (h.row.lt _ c).2; omega
          have hyD : ndK.D w5 y := ndK.keep0 (ndK.keep0 hy.D hk3) hk35
          have hyR : ∀ i, ndK.R y i → q.ownBlock ≠ some i := fun i hi c => by have := hy.new i hi; have := (h.row.lt i c).2; omega
          repeat' (first | (refine CL.seq ?_) | (refine CL.skip ?_) | (refine CL.condF rfl ?_))
          refine CL.drawz (fun w' => Kept (fun k => q.ownBlock = some k) w5 w') (fun j => Nat.beq j 10) (by kernel_rfl) (fun w6 hheap6 hk6 => ?_)
          have hS : Kept (fun k => q.ownBlock = some k) w5 w6 := hk6.of0
          skip
          refine AL.take 0 [8, 9, 10] rfl (by kernel_rfl) (by kernel_rfl) (by kernel_rfl) (by kernel_rfl) rfl (by assumption) (fun w hS => Y.move rfl) ?_
          refine AL.take 1 [2, 3, 4, 7, 8, 9, 10] rfl (by kernel_rfl) (by kernel_rfl) (by kernel_rfl) (by kernel_rfl) rfl (by assumption) (fun w hS => Y.move rfl) ?_
          refine AL.take 2 [3, 4, 7, 8, 9, 10] rfl (by kernel_rfl) (by kernel_rfl) (by kernel_rfl) (by kernel_rfl) rfl (by assumption) (fun w hS => Y.nilck rfl) ?_
          refine AL.take 3 [4, 7, 8, 9, 10] rfl (by kernel_rfl) (by kernel_rfl) (by kernel_rfl) (by kernel_rfl) rfl (by assumption) (fun w hS => Y.fieldAddr rfl (by rfl)) ?_
          refine AL.take 4 [7, 8, 9, 10] rfl (by kernel_rfl) (by kernel_rfl) (by kernel_rfl) (by kernel_rfl) rfl (by assumption) (fun w hS => Y.loadB rfl (hS.at h5.blk hq) rfl) ?_
          refine AL.take 5 [6, 7, 8, 9, 10] rfl (by kernel_rfl) (by kernel_rfl) (by kernel_rfl) (by kernel_rfl) rfl (by assumption) (fun w hS => Y.loadBlock rfl (hS.at hbd hq2) rfl) ?_
          refine AL.next 6 rfl (by kernel_rfl) ?_
          refine RW.build1 rfl rfl rfl rfl (fun w7 hb7 hk7 hlt7 => ?_)
          have hk57 := hk6.trans0 hk7
          have hS : Kept (fun k => q.ownBlock = some k) w5 w7 := hk57.of0
          have hs7 := sl_new (sz := 4) hb7 rfl (by decide)
          have hz57 := hk57.size
          refine RW.nil (Nm.then ⟨hS, ?_⟩)
          skip
          refine AL.next 7 rfl (by kernel_rfl) ?_
          refine RW.app (sz := 4) rfl rfl rfl rfl rfl (h5.row.keep0 hk57).1 hs7 (fun z hz => npC_one hyD.1.one z (by simpa [Value.cells] using hz)) (by omega) (by omega) (by omega) (fun q' w8 how8 hk8 hl8 => ?_)
          have hS : Kept (fun k => q.ownBlock = some k) w5 w8 := hk57.of0.trans hk8 fun k h => .inl h
          have hI8 : GI ndK w8 B ndT q' (L ++ [y]) := GI.snoc (h5.row.keep0 hk57) (ndK.keep0 hyD hk57) hyR how8 hk8 hl8
          refine RW.nil (Nm.then ⟨hS, ?_⟩)
          refine AL.take 8 [9, 10] rfl (by kernel_rfl) (by kernel_rfl) (by kernel_rfl) (by kernel_rfl) rfl (by assumption) (fun w hS => Y.nilck rfl) ?_
          refine AL.take 9 [10] rfl (by kernel_rfl) (by kernel_rfl) (by kernel_rfl) (by kernel_rfl) rfl (by assumption) (fun w hS => Y.fieldAddr rfl (by rfl)) ?_
          refine AL.last 10 rfl (by kernel_rfl) rfl ?_
          refine RW.storeB rfl rfl hI8.ga.1.one (hS.at h5.blk hq) (by show 5 < 6; omega) (fun w9 hb9 hk9 => ?_)
          refine RW.nil (Nm.then ⟨trivial, ?_⟩)
          skip
          refine AL.donew [6] (by kernel_rfl) ?_
          dsimp only [H.keep, H.look, H.Fr.put, Nat.beq]
          repeat' (first | (refine CL.seq ?_) | (refine CL.region ?_) | (refine CL.ret ?_) | (refine Gt.nil ?_; refine RW.nilw [0, 1, 2, 6, 7, 8, 9, 10, 11, 12, 13, 14, 15, 16, 32, 85] ?_; dsimp only [H.keep, H.look, H.Fr.put, Nat.beq]) | (refine Gt.assign ?_; refine RW.y (Y.assign rfl) rfl ?_))
          have hK9 : Kept (fun k => k = g ∨ q.ownBlock = some k) w w9 := ((hK3.trans0 hk35).trans hS fun k c => .inl (.inr c)).trans hk9 fun k c => .inl (.inl c)
          refine FQ.one rfl rfl rfl ⟨hK9, by rw [hyes]; rfl, fun m' hm => ?_⟩
          rw [hyes] at hm
          cases hm
          refine ⟨p, q', L ++ [y], hb9, h.gB, ?_, h.preB, ?_, ?_, ?_, ?_⟩
          · refine h.pre.keep hK9 fun i hi c => ?_
            rcases c with c | c
            · have := h.preB i hi; omega
            · exact h.sep i hi c
          · refine hI8.keep hk9 fun i _ hi c => ?_
            have c' : i = g := c
            rcases hi with hi | ⟨z, hz, hi⟩
            · have := (hI8.lt i hi).1; omega
            · rcases List.mem_append.1 hz with hz | hz
              · have := h.rowB z hz i hi; omega
              · rw [List.mem_singleton.1 hz] at hi; have := hy.new i hi; omega
          · intro z hz i hi
            rcases List.mem_append.1 hz with hz | hz
            · exact h.rowB z hz i hi
            · rw [List.mem_singleton.1 hz] at hi; have := hy.new i hi; omega
          · rw [List.map_append, h.nd, List.map_singleton, hd]
          · intro i hi c
            rcases hl8 i c with c | c
            · exact h.sep i hi c
            · have := h.pre.lt hi; have := hk57.size; omega
end Go.Proofs.YtjlkmdmpejpmpaaGreatDoor.Ma

namespace Go.Proofs.YtjlkmdmpejpmpaaGreatDoor.Ma
open Go.RowKit H S Ve Sp Od
attribute [local irreducible] H.CL H.RW H.CW H.Yd H.thenK H.blockQ Go.Calls

theorem line (n : Nat) (m : Mf) (x : T) (B g : Nat) (p q : Value) (L : List Np) (w : World) (h : LnI B g w m p q L) (hl : x.length ≤ 1000000) (hn : n ≤ 1000000) (hB : B ≤ w.heap.size) (hm : m.needs.length ≤ 20) (hM : Ml w) : Calls Tryz.prog 27 #[.pointer (some ⟨g, 0, none⟩), .int .i64 (n : Int), vs x] w (LnR B g q w (lineB n m x)) := by
  match n, hn with
  | 0, _ => exact lineName m x B g p q L w h hl
  | 1, _ => exact lineVers m x B g p q L w h hl hB
  | k + 2, hk => exact lineNeed k m x B g p q L w h hl (by omega) hB hm hM
theorem lineB_num {n : Nat} {m m' : Mf} {x : T} (h : m.needs.length ≤ 20) (hl : lineB n m x = some m') : m'.needs.length ≤ 20 := by
  match n, hl with
  | 0, hl =>
    rw [lineB] at hl
    split at hl
    · cases hl; exact h
    · cases hl
  | 1, hl =>
    rw [lineB] at hl
    split at hl
    · cases hv : parseV (cutB 45 (x.drop 8)) with
      | none => rw [hv] at hl; cases hl
      | some v => rw [hv] at hl; cases hl; exact h
    · cases hl
  | k + 2, hl =>
    rw [lineB_need] at hl
    cases hd : needL x with
    | none => rw [hd] at hl; cases hl
    | some d =>
      rw [hd] at hl
      simp only at hl
      split at hl
      · rename_i hc
        cases hl
        show (m.needs ++ [d]).length ≤ 20
        rw [List.length_append, List.length_singleton]; omega
      · cases hl
theorem rd_step {l : List T} {i n : Nat} {m : Mf} (h : i < l.length) : rdM (l.drop i) i n m = if silentB (l.getD i []) = true then rdM (l.drop (i + 1)) (i + 1) n m else match lineB n m (l.getD i []) with
    | none => (zeroM, ((i + 1 : Nat) : Int), 62)
    | some m' => rdM (l.drop (i + 1)) (i + 1) (n + 1) m' := by
  rw [show l.drop i = l.getD i [] :: l.drop (i + 1) from by simp [List.getD_eq_getElem?_getD, h]]
  rfl
theorem lines_mem {s x : T} (h : x ∈ Lk.linesB s) : x ∈ splitB 10 s := by
  rw [Lk.linesB] at h
  split at h
  · exact (List.dropLast_sublist _).subset h
  · exact h
theorem lines_len (s : T) : (Lk.linesB s).length ≤ s.length + 1 := by
  have h1 := splitB_len 10 s
  have h2 := List.count_le_length (a := (10 : UInt8)) (l := s)
  rw [Lk.linesB]
  split
  · rw [List.length_dropLast]; omega
  · omega
theorem zeroCells : ∀ z ∈ (mfC zeroM (.slice none 0 0) (.slice none 0 0)).toArray.toList, z.oneCell' = true := by decide
theorem zeroAt (w : World) : MfAt w (.agg (mfC zeroM (.slice none 0 0) (.slice none 0 0)).toArray) zeroM := ⟨_, _, [], rfl, Sl.nil _ _, (GI.nil ndK w 0 ndT).ga, rfl⟩
/-- What a reader answers. -/
def ManP (o : Mf × Int × Int) (w : World) (e : Ending) (w' : World) : Prop := K0 w w' ∧ ∃ V, e = .returned (.tuple #[V, .int .i64 o.2.1, .int .i64 o.2.2]) ∧ MfAt w' V o.1
set_option maxHeartbeats 1000000 in
theorem parseM (s : T) (hl : s.length ≤ 1000000) (w : World) (hM : Ml w) : Calls Tryz.prog 10 #[vs s] w (ManP (manB s) w) := by
  refine H.enter Tryz.func10 Tryz.ntmps10 rfl rfl ?_; dsimp only [H.args]
  refine CL.seq ?_
  refine CL.region ?_
  refine RW.alloc rfl (fun w1 hb1 hk1 hlt1 => ?_)
  repeat' (first | (refine CL.seq ?_) | (refine CL.region ?_) | (refine CL.skip ?_) | (refine CL.condP rfl (fun _ => ?_) (fun _ => ?_) <;> try (exfalso; omega)) | (refine Gt.nil ?_; refine RW.nilw [0, 2, 3, 4, 5, 6, 7, 8, 11, 14, 15, 16, 17, 22, 26, 34] ?_; dsimp only [H.keep, H.look, H.Fr.put, Nat.beq]) | (refine Gt.assign ?_; refine RW.y (Y.assign rfl) rfl ?_) | (refine Gt.move ?_; refine RW.y (Y.move rfl) rfl ?_) | (refine Gt.len ?_; (refine RW.y (Y.lens rfl) rfl ?_)) | (refine Gt.gtr ?_; refine RW.y (Y.gtr rfl rfl) rfl ?_) | (refine RW.y (Y.build (ps := []) rfl rfl) rfl ?_))
  · rename_i h
    have hm : manB s = (zeroM, 0, 62) := if_neg (by omega)
    have hbF := hb1
    have hKF := hk1
    rw [hm]
    refine RW.storeBlock (u := (mfC zeroM (.slice none 0 0) (.slice none 0 0)).toArray) rfl rfl rfl zeroCells hbF rfl (fun wq hbq hkq => ?_)
    repeat' (first | (refine CL.ret ?_) | (refine Gt.nil ?_; refine RW.nilw [0, 2, 3, 4, 5, 6, 7, 8, 11, 14, 15, 16, 17, 22, 26, 34] ?_; dsimp only [H.keep, H.look, H.Fr.put, Nat.beq]) | (refine Gt.assign ?_; refine RW.y (Y.assign rfl) rfl ?_))
    exact FQ.res (rs := [.cell 2 28, .tmp 3, .tmp 4]) (vs := [_, _, _]) rfl rfl ⟨⟨_, rfl, load_block hbq rfl⟩, rfl, rfl, trivial⟩ rfl (⟨hKF.trans hkq fun k h => .inr (by rw [h]; exact Nat.le_refl _), _, rfl, zeroAt _⟩)
  rename_i h65
  refine RW.alloc rfl (fun w2 hb2 hk2 hlt2 => ?_)
  repeat' (first | (refine CL.seq ?_) | (refine CL.region ?_) | (refine Gt.nil ?_; refine RW.nilw [0, 2, 3, 4, 5, 6, 7, 8, 11, 14, 15, 16, 17, 22, 26, 34] ?_; dsimp only [H.keep, H.look, H.Fr.put, Nat.beq]) | (refine Gt.assign ?_; refine RW.y (Y.assign rfl) rfl ?_) | (refine Gt.move ?_; refine RW.y (Y.move rfl) rfl ?_))
  refine RW.fn rfl rfl ((progLines s hl w2).mono ?_)
  rintro e w3 ⟨v, rfl, how, hk3⟩
  have hz1 := hk1.size
  have hz2 := hk2.size
  have hz3 := hk3.size
  have hs := Sl.of_own how
  have hma : manB s = rdM (Lk.linesB s) 0 0 zeroM := if_pos (by omega)
  have hxl : ∀ x ∈ Lk.linesB s, x.length ≤ 1000000 := fun x hx => Nat.le_trans (splitB_mem_len 10 s x (lines_mem hx)) hl
  have hnl : (Lk.linesB s).length ≤ 100000 := by have := lines_len s; omega
  rw [hma]
  generalize Lk.linesB s = X at *
  have hb13 := hk3.at0 (hk2.at0 hb1)
  have hb23 := hk3.at0 hb2
  have hK3 := (hk1.trans0 hk2).trans0 hk3
  repeat' (first | (refine CL.block ?_) | (refine Gt.nil ?_; refine RW.nilw [0, 2, 3, 4, 5, 6, 7, 8, 11, 14, 15, 16, 17, 22, 26, 34] ?_; dsimp only [H.keep, H.look, H.Fr.put, Nat.beq]) | (refine Gt.move ?_; refine RW.y (Y.move rfl) rfl ?_) | (refine Gt.len ?_; (refine RW.y (Y.lenx rfl (by assumption)) rfl ?_)))
  refine CL.loopS [2, 3, 4, 5, 6, 14, 15, 16] (fun k vals wr => ∃ (i n : Nat) (m : Mf) (p q : Value) (L : List Np), vals = [.pointer (some ⟨w.heap.size, 0, none⟩), .int .i64 0, .int .i64 0, .pointer (some ⟨w1.heap.size, 0, none⟩), .int .i64 (n : Int), v, .int .i64 (X.length : Int), .int .i64 (i : Int)] ∧ k = X.length - i ∧ i ≤ X.length ∧ n ≤ i ∧ m.needs.length ≤ 20 ∧ LnI w3.heap.size w1.heap.size wr m p q L ∧ rdM X 0 0 zeroM = rdM (X.drop i) i n m ∧ Kept (fun k => k = w1.heap.size ∨ w3.heap.size ≤ k) w3 wr) X.length ⟨_, rfl, 0, 0, zeroM, .slice none 0 0, .slice none 0 0, [], rfl, rfl, Nat.zero_le _, Nat.le_refl _, Nat.zero_le _, ⟨hb23, by omega, Sl.nil _ _, nolive, GI.nil _ _ _ _, (fun x hx => by cases hx), rfl, (fun i hi => by cases hi)⟩, rfl, Kept.refl _ _⟩ ?_
  rintro k vals wr ⟨i, n, m, p, q, L, rfl, rfl, hi, hni, hm20, hI, hgo, hkr⟩
  dsimp only [List.zip, List.zipWith]
  have hzr := hkr.size
  have hsr := hs.keep hkr fun j hj c => by have := how.lt j (live_own hj); omega
  have hbr := hkr.at hb13 fun c => by omega
  have hKr : K0 w wr := hK3.trans hkr fun k c => .inr (by omega)
  rcases Nat.lt_or_ge i X.length with hlt | hge
  · have hti : ((i : Int)).toNat = i := Int.toNat_natCast i
    have hst := rd_step (n := n) (m := m) hlt
    have hxm := hxl _ (mem_getD [] hlt)
    repeat' (first | (refine CL.seq ?_) | (refine CL.region ?_) | (refine CL.skip ?_) | (refine CL.condP rfl (fun _ => ?_) (fun _ => ?_) <;> try (exfalso; omega)) | (refine CL.block ?_) | (refine Gt.nil ?_; refine RW.nilw [0, 2, 3, 4, 5, 6, 7, 8, 11, 14, 15, 16, 17, 22, 26, 34] ?_; dsimp only [H.keep, H.look, H.Fr.put, Nat.beq]) | (refine Gt.assign ?_; refine RW.y (Y.assign rfl) rfl ?_) | (refine Gt.move ?_; refine RW.y (Y.move rfl) rfl ?_) | (refine Gt.lss ?_; refine RW.y (Y.lss rfl rfl) rfl ?_) | (refine Gt.idx ?_; refine RW.elemS rfl rfl rfl rfl (by assumption) (by omega) (by omega) ?_))
    rw [hti]
    generalize X.getD i [] = x at *
    refine RW.fn rfl rfl ((silent x wr).mono ?_)
    rintro e w' ⟨rfl, rfl⟩
    cases hsi : silentB x with
    | true =>
      rw [hsi, if_pos rfl] at hst
      repeat' (first | (refine CL.region ?_) | (refine CL.condT rfl ?_) | (refine CL.exit ?_) | (refine Ex.hit ?_) | (refine CL.done ?_) | (refine Nm.then ?_) | (refine Gt.nil ?_; refine RW.nilw [0, 2, 3, 4, 5, 6, 7, 8, 11, 14, 15, 16, 17, 22, 26, 34] ?_; dsimp only [H.keep, H.look, H.Fr.put, Nat.beq]) | (refine Gt.move ?_; refine RW.y (Y.move rfl) rfl ?_) | (refine Gt.add ?_; refine RW.y (Y.add64 rfl rfl (by omega) (by omega)) rfl ?_))
      exact ⟨X.length - (i + 1), _, rfl, rfl, rfl, by omega, i + 1, n, m, p, q, L, rfl, rfl, by omega, by omega, hm20, hI, by rw [hgo, hst], hkr⟩
    | false =>
      rw [hsi, if_neg (by simp)] at hst
      repeat' (first | (refine CL.seq ?_) | (refine CL.region ?_) | (refine CL.skip ?_) | (refine CL.condF rfl ?_) | (refine Gt.nil ?_; refine RW.nilw [0, 2, 3, 4, 5, 6, 7, 8, 11, 14, 15, 16, 17, 22, 26, 34] ?_; dsimp only [H.keep, H.look, H.Fr.put, Nat.beq]) | (refine Gt.move ?_; refine RW.y (Y.move rfl) rfl ?_))
      refine RW.fn rfl rfl ((line n m x _ _ p q L wr hI hxm (by omega) hzr hm20 (hM.keep0 hKr)).mono ?_)
      rintro e w4 ⟨hk4, rfl, hok⟩
      have hkr4 : Kept (fun k => k = w1.heap.size ∨ w3.heap.size ≤ k) w3 w4 := hkr.trans hk4 fun k c => .inl (c.imp id fun c => (hI.row.lt k c).1)
      cases hlb : lineB n m x with
      | none =>
        rw [hlb] at hst
        have hbF := hkr4.at hb13 fun c => by omega
        have hKF : K0 w w4 := hK3.trans hkr4 fun k c => .inr (by omega)
        rw [hgo, hst]
        repeat' (first | (refine CL.seq ?_) | (refine CL.region ?_) | (refine CL.condT rfl ?_) | (refine Gt.nil ?_; refine RW.nilw [0, 2, 3, 4, 5, 6, 7, 8, 11, 14, 15, 16, 17, 22, 26, 34] ?_; dsimp only [H.keep, H.look, H.Fr.put, Nat.beq]) | (refine Gt.move ?_; refine RW.y (Y.move rfl) rfl ?_) | (refine Gt.add ?_; refine RW.y (Y.add64 rfl rfl (by omega) (by omega)) rfl ?_) | (refine Gt.not ?_; (refine RW.y (Y.notb rfl) rfl ?_)) | (refine RW.y (Y.build (ps := []) rfl rfl) rfl ?_))
        refine RW.storeBlock (u := (mfC zeroM (.slice none 0 0) (.slice none 0 0)).toArray) rfl rfl rfl zeroCells hbF rfl (fun wq hbq hkq => ?_)
        repeat' (first | (refine CL.ret ?_) | (refine Rt.then ?_) | (refine Rt.block ?_) | (refine Gt.nil ?_; refine RW.nilw [0, 2, 3, 4, 5, 6, 7, 8, 11, 14, 15, 16, 17, 22, 26, 34] ?_; dsimp only [H.keep, H.look, H.Fr.put, Nat.beq]) | (refine Gt.assign ?_; refine RW.y (Y.assign rfl) rfl ?_))
        exact FQ.res (rs := [.cell 2 28, .tmp 3, .tmp 4]) (vs := [_, _, _]) rfl rfl ⟨⟨_, rfl, load_block hbq rfl⟩, rfl, rfl, trivial⟩ rfl (⟨hKF.trans hkq fun k h => .inr (by rw [h]; exact Nat.le_refl _), _, rfl, zeroAt _⟩)
      | some m' =>
        rw [hlb] at hst
        obtain ⟨p', q', L', hI'⟩ := hok m' hlb
        repeat' (first | (refine CL.region ?_) | (refine CL.skip ?_) | (refine CL.condF rfl ?_) | (refine CL.done ?_) | (refine Nm.block ?_) | (refine Nm.then ?_) | (refine Gt.nil ?_; refine RW.nilw [0, 2, 3, 4, 5, 6, 7, 8, 11, 14, 15, 16, 17, 22, 26, 34] ?_; dsimp only [H.keep, H.look, H.Fr.put, Nat.beq]) | (refine Gt.assign ?_; refine RW.y (Y.assign rfl) rfl ?_) | (refine Gt.move ?_; refine RW.y (Y.move rfl) rfl ?_) | (refine Gt.add ?_; refine RW.y (Y.add64 rfl rfl (by omega) (by omega)) rfl ?_) | (refine Gt.not ?_; (refine RW.y (Y.notb rfl) rfl ?_)))
        exact ⟨X.length - (i + 1), _, rfl, rfl, rfl, by omega, i + 1, n + 1, m', p', q', L', rfl, rfl, by omega, by omega, lineB_num hm20 hlb, hI', by rw [hgo, hst], hkr4⟩
  · have hi : i = X.length := by omega
    subst hi
    rw [List.drop_length] at hgo
    rw [hgo, rdM]
    have hbI := hI.blk
    repeat' (first | (refine CL.seq ?_) | (refine CL.region ?_) | (refine CL.skip ?_) | (refine CL.condP rfl (fun _ => ?_) (fun _ => ?_) <;> try (exfalso; omega)) | (refine CL.exit ?_) | (refine Ex.then ?_) | (refine Ex.hit ?_) | (refine Gt.nil ?_; refine RW.nilw [0, 2, 3, 4, 5, 6, 7, 8, 11, 14, 15, 16, 17, 22, 26, 34] ?_; dsimp only [H.keep, H.look, H.Fr.put, Nat.beq]) | (refine Gt.move ?_; refine RW.y (Y.move rfl) rfl ?_) | (refine Gt.load ?_; (refine RW.y (Y.loadB rfl (by assumption) rfl) rfl ?_)) | (refine Gt.lss ?_; refine RW.y (Y.lss rfl rfl) rfl ?_) | (refine Gt.fieldAddr ?_; refine RW.y (Y.fieldAddr rfl (by rfl)) rfl ?_) | (refine RW.y (Y.build (ps := []) rfl rfl) rfl ?_))
    · rename_i hn2
      rw [if_pos (by omega)]
      have hbF := hbr
      have hKF := hKr
      refine RW.storeBlock (u := (mfC zeroM (.slice none 0 0) (.slice none 0 0)).toArray) rfl rfl rfl zeroCells hbF rfl (fun wq hbq hkq => ?_)
      repeat' (first | (refine CL.ret ?_) | (refine Gt.nil ?_; refine RW.nilw [0, 2, 3, 4, 5, 6, 7, 8, 11, 14, 15, 16, 17, 22, 26, 34] ?_; dsimp only [H.keep, H.look, H.Fr.put, Nat.beq]) | (refine Gt.assign ?_; refine RW.y (Y.assign rfl) rfl ?_))
      exact FQ.res (rs := [.cell 2 28, .tmp 3, .tmp 4]) (vs := [_, _, _]) rfl rfl ⟨⟨_, rfl, load_block hbq rfl⟩, rfl, rfl, trivial⟩ rfl (⟨hKF.trans hkq fun k h => .inr (by rw [h]; exact Nat.le_refl _), _, rfl, zeroAt _⟩)
    · rename_i hn2
      rw [if_neg (by omega)]
      have hLl : L.length ≤ 20 := by have := congrArg List.length hI.nd; rw [List.length_map] at this; omega
      refine RW.fn rfl rfl ((sortNeeds _ q L wr hI.row.1 (fun x hx => (hI.row.2 x hx).1.1.one) hLl).mono ?_)
      rintro e w4 ⟨rfl, how4, hk4⟩
      have hgB := hI.gB
      have hb4 := hk4.at hI.blk fun c => by have := (hI.row.lt _ c).1; omega
      have hbr4 := hk4.at hbr fun c => by have := (hI.row.lt _ c).1; omega
      repeat' (first | (refine CL.seq ?_) | (refine CL.region ?_) | (refine Gt.nil ?_; refine RW.nilw [0, 2, 3, 4, 5, 6, 7, 8, 11, 14, 15, 16, 17, 22, 26, 34] ?_; dsimp only [H.keep, H.look, H.Fr.put, Nat.beq]) | (refine RW.y (Y.loadBlock rfl hb4 rfl) rfl ?_))
      refine RW.storeBlock rfl rfl rfl (mfC_one hI.pre.one hI.row.ga.1.one) hbr4 rfl (fun w5 hb5 hk5 => ?_)
      repeat' (first | (refine CL.ret ?_) | (refine Gt.nil ?_; refine RW.nilw [0, 2, 3, 4, 5, 6, 7, 8, 11, 14, 15, 16, 17, 22, 26, 34] ?_; dsimp only [H.keep, H.look, H.Fr.put, Nat.beq]) | (refine Gt.assign ?_; refine RW.y (Y.assign rfl) rfl ?_))
      have hK4 : K0 w w4 := hKr.trans hk4 fun k c => .inr (by have := (hI.row.lt _ c).1; omega)
      have hkk : Kept (fun k => q.ownBlock = some k ∨ k = w.heap.size) wr w5 := (hk4.mono fun k c => .inl c).trans hk5 fun k c => .inl (.inr c)
      refine FQ.res (rs := [.cell 2 28, .tmp 3, .tmp 4]) (vs := [_, _, _]) rfl rfl ⟨⟨_, rfl, load_block hb5 rfl⟩, rfl, rfl, trivial⟩ rfl (⟨hK4.trans hk5 fun k h => .inr (by rw [h]; exact Nat.le_refl _), _, rfl, p, q, sortN nmN L, rfl, ?_, ?_, ?_⟩)
      · refine hI.pre.keep hkk fun j hj c => ?_
        rcases c with c | c
        · exact hI.sep j hj c
        · have := hI.preB j hj; omega
      · have hG : GI ndK w4 w3.heap.size ndT q (sortN nmN L) := by
          refine ⟨by rw [sortN_len]; exact how4, fun x hx => ?_⟩
          have h2 := hI.row.2 x ((sortN_mem nmN L x).1 hx)
          exact ⟨ndK.keep _ _ _ x h2.1 hk4 fun g _ hg => h2.2 g hg, h2.2⟩
        refine (hG.keep hk5 fun j _ hj c => ?_).ga
        have c' : j = w.heap.size := c
        rcases hj with hj | ⟨y, hy, hj⟩
        · have := (hG.lt j hj).1; omega
        · have := hI.rowB y ((sortN_mem nmN L y).1 hy) j hj; omega
      · rw [show (sortM m).needs = sortN nmD m.needs from rfl, ← hI.nd]
        exact sortN_map nmD (·.d) L
end Go.Proofs.YtjlkmdmpejpmpaaGreatDoor.Ma

namespace Go.Proofs.YtjlkmdmpejpmpaaGreatDoor.Ma
open Go.RowKit H S Ve Sp Od
attribute [local irreducible] H.CL H.RW H.CW H.Yd H.thenK H.blockQ Go.Calls

/-- A manifest whose row of needs is the call's own. -/
def MfNew (B : Nat) (w : World) (V : Value) (m : Mf) : Prop := ∃ (p q : Value) (L : List Np), V = .agg (mfC m p q).toArray ∧ Sl w 1 p m.v.pre.length (sv m.v.pre) ∧ GI ndK w B ndT q L ∧ L.map (·.d) = m.needs
theorem MfNew.at {B : Nat} {w : World} {V : Value} {m : Mf} (h : MfNew B w V m) : MfAt w V m := by
  obtain ⟨p, q, L, h1, h2, h3, h4⟩ := h
  exact ⟨p, q, L, h1, h2, h3.ga, h4⟩
theorem keepN_map (nm : T) (L : List Np) : (keepN nm L).map (·.d) = (L.map (·.d)).filter fun d => decide (d.name ≠ nm) := by
  rw [List.filter_map]
  congr 1
  refine List.filter_congr fun x _ => ?_
  show (!decide (x.d.name = nm)) = decide (x.d.name ≠ nm)
  by_cases h : x.d.name = nm <;> simp [h]
theorem mfCells (m : Mf) {p q : Value} (h1 : p.oneCell' = true) (h2 : q.oneCell' = true) : ∀ z ∈ (mfC m p q).toArray.toList, z.oneCell' = true := by
  intro z hz
  exact mfC_one h1 h2 z (by simpa using hz)
theorem removeL (m : Mf) (p q : Value) (L : List Np) (nm : T) (w : World) (hp : Sl w 1 p m.v.pre.length (sv m.v.pre)) (hq : GA ndK w q L) (hL : L.map (·.d) = m.needs) (hl : m.needs.length ≤ 1000) : Calls Tryz.prog 21 #[.agg (mfC m p q).toArray, vs nm] w fun e w' => K0 w w' ∧ ∃ u, e = .returned (.tuple #[.agg (mfC (remB m nm) p u).toArray, .bool (hasN m.needs nm)]) ∧ GI ndK w' w.heap.size ndT u (keepN nm L) := by
  have hLl : L.length = m.needs.length := by have := congrArg List.length hL; rw [List.length_map] at this; exact this
  refine H.enter Tryz.func21 Tryz.ntmps21 rfl rfl ?_; dsimp only [H.args]
  refine CL.seq ?_
  refine CL.region ?_
  refine RW.box rfl rfl (fun w1 hb1 hk1 hlt1 => ?_)
  refine RW.box rfl rfl (fun w2 hb2 hk2 hlt2 => ?_)
  refine RW.alloc rfl (fun w3 hb3 hk3 hlt3 => ?_)
  have hb1' : w3.heap[w.heap.size]? = some (.cells (mfC m p q).toArray mfT (0, 0)) := hk3.at0 (hk2.at0 hb1)
  have hb2' : w3.heap[w1.heap.size]? = some (.cells #[vs nm] strT (0, 0)) := hk3.at0 hb2
  clear hb1 hb2
  have hK3 := (hk1.trans0 hk2).trans0 hk3
  have hz1 := hk1.size
  have hz2 := hk2.size
  have hz3 := hk3.size
  repeat' (first | (refine CL.seq ?_) | (refine CL.region ?_) | (refine CL.skip ?_) | (refine CL.condP rfl (fun _ => ?_) (fun _ => ?_) <;> try (exfalso; omega)) | (refine CL.condT rfl ?_) | (refine CL.condF rfl ?_) | (refine CL.cond rfl (fun _ => ?_) (fun _ => ?_)) | (refine CL.block ?_) | (refine CL.exit ?_) | (refine Ex.then ?_) | (refine Ex.hit ?_) | (refine Ex.miss rfl ?_) | (refine CL.ret ?_) | (refine Rt.then ?_) | (refine Rt.block ?_) | (refine Pn.then ?_) | (refine Pn.block ?_) | (refine CL.done ?_) | (refine Nm.block ?_) | (refine Nm.then ?_) | (refine Gt.nil ?_; refine RW.nilw [0, 1, 2, 3, 4, 5, 6] ?_; dsimp only [H.keep, H.look, H.Fr.put, Nat.beq]) | (refine Gt.load ?_; first | (refine RW.y (Y.loadB rfl (by assumption) rfl) rfl ?_) | (refine RW.y (Y.loadBlock rfl (by assumption) rfl) rfl ?_)) | (refine Gt.assign ?_; refine RW.y (Y.assign rfl) rfl ?_) | (refine Gt.fieldAddr ?_; refine RW.y (Y.fieldAddr rfl (by rfl)) rfl ?_) | (refine Gt.makeFunc ?_; refine RW.y (Y.makeFunc rfl rfl) rfl ?_) | (refine Gt.move ?_; refine RW.y (Y.move rfl) rfl ?_))
  refine RW.fn rfl rfl ((has q L nm w3 (hq.keep0 hK3) (by omega)).mono ?_)
  rintro e w4 ⟨hk4, rfl⟩
  have hK4 := hK3.trans0 hk4
  have hb14 := hk4.at0 hb1'
  have hb24 := hk4.at0 hb2'
  have hb34 := hk4.at0 hb3
  have hq4 := hq.keep0 hK4
  have hz4 := hk4.size
  repeat' (first | (refine CL.seq ?_) | (refine CL.region ?_) | (refine CL.skip ?_) | (refine CL.condP rfl (fun _ => ?_) (fun _ => ?_) <;> try (exfalso; omega)) | (refine CL.condT rfl ?_) | (refine CL.condF rfl ?_) | (refine CL.cond rfl (fun _ => ?_) (fun _ => ?_)) | (refine CL.block ?_) | (refine CL.exit ?_) | (refine Ex.then ?_) | (refine Ex.hit ?_) | (refine Ex.miss rfl ?_) | (refine CL.ret ?_) | (refine Rt.then ?_) | (refine Rt.block ?_) | (refine Pn.then ?_) | (refine Pn.block ?_) | (refine CL.done ?_) | (refine Nm.block ?_) | (refine Nm.then ?_) | (refine Gt.nil ?_; refine RW.nilw [0, 1, 2, 3, 4, 5, 6] ?_; dsimp only [H.keep, H.look, H.Fr.put, Nat.beq]) | (refine Gt.load ?_; first | (refine RW.y (Y.loadB rfl (by assumption) rfl) rfl ?_) | (refine RW.y (Y.loadBlock rfl (by assumption) rfl) rfl ?_)) | (refine Gt.assign ?_; refine RW.y (Y.assign rfl) rfl ?_) | (refine Gt.fieldAddr ?_; refine RW.y (Y.fieldAddr rfl (by rfl)) rfl ?_) | (refine Gt.makeFunc ?_; refine RW.y (Y.makeFunc rfl rfl) rfl ?_) | (refine Gt.move ?_; refine RW.y (Y.move rfl) rfl ?_))
  refine RW.fn rfl rfl ((cloneN q L.length _ w4 hq4.1 hq4.ones (by omega)).mono ?_)
  rintro e w5 ⟨hk5, u, rfl, how⟩
  have hg := GI.clone hq4 hk5 how
  have hz5 := hk5.size
  repeat' (first | (refine CL.seq ?_) | (refine CL.region ?_) | (refine CL.skip ?_) | (refine CL.condP rfl (fun _ => ?_) (fun _ => ?_) <;> try (exfalso; omega)) | (refine CL.condT rfl ?_) | (refine CL.condF rfl ?_) | (refine CL.cond rfl (fun _ => ?_) (fun _ => ?_)) | (refine CL.block ?_) | (refine CL.exit ?_) | (refine Ex.then ?_) | (refine Ex.hit ?_) | (refine Ex.miss rfl ?_) | (refine CL.ret ?_) | (refine Rt.then ?_) | (refine Rt.block ?_) | (refine Pn.then ?_) | (refine Pn.block ?_) | (refine CL.done ?_) | (refine Nm.block ?_) | (refine Nm.then ?_) | (refine Gt.nil ?_; refine RW.nilw [0, 1, 2, 3, 4, 5, 6] ?_; dsimp only [H.keep, H.look, H.Fr.put, Nat.beq]) | (refine RW.y (Y.makeFunc (xs := []) (ys := [_]) rfl rfl) rfl ?_) | (refine Gt.load ?_; first | (refine RW.y (Y.loadB rfl (by assumption) rfl) rfl ?_) | (refine RW.y (Y.loadBlock rfl (by assumption) rfl) rfl ?_)) | (refine Gt.assign ?_; refine RW.y (Y.assign rfl) rfl ?_) | (refine Gt.fieldAddr ?_; refine RW.y (Y.fieldAddr rfl (by rfl)) rfl ?_) | (refine Gt.makeFunc ?_; refine RW.y (Y.makeFunc rfl rfl) rfl ?_) | (refine Gt.move ?_; refine RW.y (Y.move rfl) rfl ?_))
  refine RW.fn rfl rfl ((deleteN _ u L nm w1.heap.size w5 hg (hk5.at0 hb24) (fun c => by have := (hg.lt _ c).1; omega) (by omega)).mono ?_)
  rintro e w6 ⟨hk6, u', rfl, hg'⟩
  have hK56 : K0 w4 w6 := hk5.trans hk6 fun k c => .inr (hg.lt k c).1
  have hb16 := hK56.at0 hb14
  have hb36 := hK56.at0 hb34
  have hz6 := hK56.size
  repeat' (first | (refine CL.seq ?_) | (refine CL.region ?_) | (refine CL.skip ?_) | (refine CL.condP rfl (fun _ => ?_) (fun _ => ?_) <;> try (exfalso; omega)) | (refine CL.condT rfl ?_) | (refine CL.condF rfl ?_) | (refine CL.cond rfl (fun _ => ?_) (fun _ => ?_)) | (refine CL.block ?_) | (refine CL.exit ?_) | (refine Ex.then ?_) | (refine Ex.hit ?_) | (refine Ex.miss rfl ?_) | (refine CL.ret ?_) | (refine Rt.then ?_) | (refine Rt.block ?_) | (refine Pn.then ?_) | (refine Pn.block ?_) | (refine CL.done ?_) | (refine Nm.block ?_) | (refine Nm.then ?_) | (refine Gt.nil ?_; refine RW.nilw [0, 1, 2, 3, 4, 5, 6] ?_; dsimp only [H.keep, H.look, H.Fr.put, Nat.beq]) | (refine Gt.load ?_; first | (refine RW.y (Y.loadB rfl (by assumption) rfl) rfl ?_) | (refine RW.y (Y.loadBlock rfl (by assumption) rfl) rfl ?_)) | (refine Gt.assign ?_; refine RW.y (Y.assign rfl) rfl ?_) | (refine Gt.fieldAddr ?_; refine RW.y (Y.fieldAddr rfl (by rfl)) rfl ?_) | (refine Gt.makeFunc ?_; refine RW.y (Y.makeFunc rfl rfl) rfl ?_) | (refine Gt.move ?_; refine RW.y (Y.move rfl) rfl ?_))
  refine RW.storeB rfl rfl hg'.ga.1.one hb16 (by show 5 < 6; omega) (fun w7 hb7 hk7 => ?_)
  have hb7' : w7.heap[w.heap.size]? = some (.cells (mfC (remB m nm) p u').toArray mfT (0, 0)) := hb7
  have hb37 := hk7.at hb36 (fun c => by have c' : w2.heap.size = w.heap.size := c; omega)
  repeat' (first | (refine CL.seq ?_) | (refine CL.region ?_) | (refine CL.skip ?_) | (refine CL.condP rfl (fun _ => ?_) (fun _ => ?_) <;> try (exfalso; omega)) | (refine CL.condT rfl ?_) | (refine CL.condF rfl ?_) | (refine CL.cond rfl (fun _ => ?_) (fun _ => ?_)) | (refine CL.block ?_) | (refine CL.exit ?_) | (refine Ex.then ?_) | (refine Ex.hit ?_) | (refine Ex.miss rfl ?_) | (refine CL.ret ?_) | (refine Rt.then ?_) | (refine Rt.block ?_) | (refine Pn.then ?_) | (refine Pn.block ?_) | (refine CL.done ?_) | (refine Nm.block ?_) | (refine Nm.then ?_) | (refine Gt.nil ?_; refine RW.nilw [0, 1, 2, 3, 4, 5, 6] ?_; dsimp only [H.keep, H.look, H.Fr.put, Nat.beq]) | (refine RW.y (Y.loadBlock rfl hb7' rfl) rfl ?_) | (refine Gt.load ?_; first | (refine RW.y (Y.loadB rfl (by assumption) rfl) rfl ?_) | (refine RW.y (Y.loadBlock rfl (by assumption) rfl) rfl ?_)) | (refine Gt.assign ?_; refine RW.y (Y.assign rfl) rfl ?_) | (refine Gt.fieldAddr ?_; refine RW.y (Y.fieldAddr rfl (by rfl)) rfl ?_) | (refine Gt.makeFunc ?_; refine RW.y (Y.makeFunc rfl rfl) rfl ?_) | (refine Gt.move ?_; refine RW.y (Y.move rfl) rfl ?_))
  refine RW.storeBlock rfl rfl rfl (mfCells _ hp.one hg'.ga.1.one) hb37 rfl (fun w8 hb8 hk8 => ?_)
  repeat' (first | (refine CL.seq ?_) | (refine CL.region ?_) | (refine CL.skip ?_) | (refine CL.condP rfl (fun _ => ?_) (fun _ => ?_) <;> try (exfalso; omega)) | (refine CL.condT rfl ?_) | (refine CL.condF rfl ?_) | (refine CL.cond rfl (fun _ => ?_) (fun _ => ?_)) | (refine CL.block ?_) | (refine CL.exit ?_) | (refine Ex.then ?_) | (refine Ex.hit ?_) | (refine Ex.miss rfl ?_) | (refine CL.ret ?_) | (refine Rt.then ?_) | (refine Rt.block ?_) | (refine Pn.then ?_) | (refine Pn.block ?_) | (refine CL.done ?_) | (refine Nm.block ?_) | (refine Nm.then ?_) | (refine Gt.nil ?_; refine RW.nilw [0, 1, 2, 3, 4, 5, 6] ?_; dsimp only [H.keep, H.look, H.Fr.put, Nat.beq]) | (refine Gt.load ?_; first | (refine RW.y (Y.loadB rfl (by assumption) rfl) rfl ?_) | (refine RW.y (Y.loadBlock rfl (by assumption) rfl) rfl ?_)) | (refine Gt.assign ?_; refine RW.y (Y.assign rfl) rfl ?_) | (refine Gt.fieldAddr ?_; refine RW.y (Y.fieldAddr rfl (by rfl)) rfl ?_) | (refine Gt.makeFunc ?_; refine RW.y (Y.makeFunc rfl rfl) rfl ?_) | (refine Gt.move ?_; refine RW.y (Y.move rfl) rfl ?_))
  have hKl : Kept (fun k => k = w.heap.size ∨ k = w2.heap.size) w6 w8 := (hk7.mono fun k c => .inl c).trans hk8 fun k c => .inl (.inr c)
  have hK8 : K0 w w8 := (hK4.trans0 hK56).trans hKl fun k c => .inr (by omega)
  refine FQ.res (rs := [.cell 4 28, .tmp 5]) (vs := [_, _]) rfl rfl ⟨⟨_, rfl, load_block hb8 rfl⟩, rfl, trivial⟩ rfl (⟨hK8, u', by rw [hL], ?_⟩)
  have h8 : GI ndK w8 w4.heap.size ndT u' (keepN nm L) := by
    refine hg'.keep hKl fun j _ hj c => ?_
    rcases hj with hj | ⟨y, hy, hj⟩
    · have := (hg'.lt j hj).1; omega
    · have hlt := (hq.2 y (List.mem_filter.1 hy).1).2 j hj
      omega
  exact ⟨⟨h8.1.1, h8.1.2.imp id fun ⟨g, cap, cur, h1, h2, h⟩ => ⟨g, cap, cur, h1, by omega, h⟩⟩, h8.2⟩
theorem remove (V : Value) (m : Mf) (nm : T) (w : World) (hV : MfAt w V m) (hl : m.needs.length ≤ 1000) : Calls Tryz.prog 21 #[V, vs nm] w fun e w' => K0 w w' ∧ ∃ V', e = .returned (.tuple #[V', .bool (hasN m.needs nm)]) ∧ MfNew w.heap.size w' V' (remB m nm) := by
  obtain ⟨p, q, L, rfl, hp, hq, hL⟩ := hV
  refine (removeL m p q L nm w hp hq hL hl).mono ?_
  rintro e w' ⟨hk, u, rfl, hu⟩
  exact ⟨hk, _, rfl, p, u, keepN nm L, rfl, hp.keep0 hk, hu, by rw [keepN_map, hL]; rfl⟩
end Go.Proofs.YtjlkmdmpejpmpaaGreatDoor.Ma

namespace Go.Proofs.YtjlkmdmpejpmpaaGreatDoor.Ma
open Go.RowKit H S Ve Sp Od
attribute [local irreducible] H.CL H.RW H.CW H.Yd H.thenK H.blockQ Go.Calls

theorem snoc_no {s : T} {i : Nat} (hi : i < s.length) (h : (32 : UInt8) ∉ s.take i) (hc : ¬ s.getD i 0 = 32) : (32 : UInt8) ∉ s.take (i + 1) := by
  rw [take_snoc 0 s i hi, List.mem_append, List.mem_singleton]
  rintro (c | c)
  · exact h c
  · exact hc c.symm
theorem refNeed (s : T) (hl : s.length ≤ 1000000) (w : World) : Calls Tryz.prog 32 #[vs s] w fun e w' => K0 w w' ∧ ∃ V y, e = .returned (.tuple #[V, .bool (needB s).isSome]) ∧ NdNew w.heap.size w' V (needB s) y := by
  refine H.enter Tryz.func32 Tryz.ntmps32 rfl rfl ?_; dsimp only [H.args]
  refine CL.seq ?_
  refine CL.region ?_
  refine RW.alloc rfl (fun w1 hb1 hk1 hlt1 => ?_)
  have hz1 := hk1.size
  repeat' (first | (refine CL.seq ?_) | (refine CL.region ?_) | (refine CL.block ?_) | (refine Gt.nil ?_; refine RW.nilw [0, 2, 3, 4, 5, 6, 10, 16] ?_; dsimp only [H.keep, H.look, H.Fr.put, Nat.beq]) | (refine Gt.assign ?_; refine RW.y (Y.assign rfl) rfl ?_))
  refine CL.loopS [0, 2, 3, 4] (fun k vals wr => ∃ i : Nat, vals = [vs s, .pointer (some ⟨w.heap.size, 0, none⟩), .bool false, .int .i64 (i : Int)] ∧ k = s.length - i ∧ i ≤ s.length ∧ (32 : UInt8) ∉ s.take i ∧ wr = w1) s.length ⟨_, rfl, 0, rfl, rfl, Nat.zero_le _, by simp, rfl⟩ ?_
  rintro k vals w2 ⟨i, rfl, rfl, hi, hno, rfl⟩
  dsimp only [List.zip, List.zipWith]
  have hti : ((i : Int)).toNat = i := Int.toNat_natCast i
  rcases Nat.lt_or_ge i s.length with hlt | hge
  · repeat' (first | (refine CL.seq ?_) | (refine CL.region ?_) | (refine CL.skip ?_) | (refine CL.condP rfl (fun _ => ?_) (fun _ => ?_) <;> try (exfalso; omega)) | (refine CL.block ?_) | (refine CL.done ?_) | (refine Nm.block ?_) | (refine Nm.then ?_) | (refine Gt.nil ?_; refine RW.nilw [0, 2, 3, 4, 5, 6, 10, 16] ?_; dsimp only [H.keep, H.look, H.Fr.put, Nat.beq]) | (refine Gt.move ?_; refine RW.y (Y.move rfl) rfl ?_) | (refine Gt.assign ?_; refine RW.y (Y.assign rfl) rfl ?_) | (refine Gt.add ?_; refine RW.y (Y.add64 rfl rfl (by omega) (by omega)) rfl ?_) | (refine Gt.eql ?_; refine RW.y (Y.eqi rfl rfl) rfl ?_) | (refine Gt.slice ?_; (refine RW.y (Y.cutl rfl rfl (by omega) (by omega)) rfl ?_)) | (refine Gt.len ?_; refine RW.y (Y.lens rfl) rfl ?_) | (refine Gt.lss ?_; refine RW.y (Y.lss rfl rfl) rfl ?_) | (refine Gt.index ?_; refine RW.y (Y.idxs rfl rfl (by omega) (by omega)) rfl ?_))
    · rename_i h32
      have hc : s.getD i 0 = 32 := (u8_eq _ 32).2 h32
      have hcut := cut_some 32 s i hlt hno hc
      have htn : ((i : Int) + 1).toNat = i + 1 := by omega
      rw [htn]
      have htx : (s.drop (i + 1)).length ≤ 1000000 := by rw [List.length_drop]; omega
      have hnl : needB s = if Lk.nameB (s.take i) = true then (spanB (s.drop (i + 1))).map fun x => ⟨s.take i, x, s.drop (i + 1)⟩ else none := by
        rw [needB, hcut]; simp
      refine RW.fn rfl rfl ((refSpanOf (s.drop (i + 1)) htx w2).mono ?_)
      rintro e w3 ⟨hk3, V, rfl, q, rfl, ho⟩
      have hb3 := hk3.at0 hb1
      repeat' (first | (refine Gt.move ?_; refine RW.y (Y.move rfl) rfl ?_) | (refine Gt.extract ?_; refine RW.y (Y.extract rfl rfl) rfl ?_))
      refine RW.varN rfl (by rfl) rfl (spnCells (OrNew.on ho).one) rfl (fun w4 hb4' hk4 hlt4 => ?_)
      have hb4 := hk4.at0 hb3
      have hK4 := (hk1.trans0 hk3).trans0 hk4
      have hz4 := hk4.size
      have hz3 := hk3.size
      repeat' (first | (refine CL.seq ?_) | (refine Gt.nil ?_; refine RW.nilw [0, 2, 3, 4, 5, 6, 10, 16] ?_; dsimp only [H.keep, H.look, H.Fr.put, Nat.beq]) | (refine Gt.assign ?_; refine RW.y (Y.assign rfl) rfl ?_))
      refine CL.draw (fun w' => Kept (fun k => k = w.heap.size) w4 w') (by kernel_rfl) (fun w5 hheap hk5 => ?_)
      have hS : Kept (fun k => k = w.heap.size) w4 w5 := hk5.of0
      skip
      skip
      have hne : ¬ w3.heap.size = w.heap.size := by omega
      obtain ⟨b, hb⟩ : ∃ b : Bool, decide ((spanR (spanB (s.drop (i + 1)))).2 = 0) = b := ⟨_, rfl⟩
      cases b with
      | false =>
        have hsp : spanB (s.drop (i + 1)) = none := by
          cases hq : spanB (s.drop (i + 1)) with
          | none => rfl
          | some x => rw [hq] at hb; cases hb
        have hnone : needB s = none := by rw [hnl, hsp]; simp
        have hsome : (needB s).isSome = false := by rw [hnone]; rfl
        refine AW.take 0 rfl (by kernel_rfl) (by kernel_rfl) (by kernel_rfl) rfl (by assumption) (fun w hS => Y.move rfl) ?_
        refine AW.take 1 rfl (by kernel_rfl) (by kernel_rfl) (by kernel_rfl) rfl (by assumption) (fun w hS => Y.move rfl) ?_
        refine AW.take 2 rfl (by kernel_rfl) (by kernel_rfl) (by kernel_rfl) rfl (by assumption) (fun w hS => Y.cuth rfl rfl (by omega) (by omega)) ?_
        refine AW.take 3 rfl (by kernel_rfl) (by kernel_rfl) (by kernel_rfl) rfl (by assumption) (fun w hS => Y.loadBlock rfl (hS.at hb4' hne) rfl) ?_
        refine AW.take 4 rfl (by kernel_rfl) (by kernel_rfl) (by kernel_rfl) rfl (by assumption) (fun w hS => Y.move rfl) ?_
        refine AW.take 5 rfl (by kernel_rfl) (by kernel_rfl) (by kernel_rfl) rfl (by assumption) (fun w hS => Y.move rfl) ?_
        refine AW.take 6 rfl (by kernel_rfl) (by kernel_rfl) (by kernel_rfl) rfl (by assumption) (fun w hS => by exact Y.add64 rfl rfl (by omega) (by omega)) ?_
        refine AW.take 7 rfl (by kernel_rfl) (by kernel_rfl) (by kernel_rfl) rfl (by assumption) (fun w hS => Y.cutl rfl rfl (by omega) (by omega)) ?_
        refine AW.take 8 rfl (by kernel_rfl) (by kernel_rfl) (by kernel_rfl) rfl (by assumption) (fun w hS => Y.build (ps := [(0, _), (1, _), (2, _)]) (l := [_, _, _]) (c := #[vs (s.take i), .bool (spanR (spanB (s.drop (i + 1)))).1.any, q, vs (s.drop (i + 1))]) rfl rfl) ?_
        refine AW.take 9 rfl (by kernel_rfl) (by kernel_rfl) (by kernel_rfl) rfl (by assumption) (fun w hS => Y.move rfl) ?_
        refine AW.take 10 rfl (by kernel_rfl) (by kernel_rfl) (by kernel_rfl) rfl (by assumption) (fun w hS => Y.eqiE rfl rfl hb) ?_
        refine AW.take 11 rfl (by kernel_rfl) (by kernel_rfl) (by kernel_rfl) rfl (by assumption) (fun w hS => Y.move rfl) ?_
        refine AW.takeOff 12 rfl (by kernel_rfl) (by kernel_rfl) (by kernel_rfl) rfl rfl rfl rfl rfl (by assumption) ?_
        refine AW.takeOff 13 rfl (by kernel_rfl) (by kernel_rfl) (by kernel_rfl) rfl rfl rfl rfl rfl (by assumption) ?_
        refine AW.takeOff 14 rfl (by kernel_rfl) (by kernel_rfl) (by kernel_rfl) rfl rfl rfl rfl rfl (by assumption) ?_
        refine AW.takeOff 15 rfl (by kernel_rfl) (by kernel_rfl) (by kernel_rfl) rfl rfl rfl rfl rfl (by assumption) ?_
        refine AW.take 16 rfl (by kernel_rfl) (by kernel_rfl) (by kernel_rfl) rfl (by assumption) (fun w hS => by exact Y.pickF rfl rfl) ?_
        skip
        refine AW.next 17 rfl (by kernel_rfl) ?_
        have hb5o := hk5.at0 hb4
        refine RW.storeBlock (u := #[vs (s.take i), .bool (spanR (spanB (s.drop (i + 1)))).1.any, q, vs (s.drop (i + 1))]) rfl rfl rfl (needCells rfl rfl (OrNew.on ho).one rfl) hb5o rfl (fun w6 hb6 hk6 => ?_)
        have hS := hS.trans hk6 fun k h => .inl h
        refine RW.nil (Nm.then ⟨hS, ?_⟩)
        refine AW.take 18 rfl (by kernel_rfl) (by kernel_rfl) (by kernel_rfl) rfl (by assumption) (fun w hS => Y.assign rfl) ?_
        refine AW.donew [2, 3] (by kernel_rfl) ?_
        dsimp only [H.keep, H.look, H.Fr.put, Nat.beq]
        repeat' (first | (refine CL.ret ?_) | (refine Rt.then ?_) | (refine Rt.block ?_))
        have hK6 : K0 w w6 := hK4.trans hS fun k h => .inr (by have h' : k = w.heap.size := h; omega)
        have hK36 : Kept (fun k => k = w.heap.size) w3 w6 := (Kept.of0 hk4).trans hS fun k h => .inl h
        refine FQ.res (rs := [.cell 2 47, .tmp 3]) (vs := [_, _]) rfl rfl ⟨⟨_, rfl, load_block hb6 rfl⟩, rfl, trivial⟩ rfl (⟨hK6, .agg #[vs (s.take i), .bool (spanR (spanB (s.drop (i + 1)))).1.any, q, vs (s.drop (i + 1))], ⟨⟨s.take i, (spanR (spanB (s.drop (i + 1)))).1, s.drop (i + 1)⟩, q, fun g => w2.heap.size ≤ g ∧ g < w3.heap.size⟩, by rw [hsome], rfl, ⟨(OrNew.on ho).keep hK36 (fun g _ hA c => by have c' : g = w.heap.size := c; omega), fun g hg => Nat.lt_of_lt_of_le hg.2 hK36.size⟩, (fun g hg => by have := hg.1; omega), ?_⟩)
        intro d hd
        rw [hnone] at hd; cases hd
      | true =>
        skip
        refine AW.take 0 rfl (by kernel_rfl) (by kernel_rfl) (by kernel_rfl) rfl (by assumption) (fun w hS => Y.move rfl) ?_
        refine AW.take 1 rfl (by kernel_rfl) (by kernel_rfl) (by kernel_rfl) rfl (by assumption) (fun w hS => Y.move rfl) ?_
        refine AW.take 2 rfl (by kernel_rfl) (by kernel_rfl) (by kernel_rfl) rfl (by assumption) (fun w hS => Y.cuth rfl rfl (by omega) (by omega)) ?_
        refine AW.take 3 rfl (by kernel_rfl) (by kernel_rfl) (by kernel_rfl) rfl (by assumption) (fun w hS => Y.loadBlock rfl (hS.at hb4' hne) rfl) ?_
        refine AW.take 4 rfl (by kernel_rfl) (by kernel_rfl) (by kernel_rfl) rfl (by assumption) (fun w hS => Y.move rfl) ?_
        refine AW.take 5 rfl (by kernel_rfl) (by kernel_rfl) (by kernel_rfl) rfl (by assumption) (fun w hS => Y.move rfl) ?_
        refine AW.take 6 rfl (by kernel_rfl) (by kernel_rfl) (by kernel_rfl) rfl (by assumption) (fun w hS => by exact Y.add64 rfl rfl (by omega) (by omega)) ?_
        refine AW.take 7 rfl (by kernel_rfl) (by kernel_rfl) (by kernel_rfl) rfl (by assumption) (fun w hS => Y.cutl rfl rfl (by omega) (by omega)) ?_
        refine AW.take 8 rfl (by kernel_rfl) (by kernel_rfl) (by kernel_rfl) rfl (by assumption) (fun w hS => Y.build (ps := [(0, _), (1, _), (2, _)]) (l := [_, _, _]) (c := #[vs (s.take i), .bool (spanR (spanB (s.drop (i + 1)))).1.any, q, vs (s.drop (i + 1))]) rfl rfl) ?_
        refine AW.take 9 rfl (by kernel_rfl) (by kernel_rfl) (by kernel_rfl) rfl (by assumption) (fun w hS => Y.move rfl) ?_
        refine AW.take 10 rfl (by kernel_rfl) (by kernel_rfl) (by kernel_rfl) rfl (by assumption) (fun w hS => Y.eqiE rfl rfl hb) ?_
        refine AW.take 11 rfl (by kernel_rfl) (by kernel_rfl) (by kernel_rfl) rfl (by assumption) (fun w hS => Y.move rfl) ?_
        refine AW.takeOn 12 rfl (by kernel_rfl) (by kernel_rfl) (by kernel_rfl) rfl rfl rfl rfl (by assumption) (fun w hS => Y.move rfl) ?_
        refine AW.takeOn 13 rfl (by kernel_rfl) (by kernel_rfl) (by kernel_rfl) rfl rfl rfl rfl (by assumption) (fun w hS => Y.move rfl) ?_
        refine AW.takeOn 14 rfl (by kernel_rfl) (by kernel_rfl) (by kernel_rfl) rfl rfl rfl rfl (by assumption) (fun w hS => Y.cuth rfl rfl (by omega) (by omega)) ?_
        refine AW.next 15 rfl (by kernel_rfl) ?_
        refine RW.on rfl rfl rfl ?_
        refine RW.fn rfl rfl ((Lk.refName (s.take i) (by rw [List.length_take]; omega) w5).mono ?_)
        rintro e w' ⟨rfl, rfl⟩
        refine RW.nil (Nm.then ⟨hS, ?_⟩)
        have hsome : (needB s).isSome = Lk.nameB (s.take i) := by
          rw [hnl]
          cases hq : spanB (s.drop (i + 1)) with
          | none => rw [hq] at hb; cases hb
          | some x => cases Lk.nameB (s.take i) <;> rfl
        refine AW.take 16 rfl (by kernel_rfl) (by kernel_rfl) (by kernel_rfl) rfl (by assumption) (fun w hS => by exact Y.pickT rfl rfl) ?_
        refine AW.next 17 rfl (by kernel_rfl) ?_
        have hb5o := hk5.at0 hb4
        refine RW.storeBlock (u := #[vs (s.take i), .bool (spanR (spanB (s.drop (i + 1)))).1.any, q, vs (s.drop (i + 1))]) rfl rfl rfl (needCells rfl rfl (OrNew.on ho).one rfl) hb5o rfl (fun w6 hb6 hk6 => ?_)
        have hS := hS.trans hk6 fun k h => .inl h
        refine RW.nil (Nm.then ⟨hS, ?_⟩)
        refine AW.take 18 rfl (by kernel_rfl) (by kernel_rfl) (by kernel_rfl) rfl (by assumption) (fun w hS => Y.assign rfl) ?_
        refine AW.donew [2, 3] (by kernel_rfl) ?_
        dsimp only [H.keep, H.look, H.Fr.put, Nat.beq]
        repeat' (first | (refine CL.ret ?_) | (refine Rt.then ?_) | (refine Rt.block ?_))
        have hK6 : K0 w w6 := hK4.trans hS fun k h => .inr (by have h' : k = w.heap.size := h; omega)
        have hK36 : Kept (fun k => k = w.heap.size) w3 w6 := (Kept.of0 hk4).trans hS fun k h => .inl h
        refine FQ.res (rs := [.cell 2 47, .tmp 3]) (vs := [_, _]) rfl rfl ⟨⟨_, rfl, load_block hb6 rfl⟩, rfl, trivial⟩ rfl (⟨hK6, .agg #[vs (s.take i), .bool (spanR (spanB (s.drop (i + 1)))).1.any, q, vs (s.drop (i + 1))], ⟨⟨s.take i, (spanR (spanB (s.drop (i + 1)))).1, s.drop (i + 1)⟩, q, fun g => w2.heap.size ≤ g ∧ g < w3.heap.size⟩, by rw [hsome], rfl, ⟨(OrNew.on ho).keep hK36 (fun g _ hA c => by have c' : g = w.heap.size := c; omega), fun g hg => Nat.lt_of_lt_of_le hg.2 hK36.size⟩, (fun g hg => by have := hg.1; omega), ?_⟩)
        intro d hd
        rw [hnl] at hd
        split at hd
        · cases hq : spanB (s.drop (i + 1)) with
          | none => rw [hq] at hd; cases hd
          | some x => rw [hq] at hd; cases hd; rfl
        · cases hd
    · exact ⟨s.length - (i + 1), _, rfl, rfl, rfl, by omega, i + 1, rfl, rfl, by omega, snoc_no hlt hno (fun c => by rename_i h; exact h ((u8_eq _ 32).1 c)), rfl⟩
  · have hi : i = s.length := by omega
    subst hi
    rw [List.take_length] at hno
    have hnoL : needB s = none := by rw [needB, cut_none 32 s hno]; simp
    have hbF := hb1
    have hKF := hk1
    repeat' (first | (refine CL.seq ?_) | (refine CL.region ?_) | (refine CL.condP rfl (fun _ => ?_) (fun _ => ?_) <;> try (exfalso; omega)) | (refine CL.exit ?_) | (refine Ex.then ?_) | (refine Ex.hit ?_) | (refine Gt.nil ?_; refine RW.nilw [0, 2, 3, 4, 5, 6, 10, 16] ?_; dsimp only [H.keep, H.look, H.Fr.put, Nat.beq]) | (refine Gt.move ?_; refine RW.y (Y.move rfl) rfl ?_) | (refine Gt.len ?_; refine RW.y (Y.lens rfl) rfl ?_) | (refine Gt.lss ?_; refine RW.y (Y.lss rfl rfl) rfl ?_) | (refine RW.y (Y.build (ps := []) rfl rfl) rfl ?_))
    refine RW.storeBlock rfl rfl rfl (needCells rfl rfl rfl rfl) hbF rfl (fun wq hbq hkq => ?_)
    repeat' (first | (refine CL.ret ?_) | (refine Gt.nil ?_; refine RW.nilw [0, 2, 3, 4, 5, 6, 10, 16] ?_; dsimp only [H.keep, H.look, H.Fr.put, Nat.beq]) | (refine Gt.assign ?_; refine RW.y (Y.assign rfl) rfl ?_))
    exact FQ.res (rs := [.cell 2 47, .tmp 3]) (vs := [_, _]) rfl rfl ⟨⟨_, rfl, load_block hbq rfl⟩, rfl, trivial⟩ rfl (⟨hKF.trans hkq fun k h => .inr (by rw [h]; exact Nat.le_refl _), _, zeroN, by rw [hnoL]; rfl, rfl, zeroN_D _, fun g hg => hg.elim, fun d hd => by rw [hnoL] at hd; cases hd⟩)
end Go.Proofs.YtjlkmdmpejpmpaaGreatDoor.Ma

namespace Go.Proofs.YtjlkmdmpejpmpaaGreatDoor.Ma
open Go.RowKit H S Ve Sp Od
attribute [local irreducible] H.CL H.RW H.CW H.Yd H.thenK H.blockQ Go.Calls

/-- What stands before a place in a list in order; what stands there. -/
theorem put_place {L : List Np} {i : Nat} {nm : T} (hs : SrtN nmN L) (h1 : ∀ q ∈ L.take i, ltT (nmN q) nm = true) (h2 : i = L.length ∨ (i < L.length ∧ ltT (nmN (L.getD i default)) nm = false)) : hasN (L.map (·.d)) nm = (decide (i < L.length) && decide (nmN (L.getD i default) = nm)) := by
  rw [hasN, List.any_map]
  have hx : ∀ q ∈ L.take i, nmN q ≠ nm := fun q hq c => by have := h1 q hq; rw [c, ltT_irr] at this; cases this
  rcases h2 with h2 | ⟨h2, h3⟩
  · subst h2
    rw [decide_eq_false (Nat.lt_irrefl _), Bool.false_and, List.any_eq_false]
    intro q hq c
    rw [List.take_length] at hx
    exact hx q hq (by simpa [nmN] using c)
  · rw [decide_eq_true h2, Bool.true_and]
    have hsp : L = L.take i ++ L.getD i default :: L.drop (i + 1) := by
      rw [show L.getD i default :: L.drop (i + 1) = L.drop i from by simp [List.getD_eq_getElem?_getD, h2], List.take_append_drop]
    generalize L.getD i default = z at *
    by_cases hz : nmN z = nm
    · rw [decide_eq_true hz, List.any_eq_true]
      exact ⟨z, by rw [hsp]; simp, by simpa [nmN] using hz⟩
    · rw [decide_eq_false hz, List.any_eq_false]
      intro q hq c
      have c : nmN q = nm := by simpa [nmN] using c
      rw [hsp] at hq hs
      rcases List.mem_append.1 hq with hq | hq
      · exact hx q hq c
      · rcases List.mem_cons.1 hq with hq | hq
        · exact hz (by rw [← hq]; exact c)
        · have h4 := (List.pairwise_cons.1 (List.pairwise_append.1 hs).2.1).1 q hq
          rw [c] at h4
          exact hz (ltT_tri _ _ h3 h4)
theorem put_ins {L : List Np} {i : Nat} {y : Np} (h1 : ∀ q ∈ L.take i, ltT (nmN q) (nmN y) = true) (h2 : i = L.length ∨ (i < L.length ∧ ltT (nmN (L.getD i default)) (nmN y) = false ∧ nmN (L.getD i default) ≠ nmN y)) : insN nmN y L = L.take i ++ y :: L.drop i := by
  have h := insN_at nmN y (L.drop i) (fun q r e => ?_) (L.take i) (fun q hq => ltT_asym (h1 q hq))
  · rwa [List.take_append_drop] at h
  · rcases h2 with h2 | ⟨h2, h3, h4⟩
    · rw [h2, List.drop_length] at e; cases e
    · rw [show L.drop i = L.getD i default :: L.drop (i + 1) from by simp [List.getD_eq_getElem?_getD, h2]] at e
      cases e
      cases hc : ltT (nmN y) (nmN (L.getD i default)) with
      | true => rfl
      | false => exact absurd (ltT_tri _ _ h3 hc) h4
/-- The row that has been put: its own, or new. -/
structure PutR (w : World) (q : Value) (L : List Np) (y : Np) (u : Value) (w' : World) : Prop where
  row : GA ndK w' u (if hasN (L.map (·.d)) (nmN y) = true then L else insN nmN y L)
  at_ : u = q ∨ ∀ g, live u = some g → w.heap.size ≤ g

theorem refPut (q : Value) (L : List Np) (y : Np) (w : World) (hq : GA ndK w q L) (hy : ndK.D w y) (hl : L.length ≤ 1000) (hs : SrtN nmN L) : Calls Tryz.prog 33 #[q, .agg (npC y).toArray] w fun e w' => K0 w w' ∧ ∃ u, e = .returned (.tuple #[u, .bool (!hasN (L.map (·.d)) (nmN y))]) ∧ PutR w q L y u w' := by
  refine H.enter Tryz.func33 Tryz.ntmps33 rfl rfl ?_; dsimp only [H.args]
  refine CL.seq ?_
  refine CL.region ?_
  refine RW.box rfl rfl (fun w1 hb1 hk1 hlt1 => ?_)
  have hb1' : w1.heap[w.heap.size]? = some (.cells (npC y).toArray ndT (0, 0)) := hb1
  clear hb1
  obtain ⟨p, cap, rfl, hcap⟩ := hq.shape
  repeat' (first | (refine CL.seq ?_) | (refine CL.region ?_) | (refine Gt.nil ?_; refine RW.nilw [0, 1, 3, 4, 5, 6, 20, 36] ?_; dsimp only [H.keep, H.look, H.Fr.put, Nat.beq]) | (refine Gt.assign ?_; refine RW.y (Y.assign rfl) rfl ?_))
  refine CL.cutS [0, 3, 6] (fun vals wr => ∃ i : Nat, vals = [.slice p L.length cap, .pointer (some ⟨w.heap.size, 0, none⟩), .int .i64 (i : Int)] ∧ i ≤ L.length ∧ (∀ z ∈ L.take i, ltT (nmN z) (nmN y) = true) ∧ (i = L.length ∨ (i < L.length ∧ ltT (nmN (L.getD i default)) (nmN y) = false)) ∧ K0 w1 wr) (by simp) ?_ ?_
  · refine CL.block ?_
    refine CL.loopS [0, 3, 6] (fun k vals wr => ∃ i : Nat, vals = [.slice p L.length cap, .pointer (some ⟨w.heap.size, 0, none⟩), .int .i64 (i : Int)] ∧ k = L.length - i ∧ i ≤ L.length ∧ (∀ z ∈ L.take i, ltT (nmN z) (nmN y) = true) ∧ K0 w1 wr) L.length ⟨_, rfl, 0, rfl, rfl, Nat.zero_le _, by simp, Kept.refl _ _⟩ ?_
    rintro k vals wr ⟨i, rfl, rfl, hi, hup, hkr⟩
    dsimp only [List.zip, List.zipWith]
    have hti : ((i : Int)).toNat = i := Int.toNat_natCast i
    have hqr := hq.keep0 (hk1.trans0 hkr)
    have hbr := hkr.at0 hb1'
    repeat' ((refine CL.seq ?_))
    refine CL.draw (fun w' => K0 wr w') (by kernel_rfl) (fun w2 hheap2 hk2 => ?_)
    have hS : K0 wr w2 := hk2
    skip
    skip
    obtain ⟨b0, hb0⟩ : ∃ b : Bool, decide ((i : Int) < (L.length : Int)) = b := ⟨_, rfl⟩
    cases b0 with
    | false =>
      have hge : ¬ ((i : Int) < (L.length : Int)) := of_decide_eq_false hb0
      refine AW.take 0 rfl (by kernel_rfl) (by kernel_rfl) (by kernel_rfl) rfl (by assumption) (fun w hS => Y.move rfl) ?_
      refine AW.take 1 rfl (by kernel_rfl) (by kernel_rfl) (by kernel_rfl) rfl (by assumption) (fun w hS => Y.move rfl) ?_
      refine AW.take 2 rfl (by kernel_rfl) (by kernel_rfl) (by kernel_rfl) rfl (by assumption) (fun w hS => Y.lenx rfl (hqr.1.keep0 hS)) ?_
      refine AW.take 3 rfl (by kernel_rfl) (by kernel_rfl) (by kernel_rfl) rfl (by assumption) (fun w hS => Y.lssE rfl rfl hb0) ?_
      refine AW.take 4 rfl (by kernel_rfl) (by kernel_rfl) (by kernel_rfl) rfl (by assumption) (fun w hS => Y.move rfl) ?_
      refine AW.takeOff 5 rfl (by kernel_rfl) (by kernel_rfl) (by kernel_rfl) rfl rfl rfl rfl rfl (by assumption) ?_
      refine AW.takeOff 6 rfl (by kernel_rfl) (by kernel_rfl) (by kernel_rfl) rfl rfl rfl rfl rfl (by assumption) ?_
      refine AW.takeOff 7 rfl (by kernel_rfl) (by kernel_rfl) (by kernel_rfl) rfl rfl rfl rfl rfl (by assumption) ?_
      refine AW.takeOff 8 rfl (by kernel_rfl) (by kernel_rfl) (by kernel_rfl) rfl rfl rfl rfl rfl (by assumption) ?_
      refine AW.takeOff 9 rfl (by kernel_rfl) (by kernel_rfl) (by kernel_rfl) rfl rfl rfl rfl rfl (by assumption) ?_
      refine AW.takeOff 10 rfl (by kernel_rfl) (by kernel_rfl) (by kernel_rfl) rfl rfl rfl rfl rfl (by assumption) ?_
      refine AW.takeOff 11 rfl (by kernel_rfl) (by kernel_rfl) (by kernel_rfl) rfl rfl rfl rfl rfl (by assumption) ?_
      refine AW.takeOff 12 rfl (by kernel_rfl) (by kernel_rfl) (by kernel_rfl) rfl rfl rfl rfl rfl (by assumption) ?_
      refine AW.take 13 rfl (by kernel_rfl) (by kernel_rfl) (by kernel_rfl) rfl (by assumption) (fun w hS => by exact Y.pickF rfl rfl) ?_
      refine AW.donew [0, 3, 6, 20] (by kernel_rfl) ?_
      dsimp only [H.keep, H.look, H.Fr.put, Nat.beq]
      repeat' (first | (refine CL.condF rfl ?_) | (refine CL.exit ?_) | (refine Ex.then ?_) | (refine Ex.hit ?_) | (refine CL.done ?_) | (refine Nm.then ?_))
      exact ⟨_, rfl, rfl, rfl, i, rfl, hi, hup, .inl (by omega), hkr.trans0 hk2⟩
    | true =>
      have hlt : ((i : Int) < (L.length : Int)) := of_decide_eq_true hb0
      obtain ⟨g1, o1, hsp1, hcl1⟩ := elSpot hqr.1 ndK.len (i := (i : Int)) (by omega) (by omega)
      obtain ⟨bb, hbb⟩ : ∃ bb : Bool, Op.bytesLess (nmN (L.getD ((i : Int)).toNat default)) (nmN y) = bb := ⟨_, rfl⟩
      skip
      refine AW.take 0 rfl (by kernel_rfl) (by kernel_rfl) (by kernel_rfl) rfl (by assumption) (fun w hS => Y.move rfl) ?_
      refine AW.take 1 rfl (by kernel_rfl) (by kernel_rfl) (by kernel_rfl) rfl (by assumption) (fun w hS => Y.move rfl) ?_
      refine AW.take 2 rfl (by kernel_rfl) (by kernel_rfl) (by kernel_rfl) rfl (by assumption) (fun w hS => Y.lenx rfl (hqr.1.keep0 hS)) ?_
      refine AW.take 3 rfl (by kernel_rfl) (by kernel_rfl) (by kernel_rfl) rfl (by assumption) (fun w hS => Y.lssE rfl rfl hb0) ?_
      refine AW.take 4 rfl (by kernel_rfl) (by kernel_rfl) (by kernel_rfl) rfl (by assumption) (fun w hS => Y.move rfl) ?_
      refine AW.takeOn 5 rfl (by kernel_rfl) (by kernel_rfl) (by kernel_rfl) rfl rfl rfl rfl (by assumption) (fun w hS => Y.move rfl) ?_
      refine AW.takeOn 6 rfl (by kernel_rfl) (by kernel_rfl) (by kernel_rfl) rfl rfl rfl rfl (by assumption) (fun w hS => Y.move rfl) ?_
      refine AW.takeOn 7 rfl (by kernel_rfl) (by kernel_rfl) (by kernel_rfl) rfl rfl rfl rfl (by assumption) (fun w hS => Y.idx rfl rfl (hqr.1.keep0 hS) (by omega) (by omega)) ?_
      refine AW.takeOn 8 rfl (by kernel_rfl) (by kernel_rfl) (by kernel_rfl) rfl rfl rfl rfl (by assumption) (fun w hS => Y.fieldAddr (congrArg (fun a => some (Value.pointer (some a))) hsp1) (by rfl)) ?_
      refine AW.takeOn 9 rfl (by kernel_rfl) (by kernel_rfl) (by kernel_rfl) rfl rfl rfl rfl (by assumption) (fun w hS => Y.load1A rfl (hcl1 _ hS 0 _ rfl)) ?_
      refine AW.takeOn 10 rfl (by kernel_rfl) (by kernel_rfl) (by kernel_rfl) rfl rfl rfl rfl (by assumption) (fun w hS => Y.fieldAddr rfl (by rfl)) ?_
      refine AW.takeOn 11 rfl (by kernel_rfl) (by kernel_rfl) (by kernel_rfl) rfl rfl rfl rfl (by assumption) (fun w hS => Y.loadB rfl (hS.at0 hbr) rfl) ?_
      refine AW.takeOn 12 rfl (by kernel_rfl) (by kernel_rfl) (by kernel_rfl) rfl rfl rfl rfl (by assumption) (fun w hS => Y.ltsE rfl rfl hbb) ?_
      refine AW.take 13 rfl (by kernel_rfl) (by kernel_rfl) (by kernel_rfl) rfl (by assumption) (fun w hS => by exact Y.pickT rfl rfl) ?_
      refine AW.donew [0, 3, 6, 20] (by kernel_rfl) ?_
      dsimp only [H.keep, H.look, H.Fr.put, Nat.beq]
      rw [hti] at hbb
      cases bb
      · repeat' (first | (refine CL.condF rfl ?_) | (refine CL.exit ?_) | (refine Ex.then ?_) | (refine Ex.hit ?_) | (refine CL.done ?_) | (refine Nm.then ?_))
        exact ⟨_, rfl, rfl, rfl, i, rfl, hi, hup, .inr ⟨by omega, hbb⟩, hkr.trans0 hk2⟩
      · repeat' (first | (refine CL.region ?_) | (refine CL.skip ?_) | (refine CL.condT rfl ?_) | (refine CL.block ?_) | (refine CL.done ?_) | (refine Nm.block ?_) | (refine Nm.then ?_) | (refine Gt.nil ?_; refine RW.nilw [0, 1, 3, 4, 5, 6, 20, 36] ?_; dsimp only [H.keep, H.look, H.Fr.put, Nat.beq]) | (refine Gt.move ?_; refine RW.y (Y.move rfl) rfl ?_) | (refine Gt.assign ?_; refine RW.y (Y.assign rfl) rfl ?_) | (refine Gt.add ?_; refine RW.y (Y.add64 rfl rfl (by omega) (by omega)) rfl ?_))
        refine ⟨L.length - (i + 1), _, rfl, rfl, rfl, by omega, i + 1, rfl, rfl, by omega, fun z hz => ?_, hkr.trans0 hk2⟩
        rw [take_snoc default L i (by omega)] at hz
        rcases List.mem_append.1 hz with hz | hz
        · exact hup z hz
        · rw [List.mem_singleton.1 hz]; exact hbb
  · rintro vals wr ⟨i, rfl, hi, hup, hst, hkr⟩
    dsimp only [List.zip, List.zipWith]
    have hti : ((i : Int)).toNat = i := Int.toNat_natCast i
    have hKr := hk1.trans0 hkr
    have hqr := hq.keep0 hKr
    have hyr := ndK.keep0 hy hKr
    have hbr := hkr.at0 hb1'
    have hhas := put_place hs hup hst
    repeat' ((refine CL.seq ?_))
    refine CL.draw (fun w' => K0 wr w') (by kernel_rfl) (fun w2 hheap2 hk2 => ?_)
    have hS : K0 wr w2 := hk2
    skip
    skip
    obtain ⟨b0, hb0⟩ : ∃ b : Bool, decide ((i : Int) < (L.length : Int)) = b := ⟨_, rfl⟩
    cases b0 with
    | false =>
      have hge : ¬ ((i : Int) < (L.length : Int)) := of_decide_eq_false hb0
      have hno : hasN (L.map (·.d)) (nmN y) = false := by rw [hhas, decide_eq_false (by omega)]; rfl
      have hins := put_ins hup (.inl (by omega))
      refine AW.take 0 rfl (by kernel_rfl) (by kernel_rfl) (by kernel_rfl) rfl (by assumption) (fun w hS => Y.move rfl) ?_
      refine AW.take 1 rfl (by kernel_rfl) (by kernel_rfl) (by kernel_rfl) rfl (by assumption) (fun w hS => Y.move rfl) ?_
      refine AW.take 2 rfl (by kernel_rfl) (by kernel_rfl) (by kernel_rfl) rfl (by assumption) (fun w hS => Y.lenx rfl (hqr.1.keep0 hS)) ?_
      refine AW.take 3 rfl (by kernel_rfl) (by kernel_rfl) (by kernel_rfl) rfl (by assumption) (fun w hS => Y.lssE rfl rfl hb0) ?_
      refine AW.take 4 rfl (by kernel_rfl) (by kernel_rfl) (by kernel_rfl) rfl (by assumption) (fun w hS => Y.move rfl) ?_
      refine AW.takeOff 5 rfl (by kernel_rfl) (by kernel_rfl) (by kernel_rfl) rfl rfl rfl rfl rfl (by assumption) ?_
      refine AW.takeOff 6 rfl (by kernel_rfl) (by kernel_rfl) (by kernel_rfl) rfl rfl rfl rfl rfl (by assumption) ?_
      refine AW.takeOff 7 rfl (by kernel_rfl) (by kernel_rfl) (by kernel_rfl) rfl rfl rfl rfl rfl (by assumption) ?_
      refine AW.takeOff 8 rfl (by kernel_rfl) (by kernel_rfl) (by kernel_rfl) rfl rfl rfl rfl rfl (by assumption) ?_
      refine AW.takeOff 9 rfl (by kernel_rfl) (by kernel_rfl) (by kernel_rfl) rfl rfl rfl rfl rfl (by assumption) ?_
      refine AW.takeOff 10 rfl (by kernel_rfl) (by kernel_rfl) (by kernel_rfl) rfl rfl rfl rfl rfl (by assumption) ?_
      refine AW.takeOff 11 rfl (by kernel_rfl) (by kernel_rfl) (by kernel_rfl) rfl rfl rfl rfl rfl (by assumption) ?_
      refine AW.takeOff 12 rfl (by kernel_rfl) (by kernel_rfl) (by kernel_rfl) rfl rfl rfl rfl rfl (by assumption) ?_
      refine AW.take 13 rfl (by kernel_rfl) (by kernel_rfl) (by kernel_rfl) rfl (by assumption) (fun w hS => by exact Y.pickF rfl rfl) ?_
      refine AW.donew [0, 3, 4, 5, 6, 36] (by kernel_rfl) ?_
      dsimp only [H.keep, H.look, H.Fr.put, Nat.beq]
      have hKr := hKr.trans0 hk2
      have hqr := hqr.keep0 hk2
      have hyr := ndK.keep0 hyr hk2
      have hbr := hk2.at0 hbr
      clear hS hk2 hkr
      generalize w2 = wr at *
      repeat' (first | (refine CL.seq ?_) | (refine CL.skip ?_) | (refine CL.condF rfl ?_))
      refine CL.draw (fun w' => K0 wr w') (by kernel_rfl) (fun w2 hheap2 hk2 => ?_)
      have hS : K0 wr w2 := hk2
      skip
      refine AW.take 0 rfl (by kernel_rfl) (by kernel_rfl) (by kernel_rfl) rfl (by assumption) (fun w hS => Y.move rfl) ?_
      refine AW.take 1 rfl (by kernel_rfl) (by kernel_rfl) (by kernel_rfl) rfl (by assumption) (fun w hS => Y.move rfl) ?_
      refine AW.take 2 rfl (by kernel_rfl) (by kernel_rfl) (by kernel_rfl) rfl (by assumption) (fun w hS => Y.move rfl) ?_
      refine AW.take 3 rfl (by kernel_rfl) (by kernel_rfl) (by kernel_rfl) rfl (by assumption) (fun w hS => Y.upto rfl rfl rfl (by omega) (by omega)) ?_
      refine AW.take 4 rfl (by kernel_rfl) (by kernel_rfl) (by kernel_rfl) rfl (by assumption) (fun w hS => Y.loadBlock rfl (hS.at0 hbr) rfl) ?_
      refine AW.take 6 rfl (by kernel_rfl) (by kernel_rfl) (by kernel_rfl) rfl (by assumption) (fun w hS => Y.move rfl) ?_
      refine AW.take 7 rfl (by kernel_rfl) (by kernel_rfl) (by kernel_rfl) rfl (by assumption) (fun w hS => Y.move rfl) ?_
      refine AW.take 8 rfl (by kernel_rfl) (by kernel_rfl) (by kernel_rfl) rfl (by assumption) (fun w hS => Y.from rfl rfl (by omega) (by omega) (by omega)) ?_
      refine AW.next 5 rfl (by kernel_rfl) ?_
      have hz2 := hk2.size
      refine RW.build1 rfl rfl rfl rfl (fun w3 hb3 hk3 hlt3 => ?_)
      have hown3 : w3.ownsRow w2.heap.size ndT 4 (.slice (some ⟨w2.heap.size, 0, none⟩) 1 1) 1 (npC y) := own_new hb3 (Nat.le_refl _) rfl (by decide)
      have hS := hk2.trans0 hk3
      refine RW.nil (Nm.then ⟨hS, ?_⟩)
      skip
      refine AW.next 9 rfl (by kernel_rfl) ?_
      have hgf := (hqr.keep0 (hk2.trans0 hk3)).from rfl (a := i) (by omega) (by omega)
      have hgu := (hqr.keep0 hk2).upto rfl (a := i) (by omega) (by omega)
      have hz3 := hk3.size
      rw [← hti] at hgf hgu
      refine RW.app (sz := 4) rfl rfl rfl rfl rfl hown3 hgf.1 hgf.ones (by rw [List.length_drop]; omega) (by rw [List.length_drop]; omega) (by omega) (fun u4 w4 how4 hk4 hl4 => ?_)
      have hK34 : K0 w2 w4 := (hk3.trans hk4 fun k h => .inr (by simp [Value.ownBlock] at h; omega))
      have hS := hk2.trans0 hK34
      refine RW.nil (Nm.then ⟨hS, ?_⟩)
      skip
      refine AW.next 10 rfl (by kernel_rfl) ?_
      have hz4 := hK34.size
      have hgu4 := hgu.1.keep0 hK34
      refine RW.appA (sz := 4) rfl rfl rfl rfl rfl (.inr ⟨hgu4, ⟨_, by rw [List.length_take]; congr 1 <;> omega⟩, rfl⟩) (by omega) (Sl.of_own how4) (fun z hz => ?_) (by simp only [List.length_take, List.length_drop]; omega) (by simp only [List.length_take, List.length_drop]; omega) (Nat.zero_le _) (fun u5 w5 how5 hk5 hl5 => ?_)
      · rcases List.mem_append.1 hz with hz | hz
        · exact ndK.ones wr y hyr z hz
        · obtain ⟨y', hy', hz⟩ := List.mem_flatMap.1 hz
          exact ndK.ones wr y' (hqr.2 y' (List.mem_of_mem_drop hy')) z hz
      · have hK25 : K0 w2 w5 := hK34.trans0 (hk5.mono fun k h => by cases h)
        have hS := hk2.trans0 hK25
        refine RW.nil (Nm.then ⟨hS, ?_⟩)
        refine AW.take 11 rfl (by kernel_rfl) (by kernel_rfl) (by kernel_rfl) rfl (by assumption) (fun w hS => Y.assign rfl) ?_
        refine AW.take 12 rfl (by kernel_rfl) (by kernel_rfl) (by kernel_rfl) rfl (by assumption) (fun w hS => Y.assign rfl) ?_
        refine AW.donew [4, 5] (by kernel_rfl) ?_
        dsimp only [H.keep, H.look, H.Fr.put, Nat.beq]
        repeat' ((refine CL.ret ?_))
        have hf : (L.take ((i : Int)).toNat ++ y :: L.drop ((i : Int)).toNat).length = L.length + 1 := by rw [List.length_append, List.length_cons, List.length_take, List.length_drop]; omega
        refine FQ.two rfl rfl rfl rfl ⟨hKr.trans0 hS, _, by rw [hno]; rfl, ?_, .inr fun g hg => ?_⟩
        · rw [hno, if_neg (by simp), hins, ← hti]
          refine ⟨?_, fun z hz => ?_⟩
          · rw [List.flatMap_append, List.flatMap_cons, hf]
            have h5 := Sl.of_own how5
            rw [show (L.take ((i : Int)).toNat).length + (1 + (L.drop ((i : Int)).toNat).length) = L.length + 1 from by rw [List.length_take, List.length_drop]; omega] at h5
            exact h5
          · rcases List.mem_append.1 hz with h | h
            · exact ndK.keep0 (hqr.2 z (List.mem_of_mem_take h)) hS
            · rcases List.mem_cons.1 h with h | h
              · rw [h]; exact ndK.keep0 hyr hS
              · exact ndK.keep0 (hqr.2 z (List.mem_of_mem_drop h)) hS
        · have := hl5 g (live_own hg)
          simp at this
          have := hKr.size
          omega
    | true =>
      have hlt : ((i : Int) < (L.length : Int)) := of_decide_eq_true hb0
      have hlt' : i < L.length := by omega
      obtain ⟨g1, o1, hsp1, hcl1⟩ := elSpot hqr.1 ndK.len (i := (i : Int)) (by omega) (by omega)
      obtain ⟨bb, hbb⟩ : ∃ bb : Bool, decide (nmN (L.getD ((i : Int)).toNat default) = nmN y) = bb := ⟨_, rfl⟩
      skip
      refine AW.take 0 rfl (by kernel_rfl) (by kernel_rfl) (by kernel_rfl) rfl (by assumption) (fun w hS => Y.move rfl) ?_
      refine AW.take 1 rfl (by kernel_rfl) (by kernel_rfl) (by kernel_rfl) rfl (by assumption) (fun w hS => Y.move rfl) ?_
      refine AW.take 2 rfl (by kernel_rfl) (by kernel_rfl) (by kernel_rfl) rfl (by assumption) (fun w hS => Y.lenx rfl (hqr.1.keep0 hS)) ?_
      refine AW.take 3 rfl (by kernel_rfl) (by kernel_rfl) (by kernel_rfl) rfl (by assumption) (fun w hS => Y.lssE rfl rfl hb0) ?_
      refine AW.take 4 rfl (by kernel_rfl) (by kernel_rfl) (by kernel_rfl) rfl (by assumption) (fun w hS => Y.move rfl) ?_
      refine AW.takeOn 5 rfl (by kernel_rfl) (by kernel_rfl) (by kernel_rfl) rfl rfl rfl rfl (by assumption) (fun w hS => Y.move rfl) ?_
      refine AW.takeOn 6 rfl (by kernel_rfl) (by kernel_rfl) (by kernel_rfl) rfl rfl rfl rfl (by assumption) (fun w hS => Y.move rfl) ?_
      refine AW.takeOn 7 rfl (by kernel_rfl) (by kernel_rfl) (by kernel_rfl) rfl rfl rfl rfl (by assumption) (fun w hS => Y.idx rfl rfl (hqr.1.keep0 hS) (by omega) (by omega)) ?_
      refine AW.takeOn 8 rfl (by kernel_rfl) (by kernel_rfl) (by kernel_rfl) rfl rfl rfl rfl (by assumption) (fun w hS => Y.fieldAddr (congrArg (fun a => some (Value.pointer (some a))) hsp1) (by rfl)) ?_
      refine AW.takeOn 9 rfl (by kernel_rfl) (by kernel_rfl) (by kernel_rfl) rfl rfl rfl rfl (by assumption) (fun w hS => Y.load1A rfl (hcl1 _ hS 0 _ rfl)) ?_
      refine AW.takeOn 10 rfl (by kernel_rfl) (by kernel_rfl) (by kernel_rfl) rfl rfl rfl rfl (by assumption) (fun w hS => Y.fieldAddr rfl (by rfl)) ?_
      refine AW.takeOn 11 rfl (by kernel_rfl) (by kernel_rfl) (by kernel_rfl) rfl rfl rfl rfl (by assumption) (fun w hS => Y.loadB rfl (hS.at0 hbr) rfl) ?_
      refine AW.takeOn 12 rfl (by kernel_rfl) (by kernel_rfl) (by kernel_rfl) rfl rfl rfl rfl (by assumption) (fun w hS => Y.eqsE rfl rfl hbb) ?_
      refine AW.take 13 rfl (by kernel_rfl) (by kernel_rfl) (by kernel_rfl) rfl (by assumption) (fun w hS => by exact Y.pickT rfl rfl) ?_
      refine AW.donew [0, 3, 4, 5, 6, 36] (by kernel_rfl) ?_
      dsimp only [H.keep, H.look, H.Fr.put, Nat.beq]
      rw [hti] at hbb
      rw [decide_eq_true hlt', Bool.true_and] at hhas
      have hKr := hKr.trans0 hk2
      have hqr := hqr.keep0 hk2
      have hyr := ndK.keep0 hyr hk2
      have hbr := hk2.at0 hbr
      cases bb
      · have hno : hasN (L.map (·.d)) (nmN y) = false := by rw [hhas, hbb]
        have hins := put_ins hup (.inr ⟨hlt', (hst.resolve_left (by omega)).2, of_decide_eq_false hbb⟩)
        clear hS hk2 hkr
        generalize w2 = wr at *
        repeat' (first | (refine CL.seq ?_) | (refine CL.skip ?_) | (refine CL.condF rfl ?_))
        refine CL.draw (fun w' => K0 wr w') (by kernel_rfl) (fun w2 hheap2 hk2 => ?_)
        have hS : K0 wr w2 := hk2
        skip
        refine AW.take 0 rfl (by kernel_rfl) (by kernel_rfl) (by kernel_rfl) rfl (by assumption) (fun w hS => Y.move rfl) ?_
        refine AW.take 1 rfl (by kernel_rfl) (by kernel_rfl) (by kernel_rfl) rfl (by assumption) (fun w hS => Y.move rfl) ?_
        refine AW.take 2 rfl (by kernel_rfl) (by kernel_rfl) (by kernel_rfl) rfl (by assumption) (fun w hS => Y.move rfl) ?_
        refine AW.take 3 rfl (by kernel_rfl) (by kernel_rfl) (by kernel_rfl) rfl (by assumption) (fun w hS => Y.upto rfl rfl rfl (by omega) (by omega)) ?_
        refine AW.take 4 rfl (by kernel_rfl) (by kernel_rfl) (by kernel_rfl) rfl (by assumption) (fun w hS => Y.loadBlock rfl (hS.at0 hbr) rfl) ?_
        refine AW.take 6 rfl (by kernel_rfl) (by kernel_rfl) (by kernel_rfl) rfl (by assumption) (fun w hS => Y.move rfl) ?_
        refine AW.take 7 rfl (by kernel_rfl) (by kernel_rfl) (by kernel_rfl) rfl (by assumption) (fun w hS => Y.move rfl) ?_
        refine AW.take 8 rfl (by kernel_rfl) (by kernel_rfl) (by kernel_rfl) rfl (by assumption) (fun w hS => Y.from rfl rfl (by omega) (by omega) (by omega)) ?_
        refine AW.next 5 rfl (by kernel_rfl) ?_
        have hz2 := hk2.size
        refine RW.build1 rfl rfl rfl rfl (fun w3 hb3 hk3 hlt3 => ?_)
        have hown3 : w3.ownsRow w2.heap.size ndT 4 (.slice (some ⟨w2.heap.size, 0, none⟩) 1 1) 1 (npC y) := own_new hb3 (Nat.le_refl _) rfl (by decide)
        have hS := hk2.trans0 hk3
        refine RW.nil (Nm.then ⟨hS, ?_⟩)
        skip
        refine AW.next 9 rfl (by kernel_rfl) ?_
        have hgf := (hqr.keep0 (hk2.trans0 hk3)).from rfl (a := i) (by omega) (by omega)
        have hgu := (hqr.keep0 hk2).upto rfl (a := i) (by omega) (by omega)
        have hz3 := hk3.size
        rw [← hti] at hgf hgu
        refine RW.app (sz := 4) rfl rfl rfl rfl rfl hown3 hgf.1 hgf.ones (by rw [List.length_drop]; omega) (by rw [List.length_drop]; omega) (by omega) (fun u4 w4 how4 hk4 hl4 => ?_)
        have hK34 : K0 w2 w4 := (hk3.trans hk4 fun k h => .inr (by simp [Value.ownBlock] at h; omega))
        have hS := hk2.trans0 hK34
        refine RW.nil (Nm.then ⟨hS, ?_⟩)
        skip
        refine AW.next 10 rfl (by kernel_rfl) ?_
        have hz4 := hK34.size
        have hgu4 := hgu.1.keep0 hK34
        refine RW.appA (sz := 4) rfl rfl rfl rfl rfl (.inr ⟨hgu4, ⟨_, by rw [List.length_take]; congr 1 <;> omega⟩, rfl⟩) (by omega) (Sl.of_own how4) (fun z hz => ?_) (by simp only [List.length_take, List.length_drop]; omega) (by simp only [List.length_take, List.length_drop]; omega) (Nat.zero_le _) (fun u5 w5 how5 hk5 hl5 => ?_)
        · rcases List.mem_append.1 hz with hz | hz
          · exact ndK.ones wr y hyr z hz
          · obtain ⟨y', hy', hz⟩ := List.mem_flatMap.1 hz
            exact ndK.ones wr y' (hqr.2 y' (List.mem_of_mem_drop hy')) z hz
        · have hK25 : K0 w2 w5 := hK34.trans0 (hk5.mono fun k h => by cases h)
          have hS := hk2.trans0 hK25
          refine RW.nil (Nm.then ⟨hS, ?_⟩)
          refine AW.take 11 rfl (by kernel_rfl) (by kernel_rfl) (by kernel_rfl) rfl (by assumption) (fun w hS => Y.assign rfl) ?_
          refine AW.take 12 rfl (by kernel_rfl) (by kernel_rfl) (by kernel_rfl) rfl (by assumption) (fun w hS => Y.assign rfl) ?_
          refine AW.donew [4, 5] (by kernel_rfl) ?_
          dsimp only [H.keep, H.look, H.Fr.put, Nat.beq]
          repeat' ((refine CL.ret ?_))
          have hf : (L.take ((i : Int)).toNat ++ y :: L.drop ((i : Int)).toNat).length = L.length + 1 := by rw [List.length_append, List.length_cons, List.length_take, List.length_drop]; omega
          refine FQ.two rfl rfl rfl rfl ⟨hKr.trans0 hS, _, by rw [hno]; rfl, ?_, .inr fun g hg => ?_⟩
          · rw [hno, if_neg (by simp), hins, ← hti]
            refine ⟨?_, fun z hz => ?_⟩
            · rw [List.flatMap_append, List.flatMap_cons, hf]
              have h5 := Sl.of_own how5
              rw [show (L.take ((i : Int)).toNat).length + (1 + (L.drop ((i : Int)).toNat).length) = L.length + 1 from by rw [List.length_take, List.length_drop]; omega] at h5
              exact h5
            · rcases List.mem_append.1 hz with h | h
              · exact ndK.keep0 (hqr.2 z (List.mem_of_mem_take h)) hS
              · rcases List.mem_cons.1 h with h | h
                · rw [h]; exact ndK.keep0 hyr hS
                · exact ndK.keep0 (hqr.2 z (List.mem_of_mem_drop h)) hS
          · have := hl5 g (live_own hg)
            simp at this
            have := hKr.size
            omega
      · have hyes : hasN (L.map (·.d)) (nmN y) = true := by rw [hhas, hbb]
        repeat' (first | (refine CL.seq ?_) | (refine CL.region ?_) | (refine CL.condT rfl ?_) | (refine CL.ret ?_) | (refine Gt.nil ?_; refine RW.nilw [0, 1, 3, 4, 5, 6, 20, 36] ?_; dsimp only [H.keep, H.look, H.Fr.put, Nat.beq]) | (refine Gt.move ?_; refine RW.y (Y.move rfl) rfl ?_) | (refine Gt.assign ?_; refine RW.y (Y.assign rfl) rfl ?_))
        exact FQ.two rfl rfl rfl rfl ⟨hKr, _, by rw [hyes]; rfl, by rw [hyes, if_pos rfl]; exact hqr, .inl rfl⟩
end Go.Proofs.YtjlkmdmpejpmpaaGreatDoor.Ma

namespace Go.Proofs.YtjlkmdmpejpmpaaGreatDoor.Ma
open Go.RowKit H S Ve Sp Od
attribute [local irreducible] H.CL H.RW H.CW H.Yd H.thenK H.blockQ Go.Calls

/-- A manifest that the reference is reading: its needs lie in order. -/
structure RfI (B g : Nat) (w : World) (m : Mf) (p q : Value) (L : List Np) : Prop where
  blk : w.heap[g]? = some (.cells (mfC m p q).toArray mfT (0, 0))
  gB : g < B
  pre : Sl w 1 p m.v.pre.length (sv m.v.pre)
  preB : ∀ h, live p = some h → B ≤ h
  row : GA ndK w q L
  qB : ∀ h, live q = some h → B ≤ h
  rowB : ∀ x ∈ L, ∀ h, x.A h → B ≤ h
  nd : L.map (·.d) = sortN nmD m.needs
theorem RfI.keep {B g : Nat} {w w' : World} {m m' : Mf} {p q : Value} {L : List Np} (h : RfI B g w m p q L) (k : Kept (fun k => k = g) w w') (hb : w'.heap[g]? = some (.cells (mfC m' p q).toArray mfT (0, 0))) (hv : m'.v = m.v) (hn : m'.needs = m.needs) : RfI B g w' m' p q L where
  blk := hb
  gB := h.gB
  pre := by rw [hv]; exact h.pre.keep k fun i hi c => by have := h.preB i hi; have := h.gB; have c' : i = g := c; omega
  preB := h.preB
  row := h.row.keep k fun i _ hi c => by
    have c' : i = g := c
    have := h.gB
    rcases hi with hi | ⟨x, hx, hi⟩
    · have := h.qB i hi; omega
    · have := h.rowB x hx i hi; omega
  qB := h.qB
  rowB := h.rowB
  nd := by rw [hn]; exact h.nd
theorem RfI.keep0 {B g : Nat} {w w' : World} {m : Mf} {p q : Value} {L : List Np} (h : RfI B g w m p q L) (k : K0 w w') : RfI B g w' m p q L := ⟨k.at0 h.blk, h.gB, h.pre.keep0 k, h.preB, h.row.keep0 k, h.qB, h.rowB, h.nd⟩
theorem RfI.srt {B g : Nat} {w : World} {m : Mf} {p q : Value} {L : List Np} (h : RfI B g w m p q L) : SrtN nmN L := by
  have h1 := sortN_srt nmD m.needs
  rw [← h.nd, SrtN, List.pairwise_map] at h1
  exact h1
theorem hasN_sort (l : List Nd) (nm : T) : hasN (sortN nmD l) nm = hasN l nm := by
  rw [hasN, hasN, Bool.eq_iff_iff, List.any_eq_true, List.any_eq_true]
  exact ⟨fun ⟨x, h1, h2⟩ => ⟨x, (sortN_mem nmD l x).1 h1, h2⟩, fun ⟨x, h1, h2⟩ => ⟨x, (sortN_mem nmD l x).2 h1, h2⟩⟩
theorem take_le {s p : T} (h : s.take p.length = p) : p.length ≤ s.length := by have := congrArg List.length h; rw [List.length_take] at this; omega
/-- What a line leaves. -/
def RfO (B g : Nat) (wr : World) (o : Option Mf) (b : Bool) (wx : World) : Prop := b = o.isSome ∧ Kept (fun k => k = g) wr wx ∧ ∀ m', o = some m' → ∃ p' q' L', RfI B g wx m' p' q' L'
set_option maxHeartbeats 2000000 in
theorem refManifestOf (s : T) (hl : s.length ≤ 1000000) (w : World) : Calls Tryz.prog 11 #[vs s] w (ManP (manB s) w) := by
  refine H.enter Tryz.func11 Tryz.ntmps11 rfl rfl ?_; dsimp only [H.args]
  refine CL.seq ?_
  refine CL.region ?_
  refine RW.alloc rfl (fun w1 hb1 hk1 hlt1 => ?_)
  repeat' (first | (refine CL.seq ?_) | (refine CL.region ?_) | (refine CL.skip ?_) | (refine CL.condP rfl (fun _ => ?_) (fun _ => ?_) <;> try (exfalso; omega)) | (refine Gt.nil ?_; refine RW.nilw [0, 2, 3, 4, 5, 6, 7, 8, 9, 10, 11, 12, 13, 16, 23, 38, 41, 57, 64, 71, 85, 113, 123, 128] ?_; dsimp only [H.keep, H.look, H.Fr.put, Nat.beq]) | (refine Gt.move ?_; refine RW.y (Y.move rfl) rfl ?_) | (refine Gt.assign ?_; refine RW.y (Y.assign rfl) rfl ?_) | (refine Gt.len ?_; (refine RW.y (Y.lens rfl) rfl ?_)) | (refine Gt.gtr ?_; refine RW.y (Y.gtr rfl rfl) rfl ?_) | (refine RW.y (Y.build (ps := []) rfl rfl) rfl ?_))
  · rename_i h
    have hm : manB s = (zeroM, 0, 62) := if_neg (by omega)
    have hbF := hb1
    have hKF := hk1
    rw [hm]
    refine RW.storeBlock (u := (mfC zeroM (.slice none 0 0) (.slice none 0 0)).toArray) rfl rfl rfl zeroCells hbF rfl (fun wq hbq hkq => ?_)
    repeat' (first | (refine CL.ret ?_) | (refine Gt.nil ?_; refine RW.nilw [0, 2, 3, 4, 5, 6, 7, 8, 9, 10, 11, 12, 13, 16, 23, 38, 41, 57, 64, 71, 85, 113, 123, 128] ?_; dsimp only [H.keep, H.look, H.Fr.put, Nat.beq]) | (refine Gt.assign ?_; refine RW.y (Y.assign rfl) rfl ?_))
    exact FQ.res (rs := [.cell 2 28, .tmp 3, .tmp 4]) (vs := [_, _, _]) rfl rfl ⟨⟨_, rfl, load_block hbq rfl⟩, rfl, rfl, trivial⟩ rfl (⟨hKF.trans hkq fun k h => .inr (by rw [h]; exact Nat.le_refl _), _, rfl, zeroAt _⟩)
  rename_i h65
  refine RW.alloc rfl (fun w2 hb2 hk2 hlt2 => ?_)
  repeat' (first | (refine CL.seq ?_) | (refine CL.region ?_) | (refine Gt.nil ?_; refine RW.nilw [0, 2, 3, 4, 5, 6, 7, 8, 9, 10, 11, 12, 13, 16, 23, 38, 41, 57, 64, 71, 85, 113, 123, 128] ?_; dsimp only [H.keep, H.look, H.Fr.put, Nat.beq]) | (refine Gt.move ?_; refine RW.y (Y.move rfl) rfl ?_) | (refine Gt.assign ?_; refine RW.y (Y.assign rfl) rfl ?_))
  refine RW.fn rfl rfl ((Lk.lines s (by omega) w2).mono ?_)
  rintro e w3 ⟨v, rfl, how, hk3⟩
  have hz1 := hk1.size
  have hz2 := hk2.size
  have hz3 := hk3.size
  have hs := Sl.of_own how
  have hma : manB s = rdM (Lk.linesB s) 0 0 zeroM := if_pos (by omega)
  have hxl : ∀ x ∈ Lk.linesB s, x.length ≤ 1000000 := fun x hx => Nat.le_trans (splitB_mem_len 10 s x (lines_mem hx)) hl
  have hnl : (Lk.linesB s).length ≤ 100000 := by have := lines_len s; omega
  rw [hma]
  generalize Lk.linesB s = X at *
  have hb13 := hk3.at0 (hk2.at0 hb1)
  have hb23 := hk3.at0 hb2
  have hK3 := (hk1.trans0 hk2).trans0 hk3
  repeat' (first | (refine CL.seq ?_) | (refine CL.region ?_) | (refine CL.block ?_) | (refine Gt.nil ?_; refine RW.nilw [0, 2, 3, 4, 5, 6, 7, 8, 9, 10, 11, 12, 13, 16, 23, 38, 41, 57, 64, 71, 85, 113, 123, 128] ?_; dsimp only [H.keep, H.look, H.Fr.put, Nat.beq]) | (refine Gt.assign ?_; refine RW.y (Y.assign rfl) rfl ?_))
  refine CL.loopS [2, 3, 4, 5, 6, 7, 8] (fun k vals wr => ∃ (i n : Nat) (m : Mf) (p q : Value) (L : List Np), vals = [.pointer (some ⟨w.heap.size, 0, none⟩), .int .i64 0, .int .i64 0, .pointer (some ⟨w1.heap.size, 0, none⟩), .int .i64 (n : Int), v, .int .i64 (i : Int)] ∧ k = X.length - i ∧ i ≤ X.length ∧ n ≤ i ∧ m.needs.length ≤ 20 ∧ RfI w3.heap.size w1.heap.size wr m p q L ∧ rdM X 0 0 zeroM = rdM (X.drop i) i n m ∧ Kept (fun k => k = w1.heap.size) w3 wr) X.length ⟨_, rfl, 0, 0, zeroM, .slice none 0 0, .slice none 0 0, [], rfl, rfl, Nat.zero_le _, Nat.le_refl _, Nat.zero_le _, ⟨hb23, by omega, Sl.nil _ _, nolive, (GI.nil ndK _ 0 ndT).ga, nolive, (fun x hx => by cases hx), rfl⟩, rfl, Kept.refl _ _⟩ ?_
  rintro k vals wr ⟨i, n, m, p, q, L, rfl, rfl, hi, hni, hm20, hI, hgo, hkr⟩
  dsimp only [List.zip, List.zipWith]
  have hzr := hkr.size
  have hsr := hs.keep hkr fun j hj c => by have := how.lt j (live_own hj); have c' : j = w1.heap.size := c; omega
  have hbr := hkr.at hb13 fun c => by have c' : w.heap.size = w1.heap.size := c; omega
  have hKr : K0 w wr := hK3.trans hkr fun k c => .inr (by have c' : k = w1.heap.size := c; omega)
  have hbI := hI.blk
  rcases Nat.lt_or_ge i X.length with hlt | hge
  · have hti : ((i : Int)).toNat = i := Int.toNat_natCast i
    have hst := rd_step (n := n) (m := m) hlt
    have hxm := hxl _ (mem_getD [] hlt)
    obtain ⟨x, hxe'⟩ : ∃ x, X.getD i [] = x := ⟨_, rfl⟩
    have hxe : X.getD ((i : Int)).toNat [] = x := by rw [hti]; exact hxe'
    rw [hxe'] at hst hxm
    repeat' (first | (refine CL.seq ?_) | (refine CL.region ?_) | (refine CL.skip ?_) | (refine CL.condP rfl (fun _ => ?_) (fun _ => ?_) <;> try (exfalso; omega)) | (refine Gt.nil ?_; refine RW.nilw [0, 2, 3, 4, 5, 6, 7, 8, 9, 10, 11, 12, 13, 16, 23, 38, 41, 57, 64, 71, 85, 113, 123, 128] ?_; dsimp only [H.keep, H.look, H.Fr.put, Nat.beq]) | (refine Gt.move ?_; refine RW.y (Y.move rfl) rfl ?_) | (refine Gt.lss ?_; refine RW.y (Y.lss rfl rfl) rfl ?_) | (refine Gt.len ?_; (refine RW.y (Y.lenx rfl (by assumption)) rfl ?_)))
    refine CL.block ?_
    have hpos : ¬ x = [] → 0 < x.length := List.length_pos_iff.2
    repeat' (first | (refine CL.seq ?_) | (refine CL.region ?_) | (refine CL.condT rfl ?_) | (refine CL.exit ?_) | (refine Ex.hit ?_) | (refine CL.done ?_) | (refine Nm.then ?_) | (refine Gt.nil ?_; refine RW.nilw [0, 2, 3, 4, 5, 6, 7, 8, 9, 10, 11, 12, 13, 16, 23, 38, 41, 57, 64, 71, 85, 113, 123, 128] ?_; dsimp only [H.keep, H.look, H.Fr.put, Nat.beq]) | (refine Gt.move ?_; refine RW.y (Y.move rfl) rfl ?_) | (refine Gt.guard ?_; first | (refine RW.part rfl rfl rfl (fun _ => ?_) (fun _ => ?_) <;> try (exfalso; omega)) | (refine RW.on rfl rfl rfl ?_) | (refine RW.off1 rfl rfl rfl rfl rfl ?_)) | (refine Gt.assign ?_; refine RW.y (Y.assign rfl) rfl ?_) | (refine Gt.idx ?_; first | (refine RW.elemS rfl rfl rfl rfl (by assumption) (by omega) (by omega) ?_) | (refine RW.elemSOn rfl rfl rfl rfl (by assumption) (by omega) (by omega) rfl rfl rfl ?_)) | (refine Gt.eql ?_; (refine RW.y (Y.eqs rfl rfl) rfl ?_)) | (refine Gt.pick ?_; (refine RW.y (Y.pickT rfl rfl) rfl ?_)) | (refine Gt.add ?_; refine RW.y (Y.add64 rfl rfl (by omega) (by omega)) rfl ?_))
    · rename_i h0
      rw [hxe] at h0
      have hsi : silentB x = true := by rw [silentB, decide_eq_true h0]; rfl
      rw [hsi, if_pos rfl] at hst
      exact ⟨X.length - (i + 1), _, rfl, rfl, rfl, by omega, i + 1, n, m, p, q, L, rfl, rfl, by omega, by omega, hm20, hI, by rw [hgo, hst], hkr⟩
    rename_i h0
    rw [hxe] at h0
    have h1 := hpos h0
    rw [hxe]
    repeat' (first | (refine CL.seq ?_) | (refine CL.region ?_) | (refine CL.skip ?_) | (refine CL.condP rfl (fun _ => ?_) (fun _ => ?_) <;> try (exfalso; omega)) | (refine CL.exit ?_) | (refine Ex.hit ?_) | (refine CL.done ?_) | (refine Nm.then ?_) | (refine Gt.nil ?_; refine RW.nilw [0, 2, 3, 4, 5, 6, 7, 8, 9, 10, 11, 12, 13, 16, 23, 38, 41, 57, 64, 71, 85, 113, 123, 128] ?_; dsimp only [H.keep, H.look, H.Fr.put, Nat.beq]) | (refine Gt.move ?_; refine RW.y (Y.move rfl) rfl ?_) | (refine Gt.guard ?_; (refine RW.on rfl rfl rfl ?_)) | (refine Gt.assign ?_; refine RW.y (Y.assign rfl) rfl ?_) | (refine Gt.eql ?_; (refine RW.y (Y.eqi rfl rfl) rfl ?_)) | (refine Gt.pick ?_; (refine RW.y (Y.pickF rfl rfl) rfl ?_)) | (refine Gt.add ?_; refine RW.y (Y.add64 rfl rfl (by omega) (by omega)) rfl ?_) | (refine Gt.index ?_; refine RW.y (Y.idxs rfl rfl (by omega) (by omega)) rfl ?_))
    · rename_i h35
      have hsi : silentB x = true := by rw [silentB, decide_eq_true ((u8_eq (x.getD 0 0) 35).2 h35)]; simp
      rw [hsi, if_pos rfl] at hst
      exact ⟨X.length - (i + 1), _, rfl, rfl, rfl, by omega, i + 1, n, m, p, q, L, rfl, rfl, by omega, by omega, hm20, hI, by rw [hgo, hst], hkr⟩
    rename_i h35
    have hsi : silentB x = false := by rw [silentB, decide_eq_false h0, decide_eq_false fun c : x.getD 0 0 = 35 => h35 ((u8_eq _ 35).1 c)]; rfl
    rw [hsi, if_neg (by simp)] at hst
    refine CL.cutS [2, 3, 4, 5, 6, 7, 8, 9] (fun vals wx => ∃ b : Bool, vals = [.pointer (some ⟨w.heap.size, 0, none⟩), .int .i64 0, .int .i64 0, .pointer (some ⟨w1.heap.size, 0, none⟩), .int .i64 ((n : Int) + 1), v, .int .i64 (i : Int), .bool b] ∧ RfO w3.heap.size w1.heap.size wr (lineB n m x) b wx) (by simp) ?_ ?_
    · refine CL.block ?_
      repeat' (first | (refine CL.seq ?_) | (refine CL.region ?_) | (refine CL.condP rfl (fun _ => ?_) (fun _ => ?_) <;> try (exfalso; omega)) | (refine Gt.nil ?_; refine RW.nilw [0, 2, 3, 4, 5, 6, 7, 8, 9, 10, 11, 12, 13, 16, 23, 38, 41, 57, 64, 71, 85, 113, 123, 128] ?_; dsimp only [H.keep, H.look, H.Fr.put, Nat.beq]) | (refine Gt.move ?_; refine RW.y (Y.move rfl) rfl ?_) | (refine Gt.assign ?_; refine RW.y (Y.assign rfl) rfl ?_) | (refine Gt.idx ?_; (refine RW.elemS rfl rfl rfl rfl (by assumption) (by omega) (by omega) ?_)) | (refine Gt.eql ?_; (refine RW.y (Y.eqi rfl rfl) rfl ?_)))
      · have hn0 : n = 0 := by omega
        subst hn0
        rw [hxe]
        refine RW.fn rfl rfl ((Lk.begins x nameW (by omega) wr).mono ?_)
        rintro e w' ⟨rfl, rfl⟩
        by_cases hp : x.take 5 = nameW
        · have h5 := take_le (p := nameW) hp
          have h5 : 5 ≤ x.length := h5
          rw [show decide (x.take nameW.length = nameW) = true from decide_eq_true hp]
          rw [← hxe] at h5
          repeat' (first | (refine Gt.move ?_; refine RW.y (Y.move rfl) rfl ?_) | (refine Gt.guard ?_; (refine RW.on rfl rfl rfl ?_)) | (refine Gt.idx ?_; (refine RW.elemSOn rfl rfl rfl rfl (by assumption) (by omega) (by omega) rfl rfl rfl ?_)) | (refine Gt.slice ?_; refine RW.y (Y.cutl rfl rfl (by omega) (by omega)) rfl ?_))
          rw [hxe] at h5 ⊢
          refine RW.fn rfl rfl ((Lk.refName (x.drop 5) (by rw [List.length_drop]; omega) wr).mono ?_)
          rintro e w' ⟨rfl, rfl⟩
          cases hn : Lk.nameB (x.drop 5) with
          | false =>
            have hno : lineB 0 m x = none := by rw [lineB, if_neg fun c => by rw [hn] at c; cases c.2]
            repeat' (first | (refine CL.seq ?_) | (refine CL.region ?_) | (refine CL.skip ?_) | (refine CL.condF rfl ?_) | (refine CL.done ?_) | (refine Nm.block ?_) | (refine Nm.then ?_) | (refine Gt.nil ?_; refine RW.nilw [0, 2, 3, 4, 5, 6, 7, 8, 9, 10, 11, 12, 13, 16, 23, 38, 41, 57, 64, 71, 85, 113, 123, 128] ?_; dsimp only [H.keep, H.look, H.Fr.put, Nat.beq]) | (refine Gt.move ?_; refine RW.y (Y.move rfl) rfl ?_) | (refine Gt.assign ?_; refine RW.y (Y.assign rfl) rfl ?_) | (refine Gt.pick ?_; (refine RW.y (Y.pickT rfl rfl) rfl ?_)))
            exact ⟨_, rfl, rfl, rfl, false, rfl, by rw [hno]; rfl, Kept.refl _ _, fun m' hm => by rw [hno] at hm; cases hm⟩
          | true =>
            have hyes : lineB 0 m x = some ⟨x.drop 5, m.v, m.needs⟩ := by rw [lineB, if_pos ⟨hp, hn⟩]
            rw [← hxe] at h5
            repeat' (first | (refine CL.seq ?_) | (refine CL.region ?_) | (refine CL.condT rfl ?_) | (refine Gt.nil ?_; refine RW.nilw [0, 2, 3, 4, 5, 6, 7, 8, 9, 10, 11, 12, 13, 16, 23, 38, 41, 57, 64, 71, 85, 113, 123, 128] ?_; dsimp only [H.keep, H.look, H.Fr.put, Nat.beq]) | (refine Gt.move ?_; refine RW.y (Y.move rfl) rfl ?_) | (refine Gt.assign ?_; refine RW.y (Y.assign rfl) rfl ?_) | (refine Gt.idx ?_; (refine RW.elemS rfl rfl rfl rfl (by assumption) (by omega) (by omega) ?_)) | (refine Gt.fieldAddr ?_; refine RW.y (Y.fieldAddr rfl (by rfl)) rfl ?_) | (refine Gt.pick ?_; (refine RW.y (Y.pickT rfl rfl) rfl ?_)) | (refine Gt.slice ?_; refine RW.y (Y.cutl rfl rfl (by omega) (by omega)) rfl ?_))
            rw [hxe] at h5 ⊢
            refine RW.storeB rfl rfl rfl hbI (by show 0 < 6; omega) (fun w4 hb4 hk4 => ?_)
            repeat' (first | (refine CL.done ?_) | (refine Nm.block ?_) | (refine Nm.then ?_) | (refine Gt.nil ?_; refine RW.nilw [0, 2, 3, 4, 5, 6, 7, 8, 9, 10, 11, 12, 13, 16, 23, 38, 41, 57, 64, 71, 85, 113, 123, 128] ?_; dsimp only [H.keep, H.look, H.Fr.put, Nat.beq]))
            exact ⟨_, rfl, rfl, rfl, true, rfl, by rw [hyes]; rfl, hk4, fun m' hm => by rw [hyes] at hm; cases hm; exact ⟨p, q, L, hI.keep hk4 hb4 rfl rfl⟩⟩
        · have hno : lineB 0 m x = none := by rw [lineB, if_neg fun c => hp c.1]
          rw [show decide (x.take nameW.length = nameW) = false from decide_eq_false hp]
          repeat' (first | (refine CL.seq ?_) | (refine CL.region ?_) | (refine CL.skip ?_) | (refine CL.condF rfl ?_) | (refine CL.done ?_) | (refine Nm.block ?_) | (refine Nm.then ?_) | (refine Gt.nil ?_; refine RW.nilw [0, 2, 3, 4, 5, 6, 7, 8, 9, 10, 11, 12, 13, 16, 23, 38, 41, 57, 64, 71, 85, 113, 123, 128] ?_; dsimp only [H.keep, H.look, H.Fr.put, Nat.beq]) | (refine Gt.move ?_; refine RW.y (Y.move rfl) rfl ?_) | (refine Gt.guard ?_; (refine RW.off1 rfl rfl rfl rfl rfl ?_)) | (refine Gt.assign ?_; refine RW.y (Y.assign rfl) rfl ?_) | (refine Gt.pick ?_; (refine RW.y (Y.pickF rfl rfl) rfl ?_)))
          exact ⟨_, rfl, rfl, rfl, false, rfl, by rw [hno]; rfl, Kept.refl _ _, fun m' hm => by rw [hno] at hm; cases hm⟩
      · have hn1 : n = 1 := by omega
        subst hn1
        rw [hxe]
        refine RW.fn rfl rfl ((Lk.begins x versW (by omega) wr).mono ?_)
        rintro e w' ⟨rfl, rfl⟩
        by_cases hp : x.take 8 = versW
        · have h8 : 8 ≤ x.length := take_le (p := versW) hp
          have hlb : lineB 1 m x = (parseV (cutB 45 (x.drop 8))).map fun v => ⟨m.name, v, m.needs⟩ := if_pos hp
          rw [show decide (x.take versW.length = versW) = true from decide_eq_true hp]
          rw [← hxe] at h8
          repeat' (first | (refine CL.seq ?_) | (refine CL.region ?_) | (refine CL.condT rfl ?_) | (refine Gt.nil ?_; refine RW.nilw [0, 2, 3, 4, 5, 6, 7, 8, 9, 10, 11, 12, 13, 16, 23, 38, 41, 57, 64, 71, 85, 113, 123, 128] ?_; dsimp only [H.keep, H.look, H.Fr.put, Nat.beq]) | (refine Gt.move ?_; refine RW.y (Y.move rfl) rfl ?_) | (refine Gt.idx ?_; (refine RW.elemS rfl rfl rfl rfl (by assumption) (by omega) (by omega) ?_)) | (refine Gt.slice ?_; refine RW.y (Y.cutl rfl rfl (by omega) (by omega)) rfl ?_))
          rw [hxe] at h8 ⊢
          refine RW.fn rfl rfl ((versionOfN (x.drop 8) (by rw [List.length_drop]; omega) wr).mono ?_)
          rintro e w4 ⟨hk4, V, rfl, p', rfl, hpv, hpB⟩
          repeat' (first | (refine Gt.move ?_; refine RW.y (Y.move rfl) rfl ?_) | (refine Gt.extract ?_; refine RW.y (Y.extract rfl rfl) rfl ?_))
          refine RW.varN rfl (by rfl) rfl (verCells hpv.one) rfl (fun w5 hb5 hk5 hlt5 => ?_)
          have hI5 := (hI.keep0 hk4).keep0 hk5
          have hz4 := hk4.size
          have hz5 := hk5.size
          have hgB := hI.gB
          repeat' (first | (refine CL.region ?_) | (refine Gt.nil ?_; refine RW.nilw [0, 2, 3, 4, 5, 6, 7, 8, 9, 10, 11, 12, 13, 16, 23, 38, 41, 57, 64, 71, 85, 113, 123, 128] ?_; dsimp only [H.keep, H.look, H.Fr.put, Nat.beq]) | (refine RW.y (Y.loadBlock rfl hb5 rfl) rfl ?_) | (refine Gt.move ?_; refine RW.y (Y.move rfl) rfl ?_) | (refine Gt.assign ?_; refine RW.y (Y.assign rfl) rfl ?_) | (refine Gt.fieldAddr ?_; refine RW.y (Y.fieldAddr rfl (by rfl)) rfl ?_) | (refine Gt.eql ?_; (refine RW.y (Y.eqi rfl rfl) rfl ?_)))
          refine RW.storeM rfl rfl rfl (verCells hpv.one) hI5.blk rfl (fun w6 hb6 hk6 => ?_)
          have hKx : Kept (fun k => k = w1.heap.size) wr w6 := (Kept.of0 (hk4.trans0 hk5)).trans hk6 fun k c => .inl c
          have hIv : ∀ v, (verR (parseV (cutB 45 (x.drop 8)))).1 = v → RfI w3.heap.size w1.heap.size w6 ⟨m.name, v, m.needs⟩ p' q L := fun v hv => by
            subst hv
            exact ⟨hb6, hI.gB, (hpv.keep0 hk5).keep hk6 fun i hi c => (by have := hpB i hi; have c' : i = w1.heap.size := c; omega), fun i hi => (by have := hpB i hi; omega), hI5.row.keep hk6 fun i _ hi c => (by
                have c' : i = w1.heap.size := c
                rcases hi with hi | ⟨y, hy, hi⟩
                · have := hI.qB i hi; omega
                · have := hI.rowB y hy i hi; omega), hI.qB, hI.rowB, hI.nd⟩
          cases hpv' : parseV (cutB 45 (x.drop 8)) with
          | none =>
            rw [hpv'] at hlb
            repeat' (first | (refine CL.done ?_) | (refine Nm.block ?_) | (refine Nm.then ?_) | (refine Gt.nil ?_; refine RW.nilw [0, 2, 3, 4, 5, 6, 7, 8, 9, 10, 11, 12, 13, 16, 23, 38, 41, 57, 64, 71, 85, 113, 123, 128] ?_; dsimp only [H.keep, H.look, H.Fr.put, Nat.beq]) | (refine Gt.assign ?_; refine RW.y (Y.assign rfl) rfl ?_))
            exact ⟨_, rfl, rfl, rfl, false, rfl, by rw [hlb]; rfl, hKx, fun m' hm => by rw [hlb] at hm; cases hm⟩
          | some vv =>
            rw [hpv'] at hlb hIv
            repeat' (first | (refine CL.done ?_) | (refine Nm.block ?_) | (refine Nm.then ?_) | (refine Gt.nil ?_; refine RW.nilw [0, 2, 3, 4, 5, 6, 7, 8, 9, 10, 11, 12, 13, 16, 23, 38, 41, 57, 64, 71, 85, 113, 123, 128] ?_; dsimp only [H.keep, H.look, H.Fr.put, Nat.beq]) | (refine Gt.assign ?_; refine RW.y (Y.assign rfl) rfl ?_))
            exact ⟨_, rfl, rfl, rfl, true, rfl, by rw [hlb]; rfl, hKx, fun m' hm => by rw [hlb] at hm; cases hm; exact ⟨_, _, _, hIv vv rfl⟩⟩
        · have hno : lineB 1 m x = none := if_neg hp
          rw [show decide (x.take versW.length = versW) = false from decide_eq_false hp]
          repeat' (first | (refine CL.skip ?_) | (refine CL.condF rfl ?_) | (refine CL.done ?_) | (refine Nm.block ?_) | (refine Nm.then ?_) | (refine Gt.nil ?_; refine RW.nilw [0, 2, 3, 4, 5, 6, 7, 8, 9, 10, 11, 12, 13, 16, 23, 38, 41, 57, 64, 71, 85, 113, 123, 128] ?_; dsimp only [H.keep, H.look, H.Fr.put, Nat.beq]))
          exact ⟨_, rfl, rfl, rfl, false, rfl, by rw [hno]; rfl, Kept.refl _ _, fun m' hm => by rw [hno] at hm; cases hm⟩
      · obtain ⟨n', rfl⟩ : ∃ n', n = n' + 2 := ⟨n - 2, by omega⟩
        have hlb := lineB_need n' m x
        rw [hxe]
        refine RW.fn rfl rfl ((Lk.begins x needW (by omega) wr).mono ?_)
        rintro e w' ⟨rfl, rfl⟩
        by_cases hp : x.take 5 = needW
        · have h5 : 5 ≤ x.length := take_le (p := needW) hp
          rw [show needL x = needB (x.drop 5) from if_pos hp] at hlb
          rw [show decide (x.take needW.length = needW) = true from decide_eq_true hp]
          rw [← hxe] at h5
          repeat' (first | (refine CL.seq ?_) | (refine CL.region ?_) | (refine CL.condT rfl ?_) | (refine Gt.nil ?_; refine RW.nilw [0, 2, 3, 4, 5, 6, 7, 8, 9, 10, 11, 12, 13, 16, 23, 38, 41, 57, 64, 71, 85, 113, 123, 128] ?_; dsimp only [H.keep, H.look, H.Fr.put, Nat.beq]) | (refine Gt.move ?_; refine RW.y (Y.move rfl) rfl ?_) | (refine Gt.assign ?_; refine RW.y (Y.assign rfl) rfl ?_) | (refine Gt.idx ?_; (refine RW.elemS rfl rfl rfl rfl (by assumption) (by omega) (by omega) ?_)) | (refine Gt.slice ?_; refine RW.y (Y.cutl rfl rfl (by omega) (by omega)) rfl ?_))
          rw [hxe] at h5 ⊢
          refine RW.fn rfl rfl ((refNeed (x.drop 5) (by rw [List.length_drop]; omega) wr).mono ?_)
          rintro e w4 ⟨hk4, V, y, rfl, hy⟩
          have hV := hy.val
          subst hV
          repeat' (first | (refine Gt.move ?_; refine RW.y (Y.move rfl) rfl ?_) | (refine Gt.extract ?_; refine RW.y (Y.extract rfl rfl) rfl ?_))
          refine RW.varN rfl (by rfl) rfl (npC_one hy.D.1.one) rfl (fun w5 hb5 hk5 hlt5 => ?_)
          have hI5 := (hI.keep0 hk4).keep0 hk5
          have hbI5 := hI5.blk
          have hz4 := hk4.size
          have hz5 := hk5.size
          have hgB := hI.gB
          have hLl : L.length = m.needs.length := by have := congrArg List.length hI.nd; rw [List.length_map, sortN_len] at this; exact this
          have hK5 : Kept (fun k => k = w1.heap.size) wr w5 := Kept.of0 (hk4.trans0 hk5)
          cases ho : needB (x.drop 5) with
          | none =>
            rw [ho] at hlb
            have hno : lineB (n' + 2) m x = none := hlb
            repeat' (first | (refine CL.seq ?_) | (refine CL.region ?_) | (refine CL.skip ?_) | (refine CL.condF rfl ?_) | (refine CL.done ?_) | (refine Nm.block ?_) | (refine Nm.then ?_) | (refine Gt.nil ?_; refine RW.nilw [0, 2, 3, 4, 5, 6, 7, 8, 9, 10, 11, 12, 13, 16, 23, 38, 41, 57, 64, 71, 85, 113, 123, 128] ?_; dsimp only [H.keep, H.look, H.Fr.put, Nat.beq]) | (refine Gt.move ?_; refine RW.y (Y.move rfl) rfl ?_) | (refine Gt.guard ?_; (refine RW.off1 rfl rfl rfl rfl rfl ?_)) | (refine Gt.assign ?_; refine RW.y (Y.assign rfl) rfl ?_) | (refine Gt.pick ?_; (refine RW.y (Y.pickF rfl rfl) rfl ?_)))
            exact ⟨_, rfl, rfl, rfl, false, rfl, by rw [hno]; rfl, hK5, fun m' hm => by rw [hno] at hm; cases hm⟩
          | some d =>
            rw [ho] at hlb hy
            simp only at hlb
            have hd : y.d = d := hy.eq d rfl
            have hnmd : nmN y = d.name := by rw [← hd]; rfl
            have hlx : Sl w5 4 q L.length (L.flatMap npC) := hI5.row.1
            repeat' (first | (refine CL.seq ?_) | (refine CL.region ?_) | (refine CL.skip ?_) | (refine CL.condP rfl (fun _ => ?_) (fun _ => ?_) <;> try (exfalso; omega)) | (refine CL.condF rfl ?_) | (refine CL.done ?_) | (refine Nm.block ?_) | (refine Nm.then ?_) | (refine Gt.nil ?_; refine RW.nilw [0, 2, 3, 4, 5, 6, 7, 8, 9, 10, 11, 12, 13, 16, 23, 38, 41, 57, 64, 71, 85, 113, 123, 128] ?_; dsimp only [H.keep, H.look, H.Fr.put, Nat.beq]) | (refine Gt.move ?_; refine RW.y (Y.move rfl) rfl ?_) | (refine Gt.guard ?_; first | (refine RW.part rfl rfl rfl (fun _ => ?_) (fun _ => ?_) <;> try (exfalso; omega)) | (refine RW.on rfl rfl rfl ?_) | (refine RW.off1 rfl rfl rfl rfl rfl ?_)) | (refine Gt.assign ?_; refine RW.y (Y.assign rfl) rfl ?_) | (refine Gt.load ?_; first | (refine RW.y (Y.loadB rfl (by assumption) rfl) rfl ?_) | (refine RW.y (Y.loadBlock rfl (by assumption) rfl) rfl ?_)) | (refine Gt.fieldAddr ?_; refine RW.y (Y.fieldAddr rfl (by rfl)) rfl ?_) | (refine Gt.pick ?_; first | (refine RW.y (Y.pickT rfl rfl) rfl ?_) | (refine RW.y (Y.pickF rfl rfl) rfl ?_)) | (refine Gt.lss ?_; refine RW.y (Y.lss rfl rfl) rfl ?_) | (refine Gt.len ?_; (refine RW.y (Y.lenx rfl (by assumption)) rfl ?_)) | (refine Gt.neq ?_; refine RW.y (Y.nes rfl rfl) rfl ?_))
            · rename_i h1 h2
              have h1' : d.name ≠ m.name := by rw [← hnmd]; exact h1
              refine RW.fn rfl rfl ((refPut q L y w5 hI5.row (ndK.keep0 hy.D hk5) (by omega) hI5.srt).mono ?_)
              rintro e w6 ⟨hk6, u, rfl, hput⟩
              have hI6 := hI5.keep0 hk6
              have hz6 := hk6.size
              have hhas : hasN (L.map (·.d)) (nmN y) = hasN m.needs d.name := by rw [hI.nd, hasN_sort, hnmd]
              have hrow := hput.row
              have hKx : ∀ w7, Kept (fun k => k = w1.heap.size) w6 w7 → Kept (fun k => k = w1.heap.size) wr w7 := fun w7 hk7 => (Kept.of0 ((hk4.trans0 hk5).trans0 hk6)).trans hk7 fun k c => .inl c
              rw [hhas] at hrow ⊢
              cases hh : hasN m.needs d.name with
              | true =>
                have hno : lineB (n' + 2) m x = none := by rw [hlb, if_neg fun c => by rw [hh] at c; cases c.2.1]
                repeat' (first | (refine Gt.move ?_; refine RW.y (Y.move rfl) rfl ?_) | (refine Gt.fieldAddr ?_; refine RW.y (Y.fieldAddr rfl (by rfl)) rfl ?_) | (refine Gt.extract ?_; refine RW.y (Y.extract rfl rfl) rfl ?_))
                refine RW.storeB rfl rfl hrow.1.one hI6.blk (by show 5 < 6; omega) (fun w7 hb7 hk7 => ?_)
                repeat' (first | (refine CL.done ?_) | (refine Nm.block ?_) | (refine Nm.then ?_) | (refine Gt.nil ?_; refine RW.nilw [0, 2, 3, 4, 5, 6, 7, 8, 9, 10, 11, 12, 13, 16, 23, 38, 41, 57, 64, 71, 85, 113, 123, 128] ?_; dsimp only [H.keep, H.look, H.Fr.put, Nat.beq]) | (refine Gt.assign ?_; refine RW.y (Y.assign rfl) rfl ?_))
                exact ⟨_, rfl, rfl, rfl, false, rfl, by rw [hno]; rfl, hKx _ hk7, fun m' hm => by rw [hno] at hm; cases hm⟩
              | false =>
                have hyes : lineB (n' + 2) m x = some ⟨m.name, m.v, m.needs ++ [d]⟩ := by rw [hlb, if_pos ⟨h1', hh, by omega⟩]
                rw [hh, if_neg (by simp)] at hrow
                repeat' (first | (refine Gt.move ?_; refine RW.y (Y.move rfl) rfl ?_) | (refine Gt.fieldAddr ?_; refine RW.y (Y.fieldAddr rfl (by rfl)) rfl ?_) | (refine Gt.extract ?_; refine RW.y (Y.extract rfl rfl) rfl ?_))
                refine RW.storeB rfl rfl hrow.1.one hI6.blk (by show 5 < 6; omega) (fun w7 hb7 hk7 => ?_)
                repeat' (first | (refine CL.done ?_) | (refine Nm.block ?_) | (refine Nm.then ?_) | (refine Gt.nil ?_; refine RW.nilw [0, 2, 3, 4, 5, 6, 7, 8, 9, 10, 11, 12, 13, 16, 23, 38, 41, 57, 64, 71, 85, 113, 123, 128] ?_; dsimp only [H.keep, H.look, H.Fr.put, Nat.beq]) | (refine Gt.assign ?_; refine RW.y (Y.assign rfl) rfl ?_))
                have huB : ∀ j, live u = some j → w3.heap.size ≤ j := fun j hj => by
                  rcases hput.at_ with c | c
                  · rw [c] at hj; exact hI.qB j hj
                  · have := c j hj; omega
                have hrB : ∀ z ∈ insN nmN y L, ∀ j, z.A j → w3.heap.size ≤ j := fun z hz j hj => by
                  rcases (insN_mem nmN y L z).1 hz with hz | hz
                  · rw [hz] at hj; have := hy.new j hj; omega
                  · exact hI.rowB z hz j hj
                refine ⟨_, rfl, rfl, rfl, true, rfl, by rw [hyes]; rfl, hKx _ hk7, fun m' hm => ?_⟩
                rw [hyes] at hm
                cases hm
                refine ⟨p, u, insN nmN y L, hb7, hI.gB, ?_, hI.preB, ?_, huB, hrB, ?_⟩
                · exact hI6.pre.keep hk7 fun j hj c => by have := hI.preB j hj; have c' : j = w1.heap.size := c; omega
                · refine hrow.keep hk7 fun j _ hj c => ?_
                  have c' : j = w1.heap.size := c
                  rcases hj with hj | ⟨z, hz, hj⟩
                  · have := huB j hj; omega
                  · have := hrB z hz j hj; omega
                · rw [show (insN nmN y L).map (·.d) = insN nmD y.d (L.map (·.d)) from insN_map nmD (·.d) y L, hI.nd, hd]
                  exact (sortN_snoc nmD m.needs d).symm
            · rename_i h1 h2
              have hno : lineB (n' + 2) m x = none := by rw [hlb, if_neg fun c => by omega]
              exact ⟨_, rfl, rfl, rfl, false, rfl, by rw [hno]; rfl, hK5, fun m' hm => by rw [hno] at hm; cases hm⟩
            · rename_i h1
              have hno : lineB (n' + 2) m x = none := by rw [hlb, if_neg fun c => c.1 (by rw [← hnmd]; exact Decidable.not_not.1 h1)]
              exact ⟨_, rfl, rfl, rfl, false, rfl, by rw [hno]; rfl, hK5, fun m' hm => by rw [hno] at hm; cases hm⟩
        · have hno : lineB (n' + 2) m x = none := by rw [hlb, needL, if_neg hp]
          rw [show decide (x.take needW.length = needW) = false from decide_eq_false hp]
          repeat' (first | (refine CL.skip ?_) | (refine CL.condF rfl ?_) | (refine CL.done ?_) | (refine Nm.block ?_) | (refine Nm.then ?_) | (refine Gt.nil ?_; refine RW.nilw [0, 2, 3, 4, 5, 6, 7, 8, 9, 10, 11, 12, 13, 16, 23, 38, 41, 57, 64, 71, 85, 113, 123, 128] ?_; dsimp only [H.keep, H.look, H.Fr.put, Nat.beq]) | (refine Gt.assign ?_; refine RW.y (Y.assign rfl) rfl ?_))
          exact ⟨_, rfl, rfl, rfl, false, rfl, by rw [hno]; rfl, Kept.refl _ _, fun m' hm => by rw [hno] at hm; cases hm⟩
    · rintro vals w4 ⟨b, rfl, rfl, hk4, hok⟩
      dsimp only [List.zip, List.zipWith]
      have hkr4 : Kept (fun k => k = w1.heap.size) w3 w4 := hkr.trans hk4 fun k c => .inl c
      cases hlb : lineB n m x with
      | none =>
        rw [hlb] at hst
        have hbF := hkr4.at hb13 fun c => by have c' : w.heap.size = w1.heap.size := c; omega
        have hKF : K0 w w4 := hK3.trans hkr4 fun k c => .inr (by have c' : k = w1.heap.size := c; omega)
        rw [hgo, hst]
        repeat' (first | (refine CL.seq ?_) | (refine CL.region ?_) | (refine CL.condT rfl ?_) | (refine Gt.nil ?_; refine RW.nilw [0, 2, 3, 4, 5, 6, 7, 8, 9, 10, 11, 12, 13, 16, 23, 38, 41, 57, 64, 71, 85, 113, 123, 128] ?_; dsimp only [H.keep, H.look, H.Fr.put, Nat.beq]) | (refine Gt.move ?_; refine RW.y (Y.move rfl) rfl ?_) | (refine Gt.add ?_; refine RW.y (Y.add64 rfl rfl (by omega) (by omega)) rfl ?_) | (refine Gt.not ?_; (refine RW.y (Y.notb rfl) rfl ?_)) | (refine RW.y (Y.build (ps := []) rfl rfl) rfl ?_))
        refine RW.storeBlock (u := (mfC zeroM (.slice none 0 0) (.slice none 0 0)).toArray) rfl rfl rfl zeroCells hbF rfl (fun wq hbq hkq => ?_)
        repeat' (first | (refine CL.ret ?_) | (refine Rt.then ?_) | (refine Rt.block ?_) | (refine Gt.nil ?_; refine RW.nilw [0, 2, 3, 4, 5, 6, 7, 8, 9, 10, 11, 12, 13, 16, 23, 38, 41, 57, 64, 71, 85, 113, 123, 128] ?_; dsimp only [H.keep, H.look, H.Fr.put, Nat.beq]) | (refine Gt.assign ?_; refine RW.y (Y.assign rfl) rfl ?_))
        exact FQ.res (rs := [.cell 2 28, .tmp 3, .tmp 4]) (vs := [_, _, _]) rfl rfl ⟨⟨_, rfl, load_block hbq rfl⟩, rfl, rfl, trivial⟩ rfl (⟨hKF.trans hkq fun k h => .inr (by rw [h]; exact Nat.le_refl _), _, rfl, zeroAt _⟩)
      | some m' =>
        rw [hlb] at hst
        obtain ⟨p', q', L', hI'⟩ := hok m' hlb
        repeat' (first | (refine CL.seq ?_) | (refine CL.region ?_) | (refine CL.skip ?_) | (refine CL.condF rfl ?_) | (refine CL.done ?_) | (refine Nm.block ?_) | (refine Nm.then ?_) | (refine Gt.nil ?_; refine RW.nilw [0, 2, 3, 4, 5, 6, 7, 8, 9, 10, 11, 12, 13, 16, 23, 38, 41, 57, 64, 71, 85, 113, 123, 128] ?_; dsimp only [H.keep, H.look, H.Fr.put, Nat.beq]) | (refine Gt.move ?_; refine RW.y (Y.move rfl) rfl ?_) | (refine Gt.assign ?_; refine RW.y (Y.assign rfl) rfl ?_) | (refine Gt.add ?_; refine RW.y (Y.add64 rfl rfl (by omega) (by omega)) rfl ?_) | (refine Gt.not ?_; (refine RW.y (Y.notb rfl) rfl ?_)))
        exact ⟨X.length - (i + 1), _, rfl, rfl, rfl, by omega, i + 1, n + 1, m', p', q', L', rfl, rfl, by omega, by omega, lineB_num hm20 hlb, hI', by rw [hgo, hst], hkr4⟩
  · have hi : i = X.length := by omega
    subst hi
    rw [List.drop_length] at hgo
    rw [hgo, rdM]
    repeat' (first | (refine CL.seq ?_) | (refine CL.region ?_) | (refine CL.skip ?_) | (refine CL.condP rfl (fun _ => ?_) (fun _ => ?_) <;> try (exfalso; omega)) | (refine CL.exit ?_) | (refine Ex.then ?_) | (refine Ex.hit ?_) | (refine Gt.nil ?_; refine RW.nilw [0, 2, 3, 4, 5, 6, 7, 8, 9, 10, 11, 12, 13, 16, 23, 38, 41, 57, 64, 71, 85, 113, 123, 128] ?_; dsimp only [H.keep, H.look, H.Fr.put, Nat.beq]) | (refine Gt.move ?_; refine RW.y (Y.move rfl) rfl ?_) | (refine Gt.load ?_; (refine RW.y (Y.loadBlock rfl (by assumption) rfl) rfl ?_)) | (refine Gt.lss ?_; refine RW.y (Y.lss rfl rfl) rfl ?_) | (refine Gt.len ?_; (refine RW.y (Y.lenx rfl (by assumption)) rfl ?_)) | (refine RW.y (Y.build (ps := []) rfl rfl) rfl ?_))
    · rename_i hn2
      rw [if_pos (by omega)]
      have hbF := hbr
      have hKF := hKr
      refine RW.storeBlock (u := (mfC zeroM (.slice none 0 0) (.slice none 0 0)).toArray) rfl rfl rfl zeroCells hbF rfl (fun wq hbq hkq => ?_)
      repeat' (first | (refine CL.ret ?_) | (refine Gt.nil ?_; refine RW.nilw [0, 2, 3, 4, 5, 6, 7, 8, 9, 10, 11, 12, 13, 16, 23, 38, 41, 57, 64, 71, 85, 113, 123, 128] ?_; dsimp only [H.keep, H.look, H.Fr.put, Nat.beq]) | (refine Gt.assign ?_; refine RW.y (Y.assign rfl) rfl ?_))
      exact FQ.res (rs := [.cell 2 28, .tmp 3, .tmp 4]) (vs := [_, _, _]) rfl rfl ⟨⟨_, rfl, load_block hbq rfl⟩, rfl, rfl, trivial⟩ rfl (⟨hKF.trans hkq fun k h => .inr (by rw [h]; exact Nat.le_refl _), _, rfl, zeroAt _⟩)
    · rename_i hn2
      rw [if_neg (by omega)]
      skip
      refine RW.storeBlock rfl rfl rfl (mfC_one hI.pre.one hI.row.1.one) hbr rfl (fun w5 hb5 hk5 => ?_)
      repeat' (first | (refine CL.ret ?_) | (refine Gt.nil ?_; refine RW.nilw [0, 2, 3, 4, 5, 6, 7, 8, 9, 10, 11, 12, 13, 16, 23, 38, 41, 57, 64, 71, 85, 113, 123, 128] ?_; dsimp only [H.keep, H.look, H.Fr.put, Nat.beq]) | (refine Gt.assign ?_; refine RW.y (Y.assign rfl) rfl ?_))
      have hgB := hI.gB
      refine FQ.res (rs := [.cell 2 28, .tmp 3, .tmp 4]) (vs := [_, _, _]) rfl rfl ⟨⟨_, rfl, load_block hb5 rfl⟩, rfl, rfl, trivial⟩ rfl (⟨hKr.trans hk5 fun k h => .inr (by rw [h]; exact Nat.le_refl _), _, rfl, p, q, L, rfl, ?_, ?_, hI.nd⟩)
      · exact hI.pre.keep hk5 fun j hj c => by have := hI.preB j hj; have c' : j = w.heap.size := c; omega
      · refine hI.row.keep hk5 fun j _ hj c => ?_
        have c' : j = w.heap.size := c
        rcases hj with hj | ⟨y, hy, hj⟩
        · have := hI.qB j hj; omega
        · have := hI.rowB y hy j hj; omega
end Go.Proofs.YtjlkmdmpejpmpaaGreatDoor.Ma

namespace Go.Proofs.YtjlkmdmpejpmpaaGreatDoor.Ma
open Go.RowKit H S Ve Sp Od
attribute [local irreducible] H.CL H.RW H.CW H.Yd H.thenK H.blockQ Go.Calls

end Go.Proofs.YtjlkmdmpejpmpaaGreatDoor.Ma

