/-
  slices.Grow of a row of bytes that is nothing. Build scripts: a line that repeats, a line that ends one. A build script that never ends: which lines belong together; what its end tells.
-/
import Derived.Test.YtoafcnecjgnbmaaGreatDoorVh
import Derived.Lib.AppendZerosOnto
import Derived.Test.YtoafcnecjgnbmaaGreatDoorVp
import Derived.Test.YtoafcnecjgnbmaaGreatDoorVi
set_option linter.unusedVariables false
set_option linter.unusedSimpArgs false
set_option linter.constructorNameAsVariable false
set_option linter.unusedVariables false
namespace Go.Proofs.YtoafcnecjgnbmaaGreatDoor.E
open Go Go.RowKit H
section
variable {M : Option (Option Nat)} {P : Program} {ops : Array Oper} {Q : Post} {rest : List Oper} {f : Fr} {w : World} {d ty : Nat} {pos : String} {af : Array Edge}
theorem Y.capn {t et : TypeId} [ht : Und P t (.slice et)] {x : Operand} {p : Option Addr} {n c : Nat} (hx : f.ev x = some (.slice p n c)) : Yd P f (op1 d (.call { callee := .builtin .cap, args := #[x], argTypes := #[t] }) ty pos af) (.int .i64 (c : Int)) w := fun a' ha => by simp [execOp, resolve, invoke, builtin, Builtin.cap_, ha.eval hx, run_underlying ht.out, goInt]
theorem Y.to0 {t e : TypeId} {z : Value} {sz b : Nat} [ht : Und P t (.slice e)] [Inf P e z sz b] {x y : Operand} {k : IntKind} {p : Option Addr} {n c : Nat} (hx : f.ev x = some (.slice p n c)) (hy : f.ev y = some (.int k (0 : Nat))) : Yd P f (op1 d (.slice t x none (some y) none) ty pos af) (.slice p 0 c) w := fun a ha => by
  have hr := run_sub (P := P) (w := w) (t := t) (sz := sz) p n c none (some (.int k (0 : Nat))) 0 0 (.inl ⟨rfl, rfl⟩) (.inr ⟨k, rfl⟩) (Nat.le_refl _) (Nat.zero_le _)
  have hp : (if c = 0 then p else p.map (·.add (0 * sz))) = p := by cases p <;> simp [Addr.add]
  rw [hp] at hr
  simp only [execOp, ha.eval hx, Option.map_some, Option.map_none, ha.eval hy, Sem.run_bind, hr]; rfl
/-- append(s[:0], make([]byte, n)...) at nothing. -/
theorem RW.zerosB {t tn e : TypeId} [ht : Und P t (.slice e)] [hn : Und P tn (.int .i64)] [hi : Inf P e (.int .u8 0) 1 1] {x y : Operand} {n : Nat} (hx : f.ev x = some (.slice none 0 0)) (hy : f.ev y = some (.int .i64 (n : Int))) (hd : Nat.blt d f.n = true) (h0 : 0 < n) (h1 : n ≤ 1000000)
    (k : ∀ cs w', w'.heap[w.heap.size]? = some (.cells cs e (0, 0)) → n ≤ cs.size → cs.size ≤ maxLen → K0 w w' → RW M P ops Q rest (f.put d (.slice (some ⟨w.heap.size, 0, none⟩) n cs.size)) w') : RW M P ops Q (op1 d (.call { callee := .builtin .append, args := #[x, y], argTypes := #[t, tn] }) ty pos af :: rest) f w := by
  have hi' := hi.out
  cases hinf : P.info? e with
  | none => simp [hinf] at hi'
  | some i =>
    simp only [hinf, Option.map_some, Option.some.injEq, Prod.mk.injEq] at hi'
    obtain ⟨hz', hs', hb'⟩ := hi'
    have h := Lib.run_append_grow_zeros (P := P) w t tn ty e i (.int .u8 0) .i64 .i64 ht.out hn.out hinf hz' none 0 0 [] (run_firstCells_none w.drew i.size 0 0 0) n h0 (by omega) (by omega) (by omega) (by rw [hb']; omega) (by rw [hb']; exact growslice_fits (by omega) (by omega))
    rw [Nat.zero_add] at h
    have hge := grownCap_ge w n 0 e
    have hle := grownCap_le_maxLen w n 0 e (by simp [maxLen]; omega)
    obtain ⟨cs, hcs⟩ : ∃ cs, cs = (([] : List Value).toArray ++ Builtin.zeroCells (Value.int .u8 0).cells n ++ Builtin.zeroCells (Value.int .u8 0).cells (grownCap w n 0 e - n)) := ⟨_, rfl⟩
    have hsz : cs.size = grownCap w n 0 e := by
      rw [hcs]
      simp only [Array.size_append, Builtin.zeroCells, Array.size_map, Array.size_range]
      show 0 + n * 1 + (grownCap w n 0 e - n) * 1 = _
      omega
    rw [← hcs, ← hsz] at h
    refine RW.val rfl rfl hd (fun a ha => ?_) (k cs (w.drew.alloc (.cells cs e)) (heap_alloc_new w.drew _) (by omega) (by omega) ⟨rfl, rfl, rfl, (Kept.alloc w.drew _).size, (Kept.alloc w.drew _).block⟩)
    simp [execOp, resolve, invoke, builtin, ha.eval hx, ha.eval hy, h]
end
attribute [local irreducible] H.CL H.RW H.CW H.Yd H.thenK H.blockQ Go.Calls
theorem growNil (n : Nat) (h0 : 0 < n) (h1 : n ≤ 1000000) (w : World) : Calls Tryz.prog 239 #[.slice none 0 0, .int .i64 (n : Int)] w fun e w' => K0 w w' ∧ ∃ cs, e = .returned (.slice (some ⟨w.heap.size, 0, none⟩) 0 cs.size) ∧ w'.heap[w.heap.size]? = some (.cells cs 5 (0, 0)) ∧ cs.size ≤ maxLen := by
  refine H.enter Tryz.func239 Tryz.ntmps239 rfl rfl ?_; dsimp only [H.args]
  repeat' (first | (refine CL.seq ?_) | (refine CL.region ?_) | (refine CL.skip ?_) | (refine CL.condP rfl (fun _ => ?_) (fun _ => ?_) <;> try (exfalso; omega)) | (refine Gt.nil ?_; refine RW.nilw [0, 1, 4, 6, 16] ?_; dsimp only [H.keep, H.look, H.Fr.put, Nat.beq]) | (refine RW.y (Y.capn rfl) rfl ?_) | (refine Gt.move ?_; refine RW.y (Y.move rfl) rfl ?_) | (refine Gt.assign ?_; refine RW.y (Y.assign rfl) rfl ?_) | (refine Gt.len ?_; (refine RW.y (Y.lenv rfl) rfl ?_)) | (refine Gt.sub ?_; refine RW.y (Y.sub64 rfl rfl (by omega) (by omega)) rfl ?_) | (refine Gt.lss ?_; refine RW.y (Y.lss rfl rfl) rfl ?_) | (refine Gt.gtr ?_; refine RW.y (Y.gtr rfl rfl) rfl ?_))
  refine RW.y (Y.to0 rfl rfl) rfl ?_
  have hn : (n : Int) - ((0 : Nat) - (0 : Nat) : Int) = n := by omega
  rw [hn]
  repeat' ((refine Gt.move ?_; refine RW.y (Y.move rfl) rfl ?_))
  refine RW.zerosB rfl rfl rfl h0 h1 (fun cs w1 hb hn hc hk => ?_)
  repeat' (first | (refine Gt.move ?_; refine RW.y (Y.move rfl) rfl ?_) | (refine Gt.len ?_; (refine RW.y (Y.lenv rfl) rfl ?_)))
  refine RW.y (Y.to0 rfl rfl) rfl ?_
  repeat' (first | (refine CL.seq ?_) | (refine CL.region ?_) | (refine CL.ret ?_) | (refine Gt.nil ?_; refine RW.nilw [0, 1, 4, 6, 16] ?_; dsimp only [H.keep, H.look, H.Fr.put, Nat.beq]) | (refine Gt.move ?_; refine RW.y (Y.move rfl) rfl ?_) | (refine Gt.assign ?_; refine RW.y (Y.assign rfl) rfl ?_))
  exact FQ.one rfl rfl rfl ⟨hk, cs, rfl, hb, hc⟩
noncomputable def i64K' (x : AV) (k : Int → Bool) : Bool := qInt x fun i z => ask (kEq i .i64) (k z)
theorem i64K'_ok {x : AV} {k : Int → Bool} (h : i64K' x k = true) : ∃ z, k z = true ∧ x = .int .i64 z := by
  obtain ⟨i, z, rfl, h⟩ := qInt_ok (x := x) h
  obtain ⟨h1, h⟩ := ask_ok h
  rw [kEq_ok h1]
  exact ⟨z, h, rfl⟩
noncomputable def growP (vs : List AV) (h : Hp) (k : KV) : Bool := two2 vs fun a b => match a with
  | .nils => i64K' b fun z => Int.rec (motive := fun _ => Bool) (fun n => ask (Nat.blt 0 n) (ask (Nat.ble n 1000000) (newH h (.cells 5 true false []) fun i h => k (.slx i 0 0 1) h))) (fun _ => false) z
  | _ => false
theorem pr_grow {fl : Nat} : Pr1 Tryz.prog fl 239 fun _ vs h kr _ => growP vs h kr := by
  refine Pr1.mem fun ps h k hk => ?_
  obtain ⟨a, b, rfl, hk⟩ := two2_ok hk
  cases a with
  | nils =>
    obtain ⟨z, hk, rfl⟩ := i64K'_ok (show i64K' b _ = true from hk)
    cases z with
    | negSucc _ => cases hk
    | ofNat n =>
      obtain ⟨h0, hk⟩ := ask_ok (b := Nat.blt 0 n) hk
      obtain ⟨h1, hk⟩ := ask_ok hk
      obtain ⟨hlim, hk⟩ := newH_ok hk
      refine ⟨_, _, hk, fun S w0 r w xs hR hxs => ?_⟩
      obtain ⟨x, y, hx, hy, rfl⟩ := reals2 hxs
      cases hx
      rw [real_int hy]
      refine (growNil n (blt_lt h0) (ble_le h1) w).mono ?_
      rintro e w' ⟨hK, cs, rfl, hb, hc⟩
      have H0 := hR.same hK
      have R1 := H0.adopt (b := .cells 5 true false []) hlim (p := (w.heap.size, cs.size)) (fun i q hq e => by have := hR.dom i q hq; omega) (.inr (by show w0.heap.size ≤ w.heap.size; exact hR.kept.size)) ⟨cs, (0, 0), [], hb, rfl, reals_nil, by simp, Nat.zero_le _, (fun z => by cases z), fun _ => .inl rfl⟩
      refine ⟨_, _, rfl, upd_ext H0 _, R1, ?_⟩
      simp only [real, upd_same, Option.bind_some, Nat.zero_mul, Nat.zero_add, Nat.sub_zero, Nat.div_one, Nat.add_zero]
      rw [if_pos ⟨Nat.one_pos, Nat.zero_le _, hc⟩]
  | _ => cases hk
end Go.Proofs.YtoafcnecjgnbmaaGreatDoor.E

set_option linter.constructorNameAsVariable false
set_option linter.unusedVariables false
namespace Go.Proofs.YtoafcnecjgnbmaaGreatDoor.E
open Go Go.RowKit H
section
variable {M : Option (Option Nat)} {P : Program} {ops : Array Oper} {Q : Post} {rest : List Oper} {f : Fr} {w : World} {d ty : Nat} {pos : String} {af : Array Edge}
theorem Y.idxS {t e : TypeId} {z : Value} {sz b : Nat} [ht : Und P t (.slice e)] [Inf P e z sz b] {x y : Operand} {k : IntKind} {g o n cap : Nat} {i : Int} (hx : f.ev x = some (.slice (some ⟨g, o, none⟩) n cap)) (hy : f.ev y = some (.int k i)) (h0 : 0 ≤ i) (h1 : i < n) : Yd P f (op1 d (.indexAddr t x y) ty pos af) (.pointer (some ⟨g, o + i.toNat * sz, none⟩)) w := by
  intro a ha
  have hsz := H.run_sizeOf (P := P) (t := e) w
  simp [execOp, ha.eval hx, ha.eval hy, Instr.indexAt, asIntOf, run_underlying ht.out, h0, h1, hsz, addr_add]
end
attribute [local irreducible] H.CL H.RW H.CW H.Yd H.thenK H.blockQ Go.Calls
def ln (k n : Int) : List Value := [.int .i64 k, .string (B []), .string (B []), .string (B []), .int .i64 n, .bool false]
/-- repeat 1000, repeat 1000, end, end. -/
def LN : List Value := ln 8 1000 ++ ln 8 1000 ++ ln 10 0 ++ ln 10 0
theorem LN_one : ∀ v ∈ LN, v.oneCell' = true := by
  intro v hv
  simp [LN, ln] at hv
  rcases hv with rfl | rfl | rfl | rfl | rfl | rfl | rfl | rfl | rfl | rfl | rfl | rfl | rfl | rfl | rfl | rfl | rfl | rfl | rfl | rfl | rfl | rfl | rfl | rfl <;> rfl
theorem textNil (g : Nat) (w : World) : Calls Tryz.prog 490 #[.pointer (some ⟨g, 0, none⟩), .string (B [])] w fun e w' => e = .returned (.string (B [])) ∧ w' = w := by
  refine H.enter Tryz.func490 Tryz.ntmps490 rfl rfl ?_; dsimp only [H.args]
  repeat' (first | (refine CL.seq ?_) | (refine CL.region ?_) | (refine CL.block ?_) | (refine Gt.nil ?_; refine RW.nilw [0, 1, 4, 5, 6, 7, 8, 17, 23, 35, 38] ?_; dsimp only [H.keep, H.look, H.Fr.put, Nat.beq]) | (refine Gt.assign ?_; refine RW.y (Y.assign rfl) rfl ?_))
  refine CL.loopS [1, 5, 6] (fun k vals wr => vals = [.string (B []), .slice none 0 0, .int .i64 0] ∧ wr = w) 0 ⟨_, rfl, rfl, rfl⟩ ?_
  rintro k vals wr ⟨rfl, rfl⟩
  dsimp only [List.zip, List.zipWith]
  have hl0 : ([] : List UInt8).length = 0 := rfl
  repeat' (first | (refine CL.seq ?_) | (refine CL.region ?_) | (refine CL.condF rfl ?_) | (refine CL.exit ?_) | (refine Ex.then ?_) | (refine Ex.hit ?_) | (refine Gt.nil ?_; refine RW.nilw [0, 1, 4, 5, 6, 7, 8, 17, 23, 35, 38] ?_; dsimp only [H.keep, H.look, H.Fr.put, Nat.beq]) | (refine Gt.move ?_; refine RW.y (Y.move rfl) rfl ?_) | (refine Gt.guard ?_; first | (refine RW.part rfl rfl rfl (fun _ => ?_) (fun _ => ?_) <;> try (exfalso; omega)) | (refine RW.off1 rfl rfl rfl rfl rfl ?_)) | (refine Gt.len ?_; first | (refine RW.y (Y.lens rfl) rfl ?_) | (refine RW.y (Y.lenv rfl) rfl ?_)) | (refine Gt.lss ?_; refine RW.y (Y.lss rfl rfl) rfl ?_) | (refine Gt.pick ?_; (refine RW.y (Y.pickF rfl rfl) rfl ?_)) | (refine Gt.call ?_; refine RW.y (Y.min2 rfl rfl) rfl ?_))
  have hm : min ((0 : Nat) : Int) 65537 = ((0 : Nat) : Int) := rfl
  try rw [hm]
  refine RW.y (Y.to0 rfl rfl) rfl ?_
  repeat' (first | (refine CL.ret ?_) | (refine Gt.nil ?_; refine RW.nilw [0, 1, 4, 5, 6, 7, 8, 17, 23, 35, 38] ?_; dsimp only [H.keep, H.look, H.Fr.put, Nat.beq]) | (refine RW.y (Y.strb (l := []) rfl (Sl.nil _ _)) rfl ?_) | (refine Gt.assign ?_; refine RW.y (Y.assign rfl) rfl ?_))
  exact FQ.one rfl rfl rfl ⟨rfl, rfl⟩
/-- A machine in memory: its lines, where each end begins, how often each repeat is to go. -/
structure Mc (w : World) (g ob oc : Nat) (oa lv tv vv : Value) (ms : List Value) (fu : Int) : Prop where
  m : w.heap[g]? = some (.cells #[oa, .slice (some ⟨ob, 0, none⟩) 4 4, lv, tv, vv, .slice (some ⟨oc, 0, none⟩) 4 4, .int .i64 fu] 575 (0, 0))
  hd : Sl w 1 (.slice (some ⟨ob, 0, none⟩) 4 4) 4 (([0, 0, 1, 0] : List Int).map iv)
  mo : w.heap[oc]? = some (.cells ms.toArray 3 (0, 0))
  ml : ms.length = 4
  ls : Sl w 6 lv 4 LN
set_option maxHeartbeats 1000000 in
theorem doRep {w : World} {g ob oc : Nat} {oa lv tv vv : Value} {ms : List Value} {fu : Int} (hM : Mc w g ob oc oa lv tv vv ms fu) (hgo : g ≠ oc) {at' : Nat} (ha : at' = 0 ∨ at' = 1) : Calls Tryz.prog 429 #[.pointer (some ⟨g, 0, none⟩), .int .i64 (at' : Int)] w fun e w' => e = .returned (.tuple #[.int .i64 ((at' : Int) + 1), .int .i64 0]) ∧ Kept (fun k => k = oc) w w' ∧ w'.heap[oc]? = some (.cells (ms.set at' (iv 1000)).toArray 3 (0, 0)) := by
  obtain ⟨hm, hhd, hmo, hml, hls⟩ := hM
  have hol := lt_of_at hmo
  refine H.enter Tryz.func429 Tryz.ntmps429 rfl rfl ?_; dsimp only [H.args]
  repeat' (first | (refine CL.seq ?_) | (refine CL.region ?_) | (refine Gt.nil ?_; refine RW.nilw [0, 1, 4, 5, 6, 7, 8, 9, 22, 23, 35, 47, 60, 73, 81, 89, 94, 96, 106, 119, 129, 141, 151, 169, 186] ?_; dsimp only [H.keep, H.look, H.Fr.put, Nat.beq]) | (refine Gt.move ?_; refine RW.y (Y.move rfl) rfl ?_) | (refine Gt.assign ?_; refine RW.y (Y.assign rfl) rfl ?_) | (refine Gt.load ?_; (refine RW.y (Y.loadB rfl (by assumption) rfl) rfl ?_)) | (refine Gt.fieldAddr ?_; refine RW.y (Y.fieldAddr rfl (by rfl)) rfl ?_) | (refine Gt.nilck ?_; refine RW.y (Y.nilck rfl) rfl ?_))
  refine RW.elemN rfl rfl rfl rfl hls (by omega) (by omega) (fun p => ?_)
  have h6 : (List.take 6 (List.drop ((at' : Int).toNat * 6) LN)) = ln 8 1000 := by rcases ha with rfl | rfl <;> rfl
  rw [h6]
  refine RW.varN rfl rfl rfl (fun z hz => LN_one z (by have hz' : z ∈ ln 8 1000 := by simpa using hz
                                                       simp only [LN, List.mem_append]; exact .inl (.inl (.inl hz')))) rfl (fun w1 hb1 hk1 hl1 => ?_)
  have hm1 := hk1.at0 hm
  have hmo1 := hk1.at0 hmo
  have hls1 := hls.keep0 hk1
  have hz1 := hk1.size
  repeat' (first | (refine CL.seq ?_) | (refine CL.region ?_) | (refine Gt.nil ?_; refine RW.nilw [0, 1, 4, 5, 6, 7, 8, 9, 22, 23, 35, 47, 60, 73, 81, 89, 94, 96, 106, 119, 129, 141, 151, 169, 186] ?_; dsimp only [H.keep, H.look, H.Fr.put, Nat.beq]) | (refine Gt.move ?_; refine RW.y (Y.move rfl) rfl ?_) | (refine Gt.load ?_; (refine RW.y (Y.loadB rfl (by assumption) rfl) rfl ?_)) | (refine Gt.fieldAddr ?_; refine RW.y (Y.fieldAddr rfl (by rfl)) rfl ?_))
  refine RW.fn rfl rfl ((textNil g w1).mono ?_)
  rintro e w2 ⟨rfl, rfl⟩
  repeat' (first | (refine CL.seq ?_) | (refine CL.region ?_) | (refine CL.condP rfl (fun _ => ?_) (fun _ => ?_) <;> try (exfalso; omega)) | (refine CL.block ?_) | (refine Gt.nil ?_; refine RW.nilw [0, 1, 4, 5, 6, 7, 8, 9, 22, 23, 35, 47, 60, 73, 81, 89, 94, 96, 106, 119, 129, 141, 151, 169, 186] ?_; dsimp only [H.keep, H.look, H.Fr.put, Nat.beq]) | (refine Gt.assign ?_; refine RW.y (Y.assign rfl) rfl ?_) | (refine Gt.load ?_; (refine RW.y (Y.loadB rfl (by assumption) rfl) rfl ?_)) | (refine Gt.fieldAddr ?_; refine RW.y (Y.fieldAddr rfl (by rfl)) rfl ?_) | (refine Gt.eql ?_; (refine RW.y (Y.eqi rfl rfl) rfl ?_)))
  refine CL.draw (fun w' => Kept (fun k => k = oc) w2 w') (by kernel_rfl) (fun w3 hheap hk3 => ?_)
  have hS : Kept (fun k => k = oc) w2 w3 := hk3.mono fun k c => c.elim
  have hne : ¬ (w.heap.size = oc) := by omega
  skip
  refine AW.take 0 rfl (by kernel_rfl) (by kernel_rfl) (by kernel_rfl) rfl (by assumption) (fun w hS => Y.move rfl) ?_
  refine AW.take 1 rfl (by kernel_rfl) (by kernel_rfl) (by kernel_rfl) rfl (by assumption) (fun w hS => Y.nilck rfl) ?_
  refine AW.take 2 rfl (by kernel_rfl) (by kernel_rfl) (by kernel_rfl) rfl (by assumption) (fun w hS => Y.fieldAddr rfl (by rfl)) ?_
  refine AW.take 3 rfl (by kernel_rfl) (by kernel_rfl) (by kernel_rfl) rfl (by assumption) (fun w hS => Y.loadB rfl (hS.at hm1 hgo) rfl) ?_
  refine AW.take 4 rfl (by kernel_rfl) (by kernel_rfl) (by kernel_rfl) rfl (by assumption) (fun w hS => Y.move rfl) ?_
  refine AW.take 5 rfl (by kernel_rfl) (by kernel_rfl) (by kernel_rfl) rfl (by assumption) (fun w hS => Y.fieldAddr rfl (by rfl)) ?_
  refine AW.take 6 rfl (by kernel_rfl) (by kernel_rfl) (by kernel_rfl) rfl (by assumption) (fun w hS => Y.loadB rfl (hS.at hb1 hne) rfl) ?_
  refine AW.take 7 rfl (by kernel_rfl) (by kernel_rfl) (by kernel_rfl) rfl (by assumption) (fun w hS => Y.idxS rfl rfl (by omega) (by omega)) ?_
  refine AW.next 8 rfl (by kernel_rfl) ?_
  refine RW.storeB (g := oc) (j := 0 + ((at' : Int)).toNat * 1) rfl rfl rfl (hk3.at0 hmo1) (by simp [hml]; omega) (fun w4 ho4 hk4 => ?_)
  have hS := hS.trans hk4 (fun k h => .inl h)
  have hb4 := hS.at hb1 hne
  refine RW.nil (Nm.then ⟨hS, ?_⟩)
  skip
  refine AW.donew [0, 1, 6, 8] (by kernel_rfl) ?_
  dsimp only [H.keep, H.look, H.Fr.put, Nat.beq]
  repeat' (first | (refine CL.seq ?_) | (refine CL.region ?_) | (refine CL.skip ?_) | (refine CL.condP rfl (fun _ => ?_) (fun _ => ?_) <;> try (exfalso; omega)) | (refine CL.ret ?_) | (refine CL.done ?_) | (refine Nm.block ?_) | (refine Gt.nil ?_; refine RW.nilw [0, 1, 4, 5, 6, 7, 8, 9, 22, 23, 35, 47, 60, 73, 81, 89, 94, 96, 106, 119, 129, 141, 151, 169, 186] ?_; dsimp only [H.keep, H.look, H.Fr.put, Nat.beq]) | (refine Gt.move ?_; refine RW.y (Y.move rfl) rfl ?_) | (refine Gt.assign ?_; refine RW.y (Y.assign rfl) rfl ?_) | (refine Gt.load ?_; (refine RW.y (Y.loadB rfl (by assumption) rfl) rfl ?_)) | (refine Gt.fieldAddr ?_; refine RW.y (Y.fieldAddr rfl (by rfl)) rfl ?_) | (refine Gt.add ?_; refine RW.y (Y.add64 rfl rfl (by omega) (by omega)) rfl ?_) | (refine Gt.lss ?_; refine RW.y (Y.lss rfl rfl) rfl ?_))
  have e1 : 0 + ((at' : Int)).toNat * 1 = at' := by omega
  rw [e1] at ho4
  refine FQ.two rfl rfl rfl rfl ⟨rfl, (Kept.of0 hk1).trans hS fun k h => .inl h, ?_⟩
  rw [ho4]
  simp
set_option maxHeartbeats 1000000 in
theorem doEnd {w : World} {g ob oc : Nat} {oa lv tv vv : Value} {ms : List Value} {fu m : Int} (hM : Mc w g ob oc oa lv tv vv ms fu) (hgo : g ≠ oc) {at' h : Nat} (ha : at' = 2 ∧ h = 1 ∨ at' = 3 ∧ h = 0) (hm : ms[h]? = some (iv m)) (hm1 : 1 ≤ m) (hm2 : m ≤ 1000) : Calls Tryz.prog 429 #[.pointer (some ⟨g, 0, none⟩), .int .i64 (at' : Int)] w fun e w' => e = .returned (.tuple #[.int .i64 (if 1 < m then (h : Int) + 1 else (at' : Int) + 1), .int .i64 0]) ∧ Kept (fun k => k = oc) w w' ∧ w'.heap[oc]? = some (.cells (ms.set h (iv (m - 1))).toArray 3 (0, 0)) := by
  obtain ⟨hmm, hhd, hmo, hml, hls⟩ := hM
  have hol := lt_of_at hmo
  refine H.enter Tryz.func429 Tryz.ntmps429 rfl rfl ?_; dsimp only [H.args]
  repeat' (first | (refine CL.seq ?_) | (refine CL.region ?_) | (refine Gt.nil ?_; refine RW.nilw [0, 1, 4, 5, 6, 7, 8, 9, 22, 23, 35, 47, 60, 73, 81, 89, 94, 96, 106, 119, 129, 141, 151, 169, 186] ?_; dsimp only [H.keep, H.look, H.Fr.put, Nat.beq]) | (refine Gt.move ?_; refine RW.y (Y.move rfl) rfl ?_) | (refine Gt.assign ?_; refine RW.y (Y.assign rfl) rfl ?_) | (refine Gt.load ?_; (refine RW.y (Y.loadB rfl (by assumption) rfl) rfl ?_)) | (refine Gt.fieldAddr ?_; refine RW.y (Y.fieldAddr rfl (by rfl)) rfl ?_) | (refine Gt.nilck ?_; refine RW.y (Y.nilck rfl) rfl ?_))
  refine RW.elemN rfl rfl rfl rfl hls (by omega) (by omega) (fun p => ?_)
  have h6 : (List.take 6 (List.drop ((at' : Int).toNat * 6) LN)) = ln 10 0 := by rcases ha with ⟨rfl, rfl⟩ | ⟨rfl, rfl⟩ <;> rfl
  rw [h6]
  refine RW.varN rfl rfl rfl (fun z hz => LN_one z (by have hz' : z ∈ ln 10 0 := by simpa using hz
                                                       simp only [LN, List.mem_append]; exact .inr hz')) rfl (fun w1 hb1 hk1 hl1 => ?_)
  have hmm1 := hk1.at0 hmm
  have hmo1 := hk1.at0 hmo
  have hls1 := hls.keep0 hk1
  have hhd1 := hhd.keep0 hk1
  have hz1 := hk1.size
  have hown : w1.ownsRow 0 3 1 (.slice (some ⟨oc, 0, none⟩) 4 4) 4 ms := own_new (n := 4) (sz := 1) hmo1 (Nat.zero_le _) (by simp [hml]) (by simp [maxLen])
  repeat' (first | (refine CL.seq ?_) | (refine CL.region ?_) | (refine Gt.nil ?_; refine RW.nilw [0, 1, 4, 5, 6, 7, 8, 9, 22, 23, 35, 47, 60, 73, 81, 89, 94, 96, 106, 119, 129, 141, 151, 169, 186] ?_; dsimp only [H.keep, H.look, H.Fr.put, Nat.beq]) | (refine Gt.move ?_; refine RW.y (Y.move rfl) rfl ?_) | (refine Gt.load ?_; (refine RW.y (Y.loadB rfl (by assumption) rfl) rfl ?_)) | (refine Gt.fieldAddr ?_; refine RW.y (Y.fieldAddr rfl (by rfl)) rfl ?_))
  refine RW.fn rfl rfl ((textNil g w1).mono ?_)
  rintro e w2 ⟨rfl, rfl⟩
  have hhe : ([0, 0, 1, 0] : List Int).getD ((at' : Int)).toNat default = (h : Int) := by rcases ha with ⟨rfl, rfl⟩ | ⟨rfl, rfl⟩ <;> rfl
  have hat : (at' : Int) < (([0, 0, 1, 0] : List Int).length : Int) := by simp; omega
  have hk8 : LN[((h : Int)).toNat * 6 + 0]? = some (iv 8) := by rcases ha with ⟨rfl, rfl⟩ | ⟨rfl, rfl⟩ <;> rfl
  have hh4 : h < 2 := by omega
  repeat' (first | (refine CL.seq ?_) | (refine CL.region ?_) | (refine CL.condP rfl (fun _ => ?_) (fun _ => ?_) <;> try (exfalso; omega)) | (refine CL.block ?_) | (refine Gt.nil ?_; refine RW.nilw [0, 1, 4, 5, 6, 7, 8, 9, 22, 23, 35, 47, 60, 73, 81, 89, 94, 96, 106, 119, 129, 141, 151, 169, 186] ?_; dsimp only [H.keep, H.look, H.Fr.put, Nat.beq]) | (refine Gt.move ?_; refine RW.y (Y.move rfl) rfl ?_) | (refine Gt.assign ?_; refine RW.y (Y.assign rfl) rfl ?_) | (refine Gt.load ?_; (refine RW.y (Y.loadB rfl (by assumption) rfl) rfl ?_)) | (refine Gt.fieldAddr ?_; refine RW.y (Y.fieldAddr rfl (by rfl)) rfl ?_) | (refine Gt.nilck ?_; refine RW.y (Y.nilck rfl) rfl ?_) | (refine Gt.eql ?_; (refine RW.y (Y.eqi rfl rfl) rfl ?_)) | (refine Gt.idx ?_; (refine RW.elemM rfl rfl rfl rfl (by assumption) (by omega) (by omega) ?_)))
  rw [hhe]
  refine RW.elemG rfl rfl rfl rfl rfl rfl hls1 (by omega) (by omega) hk8 (fun p q => ?_)
  repeat' (first | (refine CL.seq ?_) | (refine CL.region ?_) | (refine CL.condP rfl (fun _ => ?_) (fun _ => ?_) <;> try (exfalso; omega)) | (refine Gt.nil ?_; refine RW.nilw [0, 1, 4, 5, 6, 7, 8, 9, 22, 23, 35, 47, 60, 73, 81, 89, 94, 96, 106, 119, 129, 141, 151, 169, 186] ?_; dsimp only [H.keep, H.look, H.Fr.put, Nat.beq]) | (refine Gt.move ?_; refine RW.y (Y.move rfl) rfl ?_) | (refine Gt.load ?_; (refine RW.y (Y.loadB rfl (by assumption) rfl) rfl ?_)) | (refine Gt.fieldAddr ?_; refine RW.y (Y.fieldAddr rfl (by rfl)) rfl ?_) | (refine Gt.nilck ?_; refine RW.y (Y.nilck rfl) rfl ?_) | (refine Gt.eql ?_; (refine RW.y (Y.eqi rfl rfl) rfl ?_)))
  refine RW.elem rfl rfl rfl rfl (Sl.of_own hown) (by omega) (by omega) (u := iv m) (by rw [Int.toNat_natCast]; exact hm) ?_
  repeat' ((refine Gt.sub ?_; refine RW.y (Y.sub64 rfl rfl (by omega) (by omega)) rfl ?_))
  refine RW.setEl rfl rfl rfl hown (by omega) (by omega) (fun p => rfl) rfl (fun p w5 ho5 hk5 => ?_)
  have hmm5 := hk5.at hmm1 (fun c => hgo (Option.some.inj c).symm)
  have K5 : Kept (fun k => k = oc) w w5 := (Kept.of0 hk1).trans hk5 fun k h => .inl (Option.some.inj h).symm
  have ho6 : w5.heap[oc]? = some (.cells (ms.set h (iv (m - 1))).toArray 3 (0, 0)) := by
    rcases ho5.2 with ⟨c, _⟩ | ⟨g', cap', cur, e', hb', hg', h1', h2', h3', h4'⟩
    · cases c
    · injection e' with e1 e2 e3
      injection e1 with e1
      injection e1 with e1
      subst e1; subst e3
      rw [hg', ← Int.toNat_natCast h, ← h4']
      rw [List.take_of_length_le (by rw [Array.length_toList]; omega)]
  repeat' (first | (refine CL.seq ?_) | (refine CL.region ?_) | (refine Gt.nil ?_; refine RW.nilw [0, 1, 4, 5, 6, 7, 8, 9, 22, 23, 35, 47, 60, 73, 81, 89, 94, 96, 106, 119, 129, 141, 151, 169, 186] ?_; dsimp only [H.keep, H.look, H.Fr.put, Nat.beq]) | (refine Gt.move ?_; refine RW.y (Y.move rfl) rfl ?_) | (refine Gt.load ?_; (refine RW.y (Y.loadB rfl (by assumption) rfl) rfl ?_)) | (refine Gt.fieldAddr ?_; refine RW.y (Y.fieldAddr rfl (by rfl)) rfl ?_) | (refine Gt.nilck ?_; refine RW.y (Y.nilck rfl) rfl ?_))
  refine RW.elem rfl rfl rfl rfl (Sl.of_own ho5) (by omega) (by omega) (u := iv (m - 1)) (by rw [Int.toNat_natCast]; exact List.getElem?_set_self (by omega)) ?_
  by_cases h1m : 1 < m
  · repeat' (first | (refine CL.seq ?_) | (refine CL.region ?_) | (refine CL.condP rfl (fun _ => ?_) (fun _ => ?_) <;> try (exfalso; omega)) | (refine CL.ret ?_) | (refine Rt.block ?_) | (refine Gt.nil ?_; refine RW.nilw [0, 1, 4, 5, 6, 7, 8, 9, 22, 23, 35, 47, 60, 73, 81, 89, 94, 96, 106, 119, 129, 141, 151, 169, 186] ?_; dsimp only [H.keep, H.look, H.Fr.put, Nat.beq]) | (refine Gt.move ?_; refine RW.y (Y.move rfl) rfl ?_) | (refine Gt.assign ?_; refine RW.y (Y.assign rfl) rfl ?_) | (refine Gt.add ?_; refine RW.y (Y.add64 rfl rfl (by omega) (by omega)) rfl ?_) | (refine Gt.gtr ?_; refine RW.y (Y.gtr rfl rfl) rfl ?_))
    exact FQ.two rfl rfl rfl rfl ⟨by rw [if_pos h1m], K5, ho6⟩
  · repeat' (first | (refine CL.seq ?_) | (refine CL.region ?_) | (refine CL.skip ?_) | (refine CL.condP rfl (fun _ => ?_) (fun _ => ?_) <;> try (exfalso; omega)) | (refine CL.ret ?_) | (refine CL.done ?_) | (refine Nm.block ?_) | (refine Gt.nil ?_; refine RW.nilw [0, 1, 4, 5, 6, 7, 8, 9, 22, 23, 35, 47, 60, 73, 81, 89, 94, 96, 106, 119, 129, 141, 151, 169, 186] ?_; dsimp only [H.keep, H.look, H.Fr.put, Nat.beq]) | (refine Gt.move ?_; refine RW.y (Y.move rfl) rfl ?_) | (refine Gt.assign ?_; refine RW.y (Y.assign rfl) rfl ?_) | (refine Gt.add ?_; refine RW.y (Y.add64 rfl rfl (by omega) (by omega)) rfl ?_) | (refine Gt.gtr ?_; refine RW.y (Y.gtr rfl rfl) rfl ?_))
    exact FQ.two rfl rfl rfl rfl ⟨by rw [if_neg h1m], K5, ho6⟩
end Go.Proofs.YtoafcnecjgnbmaaGreatDoor.E

set_option linter.constructorNameAsVariable false
set_option linter.unusedVariables false
namespace Go.Proofs.YtoafcnecjgnbmaaGreatDoor.E
open Go Go.RowKit H
attribute [local irreducible] H.CL H.RW H.CW H.Yd H.thenK H.blockQ Go.Calls
noncomputable def lnA1 (k n : Nat) : List AV := [.int .i64 (.ofNat k), .str [], .str [], .str [], .int .i64 (.ofNat n), .bool false]
/-- The four lines. -/
noncomputable def lnA : List AV := [.int .i64 (.ofNat 8), .str [], .str [], .str [], .int .i64 (.ofNat 1000), .bool false, .int .i64 (.ofNat 8), .str [], .str [], .str [], .int .i64 (.ofNat 1000), .bool false, .int .i64 (.ofNat 10), .str [], .str [], .str [], .int .i64 (.ofNat 0), .bool false, .int .i64 (.ofNat 10), .str [], .str [], .str [], .int .i64 (.ofNat 0), .bool false]
theorem lnA_real (r : Ren) : reals r lnA = some LN := by
  have hs : real r (.str []) = some (.string (B [])) := str_real (s := []) rfl
  have one : ∀ (k n : Nat) (l : List AV) (us : List Value), reals r l = some us → reals r ([.int .i64 (.ofNat k), .str [], .str [], .str [], .int .i64 (.ofNat n), .bool false] ++ l) = some (ln k n ++ us) := fun k n l us h =>
    reals_cons.2 ⟨_, _, rfl, reals_cons.2 ⟨_, _, hs, reals_cons.2 ⟨_, _, hs, reals_cons.2 ⟨_, _, hs, reals_cons.2 ⟨_, _, rfl, reals_cons.2 ⟨_, _, rfl, h, rfl⟩, rfl⟩, rfl⟩, rfl⟩, rfl⟩, rfl⟩
  exact one 8 1000 _ _ (one 8 1000 _ _ (one 10 0 _ _ (one 10 0 [] [] reals_nil)))
/-- Lines in memory. -/
def LnAt (w : World) (lv : Value) : Prop := ∃ q c fz, lv = .slice (some ⟨q, 0, none⟩) 4 (c.size / 6) ∧ w.heap[q]? = some (.cells c 567 fz) ∧ c.toList.take 24 = LN ∧ 24 ≤ c.size ∧ c.size / 6 ≤ maxLen
theorem LnAt.keep0 {w w' : World} {lv : Value} (h : LnAt w lv) (k : K0 w w') : LnAt w' lv := by
  obtain ⟨q, c, fz, h1, h2, h3⟩ := h
  exact ⟨q, c, fz, h1, k.at0 h2, h3⟩
theorem LnAt.sl {w : World} {lv : Value} (h : LnAt w lv) : Sl w 6 lv 4 LN := by
  obtain ⟨q, c, fz, rfl, h2, h3, h4, h5⟩ := h
  refine ⟨rfl, by omega, .inr ⟨q, 0, c.size / 6, c, _, fz, rfl, h2, by omega, h5, by omega, ?_⟩⟩
  simpa using h3
noncomputable def lnH : Hp := (⟨101, .e⟩ : Hp).put 100 (some (.cells 567 true true lnA))
theorem lnH_at {i : Nat} (hi : i < LIM) : lnH.at i = if 100 = i then some (.cells 567 true true lnA) else none := by
  unfold lnH
  rw [Hp.at_put (by decide) hi]
  simp only [Hp.at, Tr.get_e]
theorem lnR_rel {w : World} {q : Nat} {c : Array Value} {fz : Nat × Nat} (hq : w.heap[q]? = some (.cells c 567 fz)) (h3 : c.toList.take 24 = LN) (h4 : 24 ≤ c.size) : Rel (fun _ => False) w 101 (bldR (q, c.size)) lnH w := by
  have hl := lt_of_at hq
  have only : ∀ i p, (bldR (q, c.size)) i = some p → i = 100 ∧ p = (q, c.size) := fun i p h => by
    replace h : (if i = 100 then some (q, c.size) else none) = some p := h
    split at h
    · cases h; exact ⟨by assumption, rfl⟩
    · cases h
  refine ⟨fun a b ha hab => ?_, fun a b x y x' y' ha hb hx hy hx' hy' e => ?_, fun a ha => ?_, (show 101 ≤ LIM by decide), fun a x ha hx => ?_, fun a x ha hx => ?_, fun a x hx => ?_, Kept.refl _ _, ⟨Nat.le_refl _, (show GLB ≤ 101 by decide)⟩, fun a ha => ?_, fun a ha => ?_, fun a ha hl => ?_⟩
  · have ha : a < 101 := ha
    rw [lnH_at (Nat.lt_trans ha (by decide))] at hab
    by_cases q1 : 100 = a
    · subst q1
      rw [if_pos rfl] at hab; cases hab
      exact ⟨(q, c.size), rfl, c, fz, LN, hq, rfl, lnA_real _, h3.symm, h4, (fun z => by cases z), fun z => by cases z⟩
    · rw [if_neg q1] at hab; cases hab
  · rw [(only _ _ hx').1, (only _ _ hy').1]
  · have ha : 101 ≤ a := ha
    show (if a = 100 then some (q, c.size) else none) = none
    rw [if_neg (by omega)]
  · have := (only _ _ hx).1; have ha : a < 100 := ha; omega
  · have := (only _ _ hx).1; omega
  · rw [(only _ _ hx).2]; exact hl
  · have ha : a < 100 := ha
    refine ⟨?_, Nat.lt_trans ha (show 100 < 101 by decide)⟩
    show (if a = 100 then some (q, c.size) else none) = none
    rw [if_neg (by omega)]
  · have ha : a < 101 := ha
    rcases Nat.lt_or_ge a 100 with z | z
    · exact .inl z
    · obtain rfl : a = 100 := by omega
      exact .inr ⟨(q, c.size), rfl⟩
  · have ha : 101 ≤ a := ha
    rw [lnH_at hl, if_neg (by omega)]
noncomputable def findC (v : AV) (h : Hp) : Bool := match v with
  | .agg [.sl _ _ _ _, .sl j 0 4 4] => ask (Nat.ble 101 j) <| cellsK h j fun _ _ _ cs => avEq (.agg cs) (.agg [.int .i64 (.ofNat 0), .int .i64 (.ofNat 0), .int .i64 (.ofNat 1), .int .i64 (.ofNat 0)])
  | _ => false
theorem findCK (b : Bool) : callK P0 101 FU (tab []) (dr0 101) 50 428 [.slx 100 0 4 6] lnH (fun v h => ask (findC v h) b) (fun _ _ => false) = b := by kernel_rfl
theorem findOk (w : World) {lv : Value} (hl : LnAt w lv) : Calls Tryz.prog 428 #[lv] w fun e w' => K0 w w' ∧ ∃ p n c ob, e = .returned (.agg #[.slice p n c, .slice (some ⟨ob, 0, none⟩) 4 4]) ∧ Sl w' 1 (.slice (some ⟨ob, 0, none⟩) 4 4) 4 (([0, 0, 1, 0] : List Int).map iv) ∧ w.heap.size ≤ ob := by
  obtain ⟨q, c, fz, rfl, h2, h3, h4, h5⟩ := hl
  have hc : CallOk P0 101 (callK P0 101 FU (tab []) (dr0 101) 50) := callK_ok (tab_ok (fun x hx => by cases hx)) (dr0_ok 101) regs0 50
  rcases hc _ _ _ _ _ (findCK true) with ⟨v, h', hv, hC⟩ | ⟨_, _, hk, _⟩
  · obtain ⟨hv, _⟩ := ask_ok hv
    unfold findC at hv
    split at hv
    · rename_i i o n j hvv
      obtain ⟨hj, hv⟩ := ask_ok hv
      have hj := ble_le hj
      obtain ⟨t, op, ro, cs, hb, hv⟩ := cellsK_ok hv
      have hv := avEq_ok _ _ hv
      injection hv with hv
      subst hv
      have rq : bldR (q, c.size) 100 = some (q, c.size) := rfl
      refine (hC _ w _ w _ (lnR_rel h2 h3 h4) (reals_cons.2 ⟨.slice (some ⟨q, 0, none⟩) 4 (c.size / 6), [], ?_, reals_nil, rfl⟩)).mono ?_
      · simp only [real, rq, Option.bind_some]
        rw [if_pos ⟨by decide, by omega, by simpa using h5⟩]
        rfl
      · rintro e w' ⟨r', x, rfl, _, hR', hx⟩
        refine ⟨hR'.kept, ?_⟩
        simp only [real, Option.map_eq_some_iff] at hx
        obtain ⟨us, hus, rfl⟩ := hx
        obtain ⟨u1, u2, hu1, hu2, rfl⟩ := reals2 hus
        obtain ⟨p1, hp1, rfl⟩ := real_sl hu1
        obtain ⟨p2, hp2, rfl⟩ := real_sl hu2
        obtain ⟨cc, fz', vs, g1, g2, g3, g4, g5, _⟩ := hR'.at hp2 hb
        have hvs : vs = ([0, 0, 1, 0] : List Int).map iv := by
          have : reals r' [.int .i64 (.ofNat 0), .int .i64 (.ofNat 0), .int .i64 (.ofNat 1), .int .i64 (.ofNat 0)] = some (([0, 0, 1, 0] : List Int).map iv) := reals_cons.2 ⟨_, _, rfl, reals_cons.2 ⟨_, _, rfl, reals_cons.2 ⟨_, _, rfl, reals_cons.2 ⟨_, _, rfl, reals_nil, rfl⟩, rfl⟩, rfl⟩, rfl⟩
          exact Option.some.inj (g3.symm.trans this)
        have g5 : 4 ≤ p2.2 := g5
        refine ⟨_, _, _, p2.1, rfl, ⟨by simp, by simp [maxLen], .inr ⟨p2.1, 0, 4, cc, t, fz', rfl, g1, Nat.le_refl _, by simp [maxLen], by omega, ?_⟩⟩, ?_⟩
        · rw [← hvs, g4]; rfl
        · rcases hR'.may j p2 hj hp2 with z | z
          · exact z.elim
          · exact z
    · cases hv
  · cases hk
abbrev lineB : Nm := textOf [108, 105, 110, 101]
abbrev twoB : Nm := textOf [50]
noncomputable def wrapC (v : AV) (h : Hp) : Bool := match v with
  | .ifc t (.ptr j 0) => ask (Nat.beq t 351) (ask (Nat.ble 100 j) (cellsK h j fun t2 op ro cs => ask (Nat.beq t2 353) (ife op false (ife ro false (avEq (.agg cs) (.agg [.str [108, 105, 110, 101], .str [50], .ifc 51 (.int .i64 (.ofNat 73))]))))))
  | _ => false
theorem wrapCK (b : Bool) : callK P0 100 FU (tab []) (dr0 100) 50 209 [.str [108, 105, 110, 101], .str [50], .ifc 51 (.int .i64 (.ofNat 73))] ⟨100, .e⟩ (fun v h => ask (wrapC v h) b) (fun _ _ => false) = b := by kernel_rfl
abbrev fuelE : Value := .iface 51 (.int .i64 73)
theorem wrapOk (w : World) : Calls Tryz.prog 209 #[.string (B lineB), .string (B twoB), fuelE] w fun e w' => K0 w w' ∧ ∃ fp fz, e = .returned (.iface 351 (.pointer (some ⟨fp, 0, none⟩))) ∧ w'.heap[fp]? = some (.cells #[.string (B lineB), .string (B twoB), fuelE] 353 fz) ∧ (fz.1 = fz.2 ∨ 3 ≤ fz.1) ∧ w.heap.size ≤ fp := by
  have hc : CallOk P0 100 (callK P0 100 FU (tab []) (dr0 100) 50) := callK_ok (tab_ok (fun x hx => by cases hx)) (dr0_ok 100) regs0 50
  have hfl : ∀ r : Ren, reals r [.str [108, 105, 110, 101], .str [50], .ifc 51 (.int .i64 (.ofNat 73))] = some [.string (B lineB), .string (B twoB), fuelE] := fun r => reals_cons.2 ⟨_, _, str_real rfl, reals_cons.2 ⟨_, _, str_real rfl, reals_cons.2 ⟨fuelE, _, rfl, reals_nil, rfl⟩, rfl⟩, rfl⟩
  rcases hc _ _ _ _ _ (wrapCK true) with ⟨v, h', hv, hC⟩ | ⟨_, _, hk, _⟩
  · obtain ⟨hv, _⟩ := ask_ok hv
    unfold wrapC at hv
    split at hv
    · rename_i t j hvv
      obtain ⟨ht, hv⟩ := ask_ok hv
      have ht := Nat.eq_of_beq_eq_true ht
      obtain ⟨hj, hv⟩ := ask_ok hv
      have hj := ble_le hj
      obtain ⟨t2, op, ro, cs, hb, hv⟩ := cellsK_ok hv
      obtain ⟨ht2, hv⟩ := ask_ok hv
      have ht2 := Nat.eq_of_beq_eq_true ht2
      rcases ife_ok hv with ⟨_, hv⟩ | ⟨hop, hv⟩
      · cases hv
      rcases ife_ok hv with ⟨_, hv⟩ | ⟨hro, hv⟩
      · cases hv
      have hv := avEq_ok _ _ hv
      injection hv with hv
      subst hv
      subst ht; subst ht2
      refine (hC _ w _ w _ (relE (fun _ => 0) w) (hfl _)).mono ?_
      rintro e w' ⟨r', x, rfl, _, hR', hx⟩
      refine ⟨hR'.kept, ?_⟩
      simp only [real, Option.map_eq_some_iff] at hx
      obtain ⟨u, hu, rfl⟩ := hx
      obtain ⟨p, hp, rfl⟩ := hu
      obtain ⟨cc, fz, vs, g1, g2, g3, g4, g5, g6, g7⟩ := hR'.at hp hb
      have e1 : vs = [.string (B lineB), .string (B twoB), fuelE] := Option.some.inj (g3.symm.trans (hfl r'))
      have g6 : 3 = p.2 := g6 hop
      have e2 : cc = #[.string (B lineB), .string (B twoB), fuelE] := by
        apply Array.ext'
        have g4 : vs = cc.toList.take 3 := g4
        rw [List.take_of_length_le (by rw [Array.length_toList]; omega)] at g4
        rw [← g4, e1]
      rw [e2] at g1
      refine ⟨p.1, fz, rfl, g1, ?_, ?_⟩
      · rcases g7 hro with z | z
        · exact .inl z
        · exact .inr (by omega)
      · rcases hR'.may j p hj hp with z | z
        · exact z.elim
        · exact z
    · cases hv
  · cases hk
theorem itoaK (b : Bool) : valB (callK P0 100 FU (tab []) (dr0 100) 50) 430 ([.int .i64 (.ofNat 2)], .str [50]) b = b := by kernel_rfl
theorem itoaOk (w : World) : Calls Tryz.prog 430 #[.int .i64 2] w fun e w' => K0 w w' ∧ e = .returned (.string (B twoB)) := by
  have hc : CallOk P0 100 (callK P0 100 FU (tab []) (dr0 100) 50) := callK_ok (tab_ok (fun x hx => by cases hx)) (dr0_ok 100) regs0 50
  refine ((valB_ok hc (itoaK true)) (rE fun _ => 0) w [.int .i64 2] (reals_cons.2 ⟨_, _, rfl, reals_nil, rfl⟩)).mono ?_
  rintro e w' ⟨u, rfl, hk, hu⟩
  obtain ⟨_, rfl⟩ := real_str hu
  exact ⟨hk, rfl⟩
end Go.Proofs.YtoafcnecjgnbmaaGreatDoor.E

