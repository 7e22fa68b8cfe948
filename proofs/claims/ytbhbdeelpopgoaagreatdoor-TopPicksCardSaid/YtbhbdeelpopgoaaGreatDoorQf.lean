/-
  Places of bytes in texts, how often a byte stands there: what the functions of the library yield. Contracts of the shelf of the kit at this translation, in plain words. Written by a program of the kit. strings.Join, by the shelf's contract. Rows that are read as slices that can be read; strings.Join. Functions that are told by themselves and change memory; (*strings.Builder).copyCheck. strings.LastIndexByte and strings.Split at one byte. A text parted at a byte: plain. strings.Split at one byte. strings.SplitSeq at one byte. strings.SplitSeq at one byte, as an evaluator sees it. strings.SplitSeq at two bars, its loop's body leaving the library's variable as it is. strings.SplitSeq at two bars, as an evaluator sees it. Contracts of the shelf of the kit on sorted keys at this translation, in plain words. Written by a program of the kit. slices.Sorted(maps.Keys(m)), as an evaluator sees it. slices.Sorted(maps.Keys(m)) among the functions that are told by themselves. slices.Sorted(maps.Keys(m)) where the keys are integers; the closures over keys that are laid. Functions that yield a row they have made, in whatever order the parts of it came: its blocks are given names in one order. Arrays built; a number's bits turned. Bytes of a text: of a constant one, of any. Rows that grow, whose elements point at memory of their own. Rows cut in two, and joined anew. Rows of bytes held against themselves. Comparisons whose answer is known by a name; a block written in part. Regions that draw their order: one of several may come next. Regions that draw their order and end in writes: what is read before the writes yields what it yields in every world before them. Rows whose beginning was cut off, and that go on growing. disk.New: a disk of many sectors, as an evaluator sees it.
-/
import Derived.Test.YtbhbdeelpopgoaaGreatDoorQe
import Derived.Shelf.Strings.OnBuilder
import Derived.Shelf.Strings.Search3
import Derived.Shelf.Strings.Shaped
import Derived.Ground.Names2Prog
import Derived.Ground.SlgnProg
import Derived.Ground.SlgmProg
import Derived.Test.YtbhbdeelpopgoaaGreatDoorProg
import Derived.Lib.Bytealg
import Derived.Lib.Index
import Derived.Lib.IndexMore
import Derived.Shelf.SlIter.Nil
import Derived.Shelf.SlIterI.Nil
import Derived.Shelf.SortM.Plain
import Derived.Shelf.SortM.SortNone
import Derived.Ground.GgzProg
import Derived.Sort.Walk0
import Derived.Lib.ConvBytes
import Derived.Lib.SlBytesConst
import Derived.ChangeKeysEq
import Derived.Laws.StructEq
set_option linter.unusedVariables false
set_option linter.unusedSimpArgs false
set_option linter.constructorNameAsVariable false
set_option linter.unusedVariables false
namespace Go.Proofs.YtbhbdeelpopgoaaGreatDoor.E
open Go Go.RowKit H
attribute [local irreducible] H.CL H.RW H.CW H.Yd H.thenK H.blockQ Go.Calls
theorem idxK_step(x:Nat)(s:List Nat)(c i:Nat)(k:Int→Bool):(List.rec (motive:=fun _=>Nat→Bool) (fun _=>k (.negSucc 0)) (fun x _ ih i=>ife (Nat.beq x c) (k (.ofNat i)) (natK (Nat.succ i) ih)) (x::s) i:Bool)=ife (Nat.beq x c) (k (.ofNat i)) (List.rec (motive:=fun _=>Nat→Bool) (fun _=>k (.negSucc 0)) (fun x _ ih i=>ife (Nat.beq x c) (k (.ofNat i)) (natK (Nat.succ i) ih)) s (i+1)):=by
 show ife _ _ (natK _ _)=_
 rw[natK_eq]
theorem ofNat_inj8{x c:Nat}(hx:x < 256)(hc:c < 256):UInt8.ofNat x=UInt8.ofNat c↔x=c:=by
 constructor
 ·intro h
  have:=congrArg UInt8.toNat h
  simpa [UInt8.toNat_ofNat',Nat.mod_eq_of_lt hx,Nat.mod_eq_of_lt hc] using this
 ·rintro rfl; rfl
theorem idxK_go{c:Nat}(hc:c < 256){k:Int→Bool}: ∀(s:List Nat) (i:Nat),(List.rec (motive:=fun _=>Nat→Bool) (fun _=>k (.negSucc 0)) (fun x _ ih i=>ife (Nat.beq x c) (k (.ofNat i)) (natK (Nat.succ i) ih)) s i:Bool)=true→∃z,k z=true∧(Bytes s→z=if Go.Lib.indexByte (textOf s) (UInt8.ofNat c) = -1 then -1 else Go.Lib.indexByte (textOf s) (UInt8.ofNat c)+i)
 | [],i,h=>⟨_,h,fun _=>rfl⟩
 | x::s,i,h=>by
  rw[idxK_step] at h
  have hge:=Go.Lib.indexByte_ge (textOf s) (UInt8.ofNat c)
  rcases ife_ok h with ⟨hb,h2⟩|⟨hb,h2⟩
  ·obtain rfl:=Nat.eq_of_beq_eq_true hb
   refine⟨_,h2,fun ha=>?_⟩
   have e:Go.Lib.indexByte (textOf (x::s)) (UInt8.ofNat x)=0:=by simp[textOf,Go.Lib.indexByte]
   rw[e,if_neg (by decide)]
   simp
  ·obtain⟨z,hz,h3⟩:=idxK_go hc s (i+1) h2
   refine⟨z,hz,fun ha=>?_⟩
   have hx:x < 256:=(bytes_cons.1 ha).1
   have h3:=h3 (bytes_cons.1 ha).2
   have hne : ¬x=c:=fun e=>by subst e; simp at hb
   have hu:(UInt8.ofNat x == UInt8.ofNat c)=false:=beq_false_of_ne fun e=>hne ((ofNat_inj8 hx hc).1 e)
   have e:Go.Lib.indexByte (textOf (x::s)) (UInt8.ofNat c)=if Go.Lib.indexByte (textOf s) (UInt8.ofNat c) = -1 then -1 else Go.Lib.indexByte (textOf s) (UInt8.ofNat c)+1:=by
    have e1:Go.Lib.indexByte (textOf (x::s)) (UInt8.ofNat c)=if UInt8.ofNat x == UInt8.ofNat c then 0 else if Go.Lib.indexByte (textOf s) (UInt8.ofNat c) == -1 then -1 else Go.Lib.indexByte (textOf s) (UInt8.ofNat c)+1:=rfl
    rw[e1,hu]
    by_cases q:Go.Lib.indexByte (textOf s) (UInt8.ofNat c) = -1 <;> simp[q]
   rw[e]
   by_cases q:Go.Lib.indexByte (textOf s) (UInt8.ofNat c) = -1
   ·rw[if_pos q] at h3; rw[if_pos q,if_pos rfl]; exact h3
   ·rw[if_neg q] at h3; rw[if_neg q,if_neg (by omega)]; omega
theorem idxK_ok{s:List Nat}{c:Nat}(hc:c < 256){k:Int→Bool}(h:idxK s c k=true): ∃z,k z=true∧(Bytes s→z=S.idx (UInt8.ofNat c) (textOf s)):=by
 obtain⟨z,hz,h2⟩:=idxK_go hc s 0 h
 refine⟨z,hz,fun ha=>?_⟩
 rw[h2 ha]
 unfold S.idx
 by_cases q:Go.Lib.indexByte (textOf s) (UInt8.ofNat c) = -1
 ·rw[if_pos q,q]
 ·rw[if_neg q]; simp
theorem cntK_step(x:Nat)(s:List Nat)(c i:Nat)(k:Nat→Bool):(List.rec (motive:=fun _=>Nat→Bool) k (fun x _ ih i=>ife (Nat.beq x c) (natK (Nat.succ i) ih) (ih i)) (x::s) i:Bool)=ife (Nat.beq x c) (List.rec (motive:=fun _=>Nat→Bool) k (fun x _ ih i=>ife (Nat.beq x c) (natK (Nat.succ i) ih) (ih i)) s (i+1)) (List.rec (motive:=fun _=>Nat→Bool) k (fun x _ ih i=>ife (Nat.beq x c) (natK (Nat.succ i) ih) (ih i)) s i):=by
 show ife _ (natK _ _) _=_
 rw[natK_eq]
theorem cntK_go{c:Nat}{k:Nat→Bool}: ∀(s:List Nat) (i:Nat),(List.rec (motive:=fun _=>Nat→Bool) k (fun x _ ih i=>ife (Nat.beq x c) (natK (Nat.succ i) ih) (ih i)) s i:Bool)=true→∃z,k z=true∧(Bytes s→c < 256→z=(textOf s).count (UInt8.ofNat c)+i)
 | [],i,h=>⟨i,h,fun _ _=>by simp[textOf]⟩
 | x::s,i,h=>by
  rw[cntK_step] at h
  rcases ife_ok h with ⟨hb,h2⟩|⟨hb,h2⟩
  ·obtain rfl:=Nat.eq_of_beq_eq_true hb
   obtain⟨z,hz,h3⟩:=cntK_go s (i+1) h2
   refine⟨z,hz,fun ha hc=>?_⟩
   have e:(textOf (x::s)).count (UInt8.ofNat x)=(textOf s).count (UInt8.ofNat x)+1:=by simp[textOf]
   rw[e,h3 (bytes_cons.1 ha).2 hc]
   omega
  ·obtain⟨z,hz,h3⟩:=cntK_go s i h2
   refine⟨z,hz,fun ha hc=>?_⟩
   have hx:x < 256:=(bytes_cons.1 ha).1
   have hne : ¬x=c:=fun e=>by subst e; simp at hb
   have hu:(UInt8.ofNat x == UInt8.ofNat c)=false:=beq_false_of_ne fun e=>hne ((ofNat_inj8 hx hc).1 e)
   have e:(textOf (x::s)).count (UInt8.ofNat c)=(textOf s).count (UInt8.ofNat c):=by
    simp only[textOf,List.map_cons,List.count_cons,hu]; simp
   rw[e,h3 (bytes_cons.1 ha).2 hc]
theorem natI_ok{z:Int}{k:Nat→Bool}(h:natI z k=true): ∃n:Nat,z=n∧k n=true:=by
 cases z with
 | ofNat n=>exact⟨n,rfl,h⟩
 | negSucc n=>cases h
theorem oneB_ok{t:List Nat}{k:Nat→Bool}(h:oneB t k=true): ∃c,t=[c]∧k c=true:=by
 cases t with
 | nil=>cases h
 | cons c r=>cases r with
  | nil=>exact⟨c,rfl,h⟩
  | cons _ _=>cases h
theorem idxP_ok{f:FuncId}(H : ∀(l:List UInt8) (c:UInt8) (w:World),Calls Tryz.prog f #[vs l,vb c] w fun e w'=>w=w'∧e = .returned (.int .i64 (S.idx c l))){fl:Nat}:Pr1 Tryz.prog fl f fun _ vs h kr _=>idxP vs h fun v=>kr v h:=by
 refine Pr1.val fun ps h k hk=>?_
 obtain⟨a,b,rfl,hk⟩:=two2_ok hk
 obtain⟨s,rfl,hk⟩:=qStr_ok (x:=a) hk
 obtain⟨i,z,rfl,hk⟩:=qInt_ok (x:=b) hk
 obtain⟨hi,hk⟩:=ask_ok hk
 obtain rfl:=kEq_ok hi
 obtain⟨c,rfl,hk⟩:=natI_ok hk
 obtain⟨hc,hk⟩:=ask_ok hk
 have hc:=blt_lt hc
 obtain⟨z,hz,hq⟩:=idxK_ok hc hk
 refine⟨_,hz,fun S' w0 r w xs hR hxs=>?_⟩
 obtain⟨x,y,hx,hy,rfl⟩:=reals2 hxs
 obtain⟨ha,rfl⟩:=real_str hx
 obtain rfl:=real_int hy
 obtain rfl:=hq ha
 have e:(.int .u8 (c:Int):Value)=vb (UInt8.ofNat c):=by
  simp[vb,UInt8.toNat_ofNat',Nat.mod_eq_of_lt hc]
 rw[e]
 refine(H (textOf s) (UInt8.ofNat c) w).mono ?_
 rintro e w' ⟨rfl,rfl⟩
 exact⟨_,rfl,Kept.refl _ _,rfl⟩
theorem cnt1P_ok{f:FuncId}(H : ∀(l:List UInt8) (c:UInt8) (w:World),Calls Tryz.prog f #[vs l,vs [c]] w fun e w'=>w=w'∧e = .returned (.int .i64 (l.count c:Nat))){fl:Nat}:Pr1 Tryz.prog fl f fun _ vs h kr _=>cnt1P vs h fun v=>kr v h:=by
 refine Pr1.val fun ps h k hk=>?_
 obtain⟨a,b,rfl,hk⟩:=two2_ok hk
 obtain⟨s,rfl,hk⟩:=qStr_ok (x:=a) hk
 obtain⟨t,rfl,hk⟩:=qStr_ok (x:=b) hk
 obtain⟨c,rfl,hk⟩:=oneB_ok hk
 obtain⟨z,hz,hq⟩:=cntK_go s 0 hk
 refine⟨_,hz,fun S' w0 r w xs hR hxs=>?_⟩
 obtain⟨x,y,hx,hy,rfl⟩:=reals2 hxs
 obtain⟨ha,rfl⟩:=real_str hx
 obtain⟨hb,rfl⟩:=real_str hy
 have hc:=(bytes_cons.1 hb).1
 obtain rfl:=hq ha hc
 refine(H (textOf s) (UInt8.ofNat c) w).mono ?_
 rintro e w' ⟨rfl,rfl⟩
 exact⟨_,rfl,Kept.refl _ _,rfl⟩
theorem pr_106{fl:Nat}:Pr1 Tryz.prog fl 104 fun _ vs h kr _=>idxP vs h fun v=>kr v h:=by
 refine idxP_ok fun l c w=>?_
 refine H.enter Tryz.func104 Tryz.ntmps104 rfl rfl ?_; dsimp only[H.args]
 repeat' (first|(refine CL.seq ?_)|(refine CL.region ?_)|(refine Gt.nil ?_; refine RW.nilw [0,1,4] ?_; dsimp only[H.keep,H.look,H.Fr.put,Nat.beq])|(refine Gt.assign ?_; refine RW.y (Y.assign rfl) rfl ?_)|(refine Gt.move ?_; refine RW.y (Y.move rfl) rfl ?_))
 refine RW.fn rfl rfl ((S.sliteIndexByte l c w).mono ?_)
 rintro e w1 ⟨rfl,rfl⟩
 repeat' (first|(refine CL.ret ?_)|(refine Gt.nil ?_; refine RW.nilw [0,1,4] ?_; dsimp only[H.keep,H.look,H.Fr.put,Nat.beq])|(refine Gt.assign ?_; refine RW.y (Y.assign rfl) rfl ?_))
 exact FQ.one rfl rfl rfl ⟨rfl,rfl⟩
theorem pr_162{fl:Nat}:Pr1 Tryz.prog fl 159 fun _ vs h kr _=>idxP vs h fun v=>kr v h:=idxP_ok S.sliteIndexByte
theorem pr_179{fl:Nat}:Pr1 Tryz.prog fl 176 fun _ vs h kr _=>cnt1P vs h fun v=>kr v h:=cnt1P_ok S.count
end Go.Proofs.YtbhbdeelpopgoaaGreatDoor.E

namespace Go.Proofs
open Go.Shelf
def Tryz.lays156_ren:Go.Shelf.Ren:=⟨fun|156=>430|165=>497|166=>458|169=>460|240=>509|241=>526|276=>531|277=>545|n=>n,fun|31=>39|9=>9|3=>3|4=>4|0=>0|20=>20|72=>598|76=>375|70=>596|37=>22|75=>201|127=>623|164=>435|5=>5|80=>178|n=>n,fun|n=>n⟩
theorem Tryz.lays156:Go.Proofs.Lays.n156 Tryz.prog Tryz.lays156_ren:={
 mixed:=by kernel_rfl
 f156:=Tryz.func430.trans (congrArg some (by kernel_rfl))
 f165:=Tryz.func497.trans (congrArg some (by kernel_rfl))
 f166:=Tryz.func458.trans (congrArg some (by kernel_rfl))
 f169:=Tryz.func460.trans (congrArg some (by kernel_rfl))
 f240:=Tryz.func509.trans (congrArg some (by kernel_rfl))
 f241:=Tryz.func526.trans (congrArg some (by kernel_rfl))
 f276:=Tryz.func531.trans (congrArg some (by kernel_rfl))
 f277:=Tryz.func545.trans (congrArg some (by kernel_rfl))
 t0:=Tryz.underlying0
 a0:=Tryz.isAgg0
 z0:=Tryz.sizeOf0
 v0:=Tryz.zeroValue0
 t3:=Tryz.underlying3
 a3:=Tryz.isAgg3
 z3:=Tryz.sizeOf3
 v3:=Tryz.zeroValue3
 t4:=Tryz.underlying4
 a4:=Tryz.isAgg4
 z4:=Tryz.sizeOf4
 v4:=Tryz.zeroValue4
 t9:=Tryz.underlying9
 a9:=Tryz.isAgg9
 z9:=Tryz.sizeOf9
 v9:=Tryz.zeroValue9
 t20:=Tryz.underlying20
 a20:=Tryz.isAgg20
 z20:=Tryz.sizeOf20
 v20:=Tryz.zeroValue20
 t31:=Tryz.underlying39
 a31:=Tryz.isAgg39
 z31:=Tryz.sizeOf39
 v31:=Tryz.zeroValue39
 t37:=Tryz.underlying22
 a37:=Tryz.isAgg22
 z37:=Tryz.sizeOf22
 v37:=Tryz.zeroValue22
 t70:=Tryz.underlying596
 a70:=Tryz.isAgg596
 z70:=Tryz.sizeOf596
 v70:=Tryz.zeroValue596
 t72:=Tryz.underlying598
 a72:=Tryz.isAgg598
 z72:=Tryz.sizeOf598
 v72:=Tryz.zeroValue598
 t75:=Tryz.underlying201
 a75:=Tryz.isAgg201
 z75:=Tryz.sizeOf201
 v75:=Tryz.zeroValue201
 t76:=Tryz.underlying375
 a76:=Tryz.isAgg375
 z76:=Tryz.sizeOf375
 v76:=Tryz.zeroValue375
 t127:=Tryz.underlying623
 a127:=Tryz.isAgg623
 z127:=Tryz.sizeOf623
 v127:=Tryz.zeroValue623
 t164:=Tryz.underlying435
 a164:=Tryz.isAgg435
 z164:=Tryz.sizeOf435
 v164:=Tryz.zeroValue435}
theorem Tryz.Builder_Extra_156:Builder.Extra Tryz.prog Tryz.lays156_ren:={
 sizeBuilder:=by kernel_rfl
 liesBuilder:=by kernel_rfl
 t5:=Tryz.underlying5
 a5:=Tryz.isAgg5
 z5:=Tryz.sizeOf5
 v5:=Tryz.zeroValue5
 infoByte:=by kernel_rfl
 cellsByte:=by kernel_rfl
 sizeByte:=by kernel_rfl
 neB5:=by decide}
open Go.RowKit in
theorem Tryz.strings_Join_none(a:Option Addr)(c:Nat)(sep:ByteArray)(w:World):
  Calls Tryz.prog 430 #[.slice a 0 c,.string sep] w fun e w'=>e = .returned (.string ⟨#[]⟩)∧w'=w:=Any.strings_Join_none Tryz.lays156 Tryz.Builder_Extra_156 a c sep w
open Go.RowKit in
theorem Tryz.strings_Join(bk o c:Nat)(xs:List ByteArray)(sep:ByteArray)(w:World)(hcells : ∀(j:Nat) x,xs[j]?=some x→w.cell? ⟨bk,o+j,none⟩=some (.string x))(hbk:bk < w.heap.size)(hN:xs.length≤140737488355328)(hcap:xs.length≤c)(hlen:(Lib.join (xs.map (·.data.toList)) sep.data.toList).length≤140737488355328):
  Calls Tryz.prog 430 #[.slice (some ⟨bk,o,none⟩) xs.length c,.string sep] w fun e w'=>e = .returned (.string ⟨(Lib.join (xs.map (·.data.toList)) sep.data.toList).toArray⟩)∧Below w.heap.size w w':=Any.strings_Join Tryz.lays156 Tryz.Builder_Extra_156 bk o c xs sep w hcells hbk hN hcap hlen
def Tryz.lays143_ren:Go.Shelf.Ren:=⟨fun|143=>177|219=>178|217=>159|225=>251|224=>252|267=>253|266=>241|314=>332|n=>n,fun|9=>9|3=>3|4=>4|5=>5|46=>130|146=>456|51=>137|n=>n,fun|1=>0|n=>n⟩
theorem Tryz.lays143:Go.Proofs.Lays.n143 Tryz.prog Tryz.lays143_ren:={
 mixed:=by kernel_rfl
 f143:=Tryz.func177.trans (congrArg some (by kernel_rfl))
 f217:=Tryz.func159.trans (congrArg some (by kernel_rfl))
 f219:=Tryz.func178.trans (congrArg some (by kernel_rfl))
 f224:=Tryz.func252.trans (congrArg some (by kernel_rfl))
 f225:=Tryz.func251.trans (congrArg some (by kernel_rfl))
 f266:=Tryz.func241.trans (congrArg some (by kernel_rfl))
 f267:=Tryz.func253.trans (congrArg some (by kernel_rfl))
 f314:=Tryz.func332.trans (congrArg some (by kernel_rfl))
 t3:=Tryz.underlying3
 a3:=Tryz.isAgg3
 z3:=Tryz.sizeOf3
 v3:=Tryz.zeroValue3
 t4:=Tryz.underlying4
 a4:=Tryz.isAgg4
 z4:=Tryz.sizeOf4
 v4:=Tryz.zeroValue4
 t5:=Tryz.underlying5
 a5:=Tryz.isAgg5
 z5:=Tryz.sizeOf5
 v5:=Tryz.zeroValue5
 t9:=Tryz.underlying9
 a9:=Tryz.isAgg9
 z9:=Tryz.sizeOf9
 v9:=Tryz.zeroValue9
 t46:=Tryz.underlying130
 a46:=Tryz.isAgg130
 z46:=Tryz.sizeOf130
 v46:=Tryz.zeroValue130
 t51:=Tryz.underlying137
 a51:=Tryz.isAgg137
 z51:=Tryz.sizeOf137
 v51:=Tryz.zeroValue137
 t146:=Tryz.underlying456
 a146:=Tryz.isAgg456
 z146:=Tryz.sizeOf456
 v146:=Tryz.zeroValue456
 g1:=by kernel_rfl}
open Go.RowKit Go.Lib in
theorem Tryz.strings_Index(s sub:ByteArray)(m:Int)(w:World)(hs:s.size < 4294967281)(hm:w.cell? ⟨0,0,none⟩=some (.int .i64 m)):
  Calls Tryz.prog 177 #[.string s,.string sub] w fun e w'=>e = .returned (.int .i64 (Lib.index s.data.toList sub.data.toList))∧w'=w:=Any.strings_Index Tryz.lays143 s sub m w hs hm
end Go.Proofs

namespace Go.Proofs.YtbhbdeelpopgoaaGreatDoor.S
open Go.RowKit H
theorem strings_data(l:List (List UInt8)):(l.map B).map (·.data.toList)=l:=by
 rw[List.map_map]
 conv=>rhs; rw[←List.map_id l]
 exact List.map_congr_left fun a _=>rfl
theorem join(v:Value)(l:List (List UInt8))(sep:List UInt8)(w:World)(hs:Sl w 1 v l.length (sv l))(hlen:(Go.Lib.join l sep).length≤140737488355328)(hl:l.length≤140737488355328):
  Calls Tryz.prog 430 #[v,vs sep] w fun e w'=>e = .returned (vs (Go.Lib.join l sep))∧K0 w w':=by
 rcases hs.2.2 with ⟨p,rfl,h0⟩|⟨g,off,cap,cur,e,fz,rfl,hg,hn,hm,ho,ht⟩
 ·have:l=[]:=List.eq_nil_of_length_eq_zero h0
  subst this
  refine(Tryz.strings_Join_none p 0 (B sep) w).mono fun e w' ⟨he,hw⟩=>⟨he,?_⟩
  rw[hw]; exact Kept.refl _ _
 ·have h:=Tryz.strings_Join g off cap (l.map B) (B sep) w (fun j x hj=>by
    rw[List.getElem?_map,Option.map_eq_some_iff] at hj
    obtain⟨s,hs',rfl⟩:=hj
    have hc:=hs.cell (j:=j) (u:=vs s) (by rw[List.getElem?_map,hs']; rfl)
    simpa [Value.spot,addr_add] using hc) (lt_of_at hg) (by rw[List.length_map]; exact hl) (by rw[List.length_map]; exact hn) (by rw[strings_data]; exact hlen)
  rw[strings_data,List.length_map] at h
  exact h.mono fun e w' ⟨he,hb⟩=>⟨he,Kept.of_below hb⟩
end Go.Proofs.YtbhbdeelpopgoaaGreatDoor.S

set_option linter.constructorNameAsVariable false
set_option linter.unusedVariables false
namespace Go.Proofs.YtbhbdeelpopgoaaGreatDoor.E
open Go Go.RowKit H
attribute [local irreducible] H.CL H.RW H.CW H.Yd H.thenK H.blockQ Go.Calls
noncomputable def slK(z:Nat)(v:AV)(h:Hp)(k:Nat→List AV→Bool):Bool:=match v with
 | .nils=>k 0 []
 | .sl i o n c=>ask (Nat.ble n c) (ask (Nat.ble c maxLen) (cellsK h i fun _ _ _ cs=>lenK cs fun e=>ask (Nat.ble (Nat.add o (Nat.mul c z)) e) (dropK cs o fun l=>takeK l (Nat.mul n z) fun l=>k n l)))
 | .slx i o n y=>ask (Nat.beq y z) (cellsK h i fun _ _ _ cs=>dropK cs o fun l=>takeK l (Nat.mul n z) fun l=>lenK l fun m=>ask (Nat.beq m (Nat.mul n z)) (k n l))
 | _=>false
theorem ble_of{a b:Nat}(h:Nat.ble a b=true):a≤b:=Nat.le_of_ble_eq_true h
theorem slK_ok{z:Nat}{v:AV}{h:Hp}{k:Nat→List AV→Bool}(hk:slK z v h k=true): ∃m l,k m l=true∧∀S w0 fl r w u,Rel S w0 fl r h w→real r v=some u→∃us,reals r l=some us∧Sl w z u m us:=by
 cases v with
 | nils=>
  refine⟨0,[],hk,fun S w0 fl r w u hR hu=>⟨[],reals_nil,?_⟩⟩
  cases hu
  exact Sl.nil w z
 | sl i o n c=>
  obtain⟨h1,hk⟩:=ask_ok hk
  obtain⟨h2,hk⟩:=ask_ok hk
  obtain⟨t,opn,ro,cs,hb,hk⟩:=cellsK_ok hk
  rw[lenK_eq] at hk
  obtain⟨h3,hk⟩:=ask_ok hk
  rw[dropK_eq,takeK_eq] at hk
  replace h1:=ble_of h1
  replace h2:=ble_of h2
  replace h3:o+c * z≤cs.length:=ble_of h3
  refine⟨n,_,hk,fun S w0 fl r w u hR hu=>?_⟩
  obtain⟨p,hp,rfl⟩:=real_sl hu
  obtain⟨cc,fz,us,g1,g2,g3,g4,g5,g6⟩:=hR.at hp hb
  have hnc:n * z≤c * z:=Nat.mul_le_mul_right z h1
  have hus:=reals_take (n * z) (reals_drop o g3)
  refine⟨_,hus,?_,Nat.le_trans h1 h2,.inr ⟨p.1,o,c,cc,t,fz,rfl,g1,h1,h2,?_,?_⟩⟩
  ·rw[List.length_take,List.length_drop,reals_len g3]; omega
  ·omega
  ·rw[g4,List.drop_take,List.take_take]
   congr 1
   rw[Nat.min_eq_left]
   show n * z≤cs.length - o
   omega
 | slx i o n y=>
  obtain⟨h1,hk⟩:=ask_ok hk
  obtain⟨t,opn,ro,cs,hb,hk⟩:=cellsK_ok hk
  rw[dropK_eq,takeK_eq,lenK_eq] at hk
  obtain⟨h3,hk⟩:=ask_ok hk
  obtain rfl:=Nat.eq_of_beq_eq_true h1
  replace h3:((cs.drop o).take (n * y)).length=n * y:=Nat.eq_of_beq_eq_true h3
  refine⟨n,_,hk,fun S w0 fl r w u hR hu=>?_⟩
  obtain⟨p,hp,hy,h4,h5,rfl⟩:=real_slx hu
  obtain⟨cc,fz,us,g1,g2,g3,g4,g5,g6⟩:=hR.at hp hb
  have hus:=reals_take (n * y) (reals_drop o g3)
  have hn:n≤(p.2 - o) / y:=(Nat.le_div_iff_mul_le hy).2 (by omega)
  refine⟨_,hus,(reals_len hus).trans h3,Nat.le_trans hn h5,.inr ⟨p.1,o,_,cc,t,fz,rfl,g1,hn,h5,?_,?_⟩⟩
  ·have:=Nat.div_mul_le_self (p.2 - o) y
   rcases Nat.lt_or_ge p.2 o with c|c
   ·have e:p.2 - o=0:=by omega
    rw[e,Nat.zero_div] at hn ⊢
    omega
   ·omega
  ·rw[List.length_take,List.length_drop] at h3
   rw[g4,List.drop_take,List.take_take]
   congr 1
   rw[Nat.min_eq_left]
   omega
 | _=>cases hk
noncomputable def joinL(sep:List Nat)(l:List AV):(List Nat→Bool)→Bool:=List.rec (motive:=fun _=>(List Nat→Bool)→Bool) (fun k=>k []) (fun x t ih k=>qStr x fun a=>List.rec (motive:=fun _=>Bool) (k a) (fun _ _ _=>ih fun r=>catK sep r fun r=>catK a r k) t) l
theorem join_two(a b:List UInt8)(l:List (List UInt8))(sep:List UInt8):Go.Lib.join (a::b::l) sep=a++(sep++Go.Lib.join (b::l) sep):=by
 simp[Go.Lib.join,List.intercalate]
theorem joinL_ok{sep:List Nat}: ∀{l:List AV} {k:List Nat→Bool},joinL sep l k=true→∃s,k s=true∧∀r us,reals r l=some us→∃ts,us=sv ts∧(Bytes sep→textOf s=Go.Lib.join ts (textOf sep)∧Bytes s)
 | [],k,h=>⟨[],h,fun r us hu=>by
   rw[reals_nil] at hu; cases hu
   exact⟨[],rfl,fun _=>⟨rfl,rfl⟩⟩⟩
 | [x],k,h=>by
  obtain⟨a,rfl,hk⟩:=qStr_ok (x:=x) h
  refine⟨a,hk,fun r us hu=>?_⟩
  obtain⟨u,hx,rfl⟩:=reals1 hu
  obtain⟨ha,rfl⟩:=real_str hx
  exact⟨[textOf a],rfl,fun _=>⟨by simp[Go.Lib.join_one],ha⟩⟩
 | x::y::l,k,h=>by
  obtain⟨a,rfl,hk⟩:=qStr_ok (x:=x) h
  obtain⟨s,hs,h2⟩:=joinL_ok (l:=y::l) hk
  rw[catK_eq,catK_eq] at hs
  refine⟨_,hs,fun r us hu=>?_⟩
  obtain⟨u,t,hx,hl,rfl⟩:=reals_cons.1 hu
  obtain⟨ha,rfl⟩:=real_str hx
  obtain⟨ts,rfl,h3⟩:=h2 r t hl
  refine⟨textOf a::ts,rfl,fun hb=>?_⟩
  obtain⟨h4,h5⟩:=h3 hb
  have hn:ts≠[]:=fun c=>by
   subst c
   have:=reals_len hl
   simp at this
  obtain⟨b,ts,rfl⟩:=List.exists_cons_of_ne_nil hn
  rw[join_two,text_app,text_app,h4]
  refine⟨rfl,?_⟩
  simp only[Bytes,List.all_append,Bool.and_eq_true] at *
  exact⟨ha,hb,h5⟩
noncomputable def joinP(vs:List AV)(h:Hp)(k:AV→Bool):Bool:=two2 vs fun a b=>slK 1 a h fun n xs=>ask (Nat.ble n 140737488355328) (qStr b fun sep=>joinL sep xs fun s=>lenK s fun m=>ask (Nat.ble m 140737488355328) (k (.str s)))
theorem pr_433{fl:Nat}:Pr1 Tryz.prog fl 430 fun _ vs h kr _=>joinP vs h fun v=>kr v h:=by
 refine Pr1.val fun ps h k hk=>?_
 obtain⟨a,b,rfl,hk⟩:=two2_ok hk
 replace hk:slK 1 a h (fun n xs=>ask (Nat.ble n 140737488355328) (qStr b fun sep=>joinL sep xs fun s=>lenK s fun m=>ask (Nat.ble m 140737488355328) (k (.str s))))=true:=hk
 obtain⟨n,xs,hk,hS⟩:=slK_ok hk
 obtain⟨hn,hk⟩:=ask_ok hk
 obtain⟨sep,rfl,hk⟩:=qStr_ok (x:=b) hk
 replace hk:joinL sep xs (fun s=>lenK s fun m=>ask (Nat.ble m 140737488355328) (k (.str s)))=true:=hk
 obtain⟨s,hk,hj⟩:=joinL_ok hk
 rw[lenK_eq] at hk
 obtain⟨hm,hk⟩:=ask_ok hk
 refine⟨_,hk,fun S' w0 r w ys hR hys=>?_⟩
 obtain⟨x,y,hx,hy,rfl⟩:=reals2 hys
 obtain⟨hb,rfl⟩:=real_str hy
 obtain⟨us,hus,hsl⟩:=hS _ _ _ _ _ _ hR hx
 obtain⟨ts,rfl,hj⟩:=hj r us hus
 obtain⟨h1,h2⟩:=hj hb
 have hlen:n=ts.length:=by simpa using hsl.len.symm
 subst hlen
 refine(S.join x ts (textOf sep) w hsl (by rw[←h1,text_len]; exact ble_of hm) (ble_of hn)).mono ?_
 rintro e w' ⟨rfl,k'⟩
 exact⟨_,rfl,k',by rw[←h1]; simp only[real]; rw[if_pos h2]⟩
end Go.Proofs.YtbhbdeelpopgoaaGreatDoor.E

set_option linter.constructorNameAsVariable false
set_option linter.unusedVariables false
namespace Go.Proofs.YtbhbdeelpopgoaaGreatDoor.E
open Go Go.RowKit H
attribute [local irreducible] H.CL H.RW H.CW H.Yd H.thenK H.blockQ Go.Calls
theorem Pr1.mem{P:Program}{fl:Nat}{f:FuncId}{p:List AV→Hp→KV→Bool}(H : ∀vs h k,p vs h k=true→∃v h',k v h'=true∧∀S w0 r w xs,Rel S w0 fl r h w→reals r vs=some xs→Calls P f xs.toArray w fun e w'=>∃r' x,e = .returned x∧Ext r r'∧Rel S w0 fl r' h' w'∧real r' v=some x):Pr1 P fl f fun _ vs h kr _=>p vs h kr:=by
 intro call _ g vs h kr kp hk
 rcases ife_ok hk with ⟨hb,hk2⟩|⟨_,hk2⟩
 ·obtain rfl:=Nat.eq_of_beq_eq_true hb
  exact .inl (H vs h _ hk2)
 ·cases hk2
noncomputable def ccP(fl:Nat)(ty:TypeId)(vs:List AV)(h:Hp)(k:KV):Bool:=one1 vs fun v=>qPtr v fun i o=>ask (Nat.beq o 0) (cellsK h i fun t op ro cs=>match cs with
 | [.nilp,b]=>ask (Nat.ble fl i) (ask (Nat.beq t ty) (ife op false (ife ro false (putH h i (.cells t op ro [.ptr i 0,b]) fun h=>k (.tup []) h))))
 | [.ptr j 0,_]=>ask (Nat.beq i j) (k (.tup []) h)
 | _=>false)
theorem pr_512{fl:Nat}:Pr1 Tryz.prog fl 509 fun _ vs h kr _=>ccP fl 598 vs h kr:=by
 refine Pr1.mem fun ps h k hk=>?_
 obtain⟨v,rfl,hk⟩:=one1_ok hk
 obtain⟨i,o,rfl,hk⟩:=qPtr_ok (x:=v) hk
 obtain⟨ho,hk⟩:=ask_ok hk
 obtain rfl:=Nat.eq_of_beq_eq_true ho
 obtain⟨t,op,ro,cs,hb,hk⟩:=cellsK_ok hk
 split at hk
 ·rename_i b
  obtain⟨hfl,hk⟩:=ask_ok hk
  obtain⟨ht,hk⟩:=ask_ok hk
  obtain rfl:=Nat.eq_of_beq_eq_true ht
  rcases ife_ok hk with ⟨_,hk⟩|⟨hop,hk⟩
  ·cases hk
  rcases ife_ok hk with ⟨_,hk⟩|⟨hro,hk⟩
  ·cases hk
  rw[putH_eq] at hk
  refine⟨_,_,hk,fun S' w0 r w xs hR hxs=>?_⟩
  obtain⟨x,hx,rfl⟩:=reals1 hxs
  obtain⟨p,hp,rfl⟩:=real_ptr hx
  obtain⟨c,fz,us,e1,e2,e3,e4,e5,e6,e7⟩:=hR.at hp hb
  have h2:p.2=2:=(e6 hop).symm
  obtain⟨u0,l,hu0,hl,rfl⟩:=reals_cons.1 e3
  obtain⟨u1,hu1,rfl⟩:=reals1 hl
  cases hu0
  have hc:c=#[.pointer none,u1]:=by
   apply Array.ext'
   rw[List.take_of_length_le (by simp[e2,h2])] at e4
   exact e4.symm
  subst hc
  have hnf:fz.1=fz.2∨2≤fz.1:=by
   have:=e7 hro
   omega
  refine(Any.Builder_copyCheck_fresh (ρ:=Tryz.lays156_ren) {Tryz.lays156 with} Tryz.Builder_Extra_156.toX72 p.1 w (by simp[World.cell?,e1]) (by simp[World.shape?,e1]; rfl) (by
   simp only[World.frozen?,e1]
   rcases hnf with q|q
   ·simp; omega
   ·simp; omega)).mono ?_
  rintro e w' ⟨rfl,rfl⟩
  refine⟨r,_,rfl,Ext.refl r,hR.put (ble_of hfl) hp hb (Kept.setCell w ⟨p.1,0,none⟩ _) ⟨#[.pointer (some ⟨p.1,0,none⟩),u1],fz,_,H.heap_setCell_same e1 _,h2.symm,reals_cons.2 ⟨_,_,hx,reals_cons.2 ⟨_,_,hu1,reals_nil,rfl⟩,rfl⟩,by simp,by rw[h2]; exact Nat.le_refl 2,fun _=>h2.symm,e7⟩,by simp[real,reals]⟩
 ·rename_i j b
  obtain⟨hj,hk2⟩:=ask_ok hk
  obtain rfl:=Nat.eq_of_beq_eq_true hj
  refine⟨_,_,hk2,fun S' w0 r w xs hR hxs=>?_⟩
  obtain⟨x,hx,rfl⟩:=reals1 hxs
  obtain⟨p,hp,rfl⟩:=real_ptr hx
  obtain⟨c,fz,us,e1,e2,e3,e4,e5,e6,e7⟩:=hR.at hp hb
  obtain⟨u0,l,hu0,hl,rfl⟩:=reals_cons.1 e3
  obtain⟨q,hq,rfl⟩:=real_ptr hu0
  rw[hp] at hq; cases hq
  refine(Any.Builder_copyCheck_used (ρ:=Tryz.lays156_ren) {Tryz.lays156 with} Tryz.Builder_Extra_156.toX72 p.1 w ?_).mono ?_
  ·have:c.toList[0]?=some (.pointer (some ⟨p.1,0,none⟩)):=by
    have h0:(c.toList.take 2)[0]?=c.toList[0]?:=by simp
    obtain⟨u1,hu1,rfl⟩:=reals1 hl
    have e4':[Value.pointer (some ⟨p.1,0,none⟩),u1]=c.toList.take 2:=e4
    rw[←h0,←e4']; rfl
   simp only[World.cell?,e1]
   simpa using this
  ·rintro e w' ⟨rfl,rfl⟩
   exact⟨r,_,rfl,Ext.refl r,hR,by simp[real,reals]⟩
 ·cases hk
end Go.Proofs.YtbhbdeelpopgoaaGreatDoor.E

namespace Go.Proofs.YtbhbdeelpopgoaaGreatDoor.S
open Go.RowKit H
attribute [local irreducible] H.CL H.RW H.CW H.Yd H.thenK H.blockQ Go.Calls
def lastIdxA(c:UInt8)(l:List UInt8):Nat→Int
 | 0=>-1
 | n+1=>if l.getD n 0=c then (n:Int) else lastIdxA c l n
end Go.Proofs.YtbhbdeelpopgoaaGreatDoor.S

namespace Go.Proofs.YtbhbdeelpopgoaaGreatDoor.S
def splitB(c:UInt8):List UInt8→List (List UInt8)
 | []=>[[]]
 | x::r=>if x=c then []::splitB c r else (x::(splitB c r).headD [])::(splitB c r).tail
theorem split_idx(c:UInt8): ∀(l:List UInt8),(Go.Lib.indexByte l c = -1∧l.count c=0∧splitB c l=[l])∨
  ∃m:Nat,Go.Lib.indexByte l c=(m:Int)∧m < l.length∧l.count c=(l.drop (m+1)).count c+1∧splitB c l=l.take m::splitB c (l.drop (m+1)):=by
 intro l
 induction l with
 | nil=>exact .inl ⟨rfl,rfl,rfl⟩
 | cons x r ih=>
  by_cases hx:x=c
  ·subst hx
   refine .inr ⟨0,?_,by simp,by simp,?_⟩
   ·simp[Go.Lib.indexByte]
   ·simp[splitB]
  ·have hx':(x == c)=false:=by simpa using hx
   rcases ih with ⟨h1,h2,h3⟩|⟨m,h1,h2,h3,h4⟩
   ·refine .inl ⟨?_,?_,?_⟩
    ·simp[Go.Lib.indexByte,hx',h1]
    ·rw[List.count_cons,hx',h2]; rfl
    ·rw[splitB,if_neg hx,h3]; rfl
   ·refine .inr ⟨m+1,?_,by simpa using h2,?_,?_⟩
    ·have:((m:Int) == -1)=false:=by rw[beq_eq_false_iff_ne]; omega
     simp[Go.Lib.indexByte,hx',h1,this]
    ·rw[List.count_cons,hx',h3]; rfl
    ·rw[splitB,if_neg hx,h4]; rfl
theorem splitB_len(c:UInt8): ∀(l:List UInt8),(splitB c l).length=l.count c+1:=by
 intro l
 induction l with
 | nil=>rfl
 | cons x r ih=>
  rw[splitB,List.count_cons]
  by_cases hx:x=c
  ·rw[if_pos hx,List.length_cons,ih]; simp[hx]
  ·have hx':(x == c)=false:=by simpa using hx
   rw[if_neg hx,hx',List.length_cons,List.length_tail,ih]; rfl
theorem splitB_ne(c:UInt8)(l:List UInt8):splitB c l≠[]:=fun h=>by have:=splitB_len c l; rw[h] at this; simp at this
end Go.Proofs.YtbhbdeelpopgoaaGreatDoor.S

namespace Go.Proofs.YtbhbdeelpopgoaaGreatDoor.S
open Go.RowKit H
attribute [local irreducible] H.CL H.RW H.CW H.Yd H.thenK H.blockQ Go.Calls
abbrev strT:TypeId:=9
theorem set_rep(done:List (List UInt8))(x:List UInt8)(k:Nat):(sv done++List.replicate (k+1) (vs [])).set done.length (vs x)=sv (done++[x])++List.replicate k (vs []):=by
 rw[List.set_append_right _ _ (by simp)]
 simp[List.replicate_succ]
set_option maxHeartbeats 1000000 in
theorem genSplit(l:List UInt8)(c:UInt8)(hl:l.length≤1000000)(w:World):Calls Tryz.prog 117 #[vs l,vs [c],.int .i64 0,.int .i64 (-1)] w fun e w'=>∃v',e = .returned v'∧w'.ownsRow w.heap.size strT 1 v' (splitB c l).length (sv (splitB c l))∧K0 w w':=by
 have hcl:l.count c≤l.length:=List.count_le_length
 have hmin:min ((l.count c:Int)+1) ((l.length:Int)+1)=((l.count c+1:Nat):Int):=by omega
 have hlen:=splitB_len c l
 refine H.enter Tryz.func117 Tryz.ntmps117 rfl rfl ?_; dsimp only[H.args]
 repeat' (first|(refine CL.seq ?_)|(refine CL.region ?_)|(refine CL.skip ?_)|(refine CL.condP rfl (fun _=>?_) (fun _=>?_) <;> try (exfalso; omega))|(refine Gt.nil ?_; refine RW.nilw [0,1,2,3,8,9,10,11,13,15,20,36,41] ?_; dsimp only[H.keep,H.look,H.Fr.put,Nat.beq])|(refine Gt.move ?_; refine RW.y (Y.move rfl) rfl ?_)|(refine Gt.assign ?_; refine RW.y (Y.assign rfl) rfl ?_)|(refine Gt.lss ?_; refine RW.y (Y.lss rfl rfl) rfl ?_)|(refine Gt.eql ?_; first|(refine RW.y (Y.eqi rfl rfl) rfl ?_)|(refine RW.y (Y.eqs rfl rfl) rfl ?_)))
 ·rename_i h; cases h
 refine RW.fn rfl rfl ((count l c w).mono ?_)
 rintro e w1 ⟨rfl,rfl⟩
 repeat' (first|(refine CL.seq ?_)|(refine CL.region ?_)|(refine Gt.nil ?_; refine RW.nilw [0,1,2,3,8,9,10,11,13,15,20,36,41] ?_; dsimp only[H.keep,H.look,H.Fr.put,Nat.beq])|(refine Gt.move ?_; refine RW.y (Y.move rfl) rfl ?_)|(refine Gt.assign ?_; refine RW.y (Y.assign rfl) rfl ?_)|(refine Gt.add ?_; refine RW.y (Y.add64 rfl rfl (by omega) (by omega)) rfl ?_)|(refine Gt.len ?_; refine RW.y (Y.lens rfl) rfl ?_)|(refine Gt.call ?_; refine RW.y (Y.min2 rfl rfl) rfl ?_))
 rw[hmin]
 refine RW.make1 rfl rfl rfl rfl (by omega) (by omega) (fun v1 w1 how1 hk1=>?_)
 repeat' (first|(refine CL.seq ?_)|(refine CL.region ?_)|(refine CL.block ?_)|(refine Gt.nil ?_; refine RW.nilw [0,1,2,3,8,9,10,11,13,15,20,36,41] ?_; dsimp only[H.keep,H.look,H.Fr.put,Nat.beq])|(refine Gt.move ?_; refine RW.y (Y.move rfl) rfl ?_)|(refine Gt.assign ?_; refine RW.y (Y.assign rfl) rfl ?_)|(refine Gt.sub ?_; refine RW.y (Y.sub64 rfl rfl (by omega) (by omega)) rfl ?_))
 refine CL.loopS [0,1,2,3,9,10] (fun m vals wr=>∃(i:Nat) (done:List (List UInt8)) (rest:List UInt8),vals=[vs rest,vs [c],.int .i64 0,.int .i64 (l.count c:Int),v1,.int .i64 (i:Int)]∧m=l.count c - i∧rest.count c+i=l.count c∧splitB c l=done++splitB c rest∧done.length=i∧rest.length≤l.length∧wr.ownsRow w.heap.size strT 1 v1 (l.count c+1) (sv done++List.replicate (l.count c - i+1) (vs []))∧K0 w wr) (l.count c) ⟨_,rfl,0,[],l,by simp,rfl,rfl,rfl,rfl,Nat.le_refl _,by simpa using how1,hk1⟩ ?_
 rintro m vals wr ⟨i,done,rest,rfl,rfl,hcnt,hsp,hdl,hrl,how,hk⟩
 dsimp only[List.zip,List.zipWith]
 rcases split_idx c rest with ⟨hi,h0,hs⟩|⟨m,hi,hm,h0,hs⟩
 ·have hin:i=l.count c:=by omega
  subst hin
  repeat' (first|(refine CL.seq ?_)|(refine CL.region ?_)|(refine CL.condP rfl (fun _=>?_) (fun _=>?_) <;> try (exfalso; omega))|(refine CL.exit ?_)|(refine Ex.then ?_)|(refine Ex.hit ?_)|(refine Gt.nil ?_; refine RW.nilw [0,1,2,3,8,9,10,11,13,15,20,36,41] ?_; dsimp only[H.keep,H.look,H.Fr.put,Nat.beq])|(refine Gt.move ?_; refine RW.y (Y.move rfl) rfl ?_)|(refine Gt.lss ?_; refine RW.y (Y.lss rfl rfl) rfl ?_))
  refine RW.setEl rfl rfl rfl how (by omega) (by omega) (fun _=>rfl) rfl (fun p w2 how2 hk2=>?_)
  have hx:(sv done++List.replicate (l.count c - l.count c+1) (vs [])).set ((l.count c:Int)).toNat (vs rest)=sv (splitB c l):=by
   rw[Int.toNat_natCast,←hdl,set_rep,hsp,hs]
   simp
  rw[hx] at how2
  repeat' (first|(refine CL.seq ?_)|(refine CL.region ?_)|(refine Gt.nil ?_; refine RW.nilw [0,1,2,3,8,9,10,11,13,15,20,36,41] ?_; dsimp only[H.keep,H.look,H.Fr.put,Nat.beq])|(refine Gt.move ?_; refine RW.y (Y.move rfl) rfl ?_)|(refine Gt.add ?_; refine RW.y (Y.add64 rfl rfl (by omega) (by omega)) rfl ?_))
  refine RW.ownh rfl rfl rfl how2 (by omega) (by omega) (fun v3 how3 hb3=>?_)
  have hn:(((l.count c:Int))+1).toNat=l.count c+1:=by omega
  rw[hn,Nat.mul_one,←hlen,List.take_of_length_le (by simp)] at how3
  repeat' (first|(refine CL.ret ?_)|(refine Gt.nil ?_; refine RW.nilw [0,1,2,3,8,9,10,11,13,15,20,36,41] ?_; dsimp only[H.keep,H.look,H.Fr.put,Nat.beq])|(refine Gt.assign ?_; refine RW.y (Y.assign rfl) rfl ?_))
  exact FQ.one rfl rfl rfl ⟨v3,rfl,how3,hk.trans hk2 fun k h=> .inr (how.lt k h).1⟩
 ·repeat' (first|(refine CL.seq ?_)|(refine CL.region ?_)|(refine CL.skip ?_)|(refine CL.condP rfl (fun _=>?_) (fun _=>?_) <;> try (exfalso; omega))|(refine CL.block ?_)|(refine Gt.nil ?_; refine RW.nilw [0,1,2,3,8,9,10,11,13,15,20,36,41] ?_; dsimp only[H.keep,H.look,H.Fr.put,Nat.beq])|(refine Gt.move ?_; refine RW.y (Y.move rfl) rfl ?_)|(refine Gt.lss ?_; refine RW.y (Y.lss rfl rfl) rfl ?_))
  refine RW.fn rfl rfl ((index rest c wr).mono ?_)
  rintro e w2 ⟨rfl,rfl⟩
  rw[show idx c rest=(m:Int) from hi]
  have h1:([c]:List UInt8).length=1:=rfl
  repeat' (first|(refine CL.seq ?_)|(refine CL.region ?_)|(refine CL.skip ?_)|(refine CL.condP rfl (fun _=>?_) (fun _=>?_) <;> try (exfalso; omega))|(refine Gt.nil ?_; refine RW.nilw [0,1,2,3,8,9,10,11,13,15,20,36,41] ?_; dsimp only[H.keep,H.look,H.Fr.put,Nat.beq])|(refine Gt.move ?_; refine RW.y (Y.move rfl) rfl ?_)|(refine Gt.assign ?_; refine RW.y (Y.assign rfl) rfl ?_)|(refine Gt.add ?_; refine RW.y (Y.add64 rfl rfl (by omega) (by omega)) rfl ?_)|(refine Gt.lss ?_; refine RW.y (Y.lss rfl rfl) rfl ?_)|(refine Gt.slice ?_; (refine RW.y (Y.cuth rfl rfl (by omega) (by omega)) rfl ?_)))
  refine RW.setEl rfl rfl rfl how (by omega) (by omega) (fun _=>rfl) rfl (fun p w3 how3 hk3=>?_)
  repeat' (first|(refine CL.seq ?_)|(refine CL.region ?_)|(refine CL.done ?_)|(refine Nm.block ?_)|(refine Nm.then ?_)|(refine Gt.nil ?_; refine RW.nilw [0,1,2,3,8,9,10,11,13,15,20,36,41] ?_; dsimp only[H.keep,H.look,H.Fr.put,Nat.beq])|(refine Gt.move ?_; refine RW.y (Y.move rfl) rfl ?_)|(refine Gt.assign ?_; refine RW.y (Y.assign rfl) rfl ?_)|(refine Gt.add ?_; refine RW.y (Y.add64 rfl rfl (by omega) (by omega)) rfl ?_)|(refine Gt.len ?_; refine RW.y (Y.lens rfl) rfl ?_)|(refine Gt.slice ?_; (refine RW.y (Y.cutl rfl rfl (by omega) (by omega)) rfl ?_)))
  have hn1:((m:Int)+0).toNat=m:=by omega
  have hn2:((m:Int)+(([c]:List UInt8).length:Int)).toNat=m+1:=by rw[h1]; omega
  obtain⟨k,hk'⟩ : ∃k,l.count c - i=k+1:=⟨l.count c - i - 1,by omega⟩
  refine⟨l.count c - (i+1),_,rfl,rfl,rfl,by omega,i+1,done++[rest.take m],rest.drop (m+1),by rw[hn2]; simp,rfl,by omega,by rw[hsp,hs]; simp,by simp[hdl],by rw[List.length_drop]; omega,?_,hk.trans hk3 fun k h=> .inr (how.lt k h).1⟩
  rw[Int.toNat_natCast,hn1,hk',←hdl,set_rep] at how3
  have:l.count c - (i+1)+1=k+1:=by omega
  rw[this]
  exact how3
theorem split(l:List UInt8)(c:UInt8)(hl:l.length≤1000000)(w:World):Calls Tryz.prog 87 #[vs l,vs [c]] w fun e w'=>∃v',e = .returned v'∧w'.ownsRow w.heap.size strT 1 v' (splitB c l).length (sv (splitB c l))∧K0 w w':=by
 refine H.enter Tryz.func87 Tryz.ntmps87 rfl rfl ?_; dsimp only[H.args]
 repeat' (first|(refine CL.seq ?_)|(refine CL.region ?_)|(refine Gt.nil ?_; refine RW.nilw [0,1,4] ?_; dsimp only[H.keep,H.look,H.Fr.put,Nat.beq])|(refine Gt.assign ?_; refine RW.y (Y.assign rfl) rfl ?_)|(refine Gt.move ?_; refine RW.y (Y.move rfl) rfl ?_))
 refine RW.fn rfl rfl ((genSplit l c hl w).mono ?_)
 rintro e w1 ⟨v1,rfl,how1,hk1⟩
 repeat' (first|(refine CL.ret ?_)|(refine Gt.nil ?_; refine RW.nilw [0,1,4] ?_; dsimp only[H.keep,H.look,H.Fr.put,Nat.beq])|(refine Gt.assign ?_; refine RW.y (Y.assign rfl) rfl ?_))
 exact FQ.one rfl rfl rfl ⟨_,rfl,how1,hk1⟩
end Go.Proofs.YtbhbdeelpopgoaaGreatDoor.S

namespace Go.Proofs.YtbhbdeelpopgoaaGreatDoor.S
open Go.RowKit H
attribute [local irreducible] H.CL H.RW H.CW H.Yd H.thenK H.blockQ Go.Calls
def SpB(c:UInt8)(l:List UInt8)(bs bt bv:Nat)(W:World):Prop:=
 W.heap[bs]?=some (.cells #[vs [c]] strT (0,0))∧W.heap[bt]?=some (.cells #[vs l] strT (0,0))∧W.heap[bv]?=some (.cells #[.int .i64 0] 3 (0,0))
set_option maxHeartbeats 1000000 in
theorem splitIt(c:UInt8)(l:List UInt8)(hl:l.length≤1000000)(bs bt bv:Nat)(h1:bt≠bs)(h2:bt≠bv):
  SeqC Tryz.prog 339 [.pointer (some ⟨bs,0,none⟩),.pointer (some ⟨bt,0,none⟩),.pointer (some ⟨bv,0,none⟩)] (fun x:List UInt8=>[vs x]) (fun k=>k=bs∨k=bt∨k=bv) (SpB c l bs bt bv) (splitB c l):=by
 intro r J Jx W hpre hJ hJx hy h0
 obtain⟨hbs,hbt,hbv⟩:=hpre
 have hc1:([c]:List UInt8).length=1:=rfl
 have hcs : ∀{k},k=bt→k=bs∨k=bt∨k=bv:=fun h=> .inr (.inl h)
 refine H.enterI Tryz.func339 Tryz.ntmps339 rfl rfl ?_; dsimp only[H.args]
 repeat' (first|(refine CL.seq ?_)|(refine CL.region ?_)|(refine CL.skip ?_)|(refine CL.condP rfl (fun _=>?_) (fun _=>?_) <;> try (exfalso; omega))|(refine CL.block ?_)|(refine Gt.nil ?_; refine RW.nilw [0,1,2,3,6,7,8,11,14,25,33,42] ?_; dsimp only[H.keep,H.look,H.Fr.put,Nat.beq])|(refine Gt.load ?_; refine RW.y (Y.loadB rfl (by assumption) rfl) rfl ?_)|(refine Gt.len ?_; refine RW.y (Y.lens rfl) rfl ?_)|(refine Gt.eql ?_; refine RW.y (Y.eqi rfl rfl) rfl ?_))
 refine CL.loopS [0,1,2,3] (fun m vals wr=>∃(done:List (List UInt8)) (rest:List UInt8),vals=[.func (.yield r) #[] #[],.pointer (some ⟨bs,0,none⟩),.pointer (some ⟨bt,0,none⟩),.pointer (some ⟨bv,0,none⟩)]∧m=rest.length∧splitB c l=done++splitB c rest∧rest.length≤l.length∧J done wr∧SpB c rest bs bt bv wr) l.length ⟨_,rfl,[],l,rfl,rfl,rfl,Nat.le_refl _,h0,hbs,hbt,hbv⟩ ?_
 rintro m vals wr ⟨done,rest,rfl,rfl,hsp,hrl,hJ1,hbs1,hbt1,hbv1⟩
 dsimp only[List.zip,List.zipWith]
 repeat' (first|(refine CL.seq ?_)|(refine CL.region ?_)|(refine CL.block ?_)|(refine Gt.load ?_; refine RW.y (Y.loadB rfl (by assumption) rfl) rfl ?_))
 refine RW.fn rfl rfl ((index rest c wr).mono ?_)
 rintro e w1 ⟨rfl,rfl⟩
 rcases split_idx c rest with ⟨hi,h0',hs⟩|⟨m,hi,hm,h0',hs⟩
 ·rw[show idx c rest = -1 from hi]
  repeat' (first|(refine CL.seq ?_)|(refine CL.region ?_)|(refine CL.condP rfl (fun _=>?_) (fun _=>?_) <;> try (exfalso; omega))|(refine CL.exit ?_)|(refine Ex.then ?_)|(refine Ex.hit ?_)|(refine Ex.miss rfl ?_)|(refine Gt.nil ?_; refine RW.nilw [0,1,2,3,6,7,8,11,14,25,33,42] ?_; dsimp only[H.keep,H.look,H.Fr.put,Nat.beq])|(refine Gt.load ?_; refine RW.y (Y.loadB rfl (by assumption) rfl) rfl ?_)|(refine Gt.move ?_; refine RW.y (Y.move rfl) rfl ?_)|(refine Gt.assign ?_; refine RW.y (Y.assign rfl) rfl ?_)|(refine Gt.lss ?_; refine RW.y (Y.lss rfl rfl) rfl ?_))
  refine RW.yield rfl rfl rfl (hy done rest wr hJ1 ?_) ?_
  ·rw[hsp,hs]; exact List.prefix_rfl
  rw[hs] at hsp
  rintro e w2 (⟨rfl,hJ2,hs2⟩|⟨rfl,hJx2⟩)
  ·repeat' (first|(refine CL.done ?_)|(refine Gt.nil ?_; refine RW.nilw [0,1,2,3,6,7,8,11,14,25,33,42] ?_; dsimp only[H.keep,H.look,H.Fr.put,Nat.beq]))
   exact FQ.norm (FQ.none rfl rfl ⟨⟨_,rfl⟩,.inl (by rw[hsp]; exact hJ2)⟩)
  ·repeat' (first|(refine CL.done ?_)|(refine Gt.nil ?_; refine RW.nilw [0,1,2,3,6,7,8,11,14,25,33,42] ?_; dsimp only[H.keep,H.look,H.Fr.put,Nat.beq]))
   exact FQ.norm (FQ.none rfl rfl ⟨⟨_,rfl⟩,.inr ⟨_,hJx2⟩⟩)
 ·rw[show idx c rest=(m:Int) from hi]
  repeat' (first|(refine CL.seq ?_)|(refine CL.region ?_)|(refine CL.skip ?_)|(refine CL.condP rfl (fun _=>?_) (fun _=>?_) <;> try (exfalso; omega))|(refine Gt.nil ?_; refine RW.nilw [0,1,2,3,6,7,8,11,14,25,33,42] ?_; dsimp only[H.keep,H.look,H.Fr.put,Nat.beq])|(refine Gt.load ?_; refine RW.y (Y.loadB rfl (by assumption) rfl) rfl ?_)|(refine Gt.move ?_; refine RW.y (Y.move rfl) rfl ?_)|(refine Gt.assign ?_; refine RW.y (Y.assign rfl) rfl ?_)|(refine Gt.slice ?_; (refine RW.y (Y.cuth rfl rfl (by omega) (by omega)) rfl ?_))|(refine Gt.add ?_; refine RW.y (Y.add64 rfl rfl (by omega) (by omega)) rfl ?_)|(refine Gt.lss ?_; refine RW.y (Y.lss rfl rfl) rfl ?_))
  have hn1:((m:Int)+0).toNat=m:=by omega
  rw[hn1]
  refine RW.yield rfl rfl rfl (hy done (rest.take m) wr hJ1 ?_) ?_
  ·rw[hsp,hs]; exact⟨splitB c (rest.drop (m+1)),by simp⟩
  rintro e w2 (⟨rfl,hJ2,hs2⟩|⟨rfl,hJx2⟩)
  ·have hbs2:=(hs2.2 bs (.inl rfl)).trans hbs1
   have hbt2:=(hs2.2 bt (.inr (.inl rfl))).trans hbt1
   have hbv2:=(hs2.2 bv (.inr (.inr rfl))).trans hbv1
   repeat' (first|(refine CL.region ?_)|(refine CL.skip ?_)|(refine CL.condF rfl ?_)|(refine Gt.nil ?_; refine RW.nilw [0,1,2,3,6,7,8,11,14,25,33,42] ?_; dsimp only[H.keep,H.look,H.Fr.put,Nat.beq])|(refine Gt.load ?_; refine RW.y (Y.loadB rfl (by assumption) rfl) rfl ?_)|(refine Gt.move ?_; refine RW.y (Y.move rfl) rfl ?_)|(refine Gt.len ?_; refine RW.y (Y.lens rfl) rfl ?_)|(refine Gt.slice ?_; (refine RW.y (Y.cutl rfl rfl (by omega) (by omega)) rfl ?_))|(refine Gt.not ?_; (refine RW.y (Y.notb rfl) rfl ?_))|(refine Gt.add ?_; refine RW.y (Y.add64 rfl rfl (by omega) (by omega)) rfl ?_))
   refine RW.storeB rfl rfl rfl hbt2 (by simp) (fun w3 hbt3 hk3=>?_)
   repeat' (first|(refine CL.done ?_)|(refine Nm.block ?_)|(refine Nm.then ?_)|(refine Gt.nil ?_; refine RW.nilw [0,1,2,3,6,7,8,11,14,25,33,42] ?_; dsimp only[H.keep,H.look,H.Fr.put,Nat.beq]))
   have hn2:((m:Int)+(([c]:List UInt8).length:Int)).toNat=m+1:=by rw[hc1]; omega
   rw[hn2] at hbt3
   refine⟨(rest.drop (m+1)).length,_,rfl,rfl,rfl,by rw[List.length_drop]; omega,done++[rest.take m],rest.drop (m+1),rfl,rfl,by rw[hsp,hs]; simp,by rw[List.length_drop]; omega,hJ _ _ _ hJ2 (hk3.mono fun k h=>hcs h),hk3.at hbs2 (fun h=>h1 h.symm),hbt3,hk3.at hbv2 (fun h=>h2 h.symm)⟩
  ·repeat' (first|(refine CL.condT rfl ?_)|(refine CL.ret ?_)|(refine Rt.then ?_)|(refine Rt.block ?_)|(refine Gt.nil ?_; refine RW.nilw [0,1,2,3,6,7,8,11,14,25,33,42] ?_; dsimp only[H.keep,H.look,H.Fr.put,Nat.beq])|(refine Gt.not ?_; (refine RW.y (Y.notb rfl) rfl ?_)))
   exact FQ.none rfl rfl ⟨⟨_,rfl⟩,.inr ⟨_,hJx2⟩⟩
theorem splitSeq(c:UInt8)(l:List UInt8)(w:World):Calls Tryz.prog 189 #[vs l,vs [c]] w fun e w'=>K0 w w'∧∃bs bt bv,e = .returned (.func (.func 339) #[] #[.pointer (some ⟨bs,0,none⟩),.pointer (some ⟨bt,0,none⟩),.pointer (some ⟨bv,0,none⟩)])∧
  bt≠bs∧bt≠bv∧w.heap.size≤bs∧w.heap.size≤bt∧w.heap.size≤bv∧bs < w'.heap.size∧bt < w'.heap.size∧bv < w'.heap.size∧SpB c l bs bt bv w':=by
 have h : ∀w,Calls Tryz.prog 270 #[vs l,vs [c],.int .i64 0] w fun e w'=>K0 w w'∧∃bs bt bv,e = .returned (.func (.func 339) #[] #[.pointer (some ⟨bs,0,none⟩),.pointer (some ⟨bt,0,none⟩),.pointer (some ⟨bv,0,none⟩)])∧
  bt≠bs∧bt≠bv∧w.heap.size≤bs∧w.heap.size≤bt∧w.heap.size≤bv∧bs < w'.heap.size∧bt < w'.heap.size∧bv < w'.heap.size∧SpB c l bs bt bv w':=by
  intro w
  refine H.enter Tryz.func270 Tryz.ntmps270 rfl rfl ?_; dsimp only[H.args]
  repeat' (first|(refine CL.seq ?_)|(refine CL.region ?_))
  refine RW.box rfl rfl (fun w1 hb1 hk1 hlt1=>?_)
  refine RW.box rfl rfl (fun w2 hb2 hk2 hlt2=>?_)
  refine RW.box rfl rfl (fun w3 hb3 hk3 hlt3=>?_)
  repeat' (first|(refine CL.seq ?_)|(refine CL.region ?_)|(refine CL.ret ?_)|(refine Gt.nil ?_; refine RW.nilw [0,1,2,3,4,5,6] ?_; dsimp only[H.keep,H.look,H.Fr.put,Nat.beq])|(refine Gt.assign ?_; refine RW.y (Y.assign rfl) rfl ?_)|(refine Gt.makeFunc ?_; refine RW.y (Y.makeFunc rfl rfl) rfl ?_))
  have hs1:=hk1.size
  have hs2:=hk2.size
  have hs3:=hk3.size
  exact FQ.one rfl rfl rfl ⟨(hk1.trans0 hk2).trans0 hk3,_,_,_,rfl,by omega,by omega,by omega,by omega,by omega,by omega,by omega,by omega,hk3.at0 hb2,(hk2.trans0 hk3).at0 hb1,hb3⟩
 refine H.enter Tryz.func189 Tryz.ntmps189 rfl rfl ?_; dsimp only[H.args]
 repeat' (first|(refine CL.seq ?_)|(refine CL.region ?_)|(refine Gt.nil ?_; refine RW.nilw [0,1,4] ?_; dsimp only[H.keep,H.look,H.Fr.put,Nat.beq])|(refine Gt.assign ?_; refine RW.y (Y.assign rfl) rfl ?_)|(refine Gt.move ?_; refine RW.y (Y.move rfl) rfl ?_))
 refine RW.fn rfl rfl ((h w).mono ?_)
 rintro e w1 ⟨hk,bs,bt,bv,rfl,hh⟩
 repeat' (first|(refine CL.ret ?_)|(refine Gt.nil ?_; refine RW.nilw [0,1,4] ?_; dsimp only[H.keep,H.look,H.Fr.put,Nat.beq])|(refine Gt.assign ?_; refine RW.y (Y.assign rfl) rfl ?_))
 exact FQ.one rfl rfl rfl ⟨hk,bs,bt,bv,rfl,hh⟩
end Go.Proofs.YtbhbdeelpopgoaaGreatDoor.S

set_option linter.constructorNameAsVariable false
set_option linter.unusedVariables false
namespace Go.Proofs.YtbhbdeelpopgoaaGreatDoor.E
open Go Go.RowKit H
attribute [local irreducible] H.CL H.RW H.CW H.Yd H.thenK H.blockQ Go.Calls
noncomputable def spK(s:List Nat)(c:Nat):(List (List Nat)→Bool)→Bool:=List.rec (motive:=fun _=>(List (List Nat)→Bool)→Bool) (fun k=>k [[]]) (fun x _ ih k=>ask (Nat.blt x 256) (ih fun r=>List.rec (motive:=fun _=>Bool) false (fun a t _=>ife (Nat.beq x c) (k ([]::a::t)) (k ((x::a)::t))) r)) s
theorem spK_ok{c:Nat}: ∀{s:List Nat} {k:List (List Nat)→Bool},spK s c k=true→∃xs,k xs=true∧(∀x∈xs,Bytes x)∧(c < 256→xs.map textOf=S.splitB (UInt8.ofNat c) (textOf s))
 | [],k,h=>⟨[[]],h,fun x hx=>by simp at hx; subst hx; rfl,fun _=>rfl⟩
 | x::s,k,h=>by
  obtain⟨hx,h⟩:=ask_ok (b:=Nat.blt x 256) h
  have hx:=blt_lt hx
  obtain⟨xs,h1,h2,h3⟩:=spK_ok (s:=s) h
  cases xs with
  | nil=>cases h1
  | cons a t=>
   replace h1:ife (Nat.beq x c) (k ([]::a::t)) (k ((x::a)::t))=true:=h1
   rcases ife_ok h1 with ⟨hb,h4⟩|⟨hb,h4⟩
   ·obtain rfl:=Nat.eq_of_beq_eq_true hb
    refine⟨_,h4,fun y hy=>?_,fun hc=>?_⟩
    ·rcases List.mem_cons.1 hy with rfl|hy
     ·rfl
     ·exact h2 y hy
    ·have e:S.splitB (UInt8.ofNat x) (textOf (x::s))=[]::S.splitB (UInt8.ofNat x) (textOf s):=by
      show S.splitB _ (UInt8.ofNat x::textOf s)=_
      rw[S.splitB,if_pos rfl]
     rw[e,←h3 hc]; rfl
   ·refine⟨_,h4,fun y hy=>?_,fun hc=>?_⟩
    ·rcases List.mem_cons.1 hy with rfl|hy
     ·exact bytes_cons.2 ⟨hx,h2 a List.mem_cons_self⟩
     ·exact h2 y (List.mem_cons_of_mem _ hy)
    ·have hne : ¬UInt8.ofNat x=UInt8.ofNat c:=fun e=>by
      rw[(ofNat_inj8 hx hc).1 e] at hb; simp at hb
     have e:S.splitB (UInt8.ofNat c) (textOf (x::s))=(UInt8.ofNat x::(S.splitB (UInt8.ofNat c) (textOf s)).headD [])::(S.splitB (UInt8.ofNat c) (textOf s)).tail:=by
      show S.splitB _ (UInt8.ofNat x::textOf s)=_
      rw[S.splitB,if_neg hne]
     rw[e,←h3 hc]; rfl
noncomputable def it1:ItF:=fun s t k=>oneB t fun c=>lenK s fun n=>ask (Nat.ble n 1000000) (spK s c k)
theorem it1_ok:ItOk Tryz.prog 189 it1 (fun _=>true) fun _=>True:=by
 refine⟨inferInstance,fun _ _ _ _ _ _ _ _=>trivial,fun s t k hk=>?_⟩
 obtain⟨c,rfl,hk⟩:=oneB_ok hk
 replace hk:lenK s (fun n=>ask (Nat.ble n 1000000) (spK s c k))=true:=hk
 rw[lenK_eq] at hk
 obtain⟨hl,hk⟩:=ask_ok hk
 have hl:=ble_le hl
 obtain⟨xs,h1,h2,h3⟩:=spK_ok hk
 refine⟨xs,h1,h2,fun w hs ht _=>?_⟩
 have hc:=(bytes_cons.1 ht).1
 refine(S.splitSeq (UInt8.ofNat c) (textOf s) w).mono ?_
 rintro e w' ⟨hk',bs,bt,bv,rfl,g1,g2,g3,g4,g5,g6,g7,g8,hB⟩
 refine⟨hk',_,[.pointer (some ⟨bs,0,none⟩),.pointer (some ⟨bt,0,none⟩),.pointer (some ⟨bv,0,none⟩)],fun k=>k=bs∨k=bt∨k=bv,S.SpB (UInt8.ofNat c) (textOf s) bs bt bv,inferInstance,rfl,?_,?_,?_⟩
 ·rintro k (rfl|rfl|rfl) <;> exact⟨by assumption,by assumption⟩
 ·rw[h3 hc]
  exact fun l J Jx W hp a1 a2 _ a3 a4=>S.splitIt (UInt8.ofNat c) (textOf s) (by rw[text_len]; exact hl) bs bt bv g1 g2 l J Jx W hp a1 a2 a3 a4
 ·exact fun W hW=>⟨hW.at0 hB.1,hW.at0 hB.2.1,hW.at0 hB.2.2⟩
end Go.Proofs.YtbhbdeelpopgoaaGreatDoor.E

namespace Go.Proofs.YtbhbdeelpopgoaaGreatDoor.S
open Go.RowKit H
def orB:List UInt8→List (List UInt8)
 | []=>[[]]
 | [a]=>[[a]]
 | a::b::r=>if a=124∧b=124 then []::orB r else (a::(orB (b::r)).headD [])::(orB (b::r)).tail
theorem orB_cons(a:UInt8)(s:List UInt8)(h : ¬(a=124∧s.take 1=[124])):orB (a::s)=(a::(orB s).headD [])::(orB s).tail:=by
 cases s with
 | nil=>simp[orB]
 | cons b r=>rw[orB,if_neg (by simpa using h)]
theorem orB_bars(r:List UInt8):orB (124::124::r)=[]::orB r:=by rw[orB,if_pos ⟨rfl,rfl⟩]
theorem occ_iff(s:List UInt8)(i:Nat):Go.Lib.occAt s [124,124] i=true↔(s.drop i).take 2=[124,124]:=by
 rw[Go.Lib.occAt]
 cases h:s.drop i with
 | nil=>simp
 | cons a m=>cases m with
  | nil=>simp
  | cons b m=>
   simp[List.isPrefixOf]
   constructor <;> (rintro⟨h1,h2⟩; exact⟨h1.symm,h2.symm⟩)
theorem orB_first: ∀(i:Nat) (s:List UInt8),i≤s.length→(∀j,j < i→¬(s.drop j).take 2=[124,124])→(s.drop i).take 2=[124,124]→orB s=s.take i::orB (s.drop (i+2)):=by
 intro i
 induction i with
 | zero=>
  intro s _ _ h
  match s,h with
  | a::b::r,h=>
   simp at h
   obtain⟨rfl,rfl⟩:=h
   rw[orB_bars]; simp
 | succ i ih=>
  intro s hl hn h
  match s,hl with
  | a::r,hl=>
   have h1:=ih r (by simpa using hl) (fun j hj=>by have:=hn (j+1) (by omega); simpa using this) (by simpa using h)
   have h0:=hn 0 (by omega)
   rw[orB_cons a r (by intro ⟨ha,hb⟩; apply h0; cases r with|nil=>simp at hb|cons b r=>simp at hb ⊢; exact⟨ha,hb⟩),h1]
   simp
theorem orB_none: ∀(s:List UInt8),(∀j,j≤s.length→¬(s.drop j).take 2=[124,124])→orB s=[s]:=by
 intro s
 induction s with
 | nil=>intro _; rfl
 | cons a r ih=>
  intro hn
  have h0:=hn 0 (by omega)
  rw[orB_cons a r (by intro ⟨ha,hb⟩; apply h0; cases r with|nil=>simp at hb|cons b r=>simp at hb ⊢; exact⟨ha,hb⟩),ih (fun j hj=>by have:=hn (j+1) (by simp; omega); simpa using this)]
  simp
theorem orB_index(s:List UInt8):(Go.Lib.index s [124,124] = -1∧orB s=[s])∨∃m:Nat,Go.Lib.index s [124,124]=(m:Int)∧m+2≤s.length∧orB s=s.take m::orB (s.drop (m+2)):=by
 rcases Go.Lib.index_spec s [124,124] with ⟨h,hn⟩|⟨i,h,hi,ho,hn⟩
 ·exact .inl ⟨h,orB_none s fun j hj c=>by have:=hn j hj; rw[(occ_iff s j).2 c] at this; cases this⟩
 ·have h2:=(occ_iff s i).1 ho
  refine .inr ⟨i,h,?_,orB_first i s hi (fun j hj c=>by have:=hn j hj; rw[(occ_iff s j).2 c] at this; cases this) h2⟩
  have:=congrArg List.length h2
  simp at this
  omega
attribute [local irreducible] H.CL H.RW H.CW H.Yd H.thenK H.blockQ Go.Calls
def Ml(w:World):Prop:=∃m,w.cell? ⟨0,0,none⟩=some (.int .i64 m)
theorem index2(l:List UInt8)(hl:l.length≤1000000)(w:World)(hM:Ml w):Calls Tryz.prog 177 #[vs l,vs [124,124]] w fun e w'=>w=w'∧e = .returned (.int .i64 (Go.Lib.index l [124,124])):=by
 obtain⟨m,hm⟩:=hM
 have h:=Tryz.strings_Index (B l) (B [124,124]) m w (by show l.length < _; omega) hm
 exact h.mono fun e w' ⟨h1,h2⟩=>⟨h2.symm,h1⟩
def Sp2(l:List UInt8)(bs bt bv:Nat)(W:World):Prop:=
 W.heap[bs]?=some (.cells #[vs [124,124]] strT (0,0))∧W.heap[bt]?=some (.cells #[vs l] strT (0,0))∧W.heap[bv]?=some (.cells #[.int .i64 0] 3 (0,0))∧Ml W
theorem Ml.of{w w':World}(h:Ml w)(hh:w'.heap[0]?=w.heap[0]?):Ml w':=by
 obtain⟨m,hm⟩:=h
 refine⟨m,?_⟩
 simp only[World.cell?] at hm ⊢
 rw[hh]; exact hm
theorem Ml.lt{w:World}(h:Ml w):0 < w.heap.size:=by
 obtain⟨m,hm⟩:=h
 simp only[World.cell?] at hm
 rcases Nat.lt_or_ge 0 w.heap.size with h|h
 ·exact h
 ·rw[Array.getElem?_eq_none h] at hm; cases hm
theorem Ml.keep0{w w':World}(h:Ml w)(k:K0 w w'):Ml w':=h.of (k.block _ h.lt fun c=>c)
theorem splitSeq2(l:List UInt8)(w:World)(hM:Ml w):Calls Tryz.prog 189 #[vs l,vs [124,124]] w fun e w'=>K0 w w'∧∃bs bt bv,e = .returned (.func (.func 339) #[] #[.pointer (some ⟨bs,0,none⟩),.pointer (some ⟨bt,0,none⟩),.pointer (some ⟨bv,0,none⟩)])∧
  bt≠bs∧bt≠bv∧w.heap.size≤bs∧w.heap.size≤bt∧w.heap.size≤bv∧bs < w'.heap.size∧bt < w'.heap.size∧bv < w'.heap.size∧Sp2 l bs bt bv w':=by
 have h : ∀w,Ml w→Calls Tryz.prog 270 #[vs l,vs [124,124],.int .i64 0] w fun e w'=>K0 w w'∧∃bs bt bv,e = .returned (.func (.func 339) #[] #[.pointer (some ⟨bs,0,none⟩),.pointer (some ⟨bt,0,none⟩),.pointer (some ⟨bv,0,none⟩)])∧
  bt≠bs∧bt≠bv∧w.heap.size≤bs∧w.heap.size≤bt∧w.heap.size≤bv∧bs < w'.heap.size∧bt < w'.heap.size∧bv < w'.heap.size∧Sp2 l bs bt bv w':=by
  intro w hM
  refine H.enter Tryz.func270 Tryz.ntmps270 rfl rfl ?_; dsimp only[H.args]
  repeat' (first|(refine CL.seq ?_)|(refine CL.region ?_))
  refine RW.box rfl rfl (fun w1 hb1 hk1 hlt1=>?_)
  refine RW.box rfl rfl (fun w2 hb2 hk2 hlt2=>?_)
  refine RW.box rfl rfl (fun w3 hb3 hk3 hlt3=>?_)
  repeat' (first|(refine CL.seq ?_)|(refine CL.region ?_)|(refine CL.ret ?_)|(refine Gt.nil ?_; refine RW.nilw [0,1,2,3,4,5,6] ?_; dsimp only[H.keep,H.look,H.Fr.put,Nat.beq])|(refine Gt.assign ?_; refine RW.y (Y.assign rfl) rfl ?_)|(refine Gt.makeFunc ?_; refine RW.y (Y.makeFunc rfl rfl) rfl ?_))
  have hs1:=hk1.size
  have hs2:=hk2.size
  have hs3:=hk3.size
  exact FQ.one rfl rfl rfl ⟨(hk1.trans0 hk2).trans0 hk3,_,_,_,rfl,by omega,by omega,by omega,by omega,by omega,by omega,by omega,by omega,hk3.at0 hb2,(hk2.trans0 hk3).at0 hb1,hb3,hM.keep0 ((hk1.trans0 hk2).trans0 hk3)⟩
 refine H.enter Tryz.func189 Tryz.ntmps189 rfl rfl ?_; dsimp only[H.args]
 repeat' (first|(refine CL.seq ?_)|(refine CL.region ?_)|(refine Gt.nil ?_; refine RW.nilw [0,1,4] ?_; dsimp only[H.keep,H.look,H.Fr.put,Nat.beq])|(refine Gt.assign ?_; refine RW.y (Y.assign rfl) rfl ?_)|(refine Gt.move ?_; refine RW.y (Y.move rfl) rfl ?_))
 refine RW.fn rfl rfl ((h w hM).mono ?_)
 rintro e w1 ⟨hk,bs,bt,bv,rfl,hh⟩
 repeat' (first|(refine CL.ret ?_)|(refine Gt.nil ?_; refine RW.nilw [0,1,4] ?_; dsimp only[H.keep,H.look,H.Fr.put,Nat.beq])|(refine Gt.assign ?_; refine RW.y (Y.assign rfl) rfl ?_))
 exact FQ.one rfl rfl rfl ⟨hk,bs,bt,bv,rfl,hh⟩
set_option maxHeartbeats 1000000 in
theorem splitIt2T(l:List UInt8)(hl:l.length≤1000000)(bs bt bv:Nat)(h1:bt≠bs)(h2:bt≠bv):
  SeqT Tryz.prog 339 [.pointer (some ⟨bs,0,none⟩),.pointer (some ⟨bt,0,none⟩),.pointer (some ⟨bv,0,none⟩)] (fun x:List UInt8=>[vs x]) (fun k=>k=bs∨k=bt∨k=bv) Ml (Sp2 l bs bt bv) (orB l):=by
 intro r J Jx W hpre hJ hJx hJT hy h0
 obtain⟨hbs,hbt,hbv,hM⟩:=hpre
 have hc2:([124,124]:List UInt8).length=2:=rfl
 have hcs : ∀{k},k=bt→k=bs∨k=bt∨k=bv:=fun h=> .inr (.inl h)
 refine H.enterI Tryz.func339 Tryz.ntmps339 rfl rfl ?_; dsimp only[H.args]
 repeat' (first|(refine CL.seq ?_)|(refine CL.region ?_)|(refine CL.skip ?_)|(refine CL.condP rfl (fun _=>?_) (fun _=>?_) <;> try (exfalso; omega))|(refine CL.block ?_)|(refine Gt.nil ?_; refine RW.nilw [0,1,2,3,6,7,8,11,14,25,33,42] ?_; dsimp only[H.keep,H.look,H.Fr.put,Nat.beq])|(refine Gt.load ?_; refine RW.y (Y.loadB rfl (by assumption) rfl) rfl ?_)|(refine Gt.len ?_; refine RW.y (Y.lens rfl) rfl ?_)|(refine Gt.eql ?_; refine RW.y (Y.eqi rfl rfl) rfl ?_))
 refine CL.loopS [0,1,2,3] (fun m vals wr=>∃(done:List (List UInt8)) (rest:List UInt8),vals=[.func (.yield r) #[] #[],.pointer (some ⟨bs,0,none⟩),.pointer (some ⟨bt,0,none⟩),.pointer (some ⟨bv,0,none⟩)]∧m=rest.length∧orB l=done++orB rest∧rest.length≤l.length∧J done wr∧Sp2 rest bs bt bv wr) l.length ⟨_,rfl,[],l,rfl,rfl,rfl,Nat.le_refl _,h0,hbs,hbt,hbv,hM⟩ ?_
 rintro m vals wr ⟨done,rest,rfl,rfl,hsp,hrl,hJ1,hbs1,hbt1,hbv1,hM1⟩
 dsimp only[List.zip,List.zipWith]
 repeat' (first|(refine CL.seq ?_)|(refine CL.region ?_)|(refine CL.block ?_)|(refine Gt.load ?_; refine RW.y (Y.loadB rfl (by assumption) rfl) rfl ?_))
 refine RW.fn rfl rfl ((index2 rest (by omega) wr hM1).mono ?_)
 rintro e w1 ⟨rfl,rfl⟩
 rcases orB_index rest with ⟨hi,hs⟩|⟨m,hi,hm,hs⟩
 ·rw[hi]
  repeat' (first|(refine CL.seq ?_)|(refine CL.region ?_)|(refine CL.condP rfl (fun _=>?_) (fun _=>?_) <;> try (exfalso; omega))|(refine CL.exit ?_)|(refine Ex.then ?_)|(refine Ex.hit ?_)|(refine Ex.miss rfl ?_)|(refine Gt.nil ?_; refine RW.nilw [0,1,2,3,6,7,8,11,14,25,33,42] ?_; dsimp only[H.keep,H.look,H.Fr.put,Nat.beq])|(refine Gt.load ?_; refine RW.y (Y.loadB rfl (by assumption) rfl) rfl ?_)|(refine Gt.move ?_; refine RW.y (Y.move rfl) rfl ?_)|(refine Gt.assign ?_; refine RW.y (Y.assign rfl) rfl ?_)|(refine Gt.lss ?_; refine RW.y (Y.lss rfl rfl) rfl ?_))
  refine RW.yield rfl rfl rfl (hy done rest wr hJ1 ?_) ?_
  ·rw[hsp,hs]; exact List.prefix_rfl
  rw[hs] at hsp
  rintro e w2 (⟨rfl,hJ2,hs2⟩|⟨rfl,hJx2⟩)
  ·repeat' (first|(refine CL.done ?_)|(refine Gt.nil ?_; refine RW.nilw [0,1,2,3,6,7,8,11,14,25,33,42] ?_; dsimp only[H.keep,H.look,H.Fr.put,Nat.beq]))
   exact FQ.norm (FQ.none rfl rfl ⟨⟨_,rfl⟩,.inl (by rw[hsp]; exact hJ2)⟩)
  ·repeat' (first|(refine CL.done ?_)|(refine Gt.nil ?_; refine RW.nilw [0,1,2,3,6,7,8,11,14,25,33,42] ?_; dsimp only[H.keep,H.look,H.Fr.put,Nat.beq]))
   exact FQ.norm (FQ.none rfl rfl ⟨⟨_,rfl⟩,.inr ⟨_,hJx2⟩⟩)
 ·rw[hi]
  repeat' (first|(refine CL.seq ?_)|(refine CL.region ?_)|(refine CL.skip ?_)|(refine CL.condP rfl (fun _=>?_) (fun _=>?_) <;> try (exfalso; omega))|(refine Gt.nil ?_; refine RW.nilw [0,1,2,3,6,7,8,11,14,25,33,42] ?_; dsimp only[H.keep,H.look,H.Fr.put,Nat.beq])|(refine Gt.load ?_; refine RW.y (Y.loadB rfl (by assumption) rfl) rfl ?_)|(refine Gt.move ?_; refine RW.y (Y.move rfl) rfl ?_)|(refine Gt.assign ?_; refine RW.y (Y.assign rfl) rfl ?_)|(refine Gt.slice ?_; (refine RW.y (Y.cuth rfl rfl (by omega) (by omega)) rfl ?_))|(refine Gt.add ?_; refine RW.y (Y.add64 rfl rfl (by omega) (by omega)) rfl ?_)|(refine Gt.lss ?_; refine RW.y (Y.lss rfl rfl) rfl ?_))
  have hn1:((m:Int)+0).toNat=m:=by omega
  rw[hn1]
  refine RW.yield rfl rfl rfl (hy done (rest.take m) wr hJ1 ?_) ?_
  ·rw[hsp,hs]; exact⟨orB (rest.drop (m+2)),by simp⟩
  rintro e w2 (⟨rfl,hJ2,hs2⟩|⟨rfl,hJx2⟩)
  ·have hbs2:=(hs2.2 bs (.inl rfl)).trans hbs1
   have hbt2:=(hs2.2 bt (.inr (.inl rfl))).trans hbt1
   have hbv2:=(hs2.2 bv (.inr (.inr rfl))).trans hbv1
   have hM2:Ml w2:=hJT _ _ hJ2
   repeat' (first|(refine CL.region ?_)|(refine CL.skip ?_)|(refine CL.condF rfl ?_)|(refine Gt.nil ?_; refine RW.nilw [0,1,2,3,6,7,8,11,14,25,33,42] ?_; dsimp only[H.keep,H.look,H.Fr.put,Nat.beq])|(refine Gt.load ?_; refine RW.y (Y.loadB rfl (by assumption) rfl) rfl ?_)|(refine Gt.move ?_; refine RW.y (Y.move rfl) rfl ?_)|(refine Gt.len ?_; refine RW.y (Y.lens rfl) rfl ?_)|(refine Gt.slice ?_; (refine RW.y (Y.cutl rfl rfl (by omega) (by omega)) rfl ?_))|(refine Gt.not ?_; (refine RW.y (Y.notb rfl) rfl ?_))|(refine Gt.add ?_; refine RW.y (Y.add64 rfl rfl (by omega) (by omega)) rfl ?_))
   refine RW.storeB rfl rfl rfl hbt2 (by simp) (fun w3 hbt3 hk3=>?_)
   repeat' (first|(refine CL.done ?_)|(refine Nm.block ?_)|(refine Nm.then ?_)|(refine Gt.nil ?_; refine RW.nilw [0,1,2,3,6,7,8,11,14,25,33,42] ?_; dsimp only[H.keep,H.look,H.Fr.put,Nat.beq]))
   have hn2:((m:Int)+(([124,124]:List UInt8).length:Int)).toNat=m+2:=by rw[hc2]; omega
   rw[hn2] at hbt3
   have hJ3:=hJ _ _ _ hJ2 (hk3.mono fun k h=>hcs h)
   have hM3:Ml w3:=hJT _ _ hJ3
   refine⟨(rest.drop (m+2)).length,_,rfl,rfl,rfl,by rw[List.length_drop]; omega,done++[rest.take m],rest.drop (m+2),rfl,rfl,by rw[hsp,hs]; simp,by rw[List.length_drop]; omega,hJ _ _ _ hJ2 (hk3.mono fun k h=>hcs h),hk3.at hbs2 (fun h=>h1 h.symm),hbt3,hk3.at hbv2 (fun h=>h2 h.symm),hM3⟩
  ·repeat' (first|(refine CL.condT rfl ?_)|(refine CL.ret ?_)|(refine Rt.then ?_)|(refine Rt.block ?_)|(refine Gt.nil ?_; refine RW.nilw [0,1,2,3,6,7,8,11,14,25,33,42] ?_; dsimp only[H.keep,H.look,H.Fr.put,Nat.beq])|(refine Gt.not ?_; (refine RW.y (Y.notb rfl) rfl ?_)))
   exact FQ.none rfl rfl ⟨⟨_,rfl⟩,.inr ⟨_,hJx2⟩⟩
end Go.Proofs.YtbhbdeelpopgoaaGreatDoor.S

set_option linter.constructorNameAsVariable false
set_option linter.unusedVariables false
namespace Go.Proofs.YtbhbdeelpopgoaaGreatDoor.E
open Go Go.RowKit H
attribute [local irreducible] H.CL H.RW H.CW H.Yd H.thenK H.blockQ Go.Calls
noncomputable def pre1(x:Nat)(k:List (List Nat)→Bool)(r:List (List Nat)):Bool:=List.rec (motive:=fun _=>Bool) false (fun a t _=>k ((x::a)::t)) r
noncomputable def sp2K(s:List Nat):Bool→(List (List Nat)→Bool)→Bool:=List.rec (motive:=fun _=>Bool→(List (List Nat)→Bool)→Bool) (fun _ k=>k [[]])
 (fun x t ih sk k=>ask (Nat.blt x 256) (ife sk (ih false k) (ife (Nat.beq x 124) (List.rec (motive:=fun _=>Bool) (ih false (pre1 x k)) (fun y _ _=>ife (Nat.beq y 124) (ih true fun r=>k ([]::r)) (ih false (pre1 x k))) t) (ih false (pre1 x k))))) s
theorem sp2K_ok: ∀{s:List Nat} {sk:Bool} {k:List (List Nat)→Bool},sp2K s sk k=true→∃xs,k xs=true∧(∀x∈xs,Bytes x)∧xs.map textOf=S.orB (textOf (if sk=true then s.tail else s))
 | [],sk,k,h=>⟨[[]],h,fun x hx=>by simp at hx; subst hx; rfl,by cases sk <;> rfl⟩
 | x::s,sk,k,h=>by
  obtain⟨hx,h⟩:=ask_ok (b:=Nat.blt x 256) h
  have hx:=blt_lt hx
  have one:sp2K s false (pre1 x k)=true→¬(x=124∧∃t,s=124::t)→∃xs,k xs=true∧(∀x∈xs,Bytes x)∧xs.map textOf=S.orB (textOf (x::s)):=by
   intro h hn
   have hc : ¬(UInt8.ofNat x=124∧(textOf s).take 1=[124]):=by
    rintro⟨a,b⟩
    refine hn ⟨(ofNat_inj8 hx (c:=124) (by decide)).1 a,?_⟩
    cases s with
    | nil=>cases b
    | cons y t=>
     have hy:=blt_lt (ask_ok (b:=Nat.blt y 256) h).1
     have b:[UInt8.ofNat y]=[124]:=b
     injection b with b _
     exact⟨t,by rw[(ofNat_inj8 hy (c:=124) (by decide)).1 b]⟩
   obtain⟨xs,h1,h2,h3⟩:=sp2K_ok (s:=s) h
   cases xs with
   | nil=>cases h1
   | cons a t=>
    replace h1:k ((x::a)::t)=true:=h1
    refine⟨_,h1,fun y hy=>?_,?_⟩
    ·rcases List.mem_cons.1 hy with rfl|hy
     ·exact bytes_cons.2 ⟨hx,h2 a List.mem_cons_self⟩
     ·exact h2 y (List.mem_cons_of_mem _ hy)
    ·have e:S.orB (textOf (x::s))=(UInt8.ofNat x::(S.orB (textOf s)).headD [])::(S.orB (textOf s)).tail:=S.orB_cons _ _ hc
     replace h3:(a::t).map textOf=S.orB (textOf s):=h3
     rw[e,←h3]; rfl
  rcases ife_ok h with ⟨hs,g1⟩|⟨hs,g1⟩
  ·obtain⟨xs,h1,h2,h3⟩:=sp2K_ok (s:=s) (sk:=false) g1
   exact⟨xs,h1,h2,by rw[if_pos hs]; exact h3⟩
  ·rw[if_neg (by rw[hs]; simp)]
   rcases ife_ok g1 with ⟨h0,g2⟩|⟨h0,g2⟩
   ·have h0:=Nat.eq_of_beq_eq_true h0
    cases s with
    | nil=>exact one g2 (by rintro⟨_,t,ht⟩; cases ht)
    | cons y t=>
     rcases ife_ok (b:=Nat.beq y 124) g2 with ⟨h9,g3⟩|⟨h9,g3⟩
     ·have h9:=Nat.eq_of_beq_eq_true h9
      obtain⟨xs,h1,h2,h3⟩:=sp2K_ok (s:=y::t) (sk:=true) g3
      refine⟨_,h1,fun z hz=>?_,?_⟩
      ·rcases List.mem_cons.1 hz with rfl|hz
       ·rfl
       ·exact h2 z hz
      ·replace h3:xs.map textOf=S.orB (textOf t):=h3
       show[]::xs.map textOf=S.orB (textOf (x::y::t))
       rw[h0,h9]
       show[]::xs.map textOf=S.orB (124::124::textOf t)
       rw[S.orB_bars,h3]
     ·exact one g3 (by rintro⟨_,u,hu⟩; injection hu with hu _; rw[hu] at h9; simp at h9)
   ·exact one g2 (by rintro⟨q,_⟩; rw[q] at h0; simp at h0)
noncomputable def tk2(h:Hp):Bool:=atK h 0 fun b=>Blk.rec (motive:=fun _=>Bool) (fun _ _ _ _=>false) (fun _ _ _ _=>false) (fun _ _=>false) (fun _ _ _ _=>false) true (fun _ _=>false) (fun _=>false) b
noncomputable def it2:ItF:=fun s t k=>ask (sEq t [124,124]) (lenK s fun n=>ask (Nat.ble n 1000000) (sp2K s false k))
theorem it2_ok:ItOk Tryz.prog 189 it2 tk2 S.Ml:=by
 refine⟨inferInstance,fun fl S' w0 r h w hR ht=>?_,fun s t k hk=>?_⟩
 ·obtain⟨b,hb,ht⟩:=atK_ok ht
  cases b with
  | ints=>
   obtain⟨p,hp,m,hm⟩:=hR.live _ _ (Nat.lt_of_lt_of_le (by decide) hR.base.2) hb
   have:=hR.glob _ p (by decide) hp
   exact⟨m,by rw[this] at hm; exact hm⟩
  | _=>cases ht
 obtain⟨ht,hk⟩:=ask_ok hk
 obtain rfl:=sEq_ok ht
 replace hk:lenK s (fun n=>ask (Nat.ble n 1000000) (sp2K s false k))=true:=hk
 rw[lenK_eq] at hk
 obtain⟨hl,hk⟩:=ask_ok hk
 have hl:=ble_le hl
 obtain⟨xs,h1,h2,h3⟩:=sp2K_ok hk
 replace h3:xs.map textOf=S.orB (textOf s):=h3
 refine⟨xs,h1,h2,fun w hs ht hM=>?_⟩
 refine(S.splitSeq2 (textOf s) w hM).mono ?_
 rintro e w' ⟨hk',bs,bt,bv,rfl,g1,g2,g3,g4,g5,g6,g7,g8,hB⟩
 refine⟨hk',_,[.pointer (some ⟨bs,0,none⟩),.pointer (some ⟨bt,0,none⟩),.pointer (some ⟨bv,0,none⟩)],fun k=>k=bs∨k=bt∨k=bv,S.Sp2 (textOf s) bs bt bv,inferInstance,rfl,?_,?_,?_⟩
 ·rintro k (rfl|rfl|rfl) <;> exact⟨by assumption,by assumption⟩
 ·rw[h3]
  exact fun l J Jx W hp a1 a2 a5 a3 a4=>S.splitIt2T (textOf s) (by rw[text_len]; exact hl) bs bt bv g1 g2 l J Jx W hp a1 a2 a5 a3 a4
 ·exact fun W hW=>⟨hW.at0 hB.1,hW.at0 hB.2.1,hW.at0 hB.2.2.1,hB.2.2.2.keep0 hW⟩
end Go.Proofs.YtbhbdeelpopgoaaGreatDoor.E

namespace Go.Proofs
open Go.Shelf
def Tryz.keys102_ren:Go.Shelf.Ren:=⟨fun|7=>102|10=>157|n=>n,fun|23=>166|26=>9|3=>9|28=>209|0=>0|27=>208|33=>88|4=>4|n=>n,fun|n=>n⟩
theorem Tryz.keys102:Go.Proofs.SlLaysZ.n7 Tryz.prog Tryz.keys102_ren:={
 mixed:=by kernel_rfl
 f7:=⟨Tryz.f102.name,by decide,Tryz.func102.trans (congrArg some (by kernel_rfl))⟩
 f10:=⟨Tryz.f157.name,by decide,Tryz.func157.trans (congrArg some (by kernel_rfl))⟩
 t0:=Tryz.underlying0
 a0:=Tryz.isAgg0
 z0:=Tryz.sizeOf0
 v0:=Tryz.zeroValue0
 t4:=Tryz.underlying4
 a4:=Tryz.isAgg4
 z4:=Tryz.sizeOf4
 v4:=Tryz.zeroValue4
 t23:=Tryz.underlying166
 a23:=Tryz.isAgg166
 z23:=Tryz.sizeOf166
 v23:=Tryz.zeroValue166
 t26:=Tryz.underlying9
 a26:=Tryz.isAgg9
 z26:=Tryz.sizeOf9
 v26:=Tryz.zeroValue9
 t27:=Tryz.underlying208
 a27:=Tryz.isAgg208
 z27:=Tryz.sizeOf208
 v27:=Tryz.zeroValue208
 t28:=Tryz.underlying209
 a28:=Tryz.isAgg209
 z28:=Tryz.sizeOf209
 v28:=Tryz.zeroValue209
 t33:=Tryz.underlying88
 a33:=Tryz.isAgg88
 z33:=Tryz.sizeOf88
 v33:=Tryz.zeroValue88}
def Tryz.keys470_ren:Go.Shelf.Ren:=⟨fun|7=>470|10=>518|n=>n,fun|23=>423|26=>9|3=>3|28=>209|0=>0|27=>208|33=>88|4=>4|n=>n,fun|n=>n⟩
theorem Tryz.keys470:Go.Proofs.SlLaysZ.n7 Tryz.prog Tryz.keys470_ren:={
 mixed:=by kernel_rfl
 f7:=⟨Tryz.f470.name,by decide,Tryz.func470.trans (congrArg some (by kernel_rfl))⟩
 f10:=⟨Tryz.f518.name,by decide,Tryz.func518.trans (congrArg some (by kernel_rfl))⟩
 t0:=Tryz.underlying0
 a0:=Tryz.isAgg0
 z0:=Tryz.sizeOf0
 v0:=Tryz.zeroValue0
 t4:=Tryz.underlying4
 a4:=Tryz.isAgg4
 z4:=Tryz.sizeOf4
 v4:=Tryz.zeroValue4
 t23:=Tryz.underlying423
 a23:=Tryz.isAgg423
 z23:=Tryz.sizeOf423
 v23:=Tryz.zeroValue423
 t26:=Tryz.underlying9
 a26:=Tryz.isAgg9
 z26:=Tryz.sizeOf9
 v26:=Tryz.zeroValue9
 t27:=Tryz.underlying208
 a27:=Tryz.isAgg208
 z27:=Tryz.sizeOf208
 v27:=Tryz.zeroValue208
 t28:=Tryz.underlying209
 a28:=Tryz.isAgg209
 z28:=Tryz.sizeOf209
 v28:=Tryz.zeroValue209
 t33:=Tryz.underlying88
 a33:=Tryz.isAgg88
 z33:=Tryz.sizeOf88
 v33:=Tryz.zeroValue88}
def Tryz.keys549_ren:Go.Shelf.Ren:=⟨fun|7=>549|10=>557|n=>n,fun|23=>629|26=>9|3=>654|28=>209|0=>0|27=>208|33=>88|4=>4|n=>n,fun|n=>n⟩
theorem Tryz.keys549:Go.Proofs.SlLaysZ.n7 Tryz.prog Tryz.keys549_ren:={
 mixed:=by kernel_rfl
 f7:=⟨Tryz.f549.name,by decide,Tryz.func549.trans (congrArg some (by kernel_rfl))⟩
 f10:=⟨Tryz.f557.name,by decide,Tryz.func557.trans (congrArg some (by kernel_rfl))⟩
 t0:=Tryz.underlying0
 a0:=Tryz.isAgg0
 z0:=Tryz.sizeOf0
 v0:=Tryz.zeroValue0
 t4:=Tryz.underlying4
 a4:=Tryz.isAgg4
 z4:=Tryz.sizeOf4
 v4:=Tryz.zeroValue4
 t23:=Tryz.underlying629
 a23:=Tryz.isAgg629
 z23:=Tryz.sizeOf629
 v23:=Tryz.zeroValue629
 t26:=Tryz.underlying9
 a26:=Tryz.isAgg9
 z26:=Tryz.sizeOf9
 v26:=Tryz.zeroValue9
 t27:=Tryz.underlying208
 a27:=Tryz.isAgg208
 z27:=Tryz.sizeOf208
 v27:=Tryz.zeroValue208
 t28:=Tryz.underlying209
 a28:=Tryz.isAgg209
 z28:=Tryz.sizeOf209
 v28:=Tryz.zeroValue209
 t33:=Tryz.underlying88
 a33:=Tryz.isAgg88
 z33:=Tryz.sizeOf88
 v33:=Tryz.zeroValue88}
def Tryz.keys237_ren:Go.Shelf.Ren:=⟨fun|7=>237|10=>320|n=>n,fun|23=>148|26=>3|3=>22|28=>361|0=>0|27=>360|33=>156|4=>4|n=>n,fun|n=>n⟩
theorem Tryz.keys237:Go.Proofs.SlLaysZI.n7 Tryz.prog Tryz.keys237_ren:={
 mixed:=by kernel_rfl
 f7:=⟨Tryz.f237.name,by decide,Tryz.func237.trans (congrArg some (by kernel_rfl))⟩
 f10:=⟨Tryz.f320.name,by decide,Tryz.func320.trans (congrArg some (by kernel_rfl))⟩
 t0:=Tryz.underlying0
 a0:=Tryz.isAgg0
 z0:=Tryz.sizeOf0
 v0:=Tryz.zeroValue0
 t4:=Tryz.underlying4
 a4:=Tryz.isAgg4
 z4:=Tryz.sizeOf4
 v4:=Tryz.zeroValue4
 t23:=Tryz.underlying148
 a23:=Tryz.isAgg148
 z23:=Tryz.sizeOf148
 v23:=Tryz.zeroValue148
 t26:=Tryz.underlying3
 a26:=Tryz.isAgg3
 z26:=Tryz.sizeOf3
 v26:=Tryz.zeroValue3
 t27:=Tryz.underlying360
 a27:=Tryz.isAgg360
 z27:=Tryz.sizeOf360
 v27:=Tryz.zeroValue360
 t28:=Tryz.underlying361
 a28:=Tryz.isAgg361
 z28:=Tryz.sizeOf361
 v28:=Tryz.zeroValue361
 t33:=Tryz.underlying156
 a33:=Tryz.isAgg156
 z33:=Tryz.sizeOf156
 v33:=Tryz.zeroValue156}
def Tryz.sorted101_ren:Go.Shelf.Ren:=⟨fun|6=>101|8=>155|9=>156|11=>239|13=>108|12=>240|23=>171|24=>172|14=>321|15=>322|16=>323|17=>324|18=>325|19=>326|20=>327|21=>328|22=>329|25=>385|26=>244|27=>245|28=>386|29=>387|30=>109|31=>451|n=>n,fun|26=>9|28=>209|24=>39|0=>0|3=>3|37=>130|48=>137|50=>118|4=>4|40=>276|39=>275|45=>113|5=>5|9=>9|51=>367|55=>370|57=>453|58=>454|33=>88|n=>n,fun|n=>n⟩
theorem Tryz.sorted101:Go.Proofs.SlLaysZ.n6 Tryz.prog Tryz.sorted101_ren:={
 mixed:=by kernel_rfl
 f6:=⟨Tryz.f101.name,by decide,Tryz.func101.trans (congrArg some (by kernel_rfl))⟩
 f8:=⟨Tryz.f155.name,by decide,Tryz.func155.trans (congrArg some (by kernel_rfl))⟩
 f11:=⟨Tryz.f239.name,by decide,Tryz.func239.trans (congrArg some (by kernel_rfl))⟩
 t0:=Tryz.underlying0
 a0:=Tryz.isAgg0
 z0:=Tryz.sizeOf0
 v0:=Tryz.zeroValue0
 t24:=Tryz.underlying39
 a24:=Tryz.isAgg39
 z24:=Tryz.sizeOf39
 v24:=Tryz.zeroValue39
 t26:=Tryz.underlying9
 a26:=Tryz.isAgg9
 z26:=Tryz.sizeOf9
 v26:=Tryz.zeroValue9
 t28:=Tryz.underlying209
 a28:=Tryz.isAgg209
 z28:=Tryz.sizeOf209
 v28:=Tryz.zeroValue209
 i26:=by kernel_rfl}
def Tryz.sorted236_ren:Go.Shelf.Ren:=⟨fun|6=>236|8=>318|9=>319|11=>383|13=>108|12=>384|23=>171|24=>172|14=>442|15=>443|16=>444|17=>445|18=>446|19=>447|20=>448|21=>449|22=>450|25=>504|26=>244|27=>245|28=>505|29=>506|30=>335|31=>530|n=>n,fun|26=>3|28=>361|24=>358|0=>0|3=>3|37=>130|48=>137|50=>118|4=>4|40=>276|39=>275|45=>113|5=>5|9=>9|51=>367|55=>370|57=>453|58=>454|33=>156|n=>n,fun|n=>n⟩
theorem Tryz.sorted236:Go.Proofs.SlLaysZI.n6 Tryz.prog Tryz.sorted236_ren:={
 mixed:=by kernel_rfl
 f6:=⟨Tryz.f236.name,by decide,Tryz.func236.trans (congrArg some (by kernel_rfl))⟩
 f8:=⟨Tryz.f318.name,by decide,Tryz.func318.trans (congrArg some (by kernel_rfl))⟩
 f11:=⟨Tryz.f383.name,by decide,Tryz.func383.trans (congrArg some (by kernel_rfl))⟩
 t0:=Tryz.underlying0
 a0:=Tryz.isAgg0
 z0:=Tryz.sizeOf0
 v0:=Tryz.zeroValue0
 t24:=Tryz.underlying358
 a24:=Tryz.isAgg358
 z24:=Tryz.sizeOf358
 v24:=Tryz.zeroValue358
 t26:=Tryz.underlying3
 a26:=Tryz.isAgg3
 z26:=Tryz.sizeOf3
 v26:=Tryz.zeroValue3
 t28:=Tryz.underlying361
 a28:=Tryz.isAgg361
 z28:=Tryz.sizeOf361
 v28:=Tryz.zeroValue361
 i26:=by kernel_rfl}
def Tryz.sort156_ren:Go.Shelf.Ren:=⟨fun|6=>156|8=>108|9=>240|19=>171|20=>172|21=>321|22=>322|23=>323|24=>324|25=>325|26=>326|27=>327|28=>328|29=>329|36=>385|31=>244|32=>245|37=>386|38=>387|39=>109|41=>451|n=>n,fun|27=>39|29=>9|3=>3|32=>130|26=>39|0=>0|44=>137|46=>118|4=>4|36=>276|35=>275|41=>113|5=>5|9=>9|53=>367|57=>370|63=>453|64=>454|n=>n,fun|n=>n⟩
theorem Tryz.sort156:Go.Proofs.SlLaysM.n6 Tryz.prog Tryz.sort156_ren:={
 mixed:=by kernel_rfl
 f6:=⟨Tryz.f156.name,by decide,Tryz.func156.trans (congrArg some (by kernel_rfl))⟩
 f8:=Tryz.func108.trans (congrArg some (by kernel_rfl))
 f9:=⟨Tryz.f240.name,by decide,Tryz.func240.trans (congrArg some (by kernel_rfl))⟩
 f19:=Tryz.func171.trans (congrArg some (by kernel_rfl))
 f20:=Tryz.func172.trans (congrArg some (by kernel_rfl))
 f21:=⟨Tryz.f321.name,by decide,Tryz.func321.trans (congrArg some (by kernel_rfl))⟩
 f22:=⟨Tryz.f322.name,by decide,Tryz.func322.trans (congrArg some (by kernel_rfl))⟩
 f23:=⟨Tryz.f323.name,by decide,Tryz.func323.trans (congrArg some (by kernel_rfl))⟩
 f24:=⟨Tryz.f324.name,by decide,Tryz.func324.trans (congrArg some (by kernel_rfl))⟩
 f25:=⟨Tryz.f325.name,by decide,Tryz.func325.trans (congrArg some (by kernel_rfl))⟩
 f26:=⟨Tryz.f326.name,by decide,Tryz.func326.trans (congrArg some (by kernel_rfl))⟩
 f27:=⟨Tryz.f327.name,by decide,Tryz.func327.trans (congrArg some (by kernel_rfl))⟩
 f28:=⟨Tryz.f328.name,by decide,Tryz.func328.trans (congrArg some (by kernel_rfl))⟩
 f29:=⟨Tryz.f329.name,by decide,Tryz.func329.trans (congrArg some (by kernel_rfl))⟩
 f31:=Tryz.func244.trans (congrArg some (by kernel_rfl))
 f32:=Tryz.func245.trans (congrArg some (by kernel_rfl))
 f36:=⟨Tryz.f385.name,by decide,Tryz.func385.trans (congrArg some (by kernel_rfl))⟩
 f37:=⟨Tryz.f386.name,by decide,Tryz.func386.trans (congrArg some (by kernel_rfl))⟩
 f38:=⟨Tryz.f387.name,by decide,Tryz.func387.trans (congrArg some (by kernel_rfl))⟩
 f39:=⟨Tryz.f109.name,by decide,Tryz.func109.trans (congrArg some (by kernel_rfl))⟩
 f41:=⟨Tryz.f451.name,by decide,Tryz.func451.trans (congrArg some (by kernel_rfl))⟩
 t0:=Tryz.underlying0
 a0:=Tryz.isAgg0
 z0:=Tryz.sizeOf0
 v0:=Tryz.zeroValue0
 t3:=Tryz.underlying3
 a3:=Tryz.isAgg3
 z3:=Tryz.sizeOf3
 v3:=Tryz.zeroValue3
 t4:=Tryz.underlying4
 a4:=Tryz.isAgg4
 z4:=Tryz.sizeOf4
 v4:=Tryz.zeroValue4
 t5:=Tryz.underlying5
 a5:=Tryz.isAgg5
 z5:=Tryz.sizeOf5
 v5:=Tryz.zeroValue5
 t9:=Tryz.underlying9
 a9:=Tryz.isAgg9
 z9:=Tryz.sizeOf9
 v9:=Tryz.zeroValue9
 t26:=Tryz.underlying39
 a26:=Tryz.isAgg39
 z26:=Tryz.sizeOf39
 v26:=Tryz.zeroValue39
 t27:=Tryz.underlying39
 a27:=Tryz.isAgg39
 z27:=Tryz.sizeOf39
 v27:=Tryz.zeroValue39
 t29:=Tryz.underlying9
 a29:=Tryz.isAgg9
 z29:=Tryz.sizeOf9
 v29:=Tryz.zeroValue9
 t32:=Tryz.underlying130
 a32:=Tryz.isAgg130
 z32:=Tryz.sizeOf130
 v32:=Tryz.zeroValue130
 t35:=Tryz.underlying275
 a35:=Tryz.isAgg275
 z35:=Tryz.sizeOf275
 v35:=Tryz.zeroValue275
 t36:=Tryz.underlying276
 a36:=Tryz.isAgg276
 z36:=Tryz.sizeOf276
 v36:=Tryz.zeroValue276
 t41:=Tryz.underlying113
 a41:=Tryz.isAgg113
 z41:=Tryz.sizeOf113
 v41:=Tryz.zeroValue113
 t44:=Tryz.underlying137
 a44:=Tryz.isAgg137
 z44:=Tryz.sizeOf137
 v44:=Tryz.zeroValue137
 t46:=Tryz.underlying118
 a46:=Tryz.isAgg118
 z46:=Tryz.sizeOf118
 v46:=Tryz.zeroValue118
 t53:=Tryz.underlying367
 a53:=Tryz.isAgg367
 z53:=Tryz.sizeOf367
 v53:=Tryz.zeroValue367
 t57:=Tryz.underlying370
 a57:=Tryz.isAgg370
 z57:=Tryz.sizeOf370
 v57:=Tryz.zeroValue370
 t63:=Tryz.underlying453
 a63:=Tryz.isAgg453
 z63:=Tryz.sizeOf453
 v63:=Tryz.zeroValue453
 t64:=Tryz.underlying454
 a64:=Tryz.isAgg454
 z64:=Tryz.sizeOf454
 v64:=Tryz.zeroValue454}
def Tryz.sort319_ren:Go.Shelf.Ren:=⟨fun|5=>319|8=>108|7=>384|19=>171|20=>172|10=>442|11=>443|12=>444|13=>445|14=>446|15=>447|16=>448|17=>449|18=>450|30=>504|31=>244|32=>245|33=>505|34=>506|35=>335|40=>530|n=>n,fun|23=>358|25=>3|3=>3|32=>130|22=>358|0=>0|44=>137|46=>118|4=>4|36=>276|35=>275|41=>113|5=>5|9=>9|53=>367|57=>370|63=>453|64=>454|n=>n,fun|n=>n⟩
theorem Tryz.sort319:Go.Proofs.SlLaysM.n5 Tryz.prog Tryz.sort319_ren:={
 mixed:=by kernel_rfl
 f5:=⟨Tryz.f319.name,by decide,Tryz.func319.trans (congrArg some (by kernel_rfl))⟩
 f7:=⟨Tryz.f384.name,by decide,Tryz.func384.trans (congrArg some (by kernel_rfl))⟩
 f8:=Tryz.func108.trans (congrArg some (by kernel_rfl))
 f10:=⟨Tryz.f442.name,by decide,Tryz.func442.trans (congrArg some (by kernel_rfl))⟩
 f11:=⟨Tryz.f443.name,by decide,Tryz.func443.trans (congrArg some (by kernel_rfl))⟩
 f12:=⟨Tryz.f444.name,by decide,Tryz.func444.trans (congrArg some (by kernel_rfl))⟩
 f13:=⟨Tryz.f445.name,by decide,Tryz.func445.trans (congrArg some (by kernel_rfl))⟩
 f14:=⟨Tryz.f446.name,by decide,Tryz.func446.trans (congrArg some (by kernel_rfl))⟩
 f15:=⟨Tryz.f447.name,by decide,Tryz.func447.trans (congrArg some (by kernel_rfl))⟩
 f16:=⟨Tryz.f448.name,by decide,Tryz.func448.trans (congrArg some (by kernel_rfl))⟩
 f17:=⟨Tryz.f449.name,by decide,Tryz.func449.trans (congrArg some (by kernel_rfl))⟩
 f18:=⟨Tryz.f450.name,by decide,Tryz.func450.trans (congrArg some (by kernel_rfl))⟩
 f19:=Tryz.func171.trans (congrArg some (by kernel_rfl))
 f20:=Tryz.func172.trans (congrArg some (by kernel_rfl))
 f30:=⟨Tryz.f504.name,by decide,Tryz.func504.trans (congrArg some (by kernel_rfl))⟩
 f31:=Tryz.func244.trans (congrArg some (by kernel_rfl))
 f32:=Tryz.func245.trans (congrArg some (by kernel_rfl))
 f33:=⟨Tryz.f505.name,by decide,Tryz.func505.trans (congrArg some (by kernel_rfl))⟩
 f34:=⟨Tryz.f506.name,by decide,Tryz.func506.trans (congrArg some (by kernel_rfl))⟩
 f35:=⟨Tryz.f335.name,by decide,Tryz.func335.trans (congrArg some (by kernel_rfl))⟩
 f40:=⟨Tryz.f530.name,by decide,Tryz.func530.trans (congrArg some (by kernel_rfl))⟩
 t0:=Tryz.underlying0
 a0:=Tryz.isAgg0
 z0:=Tryz.sizeOf0
 v0:=Tryz.zeroValue0
 t3:=Tryz.underlying3
 a3:=Tryz.isAgg3
 z3:=Tryz.sizeOf3
 v3:=Tryz.zeroValue3
 t4:=Tryz.underlying4
 a4:=Tryz.isAgg4
 z4:=Tryz.sizeOf4
 v4:=Tryz.zeroValue4
 t5:=Tryz.underlying5
 a5:=Tryz.isAgg5
 z5:=Tryz.sizeOf5
 v5:=Tryz.zeroValue5
 t9:=Tryz.underlying9
 a9:=Tryz.isAgg9
 z9:=Tryz.sizeOf9
 v9:=Tryz.zeroValue9
 t22:=Tryz.underlying358
 a22:=Tryz.isAgg358
 z22:=Tryz.sizeOf358
 v22:=Tryz.zeroValue358
 t23:=Tryz.underlying358
 a23:=Tryz.isAgg358
 z23:=Tryz.sizeOf358
 v23:=Tryz.zeroValue358
 t25:=Tryz.underlying3
 a25:=Tryz.isAgg3
 z25:=Tryz.sizeOf3
 v25:=Tryz.zeroValue3
 t32:=Tryz.underlying130
 a32:=Tryz.isAgg130
 z32:=Tryz.sizeOf130
 v32:=Tryz.zeroValue130
 t35:=Tryz.underlying275
 a35:=Tryz.isAgg275
 z35:=Tryz.sizeOf275
 v35:=Tryz.zeroValue275
 t36:=Tryz.underlying276
 a36:=Tryz.isAgg276
 z36:=Tryz.sizeOf276
 v36:=Tryz.zeroValue276
 t41:=Tryz.underlying113
 a41:=Tryz.isAgg113
 z41:=Tryz.sizeOf113
 v41:=Tryz.zeroValue113
 t44:=Tryz.underlying137
 a44:=Tryz.isAgg137
 z44:=Tryz.sizeOf137
 v44:=Tryz.zeroValue137
 t46:=Tryz.underlying118
 a46:=Tryz.isAgg118
 z46:=Tryz.sizeOf118
 v46:=Tryz.zeroValue118
 t53:=Tryz.underlying367
 a53:=Tryz.isAgg367
 z53:=Tryz.sizeOf367
 v53:=Tryz.zeroValue367
 t57:=Tryz.underlying370
 a57:=Tryz.isAgg370
 z57:=Tryz.sizeOf370
 v57:=Tryz.zeroValue370
 t63:=Tryz.underlying453
 a63:=Tryz.isAgg453
 z63:=Tryz.sizeOf453
 v63:=Tryz.zeroValue453
 t64:=Tryz.underlying454
 a64:=Tryz.isAgg454
 z64:=Tryz.sizeOf454
 v64:=Tryz.zeroValue454}
end Go.Proofs

set_option linter.constructorNameAsVariable false
set_option linter.unusedVariables false
namespace Go.Proofs.YtbhbdeelpopgoaaGreatDoor.E
open Go Go.RowKit Go.Maps Go.Sort Go.Shelf H
attribute [local irreducible] H.CL H.RW H.CW H.Yd H.thenK H.blockQ Go.Calls
section
variable {α : Type}
noncomputable def insL(lt:α→α→Bool)(x:α)(l:List α):(List α→Bool)→Bool:=List.rec (motive:=fun _=>(List α→Bool)→Bool) (fun k=>k [x]) (fun y t ih k=>ife (lt y x) (ih fun r=>k (y::r)) (k (x::y::t))) l
theorem insL_ok{lt:α→α→Bool}{x:α}: ∀{l:List α} {k:List α→Bool},insL lt x l k=true→∃r,k r=true∧r.Perm (x::l)
 | [],k,h=>⟨[x],h,.refl _⟩
 | y::t,k,h=>by
  rcases ife_ok (b:=lt y x) h with ⟨_,h⟩|⟨_,h⟩
  ·obtain⟨r,h1,h2⟩:=insL_ok (l:=t) h
   exact⟨_,h1,(h2.cons y).trans (.swap x y t)⟩
  ·exact⟨_,h,.refl _⟩
noncomputable def srtL(lt:α→α→Bool)(l:List α):(List α→Bool)→Bool:=List.rec (motive:=fun _=>(List α→Bool)→Bool) (fun k=>k []) (fun x _ ih k=>ih fun r=>insL lt x r k) l
theorem srtL_ok{lt:α→α→Bool}: ∀{l:List α} {k:List α→Bool},srtL lt l k=true→∃r,k r=true∧r.Perm l
 | [],k,h=>⟨[],h,.refl _⟩
 | x::l,k,h=>by
  obtain⟨r,h1,h2⟩:=srtL_ok (l:=l) (k:=fun r=>insL lt x r k) h
  obtain⟨q,h3,h4⟩:=insL_ok h1
  exact⟨q,h3,h4.trans (h2.cons x)⟩
noncomputable def ascL(lt:α→α→Bool)(l:List α):Bool:=List.rec (motive:=fun _=>Bool) true (fun x t ih=>List.rec (motive:=fun _=>Bool) true (fun y _ _=>ask (lt x y) ih) t) l
theorem ascL_ok{lt:α→α→Bool}{R:α→α→Prop}(tr : ∀x y z,R x y→R y z→R x z): ∀{l:List α},(∀x∈l,∀y∈l,lt x y=true→R x y)→ascL lt l=true→l.Pairwise R
 | [],_,_=> .nil
 | [x],_,_=>by simp
 | x::y::t,hR,h=>by
  obtain⟨h1,h2⟩:=ask_ok (b:=lt x y) h
  have ih:=ascL_ok tr (l:=y::t) (fun a ha b hb=>hR a (List.mem_cons_of_mem _ ha) b (List.mem_cons_of_mem _ hb)) h2
  have hxy:=hR x List.mem_cons_self y (List.mem_cons_of_mem _ List.mem_cons_self) h1
  refine List.pairwise_cons.2 ⟨fun z hz=>?_,ih⟩
  rcases List.mem_cons.1 hz with rfl|hz
  ·exact hxy
  ·exact tr _ _ _ hxy ((List.pairwise_cons.1 ih).1 z hz)
end
noncomputable def strsK(x:List AV):(List (List Nat)→Bool)→Bool:=List.rec (motive:=fun _=>(List (List Nat)→Bool)→Bool) (fun k=>k []) (fun a _ ih k=>qStr a fun s=>lenK s fun n=>ask (Nat.ble n 1000000) (ih fun l=>k (s::l))) x
theorem strsK_ok: ∀{x:List AV} {k:List (List Nat)→Bool},strsK x k=true→∃l,x=l.map AV.str∧(∀s∈l,s.length≤1000000)∧k l=true
 | [],k,h=>⟨[],rfl,(fun s hs=>by cases hs),h⟩
 | a::x,k,h=>by
  obtain⟨s,rfl,h⟩:=qStr_ok (x:=a) h
  replace h:lenK s (fun n=>ask (Nat.ble n 1000000) (strsK x fun l=>k (s::l)))=true:=h
  rw[lenK_eq] at h
  obtain⟨hn,h⟩:=ask_ok h
  obtain⟨l,rfl,hl,h⟩:=strsK_ok (x:=x) h
  refine⟨s::l,rfl,fun y hy=>?_,h⟩
  rcases List.mem_cons.1 hy with rfl|hy
  ·exact ble_le hn
  ·exact hl y hy
theorem reals_strs{r:Ren}: ∀{l:List (List Nat)} {us:List Value},reals r (l.map AV.str)=some us→us=(l.map textOf).map encStr∧∀s∈l,Bytes s
 | [],us,h=>by
  rw[List.map_nil,reals_nil] at h; cases h
  exact⟨rfl,fun s hs=>by cases hs⟩
 | s::l,us,h=>by
  obtain⟨u,t,hu,ht,rfl⟩:=reals_cons.1 h
  obtain⟨hb,rfl⟩:=real_str hu
  obtain⟨rfl,h2⟩:=reals_strs ht
  refine⟨rfl,fun x hx=>?_⟩
  rcases List.mem_cons.1 hx with rfl|hx
  ·exact hb
  ·exact h2 x hx
theorem strs_real{r:Ren}: ∀{l:List (List Nat)},(∀s∈l,Bytes s)→reals r (l.map AV.str)=some ((l.map textOf).map encStr)
 | [],_=>reals_nil
 | s::l,h=>reals_cons.2 ⟨_,_,str_real (h s List.mem_cons_self),strs_real fun x hx=>h x (List.mem_cons_of_mem _ hx),rfl⟩
noncomputable def keysOf(gs:List FuncId)(h:Hp)(v:AV)(k:AV→Bool):Bool:=match v with
 | .fn (.func g) [] [.ptr i 0]=>ask (memN g gs) (cellsK h i fun _ _ _ cs=>nthK cs 0 k)
 | _=>false
theorem memN_in{j:Nat}{l:List Nat}(h:memN j l=true):j∈l:=by
 rw[memN_eq] at h; simpa using h
noncomputable def sortedS(ty:TypeId)(gs:List FuncId)(vs:List AV)(h:Hp)(k:KV):Bool:=one1 vs fun v=>keysOf gs h v fun m=>match m with
 | .nilm=>k .nils h
 | .map j=>mapK h j fun ks _ _ _=>strsK ks fun l=>srtL sLt l fun r=>ask (ascL sLt r) (lenK r fun n=>ask (Nat.ble n 1000000) (ife (Nat.beq n 0) (k .nils h) (newH h (.cells ty true false (r.map AV.str)) fun i h=>k (.slx i 0 n 1) h)))
 | _=>false
theorem map_both{α β γ δ:Type}{f:α→β}{g:α→γ}{enc:δ→β}{lt:δ→γ}: ∀{l:List α} {ks:List δ},l.map f=ks.map enc→(∀e∈l,∀x∈ks,f e=enc x→g e=lt x)→l.map g=ks.map lt
 | [],[],_,_=>rfl
 | [],_::_,h,_=>by cases h
 | _::_,[],h,_=>by cases h
 | e::l,x::ks,h,hg=>by
  rw[List.map_cons,List.map_cons] at h
  injection h with h1 h2
  rw[List.map_cons,List.map_cons,hg e List.mem_cons_self x List.mem_cons_self h1,map_both h2 fun e he x hx=>hg e (List.mem_cons_of_mem _ he) x (List.mem_cons_of_mem _ hx)]
abbrev RN:Value→Option (DataW Unit×List MemPlace):=fun _=>some (.nil,[])
theorem own_of{α:Type}{enc:α→Value}{lt:α→Lit}{K:TypeId}{w:World}{b:Nat}{en:Array MapEntry}{ck:Nat}{ks:List α}(hk : ∀x∈ks,keyOf Tryz.prog K (enc x)=some (lt x))(hb:w.heap[b]?=some (.map en ck))(hks:en.toList.map (·.key)=ks.map enc)(hnd:(ks.map enc).Nodup)(h1:(en.toList.map (·.born)).Pairwise (· < ·))(h2 : ∀e∈en.toList,e.born < ck)(hl:ks.length≤1000000):
  ∃D:List (Lit×DataW Unit),w.ownsMap Tryz.prog K RN b en.size (.map D)∧(D.map (·.1)).Perm (ks.map lt)∧D.length=ks.length:=by
 have hsz:en.size=ks.length:=by have:=congrArg List.length hks; simpa using this
 have hkey : ∀e∈en.toList,∃x∈ks,e.key=enc x:=fun e he=>by
  have:e.key∈ks.map enc:=hks▸List.mem_map.2 ⟨e,he,rfl⟩
  obtain⟨x,hx,q⟩:=List.mem_map.1 this
  exact⟨x,hx,q.symm⟩
 have hrd : ∀e∈en.toList,∀x∈ks,e.key=enc x→WideElems.rd Tryz.prog K RN e=some (lt x,.nil):=fun e he x hx q=>by
  simp only[WideElems.rd,q,hk x hx,Option.bind_some,Option.map_some]
 refine⟨_,⟨en,ck,hb,⟨by rw[hsz]; exact Nat.le_trans hl (by simp[maxLen]),⟨h2,h1.imp (fun h=>Nat.ne_of_lt h),by rw[hks]; exact hnd⟩,fun e he=>?_⟩,Nat.le_refl _,rfl⟩,?_,?_⟩
 ·obtain⟨x,hx,q⟩:=hkey e he
  exact⟨_,hrd e he x hx q⟩
 ·refine((WideShapes.sorted_perm _).map _).trans ?_
  rw[List.map_map]
  rw[map_both hks fun e he x hx q=>by
   show(WideElems.rg Tryz.prog K RN e).1=lt x
   rw[WideElems.rg_of (hrd e he x hx q)]]
 ·rw[length_sorted,List.length_map,Array.length_toList,hsz]
def SrtA{α:Type}(P:Program)(enc:α→Value)(le:α→α→Bool)(ok:α→Prop)(f g:FuncId)(ty:TypeId):Prop:=(∀(w:World) (Bm:Nat),w.cell? ⟨Bm,0,none⟩=some (.map none)→Calls P f #[.func (.func g) #[] #[.pointer (some ⟨Bm,0,none⟩)]] w fun e w'=>e = .returned (.slice none 0 0)∧K0 w w')∧
 ∀(w:World) (Bm b:Nat) (en:Array MapEntry) (ck:Nat) (ks:List α),w.cell? ⟨Bm,0,none⟩=some (.map (some b))→w.heap[b]?=some (.map en ck)→en.toList.map (·.key)=ks.map enc→(ks.map enc).Nodup→(en.toList.map (·.born)).Pairwise (· < ·)→(∀e∈en.toList,e.born < ck)→ks.length≤1000000→(∀s∈ks,ok s)→
  Calls P f #[.func (.func g) #[] #[.pointer (some ⟨Bm,0,none⟩)]] w fun e w'=>∃(v:Value) (ss:List α),e = .returned v∧ss.Perm ks∧w'.ownsRow w.heap.size ty 1 v ss.length ((ss.mergeSort le).map enc)∧(v = .slice none 0 0↔ss=[])∧K0 w w'
abbrev leS:List UInt8→List UInt8→Bool:=fun x y=>decide (x≤y)
abbrev leZ:Int→Int→Bool:=fun x y=>decide (x≤y)
theorem cell_lt{w:World}{p:Nat}{v:Value}(h:w.cell? ⟨p,0,none⟩=some v):p < w.heap.size:=by
 rcases Nat.lt_or_ge p w.heap.size with c|c
 ·exact c
 ·simp[World.cell?,Array.getElem?_eq_none c] at h
theorem sorts103(m:Nat):AnyZ.SortsIn Tryz.prog Tryz.sorted101_ren Fence.wide m:=
 ⟨fun blk off cap ss W hH hblk hsz=>callsIn_wide.2 (AnyM.slices_Sort_string Tryz.sort156 blk off cap ss W hH hblk hsz),
  fun p cap W=>callsIn_wide.2 (AnyM.slices_Sort_string_none Tryz.sort156 p cap W)⟩
theorem sorts239(m:Nat):AnyZI.SortsIn Tryz.prog Tryz.sorted236_ren Fence.wide m:=
 ⟨fun blk off cap ss W hH hblk hsz=>callsIn_wide.2 (AnyM.slices_Sort_int Tryz.sort319 blk off cap ss W hH hblk hsz),
  fun p cap W=>callsIn_wide.2 (AnyM.slices_Sort_int_none Tryz.sort319 p cap W)⟩
set_option maxHeartbeats 1000000 in
theorem srtS{ρ:Shelf.Ren}(L:SlLaysZ.n10 Tryz.prog ρ)(hK:ρ.t 26=9){g:FuncId}(hg:ρ.f 10=g)(eg : ∀args w,(callFunc g args).run Tryz.prog w = .ok (.enter g args) w):SrtA Tryz.prog encStr leS (fun s=>s.length≤maxLen) 101 g 9:=by
 subst hg
 refine⟨fun w Bm hm=>?_,fun w Bm b en ck ks hm hb hks hnd h1 h2 hl hs=>?_⟩
 ·have hseq:=AnyZ.keys_gives_nil L Fence.wide 2 trivial rfl Bm w (cell_lt hm) hm
  refine(callsIn_wide.1 (AnyZ.sorted_in Tryz.sorted101 Fence.wide 5 trivial trivial trivial trivial rfl (by omega) (sorts103 _) (enters_of Tryz.func156 (by kernel_rfl) rfl) _ _ trivial eg _ 0 (Nat.zero_le _) (by omega) _ hseq)).mono ?_
  rintro e w' ⟨v,ss,rfl,hss,hrow,hnil,hB⟩
  exact⟨by rw[hnil.2 hss],Kept.of_below hB⟩
 ·obtain⟨D,hown,hD,hDl⟩:=own_of (lt:=fun s=> .string s) (K:=9) (fun x hx=>WideMaps.keyOf_string_mk (s:=⟨x.toArray⟩) (by kernel_rfl) (hs x hx)) hb hks hnd h1 h2 hl
  have hseq:=AnyZ.keys_gives L Fence.wide 2 trivial rfl (by omega) Bm b en.size _ w (cell_lt hm) hm (by rw[hK]; exact hown)
  have hszD:Maps.size (.map D:DataW Unit)=ks.length:=hDl
  refine(callsIn_wide.1 (AnyZ.sorted_in Tryz.sorted101 Fence.wide 5 trivial trivial trivial trivial rfl (by omega) (sorts103 _) (enters_of Tryz.func156 (by kernel_rfl) rfl) _ _ trivial eg _ _ (by rw[hszD]; exact Nat.le_trans hl (by simp[maxLen])) (by rw[hszD]; omega) _ hseq)).mono ?_
  rintro e w' ⟨v,ss,rfl,hss,hrow,hnil,hB⟩
  refine⟨v,ss,rfl,hss.trans ?_,hrow,hnil,Kept.of_below hB⟩
  have:=hD.map _root_.Go.strOf
  simp only[List.map_map] at this
  refine List.Perm.trans (List.Perm.of_eq ?_) (this.trans (List.Perm.of_eq ?_))
  ·rfl
  ·rw[show(_root_.Go.strOf ∘ fun s=>Lit.string s)=id from rfl,List.map_id]
set_option maxHeartbeats 1000000 in
theorem srtZ{ρ:Shelf.Ren}(L:SlLaysZI.n10 Tryz.prog ρ)(hK:ρ.t 26=3){g:FuncId}(hg:ρ.f 10=g)(eg : ∀args w,(callFunc g args).run Tryz.prog w = .ok (.enter g args) w):SrtA Tryz.prog encZ leZ (fun n=>0≤n∧n≤1000000) 236 g 3:=by
 subst hg
 refine⟨fun w Bm hm=>?_,fun w Bm b en ck ks hm hb hks hnd h1 h2 hl hs=>?_⟩
 ·have hseq:=AnyZI.keys_gives_nil L Fence.wide 2 trivial rfl Bm w (cell_lt hm) hm
  refine(callsIn_wide.1 (AnyZI.sorted_in Tryz.sorted236 Fence.wide 5 trivial trivial trivial trivial rfl (by omega) (sorts239 _) (enters_of Tryz.func319 (by kernel_rfl) rfl) _ _ trivial eg _ 0 (Nat.zero_le _) (by omega) _ hseq)).mono ?_
  rintro e w' ⟨v,ss,rfl,hss,hrow,hnil,hB⟩
  exact⟨by rw[hnil.2 hss],Kept.of_below hB⟩
 ·obtain⟨D,hown,hD,hDl⟩:=own_of (lt:=fun s=> .int .i64 s) (K:=3) (fun x hx=>keyOf_int_mk (by kernel_rfl) (by have:=hs x hx; simp[Lit.wf,IntKind.min,IntKind.max,IntKind.signed,IntKind.bits]; omega)) hb hks hnd h1 h2 hl
  have hseq:=AnyZI.keys_gives L Fence.wide 2 trivial rfl (by omega) Bm b en.size _ w (cell_lt hm) hm (by rw[hK]; exact hown)
  have hszD:Maps.size (.map D:DataW Unit)=ks.length:=hDl
  refine(callsIn_wide.1 (AnyZI.sorted_in Tryz.sorted236 Fence.wide 5 trivial trivial trivial trivial rfl (by omega) (sorts239 _) (enters_of Tryz.func319 (by kernel_rfl) rfl) _ _ trivial eg _ _ (by rw[hszD]; exact Nat.le_trans hl (by simp[maxLen])) (by rw[hszD]; omega) _ hseq)).mono ?_
  rintro e w' ⟨v,ss,rfl,hss,hrow,hnil,hB⟩
  refine⟨v,ss,rfl,hss.trans ?_,hrow,hnil,Kept.of_below hB⟩
  have:=hD.map _root_.Go.intOf
  simp only[List.map_map] at this
  refine List.Perm.trans (List.Perm.of_eq ?_) (this.trans (List.Perm.of_eq ?_))
  ·rfl
  ·rw[show(_root_.Go.intOf ∘ fun s=>Lit.int .i64 s)=id from rfl,List.map_id]
end Go.Proofs.YtbhbdeelpopgoaaGreatDoor.E

set_option linter.constructorNameAsVariable false
set_option linter.unusedVariables false
namespace Go.Proofs.YtbhbdeelpopgoaaGreatDoor.E
open Go Go.RowKit Go.Maps Go.Sort Go.Shelf H
attribute [local irreducible] H.CL H.RW H.CW H.Yd H.thenK H.blockQ Go.Calls
theorem keysOf_ok{gs:List FuncId}{h:Hp}{v:AV}{k:AV→Bool}(hk:keysOf gs h v k=true): ∃g i m,v = .fn (.func g) [] [.ptr i 0]∧g∈gs∧k m=true∧∃t o ro cs,h.at i=some (.cells t o ro cs)∧cs[0]?=some m:=by
 unfold keysOf at hk
 split at hk
 ·rename_i g i
  obtain⟨hg,hk⟩:=ask_ok hk
  obtain⟨t,o,ro,cs,hb,hk⟩:=cellsK_ok hk
  obtain⟨m,hm,hk⟩:=nthK_ok hk
  exact⟨g,i,m,rfl,memN_in hg,hk,t,o,ro,cs,hb,hm⟩
 ·cases hk
theorem row_new{S:Nat→Prop}{w0:World}{fl:Nat}{r:Ren}{h:Hp}{w w':World}{ty:TypeId}{v:Value}{n:Nat}{us:List Value}{l:List AV}(hR:Rel S w0 fl r h w)(hl:h.next < LIM)(hk:K0 w w')(ho:w'.ownsRow w.heap.size ty 1 v n us)(hn:n≠0)(hln:l.length=n)(hus : ∀r',reals r' l=some us):
  ∃r',Ext r r'∧Rel S w0 fl r' (h.new (.cells ty true false l)) w'∧real r' (.slx h.next 0 n 1)=some v:=by
 rcases ho.2 with ⟨_,z⟩|⟨g,cap,cur,rfl,hbase,hg,r1,r2,r3,r4⟩
 ·exact absurd z hn
 ·rw[Nat.mul_one] at r3 r4
  have hx:=upd_ext hR (g,cap)
  refine⟨upd r h.next (g,cap),hx,hR.new hl hk hbase ⟨cur,(0,0),us,hg,r3,hus _,by rw[hln]; exact r4.symm,by rw[hln]; exact r1,(fun z=>by cases z),fun _=> .inl rfl⟩,?_⟩
  simp only[real,upd_same,Option.bind_some,Nat.zero_add,Nat.mul_one,Nat.sub_zero,Nat.div_one]
  rw[if_pos ⟨Nat.one_pos,r1,r2⟩]
theorem sorted_eq{l r:List (List UInt8)}(hp:l.Perm r)(hr:r.Pairwise (· < ·)):l.mergeSort leS=r:=by
 rw[show l.mergeSort leS=r.mergeSort leS from _root_.Go.mergeSort_of_perm hp]
 refine List.mergeSort_of_pairwise (hr.imp fun {a b} hab=>?_)
 simpa [leS] using List.le_of_lt hab
theorem sortedS_ok{fl:Nat}{gs:List FuncId}(hg : ∀g∈gs,SrtA Tryz.prog encStr leS (fun s=>s.length≤maxLen) 101 g 9):Pr1 Tryz.prog fl 101 fun _ vs h kr _=>sortedS 9 gs vs h kr:=by
 refine Pr1.mem fun ps h k hk=>?_
 obtain⟨v,rfl,hk1⟩:=one1_ok hk
 clear hk
 obtain⟨g,i,m,rfl,hgm,hk2,t,o,ro,cs,hb,hm⟩:=keysOf_ok hk1
 clear hk1
 obtain⟨hnil,hmap⟩:=hg g hgm
 have arg : ∀{S:Nat→Prop} {w0:World} {r:Ren} {w:World} {xs:List Value},Rel S w0 fl r h w→reals r [.fn (.func g) [] [.ptr i 0]]=some xs→∃p,r i=some p∧xs=[.func (.func g) #[] #[.pointer (some ⟨p.1,0,none⟩)]]∧∃u,real r m=some u∧w.cell? ⟨p.1,0,none⟩=some u:=by
  intro S w0 r w xs hR hxs
  obtain⟨x,hx,rfl⟩:=reals1 hxs
  obtain⟨a,b,ha,hb2,rfl⟩:=real_fn hx
  rw[reals_nil] at ha; cases ha
  obtain⟨y,hy,rfl⟩:=reals1 hb2
  obtain⟨p,hp,rfl⟩:=real_ptr hy
  obtain⟨c,fz,us,e1,e2,e3,_⟩:=hR.at hp hb
  obtain⟨u,hu,hur⟩:=reals_at e3 hm
  exact⟨p,hp,rfl,u,hur,cell_of (hR.at hp hb) e3 hu⟩
 split at hk2
 ·refine⟨_,_,hk2,fun S' w0 r w xs hR hxs=>?_⟩
  obtain⟨p,hp,rfl,u,hu,hc⟩:=arg hR hxs
  cases hu
  refine(hnil w p.1 hc).mono ?_
  rintro e w' ⟨rfl,k'⟩
  exact⟨r,_,rfl,Ext.refl r,hR.same k',rfl⟩
 ·rename_i j
  obtain⟨ks,vs,bs,ck,hbj,hk3⟩:=mapK_ok hk2
  obtain⟨l,rfl,hll,hk4⟩:=strsK_ok hk3
  obtain⟨q,hk5,hperm⟩:=srtL_ok hk4
  obtain⟨hasc,hk6⟩:=ask_ok hk5
  replace hk6:lenK q (fun n=>ask (Nat.ble n 1000000) (ife (Nat.beq n 0) (k .nils h) (newH h (.cells 9 true false (q.map AV.str)) fun i h=>k (.slx i 0 n 1) h)))=true:=hk6
  rw[lenK_eq] at hk6
  obtain⟨hlen,hk7⟩:=ask_ok hk6
  have hlen:=ble_le hlen
  have main : ∀{S:Nat→Prop} {w0:World} {r:Ren} {w:World} {xs:List Value},Rel S w0 fl r h w→reals r [.fn (.func g) [] [.ptr i 0]]=some xs→(∀r',reals r' (q.map AV.str)=some ((q.map textOf).map encStr))∧Calls Tryz.prog 101 xs.toArray w fun e w'=>∃v,e = .returned v∧K0 w w'∧w'.ownsRow w.heap.size 9 1 v q.length ((q.map textOf).map encStr)∧(q.length=0→v = .slice none 0 0):=by
   intro S w0 r w xs hR hxs
   obtain⟨p,hp,rfl,u,hu,hc⟩:=arg hR hxs
   obtain⟨p2,hp2,rfl⟩:=real_map hu
   obtain⟨en,c,e1,e2,e3,e4,e5,e6,rfl⟩:=hR.at hp2 hbj
   obtain⟨hks,hbl⟩:=reals_strs e2
   have hbq : ∀s∈q,Bytes s:=fun s hs=>hbl s (hperm.mem_iff.1 hs)
   have hpw:(q.map textOf).Pairwise (· < ·):=List.pairwise_map.2 (ascL_ok (R:=fun x y=>textOf x < textOf y) (fun x y z=>List.lt_trans) (fun x hx y hy hxy=>by
    rw[sLt_eq (hbq x hx) (hbq y hy),bytesLess_eq] at hxy
    simpa using hxy) hasc)
   have hpt:(l.map textOf).Perm (q.map textOf):=(hperm.symm).map _
   have hnd:(l.map textOf).Nodup:=hpt.nodup_iff.2 (hpw.imp fun {a b} (hab:a < b) (e:a=b)=>List.lt_irrefl a (by rw[←e] at hab; exact hab))
   have hlq:q.length=l.length:=hperm.length_eq
   refine⟨fun r'=>strs_real hbq,(hmap w p.1 p2.1 en c (l.map textOf) hc e1 hks (List.pairwise_map.2 (hnd.imp fun {a b} (hab:a≠b) e=>hab (_root_.Go.encStr_inj e))) e4 e5 (by rw[List.length_map]; omega) ?_).mono ?_⟩
   ·intro x hx
    obtain⟨y,hy,rfl⟩:=List.mem_map.1 hx
    rw[text_len]
    exact Nat.le_trans (hll y hy) (by simp[maxLen])
   ·rintro e w' ⟨v,ss,rfl,hss,hrow,hn,hK⟩
    rw[sorted_eq (hss.trans hpt) hpw] at hrow
    have hsl:ss.length=q.length:=by rw[hss.length_eq,List.length_map,hlq]
    rw[hsl] at hrow
    exact⟨v,rfl,hK,hrow,fun z=>hn.2 (List.eq_nil_of_length_eq_zero (hsl.trans z))⟩
  rcases ife_ok hk7 with ⟨h0,hk8⟩|⟨h0,hk8⟩
  ·refine⟨_,_,hk8,fun S' w0 r w xs hR hxs=>(main hR hxs).2.mono ?_⟩
   rintro e w' ⟨v,rfl,hK,_,hn⟩
   exact⟨r,_,rfl,Ext.refl r,hR.same hK,by rw[hn (Nat.eq_of_beq_eq_true h0)]; rfl⟩
  ·obtain⟨hl,hk9⟩:=newH_ok hk8
   refine⟨_,_,hk9,fun S' w0 r w xs hR hxs=>(main hR hxs).2.mono ?_⟩
   rintro e w' ⟨v,rfl,hK,hrow,_⟩
   obtain⟨r',a1,a2,a3⟩:=row_new hR hl hK hrow (fun z=>by rw[z] at h0; simp at h0) (by simp) (main hR hxs).1
   exact⟨r',v,rfl,a1,a2,a3⟩
 ·cases hk2
end Go.Proofs.YtbhbdeelpopgoaaGreatDoor.E

set_option linter.constructorNameAsVariable false
set_option linter.unusedVariables false
namespace Go.Proofs.YtbhbdeelpopgoaaGreatDoor.E
open Go Go.RowKit Go.Maps Go.Sort Go.Shelf H
attribute [local irreducible] H.CL H.RW H.CW H.Yd H.thenK H.blockQ Go.Calls
noncomputable def intsZ(x:List AV):(List Int→Bool)→Bool:=List.rec (motive:=fun _=>(List Int→Bool)→Bool) (fun k=>k []) (fun a _ ih k=>qInt a fun i n=>ask (kEq i .i64) (ask (not (iLt n 0)) (ask (not (iLt 1000000 n)) (ih fun l=>k (n::l))))) x
theorem intsZ_ok: ∀{x:List AV} {k:List Int→Bool},intsZ x k=true→∃l,x=l.map (AV.int .i64)∧(∀n∈l,0≤n∧n≤1000000)∧k l=true
 | [],k,h=>⟨[],rfl,(fun s hs=>by cases hs),h⟩
 | a::x,k,h=>by
  obtain⟨i,n,rfl,h1⟩:=qInt_ok (x:=a) h
  obtain⟨hi,h2⟩:=ask_ok h1
  obtain rfl:=kEq_ok hi
  obtain⟨g1,h3⟩:=ask_ok h2
  obtain⟨g2,h4⟩:=ask_ok h3
  rw[iLt_eq] at g1 g2
  obtain⟨l,rfl,hl,h5⟩:=intsZ_ok (x:=x) h4
  refine⟨n::l,rfl,fun y hy=>?_,h5⟩
  rcases List.mem_cons.1 hy with rfl|hy
  ·simp at g1 g2; exact⟨by omega,by omega⟩
  ·exact hl y hy
theorem reals_ints64{r:Ren}: ∀{l:List Int},reals r (l.map (AV.int .i64))=some (l.map encZ)
 | []=>reals_nil
 | n::l=>reals_cons.2 ⟨_,_,rfl,reals_ints64,rfl⟩
noncomputable def sortedI(ty:TypeId)(gs:List FuncId)(vs:List AV)(h:Hp)(k:KV):Bool:=one1 vs fun v=>keysOf gs h v fun m=>match m with
 | .nilm=>k .nils h
 | .map j=>mapK h j fun ks _ _ _=>intsZ ks fun l=>srtL iLt l fun r=>ask (ascL iLt r) (lenK r fun n=>ask (Nat.ble n 1000000) (ife (Nat.beq n 0) (k .nils h) (newH h (.cells ty true false (r.map (AV.int .i64))) fun i h=>k (.slx i 0 n 1) h)))
 | _=>false
theorem sorted_eqZ{l r:List Int}(hp:l.Perm r)(hr:r.Pairwise (· < ·)):l.mergeSort leZ=r:=by
 rw[show l.mergeSort leZ=r.mergeSort leZ from _root_.Go.mergeSort_of_perm_i hp]
 refine List.mergeSort_of_pairwise (hr.imp fun {a b} hab=>?_)
 have hab:a < b:=hab
 simp only[leZ,decide_eq_true_eq]; omega
theorem sortedI_ok{fl:Nat}{gs:List FuncId}(hg : ∀g∈gs,SrtA Tryz.prog encZ leZ (fun n=>0≤n∧n≤1000000) 236 g 3):Pr1 Tryz.prog fl 236 fun _ vs h kr _=>sortedI 3 gs vs h kr:=by
 refine Pr1.mem fun ps h k hk=>?_
 obtain⟨v,rfl,hk1⟩:=one1_ok hk
 clear hk
 obtain⟨g,i,m,rfl,hgm,hk2,t,o,ro,cs,hb,hm⟩:=keysOf_ok hk1
 clear hk1
 obtain⟨hnil,hmap⟩:=hg g hgm
 have arg : ∀{S:Nat→Prop} {w0:World} {r:Ren} {w:World} {xs:List Value},Rel S w0 fl r h w→reals r [.fn (.func g) [] [.ptr i 0]]=some xs→∃p,r i=some p∧xs=[.func (.func g) #[] #[.pointer (some ⟨p.1,0,none⟩)]]∧∃u,real r m=some u∧w.cell? ⟨p.1,0,none⟩=some u:=by
  intro S w0 r w xs hR hxs
  obtain⟨x,hx,rfl⟩:=reals1 hxs
  obtain⟨a,b,ha,hb2,rfl⟩:=real_fn hx
  rw[reals_nil] at ha; cases ha
  obtain⟨y,hy,rfl⟩:=reals1 hb2
  obtain⟨p,hp,rfl⟩:=real_ptr hy
  obtain⟨c,fz,us,e1,e2,e3,_⟩:=hR.at hp hb
  obtain⟨u,hu,hur⟩:=reals_at e3 hm
  exact⟨p,hp,rfl,u,hur,cell_of (hR.at hp hb) e3 hu⟩
 split at hk2
 ·refine⟨_,_,hk2,fun S' w0 r w xs hR hxs=>?_⟩
  obtain⟨p,hp,rfl,u,hu,hc⟩:=arg hR hxs
  cases hu
  refine(hnil w p.1 hc).mono ?_
  rintro e w' ⟨rfl,k'⟩
  exact⟨r,_,rfl,Ext.refl r,hR.same k',rfl⟩
 ·rename_i j
  obtain⟨ks,vs,bs,ck,hbj,hk3⟩:=mapK_ok hk2
  obtain⟨l,rfl,hll,hk4⟩:=intsZ_ok hk3
  obtain⟨q,hk5,hperm⟩:=srtL_ok hk4
  obtain⟨hasc,hk6⟩:=ask_ok hk5
  replace hk6:lenK q (fun n=>ask (Nat.ble n 1000000) (ife (Nat.beq n 0) (k .nils h) (newH h (.cells 3 true false (q.map (AV.int .i64))) fun i h=>k (.slx i 0 n 1) h)))=true:=hk6
  rw[lenK_eq] at hk6
  obtain⟨hlen,hk7⟩:=ask_ok hk6
  have hlen:=ble_le hlen
  have main : ∀{S:Nat→Prop} {w0:World} {r:Ren} {w:World} {xs:List Value},Rel S w0 fl r h w→reals r [.fn (.func g) [] [.ptr i 0]]=some xs→(∀r',reals r' (q.map (AV.int .i64))=some (q.map encZ))∧Calls Tryz.prog 236 xs.toArray w fun e w'=>∃v,e = .returned v∧K0 w w'∧w'.ownsRow w.heap.size 3 1 v q.length (q.map encZ)∧(q.length=0→v = .slice none 0 0):=by
   intro S w0 r w xs hR hxs
   obtain⟨p,hp,rfl,u,hu,hc⟩:=arg hR hxs
   obtain⟨p2,hp2,rfl⟩:=real_map hu
   obtain⟨en,c,e1,e2,e3,e4,e5,e6,rfl⟩:=hR.at hp2 hbj
   have hks:en.toList.map (·.key)=l.map encZ:=by rw[reals_ints64] at e2; injection e2 with e2; exact e2.symm
   have hpw:q.Pairwise (· < ·):=ascL_ok (R:=fun x y=>x < y) (fun x y z h1 h2=>Int.lt_trans h1 h2) (fun x hx y hy hxy=>by
    rw[iLt_eq] at hxy
    simpa using hxy) hasc
   have hpt:l.Perm q:=hperm.symm
   have hnd:l.Nodup:=hpt.nodup_iff.2 (hpw.imp fun {a b} (hab:a < b) (e:a=b)=>Int.lt_irrefl a (by rw[←e] at hab; exact hab))
   have hlq:q.length=l.length:=hperm.length_eq
   refine⟨fun r'=>reals_ints64,(hmap w p.1 p2.1 en c l hc e1 hks (List.pairwise_map.2 (hnd.imp fun {a b} (hab:a≠b) (e:Value.int .i64 a=Value.int .i64 b)=>hab (by injection e))) e4 e5 (by omega) ?_).mono ?_⟩
   ·exact hll
   ·rintro e w' ⟨v,ss,rfl,hss,hrow,hn,hK⟩
    rw[sorted_eqZ (hss.trans hpt) hpw] at hrow
    have hsl:ss.length=q.length:=by rw[hss.length_eq,hlq]
    rw[hsl] at hrow
    exact⟨v,rfl,hK,hrow,fun z=>hn.2 (List.eq_nil_of_length_eq_zero (hsl.trans z))⟩
  rcases ife_ok hk7 with ⟨h0,hk8⟩|⟨h0,hk8⟩
  ·refine⟨_,_,hk8,fun S' w0 r w xs hR hxs=>(main hR hxs).2.mono ?_⟩
   rintro e w' ⟨v,rfl,hK,_,hn⟩
   exact⟨r,_,rfl,Ext.refl r,hR.same hK,by rw[hn (Nat.eq_of_beq_eq_true h0)]; rfl⟩
  ·obtain⟨hl,hk9⟩:=newH_ok hk8
   refine⟨_,_,hk9,fun S' w0 r w xs hR hxs=>(main hR hxs).2.mono ?_⟩
   rintro e w' ⟨v,rfl,hK,hrow,_⟩
   obtain⟨r',a1,a2,a3⟩:=row_new hR hl hK hrow (fun z=>by rw[z] at h0; simp at h0) (by simp) (main hR hxs).1
   exact⟨r',v,rfl,a1,a2,a3⟩
 ·cases hk2
theorem gs103: ∀g∈[157,518,557],SrtA Tryz.prog encStr leS (fun s=>s.length≤maxLen) 101 g 9:=by
 intro g hg
 rcases List.mem_cons.1 hg with rfl|hg
 ·exact srtS (ρ:=Tryz.keys102_ren) {Tryz.keys102 with} rfl rfl (enters_of Tryz.func157 (by kernel_rfl) rfl)
 rcases List.mem_cons.1 hg with rfl|hg
 ·exact srtS (ρ:=Tryz.keys470_ren) {Tryz.keys470 with} rfl rfl (enters_of Tryz.func518 (by kernel_rfl) rfl)
 rcases List.mem_cons.1 hg with rfl|hg
 ·exact srtS (ρ:=Tryz.keys549_ren) {Tryz.keys549 with} rfl rfl (enters_of Tryz.func557 (by kernel_rfl) rfl)
 ·cases hg
theorem gs239: ∀g∈[320],SrtA Tryz.prog encZ leZ (fun n=>0≤n∧n≤1000000) 236 g 3:=by
 intro g hg
 rw[List.mem_singleton.1 hg]
 exact srtZ (ρ:=Tryz.keys237_ren) {Tryz.keys237 with} rfl rfl (enters_of Tryz.func320 (by kernel_rfl) rfl)
theorem pr_103{fl:Nat}:Pr1 Tryz.prog fl 101 fun _ vs h kr _=>sortedS 9 [157,518,557] vs h kr:=sortedS_ok gs103
theorem pr_239{fl:Nat}:Pr1 Tryz.prog fl 236 fun _ vs h kr _=>sortedI 3 [320] vs h kr:=sortedI_ok gs239
end Go.Proofs.YtbhbdeelpopgoaaGreatDoor.E

set_option linter.constructorNameAsVariable false
set_option linter.unusedVariables false
namespace Go.Proofs.YtbhbdeelpopgoaaGreatDoor.E
open Go Go.RowKit H
section
variable {S : Nat → Prop} {w0 : World} {fl : Nat} {r : Ren} {h : Hp} {w : World}
theorem Rel.adopt(H:Rel S w0 fl r h w){b:Blk}{p:Nat×Nat}(hn:h.next < LIM)(hp : ∀i q,r i=some q→q.1≠p.1)(hm:S p.1∨w0.heap.size≤p.1)(hB:BRel (upd r h.next p) p w b):Rel S w0 fl (upd r h.next p) (h.new b) w:=by
 have hx:=upd_ext H p
 have hl:=H.lim
 refine⟨fun i c hi hc=>?_,fun i j c d q q' hi hj hc hd hq hq' e=>?_,fun i hi=>?_,hn,fun i q hi hq=>?_,fun i q hi hq=>?_,fun i q hq=>?_,H.kept,⟨Nat.le_succ_of_le H.base.1,Nat.le_succ_of_le H.base.2⟩,upd_hol H p,upd_full H p,fun i hi hL=>?_⟩
 ·have hi':i < h.next+1:=hi
  rw[Hp.at_new hn (by omega)] at hc
  by_cases e:h.next=i
  ·subst e; rw[if_pos rfl] at hc; cases hc; exact⟨p,upd_same _ _ _,hB⟩
  ·rw[if_neg e] at hc
   obtain⟨q,hq,hb⟩:=H.live i c (by omega) hc
   exact⟨q,hx.v i q hq,hb.mono hx⟩
 ·have hi':i < h.next+1:=hi
  have hj':j < h.next+1:=hj
  rw[Hp.at_new hn (by omega)] at hc hd
  rw[upd_eq] at hq hq'
  by_cases e1:i=h.next
  ·by_cases e2:j=h.next
   ·omega
   ·rw[if_pos e1] at hq
    rw[if_neg e2] at hq'
    cases hq
    exact absurd e.symm (hp j q' hq')
  ·by_cases e2:j=h.next
   ·rw[if_neg e1] at hq
    rw[if_pos e2] at hq'
    cases hq'
    exact absurd e (hp i q hq)
   ·rw[if_neg (by omega)] at hc hd
    rw[if_neg e1] at hq
    rw[if_neg e2] at hq'
    exact H.inj i j c d q q' (by omega) (by omega) hc hd hq hq' e
 ·have:h.next+1≤i:=hi
  rw[upd_eq,if_neg (by omega)]; exact H.fresh i (by omega)
 ·rw[upd_eq] at hq
  by_cases e:i=h.next
  ·have:=H.base; omega
  ·rw[if_neg e] at hq; exact H.glob i q hi hq
 ·rw[upd_eq] at hq
  by_cases e:i=h.next
  ·rw[if_pos e] at hq; cases hq; exact hm
  ·rw[if_neg e] at hq; exact H.may i q hi hq
 ·rw[upd_eq] at hq
  by_cases e:i=h.next
  ·rw[if_pos e] at hq; cases hq; exact hB.lt
  ·rw[if_neg e] at hq; exact H.dom i q hq
 ·have:h.next+1≤i:=hi
  rw[Hp.at_new hn hL,if_neg (by omega)]; exact H.top i (by omega) hL
end
theorem memN_no{j:Nat}{l:List Nat}(h:memN j l=false):j∉l:=by
 rw[memN_eq] at h; simpa using h
noncomputable def newsK(L:List Blk):Hp→(Hp→Bool)→Bool:=List.rec (motive:=fun _=>Hp→(Hp→Bool)→Bool) (fun h k=>k h) (fun b _ ih h k=>newH h b fun _ h=>ih h k) L
theorem newsK_ok: ∀{L:List Blk} {h:Hp} {k:Hp→Bool},newsK L h k=true→k (L.foldl Hp.new h)=true∧∀i,i < L.length→h.next+i < LIM
 | [],h,k,hk=>⟨hk,fun i hi=>by simp at hi⟩
 | b::L,h,k,hk=>by
  obtain⟨hl,hk⟩:=newH_ok (show newH h b (fun _ h=>newsK L h k)=true from hk)
  obtain⟨h1,h2⟩:=newsK_ok hk
  refine⟨h1,fun i hi=>?_⟩
  cases i with
  | zero=>exact hl
  | succ i=>
   have:=h2 i (by simpa using hi)
   have e:(h.new b).next=h.next+1:=rfl
   rw[e] at this
   omega
noncomputable def blksEq(a:List Blk):List Blk→Bool:=List.rec (motive:=fun _=>List Blk→Bool) (fun l=>List.rec (motive:=fun _=>Bool) true (fun _ _ _=>false) l) (fun x _ ih l=>List.rec (motive:=fun _=>Bool) false (fun y t _=>ask (blkEq x y) (ih t)) l) a
theorem blksEq_ok: ∀{a b:List Blk},blksEq a b=true→a=b
 | [],[],_=>rfl
 | [],_::_,h=>by cases h
 | _::_,[],h=>by cases h
 | x::a,y::b,h=>by
  obtain⟨h1,h2⟩:=ask_ok (b:=blkEq x y) h
  rw[blkEq_ok h1,blksEq_ok h2]
noncomputable def canL(base:Nat)(h:Hp)(cs:List AV):Nat→List Nat→(List AV→Nat→List Nat→List Blk→Bool)→Bool:=List.rec (motive:=fun _=>Nat→List Nat→(List AV→Nat→List Nat→List Blk→Bool)→Bool) (fun nx ad k=>k [] nx ad [])
 (fun c _ ih nx ad k=>ife (flatA c) (ih nx ad fun cs nx ad L=>k (c::cs) nx ad L) (match c with
  | .slx j 0 m z=>ask (Nat.ble base j) (ife (memN j ad) false (cellsK h j fun ty op ro cs=>ask (flats cs) (natK (Nat.succ nx) fun nx1=>ih nx1 (j::ad) fun cs' nx2 ad L=>k (.slx nx 0 m z::cs') nx2 ad (.cells ty op ro cs::L))))
  | _=>false)) cs
noncomputable def canT(base nx0:Nat)(h:Hp)(v:AV)(k:AV→List Blk→Bool):Bool:=ife (flatA v) (k v []) (match v with
 | .slx i 0 n z=>ask (Nat.ble base i) (cellsK h i fun ty op ro cs=>canL base h cs nx0 [i] fun cs' nx _ L=>k (.slx nx 0 n z) (L++[.cells ty op ro cs']))
 | _=>false)
section
variable {S : Nat → Prop} {w0 wb : World} {fl base i0 : Nat} {r0 r' : Ren} {h0 h : Hp} {w : World}
structure CanS (S:Nat→Prop) (w0:World) (fl base i0:Nat) (r0 r':Ren) (h:Hp) (w:World) (rc:Ren) (hc:Hp) (ad:List Nat):Prop where
 rel:Rel S w0 fl rc hc w
 img : ∀i q,rc i=some q→r0 i=some q∨∃j∈ad,j≠i0∧r' j=some q
 ext:Ext r0 rc
 top:i0∈ad
 old : ∀j∈ad,base≤j∧∃b,h.at j=some b
theorem CanS.far{rc:Ren}{hc:Hp}{ad:List Nat}(C:CanS S w0 fl base i0 r0 r' h w rc hc ad)(R0:Rel S w0 fl r0 h0 wb)(R':Rel (fun _=>False) wb base r' h w){j:Nat}{p:Nat×Nat}{b:Blk}(hj:base≤j)(hb:h.at j=some b)(hp:r' j=some p)(hn:j=i0∨j∉ad): ∀i q,rc i=some q→q.1≠p.1:=fun i q hq e=>by
 rcases C.img i q hq with z|⟨j',hj',hne,z⟩
 ·have h1:=R0.dom i q z
  rcases R'.may j p hj hp with c|c
  ·exact c
  ·omega
 ·obtain⟨hb1,b',hb'⟩:=C.old j' hj'
  have:=R'.inj j' j b' b q p (R'.lt z) (R'.lt hp) hb' hb z hp e
  rcases hn with rfl|hn
  ·exact hne this
  ·exact hn (this▸hj')
theorem CanS.put{rc:Ren}{hc:Hp}{ad:List Nat}(C:CanS S w0 fl base i0 r0 r' h w rc hc ad)(R0:Rel S w0 fl r0 h0 wb)(R':Rel (fun _=>False) wb base r' h w){j:Nat}{p:Nat×Nat}{b c:Blk}(hj:base≤j)(hb:h.at j=some b)(hp:r' j=some p)(hn:j∉ad)(hlim:hc.next < LIM)(hB:BRel (upd rc hc.next p) p w c):CanS S w0 fl base i0 r0 r' h w (upd rc hc.next p) (hc.new c) (j::ad):=by
 have hx:=upd_ext C.rel p
 have hm:S p.1∨w0.heap.size≤p.1:=by
  rcases R'.may j p hj hp with z|z
  ·exact z.elim
  ·exact .inr (Nat.le_trans R0.kept.size z)
 refine⟨C.rel.adopt hlim (C.far R0 R' hj hb hp (.inr hn)) hm hB,fun i q hq=>?_,C.ext.trans hx,List.mem_cons_of_mem _ C.top,fun x hx=>?_⟩
 ·rw[upd_eq] at hq
  by_cases e:i=hc.next
  ·rw[if_pos e] at hq; cases hq
   exact .inr ⟨j,List.mem_cons_self,fun e=>hn (e▸C.top),hp⟩
  ·rw[if_neg e] at hq
   rcases C.img i q hq with z|⟨j',a,b,c⟩
   ·exact .inl z
   ·exact .inr ⟨j',List.mem_cons_of_mem _ a,b,c⟩
 ·rcases List.mem_cons.1 hx with rfl|hx
  ·exact⟨hj,b,hb⟩
  ·exact C.old x hx
theorem canL_ok: ∀{cs:List AV} {nx:Nat} {ad:List Nat} {k:List AV→Nat→List Nat→List Blk→Bool},canL base h cs nx ad k=true→∃cs' nx' ad' L,k cs' nx' ad' L=true∧nx'=nx+L.length∧
  ∀{S:Nat→Prop} {w0 wb:World} {fl i0:Nat} {r0 r':Ren} {h0:Hp} {w:World} (rc:Ren) (hc:Hp) (us:List Value),Rel S w0 fl r0 h0 wb→Rel (fun _=>False) wb base r' h w→CanS S w0 fl base i0 r0 r' h w rc hc ad→hc.next=nx→(∀i,i < L.length→nx+i < LIM)→reals r' cs=some us→
   ∃r2,Ext rc r2∧CanS S w0 fl base i0 r0 r' h w r2 (L.foldl Hp.new hc) ad'∧(L.foldl Hp.new hc).next=nx'∧reals r2 cs'=some us
 | [],nx,ad,k,hk=>⟨[],nx,ad,[],hk,rfl,fun rc hc us R0 R' C hn _ hu=>⟨rc,Ext.refl rc,C,hn,by rw[reals_nil] at hu ⊢; exact hu⟩⟩
 | c::cs,nx,ad,k,hk=>by
  rcases ife_ok (b:=flatA c) hk with ⟨hf,hk⟩|⟨hf,hk⟩
  ·obtain⟨cs',nx',ad',L,hk,e,hC⟩:=canL_ok (cs:=cs) hk
   refine⟨_,nx',ad',L,hk,e,fun rc hc us R0 R' C hn hl hu=>?_⟩
   obtain⟨u,t,hu1,hu2,rfl⟩:=reals_cons.1 hu
   obtain⟨r2,a1,a2,a3,a4⟩:=hC rc hc t R0 R' C hn hl hu2
   exact⟨r2,a1,a2,a3,reals_cons.2 ⟨u,t,flat_real c u hf hu1,a4,rfl⟩⟩
  ·split at hk
   ·rename_i j m z
    obtain⟨hj,hk⟩:=ask_ok hk
    have hj:=ble_le hj
    rcases ife_ok hk with ⟨_,hk⟩|⟨hm,hk⟩
    ·cases hk
    have hm:=memN_no (by simpa using hm)
    obtain⟨ty,op,ro,bs,hb,hk⟩:=cellsK_ok hk
    obtain⟨hfl,hk⟩:=ask_ok hk
    rw[natK_eq] at hk
    obtain⟨cs',nx',ad',L,hk,e,hC⟩:=canL_ok (cs:=cs) hk
    refine⟨_,nx',ad',_,hk,by rw[e,List.length_cons]; omega,fun rc hc us R0 R' C hn hl hu=>?_⟩
    obtain⟨u,t,hu1,hu2,rfl⟩:=reals_cons.1 hu
    obtain⟨p,hp,hq1,hq2,hq3,rfl⟩:=real_slx hu1
    obtain⟨cc,fz,us,g1,g2,g3,g4,g5,g6,g7⟩:=R'.at hp hb
    have hlim:hc.next < LIM:=by have:=hl 0 (by simp); omega
    have C1:=C.put R0 R' hj hb hp hm hlim (c:= .cells ty op ro bs) ⟨cc,fz,us,g1,g2,flats_real bs us hfl g3,g4,g5,g6,g7⟩
    obtain⟨r2,a1,a2,a3,a4⟩:=hC _ _ t R0 R' C1 (by show hc.next+1=nx.succ; rw[hn]) (fun i hi=>by have:=hl (i+1) (by simpa using hi); omega) hu2
    refine⟨r2,(upd_ext C.rel p).trans a1,a2,a3,reals_cons.2 ⟨_,t,?_,a4,rfl⟩⟩
    have e2:r2 nx=some p:=a1.v nx p (by rw[←hn]; exact upd_same _ _ _)
    simp only[real,e2,Option.bind_some]
    rw[if_pos ⟨hq1,hq2,hq3⟩]
   ·cases hk
theorem canT_ok{nx0:Nat}{v:AV}{k:AV→List Blk→Bool}(hk:canT base nx0 h v k=true): ∃v' L,k v' L=true∧
  ∀{S:Nat→Prop} {w0 wb:World} {fl:Nat} {r0 r':Ren} {h0:Hp} {w:World} {u:Value},Rel S w0 fl r0 h0 wb→h0.next=nx0→Rel (fun _=>False) wb base r' h w→(∀i,i < L.length→nx0+i < LIM)→real r' v=some u→
   ∃r2,Ext r0 r2∧Rel S w0 fl r2 (L.foldl Hp.new h0) w∧real r2 v'=some u:=by
 rcases ife_ok (b:=flatA v) hk with ⟨hf,hk⟩|⟨hf,hk⟩
 ·exact⟨v,[],hk,fun R0 _ R' _ hu=>⟨_,Ext.refl _,R0.same R'.kept,flat_real v _ hf hu⟩⟩
 ·split at hk
  ·rename_i i n z _
   obtain⟨hj,hk⟩:=ask_ok hk
   have hj:=ble_le hj
   obtain⟨ty,op,ro,cs,hb,hk⟩:=cellsK_ok hk
   obtain⟨cs',nx',ad',L,hk,e,hC⟩:=canL_ok hk
   refine⟨_,_,hk,fun {S w0 wb fl r0 r' h0 w u} R0 hn R' hl hu=>?_⟩
   obtain⟨p,hp,hq1,hq2,hq3,rfl⟩:=real_slx hu
   obtain⟨cc,fz,us,g1,g2,g3,g4,g5,g6,g7⟩:=R'.at hp hb
   have C0:CanS S w0 fl base i r0 r' h w r0 h0 [i]:=⟨R0.same R'.kept,fun _ q h=> .inl h,Ext.refl r0,List.mem_singleton.2 rfl,fun x hx=>by
    rw[List.mem_singleton.1 hx]; exact⟨hj,_,hb⟩⟩
   obtain⟨r2,a1,a2,a3,a4⟩:=hC r0 h0 us R0 R' C0 hn (fun i hi=>hl i (by rw[List.length_append]; omega)) g3
   have hlim:(L.foldl Hp.new h0).next < LIM:=by rw[a3,e]; exact hl L.length (by simp)
   have hx2:=upd_ext a2.rel p
   have hlen:cs'.length=cs.length:=by rw[←reals_len a4,←reals_len g3]
   have hm:S p.1∨w0.heap.size≤p.1:=by
    rcases R'.may i p hj hp with z|z
    ·exact z.elim
    ·exact .inr (Nat.le_trans R0.kept.size z)
   refine⟨_,a2.ext.trans hx2,?_,?_⟩
   ·rw[List.foldl_append]
    exact a2.rel.adopt hlim (a2.far R0 R' hj hb hp (.inl rfl)) hm ⟨cc,fz,us,g1,g2,reals_mono hx2 _ _ a4,by rw[hlen]; exact g4,by rw[hlen]; exact g5,by rw[hlen]; exact g6,g7⟩
   ·have e2:upd r2 (L.foldl Hp.new h0).next p nx'=some p:=by rw[←a3]; exact upd_same _ _ _
    simp only[real,e2,Option.bind_some]
    rw[if_pos ⟨hq1,hq2,hq3⟩]
  ·cases hk
noncomputable def canP(base nx0:Nat)(h:Hp)(v:AV)(k:AV→List Blk→Bool):Bool:=match v with
 | .tup [a,b]=>ask (flatA b) (canT base nx0 h a fun a L=>k (.tup [a,b]) L)
 | v=>canT base nx0 h v k
theorem canP_ok{nx0:Nat}{v:AV}{k:AV→List Blk→Bool}(hk:canP base nx0 h v k=true): ∃v' L,k v' L=true∧
  ∀{S:Nat→Prop} {w0 wb:World} {fl:Nat} {r0 r':Ren} {h0:Hp} {w:World} {u:Value},Rel S w0 fl r0 h0 wb→h0.next=nx0→Rel (fun _=>False) wb base r' h w→(∀i,i < L.length→nx0+i < LIM)→real r' v=some u→
   ∃r2,Ext r0 r2∧Rel S w0 fl r2 (L.foldl Hp.new h0) w∧real r2 v'=some u:=by
 unfold canP at hk
 split at hk
 ·rename_i a b
  obtain⟨hf,hk⟩:=ask_ok hk
  obtain⟨v',L,hk,hC⟩:=canT_ok hk
  refine⟨_,L,hk,fun {S w0 wb fl r0 r' h0 w u} R0 hn R' hl hu=>?_⟩
  simp only[real,Option.map_eq_some_iff] at hu
  obtain⟨us,hu,rfl⟩:=hu
  obtain⟨x,t,hx1,ht,rfl⟩:=reals_cons.1 hu
  obtain⟨y,hy,rfl⟩:=reals1 ht
  obtain⟨r2,a1,a2,a3⟩:=hC R0 hn R' hl hx1
  refine⟨r2,a1,a2,?_⟩
  simp only[real]
  rw[reals_cons.2 ⟨x,[y],a3,reals_cons.2 ⟨y,[],flat_real b y hf hy,reals_nil,rfl⟩,rfl⟩]
  rfl
 ·exact canT_ok hk
end
section
variable {P : Program}
noncomputable def pureD(P:Program)(m:Nat)(wcC wc:Nat→WcF)(dr:Nat→Nat→CallF→DrawF)(callF:Nat→CallF)(f:FuncId):Prim:=fun _ vs h kr _=>Hp.rec (motive:=fun _=>Bool) (fun nx t=>
 bodyW 1 P nx m (wcC nx) (dr nx) (callF nx) f vs ⟨nx,t⟩ fun v1 h1=>canP nx nx h1 v1 fun v2 L=>ask (bodyW 0 P nx m (wc nx) (dr nx) (callF nx) f vs ⟨nx,t⟩ fun v h'=>canP nx nx h' v fun v3 L3=>ask (avEq v3 v2) (blksEq L3 L)) (newsK L ⟨nx,t⟩ fun g=>kr v2 g)) h
theorem pureD_ok{m:Nat}{wcC wc:Nat→WcF}{dr:Nat→Nat→CallF→DrawF}{callF:Nat→CallF}{G:Array Oper→Prop}(hc : ∀fl,CallOk P fl (callF fl))(hwcC : ∀fl,WcEx (wcC fl))(hwc : ∀fl,WcOk P fl (wc fl))(hdr : ∀fl n call,CallOk P fl call→DrawOk P fl n G (dr fl n call))(hG:AllRegs P G)(fl:Nat)(f:FuncId):Pr1 P fl f (pureD P m wcC wc dr callF f):=by
 intro call _ g vs h kr kp hk
 rcases ife_ok hk with ⟨hb,hk2⟩|⟨_,hk2⟩
 ·obtain rfl:=Nat.eq_of_beq_eq_true hb
  cases h with
  | mk nx t=>
   obtain⟨v1,h1,hk3⟩:=bodyW_ex (hc nx) (hwcC nx) (fun n call h=>(DrawWk.of (hdr nx n call h)).ex) (hG _) (show bodyW 1 P nx m (wcC nx) (dr nx) (callF nx) _ vs ⟨nx,t⟩ _=true from hk2)
   obtain⟨v2,L,hk3,_⟩:=canP_ok hk3
   obtain⟨hW,hk3⟩:=ask_ok hk3
   obtain⟨hkr,hl⟩:=newsK_ok hk3
   refine .inl ⟨v2,_,hkr,fun S w0 r w xs hR hxs=>(bodyW_ok (hc nx) (hwc nx) (fun n call h=> .of (hdr nx n call h)) (hG _) hW _ _ r w xs hR.floor hxs).mono ?_⟩
   rintro e w' ⟨v,h',r',x,hv,rfl,hx,hR',hxv⟩
   obtain⟨v3,L3,hv,hC⟩:=canP_ok hv
   obtain⟨q1,q2⟩:=ask_ok hv
   obtain rfl:=avEq_ok _ _ q1
   obtain rfl:=blksEq_ok q2
   obtain⟨r2,a1,a2,a3⟩:=hC hR rfl hR' hl hxv
   exact⟨r2,x,rfl,a1,a2,a3⟩
 ·cases hk2
end
end Go.Proofs.YtbhbdeelpopgoaaGreatDoor.E

namespace Go.Proofs.YtbhbdeelpopgoaaGreatDoor.H
open Go.RowKit
section
variable {M : Option (Option Nat)} {P : Program} {ops : Array Oper} {Q : Post} {rest : List Oper} {f : Fr} {w : World} {d : Nat} {ty : TypeId} {pos : String} {af : Array Edge}
end
end Go.Proofs.YtbhbdeelpopgoaaGreatDoor.H

namespace Go.Proofs.YtbhbdeelpopgoaaGreatDoor.H
open Go.RowKit
section
variable {M : Option (Option Nat)} {P : Program} {ops : Array Oper} {Q : Post} {rest : List Oper} {f : Fr} {w : World} {d : Nat} {ty : TypeId} {pos : String} {af : Array Edge}
end
end Go.Proofs.YtbhbdeelpopgoaaGreatDoor.H

namespace Go.Proofs.YtbhbdeelpopgoaaGreatDoor.H
open Go.RowKit
structure Dp (α:Type) where
 sz:Nat
 enc:α→List Value
 D:World→α→Prop
 R:α→Nat→Prop
 len : ∀x,(enc x).length=sz
 ones : ∀w x,D w x→∀z∈enc x,z.oneCell'=true
 keep : ∀(S:Nat→Prop) w w' x,D w x→Kept S w w'→(∀g,g < w.heap.size→R x g→¬S g)→D w' x
 lt : ∀w x g,D w x→R x g→g < w.heap.size
section
variable {M : Option (Option Nat)} {P : Program} {ops : Array Oper} {Q : Post} {rest : List Oper} {f : Fr} {w : World} {d : Nat} {ty : TypeId} {pos : String} {af : Array Edge}
end
end Go.Proofs.YtbhbdeelpopgoaaGreatDoor.H

namespace Go.Proofs.YtbhbdeelpopgoaaGreatDoor.H
open Go.RowKit
section
variable {M : Option (Option Nat)} {P : Program} {ops : Array Oper} {Q : Post} {rest : List Oper} {f : Fr} {w : World} {d : Nat} {ty : TypeId} {pos : String} {af : Array Edge}
end
end Go.Proofs.YtbhbdeelpopgoaaGreatDoor.H

namespace Go.Proofs.YtbhbdeelpopgoaaGreatDoor.H
open Go.RowKit
section
variable {M : Option (Option Nat)} {P : Program} {ops : Array Oper} {Q : Post} {rest : List Oper} {f : Fr} {w : World} {d : Nat} {ty : TypeId} {pos : String} {af : Array Edge}
theorem Y.gtrT{t yt:TypeId}{x y:Operand}{k:IntKind}{a b:Int}(hx:f.ev x=some (.int k a))(hy:f.ev y=some (.int k b))(h:b < a):Yd P f (op1 d (.binOp .gtr t x y yt) ty pos af) (.bool true) w:=by
 have:=Y.gtr (P:=P) (w:=w) (d:=d) (ty:=ty) (pos:=pos) (af:=af) (t:=t) (yt:=yt) hx hy
 rwa [decide_eq_true h] at this
theorem Y.gtrF{t yt:TypeId}{x y:Operand}{k:IntKind}{a b:Int}(hx:f.ev x=some (.int k a))(hy:f.ev y=some (.int k b))(h:a≤b):Yd P f (op1 d (.binOp .gtr t x y yt) ty pos af) (.bool false) w:=by
 have:=Y.gtr (P:=P) (w:=w) (d:=d) (ty:=ty) (pos:=pos) (af:=af) (t:=t) (yt:=yt) hx hy
 rwa [decide_eq_false (by omega)] at this
end
end Go.Proofs.YtbhbdeelpopgoaaGreatDoor.H

namespace Go.Proofs.YtbhbdeelpopgoaaGreatDoor.H
open Go.RowKit
section
variable {M : Option (Option Nat)} {P : Program} {ops : Array Oper} {Q : Post} {rest : List Oper} {f : Fr} {w : World} {d : Nat} {ty : TypeId} {pos : String} {af : Array Edge} {t yt : TypeId} {x y : Operand}
theorem Y.lssE{k:IntKind}{a b:Int}{c:Bool}(hx:f.ev x=some (.int k a))(hy:f.ev y=some (.int k b))(h:decide (a < b)=c):Yd P f (op1 d (.binOp .lss t x y yt) ty pos af) (.bool c) w:=by
 have:=Y.lss (P:=P) (w:=w) (d:=d) (ty:=ty) (pos:=pos) (af:=af) (t:=t) (yt:=yt) hx hy
 rwa [h] at this
end
end Go.Proofs.YtbhbdeelpopgoaaGreatDoor.H

namespace Go.Proofs.YtbhbdeelpopgoaaGreatDoor.H
open Go.RowKit
section
variable {P : Program} {ops : Array Oper} {Q : Post} {f : Fr} {w : World} {S : World → Prop}
theorem AW.three(i j k:Nat){oi oj ok:Oper}{n:Nat}{l:Array Bool}(hr:Region.ready .any ops l=[i,j,k])(hi:ops[i]?=some oi)(hj:ops[j]?=some oj)(hk:ops[k]?=some ok)(ki:RW none P ops (thenK (fun f w=>S w∧AW P ops Q S n (l.setIfInBounds i true) f w) Q) [oi] f w)(kj:RW none P ops (thenK (fun f w=>S w∧AW P ops Q S n (l.setIfInBounds j true) f w) Q) [oj] f w)(kk:RW none P ops (thenK (fun f w=>S w∧AW P ops Q S n (l.setIfInBounds k true) f w) Q) [ok] f w):AW P ops Q S (n+1) l f w:=by
 intro a ha
 refine wpAnyH_all hr (by simp) fun m hm=>?_
 simp only[List.mem_cons,List.not_mem_nil,or_false] at hm
 rcases hm with rfl|rfl|rfl
 ·exact AW.one _ hi ki ha
 ·exact AW.one _ hj kj ha
 ·exact AW.one _ hk kk ha
end
end Go.Proofs.YtbhbdeelpopgoaaGreatDoor.H

namespace Go.Proofs.YtbhbdeelpopgoaaGreatDoor.H
open Go.RowKit
section
variable {P : Program} {ops : Array Oper} {Q : Exit → Act → World → Prop} {md : Region.Mode} {S : World → Prop} {Z : Nat → Bool}
def wpAnyL(P:Program)(md:Region.Mode)(ops:Array Oper)(Q:Exit→Act→World→Prop)(S:World→Prop)(Z:Nat→Bool):Nat→Array Bool→Act→World→Prop
 | 0,listed,a,w=>Region.ready md ops listed=[]∧Q .normal a w
 | fuel+1,listed,a,w=>
  (Region.ready md ops listed=[]→Q .normal a w)∧
  ∀i∈Region.ready md ops listed,wpOp P ops Q i (fun a' w'=>(Z i=false→S w')∧wpAnyL P md ops Q S Z fuel (listed.setIfInBounds i true) a' w') a w
theorem wpAny_of_L: ∀(fuel:Nat) (listed:Array Bool) (a:Act) (w:World),wpAnyL P md ops Q S Z fuel listed a w→wpAny P md ops Q fuel listed a w
 | 0,_,_,_,h=>h
 | fuel+1,_,_,_,h=>⟨h.1,fun i hi=>wpOp_mono (fun a' w' h'=>wpAny_of_L fuel _ a' w' h'.2) (h.2 i hi)⟩
theorem wpAnyL_first{C:Nat→Prop}{i:Nat}{oi:Oper}{v:Value}(hi:ops[i]?=some oi)(hsel : ∀(j:Nat) (o:Oper) cs b,ops[j]?=some o→o.op≠.select cs b)
  (hQ : ∀c a w,Q (.panic c) (a.put oi.dst v) w→Q (.panic c) a w) :
  ∀(fuel:Nat) (listed:Array Bool) (a:Act) (w:World),
   (∀j oj,ops[j]?=some oj→j≠i→listed.getD j true=false→(∀e∈oj.after,Region.binds md e=true→e.on≠i)→oi.apart ops oj=true)→
   (∀j,C j→j≠i∧listed.getD j true=false∧∃oj,ops[j]?=some oj∧∃e∈oj.after,Region.binds md e=true∧(e.on=i∨C e.on))→
   (∀j oj,ops[j]?=some oj→Z j=true→j≠i→C j)→
   i∈Region.ready md ops listed→YieldsIf P ops S oi v a→S w→
   wpAnyL P md ops Q S Z fuel (listed.setIfInBounds i true) (a.put oi.dst v) w→wpAnyL P md ops Q S Z (fuel+1) listed a w:=by
 intro fuel
 induction fuel with
 | zero=>
  intro listed a w _ _ _ hr hy hS H
  refine⟨fun h=>(by rw[h] at hr; cases hr),fun j hj=>?_⟩
  by_cases hji:j=i
  ·subst hji; exact hy.wpOp hi hS ⟨fun _=>hS,H⟩
  ·have:=ready_mono hj hji
   rw[H.1] at this
   cases this
 | succ fuel ih=>
  intro listed a w hfree hwait hzc hr hy hS H
  refine⟨fun h=>(by rw[h] at hr; cases hr),fun j hj=>?_⟩
  by_cases hji:j=i
  ·subst hji; exact hy.wpOp hi hS ⟨fun _=>hS,H⟩
  ·have h1:=H.2 j (ready_mono hj hji)
   obtain⟨hjun,oj,hoj,hall⟩:=mem_ready.1 hj
   have hnot : ∀e∈oj.after,Region.binds md e=true→e.on≠i:=fun e he hb heq=>by
    have h1:=hall e he hb
    have h0:=(mem_ready.1 hr).1
    rw[heq] at h1
    rcases Nat.lt_or_ge i listed.size with h'|h'
    ·simp[h'] at h0 h1; rw[h0] at h1; cases h1
    ·simp[Array.getElem?_eq_none h'] at h1
   have hlisted : ∀e∈oj.after,Region.binds md e=true→listed.getD e.on true=true:=fun e he hb=>by
    have h1:=hall e he hb
    rcases Nat.lt_or_ge e.on listed.size with h'|h'
    ·simp[h'] at h1 ⊢; exact h1
    ·simp[Array.getD,Nat.not_lt.2 h']
   have hcj : ¬C j:=fun hc=>by
    obtain⟨_,_,oj',hoj',e,he,hb,ho⟩:=hwait j hc
    rw[hoj] at hoj'
    cases hoj'
    rcases ho with ho|ho
    ·exact hnot e he hb ho
    ·have:=(hwait e.on ho).2.1
     rw[hlisted e he hb] at this
     cases this
   have hz:Z j=false:=by
    cases hzj:Z j with
    | false=>rfl
    | true=>exact absurd (hzc j oj hoj hzj hji) hcj
   have h2:=wpOp_putIf hoj (hfree j oj hoj hji hjun hnot) (fun cs b=>hsel i oi cs b hi) (fun cs b=>hsel j oj cs b hoj) hQ hy h1
   have hun' : ∀k,(listed.setIfInBounds j true).getD k true=false→listed.getD k true=false:=fun k hun=>by
    by_cases hjk:j=k
    ·subst hjk; exact hjun
    ·rw[getD_set_ne true hjk] at hun; exact hun
   refine wpOp_mono (fun a' w' h3=>⟨h3.2.1,ih (listed.setIfInBounds j true) a' w' (fun k ok hk hki hun=>hfree k ok hk hki (hun' k hun)) (fun k hk=>⟨(hwait k hk).1,by rw[getD_set_ne true (fun(h:j=k)=>hcj (by rw[h]; exact hk))]; exact(hwait k hk).2.1,(hwait k hk).2.2⟩) hzc (ready_mono hr (Ne.symm hji)) h3.1 (h3.2.1 hz) ?_⟩) h2
   rw[Array.setIfInBounds_comm _ _ hji]
   exact h3.2.2
theorem wpAnyL_all{rs:List Nat}{fuel:Nat}{listed:Array Bool}{a:Act}{w:World}(hr:Region.ready md ops listed=rs)(hne:rs≠[])
  (h : ∀i∈rs,wpOp P ops Q i (fun a' w'=>(Z i=false→S w')∧wpAnyL P md ops Q S Z fuel (listed.setIfInBounds i true) a' w') a w):wpAnyL P md ops Q S Z (fuel+1) listed a w:=
 ⟨fun h0=>absurd (hr▸h0) hne,hr▸h⟩
theorem wpAnyL_done{listed:Array Bool}{a:Act}{w:World}(hr:Region.ready md ops listed=[])(h:Q .normal a w):
  ∀fuel,wpAnyL P md ops Q S Z fuel listed a w
 | 0=>⟨hr,h⟩
 | _+1=>⟨fun _=>h,by rw[hr]; simp⟩
def waits(ops:Array Oper)(Z:Nat→Bool)(l:Array Bool)(C:List Nat)(i:Nat):Bool:=
 C.all (fun j=>!(Nat.beq j i) && !(l.getD j true) && (match ops[j]? with|some o=>o.after.any (fun e=>Region.binds .any e && (Nat.beq e.on i || C.any (Nat.beq e.on)))|none=>false)) && (List.range ops.size).all (fun j=>!Z j || Nat.beq j i || C.any (Nat.beq j))
theorem any_beq{C:List Nat}{j:Nat}(h:C.any (Nat.beq j)=true):j∈C:=by
 obtain⟨k,hk,e⟩:=List.any_eq_true.1 h
 rw[Nat.eq_of_beq_eq_true e]; exact hk
theorem waits_spec{l:Array Bool}{C:List Nat}{i:Nat}(h:waits ops Z l C i=true):(∀j,j∈C→j≠i∧l.getD j true=false∧∃oj,ops[j]?=some oj∧∃e∈oj.after,Region.binds .any e=true∧(e.on=i∨e.on∈C))∧(∀j oj,ops[j]?=some oj→Z j=true→j≠i→j∈C):=by
 rw[waits,Bool.and_eq_true] at h
 obtain⟨h1,h2⟩:=h
 refine⟨fun j hj=>?_,fun j oj ho hz hne=>?_⟩
 ·have h3:=List.all_eq_true.1 h1 j hj
  rw[Bool.and_eq_true,Bool.and_eq_true] at h3
  obtain⟨⟨h3,h4⟩,h5⟩:=h3
  refine⟨(fun c=>by subst c; rw[beq_self] at h3; cases h3),by simpa using h4,?_⟩
  cases ho:ops[j]? with
  | none=>rw[ho] at h5; cases h5
  | some oj=>
   rw[ho] at h5
   simp only[Array.any_eq_true'] at h5
   obtain⟨e,he,h6⟩:=h5
   rw[Bool.and_eq_true,Bool.or_eq_true] at h6
   exact⟨oj,rfl,e,he,h6.1,h6.2.imp Nat.eq_of_beq_eq_true any_beq⟩
 ·have h3:=List.all_eq_true.1 h2 j (List.mem_range.2 (Array.getElem?_eq_some_iff.1 ho).1)
  rw[Bool.or_eq_true,Bool.or_eq_true] at h3
  rcases h3 with (h3|h3)|h3
  ·rw[hz] at h3; cases h3
  ·exact absurd (Nat.eq_of_beq_eq_true h3) hne
  ·exact any_beq h3
end
section
variable {P : Program} {ops : Array Oper} {Q : Post} {f : Fr} {w : World} {S : World → Prop} {Z : Nat → Bool}
def AL(P:Program)(ops:Array Oper)(Q:Post)(S:World→Prop)(Z:Nat→Bool)(n:Nat)(l:Array Bool)(f:Fr)(w:World):Prop:=∀a,Ag f a→wpAnyL P .any ops (lift Q) S Z n l a w
theorem CL.drawz{cs:List Code}{id:Nat}(S:World→Prop)(Z:Nat→Bool)(hm:P.follows .mixedOrders=true)(h : ∀w',w'.heap=w.heap→K0 w w'→AL P ops (thenK (CL none P Q cs) Q) S Z ops.size (Array.replicate ops.size false) f w'):CL none P Q (.region id ops true::cs) f w:=
 fun a ha=>wp_region_any hm (wpAny_of_L _ _ _ _ (h {w with drawn:=w.drawn+1} rfl (Kept.drew w) a ha))
theorem AL.takeY(i:Nat)(C:List Nat){o:Oper}{d:Option Nat}{v:Value}{n:Nat}{l:Array Bool}(hi:ops[i]?=some o)(hz:waits ops Z l C i=true)(hs:Region.noSelect ops=true)(hf:Region.free .any ops l i=true)(hr:(Region.ready .any ops l).contains i=true)
  [PI Q] (hS:S w) {a:Act} (hy:YieldsIf P ops S o v a) (k:wpAnyL P .any ops (lift Q) S Z n (l.setIfInBounds i true) (a.put o.dst v) w):wpAnyL P .any ops (lift Q) S Z (n+1) l a w:=
 wpAnyL_first (C:=(·∈C)) hi (Region.noSelect_spec hs) (PI.lift _ _) n l a w (Region.free_spec hi hf) (waits_spec hz).1 (waits_spec hz).2 (by simpa using hr) hy hS k
theorem AL.take(i:Nat)(C:List Nat){op:Op}{ty:TypeId}{pos:String}{af:Array Edge}{d:Nat}{v:Value}{n:Nat}{l:Array Bool}(hi:ops[i]?=some {dst:=some d,op:=op,type:=ty,pos:=pos,after:=af,guard:=none})(hs:Region.noSelect ops=true)(hf:Region.free .any ops l i=true)(hr:(Region.ready .any ops l).contains i=true)(hz:waits ops Z l C i=true)
  [PI Q] (hd:Nat.blt d f.n=true) (hS:S w) (hy : ∀w,S w→Yd P f {dst:=some d,op:=op,type:=ty,pos:=pos,after:=af,guard:=none} v w) (k:AL P ops Q S Z n (l.setIfInBounds i true) (f.put d v) w):AL P ops Q S Z (n+1) l f w:=by
 intro a ha
 exact AL.takeY (d:=some d) i C hi hz hs hf hr hS (.inl ⟨by simp[Region.wanted],fun w' hw'=>hy w' hw' a ha⟩) (k _ (ha.put v hd))
theorem AL.donew{cs:List Code}{n:Nat}{l:Array Bool}(g:List Nat)(hr:Region.ready .any ops l=[])(h:CL none P Q cs ⟨f.n,f.ds,keep g f.e⟩ w):AL P ops (thenK (CL none P Q cs) Q) S Z n l f w:=by
 intro a ha
 have hc:=RW.nilw (ops:=ops) (M:=none) g h a ha
 exact wpAnyL_done hr hc n
theorem AL.one(C:World→Prop)(i:Nat){o:Oper}{n:Nat}{l:Array Bool}(hC : ∀w,C w→Z i=false→S w)(hi:ops[i]?=some o)(k:RW none P ops (thenK (fun f w=>C w∧AL P ops Q S Z n (l.setIfInBounds i true) f w) Q) [o] f w){a:Act}(ha:Ag f a):wpOp P ops (lift Q) i (fun a' w'=>(Z i=false→S w')∧wpAnyL P .any ops (lift Q) S Z n (l.setIfInBounds i true) a' w') a w:=by
 have h:wpList P ops _ [o] a w:=k a ha
 unfold wpList at h
 unfold wpOp
 simp only[hi]
 have hq : ∀x a w,lift (thenK (fun f w=>C w∧AL P ops Q S Z n (l.setIfInBounds i true) f w) Q) x a w→match x with
   | .normal=>(Z i=false→S w)∧wpAnyL P .any ops (lift Q) S Z n (l.setIfInBounds i true) a w
   | x=>lift Q x a w:=by
  intro x a w ⟨g,hg,q⟩
  cases x with
  | normal=>exact⟨hC w q.1,q.2 a hg⟩
  | _=>exact⟨g,hg,q⟩
 by_cases hw:Region.wanted o (yielded ops a.tmps)=true
 ·rw[if_pos hw] at h
  simp only[hw,if_true]
  rcases h with h|⟨h1,a0,w0,h2⟩
  ·left
   exact oper_mono (fun a w hk=>hq .normal a w hk) (fun c a w hk=>hq (.panic c) a w hk) (fun a w hk=>hq .outgrown a w hk) h
  ·exact .inr ⟨h1,a0,w0,hq .outgrown a0 w0 h2⟩
 ·rw[if_neg hw] at h
  simp only[hw,if_false,Bool.false_eq_true]
  exact hq .normal _ _ h
theorem AL.next(i:Nat){o:Oper}{n:Nat}{l:Array Bool}(hi:ops[i]?=some o)(hr:Region.ready .any ops l=[i])(k:RW none P ops (thenK (fun f w=>S w∧AL P ops Q S Z n (l.setIfInBounds i true) f w) Q) [o] f w):AL P ops Q S Z (n+1) l f w:=by
 intro a ha
 refine wpAnyL_all hr (by simp) fun j hj=>?_
 rw[List.mem_singleton.1 hj]
 exact AL.one S i (fun _ h _=>h) hi k ha
theorem AL.last(i:Nat){o:Oper}{n:Nat}{l:Array Bool}(hi:ops[i]?=some o)(hr:Region.ready .any ops l=[i])(hz:Z i=true)(k:RW none P ops (thenK (fun f w=>True∧AL P ops Q S Z n (l.setIfInBounds i true) f w) Q) [o] f w):AL P ops Q S Z (n+1) l f w:=by
 intro a ha
 refine wpAnyL_all hr (by simp) fun j hj=>?_
 rw[List.mem_singleton.1 hj]
 exact AL.one (fun _=>True) i (fun _ _ h=>by rw[hz] at h; cases h) hi k ha
end
end Go.Proofs.YtbhbdeelpopgoaaGreatDoor.H

namespace Go.Proofs.YtbhbdeelpopgoaaGreatDoor.H
open Go.RowKit
section
variable {M : Option (Option Nat)} {P : Program} {ops : Array Oper} {Q : Post} {rest : List Oper} {f : Fr} {w : World} {d : Nat} {ty : TypeId} {pos : String} {af : Array Edge}
end
end Go.Proofs.YtbhbdeelpopgoaaGreatDoor.H

set_option linter.constructorNameAsVariable false
set_option linter.unusedVariables false
namespace Go.Proofs.YtbhbdeelpopgoaaGreatDoor.E
open Go Go.RowKit H
section
variable {M : Option (Option Nat)} {P : Program} {ops : Array Oper} {Q : Post} {rest : List Oper} {f : Fr} {w : World} {d ty : Nat} {pos : String} {af : Array Edge}
theorem RW.mkmap{t:TypeId}(hd:Nat.blt d f.n=true)(k : ∀w',w'.heap[w.heap.size]?=some (.map #[] 0)→K0 w w'→w.heap.size < w'.heap.size→RW M P ops Q rest (f.put d (.map (some w.heap.size))) w'):RW M P ops Q (op1 d (.makeMap t none) ty pos af::rest) f w:=
 RW.val rfl rfl hd (fun a ha=>by simp[execOp,Instr.makeMap,newObj,Sem.run]) (k (w.alloc (.map #[] 0)) (heap_alloc_new w _) (Kept.alloc w _) (lt_of_at (heap_alloc_new w (.map #[] 0))))
theorem RW.makeE{t e:TypeId}{z:Value}{b:Nat}[ht:Und P t (.slice e)][hi:Inf P e z 1 b]{x y:Operand}{k k2:IntKind}{n:Nat}(hx:f.ev x=some (.int k (n:Int)))(hy:f.ev y=some (.int k2 (n:Int)))(hd:Nat.blt d f.n=true)(hz:z.cells=#[z])(hn:n≤16777216)(hb:b * n≤281474976710656)
  (kk : ∀w',w'.heap[w.heap.size]?=some (.cells (List.replicate n z).toArray e (0,0))→K0 w w'→RW M P ops Q rest (f.put d (.slice (some ⟨w.heap.size,0,none⟩) n n)) w'):RW M P ops Q (op1 d (.makeSlice t x y) ty pos af::rest) f w:=by
 have hi':=hi.out
 cases hinf:P.info? e with
 | none=>simp[hinf] at hi'
 | some i=>
  simp only[hinf,Option.map_some,Option.some.injEq,Prod.mk.injEq] at hi'
  obtain⟨hz',hs',hb'⟩:=hi'
  obtain⟨w',hr,ho,hg⟩:=run_makeSlice_full (P:=P) w w.heap.size t e i z 1 ht.out hinf hz' hs' k k2 n (by omega) (by rw[hb']; exact hb) (by simp only[maxLen]; omega) (Nat.le_refl _)
  rw[hz,Nat.mul_one,madeCells_one] at ho
  have hK:=(Kept.of_grown hg).mono (T:=fun _=>False) fun k hk=>by cases hk
  refine RW.val rfl rfl hd (fun a ha=>?_) (kk w' ?_ hK)
  ·simp[execOp,ha.eval hx,ha.eval hy,hr]
  ·rcases ho.2 with ⟨q,_⟩|⟨g,cap,cur,q,_,hgb,_,_,hs,hcur⟩
   ·cases q
   ·injection q with q1 q2 q3
    injection q1 with q1
    injection q1 with q1
    subst q1; subst q3
    rw[hgb]
    rw[Nat.mul_one] at hcur hs
    rw[List.take_of_length_le (by simp[hs])] at hcur
    rw[←hcur]
end
attribute [local irreducible] H.CL H.RW H.CW H.Yd H.thenK H.blockQ Go.Calls
def secB:Obj:= .cells (List.replicate 1024 (Value.int .u8 0)).toArray 5 (0,0)
def secV(s:Nat):Value:= .slice (some ⟨s,0,none⟩) 1024 1024
def Secs(b:Nat)(w:World)(v:Value)(ss:List Nat):Prop:=ss.Nodup∧∀s∈ss,b≤s∧w.heap[s]?=some secB∧v.ownBlock≠some s
theorem within_ok(n:Nat)(lo hi:Int)(h1:lo≤n)(h2:(n:Int)≤hi)(w:World):Calls Tryz.prog 66 #[.int .i64 n,.int .i64 lo,.int .i64 hi] w fun e w'=>e = .returned (.int .i64 n)∧w'=w:=by
 refine H.enter Tryz.func66 Tryz.ntmps66 rfl rfl ?_; dsimp only[H.args]
 repeat' (first|(refine CL.seq ?_)|(refine CL.region ?_)|(refine CL.ret ?_)|(refine Gt.nil ?_; refine RW.nilw [0,1,2,6] ?_; dsimp only[H.keep,H.look,H.Fr.put,Nat.beq])|(refine Gt.move ?_; refine RW.y (Y.move rfl) rfl ?_)|(refine Gt.assign ?_; refine RW.y (Y.assign rfl) rfl ?_)|(refine Gt.call ?_; first|(refine RW.y (Y.max2 rfl rfl) rfl ?_)|(refine RW.y (Y.min2 rfl rfl) rfl ?_)))
 have e1:max (n:Int) lo=n:=by omega
 have e2:min (n:Int) hi=n:=by omega
 exact FQ.one rfl rfl rfl ⟨by simp[e1,e2],rfl⟩
set_option maxHeartbeats 1000000 in
theorem newDisk(n:Nat)(h1:1≤n)(h2:n≤4096)(w:World):Calls Tryz.prog 50 #[.int .i64 n,.int .i64 1024] w fun e w'=>K0 w w'∧∃ss v bm bd,e = .returned (.pointer (some ⟨bd,0,none⟩))∧ss.length=n∧w.heap.size≤bm∧w.heap.size≤bd∧bm≠bd∧v.ownBlock≠some bm∧v.ownBlock≠some bd∧bm∉ss∧bd∉ss∧
  w'.heap[bd]?=some (.cells #[v,.map (some bm),.int .i64 (-1),.bool false] 152 (0,0))∧w'.heap[bm]?=some (.map #[] 0)∧w'.ownsRow w.heap.size 22 1 v n (ss.map secV)∧Secs w.heap.size w' v ss:=by
 refine H.enter Tryz.func50 Tryz.ntmps50 rfl rfl ?_; dsimp only[H.args]
 repeat' (first|(refine CL.seq ?_)|(refine CL.region ?_)|(refine Gt.nil ?_; refine RW.nilw [0,1,4,5,11,12,13] ?_; dsimp only[H.keep,H.look,H.Fr.put,Nat.beq])|(refine Gt.assign ?_; refine RW.y (Y.assign rfl) rfl ?_))
 refine RW.mkmap rfl fun w1 hm1 hk1 hl1=>?_
 repeat' ((refine RW.y (Y.build (ps:=[(1,_)]) (l:=[_]) (c:=#[.slice none 0 0,.map (some w.heap.size)]) rfl rfl) rfl ?_))
 repeat' ((refine RW.y (Y.build (ps:=[(0,_),(1,_)]) (l:=[_,_]) (c:=#[.slice none 0 0,.map (some w.heap.size),.int .i64 (-1),.bool false]) rfl rfl) rfl ?_))
 refine RW.box rfl rfl (fun w2 hb2 hk2 hl2=>?_)
 repeat' (first|(refine CL.seq ?_)|(refine CL.region ?_)|(refine Gt.nil ?_; refine RW.nilw [0,1,4,5,11,12,13] ?_; dsimp only[H.keep,H.look,H.Fr.put,Nat.beq])|(refine Gt.move ?_; refine RW.y (Y.move rfl) rfl ?_)|(refine Gt.assign ?_; refine RW.y (Y.assign rfl) rfl ?_))
 refine RW.fn rfl rfl ((within_ok n 1 4096 (by omega) (by omega) _).mono ?_)
 rintro e w3 ⟨rfl,rfl⟩
 have hz1:=hk1.size
 repeat' (first|(refine CL.block ?_)|(refine Gt.nil ?_; refine RW.nilw [0,1,4,5,11,12,13] ?_; dsimp only[H.keep,H.look,H.Fr.put,Nat.beq])|(refine Gt.move ?_; refine RW.y (Y.move rfl) rfl ?_))
 refine CL.loopS [1,5,11,12] (fun m vals wr=>∃(i:Nat) (ss:List Nat) (v:Value),vals=[.int .i64 1024,.pointer (some ⟨w1.heap.size,0,none⟩),.int .i64 n,.int .i64 i]∧m=n - i∧i≤n∧ss.length=i∧K0 w wr∧w1.heap.size < wr.heap.size∧v.ownBlock≠some w.heap.size∧v.ownBlock≠some w1.heap.size∧w.heap.size∉ss∧w1.heap.size∉ss∧
  wr.heap[w1.heap.size]?=some (.cells #[v,.map (some w.heap.size),.int .i64 (-1),.bool false] 152 (0,0))∧wr.heap[w.heap.size]?=some (.map #[] 0)∧wr.ownsRow w.heap.size 22 1 v i (ss.map secV)∧Secs w.heap.size wr v ss) n
  ⟨_,rfl,0,[],.slice none 0 0,rfl,rfl,Nat.zero_le _,rfl,hk1.trans0 hk2,hl2,by simp[Value.ownBlock],by simp[Value.ownBlock],by simp,by simp,hb2,hk2.at0 hm1,World.ownsRow_nil _ _ _ _,List.nodup_nil,fun s hs=>by cases hs⟩ ?_
 rintro m vals wr ⟨i,ss,v,rfl,rfl,hi,hss,hkr,hlr,hv1,hv2,hs1,hs2,hbdr,hbmr,hown,hN,hS0⟩
 dsimp only[List.zip,List.zipWith]
 rcases Nat.lt_or_ge i n with hlt|hge
 ·repeat' (first|(refine CL.seq ?_)|(refine CL.region ?_)|(refine CL.skip ?_)|(refine CL.condP rfl (fun _=>?_) (fun _=>?_) <;> try (exfalso; omega))|(refine CL.block ?_)|(refine Gt.nil ?_; refine RW.nilw [0,1,4,5,11,12,13] ?_; dsimp only[H.keep,H.look,H.Fr.put,Nat.beq])|(refine Gt.lss ?_; refine RW.y (Y.lss rfl rfl) rfl ?_))
  refine CL.drawz (fun w'=>Kept (fun k=>v.ownBlock=some k) wr w') (fun j=>Nat.beq j 14) (by kernel_rfl) (fun w4 hheap hk4=>?_)
  have hS:Kept (fun k=>v.ownBlock=some k) wr w4:=hk4.mono fun k c=>c.elim
  skip
  refine AL.take 0 [11,12,13,14] rfl (by kernel_rfl) (by kernel_rfl) (by kernel_rfl) (by kernel_rfl) rfl (by assumption) (fun w hS=>Y.move rfl) ?_
  refine AL.take 1 [2,3,4,5,10,11,12,13,14] rfl (by kernel_rfl) (by kernel_rfl) (by kernel_rfl) (by kernel_rfl) rfl (by assumption) (fun w hS=>Y.move rfl) ?_
  refine AL.take 2 [3,4,5,10,11,12,13,14] rfl (by kernel_rfl) (by kernel_rfl) (by kernel_rfl) (by kernel_rfl) rfl (by assumption) (fun w hS=>Y.nilck rfl) ?_
  refine AL.take 3 [4,5,10,11,12,13,14] rfl (by kernel_rfl) (by kernel_rfl) (by kernel_rfl) (by kernel_rfl) rfl (by assumption) (fun w hS=>Y.fieldAddr rfl (by rfl)) ?_
  refine AL.take 4 [5,10,11,12,13,14] rfl (by kernel_rfl) (by kernel_rfl) (by kernel_rfl) (by kernel_rfl) rfl (by assumption) (fun w hS=>Y.fieldAddr rfl (by rfl)) ?_
  refine AL.take 5 [10,11,12,13,14] rfl (by kernel_rfl) (by kernel_rfl) (by kernel_rfl) (by kernel_rfl) rfl (by assumption) (fun w hS=>Y.loadB rfl (hS.at hbdr hv2) rfl) ?_
  refine AL.take 6 [7,8,9,10,11,12,13,14] rfl (by kernel_rfl) (by kernel_rfl) (by kernel_rfl) (by kernel_rfl) rfl (by assumption) (fun w hS=>Y.move rfl) ?_
  refine AL.next 7 rfl (by kernel_rfl) ?_
  refine RW.fn rfl rfl ((within_ok 1024 64 4096 (by omega) (by omega) _).mono ?_)
  rintro e w5' ⟨rfl,he5⟩
  rw[he5]
  refine RW.nil (Nm.then ⟨hS,?_⟩)
  skip
  refine AL.next 8 rfl (by kernel_rfl) ?_
  refine RW.makeE (n:=1024) rfl rfl rfl rfl (by omega) (by omega) (fun w5 hb5 hk5=>?_)
  have hl4:=hS.size
  have hl5:=lt_of_at hb5
  have hS:=hS.trans0 hk5
  refine RW.nil (Nm.then ⟨hS,?_⟩)
  skip
  refine AL.next 9 rfl (by kernel_rfl) ?_
  refine RW.build1 rfl rfl rfl rfl (fun w6 hb6 hk6 hl6=>?_)
  have hS:=hS.trans0 hk6
  refine RW.nil (Nm.then ⟨hS,?_⟩)
  skip
  refine AL.next 10 rfl (by kernel_rfl) ?_
  have hK6:K0 wr w6:=(hk4.trans0 hk5).trans0 hk6
  have hz6:=hK6.size
  have hz5:=hk5.size
  have hz66:=hk6.size
  have ho6:=own_kept0 hown hK6
  have hsl:Sl w6 1 (.slice (some ⟨w5.heap.size,0,none⟩) 1 1) 1 [secV w4.heap.size]:=Sl.of_own (own_new (base:=0) (sz:=1) hb6 (Nat.zero_le _) (n:=1) rfl (by simp[maxLen]))
  have hkz:=hkr.size
  refine H.RW.app (z:= .slice none 0 0) (sz:=1) (m:=1) (news:=[secV w4.heap.size]) rfl rfl rfl rfl rfl ho6 hsl (fun u hu=>by rw[List.mem_singleton.1 hu]; rfl) (by omega) (by omega) (by omega) (fun v7 w7 ho7 hk7 hlies=>?_)
  have hS:=hS.trans hk7 (fun k h=> .inl h)
  refine RW.nil (Nm.then ⟨hS,?_⟩)
  refine AL.take 11 [12,13,14] rfl (by kernel_rfl) (by kernel_rfl) (by kernel_rfl) (by kernel_rfl) rfl (by assumption) (fun w hS=>Y.nilck rfl) ?_
  refine AL.take 12 [13,14] rfl (by kernel_rfl) (by kernel_rfl) (by kernel_rfl) (by kernel_rfl) rfl (by assumption) (fun w hS=>Y.fieldAddr rfl (by rfl)) ?_
  refine AL.take 13 [14] rfl (by kernel_rfl) (by kernel_rfl) (by kernel_rfl) (by kernel_rfl) rfl (by assumption) (fun w hS=>Y.fieldAddr rfl (by rfl)) ?_
  refine AL.last 14 rfl (by kernel_rfl) rfl ?_
  have h1v:v7.oneCell'=true:=by rcases ho7.2 with ⟨rfl,_⟩|⟨g,cap,cur,rfl,_⟩ <;> rfl
  refine RW.storeB rfl rfl h1v (hS.at hbdr hv2) (by simp) (fun w8 hbd8 hk8=>?_)
  refine RW.nil (Nm.then ⟨trivial,?_⟩)
  skip
  refine AL.donew [1,5,11,12] (by kernel_rfl) ?_
  dsimp only[H.keep,H.look,H.Fr.put,Nat.beq]
  repeat' (first|(refine CL.region ?_)|(refine CL.done ?_)|(refine Nm.block ?_)|(refine Nm.then ?_)|(refine Gt.nil ?_; refine RW.nilw [0,1,4,5,11,12,13] ?_; dsimp only[H.keep,H.look,H.Fr.put,Nat.beq])|(refine Gt.move ?_; refine RW.y (Y.move rfl) rfl ?_)|(refine Gt.add ?_; refine RW.y (Y.add64 rfl rfl (by omega) (by omega)) rfl ?_))
  have hvl:=hown.lt
  have hww:w.heap.size < wr.heap.size:=by omega
  have K7:K0 w w7:=hkr.trans hS fun k h=> .inr (hvl k h).1
  have hz7:=hk7.size
  have hz8:=hk8.size
  have h5l:w4.heap.size < w5.heap.size:=hl5
  have hne7 : ∀k,v.ownBlock≠some k→k < w6.heap.size→v7.ownBlock≠some k:=fun k h1 h2 e=>by
   rcases hlies k e with q|q
   ·exact h1 q
   ·omega
  refine⟨n - (i+1),_,rfl,rfl,rfl,by omega,i+1,ss++[w4.heap.size],v7,rfl,rfl,hlt,by simp[hss],K7.trans hk8 fun k h=> .inr (by have h:k=w1.heap.size:=h; omega),by omega,hne7 _ hv1 (by omega),hne7 _ hv2 (by omega),?_,?_,by simpa using hbd8,hk8.at (hS.at hbmr hv1) (by show ¬(w.heap.size=w1.heap.size); omega),?_,?_⟩
  ·intro h
   rcases List.mem_append.1 h with h|h
   ·exact hs1 h
   ·have:=List.mem_singleton.1 h; omega
  ·intro h
   rcases List.mem_append.1 h with h|h
   ·exact hs2 h
   ·have:=List.mem_singleton.1 h; omega
  ·have:=own_kept ho7 hk8 fun g hg c=>hne7 _ hv2 (by omega) (by rw[hg]; exact congrArg some c)
   simpa using this
  ·refine⟨?_,fun s hs=>?_⟩
   ·refine List.nodup_append.2 ⟨hN,by simp,fun a ha b hb e=>?_⟩
    have hb:=List.mem_singleton.1 hb
    have:=lt_of_at (hS0 a ha).2.1
    omega
   ·rcases List.mem_append.1 hs with h|h
    ·obtain⟨q1,q2,q3⟩:=hS0 s h
     have hsl:=lt_of_at q2
     exact⟨q1,hk8.at (hS.at q2 q3) (fun c=>hs2 (by have c:s=w1.heap.size:=c; rw[←c]; exact h)),hne7 _ q3 (by omega)⟩
    ·have h:=List.mem_singleton.1 h
     subst h
     have hvn:v.ownBlock≠some w4.heap.size:=fun e=>by have:=(hvl _ e).2; omega
     exact⟨by omega,hk8.at (hk7.at (hk6.at0 hb5) hvn) (by show ¬(w4.heap.size=w1.heap.size); omega),hne7 _ hvn (by omega)⟩
 ·have hin:i=n:=by omega
  subst hin
  repeat' (first|(refine CL.seq ?_)|(refine CL.region ?_)|(refine CL.condP rfl (fun _=>?_) (fun _=>?_) <;> try (exfalso; omega))|(refine CL.exit ?_)|(refine Ex.then ?_)|(refine Ex.hit ?_)|(refine CL.ret ?_)|(refine Gt.nil ?_; refine RW.nilw [0,1,4,5,11,12,13] ?_; dsimp only[H.keep,H.look,H.Fr.put,Nat.beq])|(refine Gt.move ?_; refine RW.y (Y.move rfl) rfl ?_)|(refine Gt.assign ?_; refine RW.y (Y.assign rfl) rfl ?_)|(refine Gt.lss ?_; refine RW.y (Y.lss rfl rfl) rfl ?_))
  exact FQ.one rfl rfl rfl ⟨hkr,ss,v,w.heap.size,w1.heap.size,rfl,hss,Nat.le_refl _,by omega,by omega,hv1,hv2,hs1,hs2,hbdr,hbmr,hown,hN,hS0⟩
end Go.Proofs.YtbhbdeelpopgoaaGreatDoor.E

