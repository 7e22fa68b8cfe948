/-
  The base.
-/
import Derived.Test.YtbhbdeelpopgoaaGreatDoorQj
import Derived.Test.YtbhbdeelpopgoaaGreatDoorQs
import Derived.Test.YtbhbdeelpopgoaaGreatDoorQe
import Derived.WalkKit
import Derived.ProofKit
import Derived.OpenShut
import Derived.Carry
import Derived.ChangeArms
import Derived.Deep.Slices
set_option linter.unusedVariables false
set_option linter.unusedSimpArgs false
set_option linter.constructorNameAsVariable false
set_option linter.unusedVariables false
namespace Go.Proofs.YtbhbdeelpopgoaaGreatDoor.E
open Go Go.RowKit H
set_option maxRecDepth 100000
noncomputable def tbU:List (FuncId×Prim):=(49,fun _ vs h kr _=>parseP vs h kr)::(122,fun _ vs h kr _=>atP vs h fun v=>kr v h)::(94,fun _ vs h kr _=>rowsOfP vs h kr)::(413,solP call1 413)::(105,fun _ vs h kr _=>valP hxT vs h fun v=>kr v h)::(78,fun _ vs h kr _=>valP paT vs h fun v=>kr v h)::tb1 107
theorem tbU_ok: ∀x∈tbU,Pr1 P0 107 x.1 x.2:=
 List.forall_mem_cons.2 ⟨pr_parse,List.forall_mem_cons.2 ⟨pr_at,List.forall_mem_cons.2 ⟨pr_rowsOf,List.forall_mem_cons.2 ⟨solP_ok (call1_ok sumsOk) 107 _,List.forall_mem_cons.2 ⟨valP_ok hxT_ok,List.forall_mem_cons.2 ⟨valP_ok paT_ok,tb1_ok sumsOk 107⟩⟩⟩⟩⟩⟩
noncomputable def tbT(s:Nat):List (FuncId×Prim):=(67,fun _ vs h kr _=>netP s vs h kr)::(226,fun _ vs h kr _=>bldP 5 bT vs h kr)::tbU
theorem tbT_ok{s:Nat}(hs:s < 6): ∀x∈tbT s,Pr1 P0 107 x.1 x.2:=List.forall_mem_cons.2 ⟨pr_net hs,List.forall_mem_cons.2 ⟨bldP_ok bT_ok,tbU_ok⟩⟩
noncomputable def tbW:List (FuncId×Prim):=(67,fun _ vs h kr _=>netP 4 vs h kr)::(226,pureD P0 FU wcA wc1 dr0 call1 226)::tbU
theorem tbW_ok: ∀x∈tbW,Pr1 P0 107 x.1 x.2:=List.forall_mem_cons.2 ⟨pr_net (by decide),List.forall_mem_cons.2 ⟨pureD_ok (call1_ok sumsOk) (wcA_ex sumsOk) (wc1_ok sumsOk) dr0_ok regs0 107 _,tbU_ok⟩⟩
noncomputable def yl1:CallF:=callK P0 100 FU (tab tbX) (dr0 100) 200
noncomputable def nilR(k:Nat)(b:Bool):Bool:=yl1 10 [.nils] h00 (fun x h=>yl1 11 [x,cmdI] h (fun _ h=>yl1 11 [x,cmdA k] h (fun e _=>ask (avEq e (.int .i64 (.ofNat 70))) b) nope) nope) nope
theorem nilR_ok{k:Nat}(hk10:k < 10)(hk:nilR k true=true){w:World}(hw:Wf w):Calls P0 10 #[.slice none 0 0] w fun e w1=>∃x:Value,e = .returned x∧K0 w w1∧∀w2,K0 w1 w2→Calls P0 11 #[x,cmdIv] w2 fun e w3=>∃y,e = .returned y∧K0 w w3∧∀w4,K0 w3 w4→Calls P0 11 #[x,cmdAv k] w4 fun e w5=>e = .returned (.int .i64 70)∧K0 w w5:=by
 have hc:CallOk P0 100 yl1:=callK_ok (tab_ok tbX_ok) (dr0_ok 100) regs0 200
 rcases hc _ _ _ _ _ hk with ⟨u,h1,hu,hC⟩|⟨_,_,hk,_⟩
 ·refine(hC _ w (r00 sg0) w [.slice none 0 0] (rel00 sg0 hw) (reals_cons.2 ⟨_,_,rfl,reals_nil,rfl⟩)).mono ?_
  rintro e w1 ⟨r1,x,rfl,hx1,hR1,hx⟩
  refine⟨x,rfl,hR1.kept,fun w2 hk2=>?_⟩
  rcases hc _ _ _ _ _ hu with ⟨u2,h2,hu2,hC2⟩|⟨_,_,hk,_⟩
  ·refine(hC2 _ w r1 w2 [x,cmdIv] (hR1.same hk2) (reals_cons.2 ⟨_,_,hx,reals_cons.2 ⟨_,_,cmdI_real _,reals_nil,rfl⟩,rfl⟩)).mono ?_
   rintro e w3 ⟨r3,y3,rfl,hx3,hR3,hy3⟩
   refine⟨y3,rfl,hR3.kept,fun w4 hk4=>?_⟩
   rcases hc _ _ _ _ _ hu2 with ⟨u4,h4,hu4,hC4⟩|⟨_,_,hk,_⟩
   ·refine(hC4 _ w r3 w4 [x,cmdAv k] (hR3.same hk4) (reals_cons.2 ⟨_,_,real_mono hx3 _ _ hx,reals_cons.2 ⟨_,_,cmdA_real _ hk10,reals_nil,rfl⟩,rfl⟩)).mono ?_
    rintro e w5 ⟨r5,y5,rfl,hx5,hR5,hy5⟩
    have:=avEq_ok _ _ (ask_ok hu4).1
    subst this
    have:=real_int hy5
    subst this
    exact⟨rfl,hR5.kept⟩
   ·cases hk
  ·cases hk
 ·cases hk
end Go.Proofs.YtbhbdeelpopgoaaGreatDoor.E

namespace Go.Proofs.YtbhbdeelpopgoaaGreatDoor.H
open Go.ChangeShapes Go.WideShapes Go.RowKit
class Opn (P:Program) (t:TypeId) (α:outParam Type) (en:outParam (α→List Value)) (ok:outParam (World→α→Prop)):Prop where
 out : ∀(H:Type) (enc:TypeId×Value→H) (W:World) (fuel:Nat) (cs:List Value) (x:DataW H×List MemPlace),DataW.trod enc P W 0 (fun _=>true) true fuel t cs=some x→∃a,cs=en a∧ok W a
class Cel (P:Program) (t:TypeId) (n:outParam Nat):Prop where out:P.cellsOf t=n
theorem Cel.of{P:Program}{t:TypeId}{z:Value}{s b:Nat}[h:Inf P t z s b]:Cel P t s:=⟨by
 have h:=h.out
 cases hi:P.info? t with
 | none=>simp[hi] at h
 | some i=>
  simp only[hi,Option.map_some,Option.some.injEq,Prod.mk.injEq] at h
  simp[Program.cellsOf,hi,h.2.1]⟩
instance {P:Program} {t:TypeId} {z:Value} {s b:Nat} [h:Inf P t z s b]:Cel P t s:=Cel.of
class CelS (P:Program) (t:TypeId) (n:outParam Nat):Prop where
 out:P.cellsOf t=n
 pos:0 < n
theorem wf_of{k:IntKind}{n:Int}(h:(Lit.int k n).wf=true):k.min≤n∧n≤k.max:=by
 simpa [Lit.wf] using h
instance (priority:=low) {P:Program} {t:TypeId} {k:IntKind} [h:Und P t (.int k)]:Opn P t Int (fun n=>[.int k n]) (fun _ n=>k.min≤n∧n≤k.max):=⟨fun _ _ _ _ _ _ hx=>by
 obtain⟨n,rfl,rfl,hw⟩:=DataW.trod_int h.out hx
 exact⟨n,rfl,wf_of hw⟩⟩
instance {P:Program} {t:TypeId} [h:Und P t (.int .i64)]:Opn P t Int (fun n=>[.int .i64 n]) (fun _ n=>-9223372036854775808≤n∧n≤9223372036854775807):=⟨fun _ _ _ _ _ _ hx=>by
 obtain⟨n,rfl,rfl,hw⟩:=DataW.trod_int h.out hx
 exact⟨n,rfl,bounds_i64 hw⟩⟩
instance {P:Program} {t:TypeId} [h:Und P t (.int .u64)]:Opn P t Nat (fun n=>[.int .u64 (n:Int)]) (fun _ n=>n < 18446744073709551616):=⟨fun _ _ _ _ _ _ hx=>by
 obtain⟨n,rfl,rfl,hw⟩:=DataW.trod_int h.out hx
 have:=bounds_u64 hw
 exact⟨n.toNat,by rw[Int.toNat_of_nonneg this.1],by omega⟩⟩
instance {P:Program} {t:TypeId} [h:Und P t (.int .u8)]:Opn P t UInt8 (fun n=>[vb n]) (fun _ _=>True):=⟨fun _ _ _ _ _ _ hx=>by
 obtain⟨n,rfl,rfl,hw⟩:=DataW.trod_int h.out hx
 have:=bounds_u8 hw
 refine⟨UInt8.ofNat n.toNat,?_,trivial⟩
 simp only[vb,UInt8.toNat_ofNat']
 congr 2
 omega⟩
instance {P:Program} {t:TypeId} [h:Und P t .bool]:Opn P t Bool (fun b=>[.bool b]) (fun _ _=>True):=⟨fun _ _ _ _ _ _ hx=>by
 obtain⟨n,rfl,rfl⟩:=DataW.trod_bool h.out hx
 exact⟨n,rfl,trivial⟩⟩
instance {P:Program} {t:TypeId} [h:Und P t .string]:Opn P t (List UInt8) (fun s=>[vs s]) (fun _ s=>s.length≤9223372036854775807):=⟨fun _ _ _ _ _ _ hx=>by
 obtain⟨s,rfl,rfl,hw⟩:=DataW.trod_string h.out hx
 refine⟨s.data.toList,rfl,?_⟩
 simpa [maxLen] using hw⟩
theorem addr_none{w:World}{a:Addr}{v:Value}(h:w.cell? a=some v): ∃c e fz,w.heap[a.block]?=some (.cells c e fz)∧a.spot=none∧c[a.off]?=some v:=by
 unfold World.cell? at h
 split at h
 ·rename_i c e fz hc
  split at h
  ·cases h
  ·rename_i hs
   exact⟨c,e,fz,hc,by simpa using hs,h⟩
 ·cases h
theorem list_grow{L cs:List Value}{off k sz:Nat}(hl:cs.length=sz)(h : ∀j,j < sz→L[off+k * sz+j]?=cs[j]?):(L.drop off).take ((k+1) * sz)=(L.drop off).take (k * sz)++cs:=by
 rw[Nat.succ_mul,List.take_add]
 congr 1
 apply List.ext_getElem?
 intro j
 rw[List.getElem?_take]
 split
 ·rename_i hj
  rw[List.drop_drop,List.getElem?_drop]
  exact h j hj
 ·rename_i hj
  rw[List.getElem?_eq_none (by omega)]
instance {P:Program} {t e:TypeId} {sz:Nat} [h:Und P t (.slice e)] [hc:CelS P e sz] {β:Type} {en:β→List Value} {ok:World→β→Prop} [ho:Opn P e β en ok] :
  Opn P t (Value×List β) (fun p=>[p.1]) (fun W p=>Sl W sz p.1 p.2.length (p.2.flatMap en)∧∀x∈p.2,ok W x):=⟨fun H enc W fuel cs x hx=>by
 have hpos:=hc.pos
 rcases Go.Deep.open_slice h.out hx with ⟨rfl,_⟩|⟨a,len,cap,m,n,D,Pl,rfl,_,hl,hm,hmm,_,hel⟩
 ·exact⟨(_,[]),rfl,by simpa using Sl.nil W sz,by simp⟩
 have hel : ∀i,i < cap→∃cs',W.cells? 0 (a.add (i * sz)) sz=some cs'∧DataW.trod enc P W 0 (fun _=>true) true n e cs'=some (D i,Pl i):=fun i hi=>by
  have:=hel i (by rw[hmm]; simpa using hi)
  rw[hc.out] at this
  exact this
 by_cases h0:cap=0
 ·subst h0
  have:len=0:=by omega
  subst this
  exact⟨(_,[]),rfl,⟨by simp,by simp,.inl ⟨_,rfl,rfl⟩⟩,by simp⟩
 obtain⟨cs0,hcs0,_⟩:=hel 0 (by omega)
 obtain⟨_,hlen0,hat0⟩:=World.cells?_some hcs0
 have h00:=hat0 0 (by omega)
 rw[List.getElem?_eq_getElem (by omega)] at h00
 have hz:(a.add (0 * sz)).add 0=a:=by unfold Addr.add; simp
 rw[hz] at h00
 obtain⟨c,e',fz,hb,hsp,_⟩:=addr_none h00
 obtain⟨g,off,sp⟩:=a
 simp only at hsp
 subst hsp
 have hcell : ∀i,i < cap→∃cs',cs'.length=sz∧(∃b,cs'=en b∧ok W b)∧∀j,j < sz→c.toList[off+i * sz+j]?=cs'[j]?:=by
  intro i hi
  obtain⟨cs',h1,h2⟩:=hel i hi
  obtain⟨_,h4,h5⟩:=World.cells?_some h1
  refine⟨cs',h4,ho.out H enc W n cs' _ h2,fun j hj=>?_⟩
  have:=h5 j hj
  rw[addr_add,addr_add,cell_row (off:=0) hb] at this
  rw[←this,Array.getElem?_toList]
 have grow : ∀k,k≤cap→∃xs:List β,xs.length=k∧(c.toList.drop off).take (k * sz)=xs.flatMap en∧(∀x∈xs,ok W x)∧(xs.flatMap en).length=k * sz:=by
  intro k
  induction k with
  | zero=>intro _; exact⟨[],rfl,by simp,by simp,by simp⟩
  | succ k ih=>
   intro hk
   obtain⟨xs,h1,h2,h3,h6⟩:=ih (by omega)
   obtain⟨cs',h4,⟨b,rfl,hb'⟩,h5⟩:=hcell k (by omega)
   refine⟨xs++[b],by simp[h1],?_,?_,?_⟩
   ·rw[list_grow h4 h5,h2]; simp
   ·intro x hx
    rcases List.mem_append.1 hx with hx|hx
    ·exact h3 x hx
    ·simp only[List.mem_singleton] at hx; subst hx; exact hb'
   ·rw[List.flatMap_append,List.length_append,h6]; simp[h4,Nat.succ_mul]
 have hsize:off+cap * sz≤c.size:=by
  obtain⟨cs',h4,_,h5⟩:=hcell (cap - 1) (by omega)
  have h6:=h5 (sz - 1) (by omega)
  rw[show cs'[sz - 1]?=some (cs'[sz - 1]'(by omega)) from List.getElem?_eq_getElem (by omega)] at h6
  have h7:=(List.getElem?_eq_some_iff.1 h6).1
  have:(cap - 1) * sz+sz=cap * sz:=by
   have:cap=(cap - 1)+1:=by omega
   conv=>rhs; rw[this,Nat.succ_mul]
  simp only[Array.length_toList] at h7
  omega
 obtain⟨xs,h1,h2,h3,h6⟩:=grow len hl
 subst h1
 exact⟨(_,xs),rfl,⟨h6,Nat.le_trans hl hm,.inr ⟨g,off,cap,c,e',fz,rfl,hb,hl,hm,hsize,h2⟩⟩,h3⟩⟩
class OpnF (P:Program) (ts:List TypeId) (α:outParam Type) (en:outParam (α→List Value)) (ok:outParam (World→α→Prop)) (len:outParam Nat):Prop where
 out : ∀(H:Type) (enc:TypeId×Value→H) (W:World) (n off:Nat) (cs:List Value),off+len≤cs.length→
  (∀(pre:List TypeId) (t:TypeId) (post:List TypeId),ts=pre++t::post→∃x,DataW.trod enc P W 0 (fun _=>true) true n t ((cs.drop (off+(pre.map P.cellsOf).sum)).take (P.cellsOf t))=some x)→
  ∃a,(cs.drop off).take len=en a∧ok W a
 sum:(ts.map P.cellsOf).sum=len
instance {P:Program}:OpnF P [] Unit (fun _=>[]) (fun _ _=>True) 0:=⟨fun _ _ _ _ _ _ _ _=>⟨(),by simp,trivial⟩,rfl⟩
instance {P:Program} {t:TypeId} {ts:List TypeId} {α β:Type} {en:α→List Value} {ok:World→α→Prop} {en':β→List Value} {ok':World→β→Prop} {c l:Nat} [hc:Cel P t c] [h1:Opn P t α en ok] [h2:OpnF P ts β en' ok' l] :
  OpnF P (t::ts) (α×β) (fun p=>en p.1++en' p.2) (fun W p=>ok W p.1∧ok' W p.2) (c+l):=⟨fun H enc W n off cs hl hf=>by
 obtain⟨x,hx⟩:=hf [] t ts rfl
 simp only[List.map_nil,List.sum_nil,Nat.add_zero] at hx
 rw[hc.out] at hx
 obtain⟨a,ha,hok⟩:=h1.out H enc W n _ x hx
 obtain⟨b,hb,hok'⟩:=h2.out H enc W n (off+c) cs (by omega) (fun pre u post he=>by
  obtain⟨y,hy⟩:=hf (t::pre) u post (by rw[he]; rfl)
  refine⟨y,?_⟩
  simp only[List.map_cons,List.sum_cons,hc.out] at hy
  rw[Nat.add_assoc]; exact hy)
 refine⟨(a,b),?_,hok,hok'⟩
 rw[List.take_add,ha,List.drop_drop,hb],by rw[List.map_cons,List.sum_cons,hc.out,h2.sum]⟩
def offsOk(P:Program):Nat→List Field→Bool
 | _,[]=>true
 | o,f::r=>f.offset == o && offsOk P (o+P.cellsOf f.type) r
theorem offs_at{P:Program}: ∀(fs:List Field) (o:Nat),offsOk P o fs=true→∀(pre:List Field) (f:Field) (post:List Field),fs=pre++f::post→f.offset=o+((pre.map (·.type)).map P.cellsOf).sum:=by
 intro fs
 induction fs with
 | nil=>intro o _ pre f post h; cases pre <;> cases h
 | cons a r ih=>
  intro o h pre f post he
  simp only[offsOk,Bool.and_eq_true,beq_iff_eq] at h
  cases pre with
  | nil=>simp only[List.nil_append,List.cons.injEq] at he; obtain⟨rfl,_⟩:=he; simp[h.1]
  | cons b pre=>
   simp only[List.cons_append,List.cons.injEq] at he
   obtain⟨rfl,he⟩:=he
   rw[ih _ h.2 pre f post he]
   simp[Nat.add_assoc]
class StrT (P:Program) (t:TypeId) (ts:outParam (List TypeId)):Prop where
 out : ∃fs,P.underlying t=some (.struct fs)∧fs.toList.map (·.type)=ts∧offsOk P 0 fs.toList=true∧P.cellsOf t=(ts.map P.cellsOf).sum
instance {P:Program} {t:TypeId} {ts:List TypeId} [hS:StrT P t ts] {α:Type} {en:α→List Value} {ok:World→α→Prop} {len:Nat} [h:OpnF P ts α en ok len]:Opn P t α en ok:=⟨fun H enc W fuel cs x hx=>by
 obtain⟨fs,hu,hts,hof,hlen⟩:=hS.out
 obtain⟨xs,n,rfl,rfl,hl,hxl,hf⟩:=DataW.trod_struct hu hx
 rw[hlen,h.sum] at hl
 subst hts
 obtain⟨a,ha,hok⟩:=h.out H enc W n 0 cs (by omega) (fun pre u post he=>by
  obtain⟨i,hi⟩ : ∃i,pre.length=i:=⟨_,rfl⟩
  have hlen2:pre.length < fs.toList.length:=by
   have:=congrArg List.length he
   simp at this
   simp; omega
  have hpre:(fs.toList.take pre.length).map (·.type)=pre:=by rw[List.map_take,he]; simp
  have hget:(fs.toList.map (·.type))[pre.length]?=some u:=by rw[he]; simp
  rw[List.getElem?_map,List.getElem?_eq_getElem hlen2] at hget
  simp only[Option.map_some,Option.some.injEq] at hget
  have hfi:fs[pre.length]?=some (fs.toList[pre.length]):=by rw[←Array.getElem?_toList,List.getElem?_eq_getElem hlen2]
  have hoff:=offs_at fs.toList 0 hof (fs.toList.take pre.length) (fs.toList[pre.length]) (fs.toList.drop (pre.length+1)) (by rw[←List.drop_eq_getElem_cons hlen2,List.take_append_drop])
  have h2:=hf pre.length _ hfi
  rw[hget,hoff,hpre] at h2
  rw[h2]
  have:pre.length < xs.length:=by rw[hxl]; simpa using hlen2
  exact⟨_,List.getElem?_eq_getElem this⟩)
 rw[List.drop_zero,List.take_of_length_le (by omega)] at ha
 exact⟨a,ha,hok⟩⟩
theorem flat_one{α:Type}(f:α→Value)(l:List α):(l.flatMap fun a=>[f a])=l.map f:=by induction l with
 | nil=>rfl
 | cons a l ih=>rw[List.flatMap_cons,ih]; rfl
theorem Sl.map{α:Type}{f:α→Value}{W:World}{v:Value}{n:Nat}{l:List α}(h:Sl W 1 v n (l.flatMap fun a=>[f a])):Sl W 1 v n (l.map f):=by rw[←flat_one]; exact h
class Top (P:Program) (t:TypeId) (α:outParam Type) (tv:outParam (α→Value)) (ok:outParam (World→α→Prop)):Prop where
 out : ∀(H:Type) (enc:TypeId×Value→H) (W:World) (base:Nat) (v:Value) (d:DataW H) (p:List MemPlace),Value.okWide P W .any base t v→DataW.Trod enc P W 0 (fun _=>true) true t v d p→∃a,v=tv a∧ok W a
theorem Top.one{P:Program}{t:TypeId}{desc:TypeDesc}(hu:P.underlying t=some desc)(hd:TypeDesc.isOne desc=true){α:Type}{c:α→Value}{ok:World→α→Prop}(h:Opn P t α (fun a=>[c a]) ok):Top P t α c ok:=⟨fun H enc W base v d p hv hd'=>by
 obtain⟨fuel,hf⟩:=hd'
 obtain⟨a,ha,hok⟩:=h.out H enc W fuel _ _ hf
 refine⟨a,?_,hok⟩
 have hna : ∀cs,v≠.agg cs:=by
  intro cs hcs
  subst hcs
  unfold Value.okWide at hv
  rw[hu] at hv
  cases desc <;> simp_all [TypeDesc.isOne,Cell.okWide,Cell.ok]
 have:v.cells=#[v]:=by
  cases v with
  | agg cs=>exact absurd rfl (hna cs)
  | _=>rfl
 rw[this] at ha
 simpa using ha⟩
instance {P:Program} {t:TypeId} {k:IntKind} [h:Und P t (.int k)] {α:Type} {c:α→Value} {ok:World→α→Prop} [ho:Opn P t α (fun a=>[c a]) ok]:Top P t α c ok:=Top.one h.out rfl ho
instance {P:Program} {t:TypeId} [h:Und P t .bool] {α:Type} {c:α→Value} {ok:World→α→Prop} [ho:Opn P t α (fun a=>[c a]) ok]:Top P t α c ok:=Top.one h.out rfl ho
instance {P:Program} {t:TypeId} [h:Und P t .string] {α:Type} {c:α→Value} {ok:World→α→Prop} [ho:Opn P t α (fun a=>[c a]) ok]:Top P t α c ok:=Top.one h.out rfl ho
instance {P:Program} {t e:TypeId} [h:Und P t (.slice e)] {α:Type} {c:α→Value} {ok:World→α→Prop} [ho:Opn P t α (fun a=>[c a]) ok]:Top P t α c ok:=Top.one h.out rfl ho
instance {P:Program} {t:TypeId} {ts:List TypeId} [hS:StrT P t ts] {α:Type} {en:α→List Value} {ok:World→α→Prop} [h:Opn P t α en ok]:Top P t α (fun a=> .agg (en a).toArray) ok:=⟨fun H enc W base v d p hv hd'=>by
 obtain⟨fuel,hf⟩:=hd'
 obtain⟨fs,hu,_⟩:=hS.out
 obtain⟨cs,rfl,_⟩:=okWide_struct hu hv
 obtain⟨a,ha,hok⟩:=h.out H enc W fuel _ _ hf
 refine⟨a,?_,hok⟩
 have:cs=(en a).toArray:=by
  apply Array.ext'
  simpa [Value.cells] using ha
 rw[this]⟩
class Tops (P:Program) (ts:List TypeId) (α:outParam Type) (tv:outParam (α→List Value)) (ok:outParam (World→α→Prop)):Prop where
 out : ∀(H:Type) (enc:TypeId×Value→H) (W:World) (base:Nat) (l:List Value) (ds:List (DataW H)) (p:List MemPlace),(∀(j:Nat) t v,ts[j]?=some t→l[j]?=some v→Value.okWide P W .any base t v)→
  DataW.TrodAll enc P W 0 (fun _=>true) true ts l ds p→∃a,l=tv a∧ok W a
instance {P:Program}:Tops P [] Unit (fun _=>[]) (fun _ _=>True):=⟨fun _ _ _ _ l ds p _ h=>by
 obtain⟨rfl,_⟩:=trodAll_nil h
 exact⟨(),rfl,trivial⟩⟩
instance {P:Program} {t:TypeId} {ts:List TypeId} {α β:Type} {tv:α→Value} {ok:World→α→Prop} {tv':β→List Value} {ok':World→β→Prop} [h1:Top P t α tv ok] [h2:Tops P ts β tv' ok'] :
  Tops P (t::ts) (α×β) (fun p=>tv p.1::tv' p.2) (fun W p=>ok W p.1∧ok' W p.2):=⟨fun H enc W base l ds p hv h=>by
 obtain⟨v,vs,d,ds',p',q,rfl,rfl,rfl,hd,hr⟩:=trodAll_cons h
 obtain⟨a,rfl,ha⟩:=h1.out H enc W base v d p' (hv 0 t v rfl rfl) hd
 obtain⟨b,rfl,hb⟩:=h2.out H enc W base vs ds' q (fun j t' v' h1 h2=>hv (j+1) t' v' h1 h2) hr
 exact⟨(a,b),rfl,ha,hb⟩⟩
theorem trodAll_stays{H:Type}{enc:TypeId×Value→H}{P:Program}(hl:laidOutB P=true){W W':World}(hb:Below W.heap.size W W'): ∀(ts:List TypeId) (l:List Value) (ds:List (DataW H)) (p:List MemPlace),(∀t∈ts,P.readableRec t=true∧t < P.types.size)→(∀x∈p,x.block < W.heap.size)→
  DataW.TrodAll enc P W 0 (fun _=>true) true ts l ds p→DataW.TrodAll enc P W' 0 (fun b=>decide (b < W.heap.size)) true ts l ds p:=by
 intro ts
 induction ts with
 | nil=>
  intro l ds p _ _ h
  obtain⟨rfl,rfl,rfl⟩:=trodAll_nil h
  exact trodAll_mk0
 | cons t ts ih=>
  intro l ds p hts hp h
  obtain⟨v,vs,d,ds',p',q,rfl,rfl,rfl,hd,hr⟩:=trodAll_cons h
  have h1:=hts t (by simp)
  exact trodAll_cons_mk (Below.trod hl h1.1 h1.2 hd hb fun x hx=>hp x (by simp[hx])) (ih vs ds' q (fun u hu=>hts u (by simp[hu])) (fun x hx=>hp x (by simp[hx])) hr)
theorem trodAll_length{H:Type}{enc:TypeId×Value→H}{P:Program}{W:World}{sp:Nat→Bool}{hd:Bool}: ∀(ts:List TypeId) (l:List Value) (ds:List (DataW H)) (p:List MemPlace),DataW.TrodAll enc P W 0 sp hd ts l ds p→ds.length=ts.length:=by
 intro ts
 induction ts with
 | nil=>intro l ds p h; obtain⟨_,rfl,_⟩:=trodAll_nil h; rfl
 | cons t ts ih=>
  intro l ds p h
  obtain⟨v,vs,d,ds',p',q,rfl,rfl,rfl,_,hr⟩:=trodAll_cons h
  simp[ih _ _ _ hr]
end Go.Proofs.YtbhbdeelpopgoaaGreatDoor.H

namespace Go.Proofs.YtbhbdeelpopgoaaGreatDoor.H
open Go.ChangeShapes Go.WideShapes Go.RowKit
class ArrT (P:Program) (t:TypeId) (n:outParam Nat) (e:outParam TypeId) (sz:outParam Nat):Prop where
 out:P.underlying t=some (.array n e)
 el:P.cellsOf e=sz
 all:P.cellsOf t=n * sz
theorem rows_cat{β:Type}{en:β→List Value}{W:World}{ok:World→β→Prop}{sz:Nat}: ∀(n:Nat) (cs:List Value),cs.length=n * sz→(∀i,i < n→∃b,(cs.drop (i * sz)).take sz=en b∧ok W b)→∃l:List β,cs=l.flatMap en∧l.length=n∧∀x∈l,ok W x
 | 0,cs,h,_=>⟨[],by rw[Nat.zero_mul] at h; rw[List.length_eq_zero_iff.1 h]; rfl,rfl,by simp⟩
 | n+1,cs,h,hf=>by
  obtain⟨b,hb,hok⟩:=hf 0 (by omega)
  obtain⟨l,h1,h2,h3⟩:=rows_cat (en:=en) (ok:=ok) (W:=W) (sz:=sz) n (cs.drop sz) (by rw[List.length_drop,h,Nat.succ_mul,Nat.add_sub_cancel]) (fun i hi=>by
   obtain⟨b',h1,h2⟩:=hf (i+1) (by omega)
   refine⟨b',?_,h2⟩
   rw[List.drop_drop,←h1,Nat.succ_mul,Nat.add_comm])
  refine⟨b::l,?_,by simp[h2],fun x hx=>?_⟩
  ·rw[List.flatMap_cons,←h1,←hb,Nat.zero_mul,List.drop_zero,List.take_append_drop]
  ·rcases List.mem_cons.1 hx with rfl|hx
   ·exact hok
   ·exact h3 x hx
instance {P:Program} {t e:TypeId} {n sz:Nat} [h:ArrT P t n e sz] {β:Type} {en:β→List Value} {ok:World→β→Prop} [ho:Opn P e β en ok] :
  Opn P t (List β) (fun l=>l.flatMap en) (fun W l=>l.length=n∧∀x∈l,ok W x):=⟨fun H enc W fuel cs x hx=>by
 obtain⟨xs,m,rfl,rfl,hl,hxl,hel⟩:=DataW.trod_array h.out hx
 rw[h.all] at hl
 obtain⟨l,h1,h2,h3⟩:=rows_cat (en:=en) (ok:=ok) (W:=W) n cs hl (fun i hi=>by
  have:=hel i hi
  rw[h.el,List.getElem?_eq_getElem (by omega)] at this
  obtain⟨b,hb,hok⟩:=ho.out H enc W m _ _ this
  exact⟨b,hb,hok⟩)
 exact⟨l,h1,h2,h3⟩⟩
theorem okWide_arr{P:Program}{w:World}{base:Nat}{t:TypeId}{v:Value}{n:Nat}{e:TypeId}(ht:P.underlying t=some (.array n e))(h:Value.okWide P w .any base t v): ∃cs,v = .agg cs∧cs.size=P.cellsOf t:=by
 simp only[Value.okWide,ht] at h
 obtain⟨cs,h1,h2,_⟩:=h
 exact⟨cs,h1,h2⟩
instance {P:Program} {t e:TypeId} {n sz:Nat} [h:ArrT P t n e sz] {α:Type} {en:α→List Value} {ok:World→α→Prop} [ho:Opn P t α en ok]:Top P t α (fun a=> .agg (en a).toArray) ok:=⟨fun H enc W base v d p hv hd'=>by
 obtain⟨fuel,hf⟩:=hd'
 obtain⟨cs,rfl,_⟩:=okWide_arr h.out hv
 obtain⟨a,ha,hok⟩:=ho.out H enc W fuel _ _ hf
 refine⟨a,?_,hok⟩
 have:cs=(en a).toArray:=by
  apply Array.ext'
  simpa [Value.cells] using ha
 rw[this]⟩
theorem law_contractW{P:Program}(hlo:laidOutB P=true){k:FuncId}{f:Func}{s:ChangeSpec}{tb:TypeId}(hb:P.underlying tb=some .bool)(hr:f.resultTypes=#[tb])(hv:s.vars=[])
  {ts:List TypeId} (hts:f.params.toList=ts) (hps : ∀t∈ts,P.readableRec t=true∧t < P.types.size) {α:Type} {tv:α→List Value} {ok:World→α→Prop} [ho:Tops P ts α tv ok]
  (hs : ∀(H:Type) (ds:List (DataW H)),ds.length=ts.length→s.fn H ds = {results:=[.lit (.bool true)],args:=ds})
  (W:World) (walk : ∀(a:α),ok W a→Calls P k (tv a).toArray W fun e W'=>e = .returned (.bool true)∧K0 W W')
  (H:Type) (enc:TypeId×Value→H) (base:Nat) (args:Array Value) (ds gs:List (DataW H)) (before:List MemPlace)
  (hval : ∀(j:Nat) t v,f.params[j]?=some t→args[j]?=some v→Value.okWide P W .any base t v)
  (hW:DataW.Whole enc P f.params.toList s.vars false W args.toList ds gs before) :
  Calls P k args W fun e W'=>∃v,e = .returned v∧s.post enc P f false true false false W args v W':=by
 have hW':=hW
 rw[hv] at hW
 obtain⟨p,q,hA,hV,rfl,hfz,hnd⟩:=hW
 obtain⟨rfl,rfl⟩:=trodVars_none hV
 have hlt : ∀x∈p,x.block < W.heap.size:=fun x hx=>by have:=hW'.lt x (by simp[hx]); simpa using this
 rw[hts] at hA
 obtain⟨a,ha,hok⟩:=ho.out H enc W base args.toList ds p (fun j t v h1 h2=>hval j t v (by rw[←Array.getElem?_toList,hts]; exact h1) (by rw[←Array.getElem?_toList]; exact h2)) hA
 have hargs:args=(tv a).toArray:=by apply Array.ext'; simpa using ha
 subst hargs
 refine(walk a hok).mono fun e W' ⟨he,hk⟩=>?_
 have hbel:=hk.below
 have hfn:=hs H (ds++[]) (by simpa using trodAll_length _ _ _ _ hA)
 refine⟨_,he,ds,[],p++[],[],p,[],hW',?_,?_,?_,hbel.frame _,fun h=>by cases h⟩
 ·rw[hfn,hr]; exact trodAll_cons_mk (shut_bool hb _) trodAll_mk0
 ·rw[hfn,hts]; simpa using trodAll_stays hlo hbel ts _ ds p hps hlt hA
 ·rw[hfn,hv]; exact rfl
end Go.Proofs.YtbhbdeelpopgoaaGreatDoor.H

set_option maxRecDepth 100000
namespace Go.Proofs.YtbhbdeelpopgoaaGreatDoor.H
instance jC5:CelS Tryz.prog 5 1:=⟨by kernel_rfl,by decide⟩
end Go.Proofs.YtbhbdeelpopgoaaGreatDoor.H



