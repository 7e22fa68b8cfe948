/-
  The operations that touch no memory: each by what it is given. More rules: how exits pass, guards that part, indexed reads, and the like. Regions whose order is open: what yields one value in whatever world of a kind is taken first; calls come in their order. Rules: nil tests, structs built, closures made and called, deferred calls, panics, elements of several cells. Equality of two values; operations on one value. Handlers of the operations that touch no memory. More handlers of the operations that touch no memory. Handlers: addresses, slices of slices and texts, lengths. Handlers: parts of slices, arrays and texts; lengths, least and greatest ones; what an interface value holds. Handlers that read and write cells: load, store, new variables, rows that are written out. Handlers: store, new variables, values and rows that are written out. Handlers: values and rows written out, lengths, least and greatest ones, what an interface value holds. append, copy.
-/
import Derived.Test.YtbhbdeelpopgoaaGreatDoorQa
import Derived.OrdersHeld
import Derived.Recover
import Derived.ChangeKeysEq
import Derived.Laws.Sem
set_option linter.unusedVariables false
set_option linter.unusedSimpArgs false
namespace Go.Proofs.YtbhbdeelpopgoaaGreatDoor.E
open Go Go.RowKit H
section
variable {P : Program} {fl : Nat}
theorem appK_eq(a b:List Nat)(k:List Nat→Bool):strBin.appK a b k=k (a++b):=by
 induction a generalizing k with
 | nil=>rfl
 | cons x a ih=>exact ih _
theorem lenN_eq: ∀l:List Nat,strBin.lenN l=l.length
 | []=>rfl
 | _::l=>congrArg Nat.succ (lenN_eq l)
theorem bytes_app{a b:List Nat}(ha:Bytes a)(hb:Bytes b):Bytes (a++b):=bytes_of fun x hx=>(List.mem_append.1 hx).elim (bytes_at ha x) (bytes_at hb x)
theorem strBin_ok{op:BinOp}{a b:List Nat}{k:AV→Bool}(h:strBin op a b k=true)(t:TypeId): ∃z,k z=true∧Bi P op t (.str a) (.str b) z:=by
 have fin : ∀(z:AV) (q:Bytes a→Bytes b→Value),(∀r (x:Bytes a) (y:Bytes b),real r z=some (q x y))→(∀w (x:Bytes a) (y:Bytes b),(binOp op t (.string (B (textOf a))) (.string (B (textOf b)))).run P w = .ok (q x y) w)→k z=true→∃z,k z=true∧Bi P op t (.str a) (.str b) z:=by
  intro z q h1 h2 h3
  refine⟨z,h3,fun r u v w hu hv=>?_⟩
  obtain⟨ha,rfl⟩:=real_str hu
  obtain⟨hb,rfl⟩:=real_str hv
  exact⟨q ha hb,h1 r ha hb,h2 w ha hb⟩
 have e : ∀x y:List UInt8,(x == y)=decide (x=y):=fun x y=>by by_cases c:x=y <;> simp[c]
 cases op
 case add=>
  replace h:(strBin.appK a b fun l=>ask (Nat.ble (strBin.lenN l) 1000000000000) (k (.str l)))=true:=h
  rw[appK_eq,lenN_eq] at h
  obtain⟨h1,h⟩:=ask_ok h
  have h1:=ble_le h1
  rw[List.length_append] at h1
  refine fin _ (fun _ _=> .string (B (textOf (a++b)))) (fun r x y=>str_real (bytes_app x y)) (fun w x y=>?_) h
  simp only[binOp,Op.stringOp]
  rw[if_neg (by simp only[B_size,text_len,IntKind.max,IntKind.signed,IntKind.bits]; simp; omega)]
  have:B (textOf a)++B (textOf b)=B (textOf (a++b)):=by
   apply ByteArray.ext
   simp[ByteArray.data_append,text_app]
  rw[this]
  rfl
 case eql=>
  replace h:(boolK (sEq a b) fun z=>k (.bool z))=true:=h
  rw[boolK_eq] at h
  exact fin _ (fun _ _=> .bool (sEq a b)) (fun r x y=>rfl) (fun w x y=>by rw[sEq_eq x y]; simp[binOp,Op.stringOp,B_toList,e]) h
 case neq=>
  replace h:(boolK (sEq a b) fun z=>k (.bool (not z)))=true:=h
  rw[boolK_eq] at h
  exact fin _ (fun _ _=> .bool (!sEq a b)) (fun r x y=>rfl) (fun w x y=>by rw[sEq_eq x y]; simp[binOp,Op.stringOp,B_toList,e]) h
 case lss=>
  replace h:(boolK (sLt a b) fun z=>k (.bool z))=true:=h
  rw[boolK_eq] at h
  exact fin _ (fun _ _=> .bool (sLt a b)) (fun r x y=>rfl) (fun w x y=>by rw[sLt_eq x y]; simp[binOp,Op.stringOp,B_toList]) h
 case geq=>
  replace h:(boolK (sLt a b) fun z=>k (.bool (not z)))=true:=h
  rw[boolK_eq] at h
  exact fin _ (fun _ _=> .bool (!sLt a b)) (fun r x y=>rfl) (fun w x y=>by rw[sLt_eq x y]; simp[binOp,Op.stringOp,B_toList]) h
 case leq=>
  replace h:(boolK (sLt b a) fun z=>k (.bool (not z)))=true:=h
  rw[boolK_eq] at h
  refine fin _ (fun _ _=> .bool (!sLt b a)) (fun r x y=>rfl) (fun w x y=>?_) h
  rw[sLt_eq y x]; simp[binOp,Op.stringOp,B_toList,e,lt_total (textOf a) (textOf b)]
 case gtr=>
  replace h:(boolK (sLt b a) fun z=>k (.bool z))=true:=h
  rw[boolK_eq] at h
  refine fin _ (fun _ _=> .bool (sLt b a)) (fun r x y=>rfl) (fun w x y=>?_) h
  rw[sLt_eq y x]; simp[binOp,Op.stringOp,B_toList,e,lt_total' (textOf a) (textOf b)]
 all_goals cases h
where
 lt_total : ∀x y:List UInt8,(Op.bytesLess x y || decide (x=y)) = !Op.bytesLess y x
  | [],[]=>by simp[Op.bytesLess]
  | [],_::_=>by simp[Op.bytesLess]
  | _::_,[]=>by simp[Op.bytesLess]
  | a::x,b::y=>by
   have ih:=lt_total x y
   simp only[Op.bytesLess]
   by_cases h1:a < b
   ·have h2 : ¬b < a:=fun c=>by rw[UInt8.lt_iff_toNat_lt] at h1 c; omega
    have h3 : ¬b=a:=fun c=>by subst c; exact h2 h1
    simp[h1,h2,h3]
   ·by_cases h2:b < a
    ·have h3 : ¬a=b:=fun c=>by subst c; exact h1 h2
     simp[h1,h2,h3]
    ·have h3:a=b:=by
      rw[UInt8.lt_iff_toNat_lt] at h1 h2
      exact UInt8.toNat_inj.1 (by omega)
     subst h3
     simpa using ih
 lt_total' (x y:List UInt8):(!Op.bytesLess x y && !decide (x=y))=Op.bytesLess y x:=by
  have:=lt_total x y
  rw[←Bool.not_or,this,Bool.not_not]
noncomputable def nthF{α:Type}(l:List α):Nat→Option α:=List.rec (motive:=fun _=>Nat→Option α) (fun _=>none) (fun a _ ih i=>Nat.rec (motive:=fun _=>Option α) (some a) (fun p _=>hop ih p) i) l
theorem nthF_eq{α:Type}: ∀(l:List α) (i:Nat),nthF l i=l[i]?
 | [],_=>rfl
 | a::l,0=>rfl
 | a::l,i+1=>(nthF_eq l i).trans (by simp)
noncomputable def infoF(P:Program)(t:TypeId):Option TypeInfo:=Option.rec (motive:=fun _=>Option TypeInfo) (P.info? t) (fun i=>some i) (nthF P.types.toList t)
theorem infoF_eq(P:Program)(t:TypeId):infoF P t=P.info? t:=by
 unfold infoF
 rw[nthF_eq]
 cases h:P.types.toList[t]? with
 | none=>rfl
 | some i=>
  have h2:P.types[t]?=some i:=by rw[←h]; simp
  have hl:t < P.types.size:=(Array.getElem?_eq_some_iff.1 h2).1
  show some i=Tables.info? P.toTables t
  unfold Tables.info?
  rw[if_pos hl,h2]
noncomputable def infoK(P:Program)(t:TypeId)(k:TypeInfo→Bool):Bool:=someK (infoF P t) k
theorem infoK_ok{P:Program}{t:TypeId}{k:TypeInfo→Bool}(h:infoK P t k=true): ∃i,P.info? t=some i∧k i=true:=by
 obtain⟨i,hi,h⟩:=someK_ok (x:=infoF P t) h
 exact⟨i,(infoF_eq P t).symm.trans hi,h⟩
noncomputable def undF(P:Program)(t:TypeId):Option TypeDesc:=match infoF P t with
 | some {desc:= .named _ u,..}=>(infoF P u).map (·.desc)
 | some i=>some i.desc
 | none=>none
theorem undF_eq(P:Program)(t:TypeId):undF P t=P.underlying t:=by
 unfold undF Program.underlying
 rw[infoF_eq]
 cases P.info? t with
 | none=>rfl
 | some i=>
  obtain⟨desc,_,_,_,_,_,_,_,_,_⟩:=i
  cases desc <;> first|rfl|(simp only[infoF_eq])
noncomputable def fnF(P:Program)(f:FuncId):Option Func:=nthF P.funcs.toList f
theorem fnF_eq(P:Program)(f:FuncId):fnF P f=P.funcs[f]?:=(nthF_eq _ _).trans (by simp)
noncomputable def fnK(P:Program)(f:FuncId)(k:Func→Bool):Bool:=someK (fnF P f) k
theorem fnK_ok{P:Program}{f:FuncId}{k:Func→Bool}(h:fnK P f k=true): ∃fn,P.funcs[f]?=some fn∧k fn=true:=by
 obtain⟨i,hi,h⟩:=someK_ok (x:=fnF P f) h
 exact⟨i,(fnF_eq P f).symm.trans hi,h⟩
noncomputable def tyK(P:Program)(t:TypeId)(k:TypeDesc→Bool):Bool:=someK (undF P t) k
noncomputable def isBoolT(d:TypeDesc)(k:Bool):Bool:=match d with | .bool=>k|_=>false
noncomputable def isPtrT(d:TypeDesc)(k:TypeId→Bool):Bool:=match d with | .pointer e=>k e|_=>false
noncomputable def isSliceT(d:TypeDesc)(k:TypeId→Bool):Bool:=match d with | .slice e=>k e|_=>false
noncomputable def isMapT(d:TypeDesc)(k:Bool):Bool:=match d with | .map _ _=>k|_=>false
noncomputable def isFuncT(d:TypeDesc)(k:Bool):Bool:=match d with | .func _ _ _=>k|_=>false
noncomputable def isIfaceT(d:TypeDesc)(k:Bool):Bool:=match d with | .interface _=>k|_=>false
noncomputable def isArrT(d:TypeDesc)(k:Nat→TypeId→Bool):Bool:=match d with | .array n e=>k n e|_=>false
noncomputable def isIntT(d:TypeDesc)(k:IntKind→Bool):Bool:=match d with | .int i=>k i|_=>false
noncomputable def isStrT(d:TypeDesc)(k:Bool):Bool:=match d with | .string=>k|_=>false
noncomputable def isStructT(d:TypeDesc)(k:Array Field→Bool):Bool:=match d with | .struct fs=>k fs|_=>false
theorem isBoolT_ok{d:TypeDesc}{k:Bool}(h:isBoolT d k=true):d = .bool∧k=true:=by cases d <;> first|exact⟨rfl,h⟩|cases h
theorem isPtrT_ok{d:TypeDesc}{k:TypeId→Bool}(h:isPtrT d k=true): ∃e,d = .pointer e∧k e=true:=by cases d <;> first|exact⟨_,rfl,h⟩|cases h
theorem isSliceT_ok{d:TypeDesc}{k:TypeId→Bool}(h:isSliceT d k=true): ∃e,d = .slice e∧k e=true:=by cases d <;> first|exact⟨_,rfl,h⟩|cases h
theorem isMapT_ok{d:TypeDesc}{k:Bool}(h:isMapT d k=true):(∃a b,d = .map a b)∧k=true:=by cases d <;> first|exact⟨⟨_,_,rfl⟩,h⟩|cases h
theorem isFuncT_ok{d:TypeDesc}{k:Bool}(h:isFuncT d k=true):(∃a b c,d = .func a b c)∧k=true:=by cases d <;> first|exact⟨⟨_,_,_,rfl⟩,h⟩|cases h
theorem isIfaceT_ok{d:TypeDesc}{k:Bool}(h:isIfaceT d k=true):(∃m,d = .interface m)∧k=true:=by cases d <;> first|exact⟨⟨_,rfl⟩,h⟩|cases h
theorem isArrT_ok{d:TypeDesc}{k:Nat→TypeId→Bool}(h:isArrT d k=true): ∃n e,d = .array n e∧k n e=true:=by cases d <;> first|exact⟨_,_,rfl,h⟩|cases h
theorem isIntT_ok{d:TypeDesc}{k:IntKind→Bool}(h:isIntT d k=true): ∃i,d = .int i∧k i=true:=by cases d <;> first|exact⟨_,rfl,h⟩|cases h
theorem isStrT_ok{d:TypeDesc}{k:Bool}(h:isStrT d k=true):d = .string∧k=true:=by cases d <;> first|exact⟨rfl,h⟩|cases h
theorem isStructT_ok{d:TypeDesc}{k:Array Field→Bool}(h:isStructT d k=true): ∃f,d = .struct f∧k f=true:=by cases d <;> first|exact⟨_,rfl,h⟩|cases h
theorem tyK_ok{t:TypeId}{k:TypeDesc→Bool}(h:tyK P t k=true): ∃d,P.underlying t=some d∧k d=true:=by
 obtain⟨d,hd,h⟩:=someK_ok (x:=undF P t) h
 exact⟨d,(undF_eq P t).symm.trans hd,h⟩
noncomputable def szK(P:Program)(t:TypeId)(k:Nat→Bool):Bool:=infoK P t fun i=>k i.size
theorem run_size{t:TypeId}{i:TypeInfo}(h:P.info? t=some i)(w:World):(sizeOf t).run P w = .ok i.size w:=by simp[sizeOf,typeInfo,h]
theorem run_zero{t:TypeId}{i:TypeInfo}{z:Value}(h:P.info? t=some i)(hz:i.zero=some z)(w:World):(zeroValue t).run P w = .ok z w:=by simp[zeroValue,typeInfo,h,hz]
noncomputable def isAggT(d:TypeDesc):Bool:=match d with | .struct _=>true | .array _ _=>true|_=>false
theorem run_agg{t:TypeId}{d:TypeDesc}(h:P.underlying t=some d)(w:World):(isAgg t).run P w = .ok (isAggT d) w:=by
 simp only[isAgg,Sem.run_bind,run_underlying h,Result.andThen_ok]
 cases d <;> rfl
noncomputable def intsK(x:List AV):(List Nat→Bool)→Bool:=List.rec (motive:=fun _=>(List Nat→Bool)→Bool) (fun k=>k [])
 (fun a _ ih k=>qInt a fun i m=>ask (kEq i .u8) (Int.rec (motive:=fun _=>Bool) (fun m=>ask (Nat.blt m 256) (natK m fun m=>ih (consK k m))) (fun _=>false) m)) x
theorem intsK_ok: ∀{x:List AV} {k:List Nat→Bool},intsK x k=true→∃l,x=ints l∧Bytes l∧k l=true
 | [],k,h=>⟨[],rfl,rfl,h⟩
 | a::x,k,h=>by
  obtain⟨i,m,rfl,h⟩:=qInt_ok (x:=a) h
  obtain⟨h1,h⟩:=ask_ok h
  have:=kEq_ok h1; subst this
  cases m with
  | negSucc m=>cases h
  | ofNat m=>
   obtain⟨h2,h⟩:=ask_ok h
   rw[natK_eq] at h
   obtain⟨l,rfl,hb,h⟩:=intsK_ok (x:=x) h
   exact⟨m::l,rfl,bytes_cons.2 ⟨blt_lt h2,hb⟩,h⟩
noncomputable def eqV(P:Program)(c:Bool)(t:TypeId)(x y:AV)(k:Bool→Bool):Bool:=tyK P t fun d=>match x with
 | .bool a=>qBool y fun b=>isBoolT d (boolK (ifeV a b (not b)) k)
 | .nilp=>isPtrT d fun _=>(match y with | .nilp=>k true | .ptr _ _=>k false|_=>false)
 | .ptr i o=>isPtrT d fun e=>(match y with | .nilp=>k false | .ptr j q=>ask (Nat.beq i j) (szK P e fun s=>ife (Nat.beq s 0) false (boolK (Nat.beq o q) k))|_=>false)
 | .nils=>isSliceT d fun _=>(match y with | .nils=>k true | .sl _ _ _ _=>k false | .slx _ _ _ _=>k false | .sly _ _ _ _=>k false|_=>false)
 | .sl _ _ _ _=>isSliceT d fun _=>(match y with | .nils=>k false|_=>false)
 | .slx _ _ _ _=>isSliceT d fun _=>(match y with | .nils=>k false|_=>false)
 | .sly _ _ _ _=>isSliceT d fun _=>(match y with | .nils=>k false|_=>false)
 | .nilm=>isMapT d (match y with | .nilm=>k true | .map _=>k false|_=>false)
 | .map _=>isMapT d (match y with | .nilm=>k false|_=>false)
 | .nilf=>isFuncT d (match y with | .nilf=>k true | .fn _ _ _=>k false|_=>false)
 | .fn _ _ _=>isFuncT d (match y with | .nilf=>k false|_=>false)
 | .nili=>isIfaceT d (match y with | .nili=>ask c (k true) | .ifc _ _=>k false|_=>false)
 | .ifc _ _=>isIfaceT d (match y with | .nili=>k false|_=>false)
 | .agg a=>qAgg y fun b=>isArrT d fun n e=>ask (Nat.beq (List.length a) n) (ask (Nat.beq (List.length b) n) (tyK P e fun de=>isIntT de fun i=>ask (kEq i .u8) (szK P e fun s=>ask (Nat.beq s 1) (ife (P.eqGuardType P.depth t) false (intsK a fun l=>intsK b fun m=>boolK (sEq l m) k)))))
 | _=>false
def EqV(P:Program)(c:Bool)(t:TypeId)(x y:AV)(b:Bool):Prop:=∀(r:Ren) (u v:Value) (w:World),real r x=some u→real r y=some v→(Op.equal t u v).run P w = .ok b w∧(c=true∨u≠.nilIface∨v≠.nilIface)∧((∀q,u≠.agg q)∨P.eqGuardType P.depth t=false)∧(∀i n,u≠.int i n)∧(∀s,u≠.string s)∧(∀i n,u≠.float i n)∧(∀i n m,u≠.complex i n m)
end
end Go.Proofs.YtbhbdeelpopgoaaGreatDoor.E

namespace Go.Proofs.YtbhbdeelpopgoaaGreatDoor.H
open Go.RowKit
section
variable {M : Option (Option Nat)} {P : Program} {ops : Array Oper} {Q : Post} {rest : List Oper} {f : Fr} {w : World} {d : Nat} {ty : TypeId} {pos : String} {af : Array Edge} {K : Fr → World → Prop}
theorem CL.done(h:Q .normal f w):CL M P Q [] f w:=h
theorem Ex.then{x:Nat}(h:Q (.exit x) f w):thenK K Q (.exit x) f w:=h
theorem Ex.hit{x:Nat}(h:K f w):blockQ x K Q (.exit x) f w:=by simp only[blockQ,beq_self]; exact h
theorem Ex.miss{x y:Nat}(hb:Nat.beq x y=false)(h:Q (.exit x) f w):blockQ y K Q (.exit x) f w:=by simp only[blockQ,hb]; exact h
theorem Rt.then(h:Q .ret f w):thenK K Q .ret f w:=h
theorem Rt.block{x:Nat}(h:Q .ret f w):blockQ x K Q .ret f w:=h
theorem Nm.then(h:K f w):thenK K Q .normal f w:=h
theorem Nm.block{x:Nat}(h:K f w):blockQ x K Q .normal f w:=h
theorem RW.nilw{cs:List Code}(l:List Nat)(h:CL M P Q cs ⟨f.n,f.ds,keep l f.e⟩ w):RW M P ops (thenK (CL M P Q cs) Q) [] f w:=
 fun _ ha=>lwp_nil ⟨_,ha.weaken (look_keep l f.e),h⟩
theorem RW.part{o:Oper}{j t:Nat}{b:Bool}{p:Prop}{_:Decidable p}(_hg:o.guard=some (j,b))(_hj:(ops[j]?).bind (·.dst)=some t)(hv:look f.e t=some (.bool (decide p)))
  (h1:p→RW M P ops Q (o::rest) (f.put t (.bool true)) w) (h2 : ¬p→RW M P ops Q (o::rest) (f.put t (.bool false)) w):RW M P ops Q (o::rest) f w:=RW.splitP hv h1 h2
theorem Y.convN{s t:TypeId}{x:Operand}{k k1:IntKind}{a:Int}{ds:TypeDesc}[hs:Und P s ds][h1:Und P t (.int k)](hx:f.ev x=some (.int k1 a))(hk:k.wrap a=a):Yd P f (op1 d (.convert s t x) ty pos af) (.int k a) w:=by
 have h:=Y.conv (P:=P) (w:=w) (d:=d) (ty:=ty) (pos:=pos) (af:=af) (s:=s) (t:=t) hx (by rw[hs.out]; rfl)
 rw[hk] at h
 exact h
def looks(e:List (Nat×Value)):List Nat→Option (List Value)
 | []=>some []
 | t::r=>match look e t with
  | some v=>match looks e r with
   | some l=>some (v::l)
   | none=>none
  | none=>none
theorem looks_zip(e:List (Nat×Value)): ∀(l:List Nat) (vals:List Value),looks e l=some vals→∀t v,look (l.zip vals) t=some v→look e t=some v:=by
 intro l
 induction l with
 | nil=>intro vals _ t v hv; simp[look] at hv
 | cons k r ih=>
  intro vals h t v hv
  simp only[looks] at h
  cases hk:look e k with
  | none=>simp[hk] at h
  | some u=>
   cases hr:looks e r with
   | none=>simp[hk,hr] at h
   | some l'=>
    simp only[hk,hr,Option.some.injEq] at h
    subst h
    simp only[List.zip_cons_cons,look] at hv
    by_cases hkt:k=t
    ·subst hkt; rw[beq_self] at hv; simp only at hv; rw[hk]; exact hv
    ·rw[beq_ne hkt] at hv; exact ih l' hr t v hv
theorem CL.loopS{cs:List Code}{c:Code}(l:List Nat)(I:Nat→List Value→World→Prop)(m:Nat)(h0 : ∃vals,looks f.e l=some vals∧I m vals w)
  (round : ∀m vals w,I m vals w→CL M P (thenK (fun f' w'=>∃m' vals',looks f'.e l=some vals'∧f'.n=f.n∧f'.ds=f.ds∧m' < m∧I m' vals' w') Q) [c] ⟨f.n,f.ds,l.zip vals⟩ w):CL M P Q (.loop c::cs) f w:=by
 obtain⟨vals,hv,hi⟩:=h0
 have hl:CL M P Q (.loop c::cs) ⟨f.n,f.ds,l.zip vals⟩ w:=by
  refine CL.loop (fun m f' w'=>∃vals',f'=⟨f.n,f.ds,l.zip vals'⟩∧I m vals' w') m ⟨vals,rfl,hi⟩ fun m f' w' ⟨vals',hf,hi'⟩=>?_
  subst hf
  intro a ha
  refine cwp_mono (round m vals' w' hi' a ha) fun x a' w2 q=>?_
  obtain⟨f2,hf2,q⟩:=q
  cases x with
  | normal=>
   obtain⟨m',v2,h1,hn,hds,h2,h3⟩:=q
   refine⟨⟨f2.n,f2.ds,l.zip v2⟩,hf2.weaken (looks_zip f2.e l v2 h1),?_⟩
   rw[hn,hds]
   exact⟨m',h2,v2,rfl,h3⟩
  | _=>exact⟨f2,hf2,q⟩
 exact fun a ha=>hl a (ha.weaken (looks_zip f.e l vals hv))
theorem Y.idx{t e:TypeId}{z:Value}{sz b:Nat}[ht:Und P t (.slice e)][Inf P e z sz b]{x y:Operand}{k:IntKind}{v:Value}{i:Int}{n:Nat}{xs:List Value}(hx:f.ev x=some v)(hy:f.ev y=some (.int k i))(hs:Sl w sz v n xs)(h0:0≤i)(h1:i < n):Yd P f (op1 d (.indexAddr t x y) ty pos af) (.pointer (some (Value.spot v (i.toNat * sz)))) w:=by
 intro a ha
 have hsz:=run_sizeOf (P:=P) (t:=e) w
 rcases hs.2.2 with ⟨_,rfl,h⟩|⟨g,off,cap,cur,e',fz,rfl,_⟩
 ·omega
 ·simp[execOp,ha.eval hx,ha.eval hy,Instr.indexAt,asIntOf,run_underlying ht.out,h0,h1,hsz,Value.spot]
theorem RW.elem{t e t2 ty2:TypeId}{pos2:String}{af2:Array Edge}{d1:Nat}{z:Value}{b:Nat}[ht:Und P t (.slice e)][Inf P e z 1 b][One P t2]{x y:Operand}{k:IntKind}{v u:Value}{i:Int}{n:Nat}{xs:List Value}(hx:f.ev x=some v)(hy:f.ev y=some (.int k i))(hd:Nat.blt d f.n=true)(hd1:Nat.blt d1 f.n=true)
  (hs:Sl w 1 v n xs) (h0:0≤i) (h1:i < n) (hu:xs[i.toNat]?=some u)
  (kk:RW M P ops Q rest ((f.put d (.pointer (some (Value.spot v (i.toNat * 1))))).put d1 u) w):RW M P ops Q (op1 d (.indexAddr t x y) ty pos af::op1 d1 (.load t2 (.tmp d)) ty2 pos2 af2::rest) f w:=by
 refine RW.y (Y.idx hx hy hs h0 h1) hd (RW.y (Y.load1 (a:=Value.spot v (i.toNat * 1)) ?_ (by rw[Nat.mul_one]; exact hs.cell hu)) hd1 kk)
 simp[Fr.ev,Fr.put,look]
theorem RW.elemB{t e t2 ty2:TypeId}{pos2:String}{af2:Array Edge}{d1:Nat}{z:Value}{b:Nat}[ht:Und P t (.slice e)][Inf P e z 1 b][One P t2]{x y:Operand}{k:IntKind}{v:Value}{i:Int}{n:Nat}{l:List UInt8}(hx:f.ev x=some v)(hy:f.ev y=some (.int k i))(hd:Nat.blt d f.n=true)(hd1:Nat.blt d1 f.n=true)
  (hs:Sl w 1 v n (bv l)) (h0:0≤i) (h1:i < l.length)
  (kk:RW M P ops Q rest ((f.put d (.pointer (some (Value.spot v (i.toNat * 1))))).put d1 (vb (l.getD i.toNat 0))) w):RW M P ops Q (op1 d (.indexAddr t x y) ty pos af::op1 d1 (.load t2 (.tmp d)) ty2 pos2 af2::rest) f w:=by
 have hn:n=l.length:=by have:=hs.1; simpa using this.symm
 have hlt:i.toNat < l.length:=by omega
 refine RW.elem hx hy hd hd1 hs h0 (by omega) ?_ kk
 simp[hlt]
theorem RW.elemS{t e t2 ty2:TypeId}{pos2:String}{af2:Array Edge}{d1:Nat}{z:Value}{b:Nat}[ht:Und P t (.slice e)][Inf P e z 1 b][One P t2]{x y:Operand}{k:IntKind}{v:Value}{i:Int}{n:Nat}{l:List (List UInt8)}(hx:f.ev x=some v)(hy:f.ev y=some (.int k i))(hd:Nat.blt d f.n=true)(hd1:Nat.blt d1 f.n=true)
  (hs:Sl w 1 v n (sv l)) (h0:0≤i) (h1:i < l.length)
  (kk:RW M P ops Q rest ((f.put d (.pointer (some (Value.spot v (i.toNat * 1))))).put d1 (vs (l.getD i.toNat []))) w):RW M P ops Q (op1 d (.indexAddr t x y) ty pos af::op1 d1 (.load t2 (.tmp d)) ty2 pos2 af2::rest) f w:=by
 have hn:n=l.length:=by have:=hs.1; simpa using this.symm
 have hlt:i.toNat < l.length:=by omega
 refine RW.elem hx hy hd hd1 hs h0 (by omega) ?_ kk
 simp[hlt]
end
end Go.Proofs.YtbhbdeelpopgoaaGreatDoor.H

namespace Go.Proofs.YtbhbdeelpopgoaaGreatDoor.H
open Go.RowKit
class PI (Q:Post):Prop where out : ∀c f g w,f.ds=g.ds→Q (.panic c) f w→Q (.panic c) g w
instance {P:Program} {fn:Func} {R:Ending→World→Prop}:PI (FQ P fn R):=⟨fun _ _ _ _ hd h=>⟨hd▸h.1,h.2⟩⟩
instance {K:Fr→World→Prop} {Q:Post} [h:PI Q]:PI (thenK K Q):=⟨fun c f g w hd hq=>h.out c f g w hd hq⟩
instance {k:Nat} {K:Fr→World→Prop} {Q:Post} [h:PI Q]:PI (blockQ k K Q):=⟨fun c f g w hd hq=>h.out c f g w hd hq⟩
theorem PI.lift{Q:Post}[h:PI Q](d:Option Tmp)(v:Value): ∀c a w,lift Q (.panic c) (a.put d v) w→lift Q (.panic c) a w:=by
 intro c a w ⟨f,hf,hq⟩
 have hds:a.defers=f.ds:=by
  have:=hf.defers
  cases d <;> exact this
 refine⟨⟨a.tmps.size,a.defers,[]⟩,⟨rfl,rfl,fun t v hv=>by simp[look] at hv⟩,h.out c f _ w hds.symm hq⟩
section
variable {P : Program} {ops : Array Oper} {Q : Post} {f : Fr} {w : World} {S : World → Prop}
def AW(P:Program)(ops:Array Oper)(Q:Post)(S:World→Prop)(n:Nat)(l:Array Bool)(f:Fr)(w:World):Prop:=∀a,Ag f a→wpAnyH P .any ops (lift Q) S n l a w
theorem CL.draw{cs:List Code}{id:Nat}(S:World→Prop)(hm:P.follows .mixedOrders=true)(h : ∀w',w'.heap=w.heap→K0 w w'→AW P ops (thenK (CL none P Q cs) Q) S ops.size (Array.replicate ops.size false) f w'):CL none P Q (.region id ops true::cs) f w:=
 fun a ha=>wp_region_held hm (h {w with drawn:=w.drawn+1} rfl (Kept.drew w) a ha)
theorem AW.take(i:Nat){op:Op}{ty:TypeId}{pos:String}{af:Array Edge}{d:Nat}{v:Value}{n:Nat}{l:Array Bool}(hi:ops[i]?=some {dst:=some d,op:=op,type:=ty,pos:=pos,after:=af,guard:=none})(hs:Region.noSelect ops=true)(hf:Region.free .any ops l i=true)(hr:(Region.ready .any ops l).contains i=true)
  [PI Q] (hd:Nat.blt d f.n=true) (hS:S w) (hy : ∀w,S w→Yd P f {dst:=some d,op:=op,type:=ty,pos:=pos,after:=af,guard:=none} v w) (k:AW P ops Q S n (l.setIfInBounds i true) (f.put d v) w):AW P ops Q S (n+1) l f w:=by
 intro a ha
 exact wpAnyH_take hi hs hf hr (PI.lift _ _) (.inl ⟨by simp[Region.wanted],fun w' hw'=>hy w' hw' a ha⟩) hS (k _ (ha.put v hd))
theorem AW.takeOn(i:Nat){op:Op}{ty:TypeId}{pos:String}{af:Array Edge}{d j t:Nat}{b:Bool}{v:Value}{n:Nat}{l:Array Bool}(hi:ops[i]?=some {dst:=some d,op:=op,type:=ty,pos:=pos,after:=af,guard:=some (j,b)})(hs:Region.noSelect ops=true)(hf:Region.free .any ops l i=true)(hr:(Region.ready .any ops l).contains i=true)
  [PI Q] (hj:(ops[j]?).bind (·.dst)=some t) (hn:Nat.blt t f.n=true) (hv:look f.e t=some (.bool b)) (hd:Nat.blt d f.n=true) (hS:S w) (hy : ∀w,S w→Yd P f {dst:=some d,op:=op,type:=ty,pos:=pos,after:=af,guard:=none} v w) (k:AW P ops Q S n (l.setIfInBounds i true) (f.put d v) w):AW P ops Q S (n+1) l f w:=by
 intro a ha
 exact wpAnyH_take hi hs hf hr (PI.lift _ _) (.inl ⟨by simp[Region.wanted,yields ha hj hn hv],fun w' hw'=>hy w' hw' a ha⟩) hS (k _ (ha.put v hd))
theorem AW.takeOff(i:Nat){op:Op}{ty:TypeId}{pos:String}{af:Array Edge}{d j t:Nat}{b c:Bool}{n:Nat}{l:Array Bool}(hi:ops[i]?=some {dst:=some d,op:=op,type:=ty,pos:=pos,after:=af,guard:=some (j,b)})(hs:Region.noSelect ops=true)(hf:Region.free .any ops l i=true)(hr:(Region.ready .any ops l).contains i=true)
  [PI Q] (hj:(ops[j]?).bind (·.dst)=some t) (hn:Nat.blt t f.n=true) (hv:look f.e t=some (.bool c)) (hbc:(!c)=b) (hd:Nat.blt d f.n=true) (hS:S w) (k:AW P ops Q S n (l.setIfInBounds i true) (f.put d undef) w):AW P ops Q S (n+1) l f w:=by
 intro a ha
 subst hbc
 exact wpAnyH_take hi hs hf hr (PI.lift _ _) (.inr ⟨by cases c <;> simp[Region.wanted,yields ha hj hn hv],rfl⟩) hS (k _ (ha.put undef hd))
theorem AW.donew{cs:List Code}{n:Nat}{l:Array Bool}(g:List Nat)(hr:Region.ready .any ops l=[])(h:CL none P Q cs ⟨f.n,f.ds,keep g f.e⟩ w):AW P ops (thenK (CL none P Q cs) Q) S n l f w:=
 fun _ ha=>wpAnyH_done hr ⟨_,ha.weaken (look_keep g f.e),h⟩ _
theorem held_mono{S S':World→Prop}(h : ∀w,S' w→S w){md:Region.Mode}{Q:Exit→Act→World→Prop}: ∀(n:Nat) (l:Array Bool) (a:Act) (w:World),wpAnyH P md ops Q S' n l a w→wpAnyH P md ops Q S n l a w
 | 0,_,_,_,hh=>hh
 | n+1,_,_,_,hh=>⟨hh.1,fun i hi=>wpOp_mono (fun a' w' hk=>⟨h w' hk.1,held_mono h n _ a' w' hk.2⟩) (hh.2 i hi)⟩
theorem AW.more{S':World→Prop}(h : ∀w,S' w→S w){n:Nat}{l:Array Bool}(k:AW P ops Q S' n l f w):AW P ops Q S n l f w:=
 fun a ha=>held_mono h n l a w (k a ha)
theorem oper_mono{o:Oper}{a:Act}{K K':Act→World→Prop}{Q Q':Exit→Act→World→Prop}(h : ∀a w,K a w→K' a w)(hq : ∀c a w,Q (.panic c) a w→Q' (.panic c) a w)(ho : ∀a w,Q .outgrown a w→Q' .outgrown a w){w:World}(hh:o.wp P a w K Q):o.wp P a w K' Q':=by
 unfold Oper.wp at *
 generalize (execOp a.eval o).run P w=r at *
 match r,hh with
 | .ok (.value v) w',hh=>exact h _ _ hh
 | .ok .skip w',hh=>exact h _ _ hh
 | .ok (.defer d) w',hh=>exact h _ _ hh
 | .ok (.enter f args) w',hh=>
  refine Calls.mono hh fun e w'' he=>?_
  cases e with
  | returned v=>exact h _ _ he
  | panicked c=>exact hq _ _ _ he
  | outgrown=>obtain⟨a0,w0,h0⟩:=he; exact⟨a0,w0,ho _ _ h0⟩
 | .ok (.row row args) w',hh=>exact Rows.mono hh fun v w'' he=>h _ _ he
 | .halt (.panic v) w',hh=>exact hq _ _ _ hh
theorem AW.next(i:Nat){o:Oper}{n:Nat}{l:Array Bool}(hi:ops[i]?=some o)(hr:Region.ready .any ops l=[i])(k:RW none P ops (thenK (fun f w=>S w∧AW P ops Q S n (l.setIfInBounds i true) f w) Q) [o] f w):AW P ops Q S (n+1) l f w:=by
 intro a ha
 refine wpAnyH_all hr (by simp) fun j hj=>?_
 rw[List.mem_singleton.1 hj]
 have h:wpList P ops _ [o] a w:=k a ha
 unfold wpList at h
 unfold wpOp
 simp only[hi]
 have hq : ∀x a w,lift (thenK (fun f w=>S w∧AW P ops Q S n (l.setIfInBounds i true) f w) Q) x a w→match x with
   | .normal=>S w∧wpAnyH P .any ops (lift Q) S n (l.setIfInBounds i true) a w
   | x=>lift Q x a w:=by
  intro x a w ⟨g,hg,q⟩
  cases x with
  | normal=>exact⟨q.1,q.2 a hg⟩
  | _=>exact⟨g,hg,q⟩
 by_cases hw:Region.wanted o (yielded ops a.tmps)=true
 ·rw[if_pos hw] at h
  simp only[hw,if_true]
  rcases h with h|⟨h1,a0,w0,h2⟩
  ·left
   exact oper_mono (fun a w hk=>hq .normal a w hk) (fun c a w hk=>hq (.panic c) a w hk) (fun a w hk=>hq .outgrown a w hk) h
  ·exact .inr ⟨h1,a0,w0,hq .outgrown a0 w0 h2⟩
 ·rw[if_neg hw] at h
  simp only[hw,if_false,Bool.false_eq_true]
  exact hq .normal _ _ h
end
end Go.Proofs.YtbhbdeelpopgoaaGreatDoor.H

namespace Go.Proofs.YtbhbdeelpopgoaaGreatDoor.H
open Go.RowKit
section
variable {M : Option (Option Nat)} {P : Program} {ops : Array Oper} {Q : Post} {rest : List Oper} {f : Fr} {w : World} {d : Nat} {ty : TypeId} {pos : String} {af : Array Edge}
theorem Sl.one{sz:Nat}{v:Value}{n:Nat}{xs:List Value}(h:Sl w sz v n xs):v.oneCell'=true:=by
 obtain⟨p,cap,rfl,_⟩:=h.shape; rfl
theorem Sl.shape'{sz:Nat}{v:Value}{n:Nat}{xs:List Value}(h:Sl w sz v n xs): ∃p cap,v = .slice p n cap:=by
 obtain⟨p,cap,hv,_⟩:=h.shape; exact⟨p,cap,hv⟩
theorem und_pointee{t e:TypeId}[h:Und P t (.pointer e)]:P.underlying t=some (.pointer (P.pointee t)):=by
 have:=h.out
 unfold Program.pointee
 rw[this]
theorem Y.eqpn{t e yt:TypeId}[h:Und P t (.pointer e)]{x y:Operand}{p:Option Addr}(hx:f.ev x=some (.pointer p))(hy:f.ev y=some (.pointer none)):Yd P f (op1 d (.binOp .eql t x y yt) ty pos af) (.bool p.isNone) w:=
 Y.bin hx hy (by simp) (by simp) (run_eql_pointer_nil w t p und_pointee)
theorem Y.eqsn{t e yt:TypeId}[h:Und P t (.slice e)]{x y:Operand}{p:Option Addr}{n c:Nat}(hx:f.ev x=some (.slice p n c))(hy:f.ev y=some (.slice none 0 0)):Yd P f (op1 d (.binOp .eql t x y yt) ty pos af) (.bool p.isNone) w:=
 Y.bin hx hy (by simp) (by simp) (Lib.run_eql_slice_nil w t e p n c 0 0 h.out)
theorem Y.lenx{t e:TypeId}[ht:Und P t (.slice e)]{x:Operand}{v:Value}{sz n:Nat}{xs:List Value}(hx:f.ev x=some v)(h:Sl w sz v n xs):Yd P f (op1 d (.call {callee:= .builtin .len,args:=#[x],argTypes:=#[t]}) ty pos af) (.int .i64 (n:Int)) w:=by
 obtain⟨p,cap,rfl⟩:=h.shape'
 exact Y.lenv hx
theorem RW.elemM{α:Type}[Inhabited α]{t e t2 ty2:TypeId}{pos2:String}{af2:Array Edge}{d1:Nat}{z:Value}{b:Nat}[ht:Und P t (.slice e)][Inf P e z 1 b][One P t2]{x y:Operand}{k:IntKind}{v:Value}{i:Int}{n:Nat}{l:List α}{enc:α→Value}(hx:f.ev x=some v)(hy:f.ev y=some (.int k i))(hd:Nat.blt d f.n=true)(hd1:Nat.blt d1 f.n=true)
  (hs:Sl w 1 v n (l.map enc)) (h0:0≤i) (h1:i < l.length)
  (kk:RW M P ops Q rest ((f.put d (.pointer (some (Value.spot v (i.toNat * 1))))).put d1 (enc (l.getD i.toNat default))) w):RW M P ops Q (op1 d (.indexAddr t x y) ty pos af::op1 d1 (.load t2 (.tmp d)) ty2 pos2 af2::rest) f w:=by
 have hn:n=l.length:=by have:=hs.1; simpa using this.symm
 have hlt:i.toNat < l.length:=by omega
 refine RW.elem hx hy hd hd1 hs h0 (by omega) ?_ kk
 simp[hlt]
class StructT (P:Program) (t:TypeId) (pl:outParam (Array (Nat×Nat))) (z:outParam (Array Value)):Prop where
 out : ∀w parts,(Instr.build t parts).run P w=match Instr.fill (pl[·]?) z parts.toList with
  | some c=> .ok (.agg c) w
  | none=> .halt (.stuck "build: no such field, or a part of the wrong size") w
theorem StructT.of{t:TypeId}{fs:Array Field}(h:P.underlying t=some (.struct fs)){zv:Value}{sz b:Nat}[Inf P t zv sz b]{pl:Array (Nat×Nat)}{z:Array Value}(hz:zv.cells=z)
  (hm : ∀w,(fs.mapM (fun(x:Field)=>(do pure (x.offset,←sizeOf x.type):Sem (Nat×Nat)))).run P w = .ok pl w):StructT P t pl z:=
 ⟨fun w parts=>by
  have h2:=run_zeroValue (P:=P) (t:=t) w
  simp only[Instr.build,Sem.run_bind,h2,Result.andThen_ok,hz,run_underlying h,hm]
  cases Instr.fill (pl[·]?) z parts.toList <;> rfl⟩
theorem Y.build{t:TypeId}{pl:Array (Nat×Nat)}{z:Array Value}[h:StructT P t pl z]{ps:List (Nat×Operand)}{l:List Value}{c:Array Value}(hx:f.evs (ps.map (·.2))=some l)(hc:Instr.fill (pl[·]?) z ((ps.map (·.1)).zip l)=some c):
  Yd P f (op1 d (.build t ps.toArray) ty pos af) (.agg c) w:=by
 intro a ha
 have he:=ha.evs _ _ hx
 have hp:(ps.toArray.map fun(i,x)=>(i,a.eval x)).toList=(ps.map (·.1)).zip l:=by
  rw[←he]
  simp only[List.map_toArray,List.map_map,List.zip_map',Function.comp_def]
 simp only[execOp,Sem.run_bind,h.out,hp,hc]
 rfl
theorem fill_nil(pl:Nat→Option (Nat×Nat))(c:Array Value):Instr.fill pl c []=some c:=rfl
theorem Y.makeFunc{fn:Fn}{xs ys:List Operand}{l l':List Value}(hx:f.evs xs=some l)(hy:f.evs ys=some l'):Yd P f (op1 d (.makeFunc fn xs.toArray ys.toArray) ty pos af) (.func fn l.toArray l'.toArray) w:=by
 intro a ha
 simp[execOp,Instr.makeFunc,ha.evs xs l hx,ha.evs ys l' hy]
theorem RW.fnv{k:FuncId}[he:Ent P k]{x:Operand}{xs:List Operand}{l cap:List Value}{at':Array TypeId}(hf:f.ev x=some (.func (.func k) #[] cap.toArray))(hv:f.evs xs=some l)(hd:Nat.blt d f.n=true)(h:Calls P k (l++cap).toArray w (After M P ops Q rest f d)):
  RW M P ops Q (op1 d (.call {callee:= .value x,args:=xs.toArray,argTypes:=at'}) ty pos af::rest) f w:=by
 refine RW.call (args:=(l++cap).toArray) rfl hd (fun a ha=>?_) h fun e w' hR=>by cases e <;> exact hR
 simp[execOp,resolve,ha.eval hf,Deferred.ofValue,invoke,he.out,ha.evs xs l hv]
class Conc (P:Program) (t:TypeId):Prop where out:P.concrete t=true
theorem Y.iface{t:TypeId}[h:Conc P t]{x:Operand}{v:Value}(hx:f.ev x=some v):Yd P f (op1 d (.makeInterface t x) ty pos af) (.iface t v) w:=by
 intro a ha
 have:=run_makeInterface (P:=P) w t v h.out
 simp[execOp,ha.eval hx,this]
theorem RW.defer{x:Operand}{xs:List Operand}{l:List Value}{at':Array TypeId}{fn:Fn}{fst cap:Array Value}(hf:f.ev x=some (.func fn fst cap))(hv:f.evs xs=some l)
  (k:RW none P ops Q rest ⟨f.n,{target:= .fn fn cap,args:=fst++l.toArray}::f.ds,f.e⟩ w):RW none P ops Q (op0 (.defer {callee:= .value x,args:=xs.toArray,argTypes:=at'}) ty pos af::rest) f w:=by
 intro a ha
 refine wpList_plain rfl fun K hK=>?_
 unfold Oper.wp
 have:(execOp a.eval (op0 (.defer {callee:= .value x,args:=xs.toArray,argTypes:=at'}) ty pos af)).run P w = .ok (.defer {target:= .fn fn cap,args:=fst++l.toArray}) w:=by
  simp[execOp,resolve,ha.eval hf,Deferred.ofValue,ha.evs xs l hv]
 rw[this]
 exact hK _ _ (k _ ⟨ha.size,by simp[Act.put,ha.defers],ha.slot⟩)
def DQ(P:Program)(fn:Func)(R:Ending→World→Prop):Post
 | .normal,f,w | .ret,f,w=>∀a,Ag f a→Leaves P fn a.tmps R f.ds .returning w
 | .panic chain,f,w=>∀a,Ag f a→Leaves P fn a.tmps R f.ds (.panicking chain) w
 | _,_,_=>False
theorem enterD{k n:Nat}{fn:Func}{c:Code}{l:List Value}{R:Ending→World→Prop}(hf:P.funcs[k]?=some fn)(hn:fn.ntmps=n)(hb:fn.body=some c)
  (hl:Nat.ble l.length n=true) (h:CL none P (DQ P fn R) [c] ⟨n,[],args 0 l⟩ w):Calls P k l.toArray w R:=by
 refine calls_of_wp_defers hf hb (wp_mono (CL.one h _ ⟨?_,rfl,?_⟩) fun e a w q=>?_)
 ·have:=ble_le hl
  simp[hn]; omega
 ·intro t v hv
  obtain⟨_,h2⟩:=look_args l 0 t v hv
  rw[Nat.sub_zero] at h2
  have hlt:t < l.length:=(List.getElem?_eq_some_iff.1 h2).1
  simp only[Array.getD_eq_getD_getElem?]
  rw[Array.getElem?_append_left (by simpa using hlt)]
  simp[h2]
 ·obtain⟨f,hf',q⟩:=q
  cases e with
  | normal=>show Leaves _ _ _ _ _ _ _; rw[hf'.defers]; exact q a hf'
  | ret=>show Leaves _ _ _ _ _ _ _; rw[hf'.defers]; exact q a hf'
  | panic ch=>show Leaves _ _ _ _ _ _ _; rw[hf'.defers]; exact q a hf'
  | exit k=>exact q.elim
  | goto l=>exact q.elim
  | outgrown=>exact q.elim
theorem Y.load1A{t:TypeId}[h:One P t]{x:Operand}{g o:Nat}{v:Value}(hx:f.ev x=some (.pointer (some ⟨g,o,none⟩)))(hc:w.cell? ⟨g,o,none⟩=some v):Yd P f (op1 d (.load t x) ty pos af) v w:=Y.load1 hx hc
theorem AW.split{S:World→Prop}{n:Nat}{l:Array Bool}{t:Nat}{a:Bool}(hv:look f.e t=some (.bool a))(h1:a=true→AW P ops Q S n l (f.put t (.bool true)) w)(h2:a=false→AW P ops Q S n l (f.put t (.bool false)) w):AW P ops Q S n l f w:=by
 have key : ∀c,a=c→∀x,Ag f x→Ag (f.put t (.bool c)) x:=by
  intro c hc x hx
  refine⟨hx.size,hx.defers,fun s v hs=>?_⟩
  simp only[Fr.put,look] at hs
  by_cases hk:t=s
  ·subst hk; rw[beq_self] at hs; simp only[Option.some.injEq] at hs; rw[←hs,←hc]; exact hx.slot t _ hv
  ·rw[beq_ne hk] at hs; exact hx.slot s v hs
 intro x hx
 cases a with
 | true=>exact h1 rfl x (key _ rfl x hx)
 | false=>exact h2 rfl x (key _ rfl x hx)
end
end Go.Proofs.YtbhbdeelpopgoaaGreatDoor.H

namespace Go.Proofs.YtbhbdeelpopgoaaGreatDoor.E
open Go Go.RowKit H
theorem eqItems_bytes{P:Program}{w:World}{e:TypeId}(he:P.underlying e=some (.int .u8))(l m:List UInt8)(d:Nat): ∀is:List Nat,(∀i∈is,i < l.length∧i < m.length)→(Op.eqItems (d+1) e 1 (bv l).toArray (bv m).toArray is).run P w = .ok (is.all fun i=>l.getD i 0 == m.getD i 0) w
 | [],_=>by simp[Op.eqItems]
 | i::is,h=>by
  have hi:=h i (by simp)
  have hx:(bv l).toArray[i * 1]?=some (vb (l.getD i 0)):=by simp[List.getElem?_eq_getElem hi.1,List.getD_eq_getElem?_getD]
  have hy:(bv m).toArray[i * 1]?=some (vb (m.getD i 0)):=by simp[List.getElem?_eq_getElem hi.2,List.getD_eq_getElem?_getD]
  have hp:P.plainKey e=true:=by simp[Program.plainKey,he]
  have h1:=run_part_plain (P:=P) (w:=w) hp (xs:=(bv l).toArray) (off:=i * 1) hx
  have h1':=run_part_plain (P:=P) (w:=w) hp (xs:=(bv m).toArray) (off:=i * 1) hy
  have h2:=eqItems_bytes (w:=w) he l m d is (fun j hj=>h j (by simp[hj]))
  simp only[Op.eqItems,Sem.run_bind,h1,h1',Result.andThen_ok,Op.equalIn,run_underlying he,List.all_cons]
  by_cases hc:l.getD i 0=m.getD i 0
  ·have hc':l[i]?.getD 0=m[i]?.getD 0:=by simpa [List.getD_eq_getElem?_getD] using hc
   simp[h2,hc']
  ·have hc' : ¬l[i]?.getD 0=m[i]?.getD 0:=by simpa [List.getD_eq_getElem?_getD] using hc
   have h3 : ¬((l[i]?.getD 0).toNat:Int)=((m[i]?.getD 0).toNat:Int):=fun c=>hc' (UInt8.toNat_inj.1 (by omega))
   have h4:(l[i]?.getD 0 == m[i]?.getD 0)=false:=beq_eq_false_iff_ne.2 hc'
   simp[h2,h3,h4]
theorem all_same(l m:List UInt8)(n:Nat)(hl:l.length=n)(hm:m.length=n):((List.range n).all fun i=>l.getD i 0 == m.getD i 0)=decide (l=m):=by
 by_cases hc:l=m
 ·subst hc; simp
 ·rw[decide_eq_false hc,Bool.eq_false_iff]
  intro h
  rw[List.all_eq_true] at h
  apply hc
  apply List.ext_getElem (by omega)
  intro i h1 h2
  have:=h i (List.mem_range.2 (by omega))
  rw[beq_iff_eq,List.getD_eq_getElem?_getD,List.getD_eq_getElem?_getD,List.getElem?_eq_getElem h1,List.getElem?_eq_getElem h2] at this
  simpa using this
section eqs
variable {P : Program} {t : TypeId} (d : Nat) (w : World)
theorem eq_bool(h:P.underlying t=some .bool)(a b:Bool):(Op.equalIn (d+1) t (.bool a) (.bool b)).run P w = .ok (a == b) w:=by simp[Op.equalIn,run_underlying h]
theorem eq_p0{e:TypeId}(h:P.underlying t=some (.pointer e))(b:Option Addr):(Op.equalIn (d+1) t (.pointer none) (.pointer b)).run P w = .ok b.isNone w:=by simp[Op.equalIn,run_underlying h]
theorem eq_p1{e:TypeId}(h:P.underlying t=some (.pointer e))(b:Addr):(Op.equalIn (d+1) t (.pointer (some b)) (.pointer none)).run P w = .ok false w:=by simp[Op.equalIn,run_underlying h]
theorem eq_pp{e:TypeId}{i:TypeInfo}(h:P.underlying t=some (.pointer e))(hi:P.info? e=some i)(hs:i.size≠0)(g o q:Nat):(Op.equalIn (d+1) t (.pointer (some ⟨g,o,none⟩)) (.pointer (some ⟨g,q,none⟩))).run P w = .ok (decide (o=q)) w:=by
 simp[Op.equalIn,run_underlying h,run_size hi,hs,sameAddr]
 by_cases e:o=q <;> simp[e]
theorem eq_s0{e:TypeId}(h:P.underlying t=some (.slice e))(n c:Nat)(b:Option Addr)(m q:Nat):(Op.equalIn (d+1) t (.slice none n c) (.slice b m q)).run P w = .ok b.isNone w:=by simp[Op.equalIn,run_underlying h]
theorem eq_s1{e:TypeId}(h:P.underlying t=some (.slice e))(a:Addr)(n c m q:Nat):(Op.equalIn (d+1) t (.slice (some a) n c) (.slice none m q)).run P w = .ok false w:=by simp[Op.equalIn,run_underlying h]
theorem eq_m0{e e2:TypeId}(h:P.underlying t=some (.map e e2))(b:Option Nat):(Op.equalIn (d+1) t (.map none) (.map b)).run P w = .ok b.isNone w:=by simp[Op.equalIn,run_underlying h]
theorem eq_m1{e e2:TypeId}(h:P.underlying t=some (.map e e2))(b:Nat):(Op.equalIn (d+1) t (.map (some b)) (.map none)).run P w = .ok false w:=by simp[Op.equalIn,run_underlying h]
theorem eq_f00{a b:Array TypeId}{c:Bool}(h:P.underlying t=some (.func a b c)):(Op.equalIn (d+1) t .nilFunc .nilFunc).run P w = .ok true w:=by simp[Op.equalIn,run_underlying h]
theorem eq_f01{a b:Array TypeId}{c:Bool}(h:P.underlying t=some (.func a b c))(f:Fn)(x y:Array Value):(Op.equalIn (d+1) t .nilFunc (.func f x y)).run P w = .ok false w:=by simp[Op.equalIn,run_underlying h]
theorem eq_f10{a b:Array TypeId}{c:Bool}(h:P.underlying t=some (.func a b c))(f:Fn)(x y:Array Value):(Op.equalIn (d+1) t (.func f x y) .nilFunc).run P w = .ok false w:=by simp[Op.equalIn,run_underlying h]
theorem eq_i00{m:Array (String×TypeId)}(h:P.underlying t=some (.interface m)):(Op.equalIn (d+1) t .nilIface .nilIface).run P w = .ok true w:=by simp[Op.equalIn,run_underlying h]
theorem eq_i01{m:Array (String×TypeId)}(h:P.underlying t=some (.interface m))(u:TypeId)(v:Value):(Op.equalIn (d+1) t .nilIface (.iface u v)).run P w = .ok false w:=by simp[Op.equalIn,run_underlying h]
theorem eq_i10{m:Array (String×TypeId)}(h:P.underlying t=some (.interface m))(u:TypeId)(v:Value):(Op.equalIn (d+1) t (.iface u v) .nilIface).run P w = .ok false w:=by simp[Op.equalIn,run_underlying h]
end eqs
section
variable {P : Program} {fl : Nat}
theorem real_ptr{r:Ren}{i o:Nat}{u:Value}(h:real r (.ptr i o)=some u): ∃p,r i=some p∧u = .pointer (some ⟨p.1,o,none⟩):=by
 simp only[real,Option.map_eq_some_iff] at h
 obtain⟨p,h,rfl⟩:=h; exact⟨p,h,rfl⟩
theorem real_sl{r:Ren}{i o n c:Nat}{u:Value}(h:real r (.sl i o n c)=some u): ∃p,r i=some p∧u = .slice (some ⟨p.1,o,none⟩) n c:=by
 simp only[real,Option.map_eq_some_iff] at h
 obtain⟨p,h,rfl⟩:=h; exact⟨p,h,rfl⟩
theorem real_slx{r:Ren}{i o n z:Nat}{u:Value}(h:real r (.slx i o n z)=some u): ∃p,r i=some p∧0 < z∧o+n * z≤p.2∧(p.2 - o) / z≤maxLen∧u = .slice (some ⟨p.1,o,none⟩) n ((p.2 - o) / z):=by
 simp only[real,Option.bind_eq_some_iff] at h
 obtain⟨p,h,e⟩:=h
 split at e
 ·rename_i c; cases e; exact⟨p,h,c.1,c.2.1,c.2.2,rfl⟩
 ·cases e
theorem real_sly{r:Ren}{i o l z:Nat}{u:Value}(h:real r (.sly i o l z)=some u): ∃q c,u = .slice (some q) 0 c:=by
 simp only[real,Option.bind_eq_some_iff] at h
 obtain⟨p,h,e⟩:=h
 split at e
 ·cases e; exact⟨_,_,rfl⟩
 ·cases e
theorem real_map{r:Ren}{i:Nat}{u:Value}(h:real r (.map i)=some u): ∃p,r i=some p∧u = .map (some p.1):=by
 simp only[real,Option.map_eq_some_iff] at h
 obtain⟨p,h,rfl⟩:=h; exact⟨p,h,rfl⟩
theorem real_agg{r:Ren}{l:List AV}{u:Value}(h:real r (.agg l)=some u): ∃us,reals r l=some us∧u = .agg us.toArray:=by
 simp only[real,Option.map_eq_some_iff] at h
 obtain⟨p,h,rfl⟩:=h; exact⟨p,h,rfl⟩
theorem real_tup{r:Ren}{l:List AV}{u:Value}(h:real r (.tup l)=some u): ∃us,reals r l=some us∧u = .tuple us.toArray:=by
 simp only[real,Option.map_eq_some_iff] at h
 obtain⟨p,h,rfl⟩:=h; exact⟨p,h,rfl⟩
theorem real_ifc{r:Ren}{t:TypeId}{v:AV}{u:Value}(h:real r (.ifc t v)=some u): ∃q,real r v=some q∧u = .iface t q:=by
 simp only[real,Option.map_eq_some_iff] at h
 obtain⟨p,h,rfl⟩:=h; exact⟨p,h,rfl⟩
theorem real_fn{r:Ren}{f:Fn}{a b:List AV}{u:Value}(h:real r (.fn f a b)=some u): ∃x y,reals r a=some x∧reals r b=some y∧u = .func f x.toArray y.toArray:=by
 simp only[real,Option.map_eq_some_iff,Option.bind_eq_some_iff] at h
 obtain⟨p,h,q,h2,rfl⟩:=h; exact⟨p,q,h,h2,rfl⟩
theorem real_sym{r:Ren}{k:IntKind}{s m j:Nat}{u:Value}(h:real r (.sym k s m j)=some u):r.sg.n s % m=j∧r.sg.n s < 256∧u = .int k (Int.ofNat (r.sg.n s)):=by
 rw[real] at h
 split at h
 ·rename_i c; cases h; exact⟨c.1,c.2,rfl⟩
 ·cases h
theorem real_int{r:Ren}{k:IntKind}{n:Int}{u:Value}(h:real r (.int k n)=some u):u = .int k n:=by cases h; rfl
theorem real_bool{r:Ren}{b:Bool}{u:Value}(h:real r (.bool b)=some u):u = .bool b:=by cases h; rfl
theorem reals_ints{r:Ren}: ∀{l:List Nat} {us:List Value},Bytes l→reals r (ints l)=some us→us=bv (textOf l)
 | [],us,_,h=>by rw[show ints []=[] from rfl,reals_nil] at h; cases h; rfl
 | m::l,us,hb,h=>by
  obtain⟨u,t,hu,ht,rfl⟩:=reals_cons.1 h
  obtain⟨h1,h2⟩:=bytes_cons.1 hb
  rw[reals_ints h2 ht]
  have:=real_int hu
  subst this
  show Value.int .u8 (m:Int)::bv (textOf l)=Value.int .u8 (((UInt8.ofNat m).toNat:Nat):Int)::bv (textOf l)
  rw[UInt8.toNat_ofNat',Nat.mod_eq_of_lt h1]
theorem ints_real{r:Ren}{l:List Nat}(hb:Bytes l):reals r (ints l)=some (bv (textOf l)):=by
 induction l with
 | nil=>exact reals_nil
 | cons m l ih=>
  obtain⟨h1,h2⟩:=bytes_cons.1 hb
  refine reals_cons.2 ⟨.int .u8 (m:Int),bv (textOf l),rfl,ih h2,?_⟩
  show Value.int .u8 (((UInt8.ofNat m).toNat:Nat):Int)::bv (textOf l)=_
  rw[UInt8.toNat_ofNat',Nat.mod_eq_of_lt h1]
theorem bytes_real{r:Ren}{l:List Nat}{u:Value}(hb:Bytes l)(h:real r (.agg (ints l))=some u):u = .agg (bv (textOf l)).toArray:=by
 obtain⟨us,hus,rfl⟩:=real_agg h
 rw[reals_ints hb hus]
theorem eqV_ok{c:Bool}{t:TypeId}{x y:AV}{k:Bool→Bool}(h:eqV P c t x y k=true): ∃b,k b=true∧EqV P c t x y b:=by
 obtain⟨d,hd,h⟩:=tyK_ok h
 have fin : ∀b,k b=true→(∀(r:Ren) (u v:Value) (w:World),real r x=some u→real r y=some v→(Op.equal t u v).run P w = .ok b w∧(c=true∨u≠.nilIface∨v≠.nilIface)∧((∀q,u≠.agg q)∨P.eqGuardType P.depth t=false)∧(∀i n,u≠.int i n)∧(∀s,u≠.string s)∧(∀i n,u≠.float i n)∧(∀i n m,u≠.complex i n m))→∃b,k b=true∧EqV P c t x y b:=fun b hb hh=>⟨b,hb,hh⟩
 have eq1 : ∀u v w,(Op.equal t u v).run P w=(Op.equalIn (9999+1) t u v).run P w:=fun _ _ _=>rfl
 cases x with
 | bool a=>
  obtain⟨b,rfl,h⟩:=qBool_ok (x:=y) h
  obtain⟨rfl,h⟩:=isBoolT_ok h
  replace h:boolK (ifeV a b (not b)) k=true:=h
  rw[boolK_eq] at h
  refine fin _ h fun r u v w hu hv=>?_
  rw[real_bool hu,real_bool hv,eq1]
  refine⟨(eq_bool 9999 w hd a b).trans ?_,.inr (.inl (by simp)),.inl (by simp),by simp,by simp,by simp,by simp⟩
  cases a <;> cases b <;> rfl
 | nilp=>
  obtain⟨e,rfl,h⟩:=isPtrT_ok h
  cases y with
  | nilp=>
   refine fin _ h fun r u v w hu hv=>?_
   cases hu; cases hv; rw[eq1]
   exact⟨(eq_p0 9999 w hd _).trans rfl,.inr (.inl (by simp)),.inl (by simp),by simp,by simp,by simp,by simp⟩
  | ptr i o=>
   refine fin _ h fun r u v w hu hv=>?_
   obtain⟨p,_,rfl⟩:=real_ptr hv
   cases hu; rw[eq1]
   exact⟨(eq_p0 9999 w hd _).trans rfl,.inr (.inl (by simp)),.inl (by simp),by simp,by simp,by simp,by simp⟩
  | _=>cases h
 | ptr i o=>
  obtain⟨e,rfl,h⟩:=isPtrT_ok h
  cases y with
  | nilp=>
   refine fin _ h fun r u v w hu hv=>?_
   obtain⟨p,_,rfl⟩:=real_ptr hu
   cases hv; rw[eq1]
   exact⟨(eq_p1 9999 w hd _).trans rfl,.inr (.inl (by simp)),.inl (by simp),by simp,by simp,by simp,by simp⟩
  | ptr j q=>
   obtain⟨h1,h⟩:=ask_ok h
   obtain⟨inf,hinf,h⟩:=infoK_ok h
   rcases ife_ok h with ⟨_,h⟩|⟨hs,h⟩
   ·cases h
   replace h:boolK (Nat.beq o q) k=true:=h
   rw[boolK_eq] at h
   have hk:=h
   have:=Nat.eq_of_beq_eq_true h1
   subst this
   refine fin _ hk fun r u v w hu hv=>?_
   obtain⟨p,hp,rfl⟩:=real_ptr hu
   obtain⟨p',hp',rfl⟩:=real_ptr hv
   rw[hp] at hp'; cases hp'
   have hs':inf.size≠0:=fun c=>by rw[c] at hs; cases hs
   rw[eq1,beq_dec]
   exact⟨eq_pp 9999 w hd hinf hs' _ _ _,.inr (.inl (by simp)),.inl (by simp),by simp,by simp,by simp,by simp⟩
  | _=>cases h
 | nils=>
  obtain⟨e,rfl,h⟩:=isSliceT_ok h
  cases y with
  | nils=>
   refine fin _ h fun r u v w hu hv=>?_
   cases hu; cases hv; rw[eq1]
   exact⟨(eq_s0 9999 w hd _ _ _ _ _).trans rfl,.inr (.inl (by simp)),.inl (by simp),by simp,by simp,by simp,by simp⟩
  | sl i o n c=>
   refine fin _ h fun r u v w hu hv=>?_
   obtain⟨p,_,rfl⟩:=real_sl hv
   cases hu; rw[eq1]
   exact⟨(eq_s0 9999 w hd _ _ _ _ _).trans rfl,.inr (.inl (by simp)),.inl (by simp),by simp,by simp,by simp,by simp⟩
  | slx i o n c=>
   refine fin _ h fun r u v w hu hv=>?_
   obtain⟨p,_,_,_,_,rfl⟩:=real_slx hv
   cases hu; rw[eq1]
   exact⟨(eq_s0 9999 w hd _ _ _ _ _).trans rfl,.inr (.inl (by simp)),.inl (by simp),by simp,by simp,by simp,by simp⟩
  | sly i o n c=>
   refine fin _ h fun r u v w hu hv=>?_
   obtain⟨_,_,rfl⟩:=real_sly hv
   cases hu; rw[eq1]
   exact⟨(eq_s0 9999 w hd _ _ _ _ _).trans rfl,.inr (.inl (by simp)),.inl (by simp),by simp,by simp,by simp,by simp⟩
  | _=>cases h
 | sl i o n c=>
  obtain⟨e,rfl,h⟩:=isSliceT_ok h
  cases y with
  | nils=>
   refine fin _ h fun r u v w hu hv=>?_
   obtain⟨p,_,rfl⟩:=real_sl hu
   cases hv; rw[eq1]
   exact⟨(eq_s1 9999 w hd _ _ _ _ _).trans rfl,.inr (.inl (by simp)),.inl (by simp),by simp,by simp,by simp,by simp⟩
  | _=>cases h
 | sly i o n c=>
  obtain⟨e,rfl,h⟩:=isSliceT_ok h
  cases y with
  | nils=>
   refine fin _ h fun r u v w hu hv=>?_
   obtain⟨_,_,rfl⟩:=real_sly hu
   cases hv; rw[eq1]
   exact⟨(eq_s1 9999 w hd _ _ _ _ _).trans rfl,.inr (.inl (by simp)),.inl (by simp),by simp,by simp,by simp,by simp⟩
  | _=>cases h
 | slx i o n c=>
  obtain⟨e,rfl,h⟩:=isSliceT_ok h
  cases y with
  | nils=>
   refine fin _ h fun r u v w hu hv=>?_
   obtain⟨p,_,_,_,_,rfl⟩:=real_slx hu
   cases hv; rw[eq1]
   exact⟨(eq_s1 9999 w hd _ _ _ _ _).trans rfl,.inr (.inl (by simp)),.inl (by simp),by simp,by simp,by simp,by simp⟩
  | _=>cases h
 | nilm=>
  obtain⟨⟨e,e2,rfl⟩,h⟩:=isMapT_ok h
  cases y with
  | nilm=>
   refine fin _ h fun r u v w hu hv=>?_
   cases hu; cases hv; rw[eq1]
   exact⟨(eq_m0 9999 w hd _).trans rfl,.inr (.inl (by simp)),.inl (by simp),by simp,by simp,by simp,by simp⟩
  | map i=>
   refine fin _ h fun r u v w hu hv=>?_
   obtain⟨p,_,rfl⟩:=real_map hv
   cases hu; rw[eq1]
   exact⟨(eq_m0 9999 w hd _).trans rfl,.inr (.inl (by simp)),.inl (by simp),by simp,by simp,by simp,by simp⟩
  | _=>cases h
 | map i=>
  obtain⟨⟨e,e2,rfl⟩,h⟩:=isMapT_ok h
  cases y with
  | nilm=>
   refine fin _ h fun r u v w hu hv=>?_
   obtain⟨p,_,rfl⟩:=real_map hu
   cases hv; rw[eq1]
   exact⟨(eq_m1 9999 w hd _).trans rfl,.inr (.inl (by simp)),.inl (by simp),by simp,by simp,by simp,by simp⟩
  | _=>cases h
 | nilf=>
  obtain⟨⟨e,e2,e3,rfl⟩,h⟩:=isFuncT_ok h
  cases y with
  | nilf=>
   refine fin _ h fun r u v w hu hv=>?_
   cases hu; cases hv; rw[eq1]
   exact⟨(eq_f00 9999 w hd).trans rfl,.inr (.inl (by simp)),.inl (by simp),by simp,by simp,by simp,by simp⟩
  | fn f a b=>
   refine fin _ h fun r u v w hu hv=>?_
   obtain⟨p,_,_,_,rfl⟩:=real_fn hv
   cases hu; rw[eq1]
   exact⟨(eq_f01 9999 w hd _ _ _).trans rfl,.inr (.inl (by simp)),.inl (by simp),by simp,by simp,by simp,by simp⟩
  | _=>cases h
 | fn f a b=>
  obtain⟨⟨e,e2,e3,rfl⟩,h⟩:=isFuncT_ok h
  cases y with
  | nilf=>
   refine fin _ h fun r u v w hu hv=>?_
   obtain⟨p,_,_,_,rfl⟩:=real_fn hu
   cases hv; rw[eq1]
   exact⟨(eq_f10 9999 w hd _ _ _).trans rfl,.inr (.inl (by simp)),.inl (by simp),by simp,by simp,by simp,by simp⟩
  | _=>cases h
 | nili=>
  obtain⟨⟨e,rfl⟩,h⟩:=isIfaceT_ok h
  cases y with
  | nili=>
   obtain⟨hc,h⟩:=ask_ok h
   refine fin _ h fun r u v w hu hv=>?_
   cases hu; cases hv; rw[eq1]
   exact⟨(eq_i00 9999 w hd).trans rfl,.inl hc,.inl (by simp),by simp,by simp,by simp,by simp⟩
  | ifc t2 v2=>
   refine fin _ h fun r u v w hu hv=>?_
   obtain⟨p,_,rfl⟩:=real_ifc hv
   cases hu; rw[eq1]
   exact⟨(eq_i01 9999 w hd _ _).trans rfl,.inr (.inr (by simp)),.inl (by simp),by simp,by simp,by simp,by simp⟩
  | _=>cases h
 | ifc t2 v2=>
  obtain⟨⟨e,rfl⟩,h⟩:=isIfaceT_ok h
  cases y with
  | nili=>
   refine fin _ h fun r u v w hu hv=>?_
   obtain⟨p,_,rfl⟩:=real_ifc hu
   cases hv; rw[eq1]
   exact⟨(eq_i10 9999 w hd _ _).trans rfl,.inr (.inl (by simp)),.inl (by simp),by simp,by simp,by simp,by simp⟩
  | _=>cases h
 | agg a=>
  obtain⟨b,rfl,h⟩:=qAgg_ok (x:=y) h
  obtain⟨n,e,rfl,h⟩:=isArrT_ok h
  obtain⟨h1,h⟩:=ask_ok h
  obtain⟨h2,h⟩:=ask_ok h
  obtain⟨de,hde,h⟩:=tyK_ok h
  obtain⟨ik,rfl,h⟩:=isIntT_ok h
  obtain⟨h3,h⟩:=ask_ok h
  have:=kEq_ok h3; subst this
  obtain⟨inf,hinf,h⟩:=infoK_ok h
  obtain⟨h4,h⟩:=ask_ok h
  rcases ife_ok h with ⟨_,h⟩|⟨hg,h⟩
  ·cases h
  obtain⟨l,rfl,hbl,h⟩:=intsK_ok (x:=a) h
  obtain⟨m,rfl,hbm,h⟩:=intsK_ok (x:=b) h
  replace h:boolK (sEq l m) k=true:=h
  rw[boolK_eq] at h
  have e1:=Nat.eq_of_beq_eq_true h1
  have e2:=Nat.eq_of_beq_eq_true h2
  have e4:=Nat.eq_of_beq_eq_true h4
  refine fin _ h fun r u v w hu hv=>?_
  rw[bytes_real hbl hu,bytes_real hbm hv,eq1]
  have hl:(textOf l).length=n:=by rw[text_len,←e1]; simp[ints]
  have hm:(textOf m).length=n:=by rw[text_len,←e2]; simp[ints]
  have hq:=run_equalIn_array (P:=P) (w:=w) 9999 (bv (textOf l)).toArray (bv (textOf m)).toArray hd hinf
  have hco:P.cellsOf e=1:=by simp only[Program.cellsOf,hinf]; exact e4
  rw[hco,eqItems_bytes hde (textOf l) (textOf m) 9998 _ (fun i hi=>by have:=List.mem_range.1 hi; omega),all_same _ _ n hl hm] at hq
  exact⟨by rw[sEq_eq hbl hbm]; exact hq,.inr (.inl (by simp)),.inr hg,by simp,by simp,by simp,by simp⟩
 | _=>cases h
end
end Go.Proofs.YtbhbdeelpopgoaaGreatDoor.E

namespace Go.Proofs.YtbhbdeelpopgoaaGreatDoor.E
open Go Go.RowKit H
section lists
variable {α : Type}
noncomputable def nthK(l:List α)(i:Nat)(k:α→Bool):Bool:=List.rec (motive:=fun _=>Nat→Bool) (fun _=>false) (fun a _ ih i=>Nat.rec (motive:=fun _=>Bool) (k a) (fun p _=>hop ih p) i) l i
theorem nthK_ok: ∀{l:List α} {i:Nat} {k:α→Bool},nthK l i k=true→∃a,l[i]?=some a∧k a=true
 | [],_,_,h=>by cases h
 | a::_,0,_,h=>⟨a,rfl,h⟩
 | _::l,i+1,k,h=>by simpa using nthK_ok (l:=l) (i:=i) (k:=k) h
noncomputable def dropK(l:List α)(i:Nat)(k:List α→Bool):Bool:=List.rec (motive:=fun _=>Nat→Bool) (fun _=>k []) (fun a l ih i=>Nat.rec (motive:=fun _=>Bool) (k (a::l)) (fun p _=>hop ih p) i) l i
theorem dropK_eq: ∀(l:List α) (i:Nat) (k:List α→Bool),dropK l i k=k (l.drop i)
 | [],i,k=>by cases i <;> rfl
 | _::_,0,_=>rfl
 | _::l,i+1,k=>dropK_eq l i k
noncomputable def takeK(l:List α)(i:Nat)(k:List α→Bool):Bool:=List.rec (motive:=fun _=>Nat→(List α→Bool)→Bool) (fun _ k=>k []) (fun a _ ih i k=>Nat.rec (motive:=fun _=>Bool) (k []) (fun p _=>hop ih p (consK k a)) i) l i k
theorem takeK_eq: ∀(l:List α) (i:Nat) (k:List α→Bool),takeK l i k=k (l.take i)
 | [],i,k=>by cases i <;> rfl
 | _::_,0,_=>rfl
 | a::l,i+1,k=>takeK_eq l i fun l=>k (a::l)
noncomputable def lenK(l:List α)(k:Nat→Bool):Bool:=List.rec (motive:=fun _=>Nat→Bool) (fun n=>k n) (fun _ _ ih n=>natK (Nat.succ n) ih) l 0
theorem lenK_eq': ∀(l:List α) (k:Nat→Bool) (n:Nat),List.rec (motive:=fun _=>Nat→Bool) (fun n=>k n) (fun _ _ ih n=>natK (Nat.succ n) ih) l n=k (n+l.length)
 | [],k,n=>rfl
 | _::l,k,n=>by
  show natK (Nat.succ n) (List.rec (motive:=fun _=>Nat→Bool) (fun n=>k n) (fun _ _ ih n=>natK (Nat.succ n) ih) l)=_
  rw[natK_eq,lenK_eq' l k]
  congr 1; simp; omega
theorem lenK_eq(l:List α)(k:Nat→Bool):lenK l k=k l.length:=(lenK_eq' l k 0).trans (by rw[Nat.zero_add])
noncomputable def catK(a b:List α):(List α→Bool)→Bool:=List.rec (motive:=fun _=>(List α→Bool)→Bool) (fun k=>k b) (fun x _ ih k=>hop ih (consK k x)) a
theorem catK_eq(a b:List α)(k:List α→Bool):catK a b k=k (a++b):=by
 induction a generalizing k with
 | nil=>rfl
 | cons x a ih=>exact ih _
noncomputable def setK1(v:α)(l:List α)(i:Nat)(k:List α→Bool):Bool:=List.rec (motive:=fun _=>Nat→(List α→Bool)→Bool) (fun _ k=>k []) (fun a l ih i k=>Nat.rec (motive:=fun _=>Bool) (k (v::l)) (fun p _=>ih p fun l=>k (a::l)) i) l i k
theorem setK1_eq(v:α): ∀(l:List α) (i:Nat) (k:List α→Bool),setK1 v l i k=k (l.set i v)
 | [],i,k=>by cases i <;> rfl
 | _::_,0,_=>rfl
 | a::l,i+1,k=>setK1_eq v l i fun l=>k (a::l)
end lists
def Run1(P:Program)(op:Op)(ty:TypeId)(f:Fr)(u:Value)(w:World):Prop:=∀dst pos af g a,Ag f a→(execOp a.eval {dst:=dst,op:=op,type:=ty,pos:=pos,after:=af,guard:=g}).run P w = .ok (.value u) w
def Yo(P:Program)(fl:Nat)(op:Op)(ty:TypeId)(env:Tr AV)(h:Hp)(v:AV):Prop:=∀S w0 r f w,FrOk r env f→Rel S w0 fl r h w→∃u,real r v=some u∧Run1 P op ty f u w
section
variable {P : Program} {fl : Nat} {env : Tr AV} {h : Hp} {ty : TypeId} {k : AV → Bool}
noncomputable def hMove(fl:Nat)(x:Operand)(h:Hp)(env:Tr AV)(k:AV→Bool):Bool:=evK fl h env x k
theorem hMove_ok{x:Operand}(hk:hMove fl x h env k=true): ∃v,k v=true∧Yo P fl (.move x) ty env h v∧Yo P fl (.assign x) ty env h v:=by
 obtain⟨v,h1,h2⟩:=evK_ok hk
 refine⟨v,h1,fun S w0 r f w hf hR=>?_,fun S w0 r f w hf hR=>?_⟩
 all_goals
  obtain⟨u,hu,hx⟩:=h2 S w0 r f w hf hR
  exact⟨u,hu,fun _ _ _ _ a ha=>by simp[execOp,ha.eval hx]⟩
noncomputable def hPick(fl:Nat)(c a b:Operand)(h:Hp)(env:Tr AV)(k:AV→Bool):Bool:=evK fl h env c fun c=>qBool c fun c=>ife c (evK fl h env a k) (evK fl h env b k)
theorem hPick_ok{c a b:Operand}(hk:hPick fl c a b h env k=true): ∃v,k v=true∧Yo P fl (.pick c a b) ty env h v:=by
 obtain⟨v,h1,h2⟩:=evK_ok hk
 obtain⟨t,rfl,h1⟩:=qBool_ok (x:=v) h1
 rcases ife_ok h1 with ⟨rfl,h1⟩|⟨rfl,h1⟩
 all_goals
  obtain⟨v,h3,h4⟩:=evK_ok h1
  refine⟨v,h3,fun S w0 r f w hf hR=>?_⟩
  obtain⟨u,hu,hx⟩:=h2 S w0 r f w hf hR
  obtain⟨u2,hu2,hx2⟩:=h4 S w0 r f w hf hR
  have:=real_bool hu; subst this
  exact⟨u2,hu2,fun _ _ _ _ a ha=>by simp[execOp,ha.eval hx,ha.eval hx2,asBool]⟩
noncomputable def hNil(fl:Nat)(x:Operand)(h:Hp)(env:Tr AV)(k:AV→Bool):Bool:=evK fl h env x fun v=>match v with
 | .ptr i o=>k (.ptr i o)
 | .ifc t v=>k (.ifc t v)
 | .fn (.func f) a b=>k (.fn (.func f) a b)
 | _=>false
theorem hNil_ok{x:Operand}(hk:hNil fl x h env k=true): ∃v,k v=true∧Yo P fl (.nilCheck x) ty env h v:=by
 obtain⟨v,h1,h2⟩:=evK_ok hk
 split at h1
 ·refine⟨_,h1,fun S w0 r f w hf hR=>?_⟩
  obtain⟨u,hu,hx⟩:=h2 S w0 r f w hf hR
  refine⟨u,hu,fun _ _ _ _ a ha=>?_⟩
  obtain⟨p,_,rfl⟩:=real_ptr hu
  simp[execOp,ha.eval hx]
 ·refine⟨_,h1,fun S w0 r f w hf hR=>?_⟩
  obtain⟨u,hu,hx⟩:=h2 S w0 r f w hf hR
  refine⟨u,hu,fun _ _ _ _ a ha=>?_⟩
  obtain⟨p,_,rfl⟩:=real_ifc hu
  simp[execOp,ha.eval hx]
 ·refine⟨_,h1,fun S w0 r f w hf hR=>?_⟩
  obtain⟨u,hu,hx⟩:=h2 S w0 r f w hf hR
  refine⟨u,hu,fun _ _ _ _ a ha=>?_⟩
  obtain⟨p,_,_,_,rfl⟩:=real_fn hu
  simp[execOp,ha.eval hx]
 ·cases h1
noncomputable def isC(x:Operand):Bool:=Operand.rec (motive:=fun _=>Bool) (fun _=>false) (fun _=>true) (fun _=>false) (fun _=>false) x
noncomputable def symBin(op:BinOp)(i:IntKind)(m a:Nat)(b:Int)(k:AV→Bool):Bool:=BinOp.rec (motive:=fun _=>Bool) no no no no
 (Int.rec (motive:=fun _=>Bool) (fun c=>ask (Nat.blt 0 c) (ask (Nat.beq (Nat.mod m c) 0) (natK (Nat.mod a c) fun z=>k (.int i (.ofNat z))))) (fun _=>false) b) no no no no no no no no no no no no op
theorem symBin_ok{op:BinOp}{i:IntKind}{s m a:Nat}{b:Int}{k:AV→Bool}(h:symBin op i m a b k=true)(t:TypeId): ∃z,k z=true∧Bi P op t (.sym i s m a) (.int i b) z:=by
 cases op <;> try (cases h; done)
 cases b with
 | negSucc c=>cases h
 | ofNat c=>
  obtain⟨h1,h⟩:=ask_ok (b:=Nat.blt 0 c) h
  obtain⟨h2,h⟩:=ask_ok h
  rw[natK_eq] at h
  have h1:=blt_lt h1
  have h2:=Nat.eq_of_beq_eq_true h2
  refine⟨_,h,fun r u v w hu hv=>?_⟩
  obtain⟨e1,e2,rfl⟩:=real_sym hu
  have:=real_int hv; subst this
  have h0:c≠0:=by omega
  refine⟨.int i (Int.ofNat (a % c)),rfl,?_⟩
  have e3:(Int.ofNat (r.sg.n s)).tmod (Int.ofNat c)=Int.ofNat (a % c):=by
   rw[←e1,Nat.mod_mod_of_dvd _ (Nat.dvd_of_mod_eq_zero h2)]; rfl
  simp only[Int.ofNat_eq_natCast] at e3 ⊢
  simp[binOp,Op.intDiv,h0,e3]
noncomputable def binK(P:Program)(op:BinOp)(c:Bool)(t:TypeId)(x y:AV)(k:AV→Bool):Bool:=match x with
 | .int i a=>qInt y fun j b=>ife (isShift op) (shiftK op i a b k) (ask (kEq i j) (intBin op i a b k))
 | .str a=>qStr y fun b=>strBin op a b k
 | .sym i _ m a=>qInt y fun j b=>ask (kEq i j) (symBin op i m a b k)
 | x=>BinOp.rec (motive:=fun _=>Bool) no no no no no no no no no no no (eqV P c t x y fun b=>k (.bool b)) (eqV P c t x y fun b=>k (.bool (not b))) no no no no op
noncomputable def opqEL(x y:AV)(k:Option Bool→Option Bool→Bool)(d:Bool):Bool:=match x with
 | .opq t _ s _ _=>(match y with
  | .opq t' _ s' _ _=>ask (Nat.beq t 0) (ife (Nat.beq t' 0) (ife (Nat.beq s s') (k (some true) (some false)) (k (some false) none)) (ask (Nat.beq t' 5) (k (some false) (some true))))
  | .int i c=>ask (Nat.beq t 0) (ask (kEq i .i64) (Int.rec (motive:=fun _=>Bool) (fun c=>ask (Nat.beq c 0) (k none (some false))) (fun _=>k (some false) (some false)) c))
  | _=>false)
 | .int i c=>(match y with
  | .opq t _ _ _ _=>ask (Nat.beq t 0) (ask (kEq i .i64) (Int.rec (motive:=fun _=>Bool) (fun _=>false) (fun _=>k (some false) (some true)) c))
  | _=>d)
 | _=>d
theorem real_opq{r:Ren}{t i s o z:Nat}{u:Value}(h:real r (.opq t i s o z)=some u):opqR r t i s o z=some u:=by simpa only[real] using h
theorem real_opq0{r:Ren}{i s o z:Nat}{u:Value}(h:real r (.opq 0 i s o z)=some u): ∃m,standsAt r.sg.dd s=some m∧u = .int .i64 (Int.ofNat m):=by
 obtain⟨m,h1,rfl⟩:=Option.map_eq_some_iff.1 (show(standsAt r.sg.dd s).map (fun m=>Value.int .i64 (Int.ofNat m))=some u from real_opq h)
 exact⟨m,h1,rfl⟩
theorem real_opq5{r:Ren}{i s o z:Nat}{u:Value}(h:real r (.opq 5 i s o z)=some u):u = .int .i64 (Int.ofNat r.sg.dd.length):=by
 cases (show some (Value.int .i64 (Int.ofNat r.sg.dd.length))=some u from real_opq h); rfl
theorem opqEL_ok{x y:AV}{k:Option Bool→Option Bool→Bool}{d:Bool}(h:opqEL x y k d=true):d=true∨∃e l,k e l=true∧∀r u v,real r x=some u→real r y=some v→∃m n:Int,u = .int .i64 m∧v = .int .i64 n∧(∀b,e=some b→b=decide (m=n))∧(∀b,l=some b→b=decide (m < n)):=by
 unfold opqEL at h
 split at h
 ·rename_i t i s o z
  split at h
  ·rename_i t' i' s' o' z'
   replace h:=ask_ok h
   obtain⟨h1,h⟩:=h
   have e1:=Nat.eq_of_beq_eq_true h1; subst e1
   replace h:=ife_ok h
   rcases h with ⟨h2,h⟩|⟨_,h⟩
   ·have e2:=Nat.eq_of_beq_eq_true h2; subst e2
    replace h:=ife_ok h
    rcases h with ⟨h3,h⟩|⟨h3,h⟩
    ·have e3:=Nat.eq_of_beq_eq_true h3; subst e3
     refine .inr ⟨_,_,h,fun r u v hu hv=>?_⟩
     obtain⟨m,hm,rfl⟩:=real_opq0 hu
     obtain⟨n,hn,rfl⟩:=real_opq0 hv
     rw[hm] at hn; cases hn
     exact⟨_,_,rfl,rfl,fun b hb=>by cases hb; simp,fun b hb=>by cases hb; simp⟩
    ·refine .inr ⟨_,_,h,fun r u v hu hv=>?_⟩
     obtain⟨m,hm,rfl⟩:=real_opq0 hu
     obtain⟨n,hn,rfl⟩:=real_opq0 hv
     refine⟨_,_,rfl,rfl,fun b hb=>?_,fun b hb=>by cases hb⟩
     injection hb with hb
     have:m≠n:=by
      rintro rfl
      have:=standsAt_at hm
      rw[standsAt_at hn] at this
      cases this
      rw[Nat.beq_refl] at h3; cases h3
     rw[←hb]
     exact(decide_eq_false (by simp only[Int.ofNat_eq_natCast]; omega)).symm
   ·replace h:=ask_ok h
    obtain⟨h2,h⟩:=h
    have e2:=Nat.eq_of_beq_eq_true h2; subst e2
    refine .inr ⟨_,_,h,fun r u v hu hv=>?_⟩
    obtain⟨m,hm,rfl⟩:=real_opq0 hu
    have:=real_opq5 hv; subst this
    have h4:m < r.sg.dd.length:=(List.getElem?_eq_some_iff.1 (standsAt_at hm)).1
    refine⟨_,_,rfl,rfl,fun b hb=>?_,fun b hb=>?_⟩ <;> cases hb
    ·exact(decide_eq_false (by simp only[Int.ofNat_eq_natCast]; omega)).symm
    ·exact(decide_eq_true (by simp only[Int.ofNat_eq_natCast]; omega)).symm
  ·rename_i i' c
   replace h:=ask_ok h
   obtain⟨h1,h⟩:=h
   have e1:=Nat.eq_of_beq_eq_true h1; subst e1
   replace h:=ask_ok h
   obtain⟨h2,h⟩:=h
   have e2:=kEq_ok h2; subst e2
   cases c with
   | ofNat c=>
    replace h:=ask_ok h
    obtain⟨h3,h⟩:=h
    have e3:=Nat.eq_of_beq_eq_true h3; subst e3
    refine .inr ⟨_,_,h,fun r u v hu hv=>?_⟩
    obtain⟨m,hm,rfl⟩:=real_opq0 hu
    have:=real_int hv; subst this
    exact⟨_,_,rfl,rfl,(fun b hb=>by cases hb),fun b hb=>by cases hb; simp⟩
   | negSucc c=>
    refine .inr ⟨_,_,h,fun r u v hu hv=>?_⟩
    obtain⟨m,hm,rfl⟩:=real_opq0 hu
    have:=real_int hv; subst this
    have h5:Int.negSucc c < 0:=Int.negSucc_lt_zero c
    refine⟨_,_,rfl,rfl,fun b hb=>?_,fun b hb=>?_⟩ <;> cases hb
    ·exact(decide_eq_false (by simp only[Int.ofNat_eq_natCast]; omega)).symm
    ·exact(decide_eq_false (by simp only[Int.ofNat_eq_natCast]; omega)).symm
  ·cases h
 ·rename_i i c
  split at h
  ·replace h:=ask_ok h
   obtain⟨h1,h⟩:=h
   have e1:=Nat.eq_of_beq_eq_true h1; subst e1
   replace h:=ask_ok h
   obtain⟨h2,h⟩:=h
   have e2:=kEq_ok h2; subst e2
   cases c with
   | ofNat c=>cases h
   | negSucc c=>
    refine .inr ⟨_,_,h,fun r u v hu hv=>?_⟩
    obtain⟨m,hm,rfl⟩:=real_opq0 hv
    have:=real_int hu; subst this
    have h5:Int.negSucc c < 0:=Int.negSucc_lt_zero c
    refine⟨_,_,rfl,rfl,fun b hb=>?_,fun b hb=>?_⟩ <;> cases hb
    ·exact(decide_eq_false (by simp only[Int.ofNat_eq_natCast]; omega)).symm
    ·exact(decide_eq_true (by simp only[Int.ofNat_eq_natCast]; omega)).symm
  ·exact .inl h
 ·exact .inl h
noncomputable def opqOp(op:BinOp)(e l:Option Bool)(k:AV→Bool):Bool:=BinOp.rec (motive:=fun _=>Bool) no no no no no no no no no no no (someK e fun b=>k (.bool b)) (someK e fun b=>k (.bool (not b))) (someK l fun b=>k (.bool b)) no no (someK l fun b=>k (.bool (not b))) op
theorem opqOp_ok{op:BinOp}{e l:Option Bool}{k:AV→Bool}(h:opqOp op e l k=true){x y:AV}(t:TypeId)(hx : ∀r u v,real r x=some u→real r y=some v→∃m n:Int,u = .int .i64 m∧v = .int .i64 n∧(∀b,e=some b→b=decide (m=n))∧(∀b,l=some b→b=decide (m < n))): ∃z,k z=true∧Bi P op t x y z:=by
 cases op <;> try (cases h; done)
 all_goals
  obtain⟨b,rfl,h⟩:=someK_ok h
  refine⟨_,h,fun r u v w hu hv=>?_⟩
  obtain⟨m,n,rfl,rfl,h1,h2⟩:=hx r u v hu hv
  first
   | (have:=h1 b rfl; subst this)
   | (have:=h2 b rfl; subst this)
  refine⟨_,rfl,?_⟩
  simp[binOp,Op.intCmp,bne,BEq.beq,not_lt_dec]
noncomputable def hBin(P:Program)(fl:Nat)(op:BinOp)(t:TypeId)(x y:Operand)(h:Hp)(env:Tr AV)(k:AV→Bool):Bool:=evK fl h env x fun u=>evK fl h env y fun v=>opqEL u v (fun e l=>opqOp op e l k) (binK P op (ifeV (isC x) true (isC y)) t u v k)
theorem isC_ok{x y:Operand}(h:ifeV (isC x) true (isC y)=true):(∃v,x = .const v)∨∃v,y = .const v:=by
 cases x with
 | const v=>exact .inl ⟨v,rfl⟩
 | _=>cases y with
  | const v=>exact .inr ⟨v,rfl⟩
  | _=>cases h
theorem binK_rest{op:BinOp}{c:Bool}{t:TypeId}{x y:AV}{k:AV→Bool}(hk:binK P op c t x y k=true)(h1 : ∀i a,x≠.int i a)(h2 : ∀s,x≠.str s)(h3 : ∀i s m j,x≠.sym i s m j):
  (op = .eql∧eqV P c t x y (fun b=>k (.bool b))=true)∨(op = .neq∧eqV P c t x y (fun b=>k (.bool (not b)))=true):=by
 cases x with
 | int i a=>exact absurd rfl (h1 _ _)
 | str s=>exact absurd rfl (h2 _)
 | sym i s m j=>exact absurd rfl (h3 _ _ _ _)
 | _=>cases op <;> first|(cases hk; done)|exact .inl ⟨rfl,hk⟩|exact .inr ⟨rfl,hk⟩
theorem hBin_ok{op:BinOp}{t yt:TypeId}{x y:Operand}(hk:hBin P fl op t x y h env k=true): ∃v,k v=true∧Yo P fl (.binOp op t x y yt) ty env h v:=by
 obtain⟨u,hk,h2⟩:=evK_ok hk
 obtain⟨v,hk,h4⟩:=evK_ok hk
 rcases opqEL_ok hk with hk|⟨e,l,hk,hx0⟩
 rotate_left
 ·obtain⟨z,hz,hB⟩:=opqOp_ok (P:=P) hk t hx0
  refine⟨z,hz,fun S w0 r f w hf hR=>?_⟩
  obtain⟨ux,hux,hx⟩:=h2 S w0 r f w hf hR
  obtain⟨uy,huy,hy⟩:=h4 S w0 r f w hf hR
  obtain⟨q,hq,hrun⟩:=hB r ux uy w hux huy
  obtain⟨m,n,rfl,rfl,_⟩:=hx0 r ux uy hux huy
  refine⟨q,hq,fun _ _ _ _ a ha=>?_⟩
  have hg:(eqGuard op t x y (.int .i64 m) (.int .i64 n)).run P w = .ok () w:=noGuard op t x y _ _ (by simp) (by simp)
  simp[execOp,ha.eval hx,ha.eval hy,hg,hrun]
 have plain : ∀z,k z=true→Bi P op t u v z→(((∃i n,u = .int i n)∨∃i s m j,u = .sym i s m j)∨∃s,u = .str s)→∃v,k v=true∧Yo P fl (.binOp op t x y yt) ty env h v:=by
  intro z hz hB hu'
  refine⟨z,hz,fun S w0 r f w hf hR=>?_⟩
  obtain⟨ux,hux,hx⟩:=h2 S w0 r f w hf hR
  obtain⟨uy,huy,hy⟩:=h4 S w0 r f w hf hR
  obtain⟨q,hq,hrun⟩:=hB r ux uy w hux huy
  refine⟨q,hq,fun _ _ _ _ a ha=>?_⟩
  have hg:(eqGuard op t x y ux uy).run P w = .ok () w:=by
   rcases hu' with (⟨i,n,rfl⟩|⟨i,s,m,j,rfl⟩)|⟨s,rfl⟩
   ·have:=real_int hux; subst this
    exact noGuard op t x y _ _ (by simp) (by simp)
   ·obtain⟨_,_,rfl⟩:=real_sym hux
    exact noGuard op t x y _ _ (by simp) (by simp)
   ·obtain⟨_,rfl⟩:=real_str hux
    exact noGuard op t x y _ _ (by simp) (by simp)
  simp[execOp,ha.eval hx,ha.eval hy,hg,hrun]
 have eqs : ∀(neg:Bool) (b:Bool),op=(if neg then .neq else .eql)→k (.bool (if neg then !b else b))=true→EqV P (ifeV (isC x) true (isC y)) t u v b→∃v,k v=true∧Yo P fl (.binOp op t x y yt) ty env h v:=by
  intro neg b hop hb hE
  refine⟨_,hb,fun S w0 r f w hf hR=>?_⟩
  obtain⟨ux,hux,hx⟩:=h2 S w0 r f w hf hR
  obtain⟨uy,huy,hy⟩:=h4 S w0 r f w hf hR
  obtain⟨e1,e2,e3,e4,e5,e6,e7⟩:=hE r ux uy w hux huy
  refine⟨_,rfl,fun _ _ _ _ a ha=>?_⟩
  have hg:(eqGuard op t x y ux uy).run P w = .ok () w:=by
   rcases e3 with e3|e3
   ·by_cases c:ux = .nilIface
    ·subst c
     rcases e2 with e2|e2|e2
     ·rcases isC_ok e2 with ⟨v,rfl⟩|⟨v,rfl⟩ <;> cases neg <;> subst hop <;> cases uy <;> simp[eqGuard]
     ·exact absurd rfl e2
     ·cases neg <;> subst hop <;> cases uy <;> first|exact absurd rfl e2|simp[eqGuard]
    ·exact noGuard op t x y _ _ e3 c
   ·cases neg <;> subst hop <;> cases ux <;> cases uy <;> first|(simp[eqGuard]; done)|(simp[eqGuard,e3]; done)|skip
    all_goals
     rcases e2 with e2|e2|e2
     ·rcases isC_ok e2 with ⟨v,rfl⟩|⟨v,rfl⟩ <;> simp[eqGuard]
     ·exact absurd rfl e2
     ·exact absurd rfl e2
  have hr:(binOp op t ux uy).run P w = .ok (.bool (if neg then !b else b)) w:=by
   cases neg <;> subst hop <;> cases ux <;> first
    | exact absurd rfl (e4 _ _)|exact absurd rfl (e5 _)|exact absurd rfl (e6 _ _)|exact absurd rfl (e7 _ _ _)
    | (simp[binOp,e1]; done)
    | (cases uy <;> simp[binOp,e1])
  simp[execOp,ha.eval hx,ha.eval hy,hg,hr]
 cases u with
 | int i a=>
  obtain⟨j,b,rfl,hk⟩:=qInt_ok (x:=v) hk
  rcases ife_ok hk with ⟨_,hk⟩|⟨_,hk⟩
  ·obtain⟨z,hz,hB⟩:=shiftK_ok (P:=P) hk j t
   exact plain z hz hB (.inl (.inl ⟨_,_,rfl⟩))
  ·obtain⟨h1,hk9⟩:=ask_ok hk
   have:=kEq_ok h1; subst this
   obtain⟨z,hz,hB⟩:=intBin_ok (P:=P) hk9 t
   exact plain z hz hB (.inl (.inl ⟨_,_,rfl⟩))
 | sym i s m a=>
  obtain⟨j,b,rfl,hk⟩:=qInt_ok (x:=v) hk
  obtain⟨h1,hk9⟩:=ask_ok hk
  have:=kEq_ok h1; subst this
  obtain⟨z,hz,hB⟩:=symBin_ok (P:=P) hk9 t
  exact plain z hz hB (.inl (.inr ⟨_,_,_,_,rfl⟩))
 | str s=>
  obtain⟨b,rfl,hk⟩:=qStr_ok (x:=v) hk
  obtain⟨z,hz,hB⟩:=strBin_ok (P:=P) hk t
  exact plain z hz hB (.inr ⟨_,rfl⟩)
 | _=>
  rcases binK_rest hk (by simp) (by simp) (by simp) with ⟨rfl,h5⟩|⟨rfl,h5⟩
  ·obtain⟨b,hb,hE⟩:=eqV_ok h5
   exact eqs false b rfl hb hE
  ·obtain⟨b,hb,hE⟩:=eqV_ok h5
   exact eqs true b rfl hb hE
end
end Go.Proofs.YtbhbdeelpopgoaaGreatDoor.E

namespace Go.Proofs.YtbhbdeelpopgoaaGreatDoor.E
open Go Go.RowKit H
section
variable {P : Program} {fl : Nat} {env : Tr AV} {h : Hp} {ty : TypeId} {k : AV → Bool}
theorem one_ok{op:Op}{x:Operand}{v z:AV}(h2:Ev fl env h v fun f=>f.ev x)
  (hz : ∀S w0 r w u,Rel S w0 fl r h w→real r v=some u→∃q,real r z=some q∧∀(ρ:Operand→Value) dst pos af g,ρ x=u→(execOp ρ {dst:=dst,op:=op,type:=ty,pos:=pos,after:=af,guard:=g}).run P w = .ok (.value q) w):Yo P fl op ty env h z:=by
 intro S w0 r f w hf hR
 obtain⟨u,hu,hx⟩:=h2 S w0 r f w hf hR
 obtain⟨q,hq,hr⟩:=hz S w0 r w u hR hu
 exact⟨q,hq,fun dst pos af g a ha=>hr _ dst pos af g (ha.eval hx)⟩
theorem two_ok{op:Op}{x y:Operand}{v1 v2 z:AV}(h1:Ev fl env h v1 fun f=>f.ev x)(h2:Ev fl env h v2 fun f=>f.ev y)
  (hz : ∀S w0 r w u v,Rel S w0 fl r h w→real r v1=some u→real r v2=some v→∃q,real r z=some q∧∀(ρ:Operand→Value) dst pos af g,ρ x=u→ρ y=v→(execOp ρ {dst:=dst,op:=op,type:=ty,pos:=pos,after:=af,guard:=g}).run P w = .ok (.value q) w):Yo P fl op ty env h z:=by
 intro S w0 r f w hf hR
 obtain⟨u,hu,hx⟩:=h1 S w0 r f w hf hR
 obtain⟨v,hv,hy⟩:=h2 S w0 r f w hf hR
 obtain⟨q,hq,hr⟩:=hz S w0 r w u v hR hu hv
 exact⟨q,hq,fun dst pos af g a ha=>hr _ dst pos af g (ha.eval hx) (ha.eval hy)⟩
noncomputable def hUn(fl:Nat)(op:UnOp)(x:Operand)(h:Hp)(env:Tr AV)(k:AV→Bool):Bool:=evK fl h env x fun v=>UnOp.rec (motive:=fun _=>Bool)
 (qInt v fun i a=>wrapK i (iSub 0 a) fun z=>k (.int i z)) (qInt v fun i a=>intK (iBits .xor i (ifeV i.signed (-1) i.max) a) fun z=>k (.int i z)) (qBool v fun b=>boolK b fun b=>k (.bool (not b))) no op
theorem hUn_ok{op:UnOp}{xt:TypeId}{x:Operand}(hk:hUn fl op x h env k=true): ∃v,k v=true∧Yo P fl (.unOp op xt x) ty env h v:=by
 obtain⟨v,hk,h2⟩:=evK_ok hk
 cases op with
 | neg=>
  obtain⟨i,a,rfl,hk⟩:=qInt_ok (x:=v) hk
  replace hk:wrapK i (iSub 0 a) (fun z=>k (.int i z))=true:=hk
  rw[wrapK_eq,iSub_eq] at hk
  refine⟨_,hk,one_ok h2 fun S w0 r w u _ hu=>⟨_,rfl,fun ρ dst pos af g e=>?_⟩⟩
  have:=real_int hu; subst this
  simp[execOp,e,Op.unary,Op.intArith]
 | xor=>
  obtain⟨i,a,rfl,hk⟩:=qInt_ok (x:=v) hk
  replace hk:intK (iBits .xor i (ifeV i.signed (-1) i.max) a) (fun z=>k (.int i z))=true:=hk
  rw[intK_eq,iBits_eq] at hk
  refine⟨_,hk,one_ok h2 fun S w0 r w u _ hu=>⟨_,rfl,fun ρ dst pos af g e=>?_⟩⟩
  have:=real_int hu; subst this
  have e2:ifeV i.signed (-1) i.max=if i.signed then -1 else i.max:=by cases i.signed <;> rfl
  simp[execOp,e,Op.unary,Op.intBits,bitsOp,e2]
 | not=>
  obtain⟨b,rfl,hk⟩:=qBool_ok (x:=v) hk
  replace hk:boolK b (fun b=>k (.bool (not b)))=true:=hk
  rw[boolK_eq] at hk
  refine⟨_,hk,one_ok h2 fun S w0 r w u _ hu=>⟨_,rfl,fun ρ dst pos af g e=>?_⟩⟩
  have:=real_bool hu; subst this
  simp[execOp,e,Op.unary]
 | plus=>cases hk
noncomputable def hConv0(P:Program)(fl:Nat)(s t:TypeId)(v:AV)(k:AV→Bool):Bool:=tyK P s fun _=>tyK P t fun d=>match v with
 | .int _ a=>isIntT d fun i=>wrapK i a fun z=>k (.int i z)
 | .str a=>isStrT d (k (.str a))
 | .sym _ a m j=>isIntT d fun i=>ask (Nat.ble 256 (kmax i)) (k (.sym i a m j))
 | _=>false
theorem hConv0_ok{s t:TypeId}{x:Operand}{v:AV}(h2:Ev fl env h v fun f=>f.ev x)(hk:hConv0 P fl s t v k=true): ∃v,k v=true∧Yo P fl (.convert s t x) ty env h v:=by
 obtain⟨ds,hs,hk⟩:=tyK_ok hk
 obtain⟨d,hd,hk⟩:=tyK_ok hk
 cases v with
 | int j a=>
  obtain⟨i,rfl,hk⟩:=isIntT_ok hk
  replace hk:wrapK i a (fun z=>k (.int i z))=true:=hk
  rw[wrapK_eq] at hk
  refine⟨_,hk,one_ok h2 fun S w0 r w u _ hu=>⟨_,rfl,fun ρ dst pos af g e=>?_⟩⟩
  have:=real_int hu; subst this
  simp[execOp,e,convert,run_underlying hs,run_underlying hd,Conv.intToInt]
 | sym q a m b=>
  obtain⟨i,rfl,hk⟩:=isIntT_ok hk
  obtain⟨h1,hk⟩:=ask_ok hk
  have h1:=ble_le h1
  refine⟨_,hk,one_ok h2 fun S w0 r w u _ hu=>?_⟩
  obtain⟨e1,e2,rfl⟩:=real_sym hu
  refine⟨.int i (Int.ofNat (r.sg.n a)),by rw[real]; exact if_pos ⟨e1,e2⟩,fun ρ dst pos af g e=>?_⟩
  have e3:=wrap_small i (Int.ofNat (r.sg.n a)) (by simp; omega) (.inl (by simp))
  simp only[Int.ofNat_eq_natCast] at e3 ⊢
  simp[execOp,e,convert,run_underlying hs,run_underlying hd,Conv.intToInt,e3]
 | str a=>
  obtain⟨rfl,hk⟩:=isStrT_ok hk
  refine⟨_,hk,one_ok h2 fun S w0 r w u _ hu=>⟨_,hu,fun ρ dst pos af g e=>?_⟩⟩
  obtain⟨_,rfl⟩:=real_str hu
  simp[execOp,e,convert,run_underlying hs,run_underlying hd]
 | _=>cases hk
noncomputable def hExt(fl:Nat)(x:Operand)(i:Nat)(h:Hp)(env:Tr AV)(k:AV→Bool):Bool:=evK fl h env x fun v=>qTup v fun l=>nthK l i k
theorem hExt_ok{x:Operand}{i:Nat}(hk:hExt fl x i h env k=true): ∃v,k v=true∧Yo P fl (.extract x i) ty env h v:=by
 obtain⟨v,hk,h2⟩:=evK_ok hk
 obtain⟨l,rfl,hk⟩:=qTup_ok (x:=v) hk
 obtain⟨z,hz,hk⟩:=nthK_ok hk
 refine⟨z,hk,one_ok h2 fun S w0 r w u _ hu=>?_⟩
 obtain⟨us,hus,rfl⟩:=real_tup hu
 obtain⟨q,hq,hr⟩:=reals_at hus hz
 exact⟨q,hr,fun ρ dst pos af g e=>by simp[execOp,e,Instr.extract,hq]⟩
noncomputable def partK(P:Program)(t:TypeId)(l:List AV)(off:Nat)(k:AV→Bool):Bool:=tyK P t fun d=>ife (isAggT d) (szK P t fun s=>dropK l off fun l=>takeK l s fun l=>k (.agg l)) (nthK l off k)
theorem partK_ok{t:TypeId}{l:List AV}{off:Nat}(hk:partK P t l off k=true): ∃v,k v=true∧∀(r:Ren) (us:List Value) (w:World),reals r l=some us→∃q,real r v=some q∧(part t us.toArray off).run P w = .ok q w:=by
 obtain⟨d,hd,hk⟩:=tyK_ok hk
 rcases ife_ok hk with ⟨ha,hk⟩|⟨ha,hk⟩
 ·obtain⟨i,hi,hk⟩:=infoK_ok hk
  replace hk:dropK l off (fun l=>takeK l i.size fun l=>k (.agg l))=true:=hk
  rw[dropK_eq,takeK_eq] at hk
  refine⟨_,hk,fun r us w hus=>?_⟩
  refine⟨.agg ((us.drop off).take i.size).toArray,by simp only[real,reals_take _ (reals_drop _ hus),Option.map_some],?_⟩
  have e:us.toArray.extract off (off+i.size)=((us.drop off).take i.size).toArray:=by
   apply Array.ext'
   simp[List.extract_eq_take_drop]
  simp[part,run_agg hd,ha,run_size hi,e]
 ·obtain⟨z,hz,hk⟩:=nthK_ok hk
  refine⟨z,hk,fun r us w hus=>?_⟩
  obtain⟨q,hq,hr⟩:=reals_at hus hz
  exact⟨q,hr,by simp[part,run_agg hd,ha,hq]⟩
noncomputable def hField(P:Program)(fl:Nat)(s:TypeId)(x:Operand)(i:Nat)(h:Hp)(env:Tr AV)(k:AV→Bool):Bool:=evK fl h env x fun v=>qAgg v fun l=>tyK P s fun d=>isStructT d fun fs=>nthK fs.toList i fun f=>partK P f.type l f.offset k
theorem hField_ok{s:TypeId}{x:Operand}{i:Nat}(hk:hField P fl s x i h env k=true): ∃v,k v=true∧Yo P fl (.field s x i) ty env h v:=by
 obtain⟨v,hk,h2⟩:=evK_ok hk
 obtain⟨l,rfl,hk⟩:=qAgg_ok (x:=v) hk
 obtain⟨d,hd,hk⟩:=tyK_ok hk
 obtain⟨fs,rfl,hk⟩:=isStructT_ok hk
 obtain⟨f,hf,hk⟩:=nthK_ok hk
 obtain⟨z,hk,hz⟩:=partK_ok hk
 have hf':fs[i]?=some f:=by simpa using hf
 refine⟨z,hk,one_ok h2 fun S w0 r w u _ hu=>?_⟩
 obtain⟨us,hus,rfl⟩:=real_agg hu
 obtain⟨q,hq,hr⟩:=hz r us w hus
 exact⟨q,hq,fun ρ dst pos af g e=>by simp[execOp,e,Instr.field,run_underlying hd,hf',asAgg,hr]⟩
noncomputable def hIndex(P:Program)(fl:Nat)(t:TypeId)(x y:Operand)(h:Hp)(env:Tr AV)(k:AV→Bool):Bool:=evK fl h env x fun v=>evK fl h env y fun w=>qInt w fun _ i=>ife (iLt i 0) false (tyK P t fun d=>match v with
 | .agg l=>isArrT d fun n e=>ask (Nat.blt i.toNat n) (szK P e fun s=>partK P e l (Nat.mul i.toNat s) k)
 | .str s=>isStrT d (nthK s i.toNat fun b=>k (.int .u8 (.ofNat b)))
 | _=>false)
theorem hIndex_ok{t:TypeId}{x y:Operand}(hk:hIndex P fl t x y h env k=true): ∃v,k v=true∧Yo P fl (.index t x y) ty env h v:=by
 obtain⟨v,hk,h2⟩:=evK_ok hk
 obtain⟨w,hk,h3⟩:=evK_ok hk
 obtain⟨j,i,rfl,hk⟩:=qInt_ok (x:=w) hk
 rcases ife_ok hk with ⟨_,hk⟩|⟨h0,hk⟩
 ·cases hk
 rw[iLt_eq] at h0
 have h0:0≤i:=by simpa using h0
 obtain⟨d,hd,hk⟩:=tyK_ok hk
 cases v with
 | agg l=>
  obtain⟨n,e,rfl,hk⟩:=isArrT_ok hk
  obtain⟨h1,hk⟩:=ask_ok hk
  obtain⟨inf,hi,hk⟩:=infoK_ok hk
  obtain⟨z,hk,hz⟩:=partK_ok hk
  have h1:=blt_lt h1
  refine⟨z,hk,two_ok h2 h3 fun S w0 r w u u' _ hu hu'=>?_⟩
  obtain⟨us,hus,rfl⟩:=real_agg hu
  have:=real_int hu'; subst this
  obtain⟨q,hq,hr⟩:=hz r us w hus
  have h4:i < (n:Int):=by omega
  exact⟨q,hq,fun ρ dst pos af g e1 e2=>by
   have hr:Sem.run P (part e us.toArray (i.toNat * inf.size)) w=Result.ok q w:=hr
   simp[execOp,e1,e2,Instr.index,asIntOf,run_underlying hd,h0,h4,run_size hi,hr]⟩
 | str s=>
  obtain⟨rfl,hk⟩:=isStrT_ok hk
  obtain⟨b,hb,hk⟩:=nthK_ok hk
  refine⟨_,hk,two_ok h2 h3 fun S w0 r w u u' _ hu hu'=>⟨_,rfl,fun ρ dst pos af g e1 e2=>?_⟩⟩
  obtain⟨hby,rfl⟩:=real_str hu
  have:=real_int hu'; subst this
  have hlt:i.toNat < s.length:=(List.getElem?_eq_some_iff.1 hb).1
  have hb8:b < 256:=bytes_at hby b (List.mem_of_getElem? hb)
  have hs:(B (textOf s))[i.toNat]?=some (UInt8.ofNat b):=by
   have h5:i.toNat < (B (textOf s)).size:=by rw[B_size,text_len]; exact hlt
   rw[getElem?_pos (B (textOf s)) i.toNat h5]
   have h6:(textOf s)[i.toNat]?=some (UInt8.ofNat b):=by simp[textOf,hb]
   have h7:(textOf s)[i.toNat]'(by rw[text_len]; exact hlt)=UInt8.ofNat b:=by
    rw[List.getElem?_eq_getElem (by rw[text_len]; exact hlt)] at h6
    exact Option.some.inj h6
   exact congrArg some h7
  simp[execOp,e1,e2,Instr.index,asIntOf,run_underlying hd,h0,hs,Nat.mod_eq_of_lt hb8]
 | _=>cases hk
end
end Go.Proofs.YtbhbdeelpopgoaaGreatDoor.E

namespace Go.Proofs.YtbhbdeelpopgoaaGreatDoor.E
open Go Go.RowKit H
section
variable {P : Program} {fl : Nat} {env : Tr AV} {h : Hp} {ty : TypeId} {k : AV → Bool}
noncomputable def qAddr(x:AV)(k:Nat→(Nat→AV)→Bool):Bool:=match x with
 | .ptr i o=>k o fun o=> .ptr i o
 | .opq t i s o z=>ask (Nat.beq t 2) (k o fun o=> .opq 2 i s o z)
 | _=>false
theorem real_opq2{r:Ren}{i s o z:Nat}{u:Value}(h:real r (.opq 2 i s o z)=some u): ∃p m,r i=some p∧standsAt r.sg.dd s=some m∧u = .pointer (some ⟨p.1,m * z+o,none⟩):=by
 obtain⟨p,hp,h⟩:=Option.bind_eq_some_iff.1 (show((r i).bind fun p=>(standsAt r.sg.dd s).map fun m=>Value.pointer (some ⟨p.1,m * z+o,none⟩))=some u from real_opq h)
 obtain⟨m,hm,rfl⟩:=Option.map_eq_some_iff.1 h
 exact⟨p,m,hp,hm,rfl⟩
theorem opq2_real{r:Ren}{i s o z m:Nat}{p:Nat×Nat}(hp:r i=some p)(hm:standsAt r.sg.dd s=some m):real r (.opq 2 i s o z)=some (.pointer (some ⟨p.1,m * z+o,none⟩)):=by
 simp only[real]
 show((r i).bind fun p=>(standsAt r.sg.dd s).map fun m=>Value.pointer (some ⟨p.1,m * z+o,none⟩))=_
 rw[hp,hm]; rfl
theorem qAddr_ok{x:AV}{k:Nat→(Nat→AV)→Bool}(h:qAddr x k=true): ∃o mk,k o mk=true∧∀(r:Ren) (u:Value),real r x=some u→∃a:Addr,u = .pointer (some a)∧∀d,real r (mk (o+d))=some (.pointer (some (a.add d))):=by
 unfold qAddr at h
 split at h
 ·rename_i i o
  refine⟨_,_,h,fun r u hu=>?_⟩
  obtain⟨p,hp,rfl⟩:=real_ptr hu
  exact⟨_,rfl,fun d=>by rw[real,hp,addr_add]; rfl⟩
 ·rename_i t i s o z
  replace h:=ask_ok h
  obtain⟨h1,h⟩:=h
  have e1:=Nat.eq_of_beq_eq_true h1; subst e1
  refine⟨_,_,h,fun r u hu=>?_⟩
  obtain⟨p,m,hp,hm,rfl⟩:=real_opq2 hu
  exact⟨_,rfl,fun d=>by rw[opq2_real hp hm,addr_add,Nat.add_assoc]⟩
 ·cases h
noncomputable def hFAddr(P:Program)(fl:Nat)(s:TypeId)(x:Operand)(i:Nat)(h:Hp)(env:Tr AV)(k:AV→Bool):Bool:=evK fl h env x fun v=>qAddr v fun o mk=>tyK P s fun d=>isStructT d fun fs=>nthK fs.toList i fun f=>szK P f.type fun z=>ife (Nat.beq z 0) false (natK (Nat.add o f.offset) fun o=>k (mk o))
theorem hFAddr_ok{s:TypeId}{x:Operand}{i:Nat}(hk:hFAddr P fl s x i h env k=true): ∃v,k v=true∧Yo P fl (.fieldAddr s x i) ty env h v:=by
 obtain⟨v,hk,h2⟩:=evK_ok hk
 obtain⟨o,mk,hk,hmk⟩:=qAddr_ok (x:=v) hk
 obtain⟨d,hd,hk⟩:=tyK_ok hk
 obtain⟨fs,rfl,hk⟩:=isStructT_ok hk
 obtain⟨f,hf,hk⟩:=nthK_ok hk
 obtain⟨inf,hi,hk⟩:=infoK_ok hk
 rcases ife_ok hk with ⟨_,hk⟩|⟨hz,hk⟩
 ·cases hk
 rw[natK_eq] at hk
 have hf':fs[i]?=some f:=by simpa using hf
 have hz':inf.size≠0:=fun c=>by rw[c] at hz; cases hz
 refine⟨_,hk,one_ok h2 fun S w0 r w u _ hu=>?_⟩
 obtain⟨a,rfl,ha⟩:=hmk r u hu
 exact⟨_,ha f.offset,fun ρ dst pos af g e=>by simp[execOp,e,Instr.fieldAt,run_underlying hd,hf',Instr.sureAddr,fieldPlace,run_size hi,hz']⟩
noncomputable def opqI(v w:AV)(k:Nat→Nat→Nat→Bool)(d:Bool):Bool:=match v with
 | .opq t b _ _ z=>ask (Nat.beq t 1) (match w with
  | .opq t' _ s _ _=>ask (Nat.beq t' 0) (k b s z)
  | _=>d)
 | _=>d
theorem real_opq1{r:Ren}{i s o z:Nat}{u:Value}(h:real r (.opq 1 i s o z)=some u): ∃p,r i=some p∧0 < z∧r.sg.dd.length * z≤p.2∧p.2 / z≤maxLen∧r.sg.cd s∧u = .slice (some ⟨p.1,0,none⟩) r.sg.dd.length (p.2 / z):=by
 have h:=real_opq h
 unfold opqR at h
 obtain⟨p,hp,h⟩:=Option.bind_eq_some_iff.1 h
 split at h
 ·rename_i c; cases h; exact⟨p,hp,c.1,c.2.1,c.2.2.1,c.2.2.2,rfl⟩
 ·cases h
theorem opq7_real{r:Ren}{i m o z:Nat}{p:Nat×Nat}(hp:r i=some p)(hm:m < r.sg.dd.length):real r (.opq 7 i m o z)=some (.pointer (some ⟨p.1,m * z+o,none⟩)):=by
 simp only[real]
 show((r i).bind fun p=>if m < r.sg.dd.length then some (Value.pointer (some ⟨p.1,m * z+o,none⟩)) else none)=_
 rw[hp,Option.bind_some,if_pos hm]
theorem real_opq7{r:Ren}{i m o z:Nat}{u:Value}(h:real r (.opq 7 i m o z)=some u): ∃p,r i=some p∧m < r.sg.dd.length∧u = .pointer (some ⟨p.1,m * z+o,none⟩):=by
 obtain⟨p,hp,h⟩:=Option.bind_eq_some_iff.1 (show((r i).bind fun p=>if m < r.sg.dd.length then some (Value.pointer (some ⟨p.1,m * z+o,none⟩)) else none)=some u from real_opq h)
 split at h
 ·rename_i hm; cases h; exact⟨p,hp,hm,rfl⟩
 ·cases h
theorem opqI_ok{v w:AV}{k:Nat→Nat→Nat→Bool}{d:Bool}(h:opqI v w k d=true):d=true∨∃b s z c o i' o' z',v = .opq 1 b c o z∧w = .opq 0 i' s o' z'∧k b s z=true:=by
 unfold opqI at h
 split at h
 ·rename_i t b c o z
  replace h:=ask_ok h
  obtain⟨h1,h⟩:=h
  have e1:=Nat.eq_of_beq_eq_true h1; subst e1
  split at h
  ·rename_i t' i' s o' z'
   replace h:=ask_ok h
   obtain⟨h1,h⟩:=h
   have e1:=Nat.eq_of_beq_eq_true h1; subst e1
   exact .inr ⟨_,_,_,_,_,_,_,_,rfl,rfl,h⟩
  ·exact .inl h
 ·exact .inl h
noncomputable def hIAddr(P:Program)(fl:Nat)(t:TypeId)(x y:Operand)(h:Hp)(env:Tr AV)(k:AV→Bool):Bool:=evK fl h env x fun v=>evK fl h env y fun w=>opqI v w (fun b s z=>tyK P t fun d=>isSliceT d fun e=>szK P e fun z'=>ask (Nat.beq z z') (k (.opq 2 b s 0 z))) (qInt w fun _ i=>ife (iLt i 0) false (tyK P t fun d=>match v with
 | .ptr b o=>isArrT d fun n e=>ask (Nat.blt i.toNat n) (szK P e fun s=>natK (Nat.add o (Nat.mul i.toNat s)) fun o=>k (.ptr b o))
 | .sl b o n _=>isSliceT d fun e=>ask (Nat.blt i.toNat n) (szK P e fun s=>natK (Nat.add o (Nat.mul i.toNat s)) fun o=>k (.ptr b o))
 | .slx b o n _=>isSliceT d fun e=>ask (Nat.blt i.toNat n) (szK P e fun s=>natK (Nat.add o (Nat.mul i.toNat s)) fun o=>k (.ptr b o))
 | .opq t b c _ z=>ask (Nat.beq t 1) (ask (fullB c) (ask (Nat.blt i.toNat (cntB c)) (isSliceT d fun e=>szK P e fun s=>ask (Nat.beq z s) (natK i.toNat fun m=>k (.opq 7 b m 0 z)))))
 | _=>false))
theorem hIAddr_ok{t:TypeId}{x y:Operand}(hk:hIAddr P fl t x y h env k=true): ∃v,k v=true∧Yo P fl (.indexAddr t x y) ty env h v:=by
 obtain⟨v,hk,h2⟩:=evK_ok hk
 obtain⟨w,hk,h3⟩:=evK_ok hk
 rcases opqI_ok hk with hk|⟨b,s,z,c,o,i',o',z',rfl,rfl,hk⟩
 rotate_left
 ·obtain⟨d,hd,hk⟩:=tyK_ok hk
  obtain⟨e,rfl,hk⟩:=isSliceT_ok hk
  obtain⟨inf,hi,hk⟩:=infoK_ok hk
  replace hk:=ask_ok hk
  obtain⟨h1,hk⟩:=hk
  have h1:=Nat.eq_of_beq_eq_true h1
  refine⟨_,hk,two_ok h2 h3 fun S w0 r w u u' _ hu hu'=>?_⟩
  obtain⟨p,hp,_,_,_,_,rfl⟩:=real_opq1 hu
  obtain⟨m,hm,rfl⟩:=real_opq0 hu'
  have h4:m < r.sg.dd.length:=(List.getElem?_eq_some_iff.1 (standsAt_at hm)).1
  have h5:(Int.ofNat m) < (r.sg.dd.length:Int):=by simpa using h4
  exact⟨_,opq2_real hp hm,fun ρ dst pos af g e1 e2=>by simp[execOp,e1,e2,Instr.indexAt,asIntOf,run_underlying hd,Instr.sureAddr,h4,run_size hi,addr_add,h1]⟩
 obtain⟨j,i,rfl,hk⟩:=qInt_ok (x:=w) hk
 rcases ife_ok hk with ⟨_,hk⟩|⟨h0,hk⟩
 ·cases hk
 rw[iLt_eq] at h0
 have h0:0≤i:=by simpa using h0
 obtain⟨d,hd,hk⟩:=tyK_ok hk
 cases v with
 | ptr b o=>
  obtain⟨n,e,rfl,hk⟩:=isArrT_ok hk
  replace hk:=ask_ok hk
  obtain⟨h1,hk⟩:=hk
  obtain⟨inf,hi,hk⟩:=infoK_ok hk
  replace hk:natK (Nat.add o (Nat.mul i.toNat inf.size)) (fun o=>k (.ptr b o))=true:=hk
  rw[natK_eq] at hk
  have h1:=blt_lt h1
  refine⟨_,hk,two_ok h2 h3 fun S w0 r w u u' _ hu hu'=>?_⟩
  obtain⟨p,hp,rfl⟩:=real_ptr hu
  have:=real_int hu'; subst this
  have h4:i < (n:Int):=by omega
  exact⟨_,by rw[real,hp]; rfl,fun ρ dst pos af g e1 e2=>by simp[execOp,e1,e2,Instr.indexAt,asIntOf,run_underlying hd,Instr.sureAddr,h0,h4,run_size hi,addr_add]⟩
 | sl b o n c=>
  obtain⟨e,rfl,hk⟩:=isSliceT_ok hk
  replace hk:=ask_ok hk
  obtain⟨h1,hk⟩:=hk
  obtain⟨inf,hi,hk⟩:=infoK_ok hk
  replace hk:natK (Nat.add o (Nat.mul i.toNat inf.size)) (fun o=>k (.ptr b o))=true:=hk
  rw[natK_eq] at hk
  have h1:=blt_lt h1
  refine⟨_,hk,two_ok h2 h3 fun S w0 r w u u' _ hu hu'=>?_⟩
  obtain⟨p,hp,rfl⟩:=real_sl hu
  have:=real_int hu'; subst this
  have h4:i < (n:Int):=by omega
  exact⟨_,by rw[real,hp]; rfl,fun ρ dst pos af g e1 e2=>by simp[execOp,e1,e2,Instr.indexAt,asIntOf,run_underlying hd,Instr.sureAddr,h0,h4,run_size hi,addr_add]⟩
 | slx b o n c=>
  obtain⟨e,rfl,hk⟩:=isSliceT_ok hk
  replace hk:=ask_ok hk
  obtain⟨h1,hk⟩:=hk
  obtain⟨inf,hi,hk⟩:=infoK_ok hk
  replace hk:natK (Nat.add o (Nat.mul i.toNat inf.size)) (fun o=>k (.ptr b o))=true:=hk
  rw[natK_eq] at hk
  have h1:=blt_lt h1
  refine⟨_,hk,two_ok h2 h3 fun S w0 r w u u' _ hu hu'=>?_⟩
  obtain⟨p,hp,_,_,_,rfl⟩:=real_slx hu
  have:=real_int hu'; subst this
  have h4:i < (n:Int):=by omega
  exact⟨_,by rw[real,hp]; rfl,fun ρ dst pos af g e1 e2=>by simp[execOp,e1,e2,Instr.indexAt,asIntOf,run_underlying hd,Instr.sureAddr,h0,h4,run_size hi,addr_add]⟩
 | opq t b c o z=>
  obtain⟨h1,hk⟩:=ask_ok hk
  have e0:=Nat.eq_of_beq_eq_true h1
  obtain⟨hf,hk⟩:=ask_ok hk
  obtain⟨hm,hk⟩:=ask_ok hk
  obtain⟨e,rfl,hk⟩:=isSliceT_ok hk
  obtain⟨inf,hi,hk⟩:=infoK_ok hk
  obtain⟨hz,hk⟩:=ask_ok hk
  have hz:=Nat.eq_of_beq_eq_true hz
  have hm:=blt_lt hm
  rw[natK_eq] at hk
  refine⟨_,hk,two_ok h2 h3 fun S w0 r w u u' _ hu hu'=>?_⟩
  rw[e0] at hu
  obtain⟨p,hp,_,_,_,hcd,rfl⟩:=real_opq1 hu
  have:=real_int hu'; subst this
  have hl:=full_len hf hcd
  have h4:i.toNat < r.sg.dd.length:=by omega
  have h5:i < (r.sg.dd.length:Int):=by omega
  exact⟨_,opq7_real hp h4,fun ρ dst pos af g e1 e2=>by simp[execOp,e1,e2,Instr.indexAt,asIntOf,run_underlying hd,Instr.sureAddr,h0,h5,run_size hi,addr_add,hz]⟩
 | _=>cases hk
noncomputable def hIface(P:Program)(fl:Nat)(t:TypeId)(x:Operand)(h:Hp)(env:Tr AV)(k:AV→Bool):Bool:=evK fl h env x fun v=>tyK P t fun d=>ife (isIfaceT d true) false (k (.ifc t v))
theorem hIface_ok{t:TypeId}{x:Operand}(hk:hIface P fl t x h env k=true): ∃v,k v=true∧Yo P fl (.makeInterface t x) ty env h v:=by
 obtain⟨v,hk,h2⟩:=evK_ok hk
 obtain⟨d,hd,hk⟩:=tyK_ok hk
 rcases ife_ok hk with ⟨_,hk⟩|⟨hn,hk⟩
 ·cases hk
 refine⟨_,hk,one_ok h2 fun S w0 r w u _ hu=>⟨.iface t u,by simp only[real,hu,Option.map_some],fun ρ dst pos af g e=>?_⟩⟩
 simp only[execOp,e,Instr.makeInterface,Sem.run_bind,run_underlying hd,Result.andThen_ok]
 cases d with
 | interface m=>cases hn
 | _=>rfl
noncomputable def hFunc(fl:Nat)(fn:Fn)(a b:Array Operand)(h:Hp)(env:Tr AV)(k:AV→Bool):Bool:=evsK fl h env a.toList fun a=>evsK fl h env b.toList fun b=>k (.fn fn a b)
theorem hFunc_ok{fn:Fn}{a b:Array Operand}(hk:hFunc fl fn a b h env k=true): ∃v,k v=true∧Yo P fl (.makeFunc fn a b) ty env h v:=by
 obtain⟨x,hk,h2⟩:=evsK_ok hk
 obtain⟨y,hk,h3⟩:=evsK_ok hk
 refine⟨_,hk,fun S w0 r f w hf hR=>?_⟩
 obtain⟨us,hus,hx⟩:=h2 S w0 r f w hf hR
 obtain⟨vs,hvs,hy⟩:=h3 S w0 r f w hf hR
 refine⟨.func fn us.toArray vs.toArray,by simp only[real,hus,hvs,Option.bind_some,Option.map_some],fun dst pos af g ac ha=>?_⟩
 have e1:a.map ac.eval=us.toArray:=by apply Array.ext'; simp[hx ac ha]
 have e2:b.map ac.eval=vs.toArray:=by apply Array.ext'; simp[hy ac ha]
 simp[execOp,Instr.makeFunc,e1,e2]
noncomputable def optN(fl:Nat)(x:Option Operand)(d:Nat)(h:Hp)(env:Tr AV)(k:Nat→Bool):Bool:=Option.rec (motive:=fun _=>Bool) (k d) (fun x=>evK fl h env x fun v=>qInt v fun _ i=>Int.rec (motive:=fun _=>Bool) (fun n=>natK n k) (fun _=>false) i) x
theorem optN_ok{x:Option Operand}{d:Nat}{k:Nat→Bool}(hk:optN fl x d h env k=true): ∃n,k n=true∧((x=none∧n=d)∨∃o kd,x=some o∧Ev fl env h (.int kd (n:Int)) fun f=>f.ev o):=by
 cases x with
 | none=>exact⟨d,hk,.inl ⟨rfl,rfl⟩⟩
 | some o=>
  obtain⟨v,hk,h2⟩:=evK_ok hk
  obtain⟨j,i,rfl,hk⟩:=qInt_ok (x:=v) hk
  cases i with
  | negSucc n=>cases hk
  | ofNat n=>
   replace hk:natK n k=true:=hk
   rw[natK_eq] at hk
   exact⟨n,hk,.inr ⟨o,j,rfl,h2⟩⟩
end
end Go.Proofs.YtbhbdeelpopgoaaGreatDoor.E

namespace Go.Proofs.YtbhbdeelpopgoaaGreatDoor.E
open Go Go.RowKit H
section
variable {P : Program} {fl : Nat} {env : Tr AV} {h : Hp} {ty : TypeId} {k : AV → Bool}
def Bd(x:Option Value)(n d:Nat):Prop:=(x=none∧n=d)∨∃kd:IntKind,x=some (.int kd (n:Int))
theorem run_bound{kd:IntKind}{n y:Nat}{c:BoundsCode}{w:World}(hn:n≤y):(Instr.sliceBound (.int kd (n:Int)) y c).run P w = .ok n w:=by
 have:(n:Int)≤(y:Int):=by omega
 simp[Instr.sliceBound,asIntOf,this]
theorem run_bounds{b:Bool}{len cap:Nat}{lo hi mx:Option Value}{l h m:Nat}{w:World}(h1:Bd lo l 0)(h2:Bd hi h len)(h3:Bd mx m cap)(a:l≤h)(c:h≤m)(d:m≤cap)(hn:mx≠none→hi≠none):(Instr.sliceBounds b len cap lo hi mx).run P w = .ok (l,h,m) w:=by
 have e1 : ∀(kd:IntKind) (y:BoundsCode) (w:World),(Instr.sliceBound (.int kd (l:Int)) h y).run P w = .ok l w:=fun kd y w=>run_bound a
 have e2 : ∀(kd:IntKind) (y:BoundsCode) (w:World),(Instr.sliceBound (.int kd (h:Int)) m y).run P w = .ok h w:=fun kd y w=>run_bound c
 have e3 : ∀(kd:IntKind) (y:BoundsCode) (w:World),(Instr.sliceBound (.int kd (m:Int)) cap y).run P w = .ok m w:=fun kd y w=>run_bound d
 rcases h3 with ⟨rfl,rfl⟩|⟨k3,rfl⟩
 ·rcases h1 with ⟨rfl,rfl⟩|⟨k1,rfl⟩ <;> rcases h2 with ⟨rfl,rfl⟩|⟨k2,rfl⟩ <;> simp[Instr.sliceBounds,e1,e2]
 ·rcases h2 with ⟨rfl,rfl⟩|⟨k2,rfl⟩
  ·exact(hn (by simp) rfl).elim
  ·rcases h1 with ⟨rfl,rfl⟩|⟨k1,rfl⟩ <;> simp[Instr.sliceBounds,e1,e2,e3]
theorem bd_of{x:Option Operand}{n d:Nat}(hx:(x=none∧n=d)∨∃o kd,x=some o∧Ev fl env h (.int kd (n:Int)) fun f=>f.ev o){S:Nat→Prop}{w0:World}{r:Ren}{f:Fr}{w:World}(hf:FrOk r env f)(hR:Rel S w0 fl r h w): ∀a,Ag f a→Bd (x.map a.eval) n d:=by
 intro a ha
 rcases hx with ⟨rfl,rfl⟩|⟨o,kd,rfl,he⟩
 ·exact .inl ⟨rfl,rfl⟩
 ·obtain⟨u,hu,hx⟩:=he S w0 r f w hf hR
  have:=real_int hu; subst this
  exact .inr ⟨kd,by simp[ha.eval hx]⟩
noncomputable def isNone{α:Type}(x:Option α):Bool:=Option.rec (motive:=fun _=>Bool) true (fun _=>false) x
theorem isNone_ok{α:Type}{x:Option α}(hx:isNone x=true):x=none:=by cases x <;> first|rfl|cases hx
theorem isNone_no{α:Type}{x:Option α}(hx:isNone x=false):x≠none:=fun c=>by subst c; cases hx
noncomputable def bdK(fl:Nat)(lo hi mx:Option Operand)(len cap:Nat)(h:Hp)(env:Tr AV)(k:Nat→Nat→Nat→Bool):Bool:=optN fl lo 0 h env fun l=>optN fl hi len h env fun hh=>optN fl mx cap h env fun m=>ask (Nat.ble l hh) (ask (Nat.ble hh m) (ask (Nat.ble m cap) (ife (isNone mx) (k l hh m) (ife (isNone hi) false (k l hh m)))))
theorem bdK_ok{lo hi mx:Option Operand}{len cap:Nat}{k:Nat→Nat→Nat→Bool}(hk:bdK fl lo hi mx len cap h env k=true): ∃l hh m,k l hh m=true∧l≤hh∧hh≤m∧m≤cap∧(mx=none→m=cap)∧
  ∀S w0 r f w,FrOk r env f→Rel S w0 fl r h w→∀(b:Bool) (cap':Nat) (w':World) a,cap≤cap'→Ag f a→(Instr.sliceBounds b len cap' (lo.map a.eval) (hi.map a.eval) (mx.map a.eval)).run P w' = .ok (l,hh,if mx.isNone then cap' else m) w':=by
 obtain⟨l,hk,h1⟩:=optN_ok hk
 obtain⟨hh,hk,h2⟩:=optN_ok hk
 obtain⟨m,hk,h3⟩:=optN_ok hk
 obtain⟨a1,hk⟩:=ask_ok hk
 obtain⟨a2,hk⟩:=ask_ok hk
 obtain⟨a3,hk⟩:=ask_ok hk
 have a1:=ble_le a1
 have a2:=ble_le a2
 have a3:=ble_le a3
 have hm:mx=none→m=cap:=fun c=>by
  rcases h3 with ⟨_,e⟩|⟨o,_,e,_⟩
  ·exact e
  ·rw[c] at e; cases e
 have fin:k l hh m=true→(mx≠none→hi≠none)→∃l hh m,k l hh m=true∧l≤hh∧hh≤m∧m≤cap∧(mx=none→m=cap)∧
   ∀S w0 r f w,FrOk r env f→Rel S w0 fl r h w→∀(b:Bool) (cap':Nat) (w':World) a,cap≤cap'→Ag f a→(Instr.sliceBounds b len cap' (lo.map a.eval) (hi.map a.eval) (mx.map a.eval)).run P w' = .ok (l,hh,if mx.isNone then cap' else m) w':=fun q c=>
  ⟨l,hh,m,q,a1,a2,a3,hm,fun S w0 r f w hf hR b cap' w' a hcap ha=>by
   have hn:mx.map a.eval≠none→hi.map a.eval≠none:=fun e=>by
    have:mx≠none:=fun c=>e (by rw[c]; rfl)
    have:=c this
    cases hi with
    | none=>exact absurd rfl this
    | some o=>simp
   cases mx with
   | none=>
    have:=hm rfl
    show _=Result.ok (l,hh,cap') w'
    exact run_bounds (bd_of h1 hf hR a ha) (bd_of h2 hf hR a ha) (.inl ⟨rfl,rfl⟩) a1 (by omega) (Nat.le_refl _) hn
   | some o=>
    show _=Result.ok (l,hh,m) w'
    refine run_bounds (bd_of h1 hf hR a ha) (bd_of h2 hf hR a ha) ?_ a1 a2 (by omega) hn
    rcases bd_of h3 hf hR a ha with ⟨e,_⟩|e
    ·cases e
    ·exact .inr e⟩
 rcases ife_ok hk with ⟨e,hk⟩|⟨e,hk⟩
 ·exact fin hk fun c=>absurd (isNone_ok e) c
 ·rcases ife_ok hk with ⟨_,hk⟩|⟨e2,hk⟩
  ·cases hk
  ·exact fin hk fun _=>isNone_no e2
noncomputable def offN(o l m z:Nat)(k:Nat→Bool):Bool:=ife (Nat.beq m l) (k o) (natK (Nat.add o (Nat.mul l z)) k)
theorem offN_eq(o l m z:Nat)(k:Nat→Bool):offN o l m z k=k (if m=l then o else o+l * z):=by
 unfold offN
 rw[beq_dec]
 by_cases e:m=l
 ·simp[e,ife]
 ·simp only[e,decide_false,ife,if_neg,not_false_eq_true]
  exact natK_eq _ _
noncomputable def hSlice(P:Program)(fl:Nat)(t:TypeId)(x:Operand)(lo hi mx:Option Operand)(h:Hp)(env:Tr AV)(k:AV→Bool):Bool:=evK fl h env x fun v=>tyK P t fun d=>match v with
 | .ptr b o=>isArrT d fun n e=>bdK fl lo hi mx n n h env fun l hh m=>szK P e fun z=>offN o l m z fun o=>natK (Nat.sub hh l) fun n=>natK (Nat.sub m l) fun c=>k (.sl b o n c)
 | .nils=>isSliceT d fun e=>bdK fl lo hi mx 0 0 h env fun _ _ _=>szK P e fun _=>k .nils
 | .sl b o n c=>isSliceT d fun e=>bdK fl lo hi mx n c h env fun l hh m=>szK P e fun z=>offN o l m z fun o=>natK (Nat.sub hh l) fun n=>natK (Nat.sub m l) fun c=>k (.sl b o n c)
 | .slx b o n z=>isSliceT d fun e=>szK P e fun z'=>ask (Nat.beq z' z) (ife (isNone mx)
   (bdK fl lo hi none n n h env fun l hh _=>ife (Nat.beq l 0) (k (.slx b o hh z)) (ife (Nat.blt l hh) (natK (Nat.add o (Nat.mul l z)) fun o=>natK (Nat.sub hh l) fun n=>k (.slx b o n z)) (k (.sly b o l z))))
   (bdK fl lo hi mx n n h env fun l hh m=>offN o l m z fun o=>natK (Nat.sub hh l) fun n=>natK (Nat.sub m l) fun c=>k (.sl b o n c)))
 | .str s=>isStrT d (ask (isNone mx) (lenK s fun n=>bdK fl lo hi none n n h env fun l hh _=>dropK s l fun s=>takeK s (Nat.sub hh l) fun s=>k (.str s)))
 | _=>false
theorem bytes_sub{s t:List Nat}(hs:Bytes s)(ht : ∀x∈t,x∈s):Bytes t:=bytes_of fun x hx=>bytes_at hs x (ht x hx)
theorem div_sub(a l z o:Nat):(a - (o+l * z)) / z=(a - o) / z - l:=by
 rw[Nat.sub_add_eq,Nat.mul_comm,Nat.sub_mul_div]
theorem real_moved{r:Ren}{b o l hh z:Nat}{p:Nat×Nat}(hp:r b=some p)(hz:0 < z)(hb:o+hh * z≤p.2)(hl:l≤hh)(hm:(p.2 - o) / z≤maxLen):
  real r (.slx b (o+l * z) (hh - l) z)=some (.slice (some ⟨p.1,o+l * z,none⟩) (hh - l) ((p.2 - o) / z - l)):=by
 have e:o+l * z+(hh - l) * z=o+hh * z:=by
  rw[Nat.add_assoc,←Nat.add_mul]
  congr 2; omega
 simp only[real,hp,Option.bind_some]
 rw[if_pos ⟨hz,by rw[e]; exact hb,by rw[div_sub]; omega⟩,div_sub]
theorem hSlice_ok{t:TypeId}{x:Operand}{lo hi mx:Option Operand}(hk:hSlice P fl t x lo hi mx h env k=true): ∃v,k v=true∧Yo P fl (.slice t x lo hi mx) ty env h v:=by
 obtain⟨v,hk,h2⟩:=evK_ok hk
 obtain⟨d,hd,hk⟩:=tyK_ok hk
 cases v with
 | ptr b o=>
  obtain⟨n,e,rfl,hk⟩:=isArrT_ok hk
  obtain⟨l,hh,m,hk,a1,a2,a3,a4,hB⟩:=bdK_ok (P:=P) hk
  obtain⟨inf,hi,hk⟩:=infoK_ok hk
  replace hk:offN o l m inf.size (fun o=>natK (Nat.sub hh l) fun n=>natK (Nat.sub m l) fun c=>k (.sl b o n c))=true:=hk
  rw[offN_eq,natK_eq,natK_eq,Nat.sub_eq,Nat.sub_eq] at hk
  refine⟨_,hk,fun S w0 r f w hf hR=>?_⟩
  obtain⟨u,hu,hx⟩:=h2 S w0 r f w hf hR
  obtain⟨p,hp,rfl⟩:=real_ptr hu
  have hB:=fun a ha=>hB S w0 r f w hf hR false n w a (Nat.le_refl _) ha
  have hm:(if mx.isNone then n else m)=m:=by
   cases mx with
   | none=>exact(a4 rfl).symm
   | some o=>rfl
  rw[hm] at hB
  refine⟨_,by rw[real,hp]; rfl,fun _ _ _ _ a ha=>?_⟩
  simp only[execOp,ha.eval hx,Instr.sliceAt,Sem.run_bind,run_underlying hd,Result.andThen_ok,Instr.sureAddr,Sem.run_pure,hB a ha,run_size hi]
  by_cases c:m=l
  ·simp[c]
  ·simp[c,addr_add]
 | nils=>
  obtain⟨e,rfl,hk⟩:=isSliceT_ok hk
  obtain⟨l,hh,m,hk,a1,a2,a3,a4,hB⟩:=bdK_ok (P:=P) hk
  obtain⟨inf,hi,hk⟩:=infoK_ok hk
  refine⟨_,hk,fun S w0 r f w hf hR=>?_⟩
  obtain⟨u,hu,hx⟩:=h2 S w0 r f w hf hR
  cases hu
  have hB:=fun a ha=>hB S w0 r f w hf hR true 0 w a (Nat.le_refl _) ha
  have hm:(if mx.isNone then 0 else m)=0:=by split <;> omega
  rw[hm] at hB
  have h0:l=0:=by omega
  have h1:hh=0:=by omega
  subst h0 h1
  refine⟨_,rfl,fun _ _ _ _ a ha=>?_⟩
  simp only[execOp,ha.eval hx,Instr.sliceAt,Instr.slice,Sem.run_bind,run_underlying hd,Result.andThen_ok,Sem.run_pure,hB a ha,run_size hi]
  simp
 | sl b o n c=>
  obtain⟨e,rfl,hk⟩:=isSliceT_ok hk
  obtain⟨l,hh,m,hk,a1,a2,a3,a4,hB⟩:=bdK_ok (P:=P) hk
  obtain⟨inf,hi,hk⟩:=infoK_ok hk
  replace hk:offN o l m inf.size (fun o=>natK (Nat.sub hh l) fun n=>natK (Nat.sub m l) fun c=>k (.sl b o n c))=true:=hk
  rw[offN_eq,natK_eq,natK_eq,Nat.sub_eq,Nat.sub_eq] at hk
  refine⟨_,hk,fun S w0 r f w hf hR=>?_⟩
  obtain⟨u,hu,hx⟩:=h2 S w0 r f w hf hR
  obtain⟨p,hp,rfl⟩:=real_sl hu
  have hB:=fun a ha=>hB S w0 r f w hf hR true c w a (Nat.le_refl _) ha
  have hm:(if mx.isNone then c else m)=m:=by
   cases mx with
   | none=>exact(a4 rfl).symm
   | some o=>rfl
  rw[hm] at hB
  refine⟨_,by rw[real,hp]; rfl,fun _ _ _ _ a ha=>?_⟩
  simp only[execOp,ha.eval hx,Instr.sliceAt,Instr.slice,Sem.run_bind,run_underlying hd,Result.andThen_ok,Sem.run_pure,hB a ha,run_size hi]
  by_cases c:m=l
  ·simp[c]
  ·simp[c,addr_add]
 | slx b o n z=>
  obtain⟨e,rfl,hk⟩:=isSliceT_ok hk
  obtain⟨inf,hi,hk⟩:=infoK_ok hk
  obtain⟨hz,hk⟩:=ask_ok hk
  have hz:=Nat.eq_of_beq_eq_true hz
  rcases ife_ok hk with ⟨hn,hk⟩|⟨hn,hk⟩
  ·have hn:=isNone_ok hn
   subst hn
   obtain⟨l,hh,m,hk,a1,a2,a3,a4,hB⟩:=bdK_ok (P:=P) hk
   have a4:=a4 rfl
   rcases ife_ok hk with ⟨hl,hk⟩|⟨hl,hk⟩
   ·have hl:=Nat.eq_of_beq_eq_true hl
    subst hl
    refine⟨_,hk,fun S w0 r f w hf hR=>?_⟩
    obtain⟨u,hu,hx⟩:=h2 S w0 r f w hf hR
    obtain⟨p,hp,q1,q2,q3,rfl⟩:=real_slx hu
    have hcap:n≤(p.2 - o) / z:=(Nat.le_div_iff_mul_le q1).2 (by omega)
    have hB:=fun a ha=>hB S w0 r f w hf hR true ((p.2 - o) / z) w a hcap ha
    have hle:hh * z≤n * z:=Nat.mul_le_mul_right _ (by omega)
    have e1:=real_moved (r:=r) (b:=b) (o:=o) (l:=0) (hh:=hh) (z:=z) hp q1 (by omega) (by omega) q3
    simp only[Nat.zero_mul,Nat.add_zero,Nat.sub_zero] at e1
    refine⟨_,e1,fun _ _ _ _ a ha=>?_⟩
    simp only[execOp,ha.eval hx,Instr.sliceAt,Instr.slice,Sem.run_bind,run_underlying hd,Result.andThen_ok,Sem.run_pure,hB a ha,run_size hi]
    by_cases c:(p.2 - o) / z=0
    ·simp[c]
    ·simp[c,addr_add]
   ·rcases ife_ok hk with ⟨hlt,hk⟩|⟨hlt,hk⟩
    rotate_left
    ·have hlt : ¬l < hh:=fun c=>by rw[show Nat.blt l hh=true from Nat.ble_eq_true_of_le c] at hlt; cases hlt
     have hlh:hh=l:=by omega
     subst hlh
     refine⟨_,hk,fun S w0 r f w hf hR=>?_⟩
     obtain⟨u,hu,hx⟩:=h2 S w0 r f w hf hR
     obtain⟨p,hp,q1,q2,q3,rfl⟩:=real_slx hu
     have hcap:n≤(p.2 - o) / z:=(Nat.le_div_iff_mul_le q1).2 (by omega)
     have hB:=fun a ha=>hB S w0 r f w hf hR true ((p.2 - o) / z) w a hcap ha
     have hle:hh * z≤n * z:=Nat.mul_le_mul_right _ (by omega)
     refine⟨_,by simp only[real,hp,Option.bind_some]; rw[if_pos ⟨q1,by omega⟩],fun _ _ _ _ a ha=>?_⟩
     simp only[execOp,ha.eval hx,Instr.sliceAt,Instr.slice,Sem.run_bind,run_underlying hd,Result.andThen_ok,Sem.run_pure,hB a ha,run_size hi]
     by_cases c:(p.2 - o) / z=hh
     ·simp[c]
     ·simp[c,addr_add,hz]
    have hlt:=blt_lt hlt
    replace hk:natK (Nat.add o (Nat.mul l z)) (fun o=>natK (Nat.sub hh l) fun n=>k (.slx b o n z))=true:=hk
    rw[natK_eq,natK_eq,Nat.sub_eq,Nat.add_eq,Nat.mul_eq] at hk
    refine⟨_,hk,fun S w0 r f w hf hR=>?_⟩
    obtain⟨u,hu,hx⟩:=h2 S w0 r f w hf hR
    obtain⟨p,hp,q1,q2,q3,rfl⟩:=real_slx hu
    have hcap:n≤(p.2 - o) / z:=(Nat.le_div_iff_mul_le q1).2 (by omega)
    have hB:=fun a ha=>hB S w0 r f w hf hR true ((p.2 - o) / z) w a hcap ha
    have hle:hh * z≤n * z:=Nat.mul_le_mul_right _ (by omega)
    have e1:=real_moved (r:=r) (b:=b) (o:=o) (l:=l) (hh:=hh) (z:=z) hp q1 (by omega) (by omega) q3
    refine⟨_,e1,fun _ _ _ _ a ha=>?_⟩
    simp only[execOp,ha.eval hx,Instr.sliceAt,Instr.slice,Sem.run_bind,run_underlying hd,Result.andThen_ok,Sem.run_pure,hB a ha,run_size hi]
    have c : ¬(p.2 - o) / z=l:=by omega
    simp[c,addr_add,hz]
  ·obtain⟨l,hh,m,hk,a1,a2,a3,a4,hB⟩:=bdK_ok (P:=P) hk
   rw[offN_eq,natK_eq,natK_eq,Nat.sub_eq,Nat.sub_eq] at hk
   refine⟨_,hk,fun S w0 r f w hf hR=>?_⟩
   obtain⟨u,hu,hx⟩:=h2 S w0 r f w hf hR
   obtain⟨p,hp,q1,q2,q3,rfl⟩:=real_slx hu
   have hcap:n≤(p.2 - o) / z:=(Nat.le_div_iff_mul_le q1).2 (by omega)
   have hB:=fun a ha=>hB S w0 r f w hf hR true ((p.2 - o) / z) w a hcap ha
   have hm:(if mx.isNone then (p.2 - o) / z else m)=m:=by
    cases mx with
    | none=>cases hn
    | some o=>rfl
   rw[hm] at hB
   refine⟨_,by rw[real,hp]; rfl,fun _ _ _ _ a ha=>?_⟩
   simp only[execOp,ha.eval hx,Instr.sliceAt,Instr.slice,Sem.run_bind,run_underlying hd,Result.andThen_ok,Sem.run_pure,hB a ha,run_size hi]
   by_cases c:m=l
   ·simp[c]
   ·simp[c,addr_add,hz]
 | str s=>
  obtain⟨rfl,hk⟩:=isStrT_ok hk
  obtain⟨hn,hk⟩:=ask_ok hk
  have hn:=isNone_ok hn
  subst hn
  replace hk:lenK s (fun n=>bdK fl lo hi none n n h env fun l hh _=>dropK s l fun s=>takeK s (Nat.sub hh l) fun s=>k (.str s))=true:=hk
  rw[lenK_eq] at hk
  obtain⟨l,hh,m,hk,a1,a2,a3,a4,hB⟩:=bdK_ok (P:=P) hk
  rw[dropK_eq,takeK_eq,Nat.sub_eq] at hk
  refine⟨_,hk,fun S w0 r f w hf hR=>?_⟩
  obtain⟨u,hu,hx⟩:=h2 S w0 r f w hf hR
  obtain⟨hb,rfl⟩:=real_str hu
  have hB:=fun a ha=>hB S w0 r f w hf hR false s.length w a (Nat.le_refl _) ha
  have hb2:Bytes ((s.drop l).take (hh - l)):=bytes_sub hb fun x hx=>List.mem_of_mem_drop (List.mem_of_mem_take hx)
  refine⟨_,str_real hb2,fun _ _ _ _ a ha=>?_⟩
  have e1:textOf ((s.drop l).take (hh - l))=((textOf s).drop l).take (hh - l):=by simp[textOf,List.map_take,List.map_drop]
  have hB:=hB a ha
  rw[←text_len,←B_size] at hB
  simp only[execOp,ha.eval hx,Instr.sliceAt,Instr.slice,Sem.run_bind,run_underlying hd,Result.andThen_ok,Sem.run_pure,e1]
  rw[show(Option.map a.eval (none:Option Operand))=none from rfl] at hB ⊢
  simp[hB,B_extract]
 | _=>cases hk
end
end Go.Proofs.YtbhbdeelpopgoaaGreatDoor.E

namespace Go.Proofs.YtbhbdeelpopgoaaGreatDoor.E
open Go Go.RowKit H
def OutV(r:Ren)(v:AV)(x:Next):Prop:=(∃u,x = .value u∧real r v=some u)∨(x = .skip∧v = .und)
def Run2(P:Program)(op:Op)(ty:TypeId)(f:Fr)(x:Next)(w w':World):Prop:=∀dst pos af g a,Ag f a→(execOp a.eval {dst:=dst,op:=op,type:=ty,pos:=pos,after:=af,guard:=g}).run P w = .ok x w'
def Eo(P:Program)(fl:Nat)(op:Op)(ty:TypeId)(env:Tr AV)(h:Hp)(v:AV)(h':Hp):Prop:=∀S w0 r f w,FrOk r env f→Rel S w0 fl r h w→∃r' w' x,Ext r r'∧Rel S w0 fl r' h' w'∧OutV r' v x∧Run2 P op ty f x w w'
theorem Yo.eo{P:Program}{fl:Nat}{op:Op}{ty:TypeId}{env:Tr AV}{h:Hp}{v:AV}(y:Yo P fl op ty env h v):Eo P fl op ty env h v h:=fun S w0 r f w hf hR=>by
 obtain⟨u,hu,hr⟩:=y S w0 r f w hf hR
 exact⟨r,w,.value u,Ext.refl r,hR,.inl ⟨u,rfl,hu⟩,hr⟩
section
variable {P : Program} {fl : Nat} {env : Tr AV} {h : Hp} {ty : TypeId}
noncomputable def cellsK(h:Hp)(i:Nat)(k:TypeId→Bool→Bool→List AV→Bool):Bool:=atK h i fun b=>Blk.rec (motive:=fun _=>Bool) (fun t o r l=>k t o r l) (fun _ _ _ _=>false) (fun _ _=>false) (fun _ _ _ _=>false) false (fun _ _=>false) (fun _=>false) b
theorem cellsK_ok{i:Nat}{k:TypeId→Bool→Bool→List AV→Bool}(hk:cellsK h i k=true): ∃t o r l,h.at i=some (.cells t o r l)∧k t o r l=true:=by
 obtain⟨b,hb,hk⟩:=atK_ok hk
 cases b with
 | cells t o r l=>exact⟨t,o,r,l,hb,hk⟩
 | _=>cases hk
theorem cell_of{r:Ren}{p:Nat×Nat}{w:World}{t:TypeId}{opn ro:Bool}{cs:List AV}(hB:BRel r p w (.cells t opn ro cs)){us:List Value}(hu:reals r cs=some us){j:Nat}{u:Value}(hj:us[j]?=some u):w.cell? ⟨p.1,j,none⟩=some u:=by
 obtain⟨c,fz,us',h1,h2,h3,h4,h5,_⟩:=hB
 rw[hu] at h3; cases h3
 rw[cell_row (off:=0) h1]
 rw[h4,List.getElem?_take] at hj
 split at hj
 ·simpa using hj
 ·cases hj
noncomputable def orowK(h:Hp)(i:Nat)(k:Nat→List (Nat×List AV)→Bool):Bool:=atK h i fun b=>Blk.rec (motive:=fun _=>Bool) (fun _ _ _ _=>false) (fun _ _ _ _=>false) (fun _ _=>false) (fun _ _ _ _=>false) false (fun z tab=>k z tab) (fun _=>false) b
theorem orowK_ok{i:Nat}{k:Nat→List (Nat×List AV)→Bool}(hk:orowK h i k=true): ∃z tab,h.at i=some (.rows z tab)∧k z tab=true:=by
 obtain⟨b,hb,hk⟩:=atK_ok hk
 cases b with
 | rows z tab=>exact⟨z,tab,hb,hk⟩
 | _=>cases hk
noncomputable def tabK(l:List (Nat×List AV))(s:Nat)(k:List AV→Bool):Bool:=List.rec (motive:=fun _=>Bool) false (fun x _ ih=>Bool.rec (motive:=fun _=>Bool) ih (k x.2) (Nat.beq x.1 s)) l
theorem tabK_ok{s:Nat}{k:List AV→Bool}: ∀{l:List (Nat×List AV)},tabK l s k=true→∃c,(s,c)∈l∧k c=true
 | [],h=>by cases h
 | x::l,h=>by
  replace h:Bool.rec (motive:=fun _=>Bool) (tabK l s k) (k x.2) (Nat.beq x.1 s)=true:=h
  cases e:Nat.beq x.1 s with
  | false=>
   rw[e] at h
   obtain⟨c,h1,h2⟩:=tabK_ok (l:=l) h
   exact⟨c,List.mem_cons_of_mem _ h1,h2⟩
  | true=>
   rw[e] at h
   have e:=Nat.eq_of_beq_eq_true e
   exact⟨x.2,by rw[←e]; exact List.mem_cons_self ..,h⟩
theorem cell_in{r:Ren}{p:Nat×Nat}{w:World}{z:Nat}{tab:List (Nat×List AV)}(hB:BRel r p w (.rows z tab)){s m:Nat}{l:List AV}(hl:(s,l)∈tabX z tab)(hm:standsAt r.sg.dd s=some m): ∃us,reals r l=some us∧∀j u,us[j]?=some u→w.cell? ⟨p.1,m * z+j,none⟩=some u:=by
 obtain⟨c,ty,fz,h1,h2,h3⟩:=hB
 obtain⟨us,h4,h5,h6⟩:=h3 _ hl m hm
 refine⟨us,h4,fun j u hj=>?_⟩
 rw[cell_row (off:=0) h1]
 rw[h6,List.getElem?_take] at hj
 split at hj
 ·simpa using hj
 ·cases hj
noncomputable def opq2(v:AV)(k:Nat→Nat→Nat→Nat→Bool)(d:Bool):Bool:=match v with
 | .opq t i s o z=>ask (Nat.beq t 2) (k i s o z)
 | _=>d
theorem opq2_ok{v:AV}{k:Nat→Nat→Nat→Nat→Bool}{d:Bool}(h:opq2 v k d=true):d=true∨∃i s o z,v = .opq 2 i s o z∧k i s o z=true:=by
 unfold opq2 at h
 split at h
 ·replace h:=ask_ok h
  obtain⟨h1,h⟩:=h
  have e1:=Nat.eq_of_beq_eq_true h1; subst e1
  exact .inr ⟨_,_,_,_,rfl,h⟩
 ·exact .inl h
noncomputable def opq7(v:AV)(k:Nat→Nat→Nat→Bool)(d:Bool):Bool:=match v with
 | .opq t i s o z=>ife (Nat.beq t 7) (ask (Nat.beq o 0) (k i s z)) d
 | _=>d
theorem opq7_ok{v:AV}{k:Nat→Nat→Nat→Bool}{d:Bool}(h:opq7 v k d=true):d=true∨∃i m z,v = .opq 7 i m 0 z∧k i m z=true:=by
 unfold opq7 at h
 split at h
 ·rcases ife_ok h with ⟨h1,h⟩|⟨_,h⟩
  ·have e1:=Nat.eq_of_beq_eq_true h1
   obtain⟨h2,h3⟩:=ask_ok h
   have e2:=Nat.eq_of_beq_eq_true h2
   exact .inr ⟨_,_,_,by rw[e1,e2],h3⟩
  ·exact .inl h
 ·exact .inl h
noncomputable def preJ(tab:List (Nat×List AV))(k:Nat→Bool):Bool:=match preOf tab with
 | .slx j o n z=>ask (Nat.beq o 0) (ask (Nat.beq n 2) (ask (Nat.beq z 1) (k j)))
 | _=>false
theorem preJ_ok{tab:List (Nat×List AV)}{k:Nat→Bool}(h:preJ tab k=true): ∃j,preOf tab = .slx j 0 2 1∧k j=true:=by
 unfold preJ at h
 split at h
 ·rename_i j o n z e
  obtain⟨h1,h⟩:=ask_ok h
  obtain⟨h2,h⟩:=ask_ok h
  obtain⟨h3,h⟩:=ask_ok h
  rw[Nat.eq_of_beq_eq_true h1,Nat.eq_of_beq_eq_true h2,Nat.eq_of_beq_eq_true h3] at e
  exact⟨j,e,h⟩
 ·cases h
theorem sumOf_bytes(s:Nat):Bytes (sumOf s):=by
 unfold sumOf
 split <;> decide
theorem vLs_real{r:Ren}{pre:AV}{q:Value}{s:Nat}(h:s=4→real r pre=some q):reals r (vL pre s)=some (vC q s):=by
 refine reals_cons.2 ⟨_,_,rfl,reals_cons.2 ⟨_,_,rfl,reals_cons.2 ⟨_,_,rfl,reals_cons.2 ⟨_,_,?_,reals_nil,rfl⟩,rfl⟩,rfl⟩,rfl⟩
 by_cases e:s=4
 ·subst e
  rw[if_pos rfl]
  exact h rfl
 ·rw[if_neg e,beq_ne e]
  rfl
theorem vL_real{r:Ren}{pre:AV}{q:Value}{s:Nat}(h:s=4→real r pre=some q):real r (.agg (vL pre s))=some (.agg (vC q s).toArray):=by
 simp only[real,vLs_real h,Option.map_some]
theorem rowL_real{r:Ren}{pre:AV}{q:Value}{s:Nat}(h:s=4→real r pre=some q):reals r (rowL pre s)=some (rowC q s):=
 reals_cons.2 ⟨_,_,str_real (by decide),reals_app (vLs_real h) (reals_app (ints_real (sumOf_bytes s)) (reals_cons.2 ⟨_,_,rfl,reals_cons.2 ⟨_,_,rfl,reals_nil,rfl⟩,rfl⟩)),rfl⟩
theorem tabA_mem(pre:AV): ∀s,s < 6→(s,rowL (pickA (Nat.beq s 4) pre .nils) s)∈tabA pre
 | 0,_=> .head _
 | 1,_=> .tail _ (.head _)
 | 2,_=> .tail _ (.tail _ (.head _))
 | 3,_=> .tail _ (.tail _ (.tail _ (.head _)))
 | 4,_=> .tail _ (.tail _ (.tail _ (.tail _ (.head _))))
 | 5,_=> .tail _ (.tail _ (.tail _ (.tail _ (.tail _ (.head _)))))
 | s+6,h=>by omega
noncomputable def kpC(j m:Nat)(n:Nat):Nat→List AV:=Nat.rec (motive:=fun _=>Nat→List AV) (fun _=>[.nils]) (fun _ ih o=> .opq 6 j m o 0::ih (Nat.succ o)) n
noncomputable def kpL(j m:Nat):List AV:= .str [98]::kpC j m 37 1
theorem kp_cells{r:Ren}{p:Nat×Nat}{w:World}{tab:List (Nat×List AV)}{j m:Nat}(hB:BRel r p w (.rows 39 tab))(hj:preOf tab = .slx j 0 2 1)(hm:m < r.sg.dd.length): ∃us,reals r (kpL j m)=some us∧us.length=39∧∀i u,us[i]?=some u→w.cell? ⟨p.1,m * 39+i,none⟩=some u:=by
 obtain⟨v,hv⟩ : ∃v,r.sg.dd[m]?=some v:=⟨_,List.getElem?_eq_getElem hm⟩
 have h6:=dd_lt r.sg v (List.mem_of_getElem? hv)
 have hs:=standsAt_self (dd_nodup r.sg) hv
 have hmem:(v,rowL (pickA (Nat.beq v 4) (.slx j 0 2 1) .nils) v)∈tabX 39 tab:=by
  show _∈tabA (preOf tab)
  rw[hj]; exact tabA_mem _ v h6
 obtain⟨us,h4,hc⟩:=cell_in hB hmem hs
 obtain⟨q,hq,hq4⟩ : ∃q,(if v=4 then (r j).map fun p=>Value.slice (some ⟨p.1,0,none⟩) 2 p.2 else some (.bool true))=some q∧(v=4→real r (pickA (Nat.beq v 4) (.slx j 0 2 1) .nils)=some q):=by
  by_cases e:v=4
  ·subst e
   obtain⟨u4,_,hu4⟩:=reals_at (j:=4) h4 (v:= .slx j 0 2 1) rfl
   obtain⟨pj,hpj,_,_,_,e2⟩:=real_slx hu4
   refine⟨u4,?_,fun _=>hu4⟩
   rw[if_pos rfl,hpj,e2]
   simp
  ·exact⟨_,if_neg e,fun z=>absurd z e⟩
 have e3:us=rowC q v:=Option.some.inj (h4.symm.trans (rowL_real hq4))
 have hL:=rowC_len q v
 have hcell : ∀o x,(rowC q v)[o]?=some x→real r (.opq 6 j m o 0)=some x:=fun o x hx=>by
  simp only[real]
  show((r.sg.dd[m]?).bind fun v=>(if v=4 then (r j).map fun p=>Value.slice (some ⟨p.1,0,none⟩) 2 p.2 else some (.bool true)).bind fun q=>(rowC q v)[o]?)=_
  rw[hv,Option.bind_some,hq,Option.bind_some]; exact hx
 have hn:(rowC q v)[38]?=some (.slice none 0 0):=by
  have h:=sumOf_len v
  simp[rowC,vC,bv,textOf,h]
 have key : ∀n o,o+n=38→reals r (kpC j m n o)=some ((rowC q v).drop o):=by
  intro n
  induction n with
  | zero=>
   intro o ho
   obtain rfl:o=38:=by omega
   rw[List.drop_eq_getElem_cons (by omega),List.drop_of_length_le (by omega)]
   have:=List.getElem?_eq_getElem (l:=rowC q v) (i:=38) (by omega)
   rw[hn] at this
   rw[←Option.some.inj this]
   exact reals_cons.2 ⟨_,_,rfl,reals_nil,rfl⟩
  | succ n ih=>
   intro o ho
   rw[List.drop_eq_getElem_cons (by omega)]
   exact reals_cons.2 ⟨_,_,hcell o _ (List.getElem?_eq_getElem (by omega)),ih (o+1) (by omega),rfl⟩
 refine⟨rowC q v,?_,hL,fun i u hu=>hc i u (e3▸hu)⟩
 rw[show rowC q v = .string (B (textOf [98]))::(rowC q v).drop 1 from rfl]
 exact reals_cons.2 ⟨_,_,str_real (by decide),key 37 1 rfl,rfl⟩
noncomputable def hLoad(P:Program)(fl:Nat)(t:TypeId)(x:Operand)(h:Hp)(env:Tr AV)(k:AV→Bool):Bool:=evK fl h env x fun v=>opq7 v (fun i m z=>orowK h i fun z' tab=>ask (Nat.beq z 39) (ask (Nat.beq z' 39) (tyK P t fun d=>ask (isAggT d) (szK P t fun n=>ask (Nat.beq n 39) (preJ tab fun j=>k (.agg (kpL j m))))))) (opq2 v (fun i s o z=>orowK h i fun z' tab=>ask (Nat.beq z z') (tabK (tabX z' tab) s fun l=>tyK P t fun d=>ife (isAggT d) (szK P t fun n=>dropK l o fun l=>takeK l n fun l=>lenK l fun m=>ask (Nat.beq m n) (k (.agg l))) (nthK l o k))) (qPtr v fun i o=>cellsK h i fun _ _ _ cs=>tyK P t fun d=>ife (isAggT d) (szK P t fun s=>dropK cs o fun l=>takeK l s fun l=>lenK l fun n=>ask (Nat.beq n s) (k (.agg l))) (nthK cs o k)))
theorem hLoad_ok{t:TypeId}{x:Operand}{k:AV→Bool}(hk:hLoad P fl t x h env k=true): ∃v,k v=true∧Yo P fl (.load t x) ty env h v:=by
 obtain⟨v,hk,h2⟩:=evK_ok hk
 rcases opq7_ok hk with hk|⟨i,m,z,rfl,hk⟩
 rotate_left
 ·replace hk:=orowK_ok hk
  obtain⟨z',tab,hb,hk⟩:=hk
  obtain⟨h1,hk⟩:=ask_ok hk
  have e1:=Nat.eq_of_beq_eq_true h1
  obtain⟨h3,hk⟩:=ask_ok hk
  have e3:=Nat.eq_of_beq_eq_true h3
  rw[e3] at hb
  obtain⟨d,hd,hk⟩:=tyK_ok hk
  obtain⟨ha,hk⟩:=ask_ok hk
  obtain⟨inf,hi,hk⟩:=infoK_ok hk
  obtain⟨hn,hk⟩:=ask_ok hk
  have hn:=Nat.eq_of_beq_eq_true hn
  obtain⟨j,hj,hk⟩:=preJ_ok hk
  refine⟨_,hk,one_ok h2 fun S w0 r w u hR hu=>?_⟩
  rw[e1] at hu
  obtain⟨p,hp,hm,rfl⟩:=real_opq7 hu
  obtain⟨us,h4,hl,hc⟩:=kp_cells (hR.at hp hb) hj hm
  refine⟨_,by rw[real,h4]; rfl,fun ρ dst pos af g e=>?_⟩
  have hc : ∀j v,us[j]?=some v→w.cell? ((⟨p.1,m * 39,none⟩:Addr).add j)=some v:=by
   intro j v hj
   rw[addr_add]
   exact hc _ _ hj
  have hr:=run_loadCells_list (P:=P) w _ _ hc
  rw[show us.length=inf.size from hl.trans hn.symm] at hr
  simp[execOp,e,Instr.loadAt,Instr.sureAddr,loadVar,run_agg hd,ha,run_size hi,hr]
 rcases opq2_ok hk with hk|⟨i,s,o,z,rfl,hk⟩
 rotate_left
 ·replace hk:=orowK_ok hk
  obtain⟨z',tab,hb,hk⟩:=hk
  replace hk:=ask_ok hk
  obtain⟨h1,hk⟩:=hk
  have e1:=Nat.eq_of_beq_eq_true h1; subst e1
  obtain⟨cs,hl,hk⟩:=tabK_ok hk
  obtain⟨d,hd,hk⟩:=tyK_ok hk
  rcases ife_ok hk with ⟨ha,hk⟩|⟨ha,hk⟩
  ·obtain⟨inf,hi,hk⟩:=infoK_ok hk
   replace hk:dropK cs o (fun l=>takeK l inf.size fun l=>lenK l fun n=>ask (Nat.beq n inf.size) (k (.agg l)))=true:=hk
   rw[dropK_eq,takeK_eq,lenK_eq] at hk
   obtain⟨hn,hk⟩:=ask_ok hk
   have hn:=Nat.eq_of_beq_eq_true hn
   refine⟨_,hk,one_ok h2 fun S w0 r w u hR hu=>?_⟩
   obtain⟨p,m,hp,hm,rfl⟩:=real_opq2 hu
   obtain⟨us,h4,hc⟩:=cell_in (hR.at hp hb) hl hm
   have hus:=reals_take inf.size (reals_drop o h4)
   refine⟨_,by rw[real,hus]; rfl,fun ρ dst pos af g e=>?_⟩
   have hlen:((us.drop o).take inf.size).length=inf.size:=(reals_len hus).trans hn
   have hc : ∀j v,((us.drop o).take inf.size)[j]?=some v→w.cell? ((⟨p.1,m * z+o,none⟩:Addr).add j)=some v:=by
    intro j v hj
    rw[addr_add,Nat.add_assoc]
    refine hc _ _ ?_
    rw[List.getElem?_take] at hj
    split at hj
    ·simpa using hj
    ·cases hj
   have hr:=run_loadCells_list (P:=P) w _ _ hc
   rw[hlen] at hr
   simp[execOp,e,Instr.loadAt,Instr.sureAddr,loadVar,run_agg hd,ha,run_size hi,hr]
  ·obtain⟨q,hz,hk⟩:=nthK_ok hk
   refine⟨q,hk,one_ok h2 fun S w0 r w u hR hu=>?_⟩
   obtain⟨p,m,hp,hm,rfl⟩:=real_opq2 hu
   obtain⟨us,h4,hc⟩:=cell_in (hR.at hp hb) hl hm
   obtain⟨x,hq,hqr⟩:=reals_at h4 hz
   have hc:=hc _ _ hq
   exact⟨x,hqr,fun ρ dst pos af g e=>by simp[execOp,e,Instr.loadAt,Instr.sureAddr,loadVar,run_agg hd,ha,load,Sem.run,hc]⟩
 obtain⟨i,o,rfl,hk⟩:=qPtr_ok (x:=v) hk
 obtain⟨bt,opn,ro,cs,hb,hk⟩:=cellsK_ok hk
 obtain⟨d,hd,hk⟩:=tyK_ok hk
 rcases ife_ok hk with ⟨ha,hk⟩|⟨ha,hk⟩
 ·obtain⟨inf,hi,hk⟩:=infoK_ok hk
  replace hk:dropK cs o (fun l=>takeK l inf.size fun l=>lenK l fun n=>ask (Nat.beq n inf.size) (k (.agg l)))=true:=hk
  rw[dropK_eq,takeK_eq,lenK_eq] at hk
  obtain⟨hl,hk⟩:=ask_ok hk
  have hl:=Nat.eq_of_beq_eq_true hl
  refine⟨_,hk,one_ok h2 fun S w0 r w u hR hu=>?_⟩
  obtain⟨p,hp,rfl⟩:=real_ptr hu
  have hB:=hR.at hp hb
  obtain⟨c,fz,us,h1,h3,h4,h5⟩:=id hB
  have hus:=reals_take inf.size (reals_drop o h4)
  refine⟨_,by rw[real,hus]; rfl,fun ρ dst pos af g e=>?_⟩
  have hlen:((us.drop o).take inf.size).length=inf.size:=(reals_len hus).trans hl
  have hc : ∀j v,((us.drop o).take inf.size)[j]?=some v→w.cell? ((⟨p.1,o,none⟩:Addr).add j)=some v:=by
   intro j v hj
   rw[addr_add]
   refine cell_of hB h4 ?_
   rw[List.getElem?_take] at hj
   split at hj
   ·simpa using hj
   ·cases hj
  have hr:=run_loadCells_list (P:=P) w _ _ hc
  rw[hlen] at hr
  simp[execOp,e,Instr.loadAt,Instr.sureAddr,loadVar,run_agg hd,ha,run_size hi,hr]
 ·obtain⟨z,hz,hk⟩:=nthK_ok hk
  refine⟨z,hk,one_ok h2 fun S w0 r w u hR hu=>?_⟩
  obtain⟨p,hp,rfl⟩:=real_ptr hu
  have hB:=hR.at hp hb
  obtain⟨c,fz,us,h1,h3,h4,h5⟩:=id hB
  obtain⟨q,hq,hqr⟩:=reals_at h4 hz
  have hc:=cell_of hB h4 hq
  exact⟨q,hqr,fun ρ dst pos af g e=>by simp[execOp,e,Instr.loadAt,Instr.sureAddr,loadVar,run_agg hd,ha,load,Sem.run,hc]⟩
noncomputable def oneA(v:AV):Bool:=AV.rec (motive_1:=fun _=>Bool) (motive_2:=fun _=>Bool) false (fun _=>true) (fun _ _=>true) (fun _=>true) true (fun _ _=>true) true (fun _ _ _ _=>true) (fun _ _ _ _=>true) (fun _ _ _ _=>true) true (fun _=>true) true (fun _ _ _ _ _=>true) true (fun _ _ _=>true) (fun _ _=>false) (fun _ _=>false) (fun _ _ _ _=>true) (fun _ _ _ _ _=>true) true (fun _ _ _ _=>true) v
theorem oneA_ok{v:AV}(h1:oneA v=true){r:Ren}{u:Value}(hu:real r v=some u):u.oneCell'=true:=by
 cases v with
 | und=>cases h1
 | agg l=>cases h1
 | tup l=>cases h1
 | str s=>obtain⟨_,rfl⟩:=real_str hu; rfl
 | ptr i o=>obtain⟨_,_,rfl⟩:=real_ptr hu; rfl
 | sl i o n c=>obtain⟨_,_,rfl⟩:=real_sl hu; rfl
 | slx i o n z=>obtain⟨_,_,_,_,_,rfl⟩:=real_slx hu; rfl
 | sly i o l z=>obtain⟨_,_,rfl⟩:=real_sly hu; rfl
 | map i=>obtain⟨_,_,rfl⟩:=real_map hu; rfl
 | fn f a b=>obtain⟨_,_,_,_,rfl⟩:=real_fn hu; rfl
 | ifc t v=>obtain⟨_,_,rfl⟩:=real_ifc hu; rfl
 | sym k s m j=>obtain⟨_,_,rfl⟩:=real_sym hu; rfl
 | opq t i s o z=>
  simp only[real] at hu
  exact(opqR_one hu).2
 | _=>cases hu; rfl
noncomputable def onesA(l:List AV)(k:Bool):Bool:=List.rec (motive:=fun _=>Bool) k (fun v _ ih=>ask (oneA v) ih) l
theorem onesA_ok: ∀{l:List AV} {k:Bool},onesA l k=true→(∀v∈l,oneA v=true)∧k=true
 | [],_,h=>⟨fun _ hv=>absurd hv (by simp),h⟩
 | a::l,k,h=>by
  obtain⟨h1,h⟩:=ask_ok h
  obtain⟨h2,h⟩:=onesA_ok (l:=l) h
  refine⟨fun v hv=>?_,h⟩
  rcases List.mem_cons.1 hv with e|hv
  ·rw[e]; exact h1
  ·exact h2 v hv
theorem ones_real{r:Ren}: ∀{l:List AV} {us:List Value},(∀v∈l,oneA v=true)→reals r l=some us→∀u∈us,u.oneCell'=true
 | [],us,_,hr,u,hu=>by rw[reals_nil] at hr; cases hr; cases hu
 | a::l,us,h1,hr,u,hu=>by
  obtain⟨x,t,hx,ht,rfl⟩:=reals_cons.1 hr
  rcases List.mem_cons.1 hu with rfl|hu
  ·exact oneA_ok (h1 a (by simp)) hx
  ·exact ones_real (fun v hv=>h1 v (by simp[hv])) ht u hu
noncomputable def cellsOf(v:AV)(k:List AV→Bool):Bool:=AV.rec (motive_1:=fun _=>Bool) (motive_2:=fun _=>Bool) (k [v]) (fun _=>k [v]) (fun _ _=>k [v]) (fun _=>k [v]) (k [v]) (fun _ _=>k [v]) (k [v]) (fun _ _ _ _=>k [v]) (fun _ _ _ _=>k [v]) (fun _ _ _ _=>k [v]) (k [v]) (fun _=>k [v]) (k [v]) (fun _ _ _ _ _=>k [v]) (k [v]) (fun _ _ _=>k [v]) (fun l _=>k l) (fun _ _=>k [v]) (fun _ _ _ _=>k [v]) (fun _ _ _ _ _=>k [v]) no (fun _ _ _ _=>no) v
theorem cellsOf_eq(v:AV)(k:List AV→Bool):cellsOf v k=k v.cells:=by cases v <;> rfl
noncomputable def spliceK(cs:List AV)(o:Nat)(vs:List AV)(n:Nat)(k:List AV→Bool):Bool:=takeK cs o fun a=>dropK cs (Nat.add o n) fun b=>catK vs b fun c=>catK a c k
theorem reals_splice{r:Ren}{cs vs:List AV}{us xs:List Value}(o n:Nat)(h1:reals r cs=some us)(h2:reals r vs=some xs):reals r (cs.take o++(vs++cs.drop (o+n)))=some (us.take o++(xs++us.drop (o+n))):=
 reals_app (reals_take o h1) (reals_app h2 (reals_drop _ h1))
theorem run_stores(P:Program)(g o:Nat)(e:TypeId)(fz:Nat×Nat): ∀(vs:List Value) (i:Nat) (c:Array Value) (w:World),w.heap[g]?=some (.cells c e fz)→o+i+vs.length≤c.size→(∀z∈vs,z.oneCell'=true)→(∀j,j < c.size→¬(fz.1≤j∧j < fz.2))→
  ∃w',(storeCells ⟨g,o,none⟩ vs i).run P w = .ok () w'∧w'.heap[g]?=some (.cells (c.toList.take (o+i)++(vs++c.toList.drop (o+i+vs.length))).toArray e fz)∧Kept (fun k=>k=g) w w'
 | [],i,c,w,hb,_,_,_=>⟨w,by simp[storeCells],by simpa using hb,Kept.refl _ _⟩
 | v::vs,i,c,w,hb,hl,h1,hf=>by
  have hl:o+i+(vs.length+1)≤c.size:=hl
  have hlt:o+i < c.size:=by omega
  have hcell:w.cell? ⟨g,o+i,none⟩=some c[o+i]:=by rw[cell_row (off:=0) hb]; exact Array.getElem?_eq_getElem hlt
  have hfr:w.frozen? ⟨g,o+i,none⟩=false:=by
   simp only[World.frozen?,hb]
   have:=hf (o+i) hlt
   simpa using this
  have hset:(w.setCell ⟨g,o+i,none⟩ v).heap[g]?=some (.cells (c.setIfInBounds (o+i) v) e fz):=H.heap_setCell_same hb v
  obtain⟨w',hr,hh,hk⟩:=run_stores P g o e fz vs (i+1) (c.setIfInBounds (o+i) v) (w.setCell ⟨g,o+i,none⟩ v) hset (by simp; omega) (fun z hz=>h1 z (by simp[hz])) (fun j hj=>hf j (by simpa using hj))
  refine⟨w',?_,?_,?_⟩
  ·have hv:=h1 v (by simp)
   have e1:(store ((⟨g,o,none⟩:Addr).add i) v).run P w = .ok () (w.setCell ⟨g,o+i,none⟩ v):=by
    rw[addr_add]
    cases v <;> first|(show Sem.run P (Sem.store .plain _ _ (Sem.pure ())) w=_; simp[Sem.run,hcell,hfr]; done)|cases hv
   simp only[storeCells,Sem.run_bind,e1,Result.andThen_ok]
   exact hr
  ·rw[hh]
   congr 2
   apply congrArg List.toArray
   rw[Array.toList_setIfInBounds]
   have e2:=list_seg_step c.toList (o+i) v vs (by simp; omega)
   simp only[Nat.add_assoc] at e2 ⊢
   simpa [Nat.add_assoc,Nat.add_comm,Nat.add_left_comm] using e2
  ·exact(Kept.setCell w _ v).trans hk fun k hk=> .inl hk
end
end Go.Proofs.YtbhbdeelpopgoaaGreatDoor.E

namespace Go.Proofs.YtbhbdeelpopgoaaGreatDoor.E
open Go Go.RowKit H
theorem splice_take{α:Type}(l xs:List α)(n o m:Nat)(hm:xs.length=m)(hn:n≤l.length)(ho:o+m≤n):(l.take n).take o++(xs++(l.take n).drop (o+m))=(l.take o++(xs++l.drop (o+m))).take n:=by
 have e1:(l.take o).length=o:=by simp; omega
 rw[List.take_take,Nat.min_eq_left (by omega),List.take_append,List.take_append,e1,hm,List.take_take,Nat.min_eq_right (by omega),List.take_of_length_le (l:=xs) (by omega),List.drop_take,Nat.sub_add_eq]
section
variable {P : Program} {fl : Nat} {env : Tr AV} {h : Hp} {ty : TypeId}
noncomputable def overK(vs:List AV):List AV→(List AV→Bool)→Bool:=List.rec (motive:=fun _=>List AV→(List AV→Bool)→Bool) (fun r k=>k r)
 (fun v _ ih r k=>List.rec (motive:=fun _=>Bool) false (fun _ t _=>hop ih t (consK k v)) r) vs
theorem overK_ok: ∀{vs r:List AV} {k:List AV→Bool},overK vs r k=true→vs.length≤r.length∧k (vs++r.drop vs.length)=true
 | [],r,k,h=>⟨Nat.zero_le _,h⟩
 | v::vs,[],k,h=>by cases h
 | v::vs,a::r,k,h=>by
  obtain⟨h1,h2⟩:=overK_ok (vs:=vs) (r:=r) (k:=fun r=>k (v::r)) h
  exact⟨Nat.succ_le_succ h1,h2⟩
noncomputable def putK(vs cs:List AV):Nat→(List AV→Bool)→Bool:=List.rec (motive:=fun _=>Nat→(List AV→Bool)→Bool) (fun o k=>Nat.rec (motive:=fun _=>Bool) (overK vs [] k) (fun _ _=>false) o)
 (fun a t ih o k=>Nat.rec (motive:=fun _=>Bool) (overK vs (a::t) k) (fun p _=>hop ih p (consK k a)) o) cs
theorem putK_ok{vs:List AV}: ∀{cs:List AV} {o:Nat} {k:List AV→Bool},putK vs cs o k=true→o+vs.length≤cs.length∧k (cs.take o++(vs++cs.drop (o+vs.length)))=true
 | [],0,k,h=>by
  obtain⟨h1,h2⟩:=overK_ok (r:=[]) h
  rw[Nat.zero_add]
  exact⟨h1,h2⟩
 | [],o+1,k,h=>by cases h
 | a::t,0,k,h=>by
  obtain⟨h1,h2⟩:=overK_ok (r:=a::t) h
  rw[Nat.zero_add]
  exact⟨h1,h2⟩
 | a::t,o+1,k,h=>by
  obtain⟨h1,h2⟩:=putK_ok (cs:=t) (o:=o) (k:=fun r=>k (a::r)) h
  have e:o+1+vs.length=(o+vs.length)+1:=by omega
  rw[e]
  exact⟨Nat.succ_le_succ h1,h2⟩
noncomputable def putH(h:Hp)(i:Nat)(b:Blk)(k:Hp→Bool):Bool:=Hp.rec (motive:=fun _=>Bool) (fun n t=>Tr.setK (some b) (bits i) t fun tr=>k ⟨n,tr⟩) h
theorem putH_eq(h:Hp)(i:Nat)(b:Blk)(k:Hp→Bool):putH h i b k=k (h.put i (some b)):=by
 cases h; exact Tr.setK_eq _ _ _ _
noncomputable def newH(h:Hp)(b:Blk)(k:Nat→Hp→Bool):Bool:=Hp.rec (motive:=fun _=>Bool) (fun n t=>ask (Nat.blt n LIM) (Tr.setK (some b) (bits n) t fun tr=>natK (Nat.succ n) fun m=>k n ⟨m,tr⟩)) h
theorem newH_ok{b:Blk}{k:Nat→Hp→Bool}(hk:newH h b k=true):h.next < LIM∧k h.next (h.new b)=true:=by
 cases h with
 | mk n t=>
  obtain⟨h1,hk⟩:=ask_ok hk
  rw[Tr.setK_eq,natK_eq] at hk
  exact⟨blt_lt h1,hk⟩
noncomputable def hStore(P:Program)(fl:Nat)(t:TypeId)(x y:Operand)(h:Hp)(env:Tr AV)(k:Hp→Bool):Bool:=evK fl h env x fun v=>qPtr v fun i o=>ask (Nat.ble fl i) (cellsK h i fun bt opn ro cs=>ife ro false (evK fl h env y fun v=>cellsOf v fun vs=>szK P t fun s=>lenK vs fun n=>ask (Nat.beq n s) (onesA vs (putK vs cs o fun cs=>putH h i (.cells bt opn ro cs) k))))
theorem hStore_ok{t:TypeId}{x y:Operand}{k:Hp→Bool}(hk:hStore P fl t x y h env k=true): ∃h',k h'=true∧Eo P fl (.store t x y) ty env h .und h':=by
 obtain⟨v,hk,h2⟩:=evK_ok hk
 obtain⟨i,o,rfl,hk⟩:=qPtr_ok (x:=v) hk
 obtain⟨hfl,hk⟩:=ask_ok hk
 have hfl:=ble_le hfl
 obtain⟨bt,opn,ro,cs,hb,hk⟩:=cellsK_ok hk
 rcases ife_ok hk with ⟨_,hk⟩|⟨hro,hk⟩
 ·cases hk
 obtain⟨v,hk,h3⟩:=evK_ok hk
 rw[cellsOf_eq] at hk
 obtain⟨inf,hi,hk⟩:=infoK_ok hk
 replace hk:lenK v.cells (fun n=>ask (Nat.beq n inf.size) (onesA v.cells (putK v.cells cs o fun cs=>putH h i (.cells bt opn ro cs) k)))=true:=hk
 rw[lenK_eq] at hk
 obtain⟨hs,hk⟩:=ask_ok hk
 have hs:=Nat.eq_of_beq_eq_true hs
 obtain⟨h1,hk⟩:=onesA_ok hk
 obtain⟨hlen,hk⟩:=putK_ok hk
 rw[putH_eq] at hk
 refine⟨_,hk,fun S w0 r f w hf hR=>?_⟩
 obtain⟨u,hu,hx⟩:=h2 S w0 r f w hf hR
 obtain⟨u2,hu2,hy⟩:=h3 S w0 r f w hf hR
 obtain⟨p,hp,rfl⟩:=real_ptr hu
 obtain⟨c,fz,us,e1,e2,e3,e4,e5,e6,e7⟩:=hR.at hp hb
 obtain⟨xs,hxs,hc⟩:=real_cells hu2
 have hxl:=reals_len hxs
 have hus:=reals_len e3
 have hcs:c.toList.length=p.2:=by simpa using e2
 obtain⟨w',hr,hh,hkp⟩:=run_stores P p.1 o bt fz xs 0 c w e1 (by omega) (ones_real h1 hxs) (fun j hj q=>by rcases e7 hro with c7|c7 <;> omega)
 refine⟨r,w',.skip,Ext.refl r,?_,.inr ⟨rfl,rfl⟩,fun _ _ _ _ a ha=>?_⟩
 ·refine hR.put hfl hp hb hkp ⟨_,fz,_,hh,?_,reals_splice o v.cells.length e3 hxs,?_,?_,fun hq=>?_,fun hq=>?_⟩
  ·simp; omega
  ·have q:(cs.take o++(v.cells++cs.drop (o+v.cells.length))).length=cs.length:=by simp; omega
   rw[q,e4]
   have:=splice_take c.toList xs cs.length o v.cells.length hxl (by omega) hlen
   simpa [hxl] using this
  ·simp; omega
  ·have:=e6 hq; simp; omega
  ·exact e7 hq
 ·have hsz:xs.length=inf.size:=hxl.trans hs
  have hr:(storeCells ⟨p.1,o,none⟩ xs).run P w = .ok () w':=hr
  simp[execOp,ha.eval hx,ha.eval hy,Instr.storeAt,Instr.sureAddr,storeVar,run_size hi,hc,hsz,hr]
theorem new_cells{S:Nat→Prop}{w0:World}{r:Ren}{w:World}(hR:Rel S w0 fl r h w)(hn:h.next < LIM){vs:List AV}{us:List Value}{t:TypeId}(hus:reals r vs=some us):
  Rel S w0 fl (upd r h.next (w.heap.size,us.length)) (h.new (.cells t false false vs)) (w.alloc (.cells us.toArray t)):=by
 have hx:=upd_ext hR (w.heap.size,us.length)
 refine hR.new hn (Kept.alloc w _) (Nat.le_refl _) ⟨us.toArray,(0,0),us,heap_alloc_new w _,by simp,reals_mono hx _ _ hus,?_,?_,fun _=>(reals_len hus).symm,fun _=> .inl rfl⟩
 ·rw[←reals_len hus]; simp
 ·exact Nat.le_of_eq (reals_len hus).symm
noncomputable def hAlloc(P:Program)(t:TypeId)(h:Hp)(k:AV→Hp→Bool):Bool:=infoK P t fun i=>someK i.zero fun z=>someK (ofV z) fun v=>cellsOf v fun cs=>newH h (.cells t false false cs) fun i h=>k (.ptr i 0) h
theorem hAlloc_ok{t:TypeId}{k:AV→Hp→Bool}(hk:hAlloc P t h k=true): ∃v h',k v h'=true∧Eo P fl (.alloc t) ty env h v h':=by
 obtain⟨inf,hi,hk⟩:=infoK_ok hk
 obtain⟨z,hz,hk⟩:=someK_ok hk
 obtain⟨v,hv,hk⟩:=someK_ok hk
 rw[cellsOf_eq] at hk
 obtain⟨hn,hk⟩:=newH_ok hk
 refine⟨_,_,hk,fun S w0 r f w hf hR=>?_⟩
 obtain⟨us,hus,hc⟩:=real_cells (ofV_ok hv r)
 refine⟨_,_,.value (.pointer (some ⟨w.heap.size,0,none⟩)),upd_ext hR _,new_cells hR hn (t:=t) hus,.inl ⟨_,rfl,by simp only[real,upd_same,Option.map_some]⟩,fun _ _ _ _ a ha=>?_⟩
 simp[execOp,Instr.alloc,run_zero hi hz,newVar,newRow,newObj,Sem.run,hc]
noncomputable def hBox(fl:Nat)(t:TypeId)(x:Operand)(h:Hp)(env:Tr AV)(k:AV→Hp→Bool):Bool:=evK fl h env x fun v=>cellsOf v fun cs=>newH h (.cells t false false cs) fun i h=>k (.ptr i 0) h
theorem hBox_ok{t:TypeId}{x:Operand}{k:AV→Hp→Bool}(hk:hBox fl t x h env k=true): ∃v h',k v h'=true∧Eo P fl (.box t x) ty env h v h':=by
 obtain⟨v,hk,h2⟩:=evK_ok hk
 rw[cellsOf_eq] at hk
 obtain⟨hn,hk⟩:=newH_ok hk
 refine⟨_,_,hk,fun S w0 r f w hf hR=>?_⟩
 obtain⟨u,hu,hx⟩:=h2 S w0 r f w hf hR
 obtain⟨us,hus,hc⟩:=real_cells hu
 refine⟨_,_,.value (.pointer (some ⟨w.heap.size,0,none⟩)),upd_ext hR _,new_cells hR hn (t:=t) hus,.inl ⟨_,rfl,by simp only[real,upd_same,Option.map_some]⟩,fun _ _ _ _ a ha=>?_⟩
 simp[execOp,ha.eval hx,Instr.box,newVar,newRow,newObj,Sem.run,hc]
end
end Go.Proofs.YtbhbdeelpopgoaaGreatDoor.E

namespace Go.Proofs.YtbhbdeelpopgoaaGreatDoor.E
open Go Go.RowKit H
section
variable {P : Program} {fl : Nat} {env : Tr AV} {h : Hp} {ty : TypeId}
noncomputable def placesK(P:Program)(fs:List Field):(List (Nat×Nat)→Bool)→Bool:=List.rec (motive:=fun _=>(List (Nat×Nat)→Bool)→Bool) (fun k=>k []) (fun f _ ih k=>szK P f.type fun s=>ih fun l=>k ((f.offset,s)::l)) fs
theorem placesK_ok: ∀{fs:List Field} {k:List (Nat×Nat)→Bool},placesK P fs k=true→∃pl,k pl=true∧∀w,(fs.mapM (fun(x:Field)=>(do pure (x.offset,←sizeOf x.type):Sem (Nat×Nat)))).run P w = .ok pl w
 | [],k,hk=>⟨[],hk,fun w=>by simp⟩
 | f::fs,k,hk=>by
  obtain⟨i,hi,hk⟩:=infoK_ok hk
  obtain⟨pl,h1,h2⟩:=placesK_ok (fs:=fs) hk
  exact⟨_,h1,fun w=>by simp only[List.mapM_cons,Sem.run_bind,run_size hi,Result.andThen_ok,Sem.run_pure,h2]⟩
theorem run_places{fs:Array Field}{pl:List (Nat×Nat)}(hp : ∀w,(fs.toList.mapM (fun(x:Field)=>(do pure (x.offset,←sizeOf x.type):Sem (Nat×Nat)))).run P w = .ok pl w)(w:World):
  (fs.mapM (fun(x:Field)=>(do pure (x.offset,←sizeOf x.type):Sem (Nat×Nat)))).run P w = .ok pl.toArray w:=by
 have e:fs.mapM (fun(x:Field)=>(do pure (x.offset,←sizeOf x.type):Sem (Nat×Nat)))=List.toArray <$> fs.toList.mapM (fun(x:Field)=>(do pure (x.offset,←sizeOf x.type):Sem (Nat×Nat))):=by
  conv=>lhs; rw[←Array.toArray_toList (xs:=fs)]
  exact List.mapM_toArray ..
 rw[e,map_eq_pure_bind,Sem.run_bind,hp w]
 simp
noncomputable def fillK(fl:Nat)(h:Hp)(env:Tr AV)(place:Nat→(Nat→Nat→Bool)→Bool)(ps:List (Nat×Operand)):List AV→(List AV→Bool)→Bool:=List.rec (motive:=fun _=>List AV→(List AV→Bool)→Bool) (fun cs k=>k cs)
 (fun p _ ih cs k=>place p.1 fun off sz=>evK fl h env p.2 fun v=>cellsOf v fun vs=>lenK vs fun n=>ask (Nat.beq n sz) (putK vs cs off fun cs=>ih cs k)) ps
theorem fillK_ok{place:Nat→(Nat→Nat→Bool)→Bool}{pl:Nat→Option (Nat×Nat)}(hpl : ∀i k,place i k=true→∃o s,pl i=some (o,s)∧k o s=true): ∀{ps:List (Nat×Operand)} {cs:List AV} {k:List AV→Bool},fillK fl h env place ps cs k=true→
  ∃cs',k cs'=true∧cs'.length=cs.length∧∀S w0 r f w,FrOk r env f→Rel S w0 fl r h w→∀us,reals r cs=some us→∃us',reals r cs'=some us'∧∀a,Ag f a→Instr.fill pl us.toArray (ps.map fun p=>(p.1,a.eval p.2))=some us'.toArray
 | [],cs,k,hk=>⟨cs,hk,rfl,fun S w0 r f w _ _ us hus=>⟨us,hus,fun a _=>rfl⟩⟩
 | (i,x)::ps,cs,k,hk=>by
  obtain⟨o,s,hp,hk⟩:=hpl _ _ hk
  obtain⟨v,hk,h2⟩:=evK_ok hk
  rw[cellsOf_eq,lenK_eq] at hk
  obtain⟨hs,hk⟩:=ask_ok hk
  have hs:=Nat.eq_of_beq_eq_true hs
  obtain⟨hlen,hk⟩:=putK_ok hk
  obtain⟨cs',h3,h4,h5⟩:=fillK_ok hpl (ps:=ps) hk
  refine⟨cs',h3,h4.trans (by simp; omega),fun S w0 r f w hf hR us hus=>?_⟩
  obtain⟨u,hu,hx⟩:=h2 S w0 r f w hf hR
  obtain⟨xs,hxs,hc⟩:=real_cells hu
  have hl:=reals_len hxs
  have hl2:=reals_len hus
  obtain⟨us',h6,h7⟩:=h5 S w0 r f w hf hR _ (reals_splice o v.cells.length hus hxs)
  refine⟨us',h6,fun a ha=>?_⟩
  rw[List.map_cons,ha.eval hx]
  rw[fill_one s o pl i u us.toArray _ hp (by rw[hc]; simp; omega) (by simp; omega)]
  rw[←h7 a ha,hc]
  simp[hs]
noncomputable def hBuild(P:Program)(fl:Nat)(t:TypeId)(ps:Array (Nat×Operand))(h:Hp)(env:Tr AV)(k:AV→Bool):Bool:=infoK P t fun i=>someK i.zero fun z=>someK (ofV z) fun v=>cellsOf v fun cs=>tyK P t fun d=>match d with
 | .struct fs=>placesK P fs.toList fun pl=>fillK fl h env (fun i k=>nthK pl i fun p=>k p.1 p.2) ps.toList cs fun cs=>k (.agg cs)
 | .array _ e=>szK P e fun s=>fillK fl h env (fun i k=>k (Nat.mul i s) s) ps.toList cs fun cs=>k (.agg cs)
 | _=>false
theorem parts_list(ps:Array (Nat×Operand))(ρ:Operand→Value):(ps.map fun(i,x)=>(i,ρ x)).toList=ps.toList.map fun p=>(p.1,ρ p.2):=by simp
theorem hBuild_ok{t:TypeId}{ps:Array (Nat×Operand)}{k:AV→Bool}(hk:hBuild P fl t ps h env k=true): ∃v,k v=true∧Yo P fl (.build t ps) ty env h v:=by
 obtain⟨inf,hi,hk⟩:=infoK_ok hk
 obtain⟨z,hz,hk⟩:=someK_ok hk
 obtain⟨v,hv,hk⟩:=someK_ok hk
 rw[cellsOf_eq] at hk
 obtain⟨d,hd,hk⟩:=tyK_ok hk
 cases d with
 | struct fs=>
  obtain⟨pl,hk,hpl⟩:=placesK_ok (P:=P) hk
  obtain⟨cs',hk,hlen,h2⟩:=fillK_ok (pl:=(pl.toArray[·]?)) (fun i k hk=>by
   obtain⟨p,hp,hk⟩:=nthK_ok hk
   exact⟨p.1,p.2,by simpa using hp,hk⟩) hk
  refine⟨_,hk,fun S w0 r f w hf hR=>?_⟩
  obtain⟨us,hus,hc⟩:=real_cells (ofV_ok hv r)
  obtain⟨us',h3,h4⟩:=h2 S w0 r f w hf hR us hus
  refine⟨_,by rw[real,h3]; rfl,fun _ _ _ _ a ha=>?_⟩
  simp only[execOp,Instr.build,Sem.run_bind,run_zero hi hz,Result.andThen_ok,run_underlying hd,run_places hpl,parts_list,hc,h4 a ha]
  rfl
 | array n e=>
  obtain⟨ie,hie,hk⟩:=infoK_ok hk
  obtain⟨cs',hk,hlen,h2⟩:=fillK_ok (pl:=fun i=>some (i * ie.size,ie.size)) (fun i k hk=>⟨_,_,rfl,hk⟩) hk
  refine⟨_,hk,fun S w0 r f w hf hR=>?_⟩
  obtain⟨us,hus,hc⟩:=real_cells (ofV_ok hv r)
  obtain⟨us',h3,h4⟩:=h2 S w0 r f w hf hR us hus
  refine⟨_,by rw[real,h3]; rfl,fun _ _ _ _ a ha=>?_⟩
  simp only[execOp,Instr.build,Sem.run_bind,run_zero hi hz,Result.andThen_ok,run_underlying hd,run_size hie,parts_list,hc,h4 a ha]
  rfl
 | _=>cases hk
noncomputable def timesK(zs:List AV)(n:Nat):List AV→(List AV→Bool)→Bool:=Nat.rec (motive:=fun _=>List AV→(List AV→Bool)→Bool) (fun l k=>k l) (fun _ ih l k=>catK zs l fun l=>ih l k) n
theorem timesK_eq(zs:List AV): ∀(n:Nat) (l:List AV) (k:List AV→Bool),timesK zs n l k=k ((List.replicate n zs).flatten++l)
 | 0,l,k=>rfl
 | n+1,l,k=>by
  show catK zs l (fun l=>timesK zs n l k)=_
  rw[catK_eq,timesK_eq zs n,List.replicate_succ',List.flatten_append]
  simp
theorem range_cells{α:Type}[Inhabited α](zero:Array α): ∀n:Nat,0 < zero.size→(Array.range (n * zero.size)).map (zero[· % zero.size]!)=((List.replicate n zero.toList).flatten).toArray:=by
 intro n hz
 apply Array.ext'
 simp only[Array.toList_map,Array.toList_range]
 induction n with
 | zero=>simp
 | succ n ih=>
  rw[Nat.succ_mul,List.range_add,List.map_append,ih,List.replicate_succ',List.flatten_append,List.map_map]
  congr 1
  apply List.ext_getElem
  ·simp
  ·intro i h1 h2
   simp only[List.length_map,List.length_range] at h1
   have e:(n * zero.size+i) % zero.size=i:=by rw[Nat.mul_comm,Nat.mul_add_mod,Nat.mod_eq_of_lt h1]
   simp[e,h1]
theorem reals_times{r:Ren}{zs:List AV}{us:List Value}(h1:reals r zs=some us): ∀n,reals r (List.replicate n zs).flatten=some (List.replicate n us).flatten
 | 0=>reals_nil
 | n+1=>by
  rw[List.replicate_succ,List.replicate_succ,List.flatten_cons,List.flatten_cons]
  exact reals_app h1 (reals_times h1 n)
noncomputable def zerosK(P:Program)(e:TypeId)(n:Nat)(k:Nat→List AV→Bool):Bool:=infoK P e fun i=>ife (Nat.beq i.size 0) false (someK i.zero fun z=>someK (ofV z) fun v=>cellsOf v fun zs=>lenK zs fun m=>ask (Nat.beq m i.size) (timesK zs n [] fun cs=>k i.size cs))
theorem zerosK_ok{e:TypeId}{n:Nat}{k:Nat→List AV→Bool}(hk:zerosK P e n k=true): ∃i cs,k i.size cs=true∧P.info? e=some i∧i.size≠0∧cs.length=n * i.size∧∃z,i.zero=some z∧z.cells.size=i.size∧∀r,∃us,reals r cs=some us∧(Array.range (n * i.size)).map (z.cells[· % z.cells.size]!)=us.toArray:=by
 obtain⟨i,hi,hk⟩:=infoK_ok hk
 rcases ife_ok hk with ⟨_,hk⟩|⟨h0,hk⟩
 ·cases hk
 have h0:i.size≠0:=fun c=>by rw[c] at h0; cases h0
 obtain⟨z,hz,hk⟩:=someK_ok hk
 obtain⟨v,hv,hk⟩:=someK_ok hk
 rw[cellsOf_eq,lenK_eq] at hk
 obtain⟨hm,hk⟩:=ask_ok hk
 have hm:=Nat.eq_of_beq_eq_true hm
 rw[timesK_eq,List.append_nil] at hk
 obtain⟨us0,hus0,hc0⟩:=real_cells (ofV_ok hv ⟨fun _=>none,fun _=>False,sg0⟩)
 have hzs:z.cells.size=i.size:=by rw[hc0]; simp[reals_len hus0,hm]
 refine⟨i,_,hk,hi,h0,?_,z,hz,hzs,fun r=>?_⟩
 ·simp[hm]
 ·obtain⟨us,hus,hc⟩:=real_cells (ofV_ok hv r)
  refine⟨_,reals_times hus n,?_⟩
  rw[←hzs,range_cells _ n (by omega),hc]
noncomputable def hBuildS(P:Program)(fl:Nat)(t:TypeId)(len:Nat)(ps:Array (Nat×Operand))(h:Hp)(env:Tr AV)(k:AV→Hp→Bool):Bool:=tyK P t fun d=>isSliceT d fun e=>zerosK P e len fun s cs=>ask (Nat.ble (Nat.mul len s) 65536) (fillK fl h env (fun i k=>k (Nat.mul i s) s) ps.toList cs fun cs=>newH h (.cells e false false cs) fun i h=>k (.sl i 0 len len) h)
theorem hBuildS_ok{t:TypeId}{len:Nat}{ps:Array (Nat×Operand)}{k:AV→Hp→Bool}(hk:hBuildS P fl t len ps h env k=true): ∃v h',k v h'=true∧Eo P fl (.buildSlice t len ps) ty env h v h':=by
 obtain⟨d,hd,hk⟩:=tyK_ok hk
 obtain⟨e,rfl,hk1⟩:=isSliceT_ok hk
 obtain⟨i,cs,hk,hi,h0,hcl,z,hz,hzs,hcs⟩:=zerosK_ok hk1
 obtain⟨hb,hk⟩:=ask_ok hk
 have hb:=ble_le hb
 obtain⟨cs',hk,hlen,h2⟩:=fillK_ok (pl:=fun j=>some (j * i.size,i.size)) (fun i k hk=>⟨_,_,rfl,hk⟩) hk
 obtain⟨hn,hk⟩:=newH_ok hk
 refine⟨_,_,hk,fun S w0 r f w hf hR=>?_⟩
 obtain⟨us,hus,hc⟩:=hcs r
 obtain⟨us',h3,h4⟩:=h2 S w0 r f w hf hR us hus
 refine⟨_,_,.value (.slice (some ⟨w.heap.size,0,none⟩) len len),upd_ext hR _,new_cells hR hn (t:=e) h3,.inl ⟨_,rfl,by simp only[real,upd_same,Option.map_some]⟩,fun _ _ _ _ a ha=>?_⟩
 have hbig : ¬(len * i.size > 2 ^ 24):=by have:len * i.size≤65536:=hb; omega
 simp only[execOp,Instr.buildSlice,Sem.run_bind,run_underlying hd,run_size hi,Result.andThen_ok,if_neg hbig,parts_list]
 by_cases c:len * i.size=0
 ·have hl:len=0:=(Nat.mul_eq_zero.1 c).resolve_right h0
  have hu:us=[]:=by
   have:=reals_len hus
   rw[hcl,c] at this
   exact List.length_eq_zero_iff.1 this
  have h4:=h4 a ha
  rw[hu] at h4
  have e0 : ∀f:Nat→Value,(Array.range 0).map f=([]:List Value).toArray:=fun f=>by apply Array.ext'; simp
  simp only[c,if_true,Sem.run_pure,Result.andThen_ok,e0,h4]
  simp[newRow,newObj,Sem.run]
 ·simp only[if_neg c,Sem.run_bind,run_zero hi hz,Result.andThen_ok,Sem.run_pure,hc,h4 a ha]
  simp[newRow,newObj,Sem.run]
end
end Go.Proofs.YtbhbdeelpopgoaaGreatDoor.E

namespace Go.Proofs.YtbhbdeelpopgoaaGreatDoor.E
open Go Go.RowKit H
section
variable {P : Program} {fl : Nat} {env : Tr AV} {h : Hp} {ty : TypeId}
structure SrcAt (P:Program) (z:Nat) (w:World) (x:Value) (m:Nat) (xs:List Value):Prop where
 len:xs.length=m * z
 lenOf : ∀w',(Builtin.lenOf x).run P w' = .ok m w'
 cells : ∀n,n≤m→∀w':World,w'.heap=w.heap→(Builtin.firstCells z n x).run P w' = .ok (xs.take (n * z)).toArray w'
theorem cell_heap{w w':World}(h:w'.heap=w.heap)(a:Addr):w'.cell? a=w.cell? a:=by simp[World.cell?,h]
theorem run_fit(P:Program){t u ty e:TypeId}{i:TypeInfo}(ht:P.underlying t=some (.slice e))(hu:P.underlying u=some .string∨∃e',P.underlying u=some (.slice e'))(hi:P.info? e=some i)(a:Addr)(n c:Nat){x:Value}{m:Nat}{xs:List Value}{w w':World}(hx:SrcAt P i.size w x m xs)
  (hroom:n+m≤c) (hst:(storeCells (a.add (n * i.size)) xs).run P w = .ok () w') :
  (Builtin.append_ #[t,u] ty #[.slice (some a) n c,x]).run P w = .ok (.slice (some a) (n+m) c) w':=by
 have h1:=hx.lenOf w
 have h2:=hx.cells m (Nat.le_refl _) w rfl
 have e2:xs.take (m * i.size)=xs:=List.take_of_length_le (by rw[hx.len]; exact Nat.le_refl _)
 rw[e2] at h2
 rcases hu with hu|⟨e',hu⟩ <;> simp[Builtin.append_,run_underlying ht,run_underlying hu,run_size hi,h1,hroom,h2,hst]
theorem run_none(P:Program){t u ty e:TypeId}{i:TypeInfo}(ht:P.underlying t=some (.slice e))(hu:P.underlying u=some .string∨∃e',P.underlying u=some (.slice e'))(hi:P.info? e=some i){x:Value}{w:World}(hx:SrcAt P i.size w x 0 []):
  (Builtin.append_ #[t,u] ty #[.slice none 0 0,x]).run P w = .ok (.slice none 0 0) w:=by
 have h1:=hx.lenOf w
 have h2:=hx.cells 0 (Nat.le_refl _) w rfl
 rcases hu with hu|⟨e',hu⟩ <;> simp[Builtin.append_,run_underlying ht,run_underlying hu,run_size hi,h1,h2]
theorem run_new(P:Program){t u ty e:TypeId}{i:TypeInfo}{z:Value}(ht:P.underlying t=some (.slice e))(hu:P.underlying u=some .string∨∃e',P.underlying u=some (.slice e'))(hi:P.info? e=some i)(hz:i.zero=some z)(b:Option Addr)(n c:Nat){x:Value}{m:Nat}{olds xs:List Value}{w:World}(hx:SrcAt P i.size w x m xs)(ho:SrcAt P i.size w (.slice b n c) n olds)
  (hroom:c < n+m) (h63:n+m≤maxLen) (hb:(n+m) * i.bytes≤140737488355328) :
  (Builtin.append_ #[t,u] ty #[.slice b n c,x]).run P w = .ok (.slice (some ⟨w.heap.size,0,none⟩) (n+m) (grownCap w (n+m) c e))
    (w.drew.alloc (.cells (olds++(xs++(Builtin.zeroCells z.cells (grownCap w (n+m) c e - (n+m))).toList)).toArray e)):=by
 have h1:=hx.lenOf w
 have h2:=hx.cells m (Nat.le_refl _) w.drew rfl
 have h3:=ho.cells n (Nat.le_refl _) w.drew rfl
 have e2:xs.take (m * i.size)=xs:=List.take_of_length_le (by rw[hx.len]; exact Nat.le_refl _)
 have e3:olds.take (n * i.size)=olds:=List.take_of_length_le (by rw[ho.len]; exact Nat.le_refl _)
 rw[e2] at h2
 rw[e3] at h3
 have hn : ¬(n+m≤c):=by omega
 simp only[maxLen] at h63
 have h63' : ¬(9223372036854775807 < ((n:Int)+(m:Int))):=by omega
 have h48:=growslice_fits hroom hb
 have h48' : ¬(281474976710656 < Builtin.nextslicecap (n+m) c * i.bytes):=by omega
 rcases hu with hu|⟨e',hu⟩
 all_goals
  simp[Builtin.append_,run_underlying ht,run_underlying hu,run_size hi,typeInfo,zeroValue,hi,hz,h1,hn,h63',h48',Question.forced,h2,h3,newRow,grownCap]
  congr 2
  apply Array.ext'
  simp
noncomputable def srcK(z:Nat)(v:AV)(h:Hp)(k:Nat→List AV→Bool):Bool:=match v with
 | .nils=>k 0 []
 | .sl i o n _=>cellsK h i fun _ _ _ cs=>dropK cs o fun l=>takeK l (Nat.mul n z) fun l=>lenK l fun m=>ask (Nat.beq m (Nat.mul n z)) (k n l)
 | .sly _ _ _ _=>k 0 []
 | .slx i o n _=>cellsK h i fun _ _ _ cs=>dropK cs o fun l=>takeK l (Nat.mul n z) fun l=>lenK l fun m=>ask (Nat.beq m (Nat.mul n z)) (k n l)
 | .str s=>ask (Nat.beq z 1) (lenK s fun n=>bytesA s fun l=>k n l)
 | _=>false
where
 bytesA (s:List Nat):(List AV→Bool)→Bool:=List.rec (motive:=fun _=>(List AV→Bool)→Bool) (fun k=>k []) (fun b _ ih k=>hop ih (consK k (.int .u8 (.ofNat b)))) s
theorem bytesA_eq: ∀(s:List Nat) (k:List AV→Bool),srcK.bytesA s k=k (ints s)
 | [],k=>rfl
 | b::s,k=>bytesA_eq s fun l=>k (.int .u8 (.ofNat b)::l)
theorem src_row{S:Nat→Prop}{w0:World}{r:Ren}{w:World}(hR:Rel S w0 fl r h w){i o n z:Nat}{p:Nat×Nat}(hp:r i=some p){t:TypeId}{opn ro:Bool}{cs:List AV}(hb:h.at i=some (.cells t opn ro cs))(hl:((cs.drop o).take (n * z)).length=n * z)(c:Nat):
  ∃us,reals r ((cs.drop o).take (n * z))=some us∧SrcAt P z w (.slice (some ⟨p.1,o,none⟩) n c) n us:=by
 have hB:=hR.at hp hb
 obtain⟨cc,fz,us,h1,h3,h4,h5⟩:=id hB
 have hus:=reals_take (n * z) (reals_drop o h4)
 have hlen:((us.drop o).take (n * z)).length=n * z:=(reals_len hus).trans hl
 refine⟨_,hus,hlen,fun w'=>by simp[Builtin.lenOf],fun m hm w' hw=>?_⟩
 have hmz:m * z≤n * z:=Nat.mul_le_mul_right _ hm
 refine run_firstCells_some (P:=P) w' z m ⟨p.1,o,none⟩ n c _ (by rw[List.length_take,hlen]; omega) fun j v hj=>?_
 rw[addr_add,cell_heap hw]
 refine cell_of hB h4 ?_
 rw[List.getElem?_take] at hj
 split at hj
 ·rw[List.getElem?_take] at hj
  split at hj
  ·simpa using hj
  ·cases hj
 ·cases hj
theorem srcK_ok{z:Nat}{v:AV}{k:Nat→List AV→Bool}(hk:srcK z v h k=true): ∃m l,k m l=true∧∀S w0 r w u,Rel S w0 fl r h w→real r v=some u→∃us,reals r l=some us∧SrcAt P z w u m us:=by
 cases v with
 | nils=>
  refine⟨0,[],hk,fun S w0 r w u hR hu=>⟨[],reals_nil,?_⟩⟩
  cases hu
  exact⟨by simp,fun w'=>by simp[Builtin.lenOf],fun n hn w' _=>by simp[Builtin.firstCells]⟩
 | sl i o n c=>
  obtain⟨t,opn,ro,cs,hb,hk⟩:=cellsK_ok hk
  rw[dropK_eq,takeK_eq,lenK_eq] at hk
  obtain⟨hl,hk⟩:=ask_ok hk
  refine⟨n,_,hk,fun S w0 r w u hR hu=>?_⟩
  obtain⟨p,hp,rfl⟩:=real_sl hu
  exact src_row hR hp hb (Nat.eq_of_beq_eq_true hl) _
 | sly i o n c=>
  refine⟨0,[],hk,fun S w0 r w u hR hu=>⟨[],reals_nil,?_⟩⟩
  obtain⟨_,_,rfl⟩:=real_sly hu
  refine⟨by simp,fun w'=>by simp[Builtin.lenOf],fun m hm w' _=>?_⟩
  have hm:m=0:=Nat.le_zero.1 hm
  subst hm
  simpa using run_firstCells_some (P:=P) w' z 0 _ 0 _ [] (by simp) fun j v hj=>by simp at hj
 | slx i o n c=>
  obtain⟨t,opn,ro,cs,hb,hk⟩:=cellsK_ok hk
  rw[dropK_eq,takeK_eq,lenK_eq] at hk
  obtain⟨hl,hk⟩:=ask_ok hk
  refine⟨n,_,hk,fun S w0 r w u hR hu=>?_⟩
  obtain⟨p,hp,_,_,_,rfl⟩:=real_slx hu
  exact src_row hR hp hb (Nat.eq_of_beq_eq_true hl) _
 | str s=>
  obtain⟨hz,hk⟩:=ask_ok hk
  have hz:=Nat.eq_of_beq_eq_true hz
  subst hz
  replace hk:lenK s (fun n=>srcK.bytesA s fun l=>k n l)=true:=hk
  rw[lenK_eq,bytesA_eq] at hk
  refine⟨_,_,hk,fun S w0 r w u hR hu=>?_⟩
  obtain⟨hb,rfl⟩:=real_str hu
  refine⟨_,ints_real hb,by simp[bv,text_len],fun w'=>by simp[Builtin.lenOf,B_size,text_len],fun n hn w' _=>?_⟩
  have e:(B (textOf s)).extract 0 n=B ((textOf s).take n):=by rw[B_extract]; simp
  simp only[Builtin.firstCells,e]
  simp only[Sem.run_pure,Nat.mul_one]
  congr 1
  apply Array.ext'
  simp[bv,List.map_take]
 | _=>cases hk
end
end Go.Proofs.YtbhbdeelpopgoaaGreatDoor.E

