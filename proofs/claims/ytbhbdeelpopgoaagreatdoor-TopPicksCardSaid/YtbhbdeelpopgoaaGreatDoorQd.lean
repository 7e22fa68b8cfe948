/-
  Regions that draw their order: what is kept, whatever comes next. Regions that draw their order, evaluated: what changes memory stands in one order; what does not is asked at each state in which it may come. Regions that draw their order, first: in the order of the text. Regions that draw their order: what the evaluation in the order of the text says of any order. Regions that draw their order: any order comes to the same. That a program's drawn regions are as the language's rules want them: looked through. New blocks whose names were kept free: operations that make one and read no memory. Names that are kept free: what is known while some of them are not in use yet. Regions that draw their order, and make blocks that no chain holds: first in the order of the text. Regions that draw their order, and make blocks that no chain holds: any order comes to the same. Functions that defer a closure which recovers.
-/
import Derived.Test.YtbhbdeelpopgoaaGreatDoorQc
set_option linter.unusedVariables false
set_option linter.unusedSimpArgs false
namespace Go.Proofs.YtbhbdeelpopgoaaGreatDoor.E
open Go Go.RowKit H
def edgesOf(ops:Array Oper)(i:Nat):List Nat:=match ops[i]? with
 | some o=>(o.after.toList.filter fun e=>Region.binds .any e).map (·.on)
 | none=>[]
theorem AW.oneK{P:Program}{ops:Array Oper}{Q:Post}{f:Fr}{w:World}{M:Act→World→Prop}{K:Fr→World→Prop}(i:Nat){o:Oper}(hi:ops[i]?=some o)(k:RW none P ops (thenK K Q) [o] f w)(hK : ∀f' w' a',K f' w'→Ag f' a'→M a' w'){a:Act}(ha:Ag f a):wpOp P ops (lift Q) i M a w:=by
 have h:wpList P ops _ [o] a w:=k a ha
 unfold wpList at h
 unfold wpOp
 simp only[hi]
 have hq : ∀x a w,lift (thenK K Q) x a w→match x with
   | .normal=>M a w
   | x=>lift Q x a w:=by
  intro x a w ⟨g,hg,q⟩
  cases x with
  | normal=>exact hK g w a q hg
  | _=>exact⟨g,hg,q⟩
 by_cases hw:Region.wanted o (yielded ops a.tmps)=true
 ·rw[if_pos hw] at h
  simp only[hw,if_true]
  rcases h with h|⟨h1,a0,w0,h2⟩
  ·left
   exact oper_mono (fun a w hk=>hq .normal a w hk) (fun c a w hk=>hq (.panic c) a w hk) (fun a w hk=>hq .outgrown a w hk) h
  ·exact .inr ⟨h1,a0,w0,hq .outgrown a0 w0 h2⟩
 ·rw[if_neg hw] at h
  simp only[hw,if_false,Bool.false_eq_true]
  exact hq .normal _ _ h
theorem set_getD{l:Array Bool}{i j:Nat}(hi:i < l.size):(l.setIfInBounds i true).getD j false=true↔j=i∨l.getD j false=true:=by
 by_cases h:i=j
 ·subst h; simp[hi]
 ·simp[Array.getD_eq_getD_getElem?,Array.getElem?_setIfInBounds,h,Ne.symm h]
theorem draw_go{P:Program}{ops:Array Oper}{Q:Post}(Inv:(Nat→Prop)→Fr→World→Prop)(hlt : ∀i o,ops[i]?=some o→∀j∈edgesOf ops i,j < i)
  (hs : ∀(D:Nat→Prop) f w i o,ops[i]?=some o→¬D i→(∀j∈edgesOf ops i,D j)→(∀j,D j→j < ops.size)→Inv D f w→RW none P ops (thenK (fun f' w'=>Inv (fun j=>j=i∨D j) f' w') Q) [o] f w)
  (hfin : ∀f w,Inv (fun j=>j < ops.size) f w→Q .normal f w) :
  ∀(m:Nat) (r:List Nat) (l:Array Bool) (f:Fr) (a:Act) (w:World),l.size=ops.size→r.length≤m→(∀i < ops.size,l.getD i false=false→i∈r)→Inv (fun j=>l.getD j false=true) f w→Ag f a→wpAnyH P .any ops (lift Q) (fun _=>True) m l a w:=by
 have hall : ∀(l:Array Bool),l.size=ops.size→Region.ready .any ops l=[]→∀j,l.getD j false=true↔j < ops.size:=by
  intro l hl hr j
  refine⟨fun h=>?_,fun h=>?_⟩
  ·rcases Nat.lt_or_ge j l.size with h1|h1
   ·omega
   ·simp[Array.getD_eq_getD_getElem?,Array.getElem?_eq_none h1] at h
  ·induction j using Nat.strongRecOn with
   | _ j ih=>
    cases hc:l.getD j false with
    | true=>rfl
    | false=>
     have hjr:j∈Region.ready .any ops l:=mem_ready.2 ⟨by
      rw[←hc,Array.getD_eq_getD_getElem?,Array.getD_eq_getD_getElem?,Array.getElem?_eq_getElem (by omega)]; rfl,ops[j],Array.getElem?_eq_getElem h,fun e he hb=>by
      have hm:e.on∈edgesOf ops j:=by
       rw[edgesOf,Array.getElem?_eq_getElem h]
       exact List.mem_map.2 ⟨e,List.mem_filter.2 ⟨by simpa using he,hb⟩,rfl⟩
      have h1:=hlt j ops[j] (Array.getElem?_eq_getElem h) e.on hm
      exact ih e.on h1 (by omega)⟩
     rw[hr] at hjr; cases hjr
 have hdone : ∀(l:Array Bool) f a w,l.size=ops.size→Inv (fun j=>l.getD j false=true) f w→Ag f a→Region.ready .any ops l=[]→lift Q .normal a w:=fun l f a w hl hP ha hr=>by
  have e:(fun j=>l.getD j false=true)=fun j=>j < ops.size:=funext fun j=>propext (hall l hl hr j)
  rw[e] at hP
  exact⟨f,ha,hfin f w hP⟩
 intro m
 induction m with
 | zero=>
  intro r l f a w hl hr hc hP ha
  have hre:Region.ready .any ops l=[]:=by
   refine List.eq_nil_iff_forall_not_mem.2 fun i hi=>?_
   obtain⟨h1,o,ho,_⟩:=mem_ready.1 hi
   have hil:i < ops.size:=(Array.getElem?_eq_some_iff.1 ho).1
   have h2:l.getD i false=false:=by rw[←h1,Array.getD_eq_getD_getElem?,Array.getD_eq_getD_getElem?,Array.getElem?_eq_getElem (by omega)]; rfl
   have:=hc i hil h2
   rw[List.length_eq_zero_iff.1 (Nat.le_zero.1 hr)] at this; cases this
  exact⟨hre,hdone l f a w hl hP ha hre⟩
 | succ m ih=>
  intro r l f a w hl hr hc hP ha
  refine⟨hdone l f a w hl hP ha,fun i hi=>?_⟩
  obtain⟨h1,o,ho,hed⟩:=mem_ready.1 hi
  have hil:i < ops.size:=(Array.getElem?_eq_some_iff.1 ho).1
  have h2:l.getD i false=false:=by rw[←h1,Array.getD_eq_getD_getElem?,Array.getD_eq_getD_getElem?,Array.getElem?_eq_getElem (by omega)]; rfl
  have hD : ¬l.getD i false=true:=by rw[h2]; simp
  have hltD : ∀j,l.getD j false=true→j < ops.size:=fun j hj=>by
   rcases Nat.lt_or_ge j l.size with q|q
   ·omega
   ·simp[Array.getD_eq_getD_getElem?,Array.getElem?_eq_none q] at hj
  have hed' : ∀j∈edgesOf ops i,l.getD j false=true:=fun j hj=>by
   rw[edgesOf,ho] at hj
   obtain⟨e,he,rfl⟩:=List.mem_map.1 hj
   obtain⟨he,hb⟩:=List.mem_filter.1 he
   exact hed e (by simpa using he) hb
  refine AW.oneK i ho (hs _ f w i o ho hD hed' hltD hP) (fun f' w' a' hf' ha'=>?_) ha
  refine⟨trivial,ih (r.erase i) _ f' a' w' (by simp[hl]) ?_ (fun k hk hf=>?_) ?_ ha'⟩
  ·rw[List.length_erase_of_mem (hc i hil h2)]; omega
  ·have hki:k≠i:=fun c=>by
    subst c
    have:=(set_getD (l:=l) (j:=k) (by omega)).2 (.inl rfl)
    rw[hf] at this; cases this
   have hkf:l.getD k false=false:=by
    rw[Bool.eq_false_iff]; intro c
    have:=(set_getD (l:=l) (j:=k) (show i < l.size by omega)).2 (.inr c)
    rw[hf] at this; cases this
   exact(List.mem_erase_of_ne hki).2 (hc k hk hkf)
  ·have e:(fun j=>(l.setIfInBounds i true).getD j false=true)=fun j=>j=i∨l.getD j false=true:=funext fun j=>propext (set_getD (by omega))
   rw[e]
   exact hf'
theorem CW_draw{P:Program}{ops:Array Oper}{Q:Post}{f:Fr}{w:World}{id:Nat}(hm:P.follows .mixedOrders=true)(Inv:(Nat→Prop)→Fr→World→Prop)(hlt : ∀i o,ops[i]?=some o→∀j∈edgesOf ops i,j < i)
  (hs : ∀(D:Nat→Prop) f w i o,ops[i]?=some o→¬D i→(∀j∈edgesOf ops i,D j)→(∀j,D j→j < ops.size)→Inv D f w→RW none P ops (thenK (fun f' w'=>Inv (fun j=>j=i∨D j) f' w') Q) [o] f w)
  (hfin : ∀f w,Inv (fun j=>j < ops.size) f w→Q .normal f w) (h0 : ∀w',K0 w w'→Inv (fun _=>False) f w'):CW none P Q (.region id ops true) f w:=by
 refine CL.one (CL.draw (fun _=>True) hm fun w1 hheap hk1=>?_)
 intro a ha
 have hno:(fun j=>(Array.replicate ops.size false).getD j false=true)=fun _:Nat=>False:=funext fun j=>propext ⟨fun c=>by
  rw[Array.getD_eq_getD_getElem?,Array.getElem?_replicate] at c
  split at c <;> simp at c,fun c=>c.elim⟩
 have:=draw_go (P:=P) (Q:=thenK (CL none P Q []) Q) Inv hlt (fun D f w i o a b c d e=>?_) (fun f w hI=>hfin f w hI) ops.size (List.range ops.size) (Array.replicate ops.size false) f a w1 (by simp) (by simp) (fun i hi _=>List.mem_range.2 hi) (by rw[hno]; exact h0 w1 hk1) ha
 ·exact this
 ·have e2:thenK (fun f' w'=>Inv (fun j=>j=i∨D j) f' w') (thenK (CL none P Q []) Q)=thenK (fun f' w'=>Inv (fun j=>j=i∨D j) f' w') Q:=by
   funext x f w; cases x <;> rfl
  rw[e2]
  exact hs D f w i o a b c d e
end Go.Proofs.YtbhbdeelpopgoaaGreatDoor.E

set_option linter.constructorNameAsVariable false
namespace Go.Proofs.YtbhbdeelpopgoaaGreatDoor.E
open Go Go.RowKit H
section
variable {P : Program} {fl n : Nat} {call : CallF}
noncomputable def bigOp(P:Program)(o:Op):Bool:=match o with
 | .move _ | .assign _ | .pick _ _ _ | .build _ _ | .load _ _ | .nilCheck _ | .binOp _ _ _ _ _ | .unOp _ _ _ | .makeInterface _ _ | .makeFunc _ _ _ | .slice _ _ _ _ _ | .fieldAddr _ _ _ | .field _ _ _ | .indexAddr _ _ _ | .index _ _ _ | .lookup _ _ _ _ | .typeAssert _ _ _ _ | .extract _ _=>false
 | .convert _ t _=>(match P.underlying t with|some (.slice _)=>true|_=>false)
 | .call c=>(match c.callee with | .builtin .len=>false | .builtin .cap=>false | .builtin .min=>false | .builtin .max=>false|_=>true)
 | _=>true
theorem bo_yo{b:Builtin}{args:Array Operand}{ts:Array TypeId}{env:Tr AV}{h:Hp}{ty:TypeId}{vs:List AV}{v:AV}(h3 : ∀S w0 r f w,FrOk r env f→Rel S w0 fl r h w→∃us,reals r vs=some us∧∀a,Ag f a→args.toList.map a.eval=us)(hB:BoP P fl b ts ty vs h v):Yo P fl (.call {callee:= .builtin b,args:=args,argTypes:=ts}) ty env h v:=by
 intro S w0 r fr w hf hR
 obtain⟨us,hus,hl⟩:=h3 S w0 r fr w hf hR
 obtain⟨x,a3,a4⟩:=hB S w0 r w us (args.map fun | .const _=>true|_=>false) hR hus
 refine⟨x,a3,fun dst pos af gd ac ha=>?_⟩
 have e1:args.map ac.eval=us.toArray:=by apply Array.ext'; simp[hl ac ha]
 simp only[execOp,resolve,Sem.run_bind,Sem.run_pure,Result.andThen_ok,invoke,e1]
 exact a4
theorem small_ok{o:Op}{env:Tr AV}{h:Hp}{ty:TypeId}{k kp:KV}(hb:bigOp P o=false)(hk:opHd o P fl call h env ty k kp=true): ∃v,k v h=true∧Yo P fl o ty env h v:=by
 cases o <;> first|(cases hb; done)|skip
 case move x=>obtain⟨v,a,b,_⟩:=hMove_ok (P:=P) (ty:=ty) hk; exact⟨v,a,b⟩
 case assign x=>obtain⟨v,a,_,b⟩:=hMove_ok (P:=P) (ty:=ty) hk; exact⟨v,a,b⟩
 case pick c a b=>exact hPick_ok hk
 case build t ps=>exact hBuild_ok hk
 case load t x=>exact hLoad_ok hk
 case nilCheck x=>exact hNil_ok hk
 case binOp op t x y yt=>exact hBin_ok hk
 case unOp op t x=>exact hUn_ok hk
 case convert s t x=>
  obtain⟨v,hk,h2⟩:=evK_ok (show evK fl h env x _=true from hk)
  obtain⟨d,hd,hk⟩:=tyK_ok hk
  have hns : ∀e,d≠.slice e:=fun e c=>by
   subst c
   simp only[bigOp,hd] at hb
   cases hb
  have plain:hConv0 P fl s t v (fun v=>k v h)=true→∃v,k v h=true∧Yo P fl (.convert s t x) ty env h v:=fun hk=>hConv0_ok (ty:=ty) h2 hk
  cases d with
  | slice e=>exact absurd rfl (hns e)
  | string=>
   obtain⟨ds,hs,hk⟩:=tyK_ok hk
   cases v with
   | nils=>
    obtain⟨e,rfl,hk1⟩:=isSliceT_ok hk
    obtain⟨de,hde,hk⟩:=tyK_ok hk1
    obtain⟨i,rfl,hk1⟩:=isIntT_ok hk
    obtain⟨hi8,hk2⟩:=ask_ok hk1
    have:=kEq_ok hi8; subst this
    refine⟨_,hk2,one_ok h2 fun S w0 r w u hR hu=>⟨_,str_real (by rfl),fun ρ dst pos af g e1=>?_⟩⟩
    cases hu
    simp[execOp,e1,convert,run_underlying hs,run_underlying hd,run_underlying hde,Conv.bytesToString]
    rfl
   | sl i o n c=>
    obtain⟨e,rfl,hk1⟩:=isSliceT_ok hk
    obtain⟨de,hde,hk⟩:=tyK_ok hk1
    obtain⟨j,rfl,hk1⟩:=isIntT_ok hk
    obtain⟨hi8,hk2⟩:=ask_ok hk1
    have:=kEq_ok hi8; subst this
    obtain⟨l,hk,hbl,hl⟩:=rowStr_ok (P:=P) (fl:=fl) hk2
    refine⟨_,hk,one_ok h2 fun S w0 r w u hR hu=>⟨_,str_real hbl,fun ρ dst pos af g e1=>?_⟩⟩
    obtain⟨p,hp,rfl⟩:=real_sl hu
    have hr:=hl S w0 r w p hR hp c
    simp[execOp,e1,convert,run_underlying hs,run_underlying hd,run_underlying hde,hr]
   | slx i o n c=>
    obtain⟨e,rfl,hk1⟩:=isSliceT_ok hk
    obtain⟨de,hde,hk⟩:=tyK_ok hk1
    obtain⟨j,rfl,hk1⟩:=isIntT_ok hk
    obtain⟨hi8,hk2⟩:=ask_ok hk1
    have:=kEq_ok hi8; subst this
    obtain⟨l,hk,hbl,hl⟩:=rowStr_ok (P:=P) (fl:=fl) hk2
    refine⟨_,hk,one_ok h2 fun S w0 r w u hR hu=>⟨_,str_real hbl,fun ρ dst pos af g e1=>?_⟩⟩
    obtain⟨p,hp,_,_,_,rfl⟩:=real_slx hu
    have hr:=fun cap=>hl S w0 r w p hR hp cap
    simp[execOp,e1,convert,run_underlying hs,run_underlying hd,run_underlying hde,hr]
   | _=>exact plain hk
  | _=>exact plain hk
 case makeInterface t x=>exact hIface_ok hk
 case makeFunc fn a b=>exact hFunc_ok hk
 case slice t x lo hi mx=>exact hSlice_ok hk
 case fieldAddr t x i=>exact hFAddr_ok hk
 case field t x i=>exact hField_ok hk
 case indexAddr t x y=>exact hIAddr_ok hk
 case index t x y=>exact hIndex_ok hk
 case lookup t x y c=>exact hLookup_ok hk
 case typeAssert x xt t c=>exact hAssert_ok hk
 case extract x i=>exact hExt_ok hk
 case call c=>
  obtain⟨callee,args,ats⟩:=c
  cases callee with
  | value f=>cases hb
  | invoke f m=>cases hb
  | builtin b=>
   obtain⟨vs,hk,h3⟩:=evsK_ok (show evsK fl h env args.toList (fun vs=>hBuiltin b ats vs P fl h k)=true from hk)
   cases b <;> first|(cases hb; done)|skip
   ·obtain⟨v,hk,hB⟩:=hCap_ok (P:=P) (fl:=fl) (ty:=ty) (h:=h) hk
    exact⟨v,hk,bo_yo h3 hB⟩
   ·obtain⟨v,hk,hB⟩:=hLen_ok (P:=P) (fl:=fl) (ty:=ty) hk
    exact⟨v,hk,bo_yo h3 hB⟩
   ·obtain⟨v,hk,hB⟩:=hMax_ok (P:=P) (fl:=fl) (ty:=ty) (h:=h) (ts:=ats) hk
    exact⟨v,hk,bo_yo h3 hB⟩
   ·obtain⟨v,hk,hB⟩:=hMin_ok (P:=P) (fl:=fl) (ty:=ty) (h:=h) (ts:=ats) hk
    exact⟨v,hk,bo_yo h3 hB⟩
noncomputable def avEq(a:AV):AV→Bool:=AV.rec (motive_1:=fun _=>AV→Bool) (motive_2:=fun _=>List AV→Bool)
 (fun y=>match y with | .und=>true|_=>false) (fun b y=>qBool y fun c=>ifeV b c (not c)) (fun i n y=>qInt y fun j m=>ifeV (kEq i j) (iEq n m) false) (fun s y=>qStr y fun t=>sEq s t)
 (fun y=>match y with | .nilp=>true|_=>false) (fun i o y=>qPtr y fun j p=>ifeV (Nat.beq i j) (Nat.beq o p) false) (fun y=>match y with | .nils=>true|_=>false)
 (fun i o n c y=>match y with | .sl i' o' n' c'=>ifeV (Nat.beq i i') (ifeV (Nat.beq o o') (ifeV (Nat.beq n n') (Nat.beq c c') false) false) false|_=>false)
 (fun i o n c y=>match y with | .slx i' o' n' c'=>ifeV (Nat.beq i i') (ifeV (Nat.beq o o') (ifeV (Nat.beq n n') (Nat.beq c c') false) false) false|_=>false)
 (fun i o n c y=>match y with | .sly i' o' n' c'=>ifeV (Nat.beq i i') (ifeV (Nat.beq o o') (ifeV (Nat.beq n n') (Nat.beq c c') false) false) false|_=>false)
 (fun y=>match y with | .nilm=>true|_=>false) (fun i y=>match y with | .map j=>Nat.beq i j|_=>false) (fun y=>match y with | .nilf=>true|_=>false)
 (fun f _ _ ia ib y=>match y with | .fn g a b=>(match f with | .func x=>(match g with | .func y=>ifeV (Nat.beq x y) (ifeV (ia a) (ib b) false) false|_=>false)|_=>false)|_=>false)
 (fun y=>match y with | .nili=>true|_=>false) (fun t _ iv y=>match y with | .ifc u w=>ifeV (Nat.beq t u) (iv w) false|_=>false)
 (fun _ il y=>qAgg y il) (fun _ il y=>qTup y il) (fun i s m j y=>match y with | .sym i' s' m' j'=>ifeV (kEq i i') (ifeV (Nat.beq s s') (ifeV (Nat.beq m m') (Nat.beq j j') false) false) false|_=>false)
 (fun t i s o z y=>match y with | .opq t' i' s' o' z'=>ifeV (Nat.beq t t') (ifeV (Nat.beq i i') (ifeV (Nat.beq s s') (ifeV (Nat.beq o o') (Nat.beq z z') false) false) false) false|_=>false)
 (fun y=>List.rec (motive:=fun _=>Bool) true (fun _ _ _=>false) y) (fun _ _ ia il y=>List.rec (motive:=fun _=>Bool) false (fun b t _=>ifeV (ia b) (il t) false) y) a
theorem and_ok{a b:Bool}(h:ifeV a b false=true):a=true∧b=true:=by cases a <;> first|exact⟨rfl,h⟩|cases h
theorem sEq_ok: ∀{a b:List Nat},sEq a b=true→a=b
 | [],[],_=>rfl
 | [],_::_,h=>by cases h
 | _::_,[],h=>by cases h
 | x::a,y::b,h=>by
  obtain⟨h1,h2⟩:=and_ok h
  rw[Nat.eq_of_beq_eq_true h1,sEq_ok h2]
mutual
theorem avEq_ok: ∀(a b:AV),avEq a b=true→a=b
 | .und,b,h=>by cases b <;> first|rfl|cases h
 | .bool x,b,h=>by
  obtain⟨c,rfl,h⟩:=qBool_ok (x:=b) h
  cases x <;> cases c <;> first|rfl|cases h
 | .int i m,b,h=>by
  obtain⟨j,n,rfl,h⟩:=qInt_ok (x:=b) h
  obtain⟨h1,h2⟩:=and_ok h
  rw[iEq_eq] at h2
  rw[kEq_ok h1,of_decide_eq_true h2]
 | .str s,b,h=>by
  obtain⟨t,rfl,h⟩:=qStr_ok (x:=b) h
  rw[sEq_ok h]
 | .nilp,b,h=>by cases b <;> first|rfl|cases h
 | .ptr i o,b,h=>by
  obtain⟨j,p,rfl,h⟩:=qPtr_ok (x:=b) h
  obtain⟨h1,h2⟩:=and_ok h
  rw[Nat.eq_of_beq_eq_true h1,Nat.eq_of_beq_eq_true h2]
 | .nils,b,h=>by cases b <;> first|rfl|cases h
 | .sl i o n c,b,h=>by
  cases b <;> first|(cases h; done)|skip
  obtain⟨h1,h⟩:=and_ok h
  obtain⟨h2,h⟩:=and_ok h
  obtain⟨h3,h4⟩:=and_ok h
  rw[Nat.eq_of_beq_eq_true h1,Nat.eq_of_beq_eq_true h2,Nat.eq_of_beq_eq_true h3,Nat.eq_of_beq_eq_true h4]
 | .slx i o n c,b,h=>by
  cases b <;> first|(cases h; done)|skip
  obtain⟨h1,h⟩:=and_ok h
  obtain⟨h2,h⟩:=and_ok h
  obtain⟨h3,h4⟩:=and_ok h
  rw[Nat.eq_of_beq_eq_true h1,Nat.eq_of_beq_eq_true h2,Nat.eq_of_beq_eq_true h3,Nat.eq_of_beq_eq_true h4]
 | .sly i o n c,b,h=>by
  cases b <;> first|(cases h; done)|skip
  obtain⟨h1,h⟩:=and_ok h
  obtain⟨h2,h⟩:=and_ok h
  obtain⟨h3,h4⟩:=and_ok h
  rw[Nat.eq_of_beq_eq_true h1,Nat.eq_of_beq_eq_true h2,Nat.eq_of_beq_eq_true h3,Nat.eq_of_beq_eq_true h4]
 | .nilm,b,h=>by cases b <;> first|rfl|cases h
 | .map i,b,h=>by
  cases b <;> first|(cases h; done)|skip
  rw[Nat.eq_of_beq_eq_true h]
 | .nilf,b,h=>by cases b <;> first|rfl|cases h
 | .fn f x y,b,h=>by
  cases b <;> first|(cases h; done)|skip
  rename_i g x' y'
  cases f <;> first|(cases h; done)|skip
  cases g <;> first|(cases h; done)|skip
  obtain⟨h1,h⟩:=and_ok h
  obtain⟨h2,h3⟩:=and_ok h
  rw[Nat.eq_of_beq_eq_true h1,avsEq_ok x x' h2,avsEq_ok y y' h3]
 | .nili,b,h=>by cases b <;> first|rfl|cases h
 | .ifc t v,b,h=>by
  cases b <;> first|(cases h; done)|skip
  obtain⟨h1,h2⟩:=and_ok h
  rw[Nat.eq_of_beq_eq_true h1,avEq_ok v _ h2]
 | .agg l,b,h=>by
  obtain⟨m,rfl,h⟩:=qAgg_ok (x:=b) h
  rw[avsEq_ok l m h]
 | .tup l,b,h=>by
  obtain⟨m,rfl,h⟩:=qTup_ok (x:=b) h
  rw[avsEq_ok l m h]
 | .sym i o n c,b,h=>by
  cases b <;> first|(cases h; done)|skip
  obtain⟨h1,h⟩:=and_ok h
  obtain⟨h2,h⟩:=and_ok h
  obtain⟨h3,h4⟩:=and_ok h
  rw[kEq_ok h1,Nat.eq_of_beq_eq_true h2,Nat.eq_of_beq_eq_true h3,Nat.eq_of_beq_eq_true h4]
 | .opq t i s o z,b,h=>by
  cases b <;> first|(cases h; done)|skip
  obtain⟨h1,h⟩:=and_ok h
  obtain⟨h2,h⟩:=and_ok h
  obtain⟨h3,h⟩:=and_ok h
  obtain⟨h4,h5⟩:=and_ok h
  rw[Nat.eq_of_beq_eq_true h1,Nat.eq_of_beq_eq_true h2,Nat.eq_of_beq_eq_true h3,Nat.eq_of_beq_eq_true h4,Nat.eq_of_beq_eq_true h5]
theorem avsEq_ok: ∀(a b:List AV),AV.rec_1 (motive_1:=fun _=>AV→Bool) (motive_2:=fun _=>List AV→Bool)
 (fun y=>match y with | .und=>true|_=>false) (fun b y=>qBool y fun c=>ifeV b c (not c)) (fun i n y=>qInt y fun j m=>ifeV (kEq i j) (iEq n m) false) (fun s y=>qStr y fun t=>sEq s t)
 (fun y=>match y with | .nilp=>true|_=>false) (fun i o y=>qPtr y fun j p=>ifeV (Nat.beq i j) (Nat.beq o p) false) (fun y=>match y with | .nils=>true|_=>false)
 (fun i o n c y=>match y with | .sl i' o' n' c'=>ifeV (Nat.beq i i') (ifeV (Nat.beq o o') (ifeV (Nat.beq n n') (Nat.beq c c') false) false) false|_=>false)
 (fun i o n c y=>match y with | .slx i' o' n' c'=>ifeV (Nat.beq i i') (ifeV (Nat.beq o o') (ifeV (Nat.beq n n') (Nat.beq c c') false) false) false|_=>false)
 (fun i o n c y=>match y with | .sly i' o' n' c'=>ifeV (Nat.beq i i') (ifeV (Nat.beq o o') (ifeV (Nat.beq n n') (Nat.beq c c') false) false) false|_=>false)
 (fun y=>match y with | .nilm=>true|_=>false) (fun i y=>match y with | .map j=>Nat.beq i j|_=>false) (fun y=>match y with | .nilf=>true|_=>false)
 (fun f _ _ ia ib y=>match y with | .fn g a b=>(match f with | .func x=>(match g with | .func y=>ifeV (Nat.beq x y) (ifeV (ia a) (ib b) false) false|_=>false)|_=>false)|_=>false)
 (fun y=>match y with | .nili=>true|_=>false) (fun t _ iv y=>match y with | .ifc u w=>ifeV (Nat.beq t u) (iv w) false|_=>false)
 (fun _ il y=>qAgg y il) (fun _ il y=>qTup y il) (fun i s m j y=>match y with | .sym i' s' m' j'=>ifeV (kEq i i') (ifeV (Nat.beq s s') (ifeV (Nat.beq m m') (Nat.beq j j') false) false) false|_=>false)
 (fun t i s o z y=>match y with | .opq t' i' s' o' z'=>ifeV (Nat.beq t t') (ifeV (Nat.beq i i') (ifeV (Nat.beq s s') (ifeV (Nat.beq o o') (Nat.beq z z') false) false) false) false|_=>false)
 (fun y=>List.rec (motive:=fun _=>Bool) true (fun _ _ _=>false) y) (fun _ _ ia il y=>List.rec (motive:=fun _=>Bool) false (fun b t _=>ifeV (ia b) (il t) false) y) a b=true→a=b
 | [],[],_=>rfl
 | [],_::_,h=>by cases h
 | _::_,[],h=>by cases h
 | x::a,y::b,h=>by
  obtain⟨h1,h2⟩:=and_ok h
  rw[avEq_ok x y h1,avsEq_ok a b h2]
end
end
end Go.Proofs.YtbhbdeelpopgoaaGreatDoor.E

set_option linter.constructorNameAsVariable false
namespace Go.Proofs.YtbhbdeelpopgoaaGreatDoor.E
open Go Go.RowKit H
def edgeL(o:Oper):List Nat:=(o.after.toList.filter fun e=>Region.binds .any e).map (·.on)
theorem edgesOf_eq{ops:Array Oper}{i:Nat}{o:Oper}(h:ops[i]?=some o):edgesOf ops i=edgeL o:=by rw[edgesOf,h]; rfl
noncomputable def nthN(l:List Nat)(i:Nat):Nat:=List.rec (motive:=fun _=>Nat→Nat) (fun _=>0) (fun a _ ih i=>Nat.rec (motive:=fun _=>Nat) a (fun p _=>ih p) i) l i
noncomputable def maskO(ms:List Nat)(o:Oper):Nat:=List.rec (motive:=fun _=>Nat) 0 (fun e _ acc=>Nat.lor (Nat.shiftLeft 1 e) (Nat.lor (nthN ms e) acc)) (edgeL o)
noncomputable def masks(l:List Oper):List Nat→List Nat:=List.rec (motive:=fun _=>List Nat→List Nat) (fun ms=>ms) (fun o _ ih ms=>ih (ms++[maskO ms o])) l
noncomputable def bitN(m i:Nat):Bool:=Nat.testBit m i
structure RegOk (ops:Array Oper) (ms:List Nat):Prop where
 lt : ∀(i:Nat) (o:Oper),ops[i]?=some o→∀j∈edgeL o,j < i
 anc : ∀(i:Nat) (o:Oper),ops[i]?=some o→∀j,bitN (nthN ms i) j=true→j∈edgeL o∨∃m∈edgeL o,bitN (nthN ms m) j=true
 one : ∀(i j:Nat) (oi oj:Oper) (d:Tmp),ops[i]?=some oi→ops[j]?=some oj→oi.dst=some d→oj.dst=some d→i=j
 use : ∀(i j:Nat) (oi oj:Oper) (t:Tmp),ops[i]?=some oi→ops[j]?=some oj→Operand.tmp t∈oi.op.operands→oj.dst=some t→bitN (nthN ms i) j=true∨bitN (nthN ms j) i=true∨j=i
 gd : ∀(i:Nat) (o:Oper) (j:Nat) (b:Bool),ops[i]?=some o→o.guard=some (j,b)→bitN (nthN ms i) j=true
 bw : ∀(i:Nat) (o:Oper) (j:Nat),ops[i]?=some o→bitN (nthN ms i) j=true→j < i
section
variable {P : Program} {fl n : Nat} {call : CallF}
noncomputable def wantK(ops:Array Oper)(n:Nat)(o:Oper)(E:Tr AV)(kt kf:Bool):Bool:=Option.rec (motive:=fun _=>Bool) kt (fun g=>someK ((ops[g.1]?).bind (·.dst)) fun t=>ask (Nat.blt t n) (ask (Nat.blt t 4096) (getV t E fun v=>match v with
 | .und=>kf
 | .bool b=>ife (ifeV b g.2 (not g.2)) kt kf
 | _=>false))) o.guard
def Wt(ops:Array Oper)(n:Nat)(o:Oper)(E:Tr AV)(b:Bool):Prop:=(o.guard=none∧b=true)∨∃j c t v,o.guard=some (j,c)∧(ops[j]?).bind (·.dst)=some t∧Nat.blt t n=true∧t < 4096∧Tr.get (bits t) E=some v∧(b=true→v = .bool c)∧(b=false→v = .bool (!c)∨v = .und)
theorem wantK_ok{ops:Array Oper}{o:Oper}{E:Tr AV}{kt kf:Bool}(h:wantK ops n o E kt kf=true):(kt=true∧Wt ops n o E true)∨(kf=true∧Wt ops n o E false):=by
 obtain⟨dst,op,ty,pos,af,g⟩:=o
 cases g with
 | none=>exact .inl ⟨h,.inl ⟨rfl,rfl⟩⟩
 | some g=>
  obtain⟨j,c⟩:=g
  obtain⟨t,hj,h⟩:=someK_ok h
  obtain⟨h1,h⟩:=ask_ok h
  obtain⟨h2,h⟩:=ask_ok h
  obtain⟨v,hv,h⟩:=getV_ok h
  have h2:=blt_lt h2
  cases v <;> first|(cases h; done)|skip
  ·exact .inr ⟨h,.inr ⟨j,c,t,_,rfl,hj,h1,h2,hv,(by simp),fun _=> .inr rfl⟩⟩
  ·rename_i b
   rcases ife_ok h with ⟨e,h⟩|⟨e,h⟩
   ·refine .inl ⟨h,.inr ⟨j,c,t,_,rfl,hj,h1,h2,hv,fun _=>?_,by simp⟩⟩
    cases b <;> cases c <;> first|rfl|cases e
   ·refine .inr ⟨h,.inr ⟨j,c,t,_,rfl,hj,h1,h2,hv,by simp,fun _=> .inl ?_⟩⟩
    cases b <;> cases c <;> first|rfl|cases e
noncomputable def subE(E:Tr AV)(xs:List Operand):Tr AV→(Tr AV→Bool)→Bool:=List.rec (motive:=fun _=>Tr AV→(Tr AV→Bool)→Bool) (fun a k=>k a)
 (fun x _ ih a k=>Operand.rec (motive:=fun _=>Bool) (fun t=>ask (Nat.blt t 4096) (Tr.getK (bits t) E fun o=>optK o (ih a k) fun v=>Tr.setK (some v) (bits t) a fun a=>ih a k)) (fun _=>ih a k) (fun _=>ih a k) (fun _=>ih a k) x) xs
def Sub(E:Tr AV)(xs:List Operand)(e:Tr AV):Prop:=∀t v,t < LIM→Tr.get (bits t) e=some v→.tmp t∈xs∧Tr.get (bits t) E=some v
theorem subE_ok'{E:Tr AV}: ∀{xs:List Operand} {a:Tr AV} {k:Tr AV→Bool},subE E xs a k=true→∃e,k e=true∧∀t v,t < LIM→Tr.get (bits t) e=some v→(Operand.tmp t∈xs∧Tr.get (bits t) E=some v)∨Tr.get (bits t) a=some v
 | [],a,k,h=>⟨a,h,fun t v _ hv=> .inr hv⟩
 | x::xs,a,k,h=>by
  have plain:subE E xs a k=true→∃e,k e=true∧∀t v,t < LIM→Tr.get (bits t) e=some v→(Operand.tmp t∈x::xs∧Tr.get (bits t) E=some v)∨Tr.get (bits t) a=some v:=fun h=>by
   obtain⟨e,hk,he⟩:=subE_ok' h
   exact⟨e,hk,fun t v ht hv=>(he t v ht hv).imp (fun q=>⟨by simp[q.1],q.2⟩) id⟩
  cases x with
  | tmp t=>
   obtain⟨h1,h⟩:=ask_ok h
   have h1:t < LIM:=Nat.lt_of_lt_of_le (blt_lt h1) (by decide)
   rw[Tr.getK_eq] at h
   cases hg:Tr.get (bits t) E with
   | none=>
    rw[hg] at h
    exact plain h
   | some u=>
    rw[hg] at h
    replace h:Tr.setK (some u) (bits t) a (fun a=>subE E xs a k)=true:=h
    rw[Tr.setK_eq] at h
    obtain⟨e,hk,he⟩:=subE_ok' h
    refine⟨e,hk,fun t' v ht hv=>?_⟩
    rcases he t' v ht hv with q|q
    ·exact .inl ⟨by simp[q.1],q.2⟩
    ·rw[Tr.get_set] at q
     by_cases c:t=t'
     ·subst c
      rw[if_pos rfl] at q
      exact .inl ⟨by simp,hg.trans q⟩
     ·rw[if_neg fun z=>c (bits_inj h1 ht z)] at q
      exact .inr q
  | const c=>exact plain h
  | global g=>exact plain h
  | func f=>exact plain h
theorem subE_ok{E:Tr AV}{xs:List Operand}{k:Tr AV→Bool}(h:subE E xs .e k=true): ∃e,k e=true∧Sub E xs e:=by
 obtain⟨e,hk,he⟩:=subE_ok' h
 refine⟨e,hk,fun t v ht hv=>?_⟩
 rcases he t v ht hv with q|q
 ·exact q
 ·rw[Tr.get_e] at q; cases q
def BigAt(P:Program)(fl n:Nat)(o:Oper)(e:Tr AV)(h:Hp)(v:AV)(h':Hp):Prop:=∀S w0 r f w Q ops rest,f.n=n→FrOk r e f→Rel S w0 fl r h w→(∀r' w' u,Ext r r'→real r' v=some u→Rel S w0 fl r' h' w'→RW none P ops Q rest (putO f o.dst u) w')→RW none P ops Q ({o with guard:=none}::rest) f w
def PanAt(P:Program)(fl n:Nat)(o:Oper)(e:Tr AV)(h:Hp)(v:AV)(h':Hp):Prop:=∀S w0 r f w Q ops rest,f.n=n→FrOk r e f→Rel S w0 fl r h w→(∀r' w' u,Ext r r'→real r' v=some u→Rel S w0 fl r' h' w'→Q (.panic [{v:=u,recovered:=false}]) f w')→RW none P ops Q ({o with guard:=none}::rest) f w
theorem opHd_big(hc:CallOk P fl call){o:Oper}{e:Tr AV}{h:Hp}{k kp:KV}(hd : ∀t,o.dst=some t→Nat.blt t n=true)(hk:opHd o.op P fl call h e o.type k kp=true):
  (∃v h',k v h'=true∧BigAt P fl n o e h v h')∨(∃v h',kp v h'=true∧PanAt P fl n o e h v h'):=by
 rcases opHd_ok hc hk with ⟨v,h',hk,hE⟩|⟨v,h',hk,hE⟩|⟨v,h',hk,hE⟩|⟨v,hk,hnd,hE⟩
 ·refine .inl ⟨v,h',hk,fun S w0 r f w Q ops rest hn hf hR hQ=>?_⟩
  obtain⟨r',w',x,hx,hR',ho,hr⟩:=hE S w0 r f w hf hR
  rcases ho with ⟨u,rfl,hu⟩|⟨rfl,rfl⟩
  ·exact RW.gen rfl (by rw[hn]; exact hd) (.inl rfl) (fun a ha=>hr _ _ _ _ a ha) (hQ r' w' u hx hu hR')
  ·exact RW.gen rfl (by rw[hn]; exact hd) (.inr ⟨rfl,rfl⟩) (fun a ha=>hr _ _ _ _ a ha) (hQ r' w' undef hx rfl hR')
 ·refine .inl ⟨v,h',hk,fun S w0 r f w Q ops rest hn hf hR hQ=>?_⟩
  obtain⟨g,xs,hr,hC⟩:=hE S w0 r f w hf hR
  refine RW.callv rfl (by rw[hn]; exact hd) (fun a ha=>hr _ _ _ _ a ha) hC fun e w' hR'=>?_
  obtain⟨r',x,rfl,hx,hR2,hu⟩:=hR'
  exact hQ r' w' x hx hu hR2
 ·refine .inr ⟨v,h',hk,fun S w0 r f w Q ops rest hn hf hR hQ=>?_⟩
  obtain⟨g,xs,hr,hC⟩:=hE S w0 r f w hf hR
  refine RW.callv rfl (by rw[hn]; exact hd) (fun a ha=>hr _ _ _ _ a ha) hC fun e w' hR'=>?_
  obtain⟨r',x,rfl,hx,hR2,hu⟩:=hR'
  exact hQ r' w' x hx hu hR2
 ·refine .inr ⟨v,h,hk,fun S w0 r f w Q ops rest hn hf hR hQ=>?_⟩
  obtain⟨x,hx,hr⟩:=hE S w0 r f w hf hR
  exact RW.panics rfl hnd (fun a ha=>hr _ _ _ _ a ha) (hQ r w x (Ext.refl r) hx hR)
noncomputable def dstOkB(n:Nat)(d:Option Tmp):Bool:=Option.rec (motive:=fun _=>Bool) true (fun d=>Nat.blt d n) d
theorem dstOkB_ok{d:Option Tmp}(h:dstOkB n d=true): ∀t,d=some t→Nat.blt t n=true:=fun t e=>by rw[e] at h; exact h
inductive Sg where
 | z (h:Hp)
 | s (b:Nat) (h:Hp) (t:Sg)
noncomputable def Sg.top(g:Sg):Hp:=Sg.rec (motive:=fun _=>Hp) (fun h=>h) (fun _ h _ _=>h) g
noncomputable def Sg.len(g:Sg):Nat:=Sg.rec (motive:=fun _=>Nat) (fun _=>0) (fun _ _ _ n=>n+1) g
noncomputable def Sg.last(g:Sg):Option Nat:=Sg.rec (motive:=fun _=>Option Nat) (fun _=>none) (fun b _ _ _=>some b) g
noncomputable def optB(f:Nat→Bool)(x:Option Nat):Bool:=Option.rec (motive:=fun _=>Bool) false f x
noncomputable def feasB(ms:List Nat)(i:Nat)(nx ls:Option Nat):Bool:=ifeV (optB (fun b=>bitN (nthN ms i) b) nx) false (not (optB (fun b=>bitN (nthN ms b) i) ls))
noncomputable def chkK(ms:List Nat)(i c:Nat)(ev:Hp→Bool→Bool)(k:Bool)(g:Sg):Option Nat→Nat→Bool:=Sg.rec (motive:=fun _=>Option Nat→Nat→Bool)
 (fun h nx s=>ife (Nat.beq s c) k (ife (feasB ms i nx none) (ev h k) k))
 (fun b h _ ih nx s=>ife (Nat.beq s c) (natK (Nat.pred s) fun s=>ih (some b) s) (ife (feasB ms i nx (some b)) (ev h (natK (Nat.pred s) fun s=>ih (some b) s)) (natK (Nat.pred s) fun s=>ih (some b) s))) g
noncomputable def lastOk(ms:List Nat)(i:Nat)(last:Option Nat):Bool:=Option.rec (motive:=fun _=>Bool) true (fun j=>bitN (nthN ms i) j) last
noncomputable def deadK(ms:List Nat)(i:Nat)(l:List Oper):Nat→Bool:=List.rec (motive:=fun _=>Nat→Bool) (fun _=>true) (fun _ _ ih j=>ask (bitN (nthN ms j) i) (natK (Nat.succ j) ih)) l
noncomputable def eqD(E:Tr AV)(d:Option Tmp)(v:AV)(k:Bool):Bool:=Option.rec (motive:=fun _=>Bool) k (fun d=>getV d E fun u=>ask (avEq v u) k) d
abbrev KP:=Out→Hp→Tr AV→Sg→Nat→Bool
noncomputable def p1(P:Program)(fl n:Nat)(call:CallF)(ops:Array Oper)(ms:List Nat)(l:List Oper):Nat→Tr AV→Hp→Sg→Nat→KP→Bool:=
 List.rec (motive:=fun _=>Nat→Tr AV→Hp→Sg→Nat→KP→Bool) (fun _ E h G c k=>k .nm h E G c)
 (fun o rest ih i E h G c k=>wantK ops n o E (subE E o.op.operands.toList .e fun e=>ife (bigOp P o.op)
   (ask (lastOk ms i G.last) (ask (dstOkB n o.dst) (opHd o.op P fl call h e o.type
    (fun v h'=>setE n o.dst v E fun E=>natK (Nat.succ i) fun i'=>natK (Nat.succ c) fun c=>ih i' E h' (.s i h' G) c k)
    (fun v h'=>natK (Nat.succ i) fun i'=>ask (deadK ms i rest i') (k (.pan v) h' E G c)))))
   (opHd o.op P fl call h e o.type (fun v _=>setE n o.dst v E fun E=>natK (Nat.succ i) fun i'=>ih i' E h G c fun out hx Ef Gf cf=>
    chkK ms i c (fun h r=>opHd o.op P fl call h e o.type (fun w _=>eqD Ef o.dst w r) (fun _ _=>false)) (k out hx Ef Gf cf) Gf none cf) (fun _ _=>false)))
  (setE n o.dst .und E fun E=>natK (Nat.succ i) fun i'=>ih i' E h G c k)) l
noncomputable def drawK(P:Program)(fl n:Nat)(call:CallF):DrawF:=fun ops env h k=>p1 P fl n call ops (masks ops.toList []) ops.toList 0 env h (.z h) 0 fun out hx Ef _ _=>Out.rec (motive:=fun _=>Bool) (k .nm Ef hx) (fun _=>false) false (fun v=>k (.pan v) .e hx) out
end
end Go.Proofs.YtbhbdeelpopgoaaGreatDoor.E

set_option linter.constructorNameAsVariable false
namespace Go.Proofs.YtbhbdeelpopgoaaGreatDoor.E
open Go Go.RowKit H
def Sg.bigs:Sg→List Nat
 | .z _=>[]
 | .s b _ t=>b::t.bigs
inductive Tail (g:Sg) (n0:Option Nat):Sg→Option Nat→Prop where
 | refl:Tail g n0 g n0
 | step {b h t nx}:Tail g n0 (.s b h t) nx→Tail g n0 t (some b)
theorem Tail.inv{b:Nat}{h:Hp}{t u:Sg}{n0 ny:Option Nat}(T:Tail (.s b h t) n0 u ny):(u = .s b h t∧ny=n0)∨Tail t (some b) u ny:=by
 induction T with
 | refl=>exact .inl ⟨rfl,rfl⟩
 | step T ih=>
  rcases ih with ⟨e,_⟩|ih
  ·injection e with e1 e2 e3
   subst e1; subst e3
   exact .inr .refl
  ·exact .inr ih.step
theorem Tail.invz{h:Hp}{u:Sg}{n0 ny:Option Nat}(T:Tail (.z h) n0 u ny):u = .z h∧ny=n0:=by
 induction T with
 | refl=>exact⟨rfl,rfl⟩
 | step T ih=>obtain⟨e,_⟩:=ih; cases e
theorem Tail.len{g u:Sg}{n0 a:Option Nat}(T:Tail g n0 u a):u.len≤g.len:=by
 induction T with
 | refl=>exact Nat.le_refl _
 | step T ih=>exact Nat.le_trans (Nat.le_succ _) ih
theorem Tail.cmp: ∀{g u v:Sg} {n0 a b:Option Nat},Tail g n0 u a→Tail g n0 v b→u.len≤v.len→Tail v b u a
 | .z h,u,v,n0,a,b,T,T',_=>by
  obtain⟨rfl,rfl⟩:=T.invz
  obtain⟨rfl,rfl⟩:=T'.invz
  exact .refl
 | .s c h t,u,v,n0,a,b,T,T',hl=>by
  rcases T'.inv with ⟨rfl,rfl⟩|T2
  ·exact T
  ·rcases T.inv with ⟨rfl,rfl⟩|T1
   ·have:=T2.len
    have e:(Sg.s c h t).len=t.len+1:=rfl
    omega
   ·exact T1.cmp T2 hl
theorem Tail.nx{g u:Sg}{n0 a:Option Nat}(T:Tail g n0 u a):(u=g∧a=n0)∨∃c,a=some c∧c∈g.bigs∧u.len < g.len:=by
 have sub : ∀{u a},Tail g n0 u a→∀c∈u.bigs,c∈g.bigs:=by
  intro u a T
  induction T with
  | refl=>exact fun c h=>h
  | step T ih=>exact fun c h=>ih c (List.mem_cons_of_mem _ h)
 cases T with
 | refl=>exact .inl ⟨rfl,rfl⟩
 | step T=>exact .inr ⟨_,rfl,sub T _ (List.mem_cons_self ..),Nat.lt_of_lt_of_le (Nat.lt_succ_self _) T.len⟩
def WF(ms:List Nat):Sg→Prop
 | .z _=>True
 | .s b _ t=>(∀c,t.last=some c→bitN (nthN ms b) c=true)∧WF ms t
theorem Tail.wf{ms:List Nat}{g u:Sg}{n0 a:Option Nat}(T:Tail g n0 u a)(h:WF ms g):WF ms u:=by
 induction T with
 | refl=>exact h
 | step T ih=>exact ih.2
theorem Tail.above{ms:List Nat}{g u:Sg}{n0 a:Option Nat}(T:Tail g n0 u a)(h:WF ms g):(u=g∧a=n0)∨∃c,a=some c∧∀b,u.last=some b→bitN (nthN ms c) b=true:=by
 cases T with
 | refl=>exact .inl ⟨rfl,rfl⟩
 | step T=>exact .inr ⟨_,rfl,(T.wf h).1⟩
theorem WF.all{ms:List Nat}{D:Nat→Prop}(hD : ∀i,D i→∀j,bitN (nthN ms i) j=true→D j): ∀{g:Sg},WF ms g→(∀b,g.last=some b→D b)→∀c∈g.bigs,D c
 | .z _,_,_,c,hc=>by cases hc
 | .s b h t,hw,hl,c,hc=>by
  have hb:=hl b rfl
  rcases List.mem_cons.1 hc with rfl|hc
  ·exact hb
  ·exact WF.all hD hw.2 (fun d hd=>hD b hb d (hw.1 d hd)) c hc
def Feas(ms:List Nat)(i:Nat)(nx:Option Nat)(u:Sg):Prop:=(∀b,nx=some b→bitN (nthN ms i) b=false)∧∀b,u.last=some b→bitN (nthN ms b) i=false
theorem feas_no{ms:List Nat}{i:Nat}{nx ls:Option Nat}(h:feasB ms i nx ls=false): ¬((∀b,nx=some b→bitN (nthN ms i) b=false)∧∀b,ls=some b→bitN (nthN ms b) i=false):=by
 rintro⟨h1,h2⟩
 have e1:optB (fun b=>bitN (nthN ms i) b) nx=false:=by
  cases nx with
  | none=>rfl
  | some b=>exact h1 b rfl
 have e2:optB (fun b=>bitN (nthN ms b) i) ls=false:=by
  cases ls with
  | none=>rfl
  | some b=>exact h2 b rfl
 unfold feasB at h
 rw[e1,e2] at h
 cases h
theorem chkK_ok{ms:List Nat}{i c:Nat}{ev:Hp→Bool→Bool}{k:Bool}{G:Hp→Prop}(hev : ∀h r,ev h r=true→r=true∧G h): ∀(g:Sg) (nx:Option Nat),chkK ms i c ev k g nx g.len=true→k=true∧∀u ny,Tail g nx u ny→u.len=c∨¬Feas ms i ny u∨G u.top:=by
 intro g
 have one : ∀(s:Nat) (nx ls:Option Nat) (h:Hp) (r:Bool),ife (Nat.beq s c) r (ife (feasB ms i nx ls) (ev h r) r)=true→r=true∧(s=c∨¬((∀b,nx=some b→bitN (nthN ms i) b=false)∧∀b,ls=some b→bitN (nthN ms b) i=false)∨G h):=by
  intro s nx ls h r hk
  rcases ife_ok hk with ⟨e,hk⟩|⟨_,hk⟩
  ·exact⟨hk,.inl (Nat.eq_of_beq_eq_true e)⟩
  rcases ife_ok hk with ⟨_,hk⟩|⟨e,hk⟩
  ·exact⟨(hev h r hk).1,.inr (.inr (hev h r hk).2)⟩
  ·exact⟨hk,.inr (.inl (feas_no e))⟩
 induction g with
 | z h=>
  intro nx hk
  obtain⟨hk,h1⟩:=one _ nx none h k hk
  refine⟨hk,fun u ny T=>?_⟩
  obtain⟨rfl,rfl⟩:=T.invz
  exact h1
 | s b h t ih=>
  intro nx hk
  obtain⟨hk,h1⟩:=one _ nx (some b) h _ hk
  rw[natK_eq] at hk
  obtain⟨hk,h2⟩:=ih (some b) hk
  refine⟨hk,fun u ny T=>?_⟩
  rcases T.inv with ⟨rfl,rfl⟩|T
  ·exact h1
  ·exact h2 u ny T
noncomputable def setD(d:Option Tmp)(v:AV)(E:Tr AV):Tr AV:=match d with
 | none=>E
 | some d=>Tr.set (some v) (bits d) E
def DOk(n:Nat)(d:Option Tmp):Prop:=∀t,d=some t→Nat.blt t n=true∧t < 4096
theorem setE_eq{n:Nat}{d:Option Tmp}{v:AV}{E:Tr AV}{k:Tr AV→Bool}(h:setE n d v E k=true):k (setD d v E)=true∧DOk n d:=by
 cases d with
 | none=>exact⟨h,fun t c=>by cases c⟩
 | some d=>
  obtain⟨h1,h⟩:=ask_ok h
  obtain⟨h2,h⟩:=ask_ok h
  rw[Tr.setK_eq] at h
  exact⟨h,fun t c=>by cases c; exact⟨h1,blt_lt h2⟩⟩
theorem lim_of{t:Nat}(h:t < 4096):t < LIM:=Nat.lt_of_lt_of_le h (by decide)
theorem setD_ne{n:Nat}{d:Option Tmp}(hd:DOk n d){v:AV}{E:Tr AV}{t:Nat}(ht:t < LIM)(h:d≠some t):Tr.get (bits t) (setD d v E)=Tr.get (bits t) E:=by
 cases d with
 | none=>rfl
 | some d=>
  show Tr.get (bits t) (Tr.set (some v) (bits d) E)=_
  rw[Tr.get_set,if_neg fun c=>h (by rw[bits_inj (lim_of (hd d rfl).2) ht c])]
theorem setD_eq{d:Nat}{v:AV}{E:Tr AV}:Tr.get (bits d) (setD (some d) v E)=some v:=by
 show Tr.get (bits d) (Tr.set (some v) (bits d) E)=_
 rw[Tr.get_set,if_pos rfl]
def DstIs(E:Tr AV)(d:Option Tmp)(v:AV):Prop:=∀t,d=some t→Tr.get (bits t) E=some v
theorem eqD_ok{E:Tr AV}{d:Option Tmp}{v:AV}{k:Bool}(h:eqD E d v k=true):k=true∧DstIs E d v:=by
 cases d with
 | none=>exact⟨h,fun t c=>by cases c⟩
 | some d=>
  obtain⟨u,hu,h⟩:=getV_ok h
  obtain⟨h1,h⟩:=ask_ok h
  refine⟨h,fun t c=>?_⟩
  cases c
  rw[avEq_ok _ _ h1]
  exact hu
theorem deadK_ok{ms:List Nat}{i:Nat}: ∀{l:List Oper} {j:Nat},deadK ms i l j=true→∀m,j≤m→m < j+l.length→bitN (nthN ms m) i=true
 | [],j,_,m,h1,h2=>by simp at h2; omega
 | o::l,j,h,m,h1,h2=>by
  obtain⟨h3,h⟩:=ask_ok h
  rw[natK_eq] at h
  rcases Nat.lt_or_ge j m with c|c
  ·exact deadK_ok (l:=l) (j:=j+1) h m c (by simp at h2; omega)
  ·have:m=j:=by omega
   subst this; exact h3
theorem lastOk_ok{ms:List Nat}{i:Nat}{l:Option Nat}(h:lastOk ms i l=true): ∀b,l=some b→bitN (nthN ms i) b=true:=fun b e=>by rw[e] at h; exact h
section
variable {P : Program} {fl n : Nat} {call : CallF} {ops : Array Oper} {ms : List Nat}
inductive P1 (P:Program) (fl n:Nat) (ops:Array Oper) (ms:List Nat) (out:Out) (hx:Hp) (Ef:Tr AV) (Gf:Sg) (pn:Option Nat):List Oper→Nat→Tr AV→Sg→Prop where
 | nil {i}:pn=none→out = .nm→hx=Gf.top→P1 P fl n ops ms out hx Ef Gf pn [] i Ef Gf
 | off {o rest i E G}:Wt ops n o E false→DOk n o.dst→P1 P fl n ops ms out hx Ef Gf pn rest (i+1) (setD o.dst .und E) G→P1 P fl n ops ms out hx Ef Gf pn (o::rest) i E G
 | small {o rest i E G e v}:Wt ops n o E true→DOk n o.dst→Sub E o.op.operands.toList e→Yo P fl o.op o.type e G.top v→(∀u ny,Tail Gf none u ny→u.len=G.len∨¬Feas ms i ny u∨∃w,Yo P fl o.op o.type e u.top w∧DstIs Ef o.dst w)→P1 P fl n ops ms out hx Ef Gf pn rest (i+1) (setD o.dst v E) G→P1 P fl n ops ms out hx Ef Gf pn (o::rest) i E G
 | big {o rest i E G e v h'}:Wt ops n o E true→DOk n o.dst→Sub E o.op.operands.toList e→(∀b,G.last=some b→bitN (nthN ms i) b=true)→BigAt P fl n o e G.top v h'→P1 P fl n ops ms out hx Ef Gf pn rest (i+1) (setD o.dst v E) (.s i h' G)→P1 P fl n ops ms out hx Ef Gf pn (o::rest) i E G
 | pan {o rest i e v}:pn=some i→out = .pan v→Wt ops n o Ef true→Sub Ef o.op.operands.toList e→(∀b,Gf.last=some b→bitN (nthN ms i) b=true)→PanAt P fl n o e Gf.top v hx→(∀j,i < j→j < i+1+rest.length→bitN (nthN ms j) i=true)→P1 P fl n ops ms out hx Ef Gf pn (o::rest) i Ef Gf
theorem p1_ok(hc:CallOk P fl call): ∀{l:List Oper} {i:Nat} {E:Tr AV} {h:Hp} {G:Sg} {c:Nat} {k:KP},h=G.top→c=G.len→p1 P fl n call ops ms l i E h G c k=true→∃out hx Ef Gf pn,k out hx Ef Gf Gf.len=true∧P1 P fl n ops ms out hx Ef Gf pn l i E G∧(out = .nm∨∃v,out = .pan v)
 | [],i,E,h,G,c,k,e1,e2,hk=>by subst e1; subst e2; exact⟨.nm,G.top,E,G,none,hk,.nil rfl rfl rfl,.inl rfl⟩
 | o::rest,i,E,h,G,c,k,e1,e2,hk=>by
  subst e1; subst e2
  rcases wantK_ok hk with ⟨hk,hw⟩|⟨hk,hw⟩
  ·obtain⟨e,hk,he⟩:=subE_ok hk
   rcases ife_ok hk with ⟨hb,hk⟩|⟨hb,hk⟩
   ·obtain⟨h1,hk⟩:=ask_ok hk
    obtain⟨h2,hk⟩:=ask_ok hk
    rcases opHd_big hc (n:=n) (dstOkB_ok h2) hk with ⟨v,h',hk,hB⟩|⟨v,h',hk,hB⟩
    ·obtain⟨hk,hd⟩:=setE_eq hk
     rw[natK_eq,natK_eq] at hk
     obtain⟨out,hx,Ef,Gf,pn,hk,hP,ho⟩:=p1_ok hc (l:=rest) (G:= .s i h' G) rfl rfl hk
     exact⟨out,hx,Ef,Gf,pn,hk,.big hw hd he (lastOk_ok h1) hB hP,ho⟩
    ·rw[natK_eq] at hk
     obtain⟨h3,hk⟩:=ask_ok hk
     exact⟨.pan v,h',E,G,some i,hk,.pan rfl rfl hw he (lastOk_ok h1) hB (fun j a b=>deadK_ok h3 j a b),.inr ⟨v,rfl⟩⟩
   ·obtain⟨v,hk,hY⟩:=small_ok hb hk
    obtain⟨hk,hd⟩:=setE_eq hk
    rw[natK_eq] at hk
    obtain⟨out,hx,Ef,Gf,pn,hk,hP,ho⟩:=p1_ok hc (l:=rest) (G:=G) rfl rfl hk
    obtain⟨hk,hT⟩:=chkK_ok (G:=fun h=>∃w,Yo P fl o.op o.type e h w∧DstIs Ef o.dst w) (fun h r hr=>by
     obtain⟨w,hr,hY⟩:=small_ok hb hr
     obtain⟨hr,hD⟩:=eqD_ok hr
     exact⟨hr,w,hY,hD⟩) Gf none hk
    exact⟨out,hx,Ef,Gf,pn,hk,.small hw hd he hY hT hP,ho⟩
  ·obtain⟨hk,hd⟩:=setE_eq hk
   rw[natK_eq] at hk
   obtain⟨out,hx,Ef,Gf,pn,hk,hP,ho⟩:=p1_ok hc (l:=rest) (G:=G) rfl rfl hk
   exact⟨out,hx,Ef,Gf,pn,hk,.off hw hd hP,ho⟩
end
end Go.Proofs.YtbhbdeelpopgoaaGreatDoor.E

set_option linter.constructorNameAsVariable false
namespace Go.Proofs.YtbhbdeelpopgoaaGreatDoor.E
open Go Go.RowKit H
section
variable {P : Program} {fl n : Nat} {call : CallF} {ops : Array Oper} {ms : List Nat} {out : Out} {hx : Hp} {Ef E0 : Tr AV} {Gf : Sg} {pn : Option Nat}
theorem drop_cons{l rest:List Oper}{o:Oper}{i:Nat}(h:l.drop i=o::rest):l[i]?=some o∧l.drop (i+1)=rest:=by
 have h1:l[i]?=some o:=by
  have:=List.getElem?_drop (xs:=l) (i:=i) (j:=0)
  rw[h] at this
  simpa using this.symm
 refine⟨h1,?_⟩
 have:=List.drop_drop (i:=1) (j:=i) (l:=l)
 rw[h] at this
 simpa [Nat.add_comm] using this.symm
theorem toL(i:Nat):ops.toList[i]?=ops[i]?:=by simp
def Off(ops:Array Oper)(i t:Nat):Prop:=∀j o,i≤j→ops[j]?=some o→o.dst≠some t
theorem P1.keep{l:List Oper}{i:Nat}{E:Tr AV}{G:Sg}(h:P1 P fl n ops ms out hx Ef Gf pn l i E G)(hl:ops.toList.drop i=l){t:Nat}(ht:t < LIM)(ho:Off ops i t):Tr.get (bits t) Ef=Tr.get (bits t) E:=by
 induction h with
 | nil=>rfl
 | off hw hd _ ih=>
  obtain⟨h1,h2⟩:=drop_cons hl
  rw[toL] at h1
  rw[ih h2 (fun j o a b=>ho j o (by omega) b),setD_ne hd ht (ho _ _ (Nat.le_refl _) h1)]
 | small hw hd _ _ _ _ ih=>
  obtain⟨h1,h2⟩:=drop_cons hl
  rw[toL] at h1
  rw[ih h2 (fun j o a b=>ho j o (by omega) b),setD_ne hd ht (ho _ _ (Nat.le_refl _) h1)]
 | big hw hd _ _ _ _ ih=>
  obtain⟨h1,h2⟩:=drop_cons hl
  rw[toL] at h1
  rw[ih h2 (fun j o a b=>ho j o (by omega) b),setD_ne hd ht (ho _ _ (Nat.le_refl _) h1)]
 | pan=>rfl
theorem P1.tail{l:List Oper}{i:Nat}{E:Tr AV}{G:Sg}(h:P1 P fl n ops ms out hx Ef Gf pn l i E G): ∃nx,Tail Gf none G nx:=by
 induction h with
 | nil=>exact⟨_,.refl⟩
 | off _ _ _ ih=>exact ih
 | small _ _ _ _ _ _ ih=>exact ih
 | big _ _ _ _ _ _ ih=>obtain⟨nx,T⟩:=ih; exact⟨_,T.step⟩
 | pan=>exact⟨_,.refl⟩
theorem P1.wf{l:List Oper}{i:Nat}{E:Tr AV}{G:Sg}(h:P1 P fl n ops ms out hx Ef Gf pn l i E G)(hG:WF ms G):WF ms Gf:=by
 induction h with
 | nil=>exact hG
 | off _ _ _ ih=>exact ih hG
 | small _ _ _ _ _ _ ih=>exact ih hG
 | big _ _ _ h1 _ _ ih=>exact ih ⟨h1,hG⟩
 | pan=>exact hG
theorem P1.bigs{l:List Oper}{i:Nat}{E:Tr AV}{G:Sg}(h:P1 P fl n ops ms out hx Ef Gf pn l i E G): ∀b∈Gf.bigs,b∈G.bigs∨(i≤b∧b < i+l.length):=by
 induction h with
 | nil=>exact fun b h=> .inl h
 | off _ _ _ ih=>exact fun b h=>(ih b h).imp id fun q=>by simp only[List.length_cons]; omega
 | small _ _ _ _ _ _ ih=>exact fun b h=>(ih b h).imp id fun q=>by simp only[List.length_cons]; omega
 | big _ _ _ _ _ _ ih=>
  intro b h
  rcases ih b h with h|h
  ·rcases List.mem_cons.1 h with rfl|h
   ·exact .inr (by simp only[List.length_cons]; omega)
   ·exact .inl h
  ·exact .inr (by simp only[List.length_cons]; omega)
 | pan=>exact fun b h=> .inl h
theorem P1.pge{l:List Oper}{i:Nat}{E:Tr AV}{G:Sg}(h:P1 P fl n ops ms out hx Ef Gf pn l i E G): ∀p,pn=some p→i≤p∧p < i+l.length:=by
 induction h with
 | nil h=>intro p e; rw[h] at e; cases e
 | off _ _ _ ih=>exact fun p e=>by have:=ih p e; simp only[List.length_cons]; omega
 | small _ _ _ _ _ _ ih=>exact fun p e=>by have:=ih p e; simp only[List.length_cons]; omega
 | big _ _ _ _ _ _ ih=>exact fun p e=>by have:=ih p e; simp only[List.length_cons]; omega
 | pan h=>intro p e; rw[h] at e; cases e; simp only[List.length_cons]; omega
theorem P1.fin{l:List Oper}{i:Nat}{E:Tr AV}{G:Sg}(h:P1 P fl n ops ms out hx Ef Gf pn l i E G):pn=none→out = .nm∧hx=Gf.top:=by
 induction h with
 | nil _ h1 h2=>exact fun _=>⟨h1,h2⟩
 | off _ _ _ ih=>exact ih
 | small _ _ _ _ _ _ ih=>exact ih
 | big _ _ _ _ _ _ ih=>exact ih
 | pan h=>intro e; rw[h] at e; cases e
def Use(ops:Array Oper)(E0 Ef:Tr AV)(i:Nat)(o:Oper)(e:Tr AV):Prop:=∀t v,t < LIM→Tr.get (bits t) e=some v→Operand.tmp t∈o.op.operands∧((∀j o',ops[j]?=some o'→o'.dst=some t→j < i)→Tr.get (bits t) Ef=some v)∧((∀j o',ops[j]?=some o'→o'.dst=some t→i≤j)→Tr.get (bits t) E0=some v)
inductive Fact (P:Program) (fl n:Nat) (ops:Array Oper) (ms:List Nat) (out:Out) (hx:Hp) (E0 Ef:Tr AV) (Gf:Sg) (pn:Option Nat) (i:Nat) (o:Oper):Prop where
 | off:pn≠some i→i∉Gf.bigs→Wt ops n o Ef false→DOk n o.dst→DstIs Ef o.dst .und→Fact P fl n ops ms out hx E0 Ef Gf pn i o
 | small {e}:pn≠some i→i∉Gf.bigs→Wt ops n o Ef true→DOk n o.dst→Use ops E0 Ef i o e→(∀u ny,Tail Gf none u ny→Feas ms i ny u→∃w,Yo P fl o.op o.type e u.top w∧DstIs Ef o.dst w)→Fact P fl n ops ms out hx E0 Ef Gf pn i o
 | big {e t h' nx v}:pn≠some i→Wt ops n o Ef true→DOk n o.dst→Use ops E0 Ef i o e→Tail Gf none (.s i h' t) nx→BigAt P fl n o e t.top v h'→DstIs Ef o.dst v→(∀b,t.last=some b→bitN (nthN ms i) b=true)→Fact P fl n ops ms out hx E0 Ef Gf pn i o
 | pan {e v}:out = .pan v→Wt ops n o Ef true→Use ops E0 Ef i o e→(∀b,Gf.last=some b→bitN (nthN ms i) b=true)→PanAt P fl n o e Gf.top v hx→Fact P fl n ops ms out hx E0 Ef Gf pn i o
 | dead {p}:pn=some p→bitN (nthN ms i) p=true→Fact P fl n ops ms out hx E0 Ef Gf pn i o
theorem Wt.mono{o:Oper}{E E':Tr AV}{b:Bool}(h:Wt ops n o E b)(hg : ∀j c t,o.guard=some (j,c)→(ops[j]?).bind (·.dst)=some t→t < 4096→Tr.get (bits t) E'=Tr.get (bits t) E):Wt ops n o E' b:=by
 rcases h with h|⟨j,c,t,v,h1,h2,h3,h4,h5,h6⟩
 ·exact .inl h
 ·exact .inr ⟨j,c,t,v,h1,h2,h3,h4,(hg j c t h1 h2 h4).trans h5,h6⟩
theorem P1.fact(hR:RegOk ops ms){l:List Oper}{i:Nat}{E:Tr AV}{G:Sg}(h:P1 P fl n ops ms out hx Ef Gf pn l i E G)(hl:ops.toList.drop i=l)(hG : ∀b∈G.bigs,b < i)(hE : ∀t,t < LIM→(∀j o,ops[j]?=some o→o.dst=some t→i≤j)→Tr.get (bits t) E=Tr.get (bits t) E0): ∀j o,i≤j→ops[j]?=some o→Fact P fl n ops ms out hx E0 Ef Gf pn j o:=by
 have same : ∀{o:Oper} {rest:List Oper} {i:Nat} {E:Tr AV} {G:Sg},P1 P fl n ops ms out hx Ef Gf pn (o::rest) i E G→ops.toList.drop i=o::rest→ops[i]?=some o→∀b,Wt ops n o E b→Wt ops n o Ef b:=by
  intro o rest i E G h hl hi b hw
  refine hw.mono fun j c t hg hj ht=>h.keep hl (lim_of ht) fun k o' hk ho' hd=>?_
  have h1:=hR.bw i o j hi (hR.gd i o j c hi hg)
  cases hoj:ops[j]? with
  | none=>rw[hoj] at hj; cases hj
  | some oj=>
   rw[hoj] at hj
   have:=hR.one j k oj o' t hoj ho' hj hd
   omega
 have use : ∀{o:Oper} {rest:List Oper} {i:Nat} {E e:Tr AV} {G:Sg},P1 P fl n ops ms out hx Ef Gf pn (o::rest) i E G→ops.toList.drop i=o::rest→(∀t,t < LIM→(∀j o,ops[j]?=some o→o.dst=some t→i≤j)→Tr.get (bits t) E=Tr.get (bits t) E0)→Sub E o.op.operands.toList e→Use ops E0 Ef i o e:=by
  intro o rest i E e G h hl hE hS t v ht hv
  obtain⟨h1,h2⟩:=hS t v ht hv
  refine⟨by simpa using h1,fun q=>?_,fun q=>?_⟩
  ·rw[h.keep hl ht fun k o' hk ho' hd=>?_]
   ·exact h2
   ·have:=q k o' ho' hd
    omega
  ·rw[←hE t ht q]; exact h2
 have next : ∀{o:Oper} {i:Nat} {E:Tr AV} {v:AV},ops[i]?=some o→DOk n o.dst→(∀t,t < LIM→(∀j o,ops[j]?=some o→o.dst=some t→i≤j)→Tr.get (bits t) E=Tr.get (bits t) E0)→∀t,t < LIM→(∀j o,ops[j]?=some o→o.dst=some t→i+1≤j)→Tr.get (bits t) (setD o.dst v E)=Tr.get (bits t) E0:=by
  intro o i E v hi hd hE t ht q
  rw[setD_ne hd ht fun c=>by have:=q i o hi c; omega]
  exact hE t ht fun j o' a b=>by have:=q j o' a b; omega
 have dst : ∀{o:Oper} {rest:List Oper} {i:Nat} {E:Tr AV} {v:AV} {G:Sg},ops[i]?=some o→ops.toList.drop (i+1)=rest→DOk n o.dst→P1 P fl n ops ms out hx Ef Gf pn rest (i+1) (setD o.dst v E) G→DstIs Ef o.dst v:=by
  intro o rest i E v G hi hl hd h t ht
  rw[h.keep hl (lim_of (hd t ht).2) fun k o' hk ho' hdk=>?_,ht,setD_eq]
  have:=hR.one i k o o' t hi ho' ht hdk
  omega
 induction h with
 | nil=>
  intro j o hj ho
  have:=(Array.getElem?_eq_some_iff.1 ho).1
  have h2:=List.drop_eq_nil_iff.1 hl
  simp at h2
  omega
 | @off o rest i E G hw hd hP ih=>
  obtain⟨h1,h2⟩:=drop_cons hl
  rw[toL] at h1
  intro j o' hj ho'
  rcases Nat.lt_or_ge i j with c|c
  ·exact ih h2 (fun b hb=>Nat.lt_succ_of_lt (hG b hb)) (next h1 hd hE) j o' c ho'
  ·have:j=i:=by omega
   subst this
   rw[h1] at ho'; cases ho'
   refine .off (fun e=>?_) (fun hb=>?_) (same (.off hw hd hP) hl h1 _ hw) hd (dst h1 h2 hd hP)
   ·have:=hP.pge _ e; omega
   ·rcases hP.bigs _ hb with q|q
    ·have:=hG _ q; omega
    ·omega
 | @small o rest i E G e v hw hd he hY hT hP ih=>
  obtain⟨h1,h2⟩:=drop_cons hl
  rw[toL] at h1
  intro j o' hj ho'
  rcases Nat.lt_or_ge i j with c|c
  ·exact ih h2 (fun b hb=>Nat.lt_succ_of_lt (hG b hb)) (next h1 hd hE) j o' c ho'
  ·have:j=i:=by omega
   subst this
   rw[h1] at ho'; cases ho'
   refine .small (e:=e) (fun e=>?_) (fun hb=>?_) (same (.small hw hd he hY hT hP) hl h1 _ hw) hd (use (.small hw hd he hY hT hP) hl hE he) fun u ny T hF=>?_
   ·have:=hP.pge _ e; omega
   ·rcases hP.bigs _ hb with q|q
    ·have:=hG _ q; omega
    ·omega
   ·rcases hT u ny T with q|q|q
    ·obtain⟨nx,TG⟩:=hP.tail
     have e1:u=G:=by
      rcases (T.cmp TG (by omega)).nx with ⟨e,_⟩|⟨_,_,_,q2⟩
      ·exact e
      ·omega
     subst e1
     exact⟨v,hY,dst h1 h2 hd hP⟩
    ·exact absurd hF q
    ·exact q
 | @big o rest i E G e v h' hw hd he hL hB hP ih=>
  obtain⟨h1,h2⟩:=drop_cons hl
  rw[toL] at h1
  intro j o' hj ho'
  rcases Nat.lt_or_ge i j with c|c
  ·refine ih h2 (fun b hb=>?_) (next h1 hd hE) j o' c ho'
   rcases List.mem_cons.1 hb with rfl|hb
   ·exact Nat.lt_succ_self _
   ·exact Nat.lt_succ_of_lt (hG b hb)
  ·have:j=i:=by omega
   subst this
   rw[h1] at ho'; cases ho'
   obtain⟨nx,TG⟩:=hP.tail
   refine .big (e:=e) (fun e=>?_) (same (.big hw hd he hL hB hP) hl h1 _ hw) hd (use (.big hw hd he hL hB hP) hl hE he) TG hB (dst h1 h2 hd hP) hL
   have:=hP.pge _ e; omega
 | @pan o rest i e v hp ho hw he hL hB hD=>
  obtain⟨h1,h2⟩:=drop_cons hl
  rw[toL] at h1
  intro j o' hj ho'
  rcases Nat.lt_or_ge i j with c|c
  ·refine .dead hp (hD j c ?_)
   have h3:=(Array.getElem?_eq_some_iff.1 ho').1
   have h4:=congrArg List.length hl
   simp at h4
   omega
  ·have:j=i:=by omega
   subst this
   rw[h1] at ho'; cases ho'
   exact .pan ho hw (use (.pan hp ho hw he hL hB hD) hl hE he) hL hB
noncomputable def outE(out:Out)(E:Tr AV):Tr AV:=Out.rec (motive:=fun _=>Tr AV) E (fun _=> .e) .e (fun _=> .e) out
theorem draw_ok(hm:P.follows .mixedOrders=true)(hR:RegOk ops ms){h0:Hp}(hP:P1 P fl n ops ms out hx Ef Gf pn ops.toList 0 E0 (.z h0))(ho:out = .nm∨∃v,out = .pan v)(id:Nat):CodeOk P fl n (.region id ops true) E0 h0 out (outE out Ef) hx:=by
 have hl:ops.toList.drop 0=ops.toList:=by simp
 have facts:=P1.fact (E0:=E0) hR hP hl (fun b hb=>by cases hb) (fun t _ _=>rfl)
 have hwf:=hP.wf trivial
 have hsz : ∀j o,ops[j]?=some o→j < ops.size:=fun j o h=>(Array.getElem?_eq_some_iff.1 h).1
 intro M hM S w0 r f0 w Q hn0 hf0 hR0 hE
 subst hM
 have keep0 : ∀t,t < LIM→(∀(j:Nat) (o:Oper),ops[j]?=some o→o.dst≠some t)→Tr.get (bits t) Ef=Tr.get (bits t) E0:=fun t ht q=>hP.keep hl ht fun j o _=>q j o
 let Inv:(Nat→Prop)→Fr→World→Prop:=fun D f w=>f.n=n∧f.ds=f0.ds∧(∀i,D i→∀(o:Oper),ops[i]?=some o→∀j∈edgeL o,D j)∧(∀p,pn=some p→¬D p)∧(∀i,D i→i < ops.size)∧∃r' T nx,Ext r r'∧Tail Gf none T nx∧(∀b∈T.bigs,D b)∧(∀b,nx=some b→¬D b)∧Rel S w0 fl r' T.top w∧
  ∀t,t < LIM→((∀(j:Nat) (o:Oper),ops[j]?=some o→o.dst=some t→D j)→∀v,Tr.get (bits t) Ef=some v→∃u,real r' v=some u∧H.look f.e t=some u)∧((∀(j:Nat) (o:Oper),ops[j]?=some o→o.dst=some t→¬D j)→∀v,Tr.get (bits t) E0=some v→∃u,real r' v=some u∧H.look f.e t=some u)
 refine CW_draw hm Inv (fun i o hi j hj=>hR.lt i o hi j (by rwa [edgesOf_eq hi] at hj)) (fun D f w i o hi hnD hed hlt hI=>?_) (fun f w hI=>?_) (fun w' hk=>?_)
 ·obtain⟨hn,hds,hcl,hpn,hDs,r',T,nx,hx',hT,hTb,hnx,hRel,hS⟩:=hI
  rw[edgesOf_eq hi] at hed
  have hmaskD : ∀i,D i→∀j,bitN (nthN ms i) j=true→D j:=by
   intro i
   induction i using Nat.strongRecOn with
   | _ i ih=>
    intro hDi j hj
    obtain⟨o',ho'⟩ : ∃o',ops[i]?=some o':=⟨ops[i]'(hDs i hDi),Array.getElem?_eq_getElem _⟩
    rcases hR.anc i o' ho' j hj with q|⟨m,hm1,hm2⟩
    ·exact hcl i hDi o' ho' j q
    ·exact ih m (hR.lt i o' ho' m hm1) (hcl i hDi o' ho' m hm1) j hm2
  have hmask : ∀j,bitN (nthN ms i) j=true→D j:=by
   intro j hj
   rcases hR.anc i o hi j hj with q|⟨m,hm1,hm2⟩
   ·exact hed j q
   ·exact hmaskD m (hed m hm1) j hm2
  have frame : ∀{e},Use ops E0 Ef i o e→FrOk r' e f:=by
   intro e hU t v ht hv
   obtain⟨h1,h2,h3⟩:=hU t v ht hv
   by_cases hw : ∃(j:Nat) (o':Oper),ops[j]?=some o'∧o'.dst=some t
   ·obtain⟨j,o',hj,hd⟩:=hw
    have uni : ∀k o2,ops[k]?=some o2→o2.dst=some t→k=j:=fun k o2 a b=>hR.one k j o2 o' t a hj b hd
    have case0:i≤j→¬D j→∃u,real r' v=some u∧H.look f.e t=some u:=fun hij hDj=>(hS t ht).2 (fun k o2 a b=>by rw[uni k o2 a b]; exact hDj) v (h3 fun k o2 a b=>by rw[uni k o2 a b]; exact hij)
    rcases hR.use i j o o' t hi hj h1 hd with q|q|q
    ·have hb:=hR.bw i o j hi q
     exact(hS t ht).1 (fun k o2 a b=>by rw[uni k o2 a b]; exact hmask j q) v (h2 fun k o2 a b=>by rw[uni k o2 a b]; exact hb)
    ·have hb:=hR.bw j o' i hj q
     exact case0 (by omega) fun c=>hnD (hmaskD j c i q)
    ·subst q; exact case0 (Nat.le_refl _) hnD
   ·have hno : ∀(j:Nat) (o':Oper),ops[j]?=some o'→o'.dst=some t→False:=fun j o' a b=>hw ⟨j,o',a,b⟩
    exact(hS t ht).1 (fun j o' a b=>(hno j o' a b).elim) v (h2 fun j o' a b=>(hno j o' a b).elim)
  have guard : ∀j c t v,o.guard=some (j,c)→(ops[j]?).bind (·.dst)=some t→t < 4096→Tr.get (bits t) Ef=some v→∃u,real r' v=some u∧H.look f.e t=some u:=by
   intro j c t v hg hj ht hv
   have hDj:=hmask j (hR.gd i o j c hi hg)
   cases hoj:ops[j]? with
   | none=>rw[hoj] at hj; cases hj
   | some oj=>
    rw[hoj] at hj
    exact(hS t (lim_of ht)).1 (fun k o2 a b=>by rw[hR.one k j o2 oj t a hoj b hj]; exact hDj) v hv
  have step : ∀{r2 T2 nx2 w2 v u},pn≠some i→DOk n o.dst→Ext r' r2→Tail Gf none T2 nx2→(∀b∈T2.bigs,b=i∨D b)→(∀b,nx2=some b→¬(b=i∨D b))→Rel S w0 fl r2 T2.top w2→real r2 v=some u→DstIs Ef o.dst v→Inv (fun j=>j=i∨D j) (putO f o.dst u) w2:=by
   intro r2 T2 nx2 w2 v u hp hd hx2 hT2 hb2 hn2 hR2 hu hD
   refine⟨(putO_n _ _ _).1.trans hn,(putO_n _ _ _).2.trans hds,fun k hk o' ho' j hj=>?_,fun p e c=>?_,fun k hk=>?_,r2,T2,nx2,hx'.trans hx2,hT2,hb2,hn2,hR2,fun t ht=>?_⟩
   ·rcases hk with rfl|hk
    ·rw[hi] at ho'; cases ho'
     exact .inr (hed j hj)
    ·exact .inr (hcl k hk o' ho' j hj)
   ·rcases c with rfl|c
    ·exact hp e
    ·exact hpn p e c
   ·rcases hk with rfl|hk
    ·exact hsz _ _ hi
    ·exact hDs k hk
   ·by_cases hdt:o.dst=some t
    ·have hlook:H.look (putO f o.dst u).e t=some u:=by rw[hdt]; simp[putO,Fr.put,H.look,beq_self]
     refine⟨fun _ v' hv'=>?_,fun q=>(q i o hi hdt (.inl rfl)).elim⟩
     rw[hD t hdt] at hv'; cases hv'
     exact⟨u,hu,hlook⟩
    ·have hlook:H.look (putO f o.dst u).e t=H.look f.e t:=by
      cases hod:o.dst with
      | none=>rfl
      | some d=>simp only[putO,Fr.put,H.look]; rw[beq_ne fun c=>hdt (by rw[hod,c])]
     have lift : ∀{v'},(∃u,real r' v'=some u∧H.look f.e t=some u)→∃u',real r2 v'=some u'∧H.look (putO f o.dst u).e t=some u':=fun⟨u',a,b⟩=>⟨u',real_mono hx2 _ _ a,hlook.trans b⟩
     refine⟨fun q v' hv'=>lift ((hS t ht).1 (fun j o' a b=>?_) v' hv'),fun q v' hv'=>lift ((hS t ht).2 (fun j o' a b=>fun c=>q j o' a b (.inr c)) v' hv')⟩
     rcases q j o' a b with rfl|q
     ·rw[hi] at a; cases a; exact absurd b hdt
     ·exact q
  have stay:i∉Gf.bigs→∀b,nx=some b→¬(b=i∨D b):=by
   rintro hb b e (rfl|c)
   ·rcases hT.nx with ⟨_,e2⟩|⟨c,e2,h2,_⟩
    ·rw[e] at e2; cases e2
    ·rw[e] at e2; cases e2; exact hb h2
   ·exact hnx b e c
  have want:Wt ops n o Ef true→RW none P ops (thenK (fun f' w'=>Inv (fun j=>j=i∨D j) f' w') Q) [{o with guard:=none}] f w→RW none P ops (thenK (fun f' w'=>Inv (fun j=>j=i∨D j) f' w') Q) [o] f w:=by
   intro hw k
   rcases hw with ⟨hg,_⟩|⟨j,c,t,v,hg,hj,ht,ht2,hv,h1,_⟩
   ·have e:({o with guard:=none}:Oper)=o:=by cases o; cases hg; rfl
    rw[e] at k; exact k
   ·obtain⟨u,hu,hlk⟩:=guard j c t v hg hj ht2 hv
    rw[h1 rfl] at hu
    cases hu
    exact RW.pass hg hj (by rw[hn]; exact ht) hlk k
  cases facts i o (Nat.zero_le _) hi with
  | off hp hb hw hd hD=>
   rcases hw with ⟨_,c⟩|⟨j,c,t,v,hg,hj,ht,ht2,hv,_,h2⟩
   ·cases c
   ·obtain⟨u,hu,hlk⟩:=guard j c t v hg hj ht2 hv
    have hu2:u = .bool (!c)∨u=undef:=by
     rcases h2 rfl with rfl|rfl
     ·exact .inl (real_bool hu)
     ·cases hu; exact .inr rfl
    exact RW.miss hg hj (by rw[hn]; exact ht) hlk hu2 (fun t e=>by rw[hn]; exact(hd t e).1) (RW.nil (step (v:= .und) hp hd (Ext.refl _) hT (fun b hb=> .inr (hTb b hb)) (stay hb) hRel rfl hD))
  | @small e hp hb hw hd hU hY=>
   obtain⟨v,hY,hD⟩:=hY T nx hT ⟨fun b e=>by
     rw[Bool.eq_false_iff]
     exact fun c=>hnx b e (hmask b c),fun b e=>by
     rw[Bool.eq_false_iff]
     refine fun c=>hnD (hmaskD b (hTb b ?_) i c)
     cases T with
     | z h=>cases e
     | s b' h t=>cases e; exact List.mem_cons_self ..⟩
   obtain⟨u,hu,hr⟩:=hY S w0 r' f w (frame hU) hRel
   exact want hw (RW.gen (o:={o with guard:=none}) rfl (fun t e=>by rw[hn]; exact(hd t e).1) (.inl rfl) (fun a ha=>hr _ _ _ _ a ha) (RW.nil (step hp hd (Ext.refl _) hT (fun b hb=> .inr (hTb b hb)) (stay hb) hRel hu hD)))
  | @big e t h' nx2 v hp hw hd hU hT2 hB hD hL=>
   have hTt:Tail Gf none t (some i):=hT2.step
   have key:T=t∧nx=some i:=by
    rcases Nat.le_total T.len t.len with hle|hle
    ·rcases (hT.cmp hTt hle).nx with q|⟨c,e,hc,_⟩
     ·exact q
     ·exact(hnx c e (WF.all hmaskD (hTt.wf hwf) (fun b hb=>hmask b (hL b hb)) c hc)).elim
    ·rcases (hTt.cmp hT hle).nx with ⟨q1,q2⟩|⟨c,e,hc,_⟩
     ·exact⟨q1.symm,q2.symm⟩
     ·cases e; exact(hnD (hTb _ hc)).elim
   obtain⟨rfl,rfl⟩:=key
   refine want hw (hB S w0 r' f w _ ops [] hn (frame hU) hRel fun r2 w2 u hx2 hu hR2=>RW.nil (step (T2:= .s i h' T) (nx2:=nx2) hp hd hx2 hT2 (fun b hb=>?_) (fun b e=>?_) hR2 hu hD))
   ·rcases List.mem_cons.1 hb with q|q
    ·exact .inl q
    ·exact .inr (hTb b q)
   ·rcases hT2.above hwf with ⟨_,e2⟩|⟨c,e2,hc⟩
    ·rw[e2] at e; cases e
    ·rw[e2] at e; cases e
     have hci:=hc i rfl
     rintro(rfl|c1)
     ·have:=hR.bw _ o _ hi hci
      omega
     ·exact hnD (hmaskD _ c1 i hci)
  | @pan e v hout hw hU hL hB=>
   have key:T=Gf:=by
    rcases hT.nx with ⟨q,_⟩|⟨c,e,hc,_⟩
    ·exact q
    ·exact(hnx c e (WF.all hmaskD hwf (fun b hb=>hmask b (hL b hb)) c hc)).elim
   subst key
   subst hout
   refine want hw (hB S w0 r' f w _ ops [] hn (frame hU) hRel fun r2 w2 u hx2 hu hR2=>?_)
   exact hE r2 f w2 hn hds (hx'.trans hx2) (fun t v _ hv=>by
    have:Tr.get (bits t) (.e:Tr AV)=some v:=hv
    rw[Tr.get_e] at this; cases this) hR2 u hu
  | dead hp hb=>exact(hpn _ hp (hmask _ hb)).elim
 ·obtain⟨hn,hds,hcl,hpn,hDs,r',T,nx,hx',hT,hTb,hnx,hRel,hS⟩:=hI
  have hp:pn=none:=by
   cases hpe:pn with
   | none=>rfl
   | some p=>
    have:=hP.pge p hpe
    exact(hpn p hpe (by simp at this; omega)).elim
  obtain⟨rfl,rfl⟩:=hP.fin hp
  have key:T=Gf:=by
   rcases hT.nx with ⟨q,_⟩|⟨c,e,hc,_⟩
   ·exact q
   ·have h1:c < ops.size:=by
     rcases hP.bigs c hc with q|q
     ·cases q
     ·simp at q; omega
    exact(hnx c e h1).elim
  subst key
  exact hE r' f w hn hds hx' (fun t v ht hv=>(hS t ht).1 (fun j o a _=>hsz j o a) v hv) hRel
 ·have hR1:=hR0.same hk
  obtain⟨nx,hT⟩:=hP.tail
  refine⟨hn0,rfl,fun i c=>c.elim,fun p _ c=>c,fun i c=>c.elim,r,.z h0,nx,Ext.refl r,hT,(fun b hb=>by cases hb),fun b _ c=>c,hR1,fun t ht=>⟨fun q v hv=>?_,fun _ v hv=>hf0 t v ht hv⟩⟩
  exact hf0 t v ht (by rw[←keep0 t ht fun j o a b=>q j o a b]; exact hv)
end
end Go.Proofs.YtbhbdeelpopgoaaGreatDoor.E

set_option linter.constructorNameAsVariable false
namespace Go.Proofs.YtbhbdeelpopgoaaGreatDoor.E
open Go Go.RowKit H
noncomputable def maskL(l:List Oper):List Nat→(List Nat→Bool)→Bool:=List.rec (motive:=fun _=>List Nat→(List Nat→Bool)→Bool) (fun ms k=>k ms) (fun o _ ih ms k=>natK (maskO ms o) fun m=>catK ms [m] fun ms=>ih ms k) l
theorem maskL_eq: ∀(l:List Oper) (ms:List Nat) (k:List Nat→Bool),maskL l ms k=k (masks l ms)
 | [],ms,k=>rfl
 | o::l,ms,k=>by
  show natK (maskO ms o) (fun m=>catK ms [m] fun ms=>maskL l ms k)=_
  rw[natK_eq,catK_eq,maskL_eq l]
  rfl
noncomputable def allI(f:Nat→Oper→Bool)(l:List Oper):Nat→Bool:=List.rec (motive:=fun _=>Nat→Bool) (fun _=>true) (fun o _ ih i=>ifeV (f i o) (natK (Nat.succ i) ih) false) l
theorem allI_ok{f:Nat→Oper→Bool}: ∀{l:List Oper} {i:Nat},allI f l i=true→∀j o,l[j]?=some o→f (i+j) o=true
 | [],_,_,j,o,h=>by simp at h
 | a::l,i,h,j,o,hj=>by
  obtain⟨h1,h⟩:=and_ok h
  rw[natK_eq] at h
  cases j with
  | zero=>simp at hj; subst hj; exact h1
  | succ j=>
   have:=allI_ok (l:=l) h j o (by simpa using hj)
   rw[←this]; congr 1; omega
noncomputable def edgesB(i:Nat)(l:List Nat):Bool:=List.rec (motive:=fun _=>Bool) true (fun e _ ih=>ifeV (Nat.blt e i) ih false) l
theorem edgesB_ok{i:Nat}: ∀{l:List Nat},edgesB i l=true→∀j∈l,j < i
 | [],_,j,hj=>by cases hj
 | e::l,h,j,hj=>by
  obtain⟨h1,h⟩:=and_ok h
  rcases List.mem_cons.1 hj with rfl|hj
  ·exact blt_lt h1
  ·exact edgesB_ok (l:=l) h j hj
noncomputable def guardB(ms:List Nat)(i:Nat)(g:Option (Nat×Bool)):Bool:=Option.rec (motive:=fun _=>Bool) true (fun g=>bitN (nthN ms i) g.1) g
noncomputable def usesT(t:Nat)(xs:List Operand):Bool:=List.rec (motive:=fun _=>Bool) false (fun x _ ih=>Operand.rec (motive:=fun _=>Bool) (fun s=>ifeV (Nat.beq s t) true ih) (fun _=>ih) (fun _=>ih) (fun _=>ih) x) xs
theorem usesT_ok{t:Nat}: ∀{xs:List Operand},Operand.tmp t∈xs→usesT t xs=true
 | [],h=>by cases h
 | x::xs,h=>by
  rcases List.mem_cons.1 h with rfl|h
  ·show ifeV (Nat.beq t t) true _=true
   rw[beq_self]; rfl
  ·have ih:=usesT_ok h
   cases x with
   | tmp s=>
    show ifeV (Nat.beq s t) true (usesT t xs)=true
    rw[ih]; cases Nat.beq s t <;> rfl
   | _=>exact ih
noncomputable def pairB(ms:List Nat)(i:Nat)(oi:Oper)(j:Nat)(oj:Oper):Bool:=Option.rec (motive:=fun _=>Bool) true (fun t=>ifeV (Option.rec (motive:=fun _=>Bool) true (fun d=>ifeV (Nat.beq d t) (Nat.beq i j) true) oi.dst)
 (ifeV (usesT t oi.op.operands.toList) (ifeV (bitN (nthN ms i) j) true (ifeV (bitN (nthN ms j) i) true (Nat.beq j i))) true) false) oj.dst
noncomputable def regB(ops:Array Oper):Bool:=maskL ops.toList [] fun ms=>allI (fun i o=>ifeV (edgesB i (edgeL o)) (ifeV (guardB ms i o.guard) (allI (fun j oj=>pairB ms i o j oj) ops.toList 0) false) false) ops.toList 0
theorem nthN_eq: ∀(l:List Nat) (i:Nat),nthN l i=l.getD i 0
 | [],_=>rfl
 | _::_,0=>rfl
 | _::l,i+1=>nthN_eq l i
theorem masks_cons(o:Oper)(l:List Oper)(a:List Nat):masks (o::l) a=masks l (a++[maskO a o]):=rfl
theorem masks_pre: ∀(l:List Oper) (a:List Nat) (e:Nat),e < a.length→nthN (masks l a) e=nthN a e
 | [],a,e,_=>rfl
 | o::l,a,e,h=>by
  rw[masks_cons,masks_pre l _ e (by simp; omega),nthN_eq,nthN_eq,List.getD_eq_getElem?_getD,List.getD_eq_getElem?_getD,List.getElem?_append_left h]
theorem masks_at: ∀(l:List Oper) (a:List Nat) (j:Nat) (o:Oper),l[j]?=some o→∃pre:List Nat,pre.length=a.length+j∧nthN (masks l a) (a.length+j)=maskO pre o∧∀e,e < pre.length→nthN (masks l a) e=nthN pre e
 | [],a,j,o,h=>by simp at h
 | x::l,a,0,o,h=>by
  simp at h; subst h
  refine⟨a,rfl,?_,fun e he=>masks_pre _ _ e he⟩
  rw[masks_cons,masks_pre _ _ _ (by simp),nthN_eq]
  simp
 | x::l,a,j+1,o,h=>by
  obtain⟨pre,h1,h2,h3⟩:=masks_at l (a++[maskO a x]) j o (by simpa using h)
  simp only[List.length_append,List.length_cons,List.length_nil,Nat.zero_add] at h1 h2
  refine⟨pre,by omega,?_,h3⟩
  rw[masks_cons,←h2]; congr 1; omega
theorem maskO_bit{pre:List Nat}{o:Oper}{j:Nat}(h:bitN (maskO pre o) j=true):j∈edgeL o∨∃m∈edgeL o,bitN (nthN pre m) j=true:=by
 unfold maskO at h
 generalize edgeL o=l at h
 induction l with
 | nil=>exact absurd h (by simp[bitN])
 | cons e l ih=>
  have e1:bitN (Nat.lor (Nat.shiftLeft 1 e) (Nat.lor (nthN pre e) (List.rec (motive:=fun _=>Nat) 0 (fun e _ acc=>Nat.lor (Nat.shiftLeft 1 e) (Nat.lor (nthN pre e) acc)) l))) j=true:=h
  have e2 : ∀a b:Nat,bitN (Nat.lor a b) j=(bitN a j || bitN b j):=fun a b=>Nat.testBit_or a b j
  rw[e2,e2,Bool.or_eq_true,Bool.or_eq_true] at e1
  rcases e1 with q|q|q
  ·have:Nat.testBit (1 <<< e) j=true:=q
   rw[Nat.one_shiftLeft,Nat.testBit_two_pow] at this
   have:=of_decide_eq_true this
   subst this
   exact .inl (List.mem_cons_self ..)
  ·exact .inr ⟨e,List.mem_cons_self ..,q⟩
  ·rcases ih q with q|⟨m,h1,h2⟩
   ·exact .inl (List.mem_cons_of_mem _ q)
   ·exact .inr ⟨m,List.mem_cons_of_mem _ h1,h2⟩
theorem regB_ok{ops:Array Oper}(h:regB ops=true):RegOk ops (masks ops.toList []):=by
 unfold regB at h
 rw[maskL_eq] at h
 have at_ : ∀i o,ops[i]?=some o→edgesB i (edgeL o)=true∧guardB (masks ops.toList []) i o.guard=true∧∀j oj,ops[j]?=some oj→pairB (masks ops.toList []) i o j oj=true:=by
  intro i o hi
  have h1:=allI_ok h i o (by rw[toL]; exact hi)
  rw[Nat.zero_add] at h1
  obtain⟨h2,h1⟩:=and_ok h1
  obtain⟨h3,h1⟩:=and_ok h1
  refine⟨h2,h3,fun j oj hj=>?_⟩
  have:=allI_ok h1 j oj (by rw[toL]; exact hj)
  rwa [Nat.zero_add] at this
 have lt : ∀(i:Nat) (o:Oper),ops[i]?=some o→∀j∈edgeL o,j < i:=fun i o hi=>edgesB_ok (at_ i o hi).1
 have anc : ∀(i:Nat) (o:Oper),ops[i]?=some o→∀j,bitN (nthN (masks ops.toList []) i) j=true→j∈edgeL o∨∃m∈edgeL o,bitN (nthN (masks ops.toList []) m) j=true:=by
  intro i o hi j hj
  obtain⟨pre,h1,h2,h3⟩:=masks_at ops.toList [] i o (by rw[toL]; exact hi)
  simp only[List.length_nil,Nat.zero_add] at h1 h2
  rw[h2] at hj
  rcases maskO_bit hj with q|⟨m,q1,q2⟩
  ·exact .inl q
  ·exact .inr ⟨m,q1,by rw[h3 m (by have:=lt i o hi m q1; omega)]; exact q2⟩
 have pair : ∀(i j:Nat) (oi oj:Oper) (t:Tmp),ops[i]?=some oi→ops[j]?=some oj→oj.dst=some t→(∀d,oi.dst=some d→d=t→i=j)∧(Operand.tmp t∈oi.op.operands→bitN (nthN (masks ops.toList []) i) j=true∨bitN (nthN (masks ops.toList []) j) i=true∨j=i):=by
  intro i j oi oj t hi hj ht
  have h1:=(at_ i oi hi).2.2 j oj hj
  unfold pairB at h1
  rw[ht] at h1
  obtain⟨h2,h1⟩:=and_ok h1
  refine⟨fun d hd e=>?_,fun hu=>?_⟩
  ·subst e
   rw[hd] at h2
   replace h2:ifeV (Nat.beq d d) (Nat.beq i j) true=true:=h2
   rw[beq_self] at h2
   exact Nat.eq_of_beq_eq_true h2
  ·rw[usesT_ok (by simpa using hu)] at h1
   replace h1:ifeV (bitN (nthN (masks ops.toList []) i) j) true (ifeV (bitN (nthN (masks ops.toList []) j) i) true (Nat.beq j i))=true:=h1
   cases h4:bitN (nthN (masks ops.toList []) i) j with
   | true=>exact .inl rfl
   | false=>
    rw[h4] at h1
    cases h5:bitN (nthN (masks ops.toList []) j) i with
    | true=>exact .inr (.inl rfl)
    | false=>
     rw[h5] at h1
     exact .inr (.inr (Nat.eq_of_beq_eq_true h1))
 refine⟨lt,anc,fun i j oi oj d hi hj hdi hdj=>(pair i j oi oj d hi hj hdj).1 d hdi rfl,fun i j oi oj t hi hj hu hd=>(pair i j oi oj t hi hj hd).2 hu,fun i o j b hi hg=>?_,?_⟩
 ·have:=(at_ i o hi).2.1
  rw[hg] at this
  exact this
 ·intro i
  induction i using Nat.strongRecOn with
  | _ i ih=>
   intro o j hi hj
   rcases anc i o hi j hj with q|⟨m,q1,q2⟩
   ·exact lt i o hi j q
   ·have hm:=lt i o hi m q1
    have hsz:=(Array.getElem?_eq_some_iff.1 hi).1
    have:=ih m hm (ops[m]'(by omega)) j (Array.getElem?_eq_getElem _) q2
    omega
def RG(ops:Array Oper):Prop:=RegOk ops (masks ops.toList [])
noncomputable def codeB(c:Code):Bool:=Code.rec (motive:=fun _=>Bool) true (fun _ ops d=>ifeV d (regB ops) true) (fun _ _ a b=>ifeV a b false) (fun _ _ _ a b=>ifeV a b false) (fun _ _ a=>a) (fun _ a=>a)
 (fun _ _ _ _ _ _=>true) (fun _=>true) (fun _ _=>true) (fun _=>true) (fun _=>true) true (fun _=>true) c
theorem codeB_ok: ∀(c:Code),codeB c=true→Regs RG c:=by
 intro c
 induction c with
 | region id ops d=>
  intro h
  cases d with
  | true=>exact regB_ok h
  | false=>trivial
 | seq a b ia ib=>exact fun h=>⟨ia (and_ok h).1,ib (and_ok h).2⟩
 | cond x a b ia ib=>exact fun h=>⟨ia (and_ok h).1,ib (and_ok h).2⟩
 | block i a ia=>exact fun h=>ia h
 | loop a ia=>exact fun h=>ia h
 | _=>intro _; trivial
noncomputable def funsB(l:List Func):Bool:=List.rec (motive:=fun _=>Bool) true (fun fn _ ih=>ifeV (Option.rec (motive:=fun _=>Bool) true codeB fn.body) ih false) l
theorem funsB_ok: ∀{l:List Func},funsB l=true→∀fn∈l,∀c,fn.body=some c→Regs RG c
 | [],_,fn,h,_,_=>by cases h
 | f::l,h,fn,hf,c,hc=>by
  obtain⟨h1,h⟩:=and_ok h
  rcases List.mem_cons.1 hf with rfl|hf
  ·rw[hc] at h1
   exact codeB_ok c h1
  ·exact funsB_ok h fn hf c hc
theorem allRegs{P:Program}(h:funsB P.funcs.toList=true):AllRegs P RG:=fun f fn c hf hc=>funsB_ok h fn (by
 have:=Array.mem_of_getElem? hf
 simpa using this) c hc
theorem drawK_ok{P:Program}{fl:Nat}(hm:P.follows .mixedOrders=true)(n:Nat)(call:CallF)(hc:CallOk P fl call):DrawOk P fl n RG (drawK P fl n call):=by
 intro ops env h k hG hk
 obtain⟨out,hx,Ef,Gf,pn,hk,hP,ho⟩:=p1_ok hc (G:= .z h) rfl rfl hk
 refine⟨out,outE out Ef,hx,?_,fun id=>draw_ok hm hG hP ho id⟩
 rcases ho with rfl|⟨v,rfl⟩ <;> exact hk
end Go.Proofs.YtbhbdeelpopgoaaGreatDoor.E

set_option linter.constructorNameAsVariable false
namespace Go.Proofs.YtbhbdeelpopgoaaGreatDoor.E
open Go Go.RowKit H
section
variable {P : Program} {env : Tr AV} {ty : TypeId}
theorem evF_ok{x:Operand}{k:AV→Bool}(hk:evK 0 ⟨0,.e⟩ env x k=true): ∃v,k v=true∧∀(r:Ren) f,FrOk r env f→∃u,real r v=some u∧f.ev x=some u:=by
 cases x with
 | tmp t=>
  obtain⟨h1,h2⟩:=ask_ok hk
  obtain⟨v,hv,h3⟩:=getV_ok h2
  have:=blt_lt h1
  exact⟨v,h3,fun r f hf=>hf t v (Nat.lt_of_lt_of_le this (by decide)) hv⟩
 | const c=>
  obtain⟨v,hv,h3⟩:=someK_ok hk
  exact⟨v,h3,fun r f _=>⟨c,ofV_ok hv r,rfl⟩⟩
 | global g=>cases hk
 | func f=>exact⟨_,hk,fun r fr _=>⟨_,by simp[real,reals],rfl⟩⟩
theorem fillF_ok{place:Nat→(Nat→Nat→Bool)→Bool}{pl:Nat→Option (Nat×Nat)}(hpl : ∀i k,place i k=true→∃o s,pl i=some (o,s)∧k o s=true): ∀{ps:List (Nat×Operand)} {cs:List AV} {k:List AV→Bool},fillK 0 ⟨0,.e⟩ env place ps cs k=true→
  ∃cs',k cs'=true∧cs'.length=cs.length∧∀(r:Ren) f,FrOk r env f→∀us,reals r cs=some us→∃us',reals r cs'=some us'∧∀a,Ag f a→Instr.fill pl us.toArray (ps.map fun p=>(p.1,a.eval p.2))=some us'.toArray
 | [],cs,k,hk=>⟨cs,hk,rfl,fun r f _ us hus=>⟨us,hus,fun a _=>rfl⟩⟩
 | (i,x)::ps,cs,k,hk=>by
  obtain⟨o,s,hp,hk⟩:=hpl _ _ hk
  obtain⟨v,hk,h2⟩:=evF_ok hk
  rw[cellsOf_eq,lenK_eq] at hk
  obtain⟨hs,hk⟩:=ask_ok hk
  have hs:=Nat.eq_of_beq_eq_true hs
  obtain⟨hlen,hk⟩:=putK_ok hk
  obtain⟨cs',h3,h4,h5⟩:=fillF_ok hpl (ps:=ps) hk
  refine⟨cs',h3,h4.trans (by simp; omega),fun r f hf us hus=>?_⟩
  obtain⟨u,hu,hx⟩:=h2 r f hf
  obtain⟨xs,hxs,hc⟩:=real_cells hu
  have hl:=reals_len hxs
  have hl2:=reals_len hus
  obtain⟨us',h6,h7⟩:=h5 r f hf _ (reals_splice o v.cells.length hus hxs)
  refine⟨us',h6,fun a ha=>?_⟩
  rw[List.map_cons,ha.eval hx]
  rw[fill_one s o pl i u us.toArray _ hp (by rw[hc]; simp; omega) (by simp; omega)]
  rw[←h7 a ha,hc]
  simp[hs]
def Fo(P:Program)(op:Op)(ty:TypeId)(env:Tr AV)(t:TypeId)(cs:List AV)(mk:Nat→Value):Prop:=∀(r:Ren) f (w:World),FrOk r env f→∃us,reals r cs=some us∧Run2 P op ty f (.value (mk w.heap.size)) w (w.alloc (.cells us.toArray t))
def NmV(vn:Nat→AV)(mk:Nat→Value):Prop:=∀(r:Ren) i p,r i=some p→real r (vn i)=some (mk p.1)
noncomputable def frK(P:Program)(env:Tr AV)(k:TypeId→List AV→(Nat→AV)→Bool)(o:Op):Bool:=match o with
 | .alloc t=>infoK P t fun i=>someK i.zero fun z=>someK (ofV z) fun v=>cellsOf v fun cs=>k t cs fun i=> .ptr i 0
 | .buildSlice t len ps=>tyK P t fun d=>isSliceT d fun e=>zerosK P e len fun s cs=>ask (Nat.ble (Nat.mul len s) 65536) (fillK 0 ⟨0,.e⟩ env (fun i k=>k (Nat.mul i s) s) ps.toList cs fun cs=>k e cs fun i=> .sl i 0 len len)
 | .makeSlice t x y=>evK 0 ⟨0,.e⟩ env x fun a=>evK 0 ⟨0,.e⟩ env y fun b=>natOf a fun l=>natOf b fun c=>tyK P t fun d=>isSliceT d fun e=>infoK P e fun i=>ask (Nat.ble l c) (ask (Nat.ble c 1000000) (ask (Nat.ble (Nat.mul c i.bytes) 281474976710656) (zerosK P e c fun _ ys=>k e ys fun j=> .sl j 0 l c)))
 | _=>false
theorem frK_ok{o:Op}{k:TypeId→List AV→(Nat→AV)→Bool}(hk:frK P env k o=true): ∃t cs vn mk,k t cs vn=true∧Fo P o ty env t cs mk∧NmV vn mk:=by
 cases o <;> first|(cases hk; done)|skip
 case alloc t=>
  obtain⟨inf,hi,hk⟩:=infoK_ok hk
  obtain⟨z,hz,hk⟩:=someK_ok hk
  obtain⟨v,hv,hk⟩:=someK_ok hk
  rw[cellsOf_eq] at hk
  refine⟨_,_,_,fun g=> .pointer (some ⟨g,0,none⟩),hk,fun r f w hf=>?_,fun r i p h=>by simp[real,h]⟩
  obtain⟨us,hus,hc⟩:=real_cells (ofV_ok hv r)
  refine⟨us,hus,fun _ _ _ _ a ha=>?_⟩
  simp[execOp,Instr.alloc,run_zero hi hz,newVar,newRow,newObj,Sem.run,hc]
 case buildSlice t len ps=>
  obtain⟨d,hd,hk⟩:=tyK_ok hk
  obtain⟨e,rfl,hk1⟩:=isSliceT_ok hk
  obtain⟨i,cs,hk,hi,h0,hcl,z,hz,hzs,hcs⟩:=zerosK_ok hk1
  obtain⟨hb,hk⟩:=ask_ok hk
  have hb:=ble_le hb
  obtain⟨cs',hk,hlen,h2⟩:=fillF_ok (pl:=fun j=>some (j * i.size,i.size)) (fun i k hk=>⟨_,_,rfl,hk⟩) hk
  refine⟨_,_,_,fun g=> .slice (some ⟨g,0,none⟩) len len,hk,fun r f w hf=>?_,fun r i p h=>by simp[real,h]⟩
  obtain⟨us,hus,hc⟩:=hcs r
  obtain⟨us',h3,h4⟩:=h2 r f hf us hus
  refine⟨us',h3,fun _ _ _ _ a ha=>?_⟩
  have hbig : ¬(len * i.size > 2 ^ 24):=by have:len * i.size≤65536:=hb; omega
  simp only[execOp,Instr.buildSlice,Sem.run_bind,run_underlying hd,run_size hi,Result.andThen_ok,if_neg hbig,parts_list]
  by_cases c:len * i.size=0
  ·have hl:len=0:=(Nat.mul_eq_zero.1 c).resolve_right h0
   have hu:us=[]:=by
    have:=reals_len hus
    rw[hcl,c] at this
    exact List.length_eq_zero_iff.1 this
   have h4:=h4 a ha
   rw[hu] at h4
   have e0 : ∀f:Nat→Value,(Array.range 0).map f=([]:List Value).toArray:=fun f=>by apply Array.ext'; simp
   simp only[c,if_true,Sem.run_pure,Result.andThen_ok,e0,h4]
   simp[newRow,newObj,Sem.run]
  ·simp only[if_neg c,Sem.run_bind,run_zero hi hz,Result.andThen_ok,Sem.run_pure,hc,h4 a ha]
   simp[newRow,newObj,Sem.run]
 case makeSlice t x y=>
  obtain⟨a,hk,h2⟩:=evF_ok hk
  obtain⟨b,hk,h3⟩:=evF_ok hk
  obtain⟨ka,l,rfl,hka⟩:=natOf_ok hk
  obtain⟨kb,c,rfl,hkb⟩:=natOf_ok hka
  obtain⟨d,hd,hk⟩:=tyK_ok hkb
  obtain⟨e,rfl,hk1⟩:=isSliceT_ok hk
  obtain⟨i,hi,hk2⟩:=infoK_ok hk1
  obtain⟨q1,hk3⟩:=ask_ok hk2
  obtain⟨q2,hk4⟩:=ask_ok hk3
  obtain⟨q3,hk5⟩:=ask_ok hk4
  have q1:=ble_le q1
  have q2:=ble_le q2
  have q3:c * i.bytes≤281474976710656:=ble_le q3
  obtain⟨i',ys,hk6,hi',h0,hl,z,hz,hzs,hy⟩:=zerosK_ok hk5
  rw[hi] at hi'; cases hi'
  refine⟨_,_,_,fun g=> .slice (some ⟨g,0,none⟩) l c,hk6,fun r f w hf=>?_,fun r i p h=>by simp[real,h]⟩
  obtain⟨u,hu,hx⟩:=h2 r f hf
  obtain⟨v,hv,hy2⟩:=h3 r f hf
  have:=real_int hu; subst this
  have:=real_int hv; subst this
  obtain⟨us,hus,hus2⟩:=hy r
  refine⟨us,hus,fun _ _ _ _ ac ha=>?_⟩
  have wl:IntKind.i64.wrap (Int.ofNat l)=(l:Int):=by
   show IntKind.i64.wrap (l:Int)=(l:Int)
   exact wrap64_id (by omega) (by omega)
  have wc:IntKind.i64.wrap (Int.ofNat c)=(c:Int):=by
   show IntKind.i64.wrap (c:Int)=(c:Int)
   exact wrap64_id (by omega) (by omega)
  have hti : ∀w,(typeInfo e).run P w = .ok i w:=fun w=>by simp[typeInfo,hi]
  have e0 : ∀f:Nat→Value,(Array.range 0).map f=([]:List Value).toArray:=fun f=>by apply Array.ext'; simp
  have e1 : ¬((c:Int) < 0):=by omega
  have e2 : ¬((l:Int) < 0):=by omega
  have e3 : ¬((c:Int) < (l:Int)):=by omega
  have e4 : ¬((281474976710656:Int) < (i.bytes:Int) * (c:Int)):=by
   have:(i.bytes:Int) * (c:Int)=((c * i.bytes:Nat):Int):=by push_cast; rw[Int.mul_comm]
   rw[this]; omega
  simp only[execOp,ha.eval hx,ha.eval hy2,Instr.makeSlice,Sem.run_bind,run_underlying hd,Result.andThen_ok,asInt,asIntOf,Sem.run_pure,hti,wl,wc]
  by_cases c0:c * i.size=0
  ·have hc0:c=0:=(Nat.mul_eq_zero.1 c0).resolve_right h0
   subst hc0
   have hl0:l=0:=by omega
   subst hl0
   have hu0:us=[]:=by
    have:=reals_len hus
    rw[hl] at this
    exact List.length_eq_zero_iff.1 (by simpa using this)
   subst hu0
   simp[run_askRoom,run_size hi,newRow,newObj,Sem.run,e0]
  ·simp[e1,e2,e3,e4,run_askRoom,run_size hi,c0,run_zero hi hz,hus2,newRow,newObj,Sem.run]
end
end Go.Proofs.YtbhbdeelpopgoaaGreatDoor.E

set_option linter.constructorNameAsVariable false
namespace Go.Proofs.YtbhbdeelpopgoaaGreatDoor.E
open Go Go.RowKit H
open Classical in
noncomputable def cut(ρ:Ren)(n0 N:Nat)(X:Nat→Prop):Ren:=
 ⟨fun i=>if n0≤i∧i < n0+N∧¬X (i - n0) then none else ρ i,fun i=>(n0≤i∧i < n0+N∧(¬X (i - n0)∨ρ i=none))∨(¬(n0≤i∧i < n0+N)∧ρ.hole i),ρ.sg⟩
section
variable {ρ ρ' : Ren} {n0 N : Nat} {X Y : Nat → Prop}
open Classical in
theorem cut_some{i:Nat}{p:Nat×Nat}:cut ρ n0 N X i=some p↔ρ i=some p∧(n0≤i→i < n0+N→X (i - n0)):=by
 show(if n0≤i∧i < n0+N∧¬X (i - n0) then none else ρ i)=some p↔_
 split
 ·rename_i c
  exact⟨fun h=>(by cases h),fun h=>absurd (h.2 c.1 c.2.1) c.2.2⟩
 ·rename_i c
  exact⟨fun h=>⟨h,fun a b=>Classical.byContradiction fun q=>c ⟨a,b,q⟩⟩,fun h=>h.1⟩
open Classical in
theorem cut_none{i:Nat}(h:cut ρ n0 N X i=none):(n0≤i∧i < n0+N∧¬X (i - n0))∨ρ i=none:=by
 replace h:(if n0≤i∧i < n0+N∧¬X (i - n0) then none else ρ i)=none:=h
 split at h
 ·rename_i c; exact .inl c
 ·exact .inr h
theorem cut_vx(hX : ∀m,m < N→X m→Y m)(hr:Vx ρ ρ'):Vx (cut ρ n0 N X) (cut ρ' n0 N Y):=⟨fun i p h=>by
 obtain⟨h1,h2⟩:=cut_some.1 h
 exact cut_some.2 ⟨hr i p h1,fun a b=>hX _ (by omega) (h2 a b)⟩,hr.s⟩
theorem vx_refl:Vx ρ ρ:=⟨fun _ _ h=>h,rfl⟩
open Classical in
theorem cut_ext(h : ∀m,m < N→(X m↔Y m)):cut ρ n0 N X=cut ρ n0 N Y:=by
 have e1:(cut ρ n0 N X).f=(cut ρ n0 N Y).f:=by
  funext i
  show(if n0≤i∧i < n0+N∧¬X (i - n0) then none else ρ i)=(if n0≤i∧i < n0+N∧¬Y (i - n0) then none else ρ i)
  by_cases c:n0≤i∧i < n0+N
  ·have:=h (i - n0) (by omega)
   by_cases q:X (i - n0)
   ·rw[if_neg (fun z=>z.2.2 q),if_neg (fun z=>z.2.2 (this.1 q))]
   ·rw[if_pos ⟨c.1,c.2,q⟩,if_pos ⟨c.1,c.2,fun z=>q (this.2 z)⟩]
  ·rw[if_neg (fun z=>c ⟨z.1,z.2.1⟩),if_neg (fun z=>c ⟨z.1,z.2.1⟩)]
 have e2:(cut ρ n0 N X).hole=(cut ρ n0 N Y).hole:=by
  funext i
  apply propext
  show(_∧_∧_∨_)↔(_∧_∧_∨_)
  constructor
  ·rintro(⟨a,b,c⟩|c)
   ·exact .inl ⟨a,b,c.imp (fun q z=>q ((h _ (by omega)).2 z)) id⟩
   ·exact .inr c
  ·rintro(⟨a,b,c⟩|c)
   ·exact .inl ⟨a,b,c.imp (fun q z=>q ((h _ (by omega)).1 z)) id⟩
   ·exact .inr c
 have key : ∀a b:Ren,a.f=b.f→a.hole=b.hole→a.sg=b.sg→a=b:=by
  rintro⟨a,b,_⟩ ⟨c,d,_⟩ h1 h2 h3
  cases h1; cases h2; cases h3; rfl
 exact key _ _ e1 e2 rfl
def Pd(S:Nat→Prop)(w0:World)(n0 N:Nat)(ρ:Ren)(X:Nat→Prop)(w:World):Prop:=∀f p,f < N→¬X f→ρ (n0+f)=some p→p.1 < w.heap.size∧(S p.1∨w0.heap.size≤p.1)∧(∀i q,cut ρ n0 N X i=some q→q.1≠p.1)∧∀g q,g < N→¬X g→ρ (n0+g)=some q→q.1=p.1→g=f
theorem cut_split{i:Nat}{p:Nat×Nat}(h:cut ρ n0 N Y i=some p):cut ρ n0 N X i=some p∨∃f,i=n0+f∧f < N∧¬X f∧Y f∧ρ (n0+f)=some p:=by
 obtain⟨h1,h2⟩:=cut_some.1 h
 by_cases c:n0≤i∧i < n0+N∧¬X (i - n0)
 ·exact .inr ⟨i - n0,by omega,by omega,c.2.2,h2 c.1 c.2.1,by rw[show n0+(i - n0)=i by omega]; exact h1⟩
 ·exact .inl (cut_some.2 ⟨h1,fun a b=>Classical.byContradiction fun q=>c ⟨a,b,q⟩⟩)
section
variable {S : Nat → Prop} {w0 : World} {fl : Nat} {h : Hp} {w : World}
theorem Pd.up(hp:Pd S w0 n0 N ρ X w)(hX : ∀m,X m→Y m):Pd S w0 n0 N ρ Y w:=fun f p hf hY hr=>by
 obtain⟨a,b,c,d⟩:=hp f p hf (fun q=>hY (hX _ q)) hr
 refine⟨a,b,fun i q hq e=>?_,fun g q hg hYg hrg e=>d g q hg (fun z=>hYg (hX _ z)) hrg e⟩
 rcases cut_split (X:=X) hq with hq|⟨g,_,hg,hXg,hYg,hrg⟩
 ·exact c i q hq e
 ·exact hY (d g q hg hXg hrg e▸hYg)
theorem Rel.lift(H:Rel S w0 fl (cut ρ n0 N X) h w)(hn:n0+N≤h.next)(hg:GLB≤n0)(hp:Pd S w0 n0 N ρ X w)(hX : ∀m,X m→Y m){h':Hp}(hnx:h'.next=h.next)(htop : ∀i,h.next≤i→i < LIM→h'.at i=none)
  (hat : ∀j,j < h.next→∀b,h'.at j=some b→h.at j=some b∨∃f p,j=n0+f∧f < N∧¬X f∧Y f∧ρ (n0+f)=some p∧BRel (cut ρ n0 N Y) p w b):Rel S w0 fl (cut ρ n0 N Y) h' w:=by
 have vx:Vx (cut ρ n0 N X) (cut ρ n0 N Y):=cut_vx (fun m _=>hX m) vx_refl
 have inY : ∀f p,f < N→Y f→ρ (n0+f)=some p→cut ρ n0 N Y (n0+f)=some p:=fun f p hf hY hr=>cut_some.2 ⟨hr,fun _ _=>by rw[show n0+f - n0=f by omega]; exact hY⟩
 have far : ∀i,¬(n0≤i∧i < n0+N)→∀p,cut ρ n0 N Y i=some p↔cut ρ n0 N X i=some p:=fun i hi p=>by
  rw[cut_some,cut_some]
  exact⟨fun q=>⟨q.1,fun a b=>absurd ⟨a,b⟩ hi⟩,fun q=>⟨q.1,fun a b=>absurd ⟨a,b⟩ hi⟩⟩
 have far0 : ∀i,¬(n0≤i∧i < n0+N)→cut ρ n0 N X i=none→cut ρ n0 N Y i=none:=fun i hi hX=>by
  cases e:cut ρ n0 N Y i with
  | none=>rfl
  | some p=>rw[(far i hi p).1 e] at hX; cases hX
 refine⟨fun j b hj hb=>?_,fun i j b c p q hi hj hb hc hpi hqj e=>?_,fun i hi=>?_,by rw[hnx]; exact H.lim,fun i p hi hr=>?_,fun i p hi hr=>?_,fun i p hr=>?_,H.kept,by rw[hnx]; exact H.base,fun i hi=>?_,fun i hi=>?_,by rw[hnx]; exact htop⟩
 ·rw[hnx] at hj
  rcases hat j hj b hb with hb|⟨f,p,rfl,hf,_,hYf,hr,hB⟩
  ·obtain⟨p,hp,hB⟩:=H.live j b hj hb
   exact⟨p,vx j p hp,hB.vx vx⟩
  ·exact⟨p,inY f p hf hYf hr,hB⟩
 ·rw[hnx] at hi hj
  have old : ∀j b p,j < h.next→h.at j=some b→cut ρ n0 N Y j=some p→cut ρ n0 N X j=some p:=fun j b p hj hb hr=>by
   obtain⟨p',hp',_⟩:=H.live j b hj hb
   have:=vx j p' hp'
   rw[hr] at this; cases this; exact hp'
  have new : ∀f p p',f < N→Y f→ρ (n0+f)=some p→cut ρ n0 N Y (n0+f)=some p'→p'=p:=fun f p p' hf hY hr h2=>by
   have:=inY f p hf hY hr
   rw[h2] at this; cases this; rfl
  rcases hat i hi b hb with hb|⟨f,p',rfl,hf,hXf,hYf,hr,_⟩
  ·have hpi:=old i b p hi hb hpi
   rcases hat j hj c hc with hc|⟨g,q',rfl,hg,hXg,hYg,hr',_⟩
   ·exact H.inj i j b c p q hi hj hb hc hpi (old j c q hj hc hqj) e
   ·have:=new g q' q hg hYg hr' hqj
    subst this
    exact absurd e ((hp g q hg hXg hr').2.2.1 i p hpi)
  ·have:=new f p' p hf hYf hr hpi
   subst this
   rcases hat j hj c hc with hc|⟨g,q',rfl,hg,hXg,hYg,hr',_⟩
   ·exact absurd e.symm ((hp f p hf hXf hr).2.2.1 j q (old j c q hj hc hqj))
   ·have:=new g q' q hg hYg hr' hqj
    subst this
    rw[(hp f p hf hXf hr).2.2.2 g q hg hXg hr' e.symm]
 ·rw[hnx] at hi
  exact far0 i (by omega) (H.fresh i hi)
 ·refine H.glob i p hi ((far i (by omega) p).1 hr)
 ·rcases cut_split (X:=X) hr with hr|⟨f,rfl,hf,hXf,_,hr⟩
  ·exact H.may i p hi hr
  ·exact(hp f p hf hXf hr).2.1
 ·rcases cut_split (X:=X) hr with hr|⟨f,rfl,hf,hXf,_,hr⟩
  ·exact H.dom i p hr
  ·exact(hp f p hf hXf hr).1
 ·rw[hnx]
  rcases hi with ⟨a,b,c⟩|⟨a,c⟩
  ·refine⟨?_,by omega⟩
   cases e:cut ρ n0 N Y i with
   | none=>rfl
   | some p=>
    obtain⟨e1,e2⟩:=cut_some.1 e
    rcases c with c|c
    ·exact absurd (e2 a b) c
    ·rw[c] at e1; cases e1
  ·obtain⟨h1,h2⟩:=H.hol i (.inr ⟨a,c⟩)
   exact⟨far0 i a h1,h2⟩
 ·rw[hnx] at hi
  by_cases c:n0≤i∧i < n0+N
  ·cases e:ρ i with
   | none=>exact .inl (.inl ⟨c.1,c.2,.inr e⟩)
   | some p=>
    by_cases q:Y (i - n0)
    ·exact .inr ⟨p,cut_some.2 ⟨e,fun _ _=>q⟩⟩
    ·exact .inl (.inl ⟨c.1,c.2,.inl q⟩)
  ·rcases H.full i hi with q|⟨p,q⟩
   ·rcases q with ⟨a,b,_⟩|q
    ·exact absurd ⟨a,b⟩ c
    ·exact .inl (.inr q)
   ·exact .inr ⟨p,(far i c p).2 q⟩
theorem Rel.reserve{r:Ren}(H:Rel S w0 fl r h w)(hl:h.next+N≤LIM)(hX : ∀m,¬X m):Rel S w0 fl (cut r h.next N X) ⟨h.next+N,h.tr⟩ w:=by
 have eq : ∀i,cut r h.next N X i=r i:=fun i=>by
  cases e:cut r h.next N X i with
  | some p=>exact(cut_some.1 e).1.symm
  | none=>
   rcases cut_none e with ⟨a,b,_⟩|q
   ·exact(H.fresh i a).symm
   ·exact q.symm
 have vx:Vx r (cut r h.next N X):=⟨fun i p hp=>by rw[eq]; exact hp,rfl⟩
 have at_ : ∀i b,i < h.next+N→h.at i=some b→i < h.next∧h.at i=some b:=fun i b hi hb=>by
  rcases Nat.lt_or_ge i h.next with c|c
  ·exact⟨c,hb⟩
  ·rw[H.top i c (by omega)] at hb; cases hb
 refine⟨fun i b hi hb=>?_,fun i j b c p q hi hj hb hc hp hq e=>?_,fun i hi=>?_,hl,fun i p hi hp=>?_,fun i p hi hp=>?_,fun i p hp=>?_,H.kept,⟨Nat.le_trans H.base.1 (Nat.le_add_right _ _),Nat.le_trans H.base.2 (Nat.le_add_right _ _)⟩,fun i hi=>?_,fun i hi=>?_,fun i hi hL=>?_⟩
 ·obtain⟨h1,h2⟩:=at_ i b hi hb
  obtain⟨p,hp,hB⟩:=H.live i b h1 h2
  exact⟨p,vx i p hp,hB.vx vx⟩
 ·obtain⟨h1,h2⟩:=at_ i b hi hb
  obtain⟨h3,h4⟩:=at_ j c hj hc
  rw[eq] at hp hq
  exact H.inj i j b c p q h1 h3 h2 h4 hp hq e
 ·rw[eq]
  have hi:h.next+N≤i:=hi
  exact H.fresh i (by omega)
 ·rw[eq] at hp; exact H.glob i p hi hp
 ·rw[eq] at hp; exact H.may i p hi hp
 ·rw[eq] at hp; exact H.dom i p hp
 ·rcases hi with ⟨a,b,_⟩|⟨a,c⟩
  ·exact⟨by rw[eq]; exact H.fresh i a,b⟩
  ·obtain⟨h1,h2⟩:=H.hol i c
   exact⟨by rw[eq]; exact h1,Nat.lt_of_lt_of_le h2 (Nat.le_add_right _ _)⟩
 ·have hi:i < h.next+N:=hi
  by_cases c:h.next≤i
  ·exact .inl (.inl ⟨c,hi,.inr (H.fresh i c)⟩)
  ·rcases H.full i (by omega) with q|⟨p,q⟩
   ·exact .inl (.inr ⟨fun z=>c z.1,q⟩)
   ·exact .inr ⟨p,vx i p q⟩
 ·have hi:h.next+N≤i:=hi
  exact H.top i (by omega) hL
def Wr(fl:Nat)(r:Ren)(x:Nat):Prop:=∃i q,fl≤i∧r i=some q∧q.1=x
theorem Rel.self{r:Ren}(H:Rel S w0 fl r h w):Rel (Wr fl r) w fl r h w:=
 ⟨H.live,H.inj,H.fresh,H.lim,H.glob,fun i p hi hp=> .inl ⟨i,p,hi,hp,rfl⟩,H.dom,Kept.refl _ _,H.base,H.hol,H.full,H.top⟩
theorem Rel.back{r r':Ren}{h':Hp}{w':World}(H:Rel S w0 fl r h w)(H':Rel (Wr fl r) w fl r' h' w'):Rel S w0 fl r' h' w':=by
 have wr : ∀x,Wr fl r x→S x∨w0.heap.size≤x:=fun x ⟨i,q,hi,hq,e⟩=>e▸H.may i q hi hq
 refine⟨H'.live,H'.inj,H'.fresh,H'.lim,H'.glob,fun i p hi hp=>?_,H'.dom,H.kept.trans H'.kept wr,H'.base,H'.hol,H'.full,H'.top⟩
 rcases H'.may i p hi hp with q|q
 ·exact wr _ q
 ·exact .inr (Nat.le_trans H.kept.size q)
open Classical in
noncomputable def glue(ρ r':Ren)(n0 N:Nat):Ren:=⟨fun i=>if n0≤i∧i < n0+N then ρ i else r' i,r'.hole,r'.sg⟩
theorem glue_in{r':Ren}{i:Nat}(h:n0≤i∧i < n0+N):glue ρ r' n0 N i=ρ i:=if_pos h
theorem glue_out{r':Ren}{i:Nat}(h : ¬(n0≤i∧i < n0+N)):glue ρ r' n0 N i=r' i:=if_neg h
theorem glue_vx{r':Ren}(hx:Ext (cut ρ n0 N X) r'):Vx ρ (glue ρ r' n0 N):=⟨fun i p h=>by
 by_cases c:n0≤i∧i < n0+N
 ·rw[glue_in c]; exact h
 ·rw[glue_out c]; exact hx.v i p (cut_some.2 ⟨h,fun a b=>absurd ⟨a,b⟩ c⟩),hx.v.s⟩
open Classical in
theorem glue_cut{r':Ren}(hx:Ext (cut ρ n0 N X) r')(hol : ∀i,r'.hole i→r' i=none):cut (glue ρ r' n0 N) n0 N X=r':=by
 have key : ∀a b:Ren,a.f=b.f→a.hole=b.hole→a.sg=b.sg→a=b:=by
  rintro⟨a,b,_⟩ ⟨c,d,_⟩ h1 h2 h3
  cases h1; cases h2; cases h3; rfl
 refine key _ _ (funext fun i=>?_) (funext fun i=>propext ?_) rfl
 ·show(if n0≤i∧i < n0+N∧¬X (i - n0) then none else glue ρ r' n0 N i)=r' i
  by_cases c:n0≤i∧i < n0+N
  ·by_cases q:X (i - n0)
   ·rw[if_neg fun z=>z.2.2 q,glue_in c]
    cases e:ρ i with
    | some p=>exact(hx.v i p (cut_some.2 ⟨e,fun _ _=>q⟩)).symm
    | none=>exact(hol i (hx.h i (.inl ⟨c.1,c.2,.inr e⟩))).symm
   ·rw[if_pos ⟨c.1,c.2,q⟩]
    exact(hol i (hx.h i (.inl ⟨c.1,c.2,.inl q⟩))).symm
  ·rw[if_neg fun z=>c ⟨z.1,z.2.1⟩,glue_out c]
 ·constructor
  ·rintro(⟨a,b,q⟩|⟨_,q⟩)
   ·rw[glue_in ⟨a,b⟩] at q
    exact hx.h i (.inl ⟨a,b,q⟩)
   ·exact q
  ·intro hi
   by_cases c:n0≤i∧i < n0+N
   ·refine .inl ⟨c.1,c.2,?_⟩
    rw[glue_in c]
    cases e:ρ i with
    | none=>exact .inr rfl
    | some p=>
     refine .inl fun q=>?_
     have:=hx.v i p (cut_some.2 ⟨e,fun _ _=>q⟩)
     rw[hol i hi] at this; cases this
   ·exact .inr ⟨c,hi⟩
theorem Pd.frame{r':Ren}{h':Hp}{w':World}(H:Rel S w0 fl (cut ρ n0 N X) h w)(hp:Pd S w0 n0 N ρ X w)(hx:Ext (cut ρ n0 N X) r')(H':Rel (Wr fl (cut ρ n0 N X)) w fl r' h' w'):
  Pd S w0 n0 N (glue ρ r' n0 N) X w'∧∀f p,f < N→¬X f→ρ (n0+f)=some p→w'.heap[p.1]?=w.heap[p.1]?:=by
 have hol : ∀i,r'.hole i→r' i=none:=fun i q=>(H'.hol i q).1
 have at_ : ∀f,f < N→glue ρ r' n0 N (n0+f)=ρ (n0+f):=fun f hf=>glue_in ⟨by omega,by omega⟩
 refine⟨fun f p hf hXf hr=>?_,fun f p hf hXf hr=>?_⟩
 ·rw[at_ f hf] at hr
  obtain⟨a,b,c,d⟩:=hp f p hf hXf hr
  refine⟨Nat.lt_of_lt_of_le a H'.kept.size,b,fun i q hq e=>?_,fun g q hg hXg hrg e=>?_⟩
  ·rw[glue_cut hx hol] at hq
   rcases Nat.lt_or_ge i h.next with hi|hi
   ·rcases H.full i hi with z|⟨q',z⟩
    ·rw[hol i (hx.h i z)] at hq; cases hq
    ·have:=hx.v i q' z
     rw[hq] at this; cases this
     exact c i q z e
   ·rcases H'.may i q (Nat.le_trans H.base.1 hi) hq with ⟨j,z,_,hz,ez⟩|z
    ·exact c j z hz (ez.trans e)
    ·omega
  ·rw[at_ g hg] at hrg
   exact d g q hg hXg hrg e
 ·obtain⟨a,b,c,d⟩:=hp f p hf hXf hr
  exact H'.kept.block _ a fun⟨j,z,_,hz,ez⟩=>c j z hz ez
end
end
noncomputable def upK(n0 m b:Nat)(FL:List (Nat×TypeId×List AV)):Hp→(Hp→Bool)→Bool:=List.rec (motive:=fun _=>Hp→(Hp→Bool)→Bool) (fun h k=>k h)
 (fun x _ ih h k=>ife (bitN m x.1) (ife (bitN b x.1) (ih h k) (natK (Nat.add n0 x.1) fun i=>putH h i (.cells x.2.1 false false x.2.2) fun h=>ih h k)) (ih h k)) FL
structure Up (n0 m b:Nat) (FL:List (Nat×TypeId×List AV)) (h h':Hp):Prop where
 next:h'.next=h.next
 at_ : ∀j,j < LIM→∀B,h'.at j=some B→h.at j=some B∨∃x∈FL,j=n0+x.1∧bitN m x.1=true∧bitN b x.1=false∧B = .cells x.2.1 false false x.2.2
theorem upK_ok{n0 m b:Nat}: ∀{FL:List (Nat×TypeId×List AV)} {h:Hp} {k:Hp→Bool},(∀x∈FL,n0+x.1 < LIM)→upK n0 m b FL h k=true→∃h',k h'=true∧Up n0 m b FL h h'
 | [],h,k,_,hk=>⟨h,hk,rfl,fun j _ B hB=> .inl hB⟩
 | x::FL,h,k,hl,hk=>by
  have pass:upK n0 m b FL h k=true→∃h',k h'=true∧Up n0 m b (x::FL) h h':=fun hk=>by
   obtain⟨h',hk,h1,h2⟩:=upK_ok (fun y hy=>hl y (List.mem_cons_of_mem _ hy)) hk
   exact⟨h',hk,h1,fun j hj B hB=>(h2 j hj B hB).imp id fun⟨y,hy,z⟩=>⟨y,List.mem_cons_of_mem _ hy,z⟩⟩
  rcases ife_ok hk with ⟨e1,hk⟩|⟨_,hk⟩
  ·rcases ife_ok hk with ⟨_,hk⟩|⟨e2,hk⟩
   ·exact pass hk
   ·rw[natK_eq,putH_eq] at hk
    obtain⟨h',hk,h1,h2⟩:=upK_ok (fun y hy=>hl y (List.mem_cons_of_mem _ hy)) hk
    refine⟨h',hk,h1,fun j hj B hB=>?_⟩
    rcases h2 j hj B hB with q|⟨y,hy,z⟩
    ·rw[Hp.at_put (show Nat.add n0 x.1 < LIM from hl x (List.mem_cons_self ..)) hj] at q
     split at q
     ·rename_i e
      cases q
      exact .inr ⟨x,List.mem_cons_self ..,e.symm,e1,e2,rfl⟩
     ·exact .inl q
    ·exact .inr ⟨y,List.mem_cons_of_mem _ hy,z⟩
  ·exact pass hk
theorem maskO_edge{pre:List Nat}{o:Oper}{e:Nat}(h:e∈edgeL o):bitN (maskO pre o) e=true∧∀m,bitN (nthN pre e) m=true→bitN (maskO pre o) m=true:=by
 unfold maskO
 generalize edgeL o=l at h ⊢
 have e2 : ∀a b c:Nat,bitN (Nat.lor a b) c=(bitN a c || bitN b c):=fun a b c=>Nat.testBit_or a b c
 induction l with
 | nil=>cases h
 | cons a l ih=>
  have e1 : ∀m,bitN (List.rec (motive:=fun _=>Nat) 0 (fun e _ acc=>Nat.lor (Nat.shiftLeft 1 e) (Nat.lor (nthN pre e) acc)) (a::l)) m=(bitN (Nat.shiftLeft 1 a) m || (bitN (nthN pre a) m || bitN (List.rec (motive:=fun _=>Nat) 0 (fun e _ acc=>Nat.lor (Nat.shiftLeft 1 e) (Nat.lor (nthN pre e) acc)) l) m)):=fun m=>by
   rw[←e2,←e2]
  have own:bitN (Nat.shiftLeft 1 a) a=true:=by
   show Nat.testBit (1 <<< a) a=true
   rw[Nat.one_shiftLeft,Nat.testBit_two_pow]; simp
  rcases List.mem_cons.1 h with rfl|h
  ·refine⟨by rw[e1,own]; rfl,fun m hm=>by rw[e1,hm]; simp⟩
  ·obtain⟨i1,i2⟩:=ih h
   refine⟨by rw[e1,i1]; simp,fun m hm=>by rw[e1,i2 m hm]; simp⟩
theorem masks_tr{ops:Array Oper}(hR:RegOk ops (masks ops.toList [])): ∀(i:Nat) (o:Oper),ops[i]?=some o→∀j,bitN (nthN (masks ops.toList []) i) j=true→∀m,bitN (nthN (masks ops.toList []) j) m=true→bitN (nthN (masks ops.toList []) i) m=true:=by
 intro i
 induction i using Nat.strongRecOn with
 | _ i ih=>
  intro o hi j hj m hm
  obtain⟨pre,h1,h2,h3⟩:=masks_at ops.toList [] i o (by rw[toL]; exact hi)
  simp only[List.length_nil,Nat.zero_add] at h1 h2
  have edge : ∀e∈edgeL o,∀m,bitN (nthN (masks ops.toList []) e) m=true→bitN (nthN (masks ops.toList []) i) m=true:=fun e he m hm=>by
   rw[h2]
   exact(maskO_edge he).2 m (by rw[←h3 e (by rw[h1]; exact hR.lt i o hi e he)]; exact hm)
  rcases hR.anc i o hi j hj with q|⟨e,q1,q2⟩
  ·exact edge j q m hm
  ·have hlt:=hR.lt i o hi e q1
   have hsz:=(Array.getElem?_eq_some_iff.1 hi).1
   exact edge e q1 m (ih e hlt (ops[e]'(by omega)) (Array.getElem?_eq_getElem _) j q2 m hm)
end Go.Proofs.YtbhbdeelpopgoaaGreatDoor.E

set_option linter.constructorNameAsVariable false
namespace Go.Proofs.YtbhbdeelpopgoaaGreatDoor.E
open Go Go.RowKit H
abbrev FrL:=List (Nat×TypeId×List AV)
noncomputable def lastM(ms:List Nat)(x:Option Nat):Nat:=Option.rec (motive:=fun _=>Nat) 0 (nthN ms) x
noncomputable def chk2K(ms:List Nat)(i c:Nat)(ev:Hp→Nat→Bool→Bool)(k:Bool)(g:Sg):Option Nat→Nat→Bool:=Sg.rec (motive:=fun _=>Option Nat→Nat→Bool)
 (fun h nx s=>ife (Nat.beq s c) k (ife (feasB ms i nx none) (ev h (lastM ms none) k) k))
 (fun b h _ ih nx s=>ife (Nat.beq s c) (natK (Nat.pred s) fun s=>ih (some b) s) (ife (feasB ms i nx (some b)) (ev h (lastM ms (some b)) (natK (Nat.pred s) fun s=>ih (some b) s)) (natK (Nat.pred s) fun s=>ih (some b) s))) g
theorem chk2K_ok{ms:List Nat}{i c:Nat}{ev:Hp→Nat→Bool→Bool}{k:Bool}{G:Hp→Nat→Prop}(hev : ∀h b r,ev h b r=true→r=true∧G h b): ∀(g:Sg) (nx:Option Nat),chk2K ms i c ev k g nx g.len=true→k=true∧∀u ny,Tail g nx u ny→u.len=c∨¬Feas ms i ny u∨G u.top (lastM ms u.last):=by
 intro g
 have one : ∀(s:Nat) (nx ls:Option Nat) (h:Hp) (r:Bool),ife (Nat.beq s c) r (ife (feasB ms i nx ls) (ev h (lastM ms ls) r) r)=true→r=true∧(s=c∨¬((∀b,nx=some b→bitN (nthN ms i) b=false)∧∀b,ls=some b→bitN (nthN ms b) i=false)∨G h (lastM ms ls)):=by
  intro s nx ls h r hk
  rcases ife_ok hk with ⟨e,hk⟩|⟨_,hk⟩
  ·exact⟨hk,.inl (Nat.eq_of_beq_eq_true e)⟩
  rcases ife_ok hk with ⟨_,hk⟩|⟨e,hk⟩
  ·exact⟨(hev h _ r hk).1,.inr (.inr (hev h _ r hk).2)⟩
  ·exact⟨hk,.inr (.inl (feas_no e))⟩
 induction g with
 | z h=>
  intro nx hk
  obtain⟨hk,h1⟩:=one _ nx none h k hk
  refine⟨hk,fun u ny T=>?_⟩
  obtain⟨rfl,rfl⟩:=T.invz
  exact h1
 | s b h t ih=>
  intro nx hk
  obtain⟨hk,h1⟩:=one _ nx (some b) h _ hk
  rw[natK_eq] at hk
  obtain⟨hk,h2⟩:=ih (some b) hk
  refine⟨hk,fun u ny T=>?_⟩
  rcases T.inv with ⟨rfl,rfl⟩|T
  ·exact h1
  ·exact h2 u ny T
noncomputable def noGd(o:Oper)(k:Bool):Bool:=Option.rec (motive:=fun _=>Bool) k (fun _=>false) o.guard
theorem noGd_ok{o:Oper}{k:Bool}(h:noGd o k=true):o.guard=none∧k=true:=by
 obtain⟨d,op,ty,pos,af,g⟩:=o
 cases g with
 | none=>exact⟨rfl,h⟩
 | some g=>cases h
section
variable (P : Program) (fl n : Nat) (call : CallF) (ms : List Nat) (n0 : Nat)
abbrev KP2:=Tr AV→Sg→Nat→FrL→Bool
noncomputable def p2(l:List Oper):Nat→Tr AV→Hp→Sg→Nat→FrL→KP2→Bool:=
 List.rec (motive:=fun _=>Nat→Tr AV→Hp→Sg→Nat→FrL→KP2→Bool) (fun _ E _ G c FL k=>k E G c FL)
 (fun o _ ih i E h G c FL k=>noGd o (subE E o.op.operands.toList .e fun e=>upK n0 (nthN ms i) (lastM ms G.last) FL h fun h1=>ife (bigOp P o.op)
   (ife (lastOk ms i G.last)
    (ask (dstOkB n o.dst) (opHd o.op P fl call h1 e o.type (fun v h'=>setE n o.dst v E fun E=>natK (Nat.succ i) fun i'=>natK (Nat.succ c) fun c=>ih i' E h' (.s i h' G) c FL k) (fun _ _=>false)))
    (frK P e (fun t cs vn=>natK (Nat.add n0 i) fun nm=>setE n o.dst (vn nm) E fun E=>natK (Nat.succ i) fun i'=>ih i' E h G c ((i,t,cs)::FL) k) o.op))
   (opHd o.op P fl call h1 e o.type (fun v _=>setE n o.dst v E fun E=>natK (Nat.succ i) fun i'=>ih i' E h G c FL fun Ef Gf cf Ff=>
    chk2K ms i c (fun h b r=>upK n0 (nthN ms i) b Ff h fun h1=>opHd o.op P fl call h1 e o.type (fun w _=>eqD Ef o.dst w r) (fun _ _=>false)) (k Ef Gf cf Ff) Gf none cf) (fun _ _=>false)))) l
end
noncomputable def allM(N:Nat):Nat:=Nat.sub (Nat.pow 2 N) 1
noncomputable def draw2K(P:Program)(fl n:Nat)(call:CallF):DrawF:=fun ops env h k=>lenK ops.toList fun N=>natK (Nat.add h.next N) fun nx=>ask (Nat.ble nx LIM)
 (p2 P fl n call (masks ops.toList []) h.next ops.toList 0 env ⟨nx,h.tr⟩ (.z ⟨nx,h.tr⟩) 0 [] fun Ef Gf _ Ff=>upK h.next (allM N) (lastM (masks ops.toList []) Gf.last) Ff Gf.top fun hx=>k .nm Ef hx)
section
variable {P : Program} {fl n : Nat} {call : CallF} {ops : Array Oper} {ms : List Nat} {n0 N : Nat}
inductive P2 (P:Program) (fl n n0:Nat) (ms:List Nat) (Ef:Tr AV) (Gf:Sg) (Ff:FrL):List Oper→Nat→Tr AV→Sg→FrL→Prop where
 | nil {i}:P2 P fl n n0 ms Ef Gf Ff [] i Ef Gf Ff
 | small {o rest i E G F e v h1}:o.guard=none→DOk n o.dst→Sub E o.op.operands.toList e→Up n0 (nthN ms i) (lastM ms G.last) F G.top h1→Yo P fl o.op o.type e h1 v→(∀u ny,Tail Gf none u ny→u.len=G.len∨¬Feas ms i ny u∨∃h1 w,Up n0 (nthN ms i) (lastM ms u.last) Ff u.top h1∧Yo P fl o.op o.type e h1 w∧DstIs Ef o.dst w)→P2 P fl n n0 ms Ef Gf Ff rest (i+1) (setD o.dst v E) G F→P2 P fl n n0 ms Ef Gf Ff (o::rest) i E G F
 | big {o rest i E G F e v h1 h'}:o.guard=none→DOk n o.dst→Sub E o.op.operands.toList e→(∀b,G.last=some b→bitN (nthN ms i) b=true)→Up n0 (nthN ms i) (lastM ms G.last) F G.top h1→BigAt P fl n o e h1 v h'→P2 P fl n n0 ms Ef Gf Ff rest (i+1) (setD o.dst v E) (.s i h' G) F→P2 P fl n n0 ms Ef Gf Ff (o::rest) i E G F
 | free {o rest i E G F e t cs vn mk}:o.guard=none→DOk n o.dst→Sub E o.op.operands.toList e→Fo P o.op o.type e t cs mk→NmV vn mk→P2 P fl n n0 ms Ef Gf Ff rest (i+1) (setD o.dst (vn (n0+i)) E) G ((i,t,cs)::F)→P2 P fl n n0 ms Ef Gf Ff (o::rest) i E G F
theorem p2_ok(hc:CallOk P fl call): ∀{l:List Oper} {i:Nat} {E:Tr AV} {h:Hp} {G:Sg} {c:Nat} {F:FrL} {k:KP2},h=G.top→c=G.len→(∀x∈F,x.1 < i)→i+l.length≤N→n0+N≤LIM→p2 P fl n call ms n0 l i E h G c F k=true→∃Ef Gf Ff,k Ef Gf Gf.len Ff=true∧P2 P fl n n0 ms Ef Gf Ff l i E G F∧∀x∈Ff,x.1 < N
 | [],i,E,h,G,c,F,k,e1,e2,hF,hN,hl,hk=>by subst e1; subst e2; exact⟨E,G,F,hk,.nil,fun x hx=>by have:=hF x hx; simp at hN; omega⟩
 | o::rest,i,E,h,G,c,F,k,e1,e2,hF,hN,hl,hk=>by
  subst e1; subst e2
  simp only[List.length_cons] at hN
  obtain⟨hg,hk⟩:=noGd_ok hk
  obtain⟨e,hk,he⟩:=subE_ok hk
  obtain⟨h1,hk,hU⟩:=upK_ok (fun x hx=>by have:=hF x hx; omega) hk
  have hF' : ∀x∈F,x.1 < i+1:=fun x hx=>Nat.lt_succ_of_lt (hF x hx)
  rcases ife_ok hk with ⟨hb,hk⟩|⟨hb,hk⟩
  ·rcases ife_ok hk with ⟨hL,hk⟩|⟨_,hk⟩
   ·obtain⟨h2,hk⟩:=ask_ok hk
    rcases opHd_big hc (n:=n) (dstOkB_ok h2) hk with ⟨v,h',hk,hB⟩|⟨v,h',hk,hB⟩
    ·obtain⟨hk,hd⟩:=setE_eq hk
     rw[natK_eq,natK_eq] at hk
     obtain⟨Ef,Gf,Ff,hk,hP,hx⟩:=p2_ok hc (l:=rest) (G:= .s i h' G) rfl rfl hF' (by omega) hl hk
     exact⟨Ef,Gf,Ff,hk,.big hg hd he (lastOk_ok hL) hU hB hP,hx⟩
    ·cases hk
   ·obtain⟨t,cs,vn,mk,hk,hFo,hNm⟩:=frK_ok (ty:=o.type) hk
    rw[natK_eq] at hk
    obtain⟨hk,hd⟩:=setE_eq hk
    rw[natK_eq] at hk
    obtain⟨Ef,Gf,Ff,hk,hP,hx⟩:=p2_ok hc (l:=rest) (G:=G) (F:=(i,t,cs)::F) rfl rfl (fun x hx=>by
     rcases List.mem_cons.1 hx with rfl|hx
     ·exact Nat.lt_succ_self _
     ·exact hF' x hx) (by omega) hl hk
    exact⟨Ef,Gf,Ff,hk,.free hg hd he hFo hNm hP,hx⟩
  ·obtain⟨v,hk,hY⟩:=small_ok hb hk
   obtain⟨hk,hd⟩:=setE_eq hk
   rw[natK_eq] at hk
   obtain⟨Ef,Gf,Ff,hk,hP,hx⟩:=p2_ok hc (l:=rest) (G:=G) rfl rfl hF' (by omega) hl hk
   obtain⟨hk,hT⟩:=chk2K_ok (G:=fun h b=>∃h1 w,Up n0 (nthN ms i) b Ff h h1∧Yo P fl o.op o.type e h1 w∧DstIs Ef o.dst w) (fun h b r hr=>by
    obtain⟨h1,hr,hU⟩:=upK_ok (fun x hxx=>by have:=hx x hxx; omega) hr
    obtain⟨w,hr,hY⟩:=small_ok hb hr
    obtain⟨hr,hD⟩:=eqD_ok hr
    exact⟨hr,h1,w,hU,hY,hD⟩) Gf none hk
   exact⟨Ef,Gf,Ff,hk,.small hg hd he hU hY hT hP,hx⟩
theorem P2.keep{Ef:Tr AV}{Gf:Sg}{Ff:FrL}{l:List Oper}{i:Nat}{E:Tr AV}{G:Sg}{F:FrL}(h:P2 P fl n n0 ms Ef Gf Ff l i E G F)(hl:ops.toList.drop i=l){t:Nat}(ht:t < LIM)(ho:Off ops i t):Tr.get (bits t) Ef=Tr.get (bits t) E:=by
 induction h with
 | nil=>rfl
 | small hg hd _ _ _ _ _ ih=>
  obtain⟨h1,h2⟩:=drop_cons hl
  rw[toL] at h1
  rw[ih h2 (fun j o a b=>ho j o (by omega) b),setD_ne hd ht (ho _ _ (Nat.le_refl _) h1)]
 | big hg hd _ _ _ _ _ ih=>
  obtain⟨h1,h2⟩:=drop_cons hl
  rw[toL] at h1
  rw[ih h2 (fun j o a b=>ho j o (by omega) b),setD_ne hd ht (ho _ _ (Nat.le_refl _) h1)]
 | free hg hd _ _ _ _ ih=>
  obtain⟨h1,h2⟩:=drop_cons hl
  rw[toL] at h1
  rw[ih h2 (fun j o a b=>ho j o (by omega) b),setD_ne hd ht (ho _ _ (Nat.le_refl _) h1)]
theorem P2.tail{Ef:Tr AV}{Gf:Sg}{Ff:FrL}{l:List Oper}{i:Nat}{E:Tr AV}{G:Sg}{F:FrL}(h:P2 P fl n n0 ms Ef Gf Ff l i E G F):(∃nx,Tail Gf none G nx)∧∀x∈F,x∈Ff:=by
 induction h with
 | nil=>exact⟨⟨_,.refl⟩,fun x h=>h⟩
 | small _ _ _ _ _ _ _ ih=>exact ih
 | big _ _ _ _ _ _ _ ih=>obtain⟨⟨nx,T⟩,q⟩:=ih; exact⟨⟨_,T.step⟩,q⟩
 | free _ _ _ _ _ _ ih=>exact⟨ih.1,fun x hx=>ih.2 x (List.mem_cons_of_mem _ hx)⟩
theorem P2.wf{Ef:Tr AV}{Gf:Sg}{Ff:FrL}{l:List Oper}{i:Nat}{E:Tr AV}{G:Sg}{F:FrL}(h:P2 P fl n n0 ms Ef Gf Ff l i E G F)(hG:WF ms G):WF ms Gf:=by
 induction h with
 | nil=>exact hG
 | small _ _ _ _ _ _ _ ih=>exact ih hG
 | big _ _ _ h1 _ _ _ ih=>exact ih ⟨h1,hG⟩
 | free _ _ _ _ _ _ ih=>exact ih hG
theorem P2.bigs{Ef:Tr AV}{Gf:Sg}{Ff:FrL}{l:List Oper}{i:Nat}{E:Tr AV}{G:Sg}{F:FrL}(h:P2 P fl n n0 ms Ef Gf Ff l i E G F):(∀b∈Gf.bigs,b∈G.bigs∨(i≤b∧b < i+l.length))∧∀x∈Ff,x∈F∨i≤x.1:=by
 induction h with
 | nil=>exact⟨fun b h=> .inl h,fun x h=> .inl h⟩
 | small _ _ _ _ _ _ _ ih=>exact⟨fun b h=>(ih.1 b h).imp id fun q=>by simp only[List.length_cons]; omega,fun x h=>(ih.2 x h).imp id fun q=>by omega⟩
 | big _ _ _ _ _ _ _ ih=>
  refine⟨fun b h=>?_,fun x h=>(ih.2 x h).imp id fun q=>by omega⟩
  rcases ih.1 b h with h|h
  ·rcases List.mem_cons.1 h with rfl|h
   ·exact .inr (by simp only[List.length_cons]; omega)
   ·exact .inl h
  ·exact .inr (by simp only[List.length_cons]; omega)
 | free _ _ _ _ _ _ ih=>
  refine⟨fun b h=>(ih.1 b h).imp id fun q=>by simp only[List.length_cons]; omega,fun x h=>?_⟩
  rcases ih.2 x h with h|h
  ·rcases List.mem_cons.1 h with rfl|h
   ·exact .inr (Nat.le_refl _)
   ·exact .inl h
  ·exact .inr (by omega)
inductive Fact2 (P:Program) (fl n n0:Nat) (ops:Array Oper) (ms:List Nat) (E0 Ef:Tr AV) (Gf:Sg) (Ff:FrL) (i:Nat) (o:Oper):Prop where
 | small {e}:i∉Gf.bigs→(∀x∈Ff,x.1≠i)→o.guard=none→DOk n o.dst→Use ops E0 Ef i o e→(∀u ny,Tail Gf none u ny→Feas ms i ny u→∃F h1 w,(∀x∈F,x∈Ff)∧Up n0 (nthN ms i) (lastM ms u.last) F u.top h1∧Yo P fl o.op o.type e h1 w∧DstIs Ef o.dst w)→Fact2 P fl n n0 ops ms E0 Ef Gf Ff i o
 | big {e t h1 h' nx v F}:(∀x∈Ff,x.1≠i)→o.guard=none→DOk n o.dst→Use ops E0 Ef i o e→Tail Gf none (.s i h' t) nx→(∀x∈F,x∈Ff)→Up n0 (nthN ms i) (lastM ms t.last) F t.top h1→BigAt P fl n o e h1 v h'→DstIs Ef o.dst v→(∀b,t.last=some b→bitN (nthN ms i) b=true)→Fact2 P fl n n0 ops ms E0 Ef Gf Ff i o
 | free {e t cs vn mk}:i∉Gf.bigs→o.guard=none→DOk n o.dst→Use ops E0 Ef i o e→Fo P o.op o.type e t cs mk→NmV vn mk→DstIs Ef o.dst (vn (n0+i))→(∀x∈Ff,x.1=i→x=(i,t,cs))→Fact2 P fl n n0 ops ms E0 Ef Gf Ff i o
theorem P2.fact{E0 Ef:Tr AV}{Gf:Sg}{Ff:FrL}(hR:RegOk ops ms){l:List Oper}{i:Nat}{E:Tr AV}{G:Sg}{F:FrL}(h:P2 P fl n n0 ms Ef Gf Ff l i E G F)(hl:ops.toList.drop i=l)(hG : ∀b∈G.bigs,b < i)(hF : ∀x∈F,x.1 < i)(hE : ∀t,t < LIM→(∀j o,ops[j]?=some o→o.dst=some t→i≤j)→Tr.get (bits t) E=Tr.get (bits t) E0): ∀j o,i≤j→ops[j]?=some o→Fact2 P fl n n0 ops ms E0 Ef Gf Ff j o:=by
 have use : ∀{o:Oper} {rest:List Oper} {i:Nat} {E e:Tr AV} {G:Sg} {F:FrL},P2 P fl n n0 ms Ef Gf Ff (o::rest) i E G F→ops.toList.drop i=o::rest→(∀t,t < LIM→(∀j o,ops[j]?=some o→o.dst=some t→i≤j)→Tr.get (bits t) E=Tr.get (bits t) E0)→Sub E o.op.operands.toList e→Use ops E0 Ef i o e:=by
  intro o rest i E e G F h hl hE hS t v ht hv
  obtain⟨h1,h2⟩:=hS t v ht hv
  refine⟨by simpa using h1,fun q=>?_,fun q=>?_⟩
  ·rw[h.keep hl ht fun k o' hk ho' hd=>?_]
   ·exact h2
   ·have:=q k o' ho' hd
    omega
  ·rw[←hE t ht q]; exact h2
 have next : ∀{o:Oper} {i:Nat} {E:Tr AV} {v:AV},ops[i]?=some o→DOk n o.dst→(∀t,t < LIM→(∀j o,ops[j]?=some o→o.dst=some t→i≤j)→Tr.get (bits t) E=Tr.get (bits t) E0)→∀t,t < LIM→(∀j o,ops[j]?=some o→o.dst=some t→i+1≤j)→Tr.get (bits t) (setD o.dst v E)=Tr.get (bits t) E0:=by
  intro o i E v hi hd hE t ht q
  rw[setD_ne hd ht fun c=>by have:=q i o hi c; omega]
  exact hE t ht fun j o' a b=>by have:=q j o' a b; omega
 have dst : ∀{o:Oper} {rest:List Oper} {i:Nat} {E:Tr AV} {v:AV} {G:Sg} {F:FrL},ops[i]?=some o→ops.toList.drop (i+1)=rest→DOk n o.dst→P2 P fl n n0 ms Ef Gf Ff rest (i+1) (setD o.dst v E) G F→DstIs Ef o.dst v:=by
  intro o rest i E v G F hi hl hd h t ht
  rw[h.keep hl (lim_of (hd t ht).2) fun k o' hk ho' hdk=>?_,ht,setD_eq]
  have:=hR.one i k o o' t hi ho' ht hdk
  omega
 have nobig : ∀{rest:List Oper} {i:Nat} {E:Tr AV} {G:Sg} {F:FrL},P2 P fl n n0 ms Ef Gf Ff rest (i+1) E G F→(∀b∈G.bigs,b < i)→i∉Gf.bigs:=by
  intro rest i E G F hP hG hb
  rcases hP.bigs.1 _ hb with q|q
  ·have:=hG _ q; omega
  ·omega
 have nofr : ∀{rest:List Oper} {i:Nat} {E:Tr AV} {G:Sg} {F:FrL},P2 P fl n n0 ms Ef Gf Ff rest (i+1) E G F→(∀x∈F,x.1 < i)→∀x∈Ff,x.1≠i:=by
  intro rest i E G F hP hG x hx e
  rcases hP.bigs.2 _ hx with q|q
  ·have:=hG _ q; omega
  ·omega
 induction h with
 | nil=>
  intro j o hj ho
  have:=(Array.getElem?_eq_some_iff.1 ho).1
  have h2:=List.drop_eq_nil_iff.1 hl
  simp at h2
  omega
 | @small o rest i E G F e v h1' hg hd he hU hY hT hP ih=>
  obtain⟨h1,h2⟩:=drop_cons hl
  rw[toL] at h1
  intro j o' hj ho'
  rcases Nat.lt_or_ge i j with c|c
  ·exact ih h2 (fun b hb=>Nat.lt_succ_of_lt (hG b hb)) (fun b hb=>Nat.lt_succ_of_lt (hF b hb)) (next h1 hd hE) j o' c ho'
  ·have:j=i:=by omega
   subst this
   rw[h1] at ho'; cases ho'
   refine .small (e:=e) (nobig hP hG) (nofr hP hF) hg hd (use (.small hg hd he hU hY hT hP) hl hE he) fun u ny T hFe=>?_
   rcases hT u ny T with q|q|⟨a,b,q⟩
   ·obtain⟨nx,TG⟩:=hP.tail.1
    have e1:u=G:=by
     rcases (T.cmp TG (by omega)).nx with ⟨e,_⟩|⟨_,_,_,q2⟩
     ·exact e
     ·omega
    subst e1
    exact⟨F,_,v,hP.tail.2,hU,hY,dst h1 h2 hd hP⟩
   ·exact absurd hFe q
   ·exact⟨Ff,a,b,fun x h=>h,q⟩
 | @big o rest i E G F e v h1' h' hg hd he hL hU hB hP ih=>
  obtain⟨h1,h2⟩:=drop_cons hl
  rw[toL] at h1
  intro j o' hj ho'
  rcases Nat.lt_or_ge i j with c|c
  ·refine ih h2 (fun b hb=>?_) (fun b hb=>Nat.lt_succ_of_lt (hF b hb)) (next h1 hd hE) j o' c ho'
   rcases List.mem_cons.1 hb with rfl|hb
   ·exact Nat.lt_succ_self _
   ·exact Nat.lt_succ_of_lt (hG b hb)
  ·have:j=i:=by omega
   subst this
   rw[h1] at ho'; cases ho'
   obtain⟨nx,TG⟩:=hP.tail.1
   exact .big (e:=e) (nofr hP hF) hg hd (use (.big hg hd he hL hU hB hP) hl hE he) TG hP.tail.2 hU hB (dst h1 h2 hd hP) hL
 | @free o rest i E G F e t cs vn mk hg hd he hFo hNm hP ih=>
  obtain⟨h1,h2⟩:=drop_cons hl
  rw[toL] at h1
  intro j o' hj ho'
  rcases Nat.lt_or_ge i j with c|c
  ·refine ih h2 (fun b hb=>Nat.lt_succ_of_lt (hG b hb)) (fun b hb=>?_) (next h1 hd hE) j o' c ho'
   rcases List.mem_cons.1 hb with rfl|hb
   ·exact Nat.lt_succ_self _
   ·exact Nat.lt_succ_of_lt (hF b hb)
  ·have:j=i:=by omega
   subst this
   rw[h1] at ho'; cases ho'
   refine .free (e:=e) (nobig hP hG) hg hd (use (.free hg hd he hFo hNm hP) hl hE he) hFo hNm (dst h1 h2 hd hP) fun x hx e=>?_
   rcases hP.bigs.2 x hx with q|q
   ·rcases List.mem_cons.1 q with q|q
    ·exact q
    ·have:=hF x q; omega
   ·omega
end
end Go.Proofs.YtbhbdeelpopgoaaGreatDoor.E

set_option linter.constructorNameAsVariable false
namespace Go.Proofs.YtbhbdeelpopgoaaGreatDoor.E
open Go Go.RowKit H
section
variable {P : Program} {fl n : Nat} {call : CallF} {ops : Array Oper} {Ef E0 : Tr AV} {Gf : Sg} {Ff : FrL}
def Xm(ms:List Nat)(T:Sg)(m:Nat):Prop:=bitN (lastM ms T.last) m=true
def Fm(ms:List Nat)(i m:Nat):Prop:=bitN (nthN ms i) m=true
def or2(X Y:Nat→Prop)(m:Nat):Prop:=X m∨Y m
def Wn(ops:Array Oper)(ms:List Nat)(t m:Nat):Prop:=∃j o,ops[j]?=some o∧o.dst=some t∧(bitN (nthN ms j) m=true∨m=j)
theorem cut_upd{ρ:Ren}{n0 N i:Nat}{X:Nat→Prop}(hi:i < N)(hX : ¬X i)(p:Nat×Nat):cut (upd ρ (n0+i) p) n0 N X=cut ρ n0 N X:=by
 have key : ∀a b:Ren,a.f=b.f→a.hole=b.hole→a.sg=b.sg→a=b:=by
  rintro⟨a,b,_⟩ ⟨c,d,_⟩ h1 h2 h3
  cases h1; cases h2; cases h3; rfl
 have e0:n0+i - n0=i:=by omega
 refine key _ _ (funext fun j=>?_) (funext fun j=>propext ?_) rfl
 ·show cut (upd ρ (n0+i) p) n0 N X j=cut ρ n0 N X j
  by_cases e:j=n0+i
  ·subst e
   have z : ∀r:Ren,cut r n0 N X (n0+i)=none:=fun r=>by
    cases e:cut r n0 N X (n0+i) with
    | none=>rfl
    | some q=>exact absurd (e0▸(cut_some.1 e).2 (by omega) (by omega)) hX
   rw[z,z]
  ·have u:upd ρ (n0+i) p j=ρ j:=by rw[upd_eq,if_neg e]
   cases e2:cut ρ n0 N X j with
   | some q=>exact cut_some.2 ⟨u.trans (cut_some.1 e2).1,(cut_some.1 e2).2⟩
   | none=>
    cases e3:cut (upd ρ (n0+i) p) n0 N X j with
    | none=>rfl
    | some q=>
     have:=cut_some.2 ⟨u.symm.trans (cut_some.1 e3).1,(cut_some.1 e3).2⟩
     rw[e2] at this; cases this
 ·by_cases e:j=n0+i
  ·subst e
   exact⟨fun _=> .inl ⟨by omega,by omega,.inl (by rw[e0]; exact hX)⟩,fun _=> .inl ⟨by omega,by omega,.inl (by rw[e0]; exact hX)⟩⟩
  ·have u:upd ρ (n0+i) p j=ρ j:=by rw[upd_eq,if_neg e]
   constructor
   ·rintro(⟨a,b,c⟩|c)
    ·exact .inl ⟨a,b,c.imp id fun q=>u.symm.trans q⟩
    ·exact .inr c
   ·rintro(⟨a,b,c⟩|c)
    ·exact .inl ⟨a,b,c.imp id fun q=>u.trans q⟩
    ·exact .inr c
theorem ext_cut{r ρ:Ren}{n0 N:Nat}{X Y:Nat→Prop}(hx:Ext r (cut ρ n0 N X))(hr : ∀i,r.hole i→i < n0)(hX : ∀m,m < N→X m→Y m):Ext r (cut ρ n0 N Y):=
 ⟨⟨fun i p hp=>cut_vx hX vx_refl i p (hx.v i p hp),hx.v.s⟩,fun i hi=>by
  rcases hx.h i hi with ⟨a,_⟩|q
  ·have:=hr i hi; omega
  ·exact .inr q⟩
theorem draw2_ok(hm:P.follows .mixedOrders=true)(hR:RegOk ops (masks ops.toList [])){h0 hx:Hp}(hlim:h0.next+ops.size≤LIM)
  (hP:P2 P fl n h0.next (masks ops.toList []) Ef Gf Ff ops.toList 0 E0 (.z ⟨h0.next+ops.size,h0.tr⟩) []) (hFf : ∀x∈Ff,x.1 < ops.size)
  (hup:Up h0.next (allM ops.size) (lastM (masks ops.toList []) Gf.last) Ff Gf.top hx) (id:Nat):CodeOk P fl n (.region id ops true) E0 h0 .nm Ef hx:=by
 generalize hN:ops.size=N at *
 generalize hms:masks ops.toList []=ms at *
 have htr : ∀(i:Nat) (o:Oper),ops[i]?=some o→∀j,bitN (nthN ms i) j=true→∀m,bitN (nthN ms j) m=true→bitN (nthN ms i) m=true:=by subst hms; exact masks_tr hR
 have hl:ops.toList.drop 0=ops.toList:=by simp
 have facts:=P2.fact (E0:=E0) hR hP hl (fun b hb=>by cases hb) (fun b hb=>by cases hb) (fun t _ _=>rfl)
 have hwf:=hP.wf trivial
 have hsz : ∀j o,ops[j]?=some o→j < N:=fun j o h=>hN▸(Array.getElem?_eq_some_iff.1 h).1
 intro M hM S w0 r f0 w Q hn0 hf0 hR0 hE
 subst hM
 have hrh : ∀i,r.hole i→i < h0.next:=fun i hi=>(hR0.hol i hi).2
 have keep0 : ∀t,t < LIM→(∀(j:Nat) (o:Oper),ops[j]?=some o→o.dst≠some t)→Tr.get (bits t) Ef=Tr.get (bits t) E0:=fun t ht q=>hP.keep hl ht fun j o _=>q j o
 let Inv:(Nat→Prop)→Fr→World→Prop:=fun D f w=>f.n=n∧f.ds=f0.ds∧(∀i,D i→∀(o:Oper),ops[i]?=some o→∀j∈edgeL o,D j)∧(∀i,D i→i < N)∧∃ρ T nx,Ext r (cut ρ h0.next N (Xm ms T))∧Tail Gf none T nx∧(∀b∈T.bigs,D b)∧(∀b,nx=some b→¬D b)∧
  Rel S w0 fl (cut ρ h0.next N (Xm ms T)) T.top w∧h0.next+N≤T.top.next∧Pd S w0 h0.next N ρ (Xm ms T) w∧
  (∀x∈Ff,D x.1→¬Xm ms T x.1→∃p,ρ (h0.next+x.1)=some p∧BRel (cut ρ h0.next N (or2 (Xm ms T) (Fm ms x.1))) p w (.cells x.2.1 false false x.2.2))∧
  (∀j,j < N→¬D j→ρ (h0.next+j)=none)∧
  ∀t,t < LIM→((∀(j:Nat) (o:Oper),ops[j]?=some o→o.dst=some t→D j)→∀v,Tr.get (bits t) Ef=some v→∃u,real (cut ρ h0.next N (or2 (Xm ms T) (Wn ops ms t))) v=some u∧H.look f.e t=some u)∧((∀(j:Nat) (o:Oper),ops[j]?=some o→o.dst=some t→¬D j)→∀v,Tr.get (bits t) E0=some v→∃u,real (cut ρ h0.next N (Xm ms T)) v=some u∧H.look f.e t=some u)
 have masksD : ∀D:Nat→Prop,(∀i,D i→∀(o:Oper),ops[i]?=some o→∀j∈edgeL o,D j)→(∀i,D i→i < N)→∀i,D i→∀j,bitN (nthN ms i) j=true→D j:=by
  intro D hcl hDs i
  induction i using Nat.strongRecOn with
  | _ i ih=>
   intro hDi j hj
   obtain⟨o',ho'⟩ : ∃o',ops[i]?=some o':=⟨ops[i]'(hN▸hDs i hDi),Array.getElem?_eq_getElem _⟩
   rcases hR.anc i o' ho' j hj with q|⟨m,hm1,hm2⟩
   ·exact hcl i hDi o' ho' j q
   ·exact ih m (hR.lt i o' ho' m hm1) (hcl i hDi o' ho' m hm1) j hm2
 have xmD : ∀D:Nat→Prop,(∀i,D i→∀j,bitN (nthN ms i) j=true→D j)→∀T:Sg,(∀b∈T.bigs,D b)→∀m,Xm ms T m→D m:=by
  intro D hmaskD T hTb m hm
  cases T with
  | z h=>
   have:Nat.testBit 0 m=true:=hm
   simp at this
  | s b h t=>exact hmaskD b (hTb b (List.mem_cons_self ..)) m hm
 have lifted : ∀{ρ:Ren} {T:Sg} {w:World} {D:Nat→Prop} {m:Nat} {Y:Nat→Prop} {F:FrL} {h1:Hp},Rel S w0 fl (cut ρ h0.next N (Xm ms T)) T.top w→h0.next+N≤T.top.next→Pd S w0 h0.next N ρ (Xm ms T) w→
   (∀x∈Ff,D x.1→¬Xm ms T x.1→∃p,ρ (h0.next+x.1)=some p∧BRel (cut ρ h0.next N (or2 (Xm ms T) (Fm ms x.1))) p w (.cells x.2.1 false false x.2.2))→(∀x∈F,x∈Ff)→Up h0.next m (lastM ms T.last) F T.top h1→
   (∀k,Xm ms T k→Y k)→(∀k,k < N→bitN m k=true→D k∧Y k∧∀k',bitN (nthN ms k) k'=true→Y k')→Rel S w0 fl (cut ρ h0.next N Y) h1 w:=by
  intro ρ T w D m Y F h1 hRel hnx hPd hB hF hU hXY hY
  refine hRel.lift hnx hR0.base.2 hPd hXY hU.next (fun i hi hL=>?_) fun j hj b hb=>?_
  ·cases e:h1.at i with
   | none=>rfl
   | some b=>
    rcases hU.at_ i hL b e with q|⟨x,hx,rfl,_⟩
    ·rw[hRel.top i hi hL] at q; cases q
    ·have:=hFf x (hF x hx); omega
  ·rcases hU.at_ j (Nat.lt_of_lt_of_le hj hRel.lim) b hb with q|⟨x,hx,rfl,b1,b2,rfl⟩
   ·exact .inl q
   ·have hxN:=hFf x (hF x hx)
    obtain⟨hD,hYx,hYs⟩:=hY x.1 hxN b1
    have hX : ¬Xm ms T x.1:=fun c=>by
     have:bitN (lastM ms T.last) x.1=true:=c
     rw[b2] at this; cases this
    obtain⟨p,hp,hBR⟩:=hB x (hF x hx) hD hX
    exact .inr ⟨x.1,p,rfl,hxN,hX,hYx,hp,hBR.vx (cut_vx (fun k _=>fun q=>q.elim (hXY k) (hYs k)) vx_refl)⟩
 refine CW_draw hm Inv (fun i o hi j hj=>hR.lt i o hi j (by rwa [edgesOf_eq hi] at hj)) (fun D f w i o hi hnD hed hlt hI=>?_) (fun f w hI=>?_) (fun w' hk=>?_)
 ·obtain⟨hn,hds,hcl,hDs,ρ,T,nx,hx',hT,hTb,hnx,hRel,hnN,hPd,hBl,hno,hS⟩:=hI
  rw[edgesOf_eq hi] at hed
  have hiN:=hsz i o hi
  have hmaskD:=masksD D hcl hDs
  have hmask : ∀j,bitN (nthN ms i) j=true→D j:=by
   intro j hj
   rcases hR.anc i o hi j hj with q|⟨m,hm1,hm2⟩
   ·exact hed j q
   ·exact hmaskD m (hed m hm1) j hm2
  have hXD:=xmD D hmaskD T hTb
  have hXi : ¬Xm ms T i:=fun c=>hnD (hXD i c)
  have frame : ∀{e},Use ops E0 Ef i o e→FrOk (cut ρ h0.next N (or2 (Xm ms T) (Fm ms i))) e f:=by
   intro e hU t v ht hv
   obtain⟨h1,h2,h3⟩:=hU t v ht hv
   have up1 : ∀{v:AV},(∃u,real (cut ρ h0.next N (Xm ms T)) v=some u∧H.look f.e t=some u)→∃u,real (cut ρ h0.next N (or2 (Xm ms T) (Fm ms i))) v=some u∧H.look f.e t=some u:=fun⟨u,a,b⟩=>⟨u,real_vx (cut_vx (fun k _ q=> .inl q) vx_refl) _ _ a,b⟩
   by_cases hw : ∃(j:Nat) (o':Oper),ops[j]?=some o'∧o'.dst=some t
   ·obtain⟨j,o',hj,hd⟩:=hw
    have uni : ∀k o2,ops[k]?=some o2→o2.dst=some t→k=j:=fun k o2 a b=>hR.one k j o2 o' t a hj b hd
    have case0:i≤j→¬D j→∃u,real (cut ρ h0.next N (or2 (Xm ms T) (Fm ms i))) v=some u∧H.look f.e t=some u:=fun hij hDj=>up1 ((hS t ht).2 (fun k o2 a b=>by rw[uni k o2 a b]; exact hDj) v (h3 fun k o2 a b=>by rw[uni k o2 a b]; exact hij))
    rcases hR.use i j o o' t hi hj h1 hd with q|q|q
    ·have hb:=hR.bw i o j hi q
     obtain⟨u,a,b⟩:=(hS t ht).1 (fun k o2 a b=>by rw[uni k o2 a b]; exact hmask j q) v (h2 fun k o2 a b=>by rw[uni k o2 a b]; exact hb)
     refine⟨u,real_vx (cut_vx (fun k _ z=>z.imp (fun z=>z) fun⟨j2,o2,c1,c2,c3⟩=>?_) vx_refl) _ _ a,b⟩
     rw[uni j2 o2 c1 c2] at c3
     rcases c3 with c3|rfl
     ·exact htr i o hi j q k c3
     ·exact q
    ·have hb:=hR.bw j o' i hj q
     exact case0 (by omega) fun c=>hnD (hmaskD j c i q)
    ·subst q; exact case0 (Nat.le_refl _) hnD
   ·have hno : ∀(j:Nat) (o':Oper),ops[j]?=some o'→o'.dst=some t→False:=fun j o' a b=>hw ⟨j,o',a,b⟩
    have e0:=keep0 t ht fun j o' a b=>(hno j o' a b)
    refine up1 ((hS t ht).2 (fun j o' a b=>(hno j o' a b).elim) v ?_)
    rw[←e0]
    exact h2 fun j o' a b=>(hno j o' a b).elim
  have step : ∀{ρ2 T2 nx2 w2 v u},DOk n o.dst→Ext r (cut ρ2 h0.next N (Xm ms T2))→Tail Gf none T2 nx2→(∀b∈T2.bigs,b=i∨D b)→(∀b,nx2=some b→¬(b=i∨D b))→Rel S w0 fl (cut ρ2 h0.next N (Xm ms T2)) T2.top w2→h0.next+N≤T2.top.next→Pd S w0 h0.next N ρ2 (Xm ms T2) w2→
    (∀x∈Ff,(x.1=i∨D x.1)→¬Xm ms T2 x.1→∃p,ρ2 (h0.next+x.1)=some p∧BRel (cut ρ2 h0.next N (or2 (Xm ms T2) (Fm ms x.1))) p w2 (.cells x.2.1 false false x.2.2))→(∀j,j < N→¬(j=i∨D j)→ρ2 (h0.next+j)=none)→
    Vx ρ ρ2→(∀k,Xm ms T k→Xm ms T2 k)→(∀t,o.dst=some t→real (cut ρ2 h0.next N (or2 (Xm ms T2) (Wn ops ms t))) v=some u)→DstIs Ef o.dst v→Inv (fun j=>j=i∨D j) (putO f o.dst u) w2:=by
   intro ρ2 T2 nx2 w2 v u hd hx2 hT2 hb2 hn2 hR2 hnN2 hPd2 hBl2 hno2 hvx hXX hu hD
   refine⟨(putO_n _ _ _).1.trans hn,(putO_n _ _ _).2.trans hds,fun k hk o' ho' j hj=>?_,fun k hk=>?_,ρ2,T2,nx2,hx2,hT2,hb2,hn2,hR2,hnN2,hPd2,hBl2,hno2,fun t ht=>?_⟩
   ·rcases hk with rfl|hk
    ·rw[hi] at ho'; cases ho'
     exact .inr (hed j hj)
    ·exact .inr (hcl k hk o' ho' j hj)
   ·rcases hk with rfl|hk
    ·exact hiN
    ·exact hDs k hk
   ·by_cases hdt:o.dst=some t
    ·have hlook:H.look (putO f o.dst u).e t=some u:=by rw[hdt]; simp[putO,Fr.put,H.look,beq_self]
     refine⟨fun _ v' hv'=>?_,fun q=>(q i o hi hdt (.inl rfl)).elim⟩
     rw[hD t hdt] at hv'; cases hv'
     exact⟨u,hu t hdt,hlook⟩
    ·have hlook:H.look (putO f o.dst u).e t=H.look f.e t:=by
      cases hod:o.dst with
      | none=>rfl
      | some d=>simp only[putO,Fr.put,H.look]; rw[beq_ne fun c=>hdt (by rw[hod,c])]
     refine⟨fun q v' hv'=>?_,fun q v' hv'=>?_⟩
     ·obtain⟨u',a,b⟩:=(hS t ht).1 (fun j o' a b=>by
       rcases q j o' a b with rfl|q
       ·rw[hi] at a; cases a; exact absurd b hdt
       ·exact q) v' hv'
      exact⟨u',real_vx (cut_vx (fun k _ z=>z.imp (hXX k) fun z=>z) hvx) _ _ a,hlook.trans b⟩
     ·obtain⟨u',a,b⟩:=(hS t ht).2 (fun j o' a b=>fun c=>q j o' a b (.inr c)) v' hv'
      exact⟨u',real_vx (cut_vx (fun k _ z=>hXX k z) hvx) _ _ a,hlook.trans b⟩
  have stay:i∉Gf.bigs→∀b,nx=some b→¬(b=i∨D b):=by
   rintro hb b e (rfl|c)
   ·rcases hT.nx with ⟨_,e2⟩|⟨c,e2,h2,_⟩
    ·rw[e] at e2; cases e2
    ·rw[e] at e2; cases e2; exact hb h2
   ·exact hnx b e c
  have want:o.guard=none→RW none P ops (thenK (fun f' w'=>Inv (fun j=>j=i∨D j) f' w') Q) [{o with guard:=none}] f w→RW none P ops (thenK (fun f' w'=>Inv (fun j=>j=i∨D j) f' w') Q) [o] f w:=by
   intro hg k
   have e:({o with guard:=none}:Oper)=o:=by cases o; cases hg; rfl
   rw[e] at k; exact k
  have relAt : ∀{F h1},(∀x∈F,x∈Ff)→Up h0.next (nthN ms i) (lastM ms T.last) F T.top h1→Rel S w0 fl (cut ρ h0.next N (or2 (Xm ms T) (Fm ms i))) h1 w:=fun hF hU=>
   lifted (D:=D) hRel hnN hPd hBl hF hU (fun k q=> .inl q) fun k _ q=>⟨hmask k q,.inr q,fun k' q'=> .inr (htr i o hi k q k' q')⟩
  have own : ∀t,o.dst=some t→∀k,Fm ms i k→Wn ops ms t k:=fun t ht k q=>⟨i,o,hi,ht,.inl q⟩
  cases facts i o (Nat.zero_le _) hi with
  | @small e hb hfr hg hd hU hY=>
   obtain⟨F,h1,v,hF,hUp,hY,hD⟩:=hY T nx hT ⟨fun b e=>by
     rw[Bool.eq_false_iff]
     exact fun c=>hnx b e (hmask b c),fun b e=>by
     rw[Bool.eq_false_iff]
     refine fun c=>hnD (hmaskD b (hTb b ?_) i c)
     cases T with
     | z h=>cases e
     | s b' h t=>cases e; exact List.mem_cons_self ..⟩
   obtain⟨u,hu,hr⟩:=hY S w0 _ f w (frame hU) (relAt hF hUp)
   refine want hg (RW.gen (o:={o with guard:=none}) rfl (fun t e=>by rw[hn]; exact(hd t e).1) (.inl rfl) (fun a ha=>hr _ _ _ _ a ha) (RW.nil (step hd hx' hT (fun b hb=> .inr (hTb b hb)) (stay hb) hRel hnN hPd (fun x hx q=>hBl x hx (q.resolve_left (hfr x hx))) (fun j hj q=>hno j hj fun c=>q (.inr c)) vx_refl (fun k q=>q) (fun t ht=>?_) hD)))
   exact real_vx (cut_vx (fun k _ z=>z.imp (fun z=>z) (own t ht k)) vx_refl) _ _ hu
  | @big e t h1 h' nx2 v F hfr hg hd hU hT2 hF hUp hB hD hL=>
   have hTt:Tail Gf none t (some i):=hT2.step
   have key:T=t∧nx=some i:=by
    rcases Nat.le_total T.len t.len with hle|hle
    ·rcases (hT.cmp hTt hle).nx with q|⟨c,e,hc,_⟩
     ·exact q
     ·exact(hnx c e (WF.all hmaskD (hTt.wf hwf) (fun b hb=>hmask b (hL b hb)) c hc)).elim
    ·rcases (hTt.cmp hT hle).nx with ⟨q1,q2⟩|⟨c,e,hc,_⟩
     ·exact⟨q1.symm,q2.symm⟩
     ·cases e; exact(hnD (hTb _ hc)).elim
   obtain⟨rfl,rfl⟩:=key
   have hXF : ∀k,Xm ms T k→Fm ms i k:=fun k q=>by
    cases T with
    | z h=>
     have:Nat.testBit 0 k=true:=q
     simp at this
    | s b h t=>exact htr i o hi b (hL b rfl) k q
   have e1:cut ρ h0.next N (or2 (Xm ms T) (Fm ms i))=cut ρ h0.next N (Fm ms i):=cut_ext fun k _=>⟨fun q=>q.elim (hXF k) fun q=>q,.inr⟩
   have hRi:=relAt hF hUp
   have hfr2:=frame hU
   rw[e1] at hRi hfr2
   have hPi:=hPd.up hXF
   refine want hg (hB _ w _ f w _ ops [] hn hfr2 hRi.self fun r2 w2 u hx2 hu hR2=>?_)
   have hol : ∀i,r2.hole i→r2 i=none:=fun i q=>(hR2.hol i q).1
   have ec:cut (glue ρ r2 h0.next N) h0.next N (Fm ms i)=r2:=glue_cut hx2 hol
   obtain⟨hPd2,hsame⟩:=Pd.frame hRi hPi hx2 hR2
   have hRb:=hRi.back hR2
   have hvx:=glue_vx (ρ:=ρ) hx2
   have hnN2:h0.next+N≤h'.next:=by
    have c:h0.next+(N - 1) < h'.next:=by
     cases e:r2 (h0.next+(N - 1)) with
     | some p=>exact hRb.lt e
     | none=>
      rw[←ec] at e
      have:(cut (glue ρ r2 h0.next N) h0.next N (Fm ms i)).hole (h0.next+(N - 1)):=by
       refine .inl ⟨by omega,by omega,?_⟩
       rcases cut_none e with ⟨_,_,q⟩|q
       ·exact .inl q
       ·exact .inr q
      rw[ec] at this
      exact(hRb.hol _ this).2
    omega
   refine RW.nil (step (ρ2:=glue ρ r2 h0.next N) (T2:= .s i h' T) (nx2:=nx2) (w2:=w2) (v:=v) (u:=u) hd ?_ hT2 (fun b hb=>?_) (fun b e=>?_) ?_ hnN2 hPd2 (fun x hx q hX=>?_) (fun j hj q=>?_) hvx hXF (fun t ht=>?_) hD)
   ·show Ext r (cut (glue ρ r2 h0.next N) h0.next N (Fm ms i))
    rw[ec]
    exact(ext_cut hx' hrh fun k _ q=>hXF k q).trans hx2
   ·rcases List.mem_cons.1 hb with q|q
    ·exact .inl q
    ·exact .inr (hTb b q)
   ·rcases hT2.above hwf with ⟨_,e2⟩|⟨c,e2,hc⟩
    ·rw[e2] at e; cases e
    ·rw[e2] at e; cases e
     have hci:=hc i rfl
     rintro(rfl|c1)
     ·have:=hR.bw _ o _ hi hci
      omega
     ·exact hnD (hmaskD _ c1 i hci)
   ·show Rel S w0 fl (cut (glue ρ r2 h0.next N) h0.next N (Fm ms i)) h' w2
    rw[ec]; exact hRb
   ·have hX1 : ¬Xm ms T x.1:=fun c=>hX (hXF _ c)
    obtain⟨p,hp,hBR⟩:=hBl x hx (q.resolve_left (hfr x hx)) hX1
    refine⟨p,hvx _ _ hp,?_⟩
    have:=hsame x.1 p (hFf x hx) hX hp
    exact(hBR.of this).vx (cut_vx (fun k _ z=>z.imp (hXF k) fun z=>z) hvx)
   ·rw[glue_in ⟨by omega,by omega⟩]
    exact hno j hj fun c=>q (.inr c)
   ·refine real_vx (r:=cut (glue ρ r2 h0.next N) h0.next N (Fm ms i)) (cut_vx (fun k _ z=> .inl z) vx_refl) _ _ ?_
    rw[ec]; exact hu
  | @free e t cs vn mk hb hg hd hU hFo hNm hD hxf=>
   obtain⟨us,hus,hrun⟩:=hFo _ f w (frame hU)
   have hnone:=hno i hiN hnD
   have hvx:Vx ρ (upd ρ (h0.next+i) (w.heap.size,us.length)):=⟨fun k p hp=>by
    rw[upd_eq]
    by_cases c:k=h0.next+i
    ·subst c; rw[hnone] at hp; cases hp
    ·rw[if_neg c]; exact hp,rfl⟩
   have uo : ∀g,g≠i→upd ρ (h0.next+i) (w.heap.size,us.length) (h0.next+g)=ρ (h0.next+g):=fun g hg=>by rw[upd_eq,if_neg (by omega)]
   have ui:upd ρ (h0.next+i) (w.heap.size,us.length) (h0.next+i)=some (w.heap.size,us.length):=by rw[upd_eq,if_pos rfl]
   have ec:=cut_upd (ρ:=ρ) (n0:=h0.next) hiN hXi (w.heap.size,us.length)
   have hk:=Kept.alloc w (.cells us.toArray t)
   refine want hg (RW.gen (o:={o with guard:=none}) rfl (fun t e=>by rw[hn]; exact(hd t e).1) (.inl rfl) (fun a ha=>hrun _ _ _ _ a ha) (RW.nil (step (ρ2:=upd ρ (h0.next+i) (w.heap.size,us.length)) (v:=vn (h0.next+i)) hd (by rw[ec]; exact hx') hT (fun b hb=> .inr (hTb b hb)) (stay hb) (by rw[ec]; exact hRel.same hk) hnN (fun g p hgN hXg hr=>?_) (fun x hx q hX=>?_) (fun j hj q=>?_) hvx (fun k q=>q) (fun t' ht'=>?_) hD)))
   ·rw[ec]
    by_cases c:g=i
    ·subst c
     rw[ui] at hr; cases hr
     refine⟨lt_of_at (heap_alloc_new w (.cells us.toArray t)),.inr hRel.kept.size,fun k q hq e=>?_,fun g' q hg' hXg' hr' e=>?_⟩
     ·have:=hRel.dom k q hq
      have e:q.1=w.heap.size:=e
      omega
     ·by_cases c2:g'=g
      ·exact c2
      ·rw[uo g' c2] at hr'
       have:=(hPd g' q hg' hXg' hr').1
       have e:q.1=w.heap.size:=e
       omega
    ·rw[uo g c] at hr
     obtain⟨a1,a2,a3,a4⟩:=hPd g p hgN hXg hr
     refine⟨Nat.lt_of_lt_of_le a1 hk.size,a2,a3,fun g' q hg' hXg' hr' e=>?_⟩
     by_cases c2:g'=i
     ·subst c2
      rw[ui] at hr'; cases hr'
      have e:w.heap.size=p.1:=e
      omega
     ·rw[uo g' c2] at hr'
      exact a4 g' q hg' hXg' hr' e
   ·by_cases c:x.1=i
    ·have:=hxf x hx c
     subst this
     refine⟨_,ui,us.toArray,(0,0),us,heap_alloc_new w _,by simp,reals_vx (cut_vx (fun k _ z=>z) hvx) _ _ hus,?_,?_,fun _=>(reals_len hus).symm,fun _=> .inl rfl⟩
     ·rw[←reals_len hus]; simp
     ·exact Nat.le_of_eq (reals_len hus).symm
    ·obtain⟨p,hp,hBR⟩:=hBl x hx (q.resolve_left c) hX
     exact⟨p,hvx _ _ hp,(hBR.of (hk.block _ hBR.lt fun c=>c)).vx (cut_vx (fun k _ z=>z) hvx)⟩
   ·rw[uo j fun c=>q (.inl c)]
    exact hno j hj fun c=>q (.inr c)
   ·refine hNm _ _ _ (cut_some.2 ⟨ui,fun _ _=> .inr ⟨i,o,hi,ht',.inr (by omega)⟩⟩)
 ·obtain⟨hn,hds,hcl,hDs,ρ,T,nx,hx',hT,hTb,hnx,hRel,hnN,hPd,hBl,hno,hS⟩:=hI
  have key:T=Gf:=by
   rcases hT.nx with ⟨q,_⟩|⟨c,e,hc,_⟩
   ·exact q
   ·have h1:c < ops.size:=by
     rcases hP.bigs.1 c hc with q|q
     ·cases q
     ·simp at q; omega
    exact(hnx c e h1).elim
  subst key
  have hlt : ∀k,k < N→k < ops.size:=fun k hk=>hN.symm▸hk
  have hmaskD:=masksD _ hcl hDs
  have hXD:=xmD _ hmaskD T hTb
  have hXN : ∀k,Xm ms T k→k < N:=fun k q=>hN▸hXD k q
  have hR2:Rel S w0 fl (cut ρ h0.next N fun k=>k < N) hx w:=lifted (D:=fun j=>j < ops.size) hRel hnN hPd hBl (fun x h=>h) hup hXN fun k hk _=>⟨hlt k hk,hk,fun k' q=>hN▸hmaskD k (hlt k hk) k' q⟩
  refine hE _ f w hn hds (ext_cut hx' hrh fun k hk _=>hk) (fun t v ht hv=>?_) hR2
  obtain⟨u,a,b⟩:=(hS t ht).1 (fun j o a _=>hlt j (hsz j o a)) v hv
  exact⟨u,real_vx (cut_vx (fun k hk _=>hk) vx_refl) _ _ a,b⟩
 ·have hR1:=hR0.same hk
  obtain⟨⟨nx,hT⟩,_⟩:=hP.tail
  have hX0 : ∀m,¬Xm ms (.z ⟨h0.next+N,h0.tr⟩) m:=fun m c=>by
   have:Nat.testBit 0 m=true:=c
   simp at this
  have hfr : ∀f p,¬r (h0.next+f)=some p:=fun f p c=>by rw[hR1.fresh _ (Nat.le_add_right _ _)] at c; cases c
  have hRr:=hR1.reserve hlim hX0
  have vx0:Vx r (cut r h0.next N (Xm ms (.z ⟨h0.next+N,h0.tr⟩))):=⟨fun i p hp=>cut_some.2 ⟨hp,fun a _=>by rw[hR1.fresh i a] at hp; cases hp⟩,rfl⟩
  refine⟨hn0,rfl,fun i c=>c.elim,fun i c=>c.elim,r,.z ⟨h0.next+N,h0.tr⟩,nx,⟨vx0,fun i hi=> .inr ⟨fun c=>by have:=hrh i hi; omega,hi⟩⟩,hT,(fun b hb=>by cases hb),fun b _ c=>c,hRr,Nat.le_refl _,fun g p _ _ c=>absurd c (hfr g p),fun x _ c=>c.elim,fun j _ _=>hR1.fresh _ (Nat.le_add_right _ _),fun t ht=>⟨fun q v hv=>?_,fun _ v hv=>?_⟩⟩
  ·obtain⟨u,a,b⟩:=hf0 t v ht (by rw[←keep0 t ht fun j o a b=>q j o a b]; exact hv)
   exact⟨u,real_vx (cut_vx (fun k _ z=> .inl z) vx_refl) _ _ (real_vx vx0 _ _ a),b⟩
  ·obtain⟨u,a,b⟩:=hf0 t v ht hv
   exact⟨u,real_vx vx0 _ _ a,b⟩
noncomputable def chainB(P:Program)(ms:List Nat)(l:List Oper):Nat→Option Nat→Bool:=List.rec (motive:=fun _=>Nat→Option Nat→Bool) (fun _ _=>true) (fun o _ ih i ls=>natK (Nat.succ i) fun i'=>ife (bigOp P o.op) (ife (lastOk ms i ls) (ih i' (some i)) false) (ih i' ls)) l
noncomputable def drawsK(P:Program)(fl n:Nat)(call:CallF):DrawF:=fun ops env h k=>ife (chainB P (masks ops.toList []) ops.toList 0 none) (drawK P fl n call ops env h k) (draw2K P fl n call ops env h k)
theorem drawsK_ok(hm:P.follows .mixedOrders=true)(n:Nat)(call:CallF)(hc:CallOk P fl call):DrawOk P fl n RG (drawsK P fl n call):=by
 intro ops env h k hG hk
 rcases ife_ok hk with ⟨_,hk⟩|⟨_,hk⟩
 ·exact drawK_ok hm n call hc ops env h k hG hk
 ·replace hk:lenK ops.toList (fun N=>natK (Nat.add h.next N) fun nx=>ask (Nat.ble nx LIM)
   (p2 P fl n call (masks ops.toList []) h.next ops.toList 0 env ⟨nx,h.tr⟩ (.z ⟨nx,h.tr⟩) 0 [] fun Ef Gf _ Ff=>upK h.next (allM N) (lastM (masks ops.toList []) Gf.last) Ff Gf.top fun hx=>k .nm Ef hx))=true:=hk
  rw[lenK_eq,natK_eq] at hk
  obtain⟨hl,hk⟩:=ask_ok hk
  have hl:h.next+ops.toList.length≤LIM:=ble_le hl
  have esz:ops.toList.length=ops.size:=by simp
  rw[esz] at hk hl
  obtain⟨Ef,Gf,Ff,hk,hP,hFf⟩:=p2_ok (N:=ops.size) (F:=[]) (l:=ops.toList) (i:=0) (n0:=h.next) (G:= .z ⟨h.next+ops.size,h.tr⟩) hc rfl rfl (fun x hx=>by cases hx) (by rw[esz]; omega) hl hk
  obtain⟨hx,hk,hU⟩:=upK_ok (fun x hxx=>by have:=hFf x hxx; omega) hk
  exact⟨.nm,Ef,hx,hk,fun id=>draw2_ok hm hG hl hP hFf hU id⟩
end
end Go.Proofs.YtbhbdeelpopgoaaGreatDoor.E

set_option linter.constructorNameAsVariable false
namespace Go.Proofs.YtbhbdeelpopgoaaGreatDoor.E
open Go Go.RowKit H
section
variable {P : Program} {fl n : Nat}
theorem wpList_app{ops:Array Oper}{Q1 Q:Exit→Act→World→Prop}{l2:List Oper}(h2 : ∀a w,Q1 .normal a w→wpList P ops Q l2 a w)(hp : ∀c a w,Q1 (.panic c) a w→Q (.panic c) a w)(ho : ∀a w,Q1 .outgrown a w→Q .outgrown a w): ∀(l1:List Oper) (a:Act) (w:World),wpList P ops Q1 l1 a w→wpList P ops Q (l1++l2) a w
 | [],a,w,h=>h2 a w h
 | o::l1,a,w,h=>by
  rw[List.cons_append]
  unfold wpList at h ⊢
  by_cases hw:Region.wanted o (yielded ops a.tmps)=true
  ·rw[if_pos hw] at h ⊢
   rcases h with h|⟨h1,a0,w0,h3⟩
   ·exact .inl (oper_mono (fun a w hk=>wpList_app h2 hp ho l1 a w hk) (fun c a w hk=>hp c a w hk) (fun a w hk=>ho a w hk) h)
   ·exact .inr ⟨h1,a0,w0,ho a0 w0 h3⟩
  ·rw[if_neg hw] at h ⊢
   exact wpList_app h2 hp ho l1 _ w h
theorem RW.app{ops:Array Oper}{Q:Post}{l1 l2:List Oper}{f:Fr}{w:World}(h:RW none P ops (thenK (fun f w=>RW none P ops Q l2 f w) Q) l1 f w):RW none P ops Q (l1++l2) f w:=fun a ha=>
 wpList_app (Q1:=lift (thenK (fun f w=>RW none P ops Q l2 f w) Q)) (Q:=lift Q) (fun a w ⟨g,hg,q⟩=>q a hg) (fun c a w ⟨g,hg,q⟩=>⟨g,hg,q⟩) (fun a w ⟨g,hg,q⟩=>⟨g,hg,q⟩) l1 a w (h a ha)
noncomputable def recOp(o:Oper):Option Tmp:=match o.op,o.guard with
 | .call c,none=>(match c.callee,c.args.toList with
  | .builtin .recover,[]=>o.dst
  | _,_=>none)
 | _,_=>none
theorem recOp_ok{o:Oper}{d:Tmp}(h:recOp o=some d): ∃ats ty pos af,o = {dst:=some d,op:= .call {callee:= .builtin .recover,args:=#[],argTypes:=ats},type:=ty,pos:=pos,after:=af,guard:=none}:=by
 obtain⟨dst,op,ty,pos,af,g⟩:=o
 cases op <;> first|(cases h; done)|skip
 rename_i c
 obtain⟨cal,args,ats⟩:=c
 cases g with
 | some g=>cases h
 | none=>
  cases cal <;> first|(cases h; done)|skip
  rename_i b
  cases b <;> first|(cases h; done)|skip
  obtain⟨l⟩:=args
  cases l with
  | nil=>cases h; exact⟨ats,ty,pos,af,rfl⟩
  | cons x l=>cases h
noncomputable def asgOp(o:Oper)(k:Tmp→Tmp→Bool):Bool:=match o.op,o.guard with
 | .assign (.tmp s),none=>someK o.dst fun d=>k d s
 | _,_=>false
theorem asgOp_ok{o:Oper}{k:Tmp→Tmp→Bool}(h:asgOp o k=true): ∃d s ty pos af,o = {dst:=some d,op:= .assign (.tmp s),type:=ty,pos:=pos,after:=af,guard:=none}∧k d s=true:=by
 obtain⟨dst,op,ty,pos,af,g⟩:=o
 cases op <;> first|(cases h; done)|skip
 rename_i x
 cases x <;> first|(cases h; done)|skip
 rename_i s
 cases g with
 | some g=>cases h
 | none=>
  obtain⟨d,hd,h⟩:=someK_ok (x:=dst) h
  subst hd
  exact⟨d,s,ty,pos,af,rfl,h⟩
noncomputable def two(l:List Oper)(k:Oper→Oper→Bool):Bool:=match l with
 | [a,b]=>k a b
 | _=>false
noncomputable def recCode(c:Code)(k:Oper→Oper→Code→Bool):Bool:=match c with
 | .seq (.region _ ops false) b=>two ops.toList fun o1 o2=>k o1 o2 b
 | _=>false
theorem recCode_ok{c:Code}{k:Oper→Oper→Code→Bool}(h:recCode c k=true): ∃id o1 o2 b,c = .seq (.region id #[o1,o2] false) b∧k o1 o2 b=true:=by
 unfold recCode at h
 split at h
 ·rename_i id ops b
  unfold two at h
  split at h
  ·rename_i o1 o2 e
   refine⟨id,o1,o2,b,?_,h⟩
   have:ops=#[o1,o2]:=by apply Array.ext'; rw[e]
   rw[this]
  ·cases h
 ·cases h
noncomputable def closK(P:Program)(fl m:Nat)(dr:Nat→CallF→DrawF)(call:CallF)(g:FuncId)(vs:List AV)(pv:AV)(h:Hp)(k:Hp→Bool):Bool:=fnK P g fun fn=>someK fn.body fun c=>recCode c fun o1 o2 b=>someK (recOp o1) fun d1=>asgOp o2 fun d2 s2=>ask (Nat.beq s2 d1) (lenK vs fun l=>ask (Nat.ble l fn.ntmps) (ask (Nat.ble l 4096) (argsK vs 0 .e fun env=>
 setE fn.ntmps (some d1) pv env fun env=>setE fn.ntmps (some d2) pv env fun env=>codeK P fl fn.ntmps m call (dr fn.ntmps call) b env h fun out env h=>Out.rec (motive:=fun _=>Bool) (resK P fl env h fn.results.toList fun _=>k h) (fun _=>false) (resK P fl env h fn.results.toList fun _=>k h) (fun _=>false) out)))
def Modes(r:Ren)(pv:AV)(u u':FrameMode):Prop:=(pv = .nili∧u = .returning∧u' = .returning)∨∃v,real r pv=some v∧u = .panicking [{v:=v,recovered:=false}]∧u' = .panicking [{v:=v,recovered:=true}]
def SP(P:Program)(fn:Func)(R:Value→World→Prop):Post
 | .normal,f,w | .ret,f,w=>f.ds=[]∧∃v,(∀a,Ag f a→(results fn a.tmps).run P w = .ok v w)∧R v w
 | _,_,_=>False
theorem closK_ok{m:Nat}{dr:Nat→CallF→DrawF}{call:CallF}{G:Array Oper→Prop}(hc:CallOk P fl call)(hdr : ∀n call,CallOk P fl call→DrawOk P fl n G (dr n call))(hG:AllRegs P G){g:FuncId}{vs:List AV}{pv:AV}{h:Hp}{k:Hp→Bool}(hk:closK P fl m dr call g vs pv h k=true):
  ∃h',k h'=true∧∀S w0 r w xs u u',Rel S w0 fl r h w→reals r vs=some xs→Modes r pv u u'→CallsD P g xs.toArray u w fun e u2 w'=>(∃v,e = .returned v)∧u2=u'∧∃r',Ext r r'∧Rel S w0 fl r' h' w':=by
 obtain⟨fn,hf,hk⟩:=fnK_ok hk
 obtain⟨c,hb,hk⟩:=someK_ok hk
 obtain⟨id,o1,o2,b,rfl,hk⟩:=recCode_ok hk
 obtain⟨d1,h1,hk⟩:=someK_ok hk
 obtain⟨ats,ty1,pos1,af1,rfl⟩:=recOp_ok h1
 obtain⟨d2,s2,ty2,pos2,af2,rfl,hk⟩:=asgOp_ok hk
 obtain⟨he,hk⟩:=ask_ok hk
 have he:=Nat.eq_of_beq_eq_true he
 subst he
 rw[lenK_eq] at hk
 obtain⟨hl,hk⟩:=ask_ok hk
 obtain⟨hl2,hk⟩:=ask_ok hk
 obtain⟨env,hk,hev⟩:=argsK_ok hk (by have:=ble_le hl2; omega)
 obtain⟨hk,hd1⟩:=setE_eq hk
 obtain⟨hk,hd2⟩:=setE_eq hk
 have hd1:=hd1 s2 rfl
 have hd2:=hd2 d2 rfl
 obtain⟨out,env',h',hk,hC⟩:=codeK_ok hc (hdr fn.ntmps call hc) b (hG g fn _ hf hb).2 _ h _ hk
 have fin:(out = .nm∨out = .ret)→resK P fl env' h' fn.results.toList (fun _=>k h')=true→∃h',k h'=true∧∀S w0 r w xs u u',Rel S w0 fl r h w→reals r vs=some xs→Modes r pv u u'→CallsD P g xs.toArray u w fun e u2 w'=>(∃v,e = .returned v)∧u2=u'∧∃r',Ext r r'∧Rel S w0 fl r' h' w':=by
  intro ho hk
  obtain⟨rs,hk,hres⟩:=resK_ok hk
  refine⟨h',hk,fun S w0 r w xs u u' hR hxs hM=>callsD_of_wpS hf hb fun c₀ cs hu=>?_⟩
  obtain⟨v,hv,hrec⟩ : ∃v,real r pv=some v∧∀c₀:Frame,c₀.mode=u→∃c₁,(match recoverD (c₀::cs) with|some (v',cs')=>(v'=v∧cs'=c₁::cs)|none=>(v = .nilIface∧c₁=c₀))∧c₁ = {c₀ with mode:=u'}:=by
   rcases hM with ⟨rfl,rfl,rfl⟩|⟨v,hv,rfl,rfl⟩
   ·exact⟨.nilIface,rfl,fun c₀ hu=>⟨c₀,by simp[recoverD,hu],by rw[←hu]⟩⟩
   ·exact⟨v,hv,fun c₀ hu=>⟨_,by simp only[recoverD,hu]; trivial,rfl⟩⟩
  obtain⟨c₁,hrec,hc1⟩:=hrec c₀ hu
  have hlen:=reals_len hxs
  have hl':=ble_le hl
  obtain⟨A0,hA0⟩ : ∃A0:Act,A0 = {tmps:=xs.toArray++Array.replicate (fn.ntmps - xs.toArray.size) undef,defers:=[]}:=⟨_,rfl⟩
  have ha0:Ag ⟨fn.ntmps,[],H.args 0 xs⟩ {tmps:=xs.toArray++Array.replicate (fn.ntmps - xs.toArray.size) undef,defers:=[]}:=by
   refine⟨by simp; omega,rfl,fun t v hv=>?_⟩
   obtain⟨_,h2⟩:=look_args xs 0 t v hv
   rw[Nat.sub_zero] at h2
   have hlt:t < xs.length:=(List.getElem?_eq_some_iff.1 h2).1
   simp only[Array.getD_eq_getD_getElem?]
   rw[Array.getElem?_append_left (by simpa using hlt)]
   simp[h2]
  rw[←hA0] at ha0 ⊢
  have hf0:FrOk r env ⟨fn.ntmps,[],H.args 0 xs⟩:=fun t v ht hv=>by
   rw[hev t ht] at hv
   by_cases q:0≤t∧t < 0+vs.length
   ·rw[if_pos q,Nat.sub_zero] at hv
    obtain⟨u,hu,hr⟩:=reals_at hxs hv
    exact⟨u,hr,by rw[look_args' xs 0 t (Nat.zero_le _),Nat.sub_zero]; exact hu⟩
   ·rw[if_neg q,Tr.get_e] at hv; cases hv
  have ha1:=ha0.put v hd1.1
  have ha2:=ha1.put v hd2.1
  have hf2:=(hf0.put (lim_of hd1.2) hv).put (lim_of hd2.2) hv
  apply wpS_seq
  apply wpS_region
  have hrun : ∀a:Act,(execOp a.eval ({dst:=some s2,op:= .call {callee:= .builtin .recover,args:=#[],argTypes:=ats},type:=ty1,pos:=pos1,after:=af1,guard:=none}:Oper)).run P w = .ok .recover w:=fun a=>by
   simp[execOp,resolve,invoke,builtin]
  have hrest:b.wpS P (bodyPostS P fn c₀ cs fun e u2 w'=>(∃v,e = .returned v)∧u2=u'∧∃r',Ext r r'∧Rel S w0 fl r' h' w') (A0.put (some s2) v |>.put (some d2) v) (c₁::cs) w:=by
   refine wpS_cl (Q:=SP P fn fun _ w'=>∃r',Ext r r'∧Rel S w0 fl r' h' w') (CL_of_CW (hC none rfl S w0 r _ w _ rfl hf2 hR fun r' f' w' hn hds hx hf' hR'=>?_)) ha2 fun e f a w' ha q=>?_
   ·obtain⟨us,hus,hr⟩:=hres S w0 r' f' w' hf' hR'
    have q:f'.ds=[]∧∃v,(∀a,Ag f' a→(results fn a.tmps).run P w' = .ok v w')∧∃r',Ext r r'∧Rel S w0 fl r' h' w':=⟨hds,_,fun a ha=>run_results (hr a ha),r',hx,hR'⟩
    rcases ho with rfl|rfl <;> exact q
   ·have q':(e = .normal∨e = .ret)∧f.ds=[]∧∃v,(∀a,Ag f a→(results fn a.tmps).run P w' = .ok v w')∧∃r',Ext r r'∧Rel S w0 fl r' h' w':=by
     cases e <;> first|exact⟨.inl rfl,q⟩|exact⟨.inr rfl,q⟩|exact q.elim
    obtain⟨he,hds,v2,hr,hx⟩:=q'
    have key:a.defers=[]∧∃u2,c₁::cs = {c₀ with mode:=u2}::cs∧∃v,(results fn a.tmps).run P w' = .ok v w'∧(∃v',Ending.returned v = .returned v')∧u2=u'∧∃r',Ext r r'∧Rel S w0 fl r' h' w':=
     ⟨ha.defers.trans hds,u',by rw[hc1],v2,hr a ha,⟨_,rfl⟩,rfl,hx⟩
    rcases he with rfl|rfl <;> exact key
  have e2:(execOp (A0.put (some s2) v).eval ({dst:=some d2,op:= .assign (.tmp s2),type:=ty2,pos:=pos2,after:=af2,guard:=none}:Oper)).run P w = .ok (.value v) w:=by
   have:=ha1.slot s2 v (by simp[Fr.put,H.look,beq_self])
   simp only[execOp,Sem.run_pure,Act.eval,this]
  show wpOpsS P _ _ [0,1] _ _ _
  rcases hrc:recoverD (c₀::cs) with _|⟨v',cs'⟩
  ·rw[hrc] at hrec
   obtain⟨rfl,rfl⟩:=hrec
   simp[wpOpsS,hrun,hrc,Oper.upon,e2,Region.wanted,Exit.thenS]
   exact hrest
  ·rw[hrc] at hrec
   obtain⟨rfl,rfl⟩:=hrec
   simp[wpOpsS,hrun,hrc,Oper.upon,e2,Region.wanted,Exit.thenS]
   exact hrest
 cases out with
 | nm=>exact fin (.inl rfl) hk
 | ret=>exact fin (.inr rfl) hk
 | _=>cases hk
end
end Go.Proofs.YtbhbdeelpopgoaaGreatDoor.E

