/-
  Functions that defer: a function's body along its spine, up to the operation that defers, and from there on. Functions that are told by themselves: a table of them; functions that defer among them. Bodies that range over maps: whichever entry comes. Calls of functions whose bodies range over maps: they write nothing that is old, and come to the same whatever comes. Of each type of this translation: its form, zero value, size; of each function: that a call of it enters it. Written by a program. More rules: an operation whose guard was itself passed over. Elements of several cells: one field read, the whole read. append to a slice that is full, whosever it is; a slice cut off at its length. Elements read under a guard that holds. An element read whole in whatever world of a kind; a truth against itself. Rules: the greater and the lesser of two numbers, functions that the model itself gives, slices made, an element of a row of the call's own written. A range over a function: what an iterator does; the statement; a call of yield; the entry of a function that holds such a statement. Rules: numbers that are not below 0 divided, numbers of any kind that stay in it, slice literals of any length, texts against themselves. Results of any form: temporaries and variables, one behind the other. Rules: cells of an array in a variable; a variable of several cells read and written whole. A piece of code cut off, by the slots that are read behind it. A new variable of several cells, and what is laid into it. Regions that draw their order: an operation whose guard was itself passed over; cells of an element. A range over a function whose iterator reads what the loop's body leaves as it is (T). The end of a body that holds a range over a function, whatever the results' form. Functions that range over a function which splits a text. Functions whose body ranges over the parts of a text, once. Functions that are told by themselves: places of bytes in texts, how often a byte stands there. Functions of the package strings over texts: HasPrefix, LastIndexByte, Index and Count at one byte.
-/
import Derived.Test.YtbhbdeelpopgoaaGreatDoorQd
import Derived.Test.YtbhbdeelpopgoaaGreatDoorRows
import Derived.Test.YtbhbdeelpopgoaaGreatDoorQc
import Derived.Laws.Small
import Derived.Laws.Cover1
import Derived.Laws.OwnMore
import Derived.Laws.Externs
import Derived.Lib.Bytealg
import Derived.RangeFuncRecord
import Derived.RangeFuncSeq
set_option linter.unusedVariables false
set_option linter.unusedSimpArgs false
set_option linter.constructorNameAsVariable false
set_option linter.unusedVariables false
namespace Go.Proofs.YtbhbdeelpopgoaaGreatDoor.E
open Go Go.RowKit H
section
variable {P : Program} {fl n : Nat}
noncomputable def lastOp(l:List Oper):Option (List Oper×Oper):=List.rec (motive:=fun _=>Option (List Oper×Oper)) none (fun o t ih=>List.rec (motive:=fun _=>Option (List Oper×Oper)) (some ([],o)) (fun _ _ _=>Option.rec (motive:=fun _=>Option (List Oper×Oper)) none (fun p=>some (o::p.1,p.2)) ih) t) l
theorem lastOp_ok: ∀{l:List Oper} {p:List Oper×Oper},lastOp l=some p→l=p.1++[p.2]
 | [],p,h=>by cases h
 | [o],p,h=>by cases h; rfl
 | o::a::t,p,h=>by
  cases hi:lastOp (a::t) with
  | none=>
   have e:lastOp (o::a::t)=Option.rec (motive:=fun _=>Option (List Oper×Oper)) none (fun p=>some (o::p.1,p.2)) (lastOp (a::t)):=rfl
   rw[e,hi] at h; cases h
  | some q=>
   have e:lastOp (o::a::t)=Option.rec (motive:=fun _=>Option (List Oper×Oper)) none (fun p=>some (o::p.1,p.2)) (lastOp (a::t)):=rfl
   rw[e,hi] at h
   cases h
   rw[lastOp_ok hi]; rfl
noncomputable def defOp(o:Oper):Option Operand:=match o.op,o.guard,o.dst with
 | .defer c,none,none=>(match c.callee,c.args.toList with
  | .value x,[]=>some x
  | _,_=>none)
 | _,_,_=>none
theorem defOp_ok{o:Oper}{x:Operand}(h:defOp o=some x): ∃ats ty pos af,o=op0 (.defer {callee:= .value x,args:=([]:List Operand).toArray,argTypes:=ats}) ty pos af:=by
 obtain⟨dst,op,ty,pos,af,g⟩:=o
 cases op <;> first|(cases h; done)|skip
 rename_i c
 obtain⟨cal,args,ats⟩:=c
 cases g with
 | some g=>cases h
 | none=>
  cases dst with
  | some d=>cases h
  | none=>
   cases cal <;> first|(cases h; done)|skip
   obtain⟨l⟩:=args
   cases l with
   | nil=>cases h; exact⟨ats,ty,pos,af,rfl⟩
   | cons x l=>cases h
noncomputable def defReg(c:Code):Option (List Oper×Operand×Array Oper):=match c with
 | .region _ ops false=>Option.rec (motive:=fun _=>Option (List Oper×Operand×Array Oper)) none (fun p=>Option.rec (motive:=fun _=>Option (List Oper×Operand×Array Oper)) none (fun x=>some (p.1,x,ops)) (defOp p.2)) (lastOp ops.toList)
 | _=>none
theorem defReg_ok{c:Code}{q:List Oper×Operand×Array Oper}(h:defReg c=some q): ∃id ats ty pos af,c = .region id q.2.2 false∧q.2.2.toList=q.1++[op0 (.defer {callee:= .value q.2.1,args:=([]:List Operand).toArray,argTypes:=ats}) ty pos af]:=by
 unfold defReg at h
 split at h
 ·rename_i id ops
  cases h1:lastOp ops.toList with
  | none=>rw[h1] at h; cases h
  | some p=>
   rw[h1] at h
   replace h:Option.rec (motive:=fun _=>Option (List Oper×Operand×Array Oper)) none (fun x=>some (p.1,x,ops)) (defOp p.2)=some q:=h
   cases h2:defOp p.2 with
   | none=>rw[h2] at h; cases h
   | some x=>
    rw[h2] at h
    cases h
    obtain⟨ats,ty,pos,af,e⟩:=defOp_ok h2
    refine⟨id,ats,ty,pos,af,rfl,?_⟩
    rw[lastOp_ok h1,e]
 ·cases h
noncomputable def finK(P:Program)(fl:Nat)(fn:Func)(env:Tr AV)(h:Hp)(kr:KV):Bool:=resK P fl env h fn.results.toList fun vs=>oneK vs fun v=>kr v h
noncomputable def defBody(P:Program)(fl m:Nat)(dr:Nat→CallF→DrawF)(call:CallF)(fn:Func)(kr kp:KV)(c:Code):Tr AV→Hp→Bool:=Code.rec (motive:=fun _=>Tr AV→Hp→Bool)
 (fun _ _=>false) (fun _ _ _ _ _=>false)
 (fun a b _ ihb env h=>Option.rec (motive:=fun _=>Bool)
  (codeK P fl fn.ntmps m call (dr fn.ntmps call) a env h fun out env h=>Out.rec (motive:=fun _=>Bool) (ihb env h) (fun _=>false) (finK P fl fn env h kr) (fun v=>kp v h) out)
  (fun q=>opsK P fl fn.ntmps call q.2.2 q.1 env h fun out env h=>Out.rec (motive:=fun _=>Bool)
   (evK fl h env q.2.1 fun f=>qFn f fun g a b'=>catK a b' fun vs=>entK P g (codeK P fl fn.ntmps m call (dr fn.ntmps call) b env h fun out env h=>Out.rec (motive:=fun _=>Bool)
    (closK P fl m dr call g vs .nili h fun h=>finK P fl fn env h kr) (fun _=>false) (closK P fl m dr call g vs .nili h fun h=>finK P fl fn env h kr) (fun v=>closK P fl m dr call g vs v h fun h=>finK P fl fn env h kr) out))
   (fun _=>false) false (fun _=>false) out)
  (defReg a))
 (fun _ _ _ _ _ _ _=>false) (fun _ _ _ _ _=>false) (fun _ _ _ _=>false) (fun _ _ _ _ _ _ _ _=>false) (fun _ _ _=>false) (fun _ _ _ _=>false) (fun _ _ _=>false) (fun _ _ _=>false) (fun _ _=>false) (fun _ _ _=>false) c
def DefOk(P:Program)(fl:Nat)(fn:Func)(c:Code)(env:Tr AV)(h:Hp)(v:AV)(h':Hp)(E:Value→Ending):Prop:=∀S w0 r f w (R:Ending→World→Prop),f.n=fn.ntmps→f.ds=[]→FrOk r env f→Rel S w0 fl r h w→(∀r' x w',Ext r r'→Rel S w0 fl r' h' w'→real r' v=some x→R (E x) w')→CW none P (DQ P fn R) c f w
theorem finK_ok{fn:Func}{env:Tr AV}{h:Hp}{kr:KV}(hk:finK P fl fn env h kr=true): ∃v,kr v h=true∧∀S w0 r f w,FrOk r env f→Rel S w0 fl r h w→∃x,real r v=some x∧∀a,Ag f a→(results fn a.tmps).run P w = .ok x w:=by
 obtain⟨rs,hk,h2⟩:=resK_ok hk
 obtain⟨v,hk,h3⟩:=oneK_ok hk
 refine⟨v,hk,fun S w0 r f w hf hR=>?_⟩
 obtain⟨us,hus,hr⟩:=h2 S w0 r f w hf hR
 exact⟨_,h3 r us hus,fun a ha=>run_results (hr a ha)⟩
theorem defBody_ok{m:Nat}{dr:Nat→CallF→DrawF}{call:CallF}{G:Array Oper→Prop}(hc:CallOk P fl call)(hdr : ∀n call,CallOk P fl call→DrawOk P fl n G (dr n call))(hG:AllRegs P G){fn:Func}{kr kp:KV}: ∀(c:Code),Regs G c→∀(env:Tr AV) (h:Hp),defBody P fl m dr call fn kr kp c env h=true→
  (∃v h',kr v h'=true∧DefOk P fl fn c env h v h' .returned)∨(∃v h',kp v h'=true∧DefOk P fl fn c env h v h' fun x=> .panicked [{v:=x,recovered:=false}]):=by
 intro c
 induction c with
 | seq a b _ ihb=>
  intro hGc env h hk
  cases hq:defReg a with
  | none=>
   replace hk:Option.rec (motive:=fun _=>Bool) _ _ (defReg a)=true:=hk
   rw[hq] at hk
   obtain⟨out,env1,h1,hk,hC⟩:=codeK_ok hc (hdr fn.ntmps call hc) a hGc.1 env h _ hk
   cases out with
   | nm=>
    have pre : ∀{v h' E},DefOk P fl fn b env1 h1 v h' E→DefOk P fl fn (.seq a b) env h v h' E:=fun hD S w0 r f w R hn hds hf hR hE=>
     CL.one (CL.seq (hC none rfl S w0 r f w _ hn hf hR fun r' f' w' hn' hd hx hf' hR'=>CL_of_CW (hD S w0 r' f' w' R hn' (hd.trans hds) hf' hR' fun r2 x w2 hx2 hR2 hv=>hE r2 x w2 (hx.trans hx2) hR2 hv)))
    rcases ihb hGc.2 env1 h1 hk with ⟨v,h',hk,hD⟩|⟨v,h',hk,hD⟩
    ·exact .inl ⟨v,h',hk,pre hD⟩
    ·exact .inr ⟨v,h',hk,pre hD⟩
   | ex i=>cases hk
   | ret=>
    obtain⟨v,hk,hr⟩:=finK_ok hk
    refine .inl ⟨v,h1,hk,fun S w0 r f w R hn hds hf hR hE=>CL.one (CL.seq (hC none rfl S w0 r f w _ hn hf hR fun r' f' w' hn' hd hx hf' hR'=>?_))⟩
    obtain⟨x,hx1,hr⟩:=hr S w0 r' f' w' hf' hR'
    show ∀a,Ag f' a→Leaves P fn a.tmps R f'.ds .returning w'
    intro a ha
    rw[hd.trans hds]
    exact⟨x,hr a ha,hE r' x w' hx hR' hx1⟩
   | pan v=>
    refine .inr ⟨v,h1,hk,fun S w0 r f w R hn hds hf hR hE=>CL.one (CL.seq (hC none rfl S w0 r f w _ hn hf hR fun r' f' w' hn' hd hx hf' hR'=>?_))⟩
    intro u hu
    show ∀a,Ag f' a→Leaves P fn a.tmps R f'.ds (.panicking [{v:=u,recovered:=false}]) w'
    intro a ha
    rw[hd.trans hds]
    exact hE r' u w' hx hR' hu
  | some q=>
   replace hk:Option.rec (motive:=fun _=>Bool) _ _ (defReg a)=true:=hk
   rw[hq] at hk
   obtain⟨id,ats,ty,pos,af,rfl,hops⟩:=defReg_ok hq
   obtain⟨out,env1,h1,hk,hO⟩:=opsK_ok hc hk
   cases out with
   | nm=>
    obtain⟨fv,hk,h2⟩:=evK_ok (show evK fl h1 env1 q.2.1 _=true from hk)
    replace hk:qFn fv (fun g a b'=>catK a b' fun vs=>entK P g (codeK P fl fn.ntmps m call (dr fn.ntmps call) b env1 h1 fun out env h=>Out.rec (motive:=fun _=>Bool) (closK P fl m dr call g vs .nili h fun h=>finK P fl fn env h kr) (fun _=>false) (closK P fl m dr call g vs .nili h fun h=>finK P fl fn env h kr) (fun v=>closK P fl m dr call g vs v h fun h=>finK P fl fn env h kr) out))=true:=hk
    obtain⟨g,xa,xb,rfl,hk2⟩:=qFn_ok hk
    clear hk
    rw[catK_eq] at hk2
    obtain⟨hent,hk⟩:=entK_ok hk2
    obtain⟨out,env2,h2',hk,hC⟩:=codeK_ok hc (hdr fn.ntmps call hc) b hGc.2 env1 h1 _ hk
    have fin : ∀pv,closK P fl m dr call g (xa++xb) pv h2' (fun h=>finK P fl fn env2 h kr)=true→
      ∃v h',kr v h'=true∧∀S w0 r (f:Fr) w (R:Ending→World→Prop) u u' capx argx,FrOk r env2 f→Rel S w0 fl r h2' w→Modes r pv u u'→real r (.fn (.func g) xa xb)=some (.func (.func g) argx capx)→f.ds=[{target:= .fn (.func g) capx,args:=argx++([]:List Value).toArray}]→(∀r' x w',Ext r r'→Rel S w0 fl r' h' w'→real r' v=some x→R (.returned x) w')→∀a,Ag f a→Leaves P fn a.tmps R f.ds u w:=by
     intro pv hk
     obtain⟨h3,hk,hD⟩:=closK_ok hc hdr hG hk
     obtain⟨v,hk,hr⟩:=finK_ok hk
     refine⟨v,h3,hk,fun S w0 r f w R u u' capx argx hf hR hM hfv hds hE a ha=>?_⟩
     obtain⟨x,y,hx1,hy1,e⟩:=real_fn hfv
     cases e
     have hargs:=reals_app hx1 hy1
     have hu:u≠.run:=by
      rcases hM with ⟨_,rfl,_⟩|⟨_,_,rfl,_⟩ <;> simp
     have hs:settle u' = .returning:=by
      rcases hM with ⟨_,_,rfl⟩|⟨_,_,_,rfl⟩ <;> rfl
     rw[hds]
     refine leaves_cons (f:=g) (args:=(x++y).toArray) hu (by
      have:=fun aa=>hent.out aa w
      simp[invoke,this]) ((hD S w0 r w (x++y) u u' hR hargs hM).mono fun e u2 w' q=>?_)
     obtain⟨⟨v0,rfl⟩,rfl,r',hxx,hR'⟩:=q
     obtain⟨x2,hx2,hr⟩:=hr S w0 r' f w' (hf.mono hxx) hR'
     show Leaves P fn a.tmps R [] (settle u2) w'
     rw[hs]
     exact⟨x2,hr a ha,hE r' x2 w' hxx hR' hx2⟩
    have pre : ∀{v h' E},(∀S w0 r (f:Fr) w (R:Ending→World→Prop) capx argx,f.n=fn.ntmps→FrOk r env1 f→Rel S w0 fl r h1 w→real r (.fn (.func g) xa xb)=some (.func (.func g) argx capx)→f.ds=[{target:= .fn (.func g) capx,args:=argx++([]:List Value).toArray}]→(∀r' x w',Ext r r'→Rel S w0 fl r' h' w'→real r' v=some x→R (E x) w')→CW none P (DQ P fn R) b f w)→DefOk P fl fn (.seq (.region id q.2.2 false) b) env h v h' E:=by
     intro v h' E hb S w0 r f w R hn hds hf hR hE
     have e:q.2.2=(q.1++[op0 (.defer {callee:= .value q.2.1,args:=([]:List Operand).toArray,argTypes:=ats}) ty pos af]).toArray:=by rw[←hops]
     have e2 : ∀(Q:Post),RW none P q.2.2 Q (q.1++[op0 (.defer {callee:= .value q.2.1,args:=([]:List Operand).toArray,argTypes:=ats}) ty pos af]) f w→RW none P (q.1++[op0 (.defer {callee:= .value q.2.1,args:=([]:List Operand).toArray,argTypes:=ats}) ty pos af]).toArray Q (q.1++[op0 (.defer {callee:= .value q.2.1,args:=([]:List Operand).toArray,argTypes:=ats}) ty pos af]) f w:=fun Q hq=>e▸hq
     refine CL.one (CL.seq ?_)
     rw[e]
     refine CL.region (e2 _ (RW.app (hO none S w0 r f w _ hn hf hR fun r' f' w' hn' hd hx hf' hR'=>?_)))
     obtain⟨u,hu,hxu⟩:=h2 S w0 r' f' w' hf' hR'
     obtain⟨x,y,hx1,hy1,rfl⟩:=real_fn hu
     refine RW.defer (l:=[]) hxu rfl (RW.nil ?_)
     refine CL_of_CW (hb S w0 r' _ w' R _ _ hn' hf' hR' hu ?_ fun r2 z w2 hx2 hR2 hv=>hE r2 z w2 (hx.trans hx2) hR2 hv)
     show _::f'.ds=_
     rw[hd,hds]
    have go : ∀pv,closK P fl m dr call g (xa++xb) pv h2' (fun h=>finK P fl fn env2 h kr)=true→((out = .nm∨out = .ret)∧pv = .nili∨out = .pan pv)→∃v h',kr v h'=true∧DefOk P fl fn (.seq (.region id q.2.2 false) b) env h v h' .returned:=by
     intro pv hk ho
     obtain⟨v,h',hk,hF⟩:=fin pv hk
     refine⟨v,h',hk,pre fun S w0 r f w R capx argx hn hf hR hfv hds hE=>hC none rfl S w0 r f w _ hn hf hR fun r' f' w' hn' hd hx hf' hR'=>?_⟩
     have hF:=fun u u' hM=>hF S w0 r' f' w' R u u' capx argx hf' hR' hM (real_mono hx _ _ hfv) (hd.trans hds) fun r2 x w2 hx2 hR2 hv=>hE r2 x w2 (hx.trans hx2) hR2 hv
     rcases ho with ⟨ho,rfl⟩|rfl
     ·have:=hF .returning .returning (.inl ⟨rfl,rfl,rfl⟩)
      rcases ho with rfl|rfl <;> exact this
     ·intro u hu
      exact hF _ _ (.inr ⟨u,hu,rfl,rfl⟩)
    cases out with
    | nm=>exact .inl (go .nili hk (.inl ⟨.inl rfl,rfl⟩))
    | ex i=>cases hk
    | ret=>exact .inl (go .nili hk (.inl ⟨.inr rfl,rfl⟩))
    | pan v=>exact .inl (go v hk (.inr rfl))
   | _=>cases hk
 | _=>intro _ env h hk; cases hk
noncomputable def deferK(P:Program)(fl m:Nat)(dr:Nat→CallF→DrawF)(call:CallF):CallF:=fun f vs h kr kp=>fnK P f fun fn=>someK fn.body fun c=>lenK vs fun l=>ask (Nat.ble l fn.ntmps) (ask (Nat.ble l 4096) (argsK vs 0 .e fun env=>defBody P fl m dr call fn kr kp c env h))
theorem deferK_ok{m:Nat}{dr:Nat→CallF→DrawF}{call:CallF}{G:Array Oper→Prop}(hc:CallOk P fl call)(hdr : ∀n call,CallOk P fl call→DrawOk P fl n G (dr n call))(hG:AllRegs P G):CallOk P fl (deferK P fl m dr call):=by
 intro f vs h kr kp hk
 obtain⟨fn,hf,hk⟩:=fnK_ok hk
 obtain⟨c,hb,hk⟩:=someK_ok hk
 rw[lenK_eq] at hk
 obtain⟨hl,hk⟩:=ask_ok hk
 obtain⟨hl2,hk⟩:=ask_ok hk
 obtain⟨env,hk,he⟩:=argsK_ok hk (by have:=ble_le hl2; omega)
 have start : ∀{v h' E},DefOk P fl fn c env h v h' E→∀S w0 r w xs,Rel S w0 fl r h w→reals r vs=some xs→Calls P f xs.toArray w fun e w'=>∃r' x,e=E x∧Ext r r'∧Rel S w0 fl r' h' w'∧real r' v=some x:=by
  intro v h' E hD S w0 r w xs hR hxs
  refine enterD hf rfl hb (by rw[reals_len hxs]; exact hl) (CL_of_CW (hD S w0 r _ w _ rfl rfl (fun t v ht hv=>?_) hR fun r' x w' hx hR' hv=>⟨r',x,rfl,hx,hR',hv⟩))
  rw[he t ht] at hv
  by_cases q:0≤t∧t < 0+vs.length
  ·rw[if_pos q,Nat.sub_zero] at hv
   obtain⟨u,hu,hr⟩:=reals_at hxs hv
   exact⟨u,hr,by rw[look_args' xs 0 t (Nat.zero_le _),Nat.sub_zero]; exact hu⟩
  ·rw[if_neg q,Tr.get_e] at hv; cases hv
 rcases defBody_ok hc hdr hG c (hG f fn c hf hb) env h hk with ⟨v,h',hk,hD⟩|⟨v,h',hk,hD⟩
 ·exact .inl ⟨v,h',hk,start hD⟩
 ·exact .inr ⟨v,h',hk,start hD⟩
end
end Go.Proofs.YtbhbdeelpopgoaaGreatDoor.E

namespace Go.Proofs.YtbhbdeelpopgoaaGreatDoor.E
open Go Go.RowKit H
section
variable {P : Program} {fl : Nat}
abbrev Prim:=CallF→List AV→Hp→KV→KV→Bool
def Pr1(P:Program)(fl:Nat)(f:FuncId)(p:Prim):Prop:=∀call,CallOk P fl call→CallOk P fl fun g vs h kr kp=>ife (Nat.beq g f) (p call vs h kr kp) false
noncomputable def tab(l:List (FuncId×Prim)):PrimF:=fun f=>List.rec (motive:=fun _=>Option Prim) none (fun x _ ih=>ifeV (Nat.beq f x.1) (some x.2) ih) l
theorem tab_ok: ∀{l:List (FuncId×Prim)},(∀x∈l,Pr1 P fl x.1 x.2)→PrimOk P fl (tab l)
 | [],_=>fun f p h=>by cases h
 | x::l,h=>fun f p hp=>by
  replace hp:ifeV (Nat.beq f x.1) (some x.2) (tab l f)=some p:=hp
  cases hb:Nat.beq f x.1 with
  | true=>
   rw[hb] at hp
   have hp:some x.2=some p:=hp
   cases hp
   rw[Nat.eq_of_beq_eq_true hb]
   exact h x List.mem_cons_self
  | false=>
   rw[hb] at hp
   exact tab_ok (fun y hy=>h y (List.mem_cons_of_mem _ hy)) f p hp
theorem Pr1.val{f:FuncId}{p:List AV→Hp→(AV→Bool)→Bool}(H : ∀vs h k,p vs h k=true→∃v,k v=true∧∀S w0 r w xs,Rel S w0 fl r h w→reals r vs=some xs→Calls P f xs.toArray w fun e w'=>∃x,e = .returned x∧K0 w w'∧real r v=some x):Pr1 P fl f fun _ vs h kr _=>p vs h fun v=>kr v h:=by
 intro call _ g vs h kr kp hk
 rcases ife_ok hk with ⟨hb,hk2⟩|⟨_,hk2⟩
 ·obtain rfl:=Nat.eq_of_beq_eq_true hb
  obtain⟨v,hv,hc⟩:=H vs h _ hk2
  refine .inl ⟨v,h,hv,fun S w0 r w xs hR hxs=>(hc S w0 r w xs hR hxs).mono ?_⟩
  rintro e w' ⟨x,rfl,k,hx⟩
  exact⟨r,x,rfl,Ext.refl r,hR.same k,hx⟩
 ·cases hk2
theorem Pr1.defer{f:FuncId}{m:Nat}{dr:Nat→CallF→DrawF}{G:Array Oper→Prop}(hdr : ∀n call,CallOk P fl call→DrawOk P fl n G (dr n call))(hG:AllRegs P G):Pr1 P fl f fun call vs h kr kp=>deferK P fl m dr call f vs h kr kp:=by
 intro call hc g vs h kr kp hk
 rcases ife_ok hk with ⟨hb,hk2⟩|⟨_,hk2⟩
 ·obtain rfl:=Nat.eq_of_beq_eq_true hb
  exact deferK_ok hc hdr hG _ vs h kr kp hk2
 ·cases hk2
end
end Go.Proofs.YtbhbdeelpopgoaaGreatDoor.E

set_option linter.constructorNameAsVariable false
namespace Go.Proofs.YtbhbdeelpopgoaaGreatDoor.E
open Go Go.RowKit H
section
variable {P : Program} {fl n : Nat} {call : CallF}
noncomputable def allX(f:Nat→(Hp→Bool)→Bool)(k:AV→Hp→Bool)(L:List (AV×AV×Nat)):Bool:=List.rec (motive:=fun _=>Bool) true (fun x t ih=>List.rec (motive:=fun _=>Bool) (f x.2.2 fun h=>k (.tup [.bool true,x.1,x.2.1]) h) (fun _ _ _=>ask (f x.2.2 fun h=>k (.tup [.bool true,x.1,x.2.1]) h) ih) t) L
theorem allX_ok{f:Nat→(Hp→Bool)→Bool}{k:AV→Hp→Bool}: ∀{L:List (AV×AV×Nat)},allX f k L=true→∀x∈L,(f x.2.2 fun h=>k (.tup [.bool true,x.1,x.2.1]) h)=true
 | [],_,x,hx=>by cases hx
 | [y],h,x,hx=>by
  rw[List.mem_singleton.1 hx]
  exact h
 | y::z::L,h,x,hx=>by
  obtain⟨h1,h2⟩:=ask_ok h
  rcases List.mem_cons.1 hx with rfl|hx
  ·exact h1
  ·exact allX_ok (L:=z::L) h2 x hx
noncomputable def last1{α:Type}(L:List α):List α:=List.rec (motive:=fun _=>List α) [] (fun x t ih=>List.rec (motive:=fun _=>List α) [x] (fun _ _ _=>ih) t) L
noncomputable def selX{α:Type}(sl:Nat)(L:List α):List α:=Nat.rec (motive:=fun _=>List α) L (fun p _=>Nat.rec (motive:=fun _=>List α) (List.rec (motive:=fun _=>List α) [] (fun x _ _=>[x]) L) (fun _ _=>last1 L) p) sl
theorem last1_ne{α:Type}: ∀(x:α) (t:List α),∃y l,last1 (x::t)=y::l
 | x,[]=>⟨x,[],rfl⟩
 | _,y::t=>last1_ne y t
theorem selX_ne{α:Type}(sl:Nat)(x:α)(t:List α): ∃y l,selX sl (x::t)=y::l:=by
 cases sl with
 | zero=>exact⟨x,t,rfl⟩
 | succ p=>
  cases p with
  | zero=>exact⟨x,[],rfl⟩
  | succ p=>exact last1_ne x t
noncomputable def nextW(sl fl i:Nat)(h:Hp)(k:AV→Hp→Bool):Bool:=stepsK fl i h fun L f=>List.rec (motive:=fun _=>Bool) (k (.tup [.bool false]) h) (fun x t _=>allX f k (selX sl (x::t))) L
noncomputable def mapNx(o:Op):Option Operand:=match o with | .next x false=>some x|_=>none
theorem mapNx_ok{o:Op}{x:Operand}(h:mapNx o=some x):o = .next x false:=by
 unfold mapNx at h
 split at h
 ·cases h; rfl
 ·cases h
abbrev WcF:=FuncId→Option (List AV→Hp→KV→Bool)
def WcOk(P:Program)(fl:Nat)(wc:WcF):Prop:=∀f g vs h k,wc f=some g→g vs h k=true→(∃v h',k v h'=true)∧∀S w0 r w xs,Rel S w0 fl r h w→reals r vs=some xs→Calls P f xs.toArray w fun e w'=>∃v h' r' x,k v h'=true∧e = .returned x∧Ext r r'∧Rel S w0 fl r' h' w'∧real r' v=some x
def WcEx(wc:WcF):Prop:=∀f g vs h k,wc f=some g→g vs h k=true→∃v h',k v h'=true
theorem WcOk.ex{wc:WcF}(h:WcOk P fl wc):WcEx wc:=fun f g vs hp k hg hk=>(h f g vs hp k hg hk).1
noncomputable def noWc:WcF:=fun _=>none
theorem noWc_ok:WcOk P fl noWc:=fun f g vs h k hg=>by cases hg
noncomputable def wcOp(wc:WcF)(o:Op):Option (FuncId×(List AV→Hp→KV→Bool)×List Operand):=match o with
 | .call ⟨.value (.func f),args,_⟩=>Option.rec (motive:=fun _=>Option (FuncId×(List AV→Hp→KV→Bool)×List Operand)) none (fun g=>some (f,g,args.toList)) (wc f)
 | _=>none
theorem wcOp_ok{wc:WcF}{o:Op}{q:FuncId×(List AV→Hp→KV→Bool)×List Operand}(h:wcOp wc o=some q): ∃args ats,o = .call {callee:= .value (.func q.1),args:=args,argTypes:=ats}∧wc q.1=some q.2.1∧q.2.2=args.toList:=by
 unfold wcOp at h
 split at h
 ·rename_i f args ats
  cases e:wc f with
  | none=>rw[e] at h; cases h
  | some g=>rw[e] at h; cases h; exact⟨args,ats,rfl,e,rfl⟩
 ·cases h
noncomputable def stepW(sl:Nat)(P:Program)(fl n:Nat)(call:CallF)(wc:WcF)(o:Oper)(env:Tr AV)(h:Hp)(k:KS):Bool:=Option.rec (motive:=fun _=>Bool) (Option.rec (motive:=fun _=>Bool) (stepK P fl n call o env h k)
 (fun q=>evsK fl h env q.2.2 fun vs=>entK P q.1 (q.2.1 vs h fun v h'=>setE n o.dst v env fun env=>k .nm env h')) (wcOp wc o.op))
 (fun x=>evK fl h env x fun v=>qPtr v fun i off=>ask (Nat.beq off 0) (nextW sl fl i h fun v h=>setE n o.dst v env fun env=>k .nm env h)) (mapNx o.op)
noncomputable abbrev goK(ih:Tr AV→Hp→KS→Bool)(k:KS):KS:=fun out env h=>Out.rec (motive:=fun _=>Bool) (ih env h k) (fun _=>false) false (fun v=>k (.pan v) env h) out
noncomputable def opsW(sl:Nat)(P:Program)(fl n:Nat)(call:CallF)(wc:WcF)(ops:Array Oper)(l:List Oper):Tr AV→Hp→KS→Bool:=List.rec (motive:=fun _=>Tr AV→Hp→KS→Bool) (fun env h k=>k .nm env h)
 (fun o _ ih env h k=>Option.rec (motive:=fun _=>Bool) (stepW sl P fl n call wc o env h (goK ih k)) (fun _=>opsK P fl n call ops [o] env h (goK ih k)) o.guard) l
theorem opsW_none{sl:Nat}{wc:WcF}{ops:Array Oper}{o:Oper}{rest:List Oper}{env:Tr AV}{h:Hp}{k:KS}(hg:o.guard=none)(hk:opsW sl P fl n call wc ops (o::rest) env h k=true):stepW sl P fl n call wc o env h (goK (opsW sl P fl n call wc ops rest) k)=true:=by
 have hk':Option.rec (motive:=fun _=>Bool) (stepW sl P fl n call wc o env h (goK (opsW sl P fl n call wc ops rest) k)) (fun _=>opsK P fl n call ops [o] env h (goK (opsW sl P fl n call wc ops rest) k)) o.guard=true:=hk
 rw[hg] at hk'
 exact hk'
theorem opsW_some{sl:Nat}{wc:WcF}{ops:Array Oper}{o:Oper}{rest:List Oper}{env:Tr AV}{h:Hp}{k:KS}{g:Nat×Bool}(hg:o.guard=some g)(hk:opsW sl P fl n call wc ops (o::rest) env h k=true):opsK P fl n call ops [o] env h (goK (opsW sl P fl n call wc ops rest) k)=true:=by
 have hk':Option.rec (motive:=fun _=>Bool) (stepW sl P fl n call wc o env h (goK (opsW sl P fl n call wc ops rest) k)) (fun _=>opsK P fl n call ops [o] env h (goK (opsW sl P fl n call wc ops rest) k)) o.guard=true:=hk
 rw[hg] at hk'
 exact hk'
theorem stepW_none{sl:Nat}{wc:WcF}{o:Oper}{env:Tr AV}{h:Hp}{k:KS}(hm:mapNx o.op=none)(hw:wcOp wc o.op=none)(hk:stepW sl P fl n call wc o env h k=true):stepK P fl n call o env h k=true:=by
 unfold stepW at hk
 rw[hm,hw] at hk
 exact hk
theorem stepW_call{sl:Nat}{wc:WcF}{o:Oper}{env:Tr AV}{h:Hp}{k:KS}{q:FuncId×(List AV→Hp→KV→Bool)×List Operand}(hm:mapNx o.op=none)(hw:wcOp wc o.op=some q)(hk:stepW sl P fl n call wc o env h k=true):(evsK fl h env q.2.2 fun vs=>entK P q.1 (q.2.1 vs h fun v h'=>setE n o.dst v env fun env=>k .nm env h'))=true:=by
 unfold stepW at hk
 rw[hm,hw] at hk
 exact hk
theorem stepW_some{sl:Nat}{wc:WcF}{o:Oper}{env:Tr AV}{h:Hp}{k:KS}{x:Operand}(hm:mapNx o.op=some x)(hk:stepW sl P fl n call wc o env h k=true):(evK fl h env x fun v=>qPtr v fun i off=>ask (Nat.beq off 0) (nextW sl fl i h fun v h=>setE n o.dst v env fun env=>k .nm env h))=true:=by
 unfold stepW at hk
 rw[hm] at hk
 exact hk
def OpsW(P:Program)(fl n:Nat)(ops:Array Oper)(l:List Oper)(env:Tr AV)(h:Hp)(k:KS):Prop:=∀S w0 r f w Q,f.n=n→FrOk r env f→Rel S w0 fl r h w→(∀out env' h',k out env' h'=true→Ends S w0 fl n f.ds r out env' h' Q)→RW none P ops Q l f w
theorem opsW_ok{wc:WcF}(hc:CallOk P fl call)(hwc:WcOk P fl wc){ops:Array Oper}: ∀{l:List Oper} {env:Tr AV} {h:Hp} {k:KS},opsW 0 P fl n call wc ops l env h k=true→OpsW P fl n ops l env h k
 | [],env,h,k,hk=>fun S w0 r f w Q hn hf hR hE=>RW.nil (hE .nm env h hk r f w hn rfl (Ext.refl r) hf hR)
 | o::rest,env,h,k,hk=>by
  intro S w0 r f w Q hn hf hR hE
  have val : ∀env1 h1 r1 f1 w1,opsW 0 P fl n call wc ops rest env1 h1 k=true→f1.n=n→f1.ds=f.ds→Ext r r1→FrOk r1 env1 f1→Rel S w0 fl r1 h1 w1→RW none P ops Q rest f1 w1:=fun env1 h1 r1 f1 w1 hk a b c d e=>opsW_ok hc hwc hk S w0 r1 f1 w1 Q a d e fun out env' h' hk'=>b▸(hE out env' h' hk').ext c
  cases hg:o.guard with
  | none=>
   have ho:({o with guard:=none}:Oper)=o:=by
    obtain⟨dst,op,ty,pos,af,g⟩:=o
    cases hg
    rfl
   have hk:=opsW_none hg hk
   cases hm:mapNx o.op with
   | none=>
    cases hw:wcOp wc o.op with
    | some q=>
     obtain⟨args,ats,hop,hg2,hq⟩:=wcOp_ok hw
     obtain⟨vs,hk,h3⟩:=evsK_ok (stepW_call hm hw hk)
     obtain⟨he,hk⟩:=entK_ok hk
     obtain⟨⟨v0,h0,hk0⟩,hC⟩:=hwc _ _ _ _ _ hg2 hk
     obtain⟨_,_,hd,_⟩:=setE_ok hk0
     obtain⟨us,hus,hl⟩:=h3 S w0 r f w hf hR
     refine RW.callv hg (by rw[hn]; exact hd) (g:=q.1) (xs:=us.toArray) (fun a ha=>?_) (hC S w0 r w us hR hus) fun e w' hR'=>?_
     ·have e1:args.map a.eval=us.toArray:=by apply Array.ext'; rw[←hl a ha,hq]; simp
      have e2:=fun aa=>he.out aa w
      obtain⟨dst,op,ty,pos,af,g⟩:=o
      cases hop
      simp[execOp,resolve,Act.eval,Deferred.ofValue,invoke,e1,e2]
     ·obtain⟨v,h',r',x,hk1,rfl,hx,hR2,hu⟩:=hR'
      obtain⟨env1,hk2,_,hs⟩:=setE_ok hk1
      exact val env1 h' r' _ w' hk2 ((putO_n _ _ _).1.trans hn) (putO_n _ _ _).2 hx (hs r' f x (hf.mono hx) hu) hR2
    | none=>
    rcases stepK_ok hc (stepW_none hm hw hk) with ⟨env1,h1,hk1,hs⟩|⟨v,env1,h1,hk1,hs⟩
    ·have:=hs none S w0 r f w Q ops rest hn hf hR fun r' f' w' a b c d e=>val env1 h1 r' f' w' hk1 a b c d e
     rwa [ho] at this
    ·have:=hs none S w0 r f w Q ops rest hn hf hR (hE (.pan v) env1 h1 hk1)
     rwa [ho] at this
   | some x=>
    have hop:=mapNx_ok hm
    obtain⟨v,hk,h2⟩:=evK_ok (stepW_some hm hk)
    obtain⟨i,off,rfl,hk⟩:=qPtr_ok (x:=v) hk
    obtain⟨ho0,hk⟩:=ask_ok hk
    have ho0:=Nat.eq_of_beq_eq_true ho0
    subst ho0
    obtain⟨L,next,fs,hk,hfs,hS⟩:=stepsK_ok (P:=P) (show stepsK fl i h (fun L f=>List.rec (motive:=fun _=>Bool) (setE n o.dst (.tup [.bool false]) env fun env=>goK (opsW 0 P fl n call wc ops rest) k .nm env h) (fun x t _=>allX f (fun v h=>setE n o.dst v env fun env=>goK (opsW 0 P fl n call wc ops rest) k .nm env h) (selX 0 (x::t))) L)=true from hk)
    obtain⟨u,hu,hx⟩:=h2 S w0 r f w hf hR
    obtain⟨q,hq,rfl⟩:=real_ptr hu
    have run : ∀z w',(Instr.next (.pointer (some ⟨q.1,0,none⟩)) false o.type).run P w = .ok z w'→∀a,Ag f a→(execOp a.eval o).run P w = .ok (.value z) w':=fun z w' hr a ha=>by
     have e:=ha.eval hx
     obtain⟨dst,op,ty,pos,af,g⟩:=o
     cases hop
     simp[execOp,e,hr]
    rcases hS S w0 r w q o.type hR hq with ⟨rfl,hr⟩|⟨x',hx',u,w',hu',hr,hR'⟩
    ·obtain⟨env1,hk,hd,hf'⟩:=setE_ok (show setE n o.dst (.tup [.bool false]) env (fun env=>goK (opsW 0 P fl n call wc ops rest) k .nm env h)=true from hk)
     exact RW.gen hg (by rw[hn]; exact hd) (.inl rfl) (run _ _ hr) (val env1 h r _ w hk ((putO_n _ _ _).1.trans hn) (putO_n _ _ _).2 (Ext.refl r) (hf' r f _ hf (by simp[real,reals])) hR)
    ·cases L with
     | nil=>cases hx'
     | cons y t=>
      have hkx:=hfs _ _ (allX_ok (L:=y::t) hk x' hx')
      obtain⟨env1,hk,hd,hf'⟩:=setE_ok hkx
      exact RW.gen hg (by rw[hn]; exact hd) (.inl rfl) (run _ _ hr) (val env1 (next x'.2.2) r _ w' hk ((putO_n _ _ _).1.trans hn) (putO_n _ _ _).2 (Ext.refl r) (hf' r f _ hf hu') hR')
  | some g=>
   obtain⟨out,env1,h1,hk,hO⟩:=opsK_ok hc (opsW_some hg hk)
   refine RW.app (l1:=[o]) (l2:=rest) (hO none S w0 r f w _ hn hf hR ?_)
   cases out with
   | nm=>exact fun r' f' w' a b c d e=>val env1 h1 r' f' w' hk a b c d e
   | ex i=>cases hk
   | ret=>cases hk
   | pan v=>exact fun r' f' w' a b c d e u hu=>hE (.pan v) env1 h1 hk r' f' w' a b c d e u hu
theorem opsW_ex{wc:WcF}(hc:CallOk P fl call)(hwc:WcEx wc){ops:Array Oper}{sl:Nat}: ∀{l:List Oper} {env:Tr AV} {h:Hp} {k:KS},opsW sl P fl n call wc ops l env h k=true→∃out env' h',k out env' h'=true
 | [],env,h,k,hk=>⟨.nm,env,h,hk⟩
 | o::rest,env,h,k,hk=>by
  cases hg:o.guard with
  | none=>
   have hk:=opsW_none hg hk
   cases hm:mapNx o.op with
   | none=>
    cases hw:wcOp wc o.op with
    | some q=>
     obtain⟨args,ats,hop,hg2,hq⟩:=wcOp_ok hw
     obtain⟨vs,hk,h3⟩:=evsK_ok (stepW_call hm hw hk)
     obtain⟨he,hk⟩:=entK_ok hk
     obtain⟨v0,h0,hk0⟩:=hwc _ _ _ _ _ hg2 hk
     obtain⟨env1,hk1,_,_⟩:=setE_ok hk0
     exact opsW_ex hc hwc hk1
    | none=>
    rcases stepK_ok hc (stepW_none hm hw hk) with ⟨env1,h1,hk1,hs⟩|⟨v,env1,h1,hk1,hs⟩
    ·exact opsW_ex hc hwc hk1
    ·exact⟨.pan v,env1,h1,hk1⟩
   | some x=>
    obtain⟨v,hk,h2⟩:=evK_ok (stepW_some hm hk)
    obtain⟨i,off,rfl,hk⟩:=qPtr_ok (x:=v) hk
    obtain⟨ho0,hk⟩:=ask_ok hk
    obtain⟨L,next,fs,hk,hfs,hS⟩:=stepsK_ok (P:=P) (show stepsK fl i h (fun L f=>List.rec (motive:=fun _=>Bool) (setE n o.dst (.tup [.bool false]) env fun env=>goK (opsW sl P fl n call wc ops rest) k .nm env h) (fun x t _=>allX f (fun v h=>setE n o.dst v env fun env=>goK (opsW sl P fl n call wc ops rest) k .nm env h) (selX sl (x::t))) L)=true from hk)
    cases L with
    | nil=>
     obtain⟨env1,hk,_,_⟩:=setE_ok (show setE n o.dst (.tup [.bool false]) env (fun env=>goK (opsW sl P fl n call wc ops rest) k .nm env h)=true from hk)
     exact opsW_ex hc hwc hk
    | cons y t=>
     obtain⟨z,l,e⟩:=selX_ne sl y t
     replace hk:allX fs (fun v h=>setE n o.dst v env fun env=>goK (opsW sl P fl n call wc ops rest) k .nm env h) (selX sl (y::t))=true:=hk
     rw[e] at hk
     have hkx:=hfs _ _ (allX_ok hk z (List.mem_cons_self ..))
     obtain⟨env1,hk,_,_⟩:=setE_ok hkx
     exact opsW_ex hc hwc hk
  | some g=>
   obtain⟨out,env1,h1,hk,hO⟩:=opsK_ok hc (opsW_some hg hk)
   cases out with
   | nm=>exact opsW_ex hc hwc hk
   | ex i=>cases hk
   | ret=>cases hk
   | pan v=>exact⟨.pan v,env1,h1,hk⟩
noncomputable def codeW(sl:Nat)(P:Program)(fl n m:Nat)(call:CallF)(wc:WcF)(dr:DrawF)(c:Code):Tr AV→Hp→KS→Bool:=Code.rec (motive:=fun _=>Tr AV→Hp→KS→Bool)
 (fun env h k=>k .nm env h) (fun _ ops d env h k=>ife d (dr ops env h k) (opsW sl P fl n call wc ops ops.toList env h k)) (fun _ _ ia ib env h k=>ia env h fun out env h=>onNm out ib env h k)
 (fun x _ _ ia ib env h k=>condK P fl x env h (ia env h k) (ib env h k)) (fun i _ ib env h k=>ib env h fun out env h=>onBlk i out env h k) (fun _ ib=>loopK ib m)
 (fun _ _ _ _ _ _ _ _ _=>false) (fun i env h k=>k (.ex i) env h) (fun _ _ _ _ _=>false) (fun _ _ _ _=>false) (fun _ _ _ _=>false) (fun env h k=>k .ret env h) (fun _ _ _ _=>false) c
def CodeW(P:Program)(fl n:Nat)(c:Code)(env:Tr AV)(h:Hp)(k:KS):Prop:=∀S w0 r f w Q,f.n=n→FrOk r env f→Rel S w0 fl r h w→(∀out env' h',k out env' h'=true→Ends S w0 fl n f.ds r out env' h' Q)→CW none P Q c f w
def DrawWk(P:Program)(fl n:Nat)(G:Array Oper→Prop)(dr:DrawF):Prop:=∀ops env h k,G ops→dr ops env h k=true→(∃out env' h',k out env' h'=true)∧∀id,CodeW P fl n (.region id ops true) env h k
def DrawEx(G:Array Oper→Prop)(dr:DrawF):Prop:=∀ops env h k,G ops→dr ops env h k=true→∃out env' h',k out env' h'=true
theorem DrawWk.ex{G:Array Oper→Prop}{dr:DrawF}(h:DrawWk P fl n G dr):DrawEx G dr:=fun ops env hp k hG hk=>(h ops env hp k hG hk).1
theorem DrawWk.of{G:Array Oper→Prop}{dr:DrawF}(hdr:DrawOk P fl n G dr):DrawWk P fl n G dr:=fun ops env h k hG hk=>by
 obtain⟨out,env',h',hk,hO⟩:=hdr ops env h k hG hk
 exact⟨⟨out,env',h',hk⟩,fun id S w0 r f w Q hn hf hR hE=>hO id none rfl S w0 r f w Q hn hf hR (hE out env' h' hk)⟩
theorem codeW_ok{wc:WcF}{dr:DrawF}{m:Nat}{G:Array Oper→Prop}(hc:CallOk P fl call)(hwc:WcOk P fl wc)(hdr:DrawWk P fl n G dr)(c:Code):Regs G c→∀(env:Tr AV) (h:Hp) (k:KS),codeW 0 P fl n m call wc dr c env h k=true→CodeW P fl n c env h k:=by
 induction c with
 | skip=>exact fun _ env h k hk S w0 r f w Q hn hf hR hE=>CL.one (CL.skip (cl_nil (hE .nm env h hk r f w hn rfl (Ext.refl r) hf hR)))
 | region id ops d=>
  intro hG env h k hk S w0 r f w Q hn hf hR hE
  rcases ife_ok hk with ⟨rfl,hk⟩|⟨rfl,hk⟩
  ·exact(hdr ops env h k hG hk).2 id S w0 r f w Q hn hf hR hE
  ·have:=CL.one (P:=P) (Q:=Q) (f:=f) (w:=w) (CL.region (id:=id) (l:=ops.toList) (cs:=[]) (by
    refine opsW_ok hc hwc hk S w0 r f w _ hn hf hR fun out env' h' hk' r' f' w' a b c d e=>?_
    have:=hE out env' h' hk' r' f' w' a b c d e
    cases out <;> exact this))
   simpa using this
 | seq a b iha ihb=>
  intro hG env h k hk S w0 r f w Q hn hf hR hE
  refine CL.one (CL.seq (iha hG.1 env h _ hk S w0 r f w _ hn hf hR fun out env1 h1 hk1 r1 f1 w1 q1 q2 q3 q4 q5=>?_))
  cases out with
  | nm=>exact CL_of_CW (ihb hG.2 env1 h1 k hk1 S w0 r1 f1 w1 Q q1 q4 q5 fun out env' h' hk2=>q2▸(hE out env' h' hk2).ext q3)
  | ex i=>exact hE (.ex i) env1 h1 hk1 r1 f1 w1 q1 q2 q3 q4 q5
  | ret=>exact hE .ret env1 h1 hk1 r1 f1 w1 q1 q2 q3 q4 q5
  | pan v=>exact hE (.pan v) env1 h1 hk1 r1 f1 w1 q1 q2 q3 q4 q5
 | cond x a b iha ihb=>
  intro hG env h k hk S w0 r f w Q hn hf hR hE
  obtain⟨v,hk,h2⟩:=evK_ok (show evK fl h env x (fun v=>qBool v fun c=>ife c (codeW 0 P fl n m call wc dr a env h k) (codeW 0 P fl n m call wc dr b env h k))=true from hk)
  obtain⟨c,rfl,hk⟩:=qBool_ok (x:=v) hk
  obtain⟨u,hu,hx⟩:=h2 S w0 r f w hf hR
  have:=real_bool hu; subst this
  rcases ife_ok hk with ⟨rfl,hk⟩|⟨rfl,hk⟩
  ·exact CL.one (CL.condT hx (CL_of_CW (iha hG.1 env h k hk S w0 r f w Q hn hf hR hE)))
  ·exact CL.one (CL.condF hx (CL_of_CW (ihb hG.2 env h k hk S w0 r f w Q hn hf hR hE)))
 | block i b ihb=>
  intro hG env h k hk S w0 r f w Q hn hf hR hE
  refine CL.one (CL.block (CL_of_CW (ihb hG env h _ hk S w0 r f w _ hn hf hR fun out env' h' hk' r' f' w' q1 q2 q3 q4 q5=>?_)))
  cases out with
  | nm=>exact hE .nm env' h' hk' r' f' w' q1 q2 q3 q4 q5
  | ex j=>
   show blockQ i _ Q (.exit j) f' w'
   rcases ife_ok hk' with ⟨hj,hk2⟩|⟨hj,hk2⟩
   ·simp only[blockQ,hj]
    exact hE .nm env' h' hk2 r' f' w' q1 q2 q3 q4 q5
   ·simp only[blockQ,hj]
    exact hE (.ex j) env' h' hk2 r' f' w' q1 q2 q3 q4 q5
  | ret=>exact hE .ret env' h' hk' r' f' w' q1 q2 q3 q4 q5
  | pan v=>exact hE (.pan v) env' h' hk' r' f' w' q1 q2 q3 q4 q5
 | loop b ihb=>
  intro hG env h k hk S w0 r f w Q hn hf hR hE
  refine CL.one (CL.loop (fun m1 f1 w1=>∃env h r1,loopK (codeW 0 P fl n m call wc dr b) m1 env h k=true∧f1.n=n∧f1.ds=f.ds∧Ext r r1∧FrOk r1 env f1∧Rel S w0 fl r1 h w1) m ⟨env,h,r,hk,hn,rfl,Ext.refl r,hf,hR⟩ fun m1 f1 w1 hI=>?_)
  obtain⟨env1,h1,r1,hk1,hn1,hd1,hx1,hf1,hR1⟩:=hI
  cases m1 with
  | zero=>cases hk1
  | succ m1=>
   refine CL_of_CW (ihb hG env1 h1 _ hk1 S w0 r1 f1 w1 _ hn1 hf1 hR1 fun out env' h' hk' r2 f2 w2 q1 q2 q3 q4 q5=>?_)
   cases out with
   | nm=>exact⟨m1,Nat.lt_succ_self _,env',h',r2,hk',q1,q2.trans hd1,hx1.trans q3,q4,q5⟩
   | ex i=>exact hE (.ex i) env' h' hk' r2 f2 w2 q1 (q2.trans hd1) (hx1.trans q3) q4 q5
   | ret=>exact hE .ret env' h' hk' r2 f2 w2 q1 (q2.trans hd1) (hx1.trans q3) q4 q5
   | pan v=>exact hE (.pan v) env' h' hk' r2 f2 w2 q1 (q2.trans hd1) (hx1.trans q3) q4 q5
 | exit i=>exact fun _ env h k hk S w0 r f w Q hn hf hR hE=>CL.one (CL.exit (hE (.ex i) env h hk r f w hn rfl (Ext.refl r) hf hR))
 | ret=>exact fun _ env h k hk S w0 r f w Q hn hf hR hE=>CL.one (CL.ret (hE .ret env h hk r f w hn rfl (Ext.refl r) hf hR))
 | _=>intro _ env h k hk; cases hk
theorem loopW_ex{body:Tr AV→Hp→KS→Bool}(hb : ∀env h k,body env h k=true→∃out env' h',k out env' h'=true): ∀(m:Nat) (env:Tr AV) (h:Hp) (k:KS),loopK body m env h k=true→∃out env' h',k out env' h'=true
 | 0,env,h,k,hk=>by cases hk
 | m+1,env,h,k,hk=>by
  obtain⟨out,env1,h1,hk⟩:=hb env h _ hk
  cases out with
  | nm=>exact loopW_ex hb m env1 h1 k hk
  | ex i=>exact⟨_,_,_,hk⟩
  | ret=>exact⟨_,_,_,hk⟩
  | pan v=>exact⟨_,_,_,hk⟩
theorem codeW_ex{wc:WcF}{dr:DrawF}{m sl:Nat}{G:Array Oper→Prop}(hc:CallOk P fl call)(hwc:WcEx wc)(hdr:DrawEx G dr)(c:Code):Regs G c→∀(env:Tr AV) (h:Hp) (k:KS),codeW sl P fl n m call wc dr c env h k=true→∃out env' h',k out env' h'=true:=by
 induction c with
 | skip=>exact fun _ env h k hk=>⟨_,_,_,hk⟩
 | region id ops d=>
  intro hG env h k hk
  rcases ife_ok hk with ⟨rfl,hk⟩|⟨rfl,hk⟩
  ·exact hdr ops env h k hG hk
  ·exact opsW_ex hc hwc hk
 | seq a b iha ihb=>
  intro hG env h k hk
  obtain⟨out,env1,h1,hk⟩:=iha hG.1 env h _ hk
  cases out with
  | nm=>exact ihb hG.2 env1 h1 k hk
  | ex i=>exact⟨_,_,_,hk⟩
  | ret=>exact⟨_,_,_,hk⟩
  | pan v=>exact⟨_,_,_,hk⟩
 | cond x a b iha ihb=>
  intro hG env h k hk
  obtain⟨v,hk,h2⟩:=evK_ok (show evK fl h env x (fun v=>qBool v fun c=>ife c (codeW sl P fl n m call wc dr a env h k) (codeW sl P fl n m call wc dr b env h k))=true from hk)
  obtain⟨c,rfl,hk⟩:=qBool_ok (x:=v) hk
  rcases ife_ok hk with ⟨rfl,hk⟩|⟨rfl,hk⟩
  ·exact iha hG.1 env h k hk
  ·exact ihb hG.2 env h k hk
 | block i b ihb=>
  intro hG env h k hk
  obtain⟨out,env',h',hk⟩:=ihb hG env h _ hk
  cases out with
  | nm=>exact⟨_,_,_,hk⟩
  | ex j=>rcases ife_ok hk with ⟨_,hk2⟩|⟨_,hk2⟩ <;> exact⟨_,_,_,hk2⟩
  | ret=>exact⟨_,_,_,hk⟩
  | pan v=>exact⟨_,_,_,hk⟩
 | loop b ihb=>exact fun hG env h k hk=>loopW_ex (ihb hG) m env h k hk
 | exit i=>exact fun _ env h k hk=>⟨_,_,_,hk⟩
 | ret=>exact fun _ env h k hk=>⟨_,_,_,hk⟩
 | _=>intro _ env h k hk; cases hk
end
end Go.Proofs.YtbhbdeelpopgoaaGreatDoor.E

set_option linter.constructorNameAsVariable false
namespace Go.Proofs.YtbhbdeelpopgoaaGreatDoor.E
open Go Go.RowKit H
section
variable {P : Program} {fl n : Nat}
noncomputable def bodyW(sl:Nat)(P:Program)(fl m:Nat)(wc:WcF)(dr:Nat→CallF→DrawF)(call:CallF)(f:FuncId)(vs:List AV)(h:Hp)(k:AV→Hp→Bool):Bool:=fnK P f fun fn=>someK fn.body fun c=>lenK vs fun l=>ask (Nat.ble l fn.ntmps) (ask (Nat.ble l 4096) (argsK vs 0 .e fun env=>codeW sl P fl fn.ntmps m call wc (dr fn.ntmps call) c env h (endK P fl fn k fun _ _=>false)))
theorem endK_ok{fn:Func}{k:KV}{out:Out}{env:Tr AV}{h:Hp}(hk:endK P fl fn k (fun _ _=>false) out env h=true):
  (out = .nm∨out = .ret)∧∃v,k v h=true∧∀S w0 r f w,FrOk r env f→Rel S w0 fl r h w→∃x,real r v=some x∧∀a,Ag f a→(results fn a.tmps).run P w = .ok x w:=by
 cases out with
 | nm=>exact⟨.inl rfl,finK_ok hk⟩
 | ex i=>cases hk
 | ret=>exact⟨.inr rfl,finK_ok hk⟩
 | pan v=>cases hk
theorem bodyW_ok{m:Nat}{wc:WcF}{dr:Nat→CallF→DrawF}{call:CallF}{G:Array Oper→Prop}(hc:CallOk P fl call)(hwc:WcOk P fl wc)(hdr : ∀n call,CallOk P fl call→DrawWk P fl n G (dr n call)){f:FuncId}(hG : ∀fn c,P.funcs[f]?=some fn→fn.body=some c→Regs G c){vs:List AV}{h:Hp}{k:AV→Hp→Bool}(hk:bodyW 0 P fl m wc dr call f vs h k=true):
  ∀S w0 r w xs,Rel S w0 fl r h w→reals r vs=some xs→Calls P f xs.toArray w fun e w'=>∃v h' r' x,k v h'=true∧e = .returned x∧Ext r r'∧Rel S w0 fl r' h' w'∧real r' v=some x:=by
 obtain⟨fn,hf,hk⟩:=fnK_ok hk
 obtain⟨c,hb,hk⟩:=someK_ok hk
 rw[lenK_eq] at hk
 obtain⟨hl,hk⟩:=ask_ok hk
 obtain⟨hl2,hk⟩:=ask_ok hk
 obtain⟨env,hk,he⟩:=argsK_ok hk (by have:=ble_le hl2; omega)
 have hC:=codeW_ok hc hwc (hdr fn.ntmps call hc) c (hG fn c hf hb) env h _ hk
 intro S w0 r w xs hR hxs
 refine enter hf rfl hb (by rw[reals_len hxs]; exact hl) (CL_of_CW (hC S w0 r _ w _ rfl (fun t v ht hv=>?_) hR fun out env' h' hk' r' f' w' hn hd hx hf' hR'=>?_))
 ·rw[he t ht] at hv
  by_cases q:0≤t∧t < 0+vs.length
  ·rw[if_pos q,Nat.sub_zero] at hv
   obtain⟨u,hu,hr⟩:=reals_at hxs hv
   exact⟨u,hr,by rw[look_args' xs 0 t (Nat.zero_le _),Nat.sub_zero]; exact hu⟩
  ·rw[if_neg q,Tr.get_e] at hv; cases hv
 ·obtain⟨ho,v,hkv,h2⟩:=endK_ok hk'
  obtain⟨x,hxv,hr⟩:=h2 S w0 r' f' w' hf' hR'
  have q:f'.ds=[]∧∃v0,(∀a,Ag f' a→(results fn a.tmps).run P w' = .ok v0 w')∧∃v h' r'' x,k v h'=true∧Ending.returned v0 = .returned x∧Ext r r''∧Rel S w0 fl r'' h' w'∧real r'' v=some x:=⟨hd,x,hr,v,h',r',x,hkv,rfl,hx,hR',hxv⟩
  rcases ho with rfl|rfl <;> exact q
theorem bodyW_ex{m sl:Nat}{wc:WcF}{dr:Nat→CallF→DrawF}{call:CallF}{G:Array Oper→Prop}(hc:CallOk P fl call)(hwc:WcEx wc)(hdr : ∀n call,CallOk P fl call→DrawEx G (dr n call)){f:FuncId}(hG : ∀fn c,P.funcs[f]?=some fn→fn.body=some c→Regs G c){vs:List AV}{h:Hp}{k:AV→Hp→Bool}(hk:bodyW sl P fl m wc dr call f vs h k=true): ∃v h',k v h'=true:=by
 obtain⟨fn,hf,hk⟩:=fnK_ok hk
 obtain⟨c,hb,hk⟩:=someK_ok hk
 rw[lenK_eq] at hk
 obtain⟨hl,hk⟩:=ask_ok hk
 obtain⟨hl2,hk⟩:=ask_ok hk
 obtain⟨env,hk,he⟩:=argsK_ok hk (by have:=ble_le hl2; omega)
 obtain⟨out,env',h',hk'⟩:=codeW_ex hc hwc (hdr fn.ntmps call hc) c (hG fn c hf hb) env h _ hk
 obtain⟨_,v,hkv,_⟩:=endK_ok hk'
 exact⟨v,h',hkv⟩
mutual
def flatA:AV→Bool
 | .bool _=>true
 | .int _ _=>true
 | .str _=>true
 | .nilp=>true
 | .nils=>true
 | .nilm=>true
 | .nilf=>true
 | .nili=>true
 | .ifc _ v=>flatA v
 | .agg l=>flats l
 | .tup l=>flats l
 | _=>false
def flats:List AV→Bool
 | []=>true
 | v::l=>flatA v && flats l
end
mutual
theorem flat_real{r r':Ren}: ∀(v:AV) (u:Value),flatA v=true→real r v=some u→real r' v=some u
 | .und,_,h,_=>by cases h
 | .bool _,_,_,e=>e
 | .int _ _,_,_,e=>e
 | .str _,_,_,e=>e
 | .nilp,_,_,e=>e
 | .ptr _ _,_,h,_=>by cases h
 | .nils,_,_,e=>e
 | .sl _ _ _ _,_,h,_=>by cases h
 | .slx _ _ _ _,_,h,_=>by cases h
 | .sly _ _ _ _,_,h,_=>by cases h
 | .nilm,_,_,e=>e
 | .map _,_,h,_=>by cases h
 | .nilf,_,_,e=>e
 | .fn _ _ _,_,h,_=>by cases h
 | .nili,_,_,e=>e
 | .ifc t v,u,h,e=>by
  simp only[real,Option.map_eq_some_iff] at e ⊢
  obtain⟨x,hx,e⟩:=e
  exact⟨x,flat_real v x (by simpa only[flatA] using h) hx,e⟩
 | .agg l,u,h,e=>by
  simp only[real,Option.map_eq_some_iff] at e ⊢
  obtain⟨x,hx,e⟩:=e
  exact⟨x,flats_real l x (by simpa only[flatA] using h) hx,e⟩
 | .tup l,u,h,e=>by
  simp only[real,Option.map_eq_some_iff] at e ⊢
  obtain⟨x,hx,e⟩:=e
  exact⟨x,flats_real l x (by simpa only[flatA] using h) hx,e⟩
 | .sym _ _ _ _,_,h,_=>by cases h
 | .opq _ _ _ _ _,_,h,_=>by cases h
theorem flats_real{r r':Ren}: ∀(l:List AV) (us:List Value),flats l=true→reals r l=some us→reals r' l=some us
 | [],_,_,e=>by simpa only[reals] using e
 | v::l,us,h,e=>by
  rw[flats,Bool.and_eq_true] at h
  obtain⟨u,t,hu,ht,rfl⟩:=reals_cons.1 e
  exact reals_cons.2 ⟨u,t,flat_real v u h.1 hu,flats_real l t h.2 ht,rfl⟩
end
section
variable {S : Nat → Prop} {w0 : World} {r r' : Ren} {h h' : Hp} {w w' : World}
theorem Rel.floor(H:Rel S w0 fl r h w):Rel (fun _=>False) w h.next r h w:=
 ⟨H.live,H.inj,H.fresh,H.lim,H.glob,(fun i p hi hp=>by rw[H.fresh i hi] at hp; cases hp),H.dom,Kept.refl _ _,⟨Nat.le_refl _,H.base.2⟩,H.hol,H.full,H.top⟩
theorem Rel.join(H:Rel S w0 fl r h w)(H':Rel (fun _=>False) w h.next r' h' w')(hx:Ext r r'){l:List (Nat×Blk)}(hl : ∀x∈l,h.next≤x.1∧x.1 < h'.next∧h'.at x.1=some x.2){g:Hp}(hn:g.next=h'.next)
  (hg : ∀i b,i < LIM→g.at i=some b→h.at i=some b∨(i,b)∈l):Rel S w0 fl r' g w':=by
 have hlim:=H'.lim
 have hb1:h.next≤h'.next:=H'.base.1
 have two : ∀i b p,i < LIM→g.at i=some b→r' i=some p→(i < h.next∧h.at i=some b∧r i=some p∧p.1 < w.heap.size)∨(h.next≤i∧i < h'.next∧h'.at i=some b∧w.heap.size≤p.1):=fun i b p hi hb hp=>by
  rcases hg i b hi hb with hb|hb
  ·rcases Nat.lt_or_ge i h.next with c|c
   ·obtain⟨p0,hp0,_⟩:=H.live i b c hb
    have:=hx.v i p0 hp0
    rw[hp] at this; cases this
    exact .inl ⟨c,hb,hp0,H.dom i p hp0⟩
   ·rw[H.top i c hi] at hb; cases hb
  ·obtain⟨h1,h2,h3⟩:=hl _ hb
   rcases H'.may i p h1 hp with c|c
   ·exact c.elim
   ·exact .inr ⟨h1,h2,h3,c⟩
 refine⟨fun i b hi hb=>?_,fun i j b c p q hi hj hb hc hp hq e=>?_,fun i hi=>?_,by rw[hn]; exact H'.lim,H'.glob,fun i p hi hp=>?_,H'.dom,H.kept.trans0 H'.kept,by rw[hn]; exact⟨Nat.le_trans H.base.1 hb1,H'.base.2⟩,fun i hi=>?_,fun i hi=>?_,fun i hi hL=>?_⟩
 ·rw[hn] at hi
  rcases hg i b (by omega) hb with hb|hb
  ·rcases Nat.lt_or_ge i h.next with c|c
   ·obtain⟨p,hp,hB⟩:=H.live i b c hb
    exact⟨p,hx.v i p hp,(hB.of (H'.kept.block _ (H.dom i p hp) fun c=>c)).mono hx⟩
   ·rw[H.top i c (by omega)] at hb; cases hb
  ·exact H'.live i b hi (hl _ hb).2.2
 ·rw[hn] at hi hj
  rcases two i b p (by omega) hb hp with ⟨a1,a2,a3,a4⟩|⟨a1,a2,a3,a4⟩
  ·rcases two j c q (by omega) hc hq with ⟨c1,c2,c3,c4⟩|⟨c1,c2,c3,c4⟩
   ·exact H.inj i j b c p q a1 c1 a2 c2 a3 c3 e
   ·omega
  ·rcases two j c q (by omega) hc hq with ⟨c1,c2,c3,c4⟩|⟨c1,c2,c3,c4⟩
   ·omega
   ·exact H'.inj i j b c p q a2 c2 a3 c3 hp hq e
 ·rw[hn] at hi
  exact H'.fresh i hi
 ·rcases Nat.lt_or_ge i h.next with c|c
  ·rcases H.full i c with q|⟨p0,hp0⟩
   ·have:=(H'.hol i (hx.h i q)).1
    rw[this] at hp; cases hp
   ·have:=hx.v i p0 hp0
    rw[hp] at this; cases this
    exact H.may i p hi hp0
  ·rcases H'.may i p c hp with q|q
   ·exact q.elim
   ·exact .inr (Nat.le_trans H.kept.size q)
 ·rw[hn]; exact H'.hol i hi
 ·rw[hn] at hi; exact H'.full i hi
 ·rw[hn] at hi
  cases e:g.at i with
  | none=>rfl
  | some b=>
   rcases hg i b hL e with q|q
   ·rw[H.top i (by omega) hL] at q; cases q
   ·have:=(hl _ q).2.1
    have:i < h'.next:=this
    omega
end
noncomputable def pureV(P:Program)(m:Nat)(dr:Nat→Nat→CallF→DrawF)(callF:Nat→CallF)(f:FuncId):Prim:=fun _ vs h kr _=>Hp.rec (motive:=fun _=>Bool) (fun nx t=>
 bodyW 1 P nx m noWc (dr nx) (callF nx) f vs ⟨nx,t⟩ fun v1 _=>ask (flatA v1) (ask (bodyW 0 P nx m noWc (dr nx) (callF nx) f vs ⟨nx,t⟩ fun v _=>avEq v v1) (kr v1 ⟨nx,t⟩))) h
theorem pureV_ok{m:Nat}{dr:Nat→Nat→CallF→DrawF}{callF:Nat→CallF}{G:Array Oper→Prop}(hc : ∀fl,CallOk P fl (callF fl))(hdr : ∀fl n call,CallOk P fl call→DrawOk P fl n G (dr fl n call))(hG:AllRegs P G)(fl:Nat)(f:FuncId):Pr1 P fl f (pureV P m dr callF f):=by
 intro call _ g vs h kr kp hk
 rcases ife_ok hk with ⟨hb,hk2⟩|⟨_,hk2⟩
 ·have e:=Nat.eq_of_beq_eq_true hb
  subst e
  cases h with
  | mk nx t=>
   obtain⟨v1,h1,hk3⟩:=bodyW_ex (hc nx) (noWc_ok (P:=P) (fl:=nx)).ex (fun n call h=>(DrawWk.of (hdr nx n call h)).ex) (hG _) (show bodyW 1 P nx m noWc (dr nx) (callF nx) _ vs ⟨nx,t⟩ _=true from hk2)
   obtain⟨hfl,hk3⟩:=ask_ok hk3
   obtain⟨hW,hkr⟩:=ask_ok hk3
   refine .inl ⟨v1,_,hkr,fun S w0 r w xs hR hxs=>(bodyW_ok (hc nx) noWc_ok (fun n call h=> .of (hdr nx n call h)) (hG _) hW _ _ r w xs hR.floor hxs).mono ?_⟩
   rintro e w' ⟨v,h',r',x,hv,rfl,hx,hR',hxv⟩
   have:=avEq_ok _ _ hv
   subst this
   exact⟨r,x,rfl,Ext.refl r,hR.same hR'.kept,flat_real _ _ hfl hxv⟩
 ·cases hk2
noncomputable def bEq(a b:Bool):Bool:=ifeV a b (not b)
theorem bEq_ok{a b:Bool}(h:bEq a b=true):a=b:=by cases a <;> cases b <;> first|rfl|cases h
noncomputable def blkEq(a:Blk):Blk→Bool:=Blk.rec (motive:=fun _=>Blk→Bool)
 (fun ty o r cs b=>Blk.rec (motive:=fun _=>Bool) (fun ty' o' r' cs'=>ifeV (Nat.beq ty ty') (ifeV (bEq o o') (ifeV (bEq r r') (avEq (.agg cs) (.agg cs')) false) false) false) (fun _ _ _ _=>false) (fun _ _=>false) (fun _ _ _ _=>false) false (fun _ _=>false) (fun _=>false) b)
 (fun ks vs bs ck b=>Blk.rec (motive:=fun _=>Bool) (fun _ _ _ _=>false) (fun ks' vs' bs' ck'=>ifeV (Nat.beq ck ck') (ifeV (sEq bs bs') (ifeV (avEq (.agg ks) (.agg ks')) (avEq (.agg vs) (.agg vs')) false) false) false) (fun _ _=>false) (fun _ _ _ _=>false) false (fun _ _=>false) (fun _=>false) b)
 (fun _ _ _=>false) (fun _ _ _ _ _=>false) (fun b=>Blk.rec (motive:=fun _=>Bool) (fun _ _ _ _=>false) (fun _ _ _ _=>false) (fun _ _=>false) (fun _ _ _ _=>false) true (fun _ _=>false) (fun _=>false) b) (fun _ _ _=>false) (fun _ _=>false) a
theorem blkEq_ok{a b:Blk}(h:blkEq a b=true):a=b:=by
 cases a with
 | cells ty o r cs=>
  cases b with
  | cells ty' o' r' cs'=>
   obtain⟨h1,h⟩:=and_ok h
   obtain⟨h2,h⟩:=and_ok h
   obtain⟨h3,h⟩:=and_ok h
   have:=avEq_ok _ _ h
   injection this with this
   rw[Nat.eq_of_beq_eq_true h1,bEq_ok h2,bEq_ok h3,this]
  | _=>cases h
 | mp ks vs bs ck=>
  cases b with
  | mp ks' vs' bs' ck'=>
   obtain⟨h1,h⟩:=and_ok h
   obtain⟨h2,h⟩:=and_ok h
   obtain⟨h3,h⟩:=and_ok h
   have e1:=avEq_ok _ _ h3
   have e2:=avEq_ok _ _ h
   injection e1 with e1
   injection e2 with e2
   rw[Nat.eq_of_beq_eq_true h1,sEq_ok h2,e1,e2]
  | _=>cases h
 | ints=>cases b <;> first|rfl|cases h
 | _=>cases h
noncomputable def optAt(h:Hp)(i:Nat)(n:Bool)(k:Blk→Bool):Bool:=Hp.rec (motive:=fun _=>Bool) (fun _ t=>Tr.getK (bits i) t fun o=>optK o n k) h
theorem optAt_ok{h:Hp}{i:Nat}{n:Bool}{k:Blk→Bool}(hk:optAt h i n k=true):n=true∨∃b,k b=true:=by
 cases h with
 | mk nx t=>
  replace hk:Tr.getK (bits i) t (fun o=>optK o n k)=true:=hk
  rw[Tr.getK_eq] at hk
  cases e:Tr.get (bits i) t with
  | none=>rw[e] at hk; exact .inl hk
  | some b=>rw[e] at hk; exact .inr ⟨b,hk⟩
noncomputable def gath(h1 h2:Hp)(cnt:Nat):Nat→(List (Nat×Blk)→Bool)→Bool:=Nat.rec (motive:=fun _=>Nat→(List (Nat×Blk)→Bool)→Bool) (fun _ k=>k [])
 (fun _ ih i k=>natK (Nat.succ i) fun j=>ih j fun l=>optAt h1 i (k l) fun b=>optAt h2 i (k l) fun b'=>ife (blkEq b b') (k ((i,b)::l)) (k l)) cnt
theorem gath_ex{h1 h2:Hp}: ∀{cnt i:Nat} {k:List (Nat×Blk)→Bool},gath h1 h2 cnt i k=true→∃l,k l=true
 | 0,i,k,hk=>⟨[],hk⟩
 | cnt+1,i,k,hk=>by
  replace hk:natK (Nat.succ i) (fun j=>gath h1 h2 cnt j fun l=>optAt h1 i (k l) fun b=>optAt h2 i (k l) fun b'=>ife (blkEq b b') (k ((i,b)::l)) (k l))=true:=hk
  rw[natK_eq] at hk
  obtain⟨l,hk⟩:=gath_ex hk
  rcases optAt_ok hk with hk|⟨b,hk⟩
  ·exact⟨l,hk⟩
  rcases optAt_ok hk with hk|⟨b',hk⟩
  ·exact⟨l,hk⟩
  rcases ife_ok hk with ⟨_,hk⟩|⟨_,hk⟩ <;> exact⟨_,hk⟩
noncomputable def agr(h:Hp)(l:List (Nat×Blk)):Bool:=List.rec (motive:=fun _=>Bool) true (fun x _ ih=>ask (atK h x.1 fun b=>blkEq b x.2) ih) l
theorem agr_ok{h:Hp}: ∀{l:List (Nat×Blk)},agr h l=true→∀x∈l,h.at x.1=some x.2
 | [],_,x,hx=>by cases hx
 | y::l,hk,x,hx=>by
  obtain⟨h1,h2⟩:=ask_ok hk
  rcases List.mem_cons.1 hx with rfl|hx
  ·obtain⟨b,hb,e⟩:=atK_ok h1
   rw[hb,blkEq_ok e]
  ·exact agr_ok h2 x hx
noncomputable def rngB(a b:Nat)(l:List (Nat×Blk)):Bool:=List.rec (motive:=fun _=>Bool) true (fun x _ ih=>ask (Nat.ble a x.1) (ask (Nat.blt x.1 b) ih)) l
theorem rngB_ok{a b:Nat}: ∀{l:List (Nat×Blk)},rngB a b l=true→∀x∈l,a≤x.1∧x.1 < b
 | [],_,x,hx=>by cases hx
 | y::l,hk,x,hx=>by
  obtain⟨h1,h2⟩:=ask_ok hk
  obtain⟨h2,h3⟩:=ask_ok h2
  rcases List.mem_cons.1 hx with rfl|hx
  ·exact⟨ble_le h1,blt_lt h2⟩
  ·exact rngB_ok h3 x hx
noncomputable def putsH(l:List (Nat×Blk)):Hp→(Hp→Bool)→Bool:=List.rec (motive:=fun _=>Hp→(Hp→Bool)→Bool) (fun h k=>k h) (fun x _ ih h k=>putH h x.1 x.2 fun h=>ih h k) l
theorem putsH_ok: ∀{l:List (Nat×Blk)} {h:Hp} {k:Hp→Bool},(∀x∈l,x.1 < LIM)→putsH l h k=true→∃g,k g=true∧g.next=h.next∧∀i b,i < LIM→g.at i=some b→h.at i=some b∨(i,b)∈l
 | [],h,k,_,hk=>⟨h,hk,rfl,fun i b _ hb=> .inl hb⟩
 | x::l,h,k,hl,hk=>by
  replace hk:putH h x.1 x.2 (fun h=>putsH l h k)=true:=hk
  rw[putH_eq] at hk
  obtain⟨g,hk,hn,hg⟩:=putsH_ok (fun y hy=>hl y (List.mem_cons_of_mem _ hy)) hk
  refine⟨g,hk,hn,fun i b hi hb=>?_⟩
  rcases hg i b hi hb with q|q
  ·rw[Hp.at_put (hl x (List.mem_cons_self ..)) hi] at q
   by_cases e:x.1=i
   ·rw[if_pos e] at q
    cases q
    exact .inr (by rw[←e]; exact List.mem_cons_self ..)
   ·rw[if_neg e] at q
    exact .inl q
  ·exact .inr (List.mem_cons_of_mem _ q)
noncomputable def pureS(P:Program)(m:Nat)(dr:Nat→Nat→CallF→DrawF)(callF:Nat→CallF)(f:FuncId):Prim:=fun _ vs h kr _=>Hp.rec (motive:=fun _=>Bool) (fun nx t=>
 bodyW 1 P nx m noWc (dr nx) (callF nx) f vs ⟨nx,t⟩ fun v1 h1=>bodyW 2 P nx m noWc (dr nx) (callF nx) f vs ⟨nx,t⟩ fun _ h2=>Hp.rec (motive:=fun _=>Bool) (fun n1 t1=>ask (Nat.ble n1 LIM) (gath ⟨n1,t1⟩ h2 (Nat.sub n1 nx) nx fun l=>ask (rngB nx n1 l)
  (ask (bodyW 0 P nx m noWc (dr nx) (callF nx) f vs ⟨nx,t⟩ fun v h'=>ask (avEq v v1) (Hp.rec (motive:=fun _=>Bool) (fun n' t'=>ask (Nat.beq n' n1) (agr ⟨n',t'⟩ l)) h')) (putsH l ⟨n1,t⟩ fun g=>kr v1 g)))) h1) h
theorem pureS_ok{m:Nat}{dr:Nat→Nat→CallF→DrawF}{callF:Nat→CallF}{G:Array Oper→Prop}(hc : ∀fl,CallOk P fl (callF fl))(hdr : ∀fl n call,CallOk P fl call→DrawOk P fl n G (dr fl n call))(hG:AllRegs P G)(fl:Nat)(f:FuncId):Pr1 P fl f (pureS P m dr callF f):=by
 intro call _ g vs h kr kp hk
 rcases ife_ok hk with ⟨hb,hk2⟩|⟨_,hk2⟩
 ·have e:=Nat.eq_of_beq_eq_true hb
  subst e
  cases h with
  | mk nx t=>
   obtain⟨v1,h1,hk3⟩:=bodyW_ex (hc nx) (noWc_ok (P:=P) (fl:=nx)).ex (fun n call h=>(DrawWk.of (hdr nx n call h)).ex) (hG _) (show bodyW 1 P nx m noWc (dr nx) (callF nx) _ vs ⟨nx,t⟩ _=true from hk2)
   obtain⟨v2,h2,hk3⟩:=bodyW_ex (hc nx) (noWc_ok (P:=P) (fl:=nx)).ex (fun n call h=>(DrawWk.of (hdr nx n call h)).ex) (hG _) hk3
   cases h1 with
   | mk n1 t1=>
    obtain⟨hlim,hk3⟩:=ask_ok hk3
    have hlim:=ble_le hlim
    obtain⟨l,hk3⟩:=gath_ex hk3
    obtain⟨hrg,hk3⟩:=ask_ok hk3
    obtain⟨hW,hk3⟩:=ask_ok hk3
    have hrg:=rngB_ok hrg
    obtain⟨q,hkr,hqn,hq⟩:=putsH_ok (fun x hx=>Nat.lt_of_lt_of_le (hrg x hx).2 hlim) hk3
    refine .inl ⟨v1,q,hkr,fun S w0 r w xs hR hxs=>(bodyW_ok (hc nx) noWc_ok (fun n call h=> .of (hdr nx n call h)) (hG _) hW _ _ r w xs hR.floor hxs).mono ?_⟩
    rintro e w' ⟨v,h',r',x,hv,rfl,hx,hR',hxv⟩
    obtain⟨hv,hv2⟩:=ask_ok hv
    have:=avEq_ok _ _ hv
    subst this
    cases h' with
    | mk n' t'=>
     obtain⟨hn',ha⟩:=ask_ok hv2
     have hn':=Nat.eq_of_beq_eq_true hn'
     subst hn'
     have ha:=agr_ok ha
     exact⟨r',x,rfl,hx,hR.join hR' hx (fun y hy=>⟨(hrg y hy).1,(hrg y hy).2,ha y hy⟩) hqn hq,hxv⟩
 ·cases hk2
end
end Go.Proofs.YtbhbdeelpopgoaaGreatDoor.E

set_option maxRecDepth 100000
namespace Go.Proofs.YtbhbdeelpopgoaaGreatDoor.H
instance iU3:Und Tryz.prog 3 (.int .i64):=⟨Tryz.underlying3⟩
instance iI3:Inf Tryz.prog 3 (.int .i64 0) 1 8:=⟨by kernel_rfl⟩
instance iO3:One Tryz.prog 3:=One.of Tryz.underlying3 rfl
instance iI4:Inf Tryz.prog 4 (.bool false) 1 1:=⟨by kernel_rfl⟩
instance iO4:One Tryz.prog 4:=One.of Tryz.underlying4 rfl
instance iU5:Und Tryz.prog 5 (.int .u8):=⟨Tryz.underlying5⟩
instance iI5:Inf Tryz.prog 5 (.int .u8 0) 1 1:=⟨by kernel_rfl⟩
instance iO5:One Tryz.prog 5:=One.of Tryz.underlying5 rfl
instance iU9:Und Tryz.prog 9 (.string):=⟨Tryz.underlying9⟩
instance iI9:Inf Tryz.prog 9 (.string (B [])) 1 16:=⟨by kernel_rfl⟩
instance iO9:One Tryz.prog 9:=One.of Tryz.underlying9 rfl
instance iU22:Und Tryz.prog 22 (.slice 5):=⟨Tryz.underlying22⟩
instance iI22:Inf Tryz.prog 22 (.slice none 0 0) 1 24:=⟨by kernel_rfl⟩
instance iO22:One Tryz.prog 22:=One.of Tryz.underlying22 rfl
instance iU24:Und Tryz.prog 24 (.slice 27):=⟨Tryz.underlying24⟩
instance iU25:Und Tryz.prog 25 (.slice 75):=⟨Tryz.underlying25⟩
instance iI25:Inf Tryz.prog 25 (.slice none 0 0) 1 24:=⟨by kernel_rfl⟩
instance iO25:One Tryz.prog 25:=One.of Tryz.underlying25 rfl
instance iI27:Inf Tryz.prog 27 (Value.agg #[.int .u8 0,.int .u8 0,.slice none 0 0,.int .u8 0,.int .u8 0]) 5 40:=⟨by kernel_rfl⟩
instance iM27:Many Tryz.prog 27 5:=Many.of Tryz.underlying27 rfl
instance iS27:StructT Tryz.prog 27 #[(0,1),(1,1),(2,1),(3,1),(4,1)] (Value.agg #[.int .u8 0,.int .u8 0,.slice none 0 0,.int .u8 0,.int .u8 0]).cells:=StructT.of Tryz.underlying27 rfl (by intro w; simp[run_sizeOf])
instance iD27x0:Fld Tryz.prog 27 0 0 5:=⟨⟨_,_,Tryz.underlying27,rfl,rfl,rfl⟩⟩
instance iD27x1:Fld Tryz.prog 27 1 1 5:=⟨⟨_,_,Tryz.underlying27,rfl,rfl,rfl⟩⟩
instance iD27x2:Fld Tryz.prog 27 2 2 25:=⟨⟨_,_,Tryz.underlying27,rfl,rfl,rfl⟩⟩
instance iD27x3:Fld Tryz.prog 27 3 3 5:=⟨⟨_,_,Tryz.underlying27,rfl,rfl,rfl⟩⟩
instance iD27x4:Fld Tryz.prog 27 4 4 5:=⟨⟨_,_,Tryz.underlying27,rfl,rfl,rfl⟩⟩
instance iU28:Und Tryz.prog 28 (.slice 46):=⟨Tryz.underlying28⟩
instance iI28:Inf Tryz.prog 28 (.slice none 0 0) 1 24:=⟨by kernel_rfl⟩
instance iO28:One Tryz.prog 28:=One.of Tryz.underlying28 rfl
instance iU29:Und Tryz.prog 29 (.slice 22):=⟨Tryz.underlying29⟩
instance iI29:Inf Tryz.prog 29 (.slice none 0 0) 1 24:=⟨by kernel_rfl⟩
instance iO29:One Tryz.prog 29:=One.of Tryz.underlying29 rfl
instance iI34:Inf Tryz.prog 34 (Value.agg #[.bool false,.slice none 0 0]) 2 32:=⟨by kernel_rfl⟩
instance iM34:Many Tryz.prog 34 2:=Many.of Tryz.underlying34 rfl
instance iU39:Und Tryz.prog 39 (.slice 9):=⟨Tryz.underlying39⟩
instance iI41:Inf Tryz.prog 41 (Value.agg #[.int .i64 0,.int .i64 0,.int .i64 0,.slice none 0 0]) 4 48:=⟨by kernel_rfl⟩
instance iM41:Many Tryz.prog 41 4:=Many.of Tryz.underlying41 rfl
instance iU43:Und Tryz.prog 43 (.array 32 5):=⟨Tryz.underlying43⟩
instance iI43:Inf Tryz.prog 43 (Value.agg #[.int .u8 0,.int .u8 0,.int .u8 0,.int .u8 0,.int .u8 0,.int .u8 0,.int .u8 0,.int .u8 0,.int .u8 0,.int .u8 0,.int .u8 0,.int .u8 0,.int .u8 0,.int .u8 0,.int .u8 0,.int .u8 0,.int .u8 0,.int .u8 0,.int .u8 0,.int .u8 0,.int .u8 0,.int .u8 0,.int .u8 0,.int .u8 0,.int .u8 0,.int .u8 0,.int .u8 0,.int .u8 0,.int .u8 0,.int .u8 0,.int .u8 0,.int .u8 0]) 32 32:=⟨by kernel_rfl⟩
instance iM43:Many Tryz.prog 43 32:=Many.of Tryz.underlying43 rfl
instance iU44:Und Tryz.prog 44 (.slice 77):=⟨Tryz.underlying44⟩
instance iI44:Inf Tryz.prog 44 (.slice none 0 0) 1 24:=⟨by kernel_rfl⟩
instance iO44:One Tryz.prog 44:=One.of Tryz.underlying44 rfl
instance iI46:Inf Tryz.prog 46 (Value.agg #[.string (B []),.int .i64 0,.int .i64 0,.int .i64 0,.slice none 0 0,.int .u8 0,.int .u8 0,.int .u8 0,.int .u8 0,.int .u8 0,.int .u8 0,.int .u8 0,.int .u8 0,.int .u8 0,.int .u8 0,.int .u8 0,.int .u8 0,.int .u8 0,.int .u8 0,.int .u8 0,.int .u8 0,.int .u8 0,.int .u8 0,.int .u8 0,.int .u8 0,.int .u8 0,.int .u8 0,.int .u8 0,.int .u8 0,.int .u8 0,.int .u8 0,.int .u8 0,.int .u8 0,.int .u8 0,.int .u8 0,.int .u8 0,.int .u8 0,.int .i64 0,.slice none 0 0]) 39 128:=⟨by kernel_rfl⟩
instance iM46:Many Tryz.prog 46 39:=Many.of Tryz.underlying46 rfl
instance iS46:StructT Tryz.prog 46 #[(0,1),(1,4),(5,32),(37,1),(38,1)] (Value.agg #[.string (B []),.int .i64 0,.int .i64 0,.int .i64 0,.slice none 0 0,.int .u8 0,.int .u8 0,.int .u8 0,.int .u8 0,.int .u8 0,.int .u8 0,.int .u8 0,.int .u8 0,.int .u8 0,.int .u8 0,.int .u8 0,.int .u8 0,.int .u8 0,.int .u8 0,.int .u8 0,.int .u8 0,.int .u8 0,.int .u8 0,.int .u8 0,.int .u8 0,.int .u8 0,.int .u8 0,.int .u8 0,.int .u8 0,.int .u8 0,.int .u8 0,.int .u8 0,.int .u8 0,.int .u8 0,.int .u8 0,.int .u8 0,.int .u8 0,.int .i64 0,.slice none 0 0]).cells:=StructT.of Tryz.underlying46 rfl (by intro w; simp[run_sizeOf])
instance iD46x0:Fld Tryz.prog 46 0 0 9:=⟨⟨_,_,Tryz.underlying46,rfl,rfl,rfl⟩⟩
instance iD46x1:Fld Tryz.prog 46 1 1 41:=⟨⟨_,_,Tryz.underlying46,rfl,rfl,rfl⟩⟩
instance iD46x2:Fld Tryz.prog 46 2 5 43:=⟨⟨_,_,Tryz.underlying46,rfl,rfl,rfl⟩⟩
instance iD46x3:Fld Tryz.prog 46 3 37 3:=⟨⟨_,_,Tryz.underlying46,rfl,rfl,rfl⟩⟩
instance iD46x4:Fld Tryz.prog 46 4 38 44:=⟨⟨_,_,Tryz.underlying46,rfl,rfl,rfl⟩⟩
instance iU48:Und Tryz.prog 48 (.pointer 104):=⟨Tryz.underlying48⟩
instance iI52:Inf Tryz.prog 52 (Value.agg #[.int .i64 0,.string (B []),.string (B [])]) 3 40:=⟨by kernel_rfl⟩
instance iS52:StructT Tryz.prog 52 #[(0,1),(1,1),(2,1)] (Value.agg #[.int .i64 0,.string (B []),.string (B [])]).cells:=StructT.of Tryz.underlying52 rfl (by intro w; simp[run_sizeOf])
instance iU54:Und Tryz.prog 54 (.slice 63):=⟨Tryz.underlying54⟩
instance iU58:Und Tryz.prog 58 (.slice 116):=⟨Tryz.underlying58⟩
instance iD60x1:Fld Tryz.prog 60 1 1 9:=⟨⟨_,_,Tryz.underlying60,rfl,rfl,rfl⟩⟩
instance iI63:Inf Tryz.prog 63 (Value.agg #[.string (B []),.int .i64 0,.int .i64 0,.int .i64 0,.slice none 0 0,.int .u8 0,.int .u8 0,.int .u8 0,.int .u8 0,.int .u8 0,.int .u8 0,.int .u8 0,.int .u8 0,.int .u8 0,.int .u8 0,.int .u8 0,.int .u8 0,.int .u8 0,.int .u8 0,.int .u8 0,.int .u8 0,.int .u8 0,.int .u8 0,.int .u8 0,.int .u8 0,.int .u8 0,.int .u8 0,.int .u8 0,.int .u8 0,.int .u8 0,.int .u8 0,.int .u8 0,.int .u8 0,.int .u8 0,.int .u8 0,.int .u8 0,.int .u8 0]) 37 96:=⟨by kernel_rfl⟩
instance iD63x0:Fld Tryz.prog 63 0 0 9:=⟨⟨_,_,Tryz.underlying63,rfl,rfl,rfl⟩⟩
instance iD63x1:Fld Tryz.prog 63 1 1 41:=⟨⟨_,_,Tryz.underlying63,rfl,rfl,rfl⟩⟩
instance iD63x2:Fld Tryz.prog 63 2 5 43:=⟨⟨_,_,Tryz.underlying63,rfl,rfl,rfl⟩⟩
instance iI116:Inf Tryz.prog 116 (Value.agg #[.string (B []),.bool false,.slice none 0 0]) 3 48:=⟨by kernel_rfl⟩
instance iS116:StructT Tryz.prog 116 #[(0,1),(1,1),(2,1)] (Value.agg #[.string (B []),.bool false,.slice none 0 0]).cells:=StructT.of Tryz.underlying116 rfl (by intro w; simp[run_sizeOf])
instance iD116x0:Fld Tryz.prog 116 0 0 9:=⟨⟨_,_,Tryz.underlying116,rfl,rfl,rfl⟩⟩
instance iU130:Und Tryz.prog 130 (.int .u64):=⟨Tryz.underlying130⟩
instance iI148:Inf Tryz.prog 148 (.map none) 1 8:=⟨by kernel_rfl⟩
instance iI150:Inf Tryz.prog 150 (Value.agg #[.slice none 0 0,.map none]) 2 32:=⟨by kernel_rfl⟩
instance iS150:StructT Tryz.prog 150 #[(0,1),(1,1)] (Value.agg #[.slice none 0 0,.map none]).cells:=StructT.of Tryz.underlying150 rfl (by intro w; simp[run_sizeOf])
instance iD150x0:Fld Tryz.prog 150 0 0 29:=⟨⟨_,_,Tryz.underlying150,rfl,rfl,rfl⟩⟩
instance iI152:Inf Tryz.prog 152 (Value.agg #[.slice none 0 0,.map none,.int .i64 0,.bool false]) 4 48:=⟨by kernel_rfl⟩
instance iS152:StructT Tryz.prog 152 #[(0,2),(2,1),(3,1)] (Value.agg #[.slice none 0 0,.map none,.int .i64 0,.bool false]).cells:=StructT.of Tryz.underlying152 rfl (by intro w; simp[run_sizeOf])
instance iD152x0:Fld Tryz.prog 152 0 0 150:=⟨⟨_,_,Tryz.underlying152,rfl,rfl,rfl⟩⟩
instance iC166:Conc Tryz.prog 166:=⟨by kernel_rfl⟩
instance iI189:Inf Tryz.prog 189 (.slice none 0 0) 1 24:=⟨by kernel_rfl⟩
instance iI191:Inf Tryz.prog 191 (Value.agg #[.slice none 0 0,.slice none 0 0,.slice none 0 0,.int .i64 0]) 4 80:=⟨by kernel_rfl⟩
instance iS191:StructT Tryz.prog 191 #[(0,1),(1,1),(2,1),(3,1)] (Value.agg #[.slice none 0 0,.slice none 0 0,.slice none 0 0,.int .i64 0]).cells:=StructT.of Tryz.underlying191 rfl (by intro w; simp[run_sizeOf])
instance iD191x1:Fld Tryz.prog 191 1 1 29:=⟨⟨_,_,Tryz.underlying191,rfl,rfl,rfl⟩⟩
instance iI201:Inf Tryz.prog 201 (.nilIface) 1 16:=⟨by kernel_rfl⟩
instance iO201:One Tryz.prog 201:=One.of Tryz.underlying201 rfl
instance iD352x2:Fld Tryz.prog 352 2 2 201:=⟨⟨_,_,Tryz.underlying352,rfl,rfl,rfl⟩⟩
instance iU358:Und Tryz.prog 358 (.slice 3):=⟨Tryz.underlying358⟩
instance iC423:Conc Tryz.prog 423:=⟨by kernel_rfl⟩
instance iD429x0:Fld Tryz.prog 429 0 0 4:=⟨⟨_,_,Tryz.underlying429,rfl,rfl,rfl⟩⟩
instance iD429x1:Fld Tryz.prog 429 1 1 22:=⟨⟨_,_,Tryz.underlying429,rfl,rfl,rfl⟩⟩
instance iU432:Und Tryz.prog 432 (.map 9 426):=⟨Tryz.underlying432⟩
instance iI432:Inf Tryz.prog 432 (.map none) 1 8:=⟨by kernel_rfl⟩
instance iO432:One Tryz.prog 432:=One.of Tryz.underlying432 rfl
instance iD434x0:Fld Tryz.prog 434 0 0 432:=⟨⟨_,_,Tryz.underlying434,rfl,rfl,rfl⟩⟩
instance iI438:Inf Tryz.prog 438 (Value.agg #[.pointer none,.pointer none,.int .u64 0]) 3 24:=⟨by kernel_rfl⟩
instance iM438:Many Tryz.prog 438 3:=Many.of Tryz.underlying438 rfl
instance iI441:Inf Tryz.prog 441 (.nilIface) 1 16:=⟨by kernel_rfl⟩
instance iO441:One Tryz.prog 441:=One.of Tryz.underlying441 rfl
instance iD659x1:Fld Tryz.prog 659 1 1 201:=⟨⟨_,_,Tryz.underlying659,rfl,rfl,rfl⟩⟩
instance iE4:Ent Tryz.prog 4:=Ent.of Tryz.func4 (by kernel_rfl) (by kernel_rfl)
instance iE5:Ent Tryz.prog 5:=Ent.of Tryz.func5 (by kernel_rfl) (by kernel_rfl)
instance iE6:Ent Tryz.prog 6:=Ent.of Tryz.func6 (by kernel_rfl) (by kernel_rfl)
instance iE7:Ent Tryz.prog 7:=Ent.of Tryz.func7 (by kernel_rfl) (by kernel_rfl)
instance iE8:Ent Tryz.prog 8:=Ent.of Tryz.func8 (by kernel_rfl) (by kernel_rfl)
instance iE9:Ent Tryz.prog 9:=Ent.of Tryz.func9 (by kernel_rfl) (by kernel_rfl)
instance iE10:Ent Tryz.prog 10:=Ent.of Tryz.func10 (by kernel_rfl) (by kernel_rfl)
instance iE11:Ent Tryz.prog 11:=Ent.of Tryz.func11 (by kernel_rfl) (by kernel_rfl)
instance iE12:Ent Tryz.prog 12:=Ent.of Tryz.func12 (by kernel_rfl) (by kernel_rfl)
instance iE13:Ent Tryz.prog 13:=Ent.of Tryz.func13 (by kernel_rfl) (by kernel_rfl)
instance iE14:Ent Tryz.prog 14:=Ent.of Tryz.func14 (by kernel_rfl) (by kernel_rfl)
instance iE17:Ent Tryz.prog 17:=Ent.of Tryz.func17 (by kernel_rfl) (by kernel_rfl)
instance iE18:Ent Tryz.prog 18:=Ent.of Tryz.func18 (by kernel_rfl) (by kernel_rfl)
instance iE19:Ent Tryz.prog 19:=Ent.of Tryz.func19 (by kernel_rfl) (by kernel_rfl)
instance iE20:Ent Tryz.prog 20:=Ent.of Tryz.func20 (by kernel_rfl) (by kernel_rfl)
instance iE21:Ent Tryz.prog 21:=Ent.of Tryz.func21 (by kernel_rfl) (by kernel_rfl)
instance iE22:Ent Tryz.prog 22:=Ent.of Tryz.func22 (by kernel_rfl) (by kernel_rfl)
instance iE23:Ent Tryz.prog 23:=Ent.of Tryz.func23 (by kernel_rfl) (by kernel_rfl)
instance iE24:Ent Tryz.prog 24:=Ent.of Tryz.func24 (by kernel_rfl) (by kernel_rfl)
instance iE32:Ent Tryz.prog 32:=Ent.of Tryz.func32 (by kernel_rfl) (by kernel_rfl)
instance iE44:Ent Tryz.prog 44:=Ent.of Tryz.func44 (by kernel_rfl) (by kernel_rfl)
instance iE45:Ent Tryz.prog 45:=Ent.of Tryz.func45 (by kernel_rfl) (by kernel_rfl)
instance iE46:Ent Tryz.prog 46:=Ent.of Tryz.func46 (by kernel_rfl) (by kernel_rfl)
instance iE47:Ent Tryz.prog 47:=Ent.of Tryz.func47 (by kernel_rfl) (by kernel_rfl)
instance iE61:Ent Tryz.prog 61:=Ent.of Tryz.func61 (by kernel_rfl) (by kernel_rfl)
instance iE62:Ent Tryz.prog 62:=Ent.of Tryz.func62 (by kernel_rfl) (by kernel_rfl)
instance iE63:Ent Tryz.prog 63:=Ent.of Tryz.func63 (by kernel_rfl) (by kernel_rfl)
instance iE64:Ent Tryz.prog 64:=Ent.of Tryz.func64 (by kernel_rfl) (by kernel_rfl)
instance iE66:Ent Tryz.prog 66:=Ent.of Tryz.func66 (by kernel_rfl) (by kernel_rfl)
instance iE82:Ent Tryz.prog 82:=Ent.of Tryz.func82 (by kernel_rfl) (by kernel_rfl)
instance iE87:Ent Tryz.prog 87:=Ent.of Tryz.func87 (by kernel_rfl) (by kernel_rfl)
instance iE88:Ent Tryz.prog 88:=Ent.of Tryz.func88 (by kernel_rfl) (by kernel_rfl)
instance iE89:Ent Tryz.prog 89:=Ent.of Tryz.func89 (by kernel_rfl) (by kernel_rfl)
instance iE90:Ent Tryz.prog 90:=Ent.of Tryz.func90 (by kernel_rfl) (by kernel_rfl)
instance iE94:Ent Tryz.prog 94:=Ent.of Tryz.func94 (by kernel_rfl) (by kernel_rfl)
instance iE95:Ent Tryz.prog 95:=Ent.of Tryz.func95 (by kernel_rfl) (by kernel_rfl)
instance iE108:Ent Tryz.prog 108:=Ent.of Tryz.func108 (by kernel_rfl) (by kernel_rfl)
instance iE109:Ent Tryz.prog 109:=Ent.of Tryz.func109 (by kernel_rfl) (by kernel_rfl)
instance iE117:Ent Tryz.prog 117:=Ent.of Tryz.func117 (by kernel_rfl) (by kernel_rfl)
instance iE122:Ent Tryz.prog 122:=Ent.of Tryz.func122 (by kernel_rfl) (by kernel_rfl)
instance iE124:Ent Tryz.prog 124:=Ent.of Tryz.func124 (by kernel_rfl) (by kernel_rfl)
instance iE131:Ent Tryz.prog 131:=Ent.of Tryz.func131 (by kernel_rfl) (by kernel_rfl)
instance iE159:Ent Tryz.prog 159:=Ent.of Tryz.func159 (by kernel_rfl) (by kernel_rfl)
instance iE176:Ent Tryz.prog 176:=Ent.of Tryz.func176 (by kernel_rfl) (by kernel_rfl)
instance iE177:Ent Tryz.prog 177:=Ent.of Tryz.func177 (by kernel_rfl) (by kernel_rfl)
instance iE178:Ent Tryz.prog 178:=Ent.of Tryz.func178 (by kernel_rfl) (by kernel_rfl)
instance iE184:Ent Tryz.prog 184:=Ent.of Tryz.func184 (by kernel_rfl) (by kernel_rfl)
instance iE185:Ent Tryz.prog 185:=Ent.of Tryz.func185 (by kernel_rfl) (by kernel_rfl)
instance iE186:Ent Tryz.prog 186:=Ent.of Tryz.func186 (by kernel_rfl) (by kernel_rfl)
instance iE189:Ent Tryz.prog 189:=Ent.of Tryz.func189 (by kernel_rfl) (by kernel_rfl)
instance iE270:Ent Tryz.prog 270:=Ent.of Tryz.func270 (by kernel_rfl) (by kernel_rfl)
instance iE312:Ent Tryz.prog 312:=Ent.of Tryz.func312 (by kernel_rfl) (by kernel_rfl)
instance iE317:Ent Tryz.prog 317:=Ent.of Tryz.func317 (by kernel_rfl) (by kernel_rfl)
instance iE339:Ent Tryz.prog 339:=Ent.of Tryz.func339 (by kernel_rfl) (by kernel_rfl)
instance iE368:Ent Tryz.prog 368:=Ent.of Tryz.func368 (by kernel_rfl) (by kernel_rfl)
instance iE369:Ent Tryz.prog 369:=Ent.of Tryz.func369 (by kernel_rfl) (by kernel_rfl)
instance iE370:Ent Tryz.prog 370:=Ent.of Tryz.func370 (by kernel_rfl) (by kernel_rfl)
instance iE374:Ent Tryz.prog 374:=Ent.of Tryz.func374 (by kernel_rfl) (by kernel_rfl)
instance iE380:Ent Tryz.prog 380:=Ent.of Tryz.func380 (by kernel_rfl) (by kernel_rfl)
instance iE512:Ent Tryz.prog 512:=Ent.of Tryz.func512 (by kernel_rfl) (by kernel_rfl)
instance iE534:Ent Tryz.prog 534:=Ent.of Tryz.func534 (by kernel_rfl) (by kernel_rfl)
instance iE547:Ent Tryz.prog 547:=Ent.of Tryz.func547 (by kernel_rfl) (by kernel_rfl)
end Go.Proofs.YtbhbdeelpopgoaaGreatDoor.H

namespace Go.Proofs.YtbhbdeelpopgoaaGreatDoor.H
open Go.RowKit
variable {M : Option (Option Nat)} {P : Program} {ops : Array Oper} {Q : Post} {rest : List Oper} {f : Fr} {w : World}
theorem yieldsU{f:Fr}{a:Act}(ha:Ag f a){ops:Array Oper}{j t:Nat}(hj:(ops[j]?).bind (·.dst)=some t)(hn:Nat.blt t f.n=true)(hv:look f.e t=some undef):yielded ops a.tmps j=none:=by
 have h:=ha.slot t _ hv
 have hlt:t < a.tmps.size:=by rw[ha.size]; exact blt_lt hn
 have h2:a.tmps[t]?=some undef:=by
  rw[Array.getD_eq_getD_getElem?] at h
  rw[Array.getElem?_eq_getElem hlt] at h ⊢
  simpa using h
 simp[yielded,hj,h2,undef]
end Go.Proofs.YtbhbdeelpopgoaaGreatDoor.H

namespace Go.Proofs.YtbhbdeelpopgoaaGreatDoor.H
open Go.RowKit
section
variable {M : Option (Option Nat)} {P : Program} {ops : Array Oper} {Q : Post} {rest : List Oper} {f : Fr} {w : World} {d : Nat} {ty : TypeId} {pos : String} {af : Array Edge}
theorem cells_at{α:Type}{enc:α→List Value}{sz:Nat}(he : ∀x,(enc x).length=sz): ∀(l:List α) (i j:Nat) (x:α),l[i]?=some x→j < sz→(l.flatMap enc)[i * sz+j]?=(enc x)[j]?:=by
 intro l
 induction l with
 | nil=>intro i j x h; simp at h
 | cons a l ih=>
  intro i j x h hj
  rw[List.flatMap_cons]
  cases i with
  | zero=>
   simp only[List.getElem?_cons_zero,Option.some.injEq] at h
   subst h
   rw[Nat.zero_mul,Nat.zero_add,List.getElem?_append_left (by rw[he]; exact hj)]
  | succ i=>
   rw[List.getElem?_append_right (by rw[he,Nat.succ_mul]; omega),he]
   have:(i+1) * sz+j - sz=i * sz+j:=by rw[Nat.succ_mul]; omega
   rw[this]
   exact ih i j x (by simpa using h) hj
theorem cells_len{α:Type}{enc:α→List Value}{sz:Nat}(he : ∀x,(enc x).length=sz): ∀(l:List α),(l.flatMap enc).length=l.length * sz:=by
 intro l
 induction l with
 | nil=>simp
 | cons a l ih=>rw[List.flatMap_cons,List.length_append,he,ih,List.length_cons,Nat.succ_mul]; omega
theorem spot_ptr{w:World}{sz:Nat}{v:Value}{n:Nat}{xs:List Value}(hs:Sl w sz v n xs)(hn:0 < n)(k:Nat): ∃g o,Value.spot v k=⟨g,o,none⟩∧∀j,Value.spot v (k+j)=⟨g,o+j,none⟩:=by
 rcases hs.2.2 with ⟨_,rfl,h⟩|⟨g,off,cap,cur,e',fz,rfl,_⟩
 ·omega
 ·refine⟨g,off+k,?_,fun j=>?_⟩
  ·simp[Value.spot,addr_add]
  ·simp only[Value.spot,addr_add]; congr 1; omega
theorem RW.elemF{α:Type}[Inhabited α]{t e t2 ty2 ty3 s:TypeId}{fi off ft:Nat}{pos2 pos3:String}{af2 af3:Array Edge}{d1 d2:Nat}{z zf:Value}{b sz szf bf:Nat}[ht:Und P t (.slice e)][Inf P e z sz b][hf:Fld P s fi off ft][hfi:Inf P ft zf szf bf][One P t2]
  {x y:Operand} {k:IntKind} {v u:Value} {i:Int} {n:Nat} {l:List α} {enc:α→List Value} (hx:f.ev x=some v) (hy:f.ev y=some (.int k i)) (hd:Nat.blt d f.n=true) (hd1:Nat.blt d1 f.n=true) (hd2:Nat.blt d2 f.n=true) (hzf:Nat.beq szf 0=false)
  (hs:Sl w sz v n (l.flatMap enc)) (he : ∀x,(enc x).length=sz) (hsz:Nat.blt off sz=true) (h0:0≤i) (h1:i < l.length) (hu:(enc (l.getD i.toNat default))[off]?=some u)
  (kk : ∀p q,RW M P ops Q rest (((f.put d p).put d1 q).put d2 u) w):RW M P ops Q (op1 d (.indexAddr t x y) ty pos af::op1 d1 (.fieldAddr s (.tmp d) fi) ty2 pos2 af2::op1 d2 (.load t2 (.tmp d1)) ty3 pos3 af3::rest) f w:=by
 have hlt:i.toNat < l.length:=by omega
 have hsz':=blt_lt hsz
 have hn:n=l.length:=by
  have:=hs.1
  rw[cells_len he] at this
  exact Nat.eq_of_mul_eq_mul_right (by omega) this.symm
 subst hn
 obtain⟨g,o,h2,h3⟩:=spot_ptr hs (by omega) (i.toNat * sz)
 refine RW.y (Y.idx hx hy hs h0 h1) hd ?_
 rw[h2]
 refine RW.y (Y.fieldAddr (by simp[Fr.ev,Fr.put,look]; exact⟨rfl,rfl⟩) hzf) hd1 ?_
 refine RW.y (Y.load1 (a:=⟨g,o+off,none⟩) (by simp[Fr.ev,Fr.put,look]) ?_) hd2 (kk _ _)
 rw[←h3 off]
 refine hs.cell ?_
 rw[cells_at he l i.toNat off (l.getD i.toNat default) (by simp[List.getD_eq_getElem?_getD,hlt]) hsz',hu]
theorem RW.elemA{α:Type}[Inhabited α]{t e t2 ty2:TypeId}{pos2:String}{af2:Array Edge}{d1:Nat}{z:Value}{b sz:Nat}[ht:Und P t (.slice e)][Inf P e z sz b][Many P t2 sz]
  {x y:Operand} {k:IntKind} {v:Value} {i:Int} {n:Nat} {l:List α} {enc:α→List Value} (hx:f.ev x=some v) (hy:f.ev y=some (.int k i)) (hd:Nat.blt d f.n=true) (hd1:Nat.blt d1 f.n=true)
  (hs:Sl w sz v n (l.flatMap enc)) (he : ∀x,(enc x).length=sz) (hsz:Nat.blt 0 sz=true) (h0:0≤i) (h1:i < l.length)
  (kk : ∀p,RW M P ops Q rest ((f.put d p).put d1 (.agg (enc (l.getD i.toNat default)).toArray)) w):RW M P ops Q (op1 d (.indexAddr t x y) ty pos af::op1 d1 (.load t2 (.tmp d)) ty2 pos2 af2::rest) f w:=by
 have hlt:i.toNat < l.length:=by omega
 have hsz':=blt_lt hsz
 have hn:n=l.length:=by
  have:=hs.1
  rw[cells_len he] at this
  exact Nat.eq_of_mul_eq_mul_right (by omega) this.symm
 subst hn
 obtain⟨g,o,h2,h3⟩:=spot_ptr hs (by omega) (i.toNat * sz)
 refine RW.y (Y.idx hx hy hs h0 h1) hd ?_
 rw[h2]
 refine RW.loadN (a:=⟨g,o,none⟩) (by simp[Fr.ev,Fr.put,look]) (he _) (fun j u hj=>?_) hd1 (kk _)
 have:(Addr.mk g o none).add j=Value.spot v (i.toNat * sz+j):=by rw[h3]; simp[addr_add]
 rw[this]
 refine hs.cell ?_
 have hjs:j < sz:=by
  have:=(List.getElem?_eq_some_iff.1 hj).1
  rw[he] at this
  exact this
 rw[cells_at he l i.toNat j (l.getD i.toNat default) (by simp[List.getD_eq_getElem?_getD,hlt]) hjs,hj]
end
end Go.Proofs.YtbhbdeelpopgoaaGreatDoor.H

namespace Go.Proofs.YtbhbdeelpopgoaaGreatDoor.H
open Go.RowKit
section
variable {M : Option (Option Nat)} {P : Program} {ops : Array Oper} {Q : Post} {rest : List Oper} {f : Fr} {w : World} {d : Nat} {ty : TypeId} {pos : String} {af : Array Edge}
end
end Go.Proofs.YtbhbdeelpopgoaaGreatDoor.H

namespace Go.Proofs.YtbhbdeelpopgoaaGreatDoor.H
open Go.RowKit
section
variable {M : Option (Option Nat)} {P : Program} {ops : Array Oper} {Q : Post} {rest : List Oper} {f : Fr} {w : World} {d : Nat} {ty : TypeId} {pos : String} {af : Array Edge}
end
end Go.Proofs.YtbhbdeelpopgoaaGreatDoor.H

namespace Go.Proofs.YtbhbdeelpopgoaaGreatDoor.H
open Go.RowKit
section
variable {M : Option (Option Nat)} {P : Program} {ops : Array Oper} {Q : Post} {rest : List Oper} {f : Fr} {w : World} {d : Nat} {ty : TypeId} {pos : String} {af : Array Edge}
theorem Y.loadN{t:TypeId}{n:Nat}[h:Many P t n]{x:Operand}{a:Addr}{cs:List Value}(hx:f.ev x=some (.pointer (some a)))(hl:cs.length=n)(hc : ∀j v,cs[j]?=some v→w.cell? (a.add j)=some v):Yd P f (op1 d (.load t x) ty pos af) (.agg cs.toArray) w:=fun a' ha=>by
 have hr:=run_loadCells_list (P:=P) w a cs hc
 rw[hl] at hr
 simp[execOp,ha.eval hx,Instr.loadAt,Instr.sureAddr,loadVar,h.agg,h.size,hr]
end
end Go.Proofs.YtbhbdeelpopgoaaGreatDoor.H

namespace Go.Proofs.YtbhbdeelpopgoaaGreatDoor.H
open Go.RowKit
section
variable {M : Option (Option Nat)} {P : Program} {ops : Array Oper} {Q : Post} {rest : List Oper} {f : Fr} {w : World} {d : Nat} {ty : TypeId} {pos : String} {af : Array Edge}
theorem Gt.slice{t:TypeId}{x:Operand}{a b c:Option Operand}(h:RW M P ops Q ({dst:=some d,op:= .slice t x a b c,type:=ty,pos:=pos,after:=af,guard:=none}::rest) f w):RW M P ops Q ({dst:=some d,op:= .slice t x a b c,type:=ty,pos:=pos,after:=af,guard:=none}::rest) f w:=h
theorem Gt.call{c:Call}(h:RW M P ops Q ({dst:=some d,op:= .call c,type:=ty,pos:=pos,after:=af,guard:=none}::rest) f w):RW M P ops Q ({dst:=some d,op:= .call c,type:=ty,pos:=pos,after:=af,guard:=none}::rest) f w:=h
theorem Y.max2{x y:Operand}{k k2:IntKind}{a b:Int}{ts:Array TypeId}(hx:f.ev x=some (.int k a))(hy:f.ev y=some (.int k2 b)):Yd P f (op1 d (.call {callee:= .builtin .max,args:=#[x,y],argTypes:=ts}) ty pos af) (.int k (max a b)) w:=by
 intro s hs
 have h:=run_max_int2 (P:=P) (w:=w) ts ty k k2 a b
 have e:(if b > a then b else a)=max a b:=by split <;> omega
 rw[e] at h
 simp[execOp,resolve,invoke,builtin,hs.eval hx,hs.eval hy,h]
theorem Y.min2{x y:Operand}{k k2:IntKind}{a b:Int}{ts:Array TypeId}(hx:f.ev x=some (.int k a))(hy:f.ev y=some (.int k2 b)):Yd P f (op1 d (.call {callee:= .builtin .min,args:=#[x,y],argTypes:=ts}) ty pos af) (.int k (min a b)) w:=by
 intro s hs
 have h:=run_min_int2 (P:=P) (w:=w) ts ty k k2 a b
 have e:(if b < a then b else a)=min a b:=by split <;> omega
 rw[e] at h
 simp[execOp,resolve,invoke,builtin,hs.eval hx,hs.eval hy,h]
theorem Y.ext{k:FuncId}{xs:List Operand}{l:List Value}{at':Array TypeId}{v:Value}(hv:f.evs xs=some l)(hc:(callFunc k l.toArray).run P w = .ok (.value v) w):Yd P f (op1 d (.call {callee:= .value (.func k),args:=xs.toArray,argTypes:=at'}) ty pos af) v w:=fun a ha=>by
 simp[execOp,resolve,Act.eval,Deferred.ofValue,invoke,ha.evs xs l hv,hc]
theorem madeCells_one{z:Value}(n:Nat):(madeCells #[z] n).toList=List.replicate n z:=by
 apply List.ext_getElem?
 intro i
 simp only[madeCells,Array.toList_map,Array.toList_range,List.getElem?_map,List.getElem?_replicate]
 by_cases h:i < n <;> simp[h,Nat.mod_one]
theorem RW.make1{t e:TypeId}{z:Value}{b:Nat}[ht:Und P t (.slice e)][hi:Inf P e z 1 b]{x y:Operand}{k k2:IntKind}{n:Nat}(hx:f.ev x=some (.int k (n:Int)))(hy:f.ev y=some (.int k2 (n:Int)))(hd:Nat.blt d f.n=true)(hz:z.cells=#[z])(hn:n≤16777216)(hb:b * n≤281474976710656)
  (kk : ∀v' w',w'.ownsRow w.heap.size e 1 v' n (List.replicate n z)→K0 w w'→RW M P ops Q rest (f.put d v') w'):RW M P ops Q (op1 d (.makeSlice t x y) ty pos af::rest) f w:=by
 have hi':=hi.out
 cases hinf:P.info? e with
 | none=>simp[hinf] at hi'
 | some i=>
  simp only[hinf,Option.map_some,Option.some.injEq,Prod.mk.injEq] at hi'
  obtain⟨hz',hs',hb'⟩:=hi'
  obtain⟨w',hr,ho,hg⟩:=run_makeSlice_full (P:=P) w w.heap.size t e i z 1 ht.out hinf hz' hs' k k2 n (by omega) (by rw[hb']; exact hb) (by simp only[maxLen]; omega) (Nat.le_refl _)
  rw[hz,Nat.mul_one,madeCells_one] at ho
  refine RW.val rfl rfl hd (fun a ha=>?_) (kk _ w' ho ((Kept.of_grown hg).mono fun k hk=>by cases hk))
  simp[execOp,ha.eval hx,ha.eval hy,hr]
theorem RW.setEl{t e t2:TypeId}{ty2:TypeId}{pos2:String}{af2:Array Edge}{z:Value}{b:Nat}[ht:Und P t (.slice e)][Inf P e z 1 b][One P t2]{x y q:Operand}{k:IntKind}{v u:Value}{i:Int}{base n:Nat}{xs:List Value}(hx:f.ev x=some v)(hy:f.ev y=some (.int k i))(hd:Nat.blt d f.n=true)
  (hs:w.ownsRow base e 1 v n xs) (h0:0≤i) (h1:i < n) (hu : ∀p,(f.put d p).ev q=some u) (hu1:u.oneCell'=true)
  (kk : ∀p w',w'.ownsRow base e 1 v n (xs.set i.toNat u)→Kept (fun k=>v.ownBlock=some k) w w'→RW M P ops Q rest (f.put d p) w'):RW M P ops Q (op1 d (.indexAddr t x y) ty pos af::op0 (.store t2 (.tmp d) q) ty2 pos2 af2::rest) f w:=by
 have hlen:=hs.1
 rcases hs.2 with ⟨rfl,h⟩|⟨g,cap,cur,rfl,hb,hg,hn,hm,hc,htk⟩
 ·omega
 have hsp:Value.spot (.slice (some ⟨g,0,none⟩) n cap) (i.toNat * 1)=⟨g,i.toNat,none⟩:=by simp only[Value.spot,addr_add]; congr 1; omega
 refine RW.y (Y.idx hx hy (Sl.of_own hs) h0 h1) hd ?_
 rw[hsp]
 refine RW.storeB (g:=g) (j:=i.toNat) (by simp[Fr.ev,Fr.put,look]) (hu _) hu1 hg (by omega) (fun w' hw' hk=>kk _ w' ?_ (hk.mono fun k h=>by simp[Value.ownBlock,h]))
 refine⟨by rw[List.length_set]; exact hlen,.inr ⟨g,cap,_,rfl,hb,hw',hn,hm,by simpa using hc,?_⟩⟩
 rw[Array.toList_setIfInBounds,List.take_set,htk]
end
end Go.Proofs.YtbhbdeelpopgoaaGreatDoor.H

namespace Go.Proofs.YtbhbdeelpopgoaaGreatDoor.H
open Go.RowKit
def Abid{β:Type}(S:Nat→Prop)(J:β→World→Prop):Prop:=∀s W W',J s W→Kept S W W'→J s W'
def Same(S:Nat→Prop)(W W':World):Prop:=W.heap.size≤W'.heap.size∧∀k,S k→W'.heap[k]?=W.heap[k]?
theorem Same.of{S T:Nat→Prop}{W W':World}(h:Kept T W W')(hS : ∀k,S k→k < W.heap.size∧¬T k):Same S W W':=⟨h.size,fun k hk=>h.block k (hS k hk).1 (hS k hk).2⟩
def SeqC{α:Type}(P:Program)(gf:Nat)(cap:List Value)(enc:α→List Value)(S:Nat→Prop)(Pre:World→Prop)(xs:List α):Prop:=
 ∀(l:Nat) (J Jx:List α→World→Prop) (W:World),Pre W→Abid S J→Abid S Jx→
  (∀pre x W1,J pre W1→(pre++[x]) <+: xs→YieldAt Fence.wide 0 P l (enc x).toArray W1 fun e W'=>
   (e = .returned (.bool true)∧J (pre++[x]) W'∧Same S W1 W')∨(e = .returned (.bool false)∧Jx (pre++[x]) W'))→
  J [] W→Calls P gf (.func (.yield l) #[] #[]::cap).toArray W fun e W'=>(∃v,e = .returned v)∧(J xs W'∨∃pre,Jx pre W')
def Fr.puts(f:Fr):List Nat→List Value→Fr
 | p::ps,v::vs=>(f.put p v).puts ps vs
 | _,_=>f
theorem Ag.puts: ∀(ps:List Nat) (vs:List Value) {f:Fr} {tmps:Array Value} (_:Ag f {tmps:=tmps,defers:=[]}),(∀p∈ps,Nat.blt p f.n=true)→
  Ag (f.puts ps vs) {tmps:=(ps.zip vs).foldl (fun t (x:Nat×Value)=>t.setIfInBounds x.1 x.2) tmps,defers:=[]}:=by
 intro ps
 induction ps with
 | nil=>intro vs f tmps h _; cases vs <;> exact h
 | cons p ps ih=>
  intro vs f tmps h hp
  cases vs with
  | nil=>exact h
  | cons v vs=>exact ih vs (f:=f.put p v) (h.put v (hp p (by simp))) fun q hq=>hp q (List.mem_cons_of_mem _ hq)
def RQ{α:Type}(S:Nat→Prop)(I:List α→World→Prop)(Ix:Option Nat→List α→World→Prop)(xs:List α)(W:World):Post
 | .normal,_,W'=>Same S W W'∧I xs W'
 | .ret,_,W'=>Same S W W'∧Ix none xs W'
 | .exit k,_,W'=>Same S W W'∧Ix (some k) xs W'
 | _,_,_=>False
def jumpOf:Option Nat→Code
 | none=> .ret
 | some k=> .exit k
abbrev markOf(D:Nat):Deferred:={target:= .collected D,args:=#[]}
section
variable {P : Program} {Q : Post} {cs : List Code} {f : Fr} {w : World}
theorem kept_putObj(W:World)(l:Nat)(o:Obj):Kept (fun k=>k=l) W (W.putObj l o):=
 ⟨rfl,rfl,rfl,by simp,fun k _ hk=>World.putObj_heap_other hk⟩
theorem RW.yield{r:Option Nat}{ops:Array Oper}{rest:List Oper}{d:Nat}{ty:TypeId}{pos:String}{af:Array Edge}{l:Nat}{x:Operand}{xs:List Operand}{vs:List Value}{at':Array TypeId}{R:Ending→World→Prop}
  (hf:f.ev x=some (.func (.yield l) #[] #[])) (hv:f.evs xs=some vs) (hd:Nat.blt d f.n=true) (h:YieldAt Fence.wide 0 P l vs.toArray w R)
  (hq : ∀e w',R e w'→match e with
   | .returned v=>RW (some r) P ops Q rest (f.put d v) w'
   | .panicked chain=>Q (.panic chain) f w'
   | .outgrown=>False):RW (some r) P ops Q (op1 d (.call {callee:= .value x,args:=xs.toArray,argTypes:=at'}) ty pos af::rest) f w:=by
 intro a ha
 obtain⟨fn,tmps,assign,body,hy,hr⟩:=h
 refine lwp_plain rfl fun K hK=>?_
 have hrun:(execOp a.eval (op1 d (.call {callee:= .value x,args:=xs.toArray,argTypes:=at'}) ty pos af)).run P w = .ok (.round l fn tmps assign body) w:=by
  have h1:=ha.eval hf
  have h2:=ha.evs xs vs hv
  simp[execOp,resolve,h1,Deferred.ofValue,h2,invoke,hy]
 refine⟨fun _ _=>trivial,?_⟩
 rw[show(Rd1 r).round=r from rfl,Oper.semAt_eq r _ _ (by intro c; simp),hrun,Oper.uponIn_round]
 refine⟨fun c=>by simp[Fence.wide] at c,(show RoundIn (Rd1 r) (0 - 1) P l fn tmps assign body w _ from hr).mono fun e w' hR=>?_⟩
 have q:=hq e w' hR
 cases e with
 | returned v=>exact hK _ _ (q _ (ha.put v hd))
 | panicked ch=>exact⟨f,ha,q⟩
 | outgrown=>exact q.elim
theorem enterI{k n:Nat}{fn:Func}{c:Code}{l:List Value}{R:Ending→World→Prop}(hf:P.funcs[k]?=some fn)(hn:fn.ntmps=n)(hb:fn.body=some c)
  (hl:Nat.ble l.length n=true) (h:CL (some none) P (FQ P fn R) [c] ⟨n,[],args 0 l⟩ w):Calls P k l.toArray w R:=by
 refine calls_of_wp hf hb ((wpIn_wide (n:=0)).1 (wpIn_mono (show Code.wpIn Fence.wide 0 P c _ _ w from CL.one h _ ⟨?_,rfl,?_⟩) fun e a w q=>?_))
 ·have:=ble_le hl
  simp[hn]; omega
 ·intro t v hv
  obtain⟨_,h2⟩:=look_args l 0 t v hv
  rw[Nat.sub_zero] at h2
  have hlt:t < l.length:=(List.getElem?_eq_some_iff.1 h2).1
  simp only[Array.getD_eq_getD_getElem?]
  rw[Array.getElem?_append_left (by simpa using hlt)]
  simp[h2]
 ·obtain⟨f,hf',q⟩:=q
  cases e with
  | normal=>obtain⟨hd,v,hv,hR⟩:=q; exact⟨hf'.defers.trans hd,v,hv a hf',hR⟩
  | ret=>obtain⟨hd,v,hv,hR⟩:=q; exact⟨hf'.defers.trans hd,v,hv a hf',hR⟩
  | panic ch=>exact⟨hf'.defers.trans q.1,q.2⟩
  | exit k=>exact q.elim
  | goto l=>exact q.elim
  | outgrown=>exact q.elim
def MQ(P:Program)(fn:Func)(R:Ending→World→Prop):Post
 | .normal,f,w | .ret,f,w=>
  (f.ds=[]∧∃v,(∀a,Ag f a→(results fn a.tmps).run P w = .ok v w)∧R (.returned v) w)∨
  ∃D,f.ds=[markOf D]∧w.heap[D]?=some (.deferred (some []))∧∀w',Kept (fun k=>k=D) w w'→∃v,(∀a,Ag f a→(results fn a.tmps).run P w' = .ok v w')∧R (.returned v) w'
 | .panic chain,f,w=>f.ds=[]∧R (.panicked chain) w
 | _,_,_=>False
theorem enterM{k n:Nat}{fn:Func}{c:Code}{l:List Value}{R:Ending→World→Prop}(hf:P.funcs[k]?=some fn)(hn:fn.ntmps=n)(hb:fn.body=some c)
  (hl:Nat.ble l.length n=true) (h:CL none P (MQ P fn R) [c] ⟨n,[],args 0 l⟩ w):Calls P k l.toArray w R:=by
 refine callsIn_wide.1 (callsIn_of_wp_marks (n:=0) (F:=Fence.wide) hf hb trivial (wpIn_mono (wpIn_wide.2 (show Code.wp P c _ _ w from CL.one h _ ⟨?_,rfl,?_⟩)) fun e a w q=>?_))
 ·have:=ble_le hl
  simp[hn]; omega
 ·intro t v hv
  obtain⟨_,h2⟩:=look_args l 0 t v hv
  rw[Nat.sub_zero] at h2
  have hlt:t < l.length:=(List.getElem?_eq_some_iff.1 h2).1
  simp only[Array.getD_eq_getD_getElem?]
  rw[Array.getElem?_append_left (by simpa using hlt)]
  simp[h2]
 ·obtain⟨f,hf',q⟩:=q
  have ret:MQ P fn R .ret f w→LeavesInM Fence.wide 0 P fn a.tmps R a.defers .returning w:=by
   rintro(⟨hd,v,hv,hR⟩|⟨D,hd,hD,hr⟩)
   ·rw[hf'.defers,hd]
    exact⟨v,hv a hf',hR⟩
   ·rw[hf'.defers,hd]
    obtain⟨v,hv,hR⟩:=hr _ (kept_putObj w D (.deferred none))
    exact⟨by simp,.inl ⟨D,_,rfl,run_takeDeferred hD,⟨v,hv a hf',hR⟩⟩⟩
  cases e with
  | normal=>exact ret q
  | ret=>exact ret q
  | panic ch=>
   show LeavesInM Fence.wide 0 P fn a.tmps R a.defers (.panicking ch) w
   rw[hf'.defers,q.1]
   exact q.2
  | exit k=>exact q.elim
  | goto l=>exact q.elim
  | outgrown=>exact q.elim
end
end Go.Proofs.YtbhbdeelpopgoaaGreatDoor.H

namespace Go.Proofs.YtbhbdeelpopgoaaGreatDoor.H
open Go.RowKit
section
variable {M : Option (Option Nat)} {P : Program} {ops : Array Oper} {Q : Post} {rest : List Oper} {f : Fr} {w : World} {d : Nat} {ty : TypeId} {pos : String} {af : Array Edge}
section arith
variable {t yt : TypeId} {x y : Operand} {a b : Int} {k : IntKind}
theorem Y.remP(hx:f.ev x=some (.int k a))(hy:f.ev y=some (.int k b))(h0:0≤a)(h1:0 < b):Yd P f (op1 d (.binOp .rem t x y yt) ty pos af) (.int k (a % b)) w:=by
 have h:=Y.rem (P:=P) (w:=w) (d:=d) (ty:=ty) (pos:=pos) (af:=af) (t:=t) (yt:=yt) hx hy (by omega)
 rw[Int.tmod_eq_emod_of_nonneg h0] at h
 exact h
end arith
section same
variable {t yt : TypeId} {x y : Operand}
theorem Y.nesS{a:List UInt8}(hx:f.ev x=some (.string (B a)))(hy:f.ev y=some (.string (B a))):Yd P f (op1 d (.binOp .neq t x y yt) ty pos af) (.bool false) w:=by
 have:=Y.nes (P:=P) (w:=w) (d:=d) (t:=t) (yt:=yt) (ty:=ty) (pos:=pos) (af:=af) hx hy
 simpa using this
end same
end
end Go.Proofs.YtbhbdeelpopgoaaGreatDoor.H

namespace Go.Proofs.YtbhbdeelpopgoaaGreatDoor.H
open Go.RowKit
def RS(P:Program)(f:Fr)(w:World):List ResultVar→List Value→Prop
 | [],[]=>True
 | .tmp t::rs,v::vs=>look f.e t=some v∧RS P f w rs vs
 | .cell t u::rs,v::vs=>(∃p,look f.e t=some (.pointer (some p))∧(loadVar u p).run P w = .ok v w)∧RS P f w rs vs
 | _,_=>False
section
variable {P : Program} {f : Fr} {w : World}
theorem load_many{u:TypeId}{n:Nat}[h:Many P u n]{a:Addr}{cs:List Value}(hl:cs.length=n)(hc : ∀j v,cs[j]?=some v→w.cell? (a.add j)=some v):(loadVar u a).run P w = .ok (.agg cs.toArray) w:=by
 have hr:=run_loadCells_list (P:=P) w a cs hc
 rw[hl] at hr
 simp[loadVar,h.agg,h.size,hr]
theorem load_block{u:TypeId}{n:Nat}[h:Many P u n]{g:Nat}{cs:List Value}{e:TypeId}{fz:Nat×Nat}(hb:w.heap[g]?=some (.cells cs.toArray e fz))(hl:cs.length=n):(loadVar u ⟨g,0,none⟩).run P w = .ok (.agg cs.toArray) w:=
 load_many hl fun j v hv=>by
  rw[addr_add,Nat.zero_add,cell_row (off:=0) hb]
  simpa using hv
abbrev rsM(tmps:Array Value)(r:ResultVar):Sem Value:=match r with
 | .tmp t=>pure (tmps.getD t undef)
 | .cell t u=>do loadVar u (←asAddr (tmps.getD t undef))
theorem rs_run{a:Act}(ha:Ag f a): ∀(rs:List ResultVar) (vs:List Value),RS P f w rs vs→(rs.mapM (rsM a.tmps)).run P w = .ok vs w:=by
 intro rs
 induction rs with
 | nil=>intro vs h; cases vs with|nil=>rfl|cons=>exact h.elim
 | cons r rs ih=>
  intro vs h
  cases vs with
  | nil=>cases r <;> exact h.elim
  | cons v vs=>
   have h1:(rsM a.tmps r).run P w = .ok v w:=by
    cases r with
    | tmp t=>simp only[rsM]; rw[ha.slot t v h.1]; rfl
    | cell t u=>
     obtain⟨⟨p,hp,hl⟩,h2⟩:=h
     simp only[rsM]
     rw[ha.slot t _ hp]
     simp[asAddr,hl]
   have h2:=ih vs (by cases r <;> exact h.2)
   simp only[List.mapM_cons,Sem.run_bind,h1,Result.andThen,h2]
   rfl
theorem results_list{fn:Func}{rs:List ResultVar}{vs:List Value}(hr:fn.results=rs.toArray)(h:RS P f w rs vs){a:Act}(ha:Ag f a):(results fn a.tmps).run P w = .ok (if h:vs.toArray.size=1 then vs.toArray[0] else .tuple vs.toArray) w:=by
 have h2:=rs_run ha rs vs h
 have e:(fn.results.mapM (rsM a.tmps)).run P w = .ok vs.toArray w:=by
  rw[hr,List.mapM_toArray]
  show(List.toArray <$> rs.mapM (rsM a.tmps)).run P w=_
  rw[map_eq_pure_bind,Sem.run_bind,h2]
  rfl
 unfold results
 rw[Sem.run_bind]
 exact(congrArg (fun(r:Result (Array Value))=>r.andThen fun vs w=>(pure (if h:vs.size=1 then vs[0] else Value.tuple vs):Sem Value).run P w) e).trans rfl
theorem FQ.res{fn:Func}{R:Ending→World→Prop}{rs:List ResultVar}{vs:List Value}(hr:fn.results=rs.toArray)(hd:f.ds=[])(h:RS P f w rs vs)(hn:Nat.beq vs.length 1=false)(hR:R (.returned (.tuple vs.toArray)) w):FQ P fn R .ret f w:=
 ⟨hd,_,fun a ha=>by rw[results_list hr h ha,dif_neg (by intro c; rw[List.size_toArray] at c; rw[c] at hn; cases hn)],hR⟩
end
end Go.Proofs.YtbhbdeelpopgoaaGreatDoor.H

namespace Go.Proofs.YtbhbdeelpopgoaaGreatDoor.H
open Go.RowKit
section
variable {M : Option (Option Nat)} {P : Program} {ops : Array Oper} {Q : Post} {rest : List Oper} {f : Fr} {w : World} {d : Nat} {ty : TypeId} {pos : String} {af : Array Edge}
theorem Y.loadBlock{t:TypeId}{n:Nat}[h:Many P t n]{x:Operand}{g:Nat}{c:Array Value}{e:TypeId}{fz:Nat×Nat}(hx:f.ev x=some (.pointer (some ⟨g,0,none⟩)))(hb:w.heap[g]?=some (.cells c e fz))(hl:Nat.beq c.size n=true):
  Yd P f (op1 d (.load t x) ty pos af) (.agg c) w:=by
 have:=Y.loadN (P:=P) (f:=f) (w:=w) (d:=d) (ty:=ty) (pos:=pos) (af:=af) (t:=t) (cs:=c.toList) hx (by simpa using Nat.eq_of_beq_eq_true hl) (fun j v hv=>by
  rw[addr_add,Nat.zero_add,cell_row (off:=0) hb]
  simpa using hv)
 simpa using this
theorem RW.storeBlock{t:TypeId}{n:Nat}[h:Many P t n]{x y:Operand}{g:Nat}{u:Array Value}{c:Array Value}{e:TypeId}(hx:f.ev x=some (.pointer (some ⟨g,0,none⟩)))(hy:f.ev y=some (.agg u))(hu:Nat.beq u.size n=true)(h1 : ∀z∈u.toList,z.oneCell'=true)
  (hb:w.heap[g]?=some (.cells c e (0,0))) (hj:Nat.beq c.size n=true)
  (k : ∀w',w'.heap[g]?=some (.cells u e (0,0))→Kept (fun k=>k=g) w w'→RW M P ops Q rest f w'):RW M P ops Q (op0 (.store t x y) ty pos af::rest) f w:=by
 have hu':=Nat.eq_of_beq_eq_true hu
 have hj':=Nat.eq_of_beq_eq_true hj
 refine RW.storeN (j:=0) (fun w=>h.size w) hx hy (by simpa [Value.cells] using hu') (by simpa [Value.cells] using h1) hb (by omega) fun w' hb' hk=>k w' ?_ hk
 rw[hb']
 have:c.toList.drop (0+n)=[]:=by rw[List.drop_eq_nil_iff]; simp; omega
 rw[this]
 simp[Value.cells]
end
end Go.Proofs.YtbhbdeelpopgoaaGreatDoor.H

namespace Go.Proofs.YtbhbdeelpopgoaaGreatDoor.H
open Go.RowKit
theorem CL.cutS{M:Option (Option Nat)}{P:Program}{Q:Post}{f:Fr}{w:World}{cs:List Code}{c:Code}(l:List Nat)(I:List Value→World→Prop)(hc:cs≠[])
  (h:CL M P (thenK (fun f' w'=>∃vals,looks f'.e l=some vals∧f'.n=f.n∧f'.ds=f.ds∧I vals w') Q) [c] f w) (hk : ∀vals w,I vals w→CL M P Q cs ⟨f.n,f.ds,l.zip vals⟩ w):CL M P Q (c::cs) f w:=by
 refine CL.cut _ h fun f' w' ⟨vals,h1,h2,h3,h4⟩=>?_
 have:=hk vals w' h4
 cases cs with
 | nil=>exact absurd rfl hc
 | cons d ds=>
  intro a ha
  refine this a ?_
  have hw:=ha.weaken (looks_zip f'.e l vals h1)
  rw[h2,h3] at hw
  exact hw
theorem rebase{P:Program}{ops:Array Oper}{Q:Post}{Z T:Nat→Prop}{n:Nat}{l:Array Bool}{f:Fr}{w0 w1 w2:World}(h:Kept Z w0 w1)(hk:Kept T w1 w2)(ht : ∀k,T k→Z k)(k:Kept Z w2 w2→AW P ops Q (fun w'=>Kept Z w2 w') n l f w2):
  Kept Z w0 w2∧AW P ops Q (fun w'=>Kept Z w0 w') n l f w2:=
 have h2:Kept Z w0 w2:=h.trans hk fun k hk'=> .inl (ht k hk')
 ⟨h2,AW.more (fun w hw=>h2.trans hw fun k hk'=> .inl hk') (k (Kept.refl Z w2))⟩
theorem rebase0{P:Program}{ops:Array Oper}{Q:Post}{n:Nat}{l:Array Bool}{f:Fr}{w0 w1 w2:World}(h:K0 w0 w1)(hk:K0 w1 w2)(k:K0 w2 w2→AW P ops Q (fun w'=>K0 w2 w') n l f w2):
  K0 w0 w2∧AW P ops Q (fun w'=>K0 w0 w') n l f w2:=rebase h hk (fun _ c=>c.elim) k
section
variable {P : Program} {ops : Array Oper} {Q : Post} {f : Fr} {w : World} {S : World → Prop}
theorem AW.one(i:Nat){o:Oper}{n:Nat}{l:Array Bool}(hi:ops[i]?=some o)(k:RW none P ops (thenK (fun f w=>S w∧AW P ops Q S n (l.setIfInBounds i true) f w) Q) [o] f w){a:Act}(ha:Ag f a):wpOp P ops (lift Q) i (fun a' w'=>S w'∧wpAnyH P .any ops (lift Q) S n (l.setIfInBounds i true) a' w') a w:=by
 have h:wpList P ops _ [o] a w:=k a ha
 unfold wpList at h
 unfold wpOp
 simp only[hi]
 have hq : ∀x a w,lift (thenK (fun f w=>S w∧AW P ops Q S n (l.setIfInBounds i true) f w) Q) x a w→match x with
   | .normal=>S w∧wpAnyH P .any ops (lift Q) S n (l.setIfInBounds i true) a w
   | x=>lift Q x a w:=by
  intro x a w ⟨g,hg,q⟩
  cases x with
  | normal=>exact⟨q.1,q.2 a hg⟩
  | _=>exact⟨g,hg,q⟩
 by_cases hw:Region.wanted o (yielded ops a.tmps)=true
 ·rw[if_pos hw] at h
  simp only[hw,if_true]
  rcases h with h|⟨h1,a0,w0,h2⟩
  ·left
   exact oper_mono (fun a w hk=>hq .normal a w hk) (fun c a w hk=>hq (.panic c) a w hk) (fun a w hk=>hq .outgrown a w hk) h
  ·exact .inr ⟨h1,a0,w0,hq .outgrown a0 w0 h2⟩
 ·rw[if_neg hw] at h
  simp only[hw,if_false,Bool.false_eq_true]
  exact hq .normal _ _ h
theorem AW.two(i j:Nat){oi oj:Oper}{n:Nat}{l:Array Bool}(hi:ops[i]?=some oi)(hj:ops[j]?=some oj)(hr:Region.ready .any ops l=[i,j])(ki:RW none P ops (thenK (fun f w=>S w∧AW P ops Q S n (l.setIfInBounds i true) f w) Q) [oi] f w)(kj:RW none P ops (thenK (fun f w=>S w∧AW P ops Q S n (l.setIfInBounds j true) f w) Q) [oj] f w):AW P ops Q S (n+1) l f w:=by
 intro a ha
 refine wpAnyH_all hr (by simp) fun k hk=>?_
 rcases List.mem_cons.1 hk with rfl|hk
 ·exact AW.one _ hi ki ha
 ·rw[List.mem_singleton.1 hk]
  exact AW.one _ hj kj ha
end
end Go.Proofs.YtbhbdeelpopgoaaGreatDoor.H

namespace Go.Proofs.YtbhbdeelpopgoaaGreatDoor.H
open Go.RowKit
section
variable {M : Option (Option Nat)} {P : Program} {ops : Array Oper} {Q : Post} {rest : List Oper} {f : Fr} {w : World} {d : Nat} {ty : TypeId} {pos : String} {af : Array Edge}
theorem RW.varN{t ty2:TypeId}{pos2:String}{af2:Array Edge}{z:Value}{sz b:Nat}[Inf P t z sz b][Many P t sz]{y:Operand}{u:Array Value}(hy:(f.put d (.pointer (some ⟨w.heap.size,0,none⟩))).ev y=some (.agg u))(hu:Nat.beq u.size sz=true)(hz:Nat.beq z.cells.size sz=true)(h1 : ∀z∈u.toList,z.oneCell'=true)(hd:Nat.blt d f.n=true)
  (k : ∀w',w'.heap[w.heap.size]?=some (.cells u t (0,0))→K0 w w'→w.heap.size < w'.heap.size→RW M P ops Q rest (f.put d (.pointer (some ⟨w.heap.size,0,none⟩))) w') :
  RW M P ops Q (op1 d (.alloc t) ty pos af::op0 (.store t (.tmp d) y) ty2 pos2 af2::rest) f w:=by
 refine RW.alloc hd fun w1 hb1 hk1 hlt1=>?_
 refine RW.storeBlock (g:=w.heap.size) ?_ hy hu h1 hb1 hz fun w2 hb2 hk2=>?_
 ·simp[Fr.ev,Fr.put,look]
 ·exact k w2 hb2 (hk1.trans hk2 fun k h=> .inr (by have h':k=w.heap.size:=h; omega)) (Nat.lt_of_lt_of_le hlt1 hk2.size)
end
end Go.Proofs.YtbhbdeelpopgoaaGreatDoor.H

namespace Go.Proofs.YtbhbdeelpopgoaaGreatDoor.H
open Go.RowKit
section
variable {P : Program} {ops : Array Oper} {Q : Post} {f : Fr} {w : World} {S : World → Prop}
theorem AW.takeOffU(i:Nat){op:Op}{ty:TypeId}{pos:String}{af:Array Edge}{d j t:Nat}{b:Bool}{n:Nat}{l:Array Bool}(hi:ops[i]?=some {dst:=some d,op:=op,type:=ty,pos:=pos,after:=af,guard:=some (j,b)})(hs:Region.noSelect ops=true)(hf:Region.free .any ops l i=true)(hr:(Region.ready .any ops l).contains i=true)
  [PI Q] (hj:(ops[j]?).bind (·.dst)=some t) (hn:Nat.blt t f.n=true) (hv:look f.e t=some undef) (hd:Nat.blt d f.n=true) (hS:S w) (k:AW P ops Q S n (l.setIfInBounds i true) (f.put d undef) w):AW P ops Q S (n+1) l f w:=by
 intro a ha
 exact wpAnyH_take hi hs hf hr (PI.lift _ _) (.inr ⟨by cases b <;> simp[Region.wanted,yieldsU ha hj hn hv],rfl⟩) hS (k _ (ha.put undef hd))
end
theorem elCells{α:Type}[Inhabited α]{w:World}{sz:Nat}{v:Value}{l:List α}{enc:α→List Value}(hs:Sl w sz v l.length (l.flatMap enc))(he : ∀x,(enc x).length=sz){i:Nat}(hi:i < l.length): ∀(j:Nat) (u:Value),(enc (l.getD i default))[j]?=some u→w.cell? ((Value.spot v ((i:Int).toNat * sz)).add j)=some u:=by
 intro j u hu
 obtain⟨g,o,h2,h3⟩:=spot_ptr hs (by omega) (i * sz)
 have hj:j < sz:=by have:=(List.getElem?_eq_some_iff.1 hu).1; rw[he] at this; exact this
 rw[Int.toNat_natCast,h2,addr_add,←h3 j]
 refine hs.cell ?_
 rw[cells_at he l i j (l.getD i default) (by simp[List.getD_eq_getElem?_getD,hi]) hj,hu]
theorem elPtr{w:World}{sz:Nat}{v:Value}{n:Nat}{xs:List Value}(hs:Sl w sz v n xs)(hn:0 < n)(k:Nat): ∃g o,Value.spot v k=⟨g,o,none⟩:=by
 obtain⟨g,o,h2,_⟩:=spot_ptr hs hn k
 exact⟨g,o,h2⟩
end Go.Proofs.YtbhbdeelpopgoaaGreatDoor.H

namespace Go.Proofs.YtbhbdeelpopgoaaGreatDoor.H
open Go.RowKit
def SeqT{α:Type}(P:Program)(gf:Nat)(cap:List Value)(enc:α→List Value)(S:Nat→Prop)(T:World→Prop)(Pre:World→Prop)(xs:List α):Prop:=
 ∀(l:Nat) (J Jx:List α→World→Prop) (W:World),Pre W→Abid S J→Abid S Jx→(∀pre W,J pre W→T W)→
  (∀pre x W1,J pre W1→(pre++[x]) <+: xs→YieldAt Fence.wide 0 P l (enc x).toArray W1 fun e W'=>
   (e = .returned (.bool true)∧J (pre++[x]) W'∧Same S W1 W')∨(e = .returned (.bool false)∧Jx (pre++[x]) W'))→
  J [] W→Calls P gf (.func (.yield l) #[] #[]::cap).toArray W fun e W'=>(∃v,e = .returned v)∧(J xs W'∨∃pre,Jx pre W')
section
variable {P : Program} {Q : Post} {cs : List Code} {f : Fr} {w : World}
theorem CL.rangeFuncT{α:Type}{g:Operand}{ps:List Nat}{assign body:Code}{gf:Nat}{cap:List Value}{enc:α→List Value}{S:Nat→Prop}{T:World→Prop}{Pre:World→Prop}{xs:List α}[he:Ent P gf]
  (hg:f.ev g=some (.func (.func gf) #[] cap.toArray)) (hseq:SeqT P gf cap enc S T Pre xs) (hpre : ∀W,K0 w W→Pre W) (hps : ∀x,(enc x).length=ps.length) (hpn : ∀p∈ps,Nat.blt p f.n=true)
  (hS : ∀k,S k→k < w.heap.size) (I:List α→World→Prop) (Ix:Option Nat→List α→World→Prop)
  (hI:Abid (fun k=>S k∨k=w.heap.size∨k=w.heap.size+1) I) (hIx : ∀c,Abid (fun k=>S k∨k=w.heap.size∨k=w.heap.size+1) (Ix c)) (h0:I [] w) (hT : ∀pre W,I pre W→T W)
  (hround : ∀l pre x W,I pre W→(pre++[x]) <+: xs→w.heap.size+2≤W.heap.size→
   CL (some (some l)) P (thenK (fun f1 W1=>W1=W∧∀W2,I pre W2→w.heap.size+2≤W2.heap.size→CL (some (some l)) P (RQ (fun k=>S k∨k=w.heap.size∨k=w.heap.size+1) I Ix (pre++[x]) W2) [body] f1 W2) (fun _ _ _=>False)) [assign] (Fr.puts ⟨f.n,[],f.e⟩ ps (enc x)) W)
  (hdone : ∀W,I xs W→W.heap[w.heap.size]?=some (.deferred (some []))→CL none P Q cs ⟨f.n,markOf w.heap.size::f.ds,f.e⟩ W)
  (hstop : ∀c pre W,Ix c pre W→W.heap[w.heap.size]?=some (.deferred (some []))→match c with
   | none=>Q .ret ⟨f.n,markOf w.heap.size::f.ds,f.e⟩ W
   | some k=>Q (.exit k) ⟨f.n,markOf w.heap.size::f.ds,f.e⟩ W) :
  CL none P Q (.rangeFunc g ps.toArray assign body::cs) f w:=by
 intro a ha
 show Code.wp P _ _ a w
 refine(wpIn_wide (n:=0)).1 (wpIn_rangeFunc fun fn _=>?_)
 have ha0:Ag ⟨f.n,[],f.e⟩ {tmps:=a.tmps,defers:=[]}:=⟨ha.size,rfl,ha.slot⟩
 have ham:Ag ⟨f.n,markOf w.heap.size::f.ds,f.e⟩ {a with defers:=[markOf w.heap.size]++a.defers}:=⟨ha.size,by simp[ha.defers],ha.slot⟩
 have hga:=ha.eval hg
 obtain⟨rec,hrec⟩ : ∃rec:LoopState→Option Code→Loop,rec=fun st pe=>{state:=st,pending:=pe,fn,tmps:=a.tmps,params:=ps.toArray,assign,body,defers:=w.heap.size}:=⟨_,rfl⟩
 obtain⟨W1,hW1⟩ : ∃W1,(w.alloc (.deferred (some []))).alloc (.loop (rec .ready none))=W1:=⟨_,rfl⟩
 have hL1:W1.heap[w.heap.size+1]?=some (.loop (rec .ready none)):=by
  rw[←hW1]; have:=World.alloc_heap_new (w.alloc (.deferred (some []))) (.loop (rec .ready none)); rwa [World.size_alloc] at this
 have hK1:W1.heap[w.heap.size]?=some (.deferred (some [])):=by
  rw[←hW1]; exact(Below.heap_alloc _ _ _ (by simp)).trans (World.alloc_heap_new w _)
 have hk1:K0 w W1:=by rw[←hW1]; exact(Kept.alloc w _).trans0 (Kept.alloc _ _)
 have hI1:I [] W1:=hI _ _ _ h0 hk1.of0
 refine⟨w.heap.size+1,[markOf w.heap.size],W1,{target:= .fn (.func gf) cap.toArray,args:=#[.func (.yield (w.heap.size+1)) #[] #[]]},W1,gf,
  #[.func (.yield (w.heap.size+1)) #[] #[]]++cap.toArray,W1,?_,?_,?_,?_,?_,?_⟩
 ·rw[←hW1,hrec]; exact run_enterLoop_outer _ _ _ _ _
 ·simp only[resolve,hga]
  simp[go_sem]
 ·intro _ _; trivial
 ·simp[invoke,go_sem,he.out]
 ·intro c; simp[Fence.wide] at c
 refine callsIn_wide.2 ?_
 have hargs:#[.func (.yield (w.heap.size+1)) #[] #[]]++cap.toArray=(Value.func (.yield (w.heap.size+1)) #[] #[]::cap).toArray:=by simp
 rw[hargs]
 have hput : ∀{k:Nat},k=w.heap.size+1→S k∨k=w.heap.size∨k=w.heap.size+1:=fun h=> .inr (.inr h)
 refine Calls.mono (hseq (w.heap.size+1)
  (fun pre W=>I pre W∧W.heap[w.heap.size+1]?=some (.loop (rec .ready none))∧W.heap[w.heap.size]?=some (.deferred (some [])))
  (fun pre W=>∃c,Ix c pre W∧W.heap[w.heap.size+1]?=some (.loop (rec .done (some (jumpOf c))))∧W.heap[w.heap.size]?=some (.deferred (some [])))
  W1 (hpre _ hk1) ?_ ?_ (fun pre W h=>hT pre W h.1) ?_ ⟨hI1,hL1,hK1⟩) ?_
 ·rintro s A B ⟨h1,h2,h3⟩ hk
  exact⟨hI _ _ _ h1 (hk.mono fun k h=> .inl h),hk.at h2 (fun c=>by have:=hS _ c; omega),hk.at h3 (fun c=>by have:=hS _ c; omega)⟩
 ·rintro s A B ⟨c,h1,h2,h3⟩ hk
  exact⟨c,hIx _ _ _ _ h1 (hk.mono fun k h=> .inl h),hk.at h2 (fun c=>by have:=hS _ c; omega),hk.at h3 (fun c=>by have:=hS _ c; omega)⟩
 ·
  rintro pre x W ⟨hi,hl,hk⟩ hpf
  have hlt:w.heap.size+1 < W.heap.size:=(Array.getElem?_eq_some_iff.1 hl).1
  have hy:=run_yield (P:=P) (args:=(enc x).toArray) hl (by rw[hrec]; simp[hps x])
  rw[hrec] at hy
  refine⟨fn,_,assign,body,hy,roundIn_of_wpIn trivial ?_⟩
  have hag:=Ag.puts ps (enc x) ha0 hpn
  have hw:=CL.one (hround (w.heap.size+1) pre x W hi hpf hlt) _ hag
  have hin:Rd1 (some (w.heap.size+1))=Fence.wide.inRound (w.heap.size+1):=rfl
  have htm:(ps.toArray.zip (enc x).toArray).foldl (fun tmps (x:Tmp×Value)=>match x with|(t,a)=>tmps.setIfInBounds t a) a.tmps=(ps.zip (enc x)).foldl (fun t (x:Nat×Value)=>t.setIfInBounds x.1 x.2) a.tmps:=by
   rw[List.zip_toArray,List.foldl_toArray]
  rw[htm]
  refine wpIn_mono (show Code.wpIn (Fence.wide.inRound (w.heap.size+1)) 0 P assign _ _ W from hw) ?_
  rintro e a1 W' ⟨f1,hf1,q⟩
  cases e with
  | normal=>
   obtain⟨rfl,q⟩:=q
   refine⟨_,run_beginRound hl (by rw[hrec]),?_⟩
   obtain⟨W2,hW2⟩ : ∃W2,W'.putObj (w.heap.size+1) (.loop {rec .ready none with state:= .busy})=W2:=⟨_,rfl⟩
   have hl2:W2.heap[w.heap.size+1]?=some (.loop {rec .ready none with state:= .busy}):=by rw[←hW2]; exact World.putObj_heap_same hlt
   have hk2:W2.heap[w.heap.size]?=some (.deferred (some [])):=by rw[←hW2]; exact(World.putObj_heap_other (by omega)).trans hk
   have hkp2:Kept (fun k=>k=w.heap.size+1) W' W2:=by rw[←hW2]; exact kept_putObj _ _ _
   have hi2:=hI _ _ _ hi (hkp2.mono fun k h=>hput h)
   rw[hW2]
   have hb:=CL.one (q W2 hi2 (by have:=hkp2.size; omega)) a1 hf1
   refine wpIn_mono (show Code.wpIn (Fence.wide.inRound (w.heap.size+1)) 0 P body _ _ W2 from hb) ?_
   have fin : ∀(jump:Option Code) (W3:World),Same (fun k=>S k∨k=w.heap.size∨k=w.heap.size+1) W2 W3→
     ∃W4,(Instr.endRound (w.heap.size+1) jump).run P W3 = .ok (.bool jump.isNone) W4∧Kept (fun k=>k=w.heap.size+1) W3 W4∧
     W4.heap[w.heap.size+1]?=some (.loop (rec (if jump.isNone then .ready else .done) jump))∧W4.heap[w.heap.size]?=some (.deferred (some []))∧Same S W' W4:=fun jump W3 hs3=>by
    have hl3:=(hs3.2 _ (.inr (.inr rfl))).trans hl2
    have hk3:=(hs3.2 _ (.inr (.inl rfl))).trans hk2
    have:=run_endRound (P:=P) jump hl3
    rw[hrec] at this ⊢
    refine⟨_,this,kept_putObj _ _ _,World.putObj_heap_same (Array.getElem?_eq_some_iff.1 hl3).1,(World.putObj_heap_other (by omega)).trans hk3,?_⟩
    have hne : ∀k,S k→k≠w.heap.size+1:=fun k hk=>by have:=hS k hk; omega
    refine⟨by have h1:=hkp2.size; have h2:=hs3.1; simp; omega,fun k hk=>?_⟩
    rw[World.putObj_heap_other (hne k hk),hs3.2 k (.inl hk),←hW2,World.putObj_heap_other (hne k hk)]
   rintro e a3 W3 ⟨f3,hf3,hp⟩
   cases e with
   | normal=>
    obtain⟨hs3,hi3⟩:=hp
    obtain⟨W4,hr,hk4,hl4,hd4,hs4⟩:=fin none W3 hs3
    exact⟨_,_,hr,.inl ⟨rfl,⟨hI _ _ _ hi3 (hk4.mono fun k h=>hput h),hl4,hd4⟩,hs4⟩⟩
   | ret=>
    obtain⟨hs3,hi3⟩:=hp
    obtain⟨W4,hr,hk4,hl4,hd4,hs4⟩:=fin (some .ret) W3 hs3
    exact⟨_,_,hr,.inr ⟨rfl,none,hIx _ _ _ _ hi3 (hk4.mono fun k h=>hput h),hl4,hd4⟩⟩
   | exit k=>
    obtain⟨hs3,hi3⟩:=hp
    obtain⟨W4,hr,hk4,hl4,hd4,hs4⟩:=fin (some (.exit k)) W3 hs3
    exact⟨_,_,hr,.inr ⟨rfl,some k,hIx _ _ _ _ hi3 (hk4.mono fun k h=>hput h),hl4,hd4⟩⟩
   | goto t=>exact hp.elim
   | panic ch=>exact hp.elim
   | outgrown=>exact hp.elim
  | _=>exact q.elim
 ·
  rintro e W2 ⟨⟨v,rfl⟩,(⟨hi,hl,hk⟩|⟨pre,c,hi,hl,hk⟩)⟩
  ·have hend:=run_endLoop (P:=P) hl (by rw[hrec]; simp)
   rw[hrec] at hend
   exact⟨none,_,hend,⟨_,ham,hdone _ (hI _ _ _ hi ((kept_putObj _ _ _).mono fun k h=>hput h)) ((World.putObj_heap_other (by omega)).trans hk)⟩⟩
  ·have hend:(Instr.endLoop (w.heap.size+1)).run P W2 = .ok (some (jumpOf c)) (W2.putObj (w.heap.size+1) (.loop {rec .done (some (jumpOf c)) with state:= .exhausted})):=by
    have:=run_endLoop (P:=P) hl (by rw[hrec]; simp)
    rw[this,hrec]
   have hIx4:=hIx c _ _ _ hi ((kept_putObj W2 (w.heap.size+1) (.loop {rec .done (some (jumpOf c)) with state:= .exhausted})).mono fun k h=>hput h)
   have hd4:(W2.putObj (w.heap.size+1) (.loop {rec .done (some (jumpOf c)) with state:= .exhausted})).heap[w.heap.size]?=some (.deferred (some [])):=(World.putObj_heap_other (by omega)).trans hk
   have hs:=hstop c pre _ hIx4 hd4
   refine⟨some (jumpOf c),_,hend,?_⟩
   cases c with
   | none=>exact wpIn_ret ⟨_,ham,hs⟩
   | some k=>exact wpIn_exit ⟨_,ham,hs⟩
end
end Go.Proofs.YtbhbdeelpopgoaaGreatDoor.H

namespace Go.Proofs.YtbhbdeelpopgoaaGreatDoor.H
open Go.RowKit
section
variable {P : Program} {f : Fr} {w : World}
end
end Go.Proofs.YtbhbdeelpopgoaaGreatDoor.H

set_option linter.constructorNameAsVariable false
set_option linter.unusedVariables false
namespace Go.Proofs.YtbhbdeelpopgoaaGreatDoor.E
open Go Go.RowKit H
section
variable {P : Program} {fl n : Nat}
section
variable {S : Nat → Prop} {w0 : World} {r r' : Ren} {h h' : Hp} {w w' : World}
theorem Rel.other{T:Nat→Prop}(H:Rel S w0 fl r h w)(k:Kept T w w')(hT : ∀i p,r i=some p→¬T p.1)(h0 : ∀x,T x→S x∨w0.heap.size≤x):Rel S w0 fl r h w':=
 ⟨fun i b hi hb=>by
   obtain⟨p,hp,hB⟩:=H.live i b hi hb
   exact⟨p,hp,hB.of (k.block _ (H.dom i p hp) (hT i p hp))⟩,
  H.inj,H.fresh,H.lim,H.glob,H.may,fun i p hp=>Nat.lt_of_lt_of_le (H.dom i p hp) k.size,H.kept.trans k h0,H.base,H.hol,H.full,H.top⟩
theorem Rel.none_of{T:Nat→Prop}(H:Rel S w0 fl r h w)(H':Rel (Wr fl r) w fl r' h' w')(hx:Ext r r')(hN : ∀i p,r i=some p→¬T p.1)(hT : ∀x,T x→x < w.heap.size): ∀i p,r' i=some p→¬T p.1:=fun i p hp c=>by
 rcases Nat.lt_or_ge i h.next with q|q
 ·rcases H.full i q with z|⟨p0,hp0⟩
  ·have:=(H'.hol i (hx.h i z)).1
   rw[this] at hp; cases hp
  ·have:=hx.v i p0 hp0
   rw[hp] at this; cases this
   exact hN i p hp0 c
 ·rcases H'.may i p (Nat.le_trans H.base.1 q) hp with ⟨j,z,_,hz,e⟩|z
  ·exact hN j z hz (e▸c)
  ·have:=hT _ c
   omega
end
noncomputable def asgT(o:Oper):Option (Tmp×Tmp):=match o.op,o.guard,o.dst with
 | .assign (.tmp t),none,some d=>some (d,t)
 | _,_,_=>none
theorem asgT_ok{o:Oper}{d t:Tmp}(h:asgT o=some (d,t)):o.op = .assign (.tmp t)∧o.guard=none∧o.dst=some d:=by
 unfold asgT at h
 split at h
 ·cases h; exact⟨by assumption,by assumption,by assumption⟩
 ·cases h
noncomputable def asgsK(n:Nat)(l:List Oper):Tr AV→(Tr AV→Bool)→Bool:=List.rec (motive:=fun _=>Tr AV→(Tr AV→Bool)→Bool) (fun env k=>k env)
 (fun o _ ih env k=>someK (asgT o) fun q=>ask (Nat.blt q.2 4096) (getV q.2 env fun v=>setE n (some q.1) v env fun env=>ih env k)) l
noncomputable def asgsF:List Oper→Fr→Fr
 | [],f=>f
 | o::l,f=>asgsF l (match asgT o with
  | some q=>f.put q.1 ((H.look f.e q.2).getD undef)
  | none=>f)
noncomputable def asgF(c:Code)(f:Fr):Fr:=match c with
 | .region _ ops false=>asgsF ops.toList f
 | _=>f
theorem asgsF_n: ∀(l:List Oper) (f:Fr),(asgsF l f).n=f.n∧(asgsF l f).ds=f.ds
 | [],f=>⟨rfl,rfl⟩
 | o::l,f=>by
  rw[asgsF]
  obtain⟨h1,h2⟩:=asgsF_n l (match asgT o with
   | some q=>f.put q.1 ((H.look f.e q.2).getD undef)
   | none=>f)
  rw[h1,h2]
  cases asgT o <;> exact⟨rfl,rfl⟩
theorem asgF_n(c:Code)(f:Fr):(asgF c f).n=f.n∧(asgF c f).ds=f.ds:=by
 unfold asgF
 split
 ·exact asgsF_n _ f
 ·exact⟨rfl,rfl⟩
structure AsgR (P:Program) (n:Nat) (c:Code) (env env':Tr AV):Prop where
 run : ∀(M:Option (Option Nat)) Q W (f:Fr),f.n=n→(∃r,FrOk r env f)→Q .normal (asgF c f) W→CL M P Q [c] f W
 ok : ∀r (f:Fr),FrOk r env f→FrOk r env' (asgF c f)
theorem asgsK_ok{ops:Array Oper}: ∀{l:List Oper} {env:Tr AV} {k:Tr AV→Bool},asgsK n l env k=true→∃env',k env'=true∧(∀(M:Option (Option Nat)) Q W (f:Fr),f.n=n→(∃r,FrOk r env f)→Q .normal (asgsF l f) W→RW M P ops Q l f W)∧∀r (f:Fr),FrOk r env f→FrOk r env' (asgsF l f)
 | [],env,k,hk=>⟨env,hk,fun M Q W f hn _ hQ=>RW.nil hQ,fun r f h=>h⟩
 | o::l,env,k,hk=>by
  obtain⟨⟨d,t⟩,ho,hk⟩:=someK_ok hk
  obtain⟨h1,h2,h3⟩:=asgT_ok ho
  obtain⟨ht,hk⟩:=ask_ok hk
  have ht:t < LIM:=Nat.lt_of_lt_of_le (blt_lt ht) (by decide)
  obtain⟨v,hv,hk⟩:=getV_ok hk
  obtain⟨env1,hk,hd,hs⟩:=setE_ok hk
  obtain⟨env',hk,hE,hO⟩:=asgsK_ok (ops:=ops) hk
  have one : ∀r (f:Fr),FrOk r env f→FrOk r env1 (f.put d ((H.look f.e t).getD undef)):=fun r f h=>by
   obtain⟨u,hu,hl⟩:=h t v ht hv
   rw[hl]
   exact hs r f u h hu
  refine⟨env',hk,fun M Q W f hn hf hQ=>?_,fun r f h=>?_⟩
  ·obtain⟨r,hr⟩:=hf
   obtain⟨u,hu,hl⟩:=hr t v ht hv
   have hx:f.ev (.tmp t)=some u:=hl
   have h1':=one r f hr
   rw[asgsF,ho] at hQ
   simp only[hl,Option.getD_some] at hQ h1'
   refine RW.gen (x:= .value u) (u:=u) (w':=W) h2 (by rw[h3,hn]; exact hd) (.inl rfl) (fun a ha=>?_) ?_
   ·have e:=ha.eval hx
    obtain⟨dst,op,ty,pos,af,g⟩:=o
    cases h1
    simp[execOp,e]
   ·rw[h3]
    exact hE M Q W _ hn ⟨r,h1'⟩ hQ
  ·rw[asgsF,ho]
   exact hO r _ (one r f h)
noncomputable def asgK(n:Nat)(c:Code)(env:Tr AV)(k:Tr AV→Bool):Bool:=match c with
 | .region _ ops false=>asgsK n ops.toList env k
 | _=>false
theorem asgK_ok{c:Code}{env:Tr AV}{k:Tr AV→Bool}(hk:asgK n c env k=true): ∃env',k env'=true∧AsgR P n c env env':=by
 unfold asgK at hk
 split at hk
 ·rename_i id ops
  obtain⟨env',h1,h2,h3⟩:=asgsK_ok (P:=P) (ops:=ops) hk
  refine⟨env',h1,fun M Q W f hn hf hQ=>?_,fun r f h=>h3 r f h⟩
  have:=CL.region (M:=M) (P:=P) (Q:=Q) (cs:=[]) (id:=id) (l:=ops.toList) (f:=f) (w:=W) (h2 M _ W f hn hf hQ)
  simpa using this
 ·cases hk
def ItOk(P:Program)(F:FuncId)(itf:List Nat→List Nat→(List (List Nat)→Bool)→Bool)(Tk:Hp→Bool)(T:World→Prop):Prop:=
 Ent P F∧(∀fl S w0 r h w,Rel S w0 fl r h w→Tk h=true→T w)∧∀s t k,itf s t k=true→∃xs:List (List Nat),k xs=true∧(∀x∈xs,Bytes x)∧∀w,Bytes s→Bytes t→T w→
  Calls P F #[.string (B (textOf s)),.string (B (textOf t))] w fun e w'=>K0 w w'∧∃gf cap Sb Pre,Ent P gf∧e = .returned (.func (.func gf) #[] cap.toArray)∧(∀k,Sb k→w.heap.size≤k∧k < w'.heap.size)∧SeqT P gf cap (fun x:List UInt8=>[.string (B x)]) Sb T Pre (xs.map textOf)∧∀W,K0 w' W→Pre W
noncomputable def noDr:DrawF:=fun _ _ _ _=>false
theorem noDr_ok{Ms:Option (Option Nat)→Prop}{G:Array Oper→Prop}:DrawM Ms P fl n G noDr:=fun ops env h k _ hk=>by cases hk
def inR(M:Option (Option Nat)):Prop:=∃l,M=some (some l)
noncomputable def rangeK(P:Program)(fl n m:Nat)(call:CallF)(Tk:Hp→Bool)(p:Tmp)(asg body:Code)(env:Tr AV)(xs:List (List Nat)):Hp→(Out→Hp→Bool)→Bool:=List.rec (motive:=fun _=>Hp→(Out→Hp→Bool)→Bool) (fun h k=>ask (Tk h) (k .nm h))
 (fun x _ ih h k=>ask (Tk h) (setE n (some p) (.str x) env fun env1=>asgK n asg env1 fun env2=>codeK P fl n m call noDr body env2 h fun out _ h=>Out.rec (motive:=fun _=>Bool) (ih h k) (fun j=>k (.ex j) h) (k .ret h) (fun _=>false) out)) xs
def BodyR(P:Program)(fl n:Nat)(p:Tmp)(asg body:Code)(env:Tr AV)(x:List Nat)(h:Hp)(out:Out)(h':Hp):Prop:=Nat.blt p n=true∧∃env1 env2 env',(∀(r:Ren) (f:Fr) u,FrOk r env f→real r (.str x)=some u→FrOk r env1 (f.put p u))∧AsgR P n asg env1 env2∧CodeM inR P fl n body env2 h out env' h'
inductive RoundsR (P:Program) (fl n:Nat) (Tk:Hp→Bool) (p:Tmp) (asg body:Code) (env:Tr AV) (out:Out) (hf:Hp):List (List Nat)→Hp→Prop where
 | nil:Tk hf=true→out = .nm→RoundsR P fl n Tk p asg body env out hf [] hf
 | last {x rest h}:Tk h=true→out≠.nm→(∀v,out≠.pan v)→BodyR P fl n p asg body env x h out hf→RoundsR P fl n Tk p asg body env out hf (x::rest) h
 | more {x rest h h1}:Tk h=true→BodyR P fl n p asg body env x h .nm h1→RoundsR P fl n Tk p asg body env out hf rest h1→RoundsR P fl n Tk p asg body env out hf (x::rest) h
theorem RoundsR.tk{Tk:Hp→Bool}{p:Tmp}{asg body:Code}{env:Tr AV}{out:Out}{hf:Hp}{xs:List (List Nat)}{h:Hp}(hr:RoundsR P fl n Tk p asg body env out hf xs h):Tk h=true:=by
 cases hr <;> assumption
theorem regs_true: ∀c:Code,Regs (fun _=>True) c:=by
 intro c
 induction c with
 | region id ops d=>cases d <;> trivial
 | seq a b ha hb=>exact⟨ha,hb⟩
 | cond x a b ha hb=>exact⟨ha,hb⟩
 | block i a ha=>exact ha
 | loop a ha=>exact ha
 | _=>trivial
theorem rangeK_ok{m:Nat}{call:CallF}{Tk:Hp→Bool}{p:Tmp}{asg body:Code}{env:Tr AV}(hc:CallOk P fl call): ∀{xs:List (List Nat)} {h:Hp} {k:Out→Hp→Bool},rangeK P fl n m call Tk p asg body env xs h k=true→
  ∃out h',k out h'=true∧RoundsR P fl n Tk p asg body env out h' xs h
 | [],h,k,hk=>by
  obtain⟨ht,hk⟩:=ask_ok hk
  exact⟨.nm,h,hk,.nil ht rfl⟩
 | x::xs,h,k,hk=>by
  obtain⟨ht,hk⟩:=ask_ok hk
  obtain⟨env1,hk,hd,hs⟩:=setE_ok hk
  obtain⟨env2,hk,hA⟩:=asgK_ok (P:=P) hk
  obtain⟨out,env',h1,hk,hC⟩:=codeK_ok (Ms:=inR) (G:=fun _=>True) hc noDr_ok body (regs_true body) env2 h _ hk
  have hb:BodyR P fl n p asg body env x h out h1:=⟨hd p rfl,env1,env2,env',hs,hA,hC⟩
  cases out with
  | nm=>
   obtain⟨out,h',hk,hr⟩:=rangeK_ok hc (xs:=xs) hk
   exact⟨out,h',hk,.more ht hb hr⟩
  | ex i=>exact⟨_,_,hk,.last ht (by simp) (by simp) hb⟩
  | ret=>exact⟨_,_,hk,.last ht (by simp) (by simp) hb⟩
  | pan v=>cases hk
theorem drop_of{xs:List (List Nat)}{pre:List (List UInt8)}{x:List UInt8}(h:(pre++[x]) <+: xs.map textOf): ∃y rest,xs.drop pre.length=y::rest∧textOf y=x∧y∈xs∧xs.drop (pre++[x]).length=rest:=by
 obtain⟨tl,ht⟩:=h
 have h1:(xs.drop pre.length).map textOf=x::tl:=by
  rw[List.map_drop,←ht]
  simp
 cases e:xs.drop pre.length with
 | nil=>rw[e] at h1; cases h1
 | cons y rest=>
  rw[e,List.map_cons] at h1
  injection h1 with h1 _
  refine⟨y,rest,rfl,h1,List.mem_of_mem_drop (by rw[e]; exact List.mem_cons_self ..),?_⟩
  rw[List.length_append,List.length_singleton,←List.drop_drop,e]
  rfl
theorem range_ok{Tk:Hp→Bool}{T:World→Prop}{g p:Nat}{asg body:Code}{env:Tr AV}{out:Out}{hf h:Hp}{xs:List (List Nat)}(hr:RoundsR P fl n Tk p asg body env out hf xs h)(hxs : ∀x∈xs,Bytes x)(hpn:Nat.blt p n=true)
  {S:Nat→Prop} {w0:World} (hTk : ∀r h w,Rel S w0 fl r h w→Tk h=true→T w) {r:Ren} {f:Fr} {w:World} {gf:FuncId} {cap:List Value} {Sb:Nat→Prop} {Pre:World→Prop} {Q:Post} (he:Ent P gf) (hn:f.n=n)
  (hg:f.ev (.tmp g)=some (.func (.func gf) #[] cap.toArray)) (hF:FrOk r env f) (hR:Rel S w0 fl r h w) (hSb : ∀k,Sb k→k < w.heap.size∧(S k∨w0.heap.size≤k)) (hN : ∀i p,r i=some p→¬Sb p.1)
  (hseq:SeqT P gf cap (fun x:List UInt8=>[.string (B x)]) Sb T Pre (xs.map textOf)) (hpre : ∀W,K0 w W→Pre W)
  (K : ∀r' W,Ext r r'→Rel S w0 fl r' hf W→W.heap[w.heap.size]?=some (.deferred (some []))→(∀i p,r' i=some p→p.1≠w.heap.size)→match out with
   | .nm=>Q .normal ⟨f.n,markOf w.heap.size::f.ds,f.e⟩ W
   | .ex j=>Q (.exit j) ⟨f.n,markOf w.heap.size::f.ds,f.e⟩ W
   | .ret=>Q .ret ⟨f.n,markOf w.heap.size::f.ds,f.e⟩ W
   | .pan _=>True):CL none P Q [.rangeFunc (.tmp g) #[p] asg body] f w:=by
 have hsz0:=hR.kept.size
 have hSx : ∀x,(Sb x∨x=w.heap.size∨x=w.heap.size+1)→S x∨w0.heap.size≤x:=by
  rintro x (q|rfl|rfl)
  ·exact(hSb x q).2
  ·exact .inr hsz0
  ·exact .inr (Nat.le_succ_of_le hsz0)
 have hSl : ∀x,(Sb x∨x=w.heap.size∨x=w.heap.size+1)→x < w.heap.size+2:=by
  rintro x (q|rfl|rfl)
  ·have:=(hSb x q).1; omega
  ·omega
  ·omega
 refine CL.rangeFuncT (ps:=[p]) (cap:=cap) hg hseq hpre (fun _=>rfl) (fun q hq=>by rw[List.mem_singleton.1 hq,hn]; exact hpn) (fun k hk=>(hSb k hk).1)
  (fun pre W=>∃hp r',RoundsR P fl n Tk p asg body env out hf (xs.drop pre.length) hp∧Ext r r'∧Rel S w0 fl r' hp W∧∀i p,r' i=some p→¬(Sb p.1∨p.1=w.heap.size∨p.1=w.heap.size+1))
  (fun c pre W=>(match out,c with
   | .ret,none=>True
   | .ex j,some k=>j=k
   | _,_=>False)∧∃r',Ext r r'∧Rel S w0 fl r' hf W∧∀i p,r' i=some p→¬(Sb p.1∨p.1=w.heap.size∨p.1=w.heap.size+1))
  (fun s W W' ⟨hp,r',a,b,c,d⟩ k=>⟨hp,r',a,b,c.other k d hSx,d⟩) (fun c s W W' ⟨q,r',b,e,d⟩ k=>⟨q,r',b,e.other k d hSx,d⟩)
  ⟨h,r,by simpa using hr,Ext.refl r,hR,fun i p hp=>by
   have:=hR.dom i p hp
   rintro(q|q|q)
   ·exact hN i p hp q
   ·omega
   ·omega⟩
  (fun pre W ⟨hp,r',a,b,c,d⟩=>hTk r' hp W c a.tk) ?_ ?_ ?_
 ·
  rintro l pre x W ⟨hp,r1,hr1,hx1,hR1,hN1⟩ hpf hsz
  obtain⟨y,rest,ey,rfl,hy,erest⟩:=drop_of hpf
  have hby:=hxs y hy
  have first : ∃o h',BodyR P fl n p asg body env y hp o h':=by
   rw[ey] at hr1
   cases hr1 with
   | last _ _ _ hb=>exact⟨_,_,hb⟩
   | more _ hb _=>exact⟨_,_,hb⟩
  obtain⟨o,h',_,env1,env2,env',hs,hA,_⟩:=first
  have hf0 : ∀r',Ext r r'→FrOk r' env ⟨f.n,[],f.e⟩:=fun r' hx t v a b=>hF.mono hx t v a b
  refine hA.run (some (some l)) _ W _ hn ⟨r1,hs r1 _ _ (hf0 r1 hx1) (str_real hby)⟩ ⟨rfl,?_⟩
  rintro W2 ⟨hp2,r2,hr2,hx2,hR2,hN2⟩ hsz2
  have same : ∀r3 h3 W3,Rel (Wr fl r2) W2 fl r3 h3 W3→Same (fun k=>Sb k∨k=w.heap.size∨k=w.heap.size+1) W2 W3:=fun r3 h3 W3 hR3=>Same.of hR3.kept fun k hk=>⟨Nat.lt_of_lt_of_le (hSl k hk) hsz2,fun⟨i,q,_,hq,e⟩=>hN2 i q hq (e▸hk)⟩
  have names : ∀r3 h3 W3,Ext r2 r3→Rel (Wr fl r2) W2 fl r3 h3 W3→∀i p,r3 i=some p→¬(Sb p.1∨p.1=w.heap.size∨p.1=w.heap.size+1):=fun r3 h3 W3 hx3 hR3=>hR2.none_of (T:=fun k=>Sb k∨k=w.heap.size∨k=w.heap.size+1) hR3 hx3 hN2 fun x hx=>Nat.lt_of_lt_of_le (hSl x hx) hsz2
  have body : ∀o h',BodyR P fl n p asg body env y hp2 o h'→∀Q',Ends (Wr fl r2) W2 fl n [] r2 o (.e:Tr AV) h' Q'→CL (some (some l)) P Q' [body] (asgF asg (Fr.puts ⟨f.n,[],f.e⟩ [p] [.string (B (textOf y))])) W2:=by
   rintro o h' ⟨_,e1,e2,e',hs',hA',hC⟩ Q' hE
   have hds:(asgF asg (Fr.puts ⟨f.n,[],f.e⟩ [p] [.string (B (textOf y))])).ds=[]:=(asgF_n _ _).2
   refine CL_of_CW (hC (some (some l)) ⟨l,rfl⟩ (Wr fl r2) W2 r2 _ W2 Q' ((asgF_n _ _).1.trans hn) (hA'.ok r2 _ (hs' r2 _ _ (hf0 r2 hx2) (str_real hby))) hR2.self ?_)
   intro r3 f3 W3 a b c d e
   exact hE r3 f3 W3 a (b.trans hds) c (fun t v _ hv=>by rw[Tr.get_e] at hv; cases hv) e
  rw[ey] at hr2
  cases hr2 with
  | last ht ho hnp hb=>
   refine body _ _ hb _ fun r3 f3 W3 a b c d e=>?_
   cases out with
   | nm=>exact absurd rfl ho
   | ex j=>exact⟨same _ _ _ e,rfl,r3,hx2.trans c,hR2.back e,names _ _ _ c e⟩
   | ret=>exact⟨same _ _ _ e,trivial,r3,hx2.trans c,hR2.back e,names _ _ _ c e⟩
   | pan v=>exact absurd rfl (hnp v)
  | more ht hb hr3=>
   refine body _ _ hb _ fun r3 f3 W3 a b c d e=>?_
   exact⟨same _ _ _ e,_,r3,by rw[erest]; exact hr3,hx2.trans c,hR2.back e,names _ _ _ c e⟩
 ·rintro W ⟨hp,r',hr',hx',hR',hN'⟩ hD
  rw[List.length_map,List.drop_length] at hr'
  cases hr' with
  | nil ht ho=>
   subst ho
   exact K r' W hx' hR' hD fun i p hp c=>hN' i p hp (.inr (.inl c))
 ·rintro c pre W ⟨hc,r',hx',hR',hN'⟩ hD
  have hK:=K r' W hx' hR' hD fun i p hp c=>hN' i p hp (.inr (.inl c))
  cases out with
  | nm=>cases c <;> exact hc.elim
  | ex j=>
   cases c with
   | none=>exact hc.elim
   | some k=>cases hc; exact hK
  | ret=>
   cases c with
   | none=>exact hK
   | some k=>exact hc.elim
  | pan v=>cases c <;> exact hc.elim
end
end Go.Proofs.YtbhbdeelpopgoaaGreatDoor.E

set_option linter.constructorNameAsVariable false
set_option linter.unusedVariables false
namespace Go.Proofs.YtbhbdeelpopgoaaGreatDoor.E
open Go Go.RowKit H
section
variable {P : Program} {fl n : Nat}
noncomputable def splOp(F:FuncId)(o:Oper):Option (Tmp×Operand×Operand):=match o.op,o.guard,o.dst with
 | .call c,none,some g=>(match c.callee,c.args.toList with
  | .value (.func f),[x,y]=>ifeV (Nat.beq f F) (some (g,x,y)) none
  | _,_=>none)
 | _,_,_=>none
theorem splOp_ok{F:FuncId}{o:Oper}{q:Tmp×Operand×Operand}(h:splOp F o=some q): ∃ats ty pos af,o=op1 q.1 (.call {callee:= .value (.func F),args:=[q.2.1,q.2.2].toArray,argTypes:=ats}) ty pos af:=by
 obtain⟨dst,op,ty,pos,af,g⟩:=o
 cases op <;> first|(cases h; done)|skip
 rename_i c
 obtain⟨cal,args,ats⟩:=c
 cases g with
 | some g=>cases h
 | none=>
  cases dst with
  | none=>cases h
  | some d=>
   cases cal <;> first|(cases h; done)|skip
   rename_i x
   cases x <;> first|(cases h; done)|skip
   rename_i f
   obtain⟨l⟩:=args
   cases l with
   | nil=>cases h
   | cons x l=>
    cases l with
    | nil=>cases h
    | cons y l=>
     cases l with
     | cons z l=>cases h
     | nil=>
      replace h:ifeV (Nat.beq f F) (some (d,x,y)) none=some q:=h
      cases hb:Nat.beq f F with
      | false=>rw[hb] at h; cases h
      | true=>
       rw[hb] at h
       cases h
       rw[Nat.eq_of_beq_eq_true hb]
       exact⟨ats,ty,pos,af,rfl⟩
abbrev SplT:=List Oper×(Tmp×Operand×Operand)×Array Oper
noncomputable def splReg(F:FuncId)(c:Code):Option SplT:=match c with
 | .region _ ops false=>Option.rec (motive:=fun _=>Option SplT) none (fun p=>Option.rec (motive:=fun _=>Option SplT) none (fun x=>some (p.1,x,ops)) (splOp F p.2)) (lastOp ops.toList)
 | _=>none
theorem splReg_ok{F:FuncId}{c:Code}{q:SplT}(h:splReg F c=some q): ∃id ats ty pos af,c = .region id q.2.2 false∧q.2.2.toList=q.1++[op1 q.2.1.1 (.call {callee:= .value (.func F),args:=[q.2.1.2.1,q.2.1.2.2].toArray,argTypes:=ats}) ty pos af]:=by
 unfold splReg at h
 split at h
 ·rename_i id ops
  cases h1:lastOp ops.toList with
  | none=>rw[h1] at h; cases h
  | some p=>
   rw[h1] at h
   replace h:Option.rec (motive:=fun _=>Option SplT) none (fun x=>some (p.1,x,ops)) (splOp F p.2)=some q:=h
   cases h2:splOp F p.2 with
   | none=>rw[h2] at h; cases h
   | some x=>
    rw[h2] at h
    cases h
    obtain⟨ats,ty,pos,af,e⟩:=splOp_ok h2
    refine⟨id,ats,ty,pos,af,rfl,?_⟩
    rw[lastOp_ok h1,e]
 ·cases h
abbrev TailT:=Nat×Tmp×Code×Code
noncomputable def rfTail(g:Tmp)(b:Code):Option TailT:=match b with
 | .block i (.rangeFunc (.tmp g') ps asg body)=>(match ps.toList with
  | [p]=>ifeV (Nat.beq g' g) (some (i,p,asg,body)) none
  | _=>none)
 | _=>none
theorem rfTail_ok{g:Tmp}{b:Code}{u:TailT}(h:rfTail g b=some u):b = .block u.1 (.rangeFunc (.tmp g) #[u.2.1] u.2.2.1 u.2.2.2):=by
 unfold rfTail at h
 split at h
 ·rename_i i g' ps asg body
  obtain⟨l⟩:=ps
  cases l with
  | nil=>cases h
  | cons p l=>
   cases l with
   | cons _ _=>cases h
   | nil=>
    replace h:ifeV (Nat.beq g' g) (some (i,p,asg,body)) none=some u:=h
    cases hb:Nat.beq g' g with
    | false=>rw[hb] at h; cases h
    | true=>
     rw[hb] at h
     cases h
     rw[Nat.eq_of_beq_eq_true hb]
 ·cases h
noncomputable def splA(F:FuncId)(a:Code):Option (SplT×TailT):=match a with
 | .seq a1 b1=>Option.rec (motive:=fun _=>Option (SplT×TailT)) none (fun q=>Option.rec (motive:=fun _=>Option (SplT×TailT)) none (fun u=>some (q,u)) (rfTail q.2.1.1 b1)) (splReg F a1)
 | _=>none
theorem splA_ok{F:FuncId}{a:Code}{z:SplT×TailT}(h:splA F a=some z): ∃id ats ty pos af,a = .seq (.region id z.1.2.2 false) (.block z.2.1 (.rangeFunc (.tmp z.1.2.1.1) #[z.2.2.1] z.2.2.2.1 z.2.2.2.2))∧z.1.2.2.toList=z.1.1++[op1 z.1.2.1.1 (.call {callee:= .value (.func F),args:=[z.1.2.1.2.1,z.1.2.1.2.2].toArray,argTypes:=ats}) ty pos af]:=by
 unfold splA at h
 split at h
 ·rename_i a1 b1
  cases h1:splReg F a1 with
  | none=>rw[h1] at h; cases h
  | some q=>
   rw[h1] at h
   replace h:Option.rec (motive:=fun _=>Option (SplT×TailT)) none (fun u=>some (q,u)) (rfTail q.2.1.1 b1)=some z:=h
   cases h2:rfTail q.2.1.1 b1 with
   | none=>rw[h2] at h; cases h
   | some u=>
    rw[h2] at h
    cases h
    obtain⟨id,ats,ty,pos,af,e,ho⟩:=splReg_ok h1
    exact⟨id,ats,ty,pos,af,by rw[e,rfTail_ok h2],ho⟩
 ·cases h
abbrev ItF:=List Nat→List Nat→(List (List Nat)→Bool)→Bool
noncomputable def restK(P:Program)(fl m:Nat)(dr:Nat→CallF→DrawF)(call:CallF)(fn:Func)(kr:KV)(c:Code)(env:Tr AV)(h:Hp):Bool:=codeK P fl fn.ntmps m call (dr fn.ntmps call) c env h fun out env h=>Out.rec (motive:=fun _=>Bool) (finK P fl fn env h kr) (fun _=>false) (finK P fl fn env h kr) (fun _=>false) out
noncomputable def rfMid(P:Program)(fl m:Nat)(dr:Nat→CallF→DrawF)(call:CallF)(itf:ItF)(Tk:Hp→Bool)(fn:Func)(kr:KV)(q:SplT)(u:TailT)(b:Code)(env:Tr AV)(h:Hp):Bool:=
 evK fl h env q.2.1.2.1 fun vx=>evK fl h env q.2.1.2.2 fun vy=>qStr vx fun s=>qStr vy fun t=>ask (Tk h) (itf s t fun xs=>ask (Nat.blt q.2.1.1 fn.ntmps) (ask (Nat.blt q.2.1.1 4096) (ask (Nat.blt u.2.1 fn.ntmps) (Tr.setK none (bits q.2.1.1) env fun env'=>
  rangeK P fl fn.ntmps m call Tk u.2.1 u.2.2.1 u.2.2.2 env' xs h fun out h=>Out.rec (motive:=fun _=>Bool) (restK P fl m dr call fn kr b env' h) (fun j=>ask (Nat.beq j u.1) (restK P fl m dr call fn kr b env' h)) (finK P fl fn env' h kr) (fun _=>false) out))))
noncomputable def rfBody(P:Program)(fl m:Nat)(dr:Nat→CallF→DrawF)(call:CallF)(F:FuncId)(itf:ItF)(Tk:Hp→Bool)(fn:Func)(kr:KV)(c:Code):Tr AV→Hp→Bool:=Code.rec (motive:=fun _=>Tr AV→Hp→Bool)
 (fun _ _=>false) (fun _ _ _ _ _=>false)
 (fun a b _ ihb env h=>Option.rec (motive:=fun _=>Bool)
  (codeK P fl fn.ntmps m call (dr fn.ntmps call) a env h fun out env h=>Out.rec (motive:=fun _=>Bool) (ihb env h) (fun _=>false) (finK P fl fn env h kr) (fun _=>false) out)
  (fun z=>opsK P fl fn.ntmps call z.1.2.2 z.1.1 env h fun out env h=>Out.rec (motive:=fun _=>Bool) (rfMid P fl m dr call itf Tk fn kr z.1 z.2 b env h) (fun _=>false) false (fun _=>false) out)
  (splA F a))
 (fun _ _ _ _ _ _ _=>false) (fun _ _ _ _ _=>false) (fun _ _ _ _=>false) (fun _ _ _ _ _ _ _ _=>false) (fun _ _ _=>false) (fun _ _ _ _=>false) (fun _ _ _=>false) (fun _ _ _=>false) (fun _ _=>false) (fun _ _ _=>false) c
def AfterR(P:Program)(i:Nat)(rest:Code)(Q:Post)(out:Out)(f2:Fr)(W:World):Prop:=match out with
 | .nm=>CL none P Q [rest] f2 W
 | .ex j=>blockQ i (CL none P Q [rest]) Q (.exit j) f2 W
 | .ret=>Q .ret f2 W
 | .pan _=>True
def RfOk(P:Program)(fl:Nat)(fn:Func)(c:Code)(env:Tr AV)(h:Hp)(v:AV)(h':Hp):Prop:=∀S w0 r f w (R:Ending→World→Prop),f.n=fn.ntmps→f.ds=[]→FrOk r env f→Rel S w0 fl r h w→(∀r' x w',Ext r r'→Rel S w0 fl r' h' w'→real r' v=some x→R (.returned x) w')→CW none P (MQ P fn R) c f w
theorem rfBody_ok{m:Nat}{dr:Nat→CallF→DrawF}{call:CallF}{G:Array Oper→Prop}{F:FuncId}{itf:ItF}{Tk:Hp→Bool}{T:World→Prop}(hc:CallOk P fl call)(hdr : ∀n call,CallOk P fl call→DrawOk P fl n G (dr n call))(hI:ItOk P F itf Tk T){fn:Func}{kr:KV}: ∀(c:Code),Regs G c→∀(env:Tr AV) (h:Hp),rfBody P fl m dr call F itf Tk fn kr c env h=true→
  ∃v h',kr v h'=true∧RfOk P fl fn c env h v h':=by
 intro c
 induction c with
 | seq a b _ ihb=>
  intro hGc env h hk
  cases hq:splA F a with
  | none=>
   replace hk:Option.rec (motive:=fun _=>Bool) _ _ (splA F a)=true:=hk
   rw[hq] at hk
   obtain⟨out,env1,h1,hk,hC⟩:=codeK_ok hc (hdr fn.ntmps call hc) a hGc.1 env h _ hk
   cases out with
   | nm=>
    obtain⟨v,h',hk,hD⟩:=ihb hGc.2 env1 h1 hk
    exact⟨v,h',hk,fun S w0 r f w R hn hds hf hR hE=>
     CL.one (CL.seq (hC none rfl S w0 r f w _ hn hf hR fun r' f' w' hn' hd hx hf' hR'=>CL_of_CW (hD S w0 r' f' w' R hn' (hd.trans hds) hf' hR' fun r2 x w2 hx2 hR2 hv=>hE r2 x w2 (hx.trans hx2) hR2 hv)))⟩
   | ex i=>cases hk
   | ret=>
    obtain⟨v,hk,hr⟩:=finK_ok hk
    refine⟨v,h1,hk,fun S w0 r f w R hn hds hf hR hE=>CL.one (CL.seq (hC none rfl S w0 r f w _ hn hf hR fun r' f' w' hn' hd hx hf' hR'=>?_))⟩
    obtain⟨x,hx1,hr⟩:=hr S w0 r' f' w' hf' hR'
    exact .inl ⟨hd.trans hds,x,hr,hE r' x w' hx hR' hx1⟩
   | pan v=>cases hk
  | some z=>
    obtain⟨q,u⟩:=z
    replace hk:Option.rec (motive:=fun _=>Bool) _ _ (splA F a)=true:=hk
    rw[hq] at hk
    obtain⟨id,ats,ty,pos,af,rfl,hops⟩:=splA_ok hq
    obtain⟨out,env1,h1,hk,hO⟩:=opsK_ok hc hk
    cases out with
    | nm=>
     obtain⟨vx,hk,hvx⟩:=evK_ok (show evK fl h1 env1 q.2.1.2.1 _=true from hk)
     obtain⟨vy,hk,hvy⟩:=evK_ok hk
     obtain⟨s,rfl,hk⟩:=qStr_ok (x:=vx) hk
     obtain⟨t,rfl,hk⟩:=qStr_ok (x:=vy) hk
     obtain⟨htk,hk⟩:=ask_ok hk
     obtain⟨hent,hT,hit⟩:=hI
     obtain⟨xs,hk,hxs,hcall⟩:=hit s t _ hk
     obtain⟨hg1,hk⟩:=ask_ok hk
     obtain⟨hg2,hk⟩:=ask_ok hk
     obtain⟨hp,hk⟩:=ask_ok hk
     rw[Tr.setK_eq] at hk
     obtain⟨out,h2,hk,hrr⟩:=rangeK_ok hc hk
     have hg2:q.2.1.1 < LIM:=Nat.lt_of_lt_of_le (blt_lt hg2) (by decide)
     have mid : ∀S (w0:World) (r:Ren) (f:Fr) (w:World) (Q:Post),f.n=fn.ntmps→f.ds=[]→FrOk r env1 f→Rel S w0 fl r h1 w→
       (∀(f2:Fr) r2 D W,f2.n=fn.ntmps→f2.ds=[markOf D]→Ext r r2→FrOk r2 (Tr.set none (bits q.2.1.1) env1) f2→Rel S w0 fl r2 h2 W→W.heap[D]?=some (.deferred (some []))→w0.heap.size≤D→(∀i p,r2 i=some p→p.1≠D)→AfterR P u.1 b Q out f2 W)→
       RW none P q.2.2 (thenK (CL none P Q [.block u.1 (.rangeFunc (.tmp q.2.1.1) #[u.2.1] u.2.2.1 u.2.2.2),b]) Q) [op1 q.2.1.1 (.call {callee:= .value (.func F),args:=[q.2.1.2.1,q.2.1.2.2].toArray,argTypes:=ats}) ty pos af] f w:=by
      intro S w0 r f w Q hn hds hf hR hK
      obtain⟨ux,hux,hex⟩:=hvx S w0 r f w hf hR
      obtain⟨uy,huy,hey⟩:=hvy S w0 r f w hf hR
      obtain⟨bs,rfl⟩:=real_str hux
      obtain⟨bt,rfl⟩:=real_str huy
      haveI:=hent
      refine RW.fn (l:=[_,_]) (by simp[Fr.evs,hex,hey]) (by rw[hn]; exact hg1) ((hcall w bs bt (hT fl S w0 r h1 w hR htk)).mono ?_)
      rintro e w1 ⟨hk1,gf,cap,Sb,Pre,he,rfl,hSb,hseq,hpre⟩
      have hR1:=hR.same hk1
      have hsz:=hR.kept.size
      refine RW.nil (show CL none P Q _ _ _ from CL.block ?_)
      have hF:FrOk r (Tr.set none (bits q.2.1.1) env1) (f.put q.2.1.1 (.func (.func gf) #[] cap.toArray)):=fun t v ht hv=>by
       rw[Tr.get_set] at hv
       by_cases e:bits q.2.1.1=bits t
       ·rw[if_pos e] at hv; cases hv
       ·rw[if_neg e] at hv
        obtain⟨z,hz,hl⟩:=hf t v ht hv
        refine⟨z,hz,?_⟩
        have:q.2.1.1≠t:=fun c=>e (by rw[c])
        simp only[Fr.put,H.look,beq_ne this]
        exact hl
      refine range_ok (g:=q.2.1.1) (f:=f.put q.2.1.1 (.func (.func gf) #[] cap.toArray)) (Q:=blockQ u.1 (CL none P Q [b]) Q) (env:=Tr.set none (bits q.2.1.1) env1) hrr hxs hp (fun r h w=>hT fl S w0 r h w) he hn (by simp[Fr.ev,Fr.put,H.look,beq_self]) hF hR1 (fun k hk=>⟨(hSb k hk).2,.inr (Nat.le_trans hsz (hSb k hk).1)⟩) (fun i p hp c=>by have:=hR.dom i p hp; have:=(hSb _ c).1; omega) hseq hpre fun r2 W hx2 hR2 hD hN2=>?_
      have:=hK ⟨f.n,markOf w1.heap.size::f.ds,(f.put q.2.1.1 (.func (.func gf) #[] cap.toArray)).e⟩ r2 w1.heap.size W hn (by rw[hds]) hx2 (fun t v a b=>(hF.mono hx2) t v a b) hR2 hD (Nat.le_trans hsz hk1.size) hN2
      cases out <;> exact this
     have fin : ∀(env3:Tr AV) (h3:Hp) (v:AV),(∀S w0 r f (w:World),FrOk r env3 f→Rel S w0 fl r h3 w→∃x,real r v=some x∧∀a,Ag f a→(results fn a.tmps).run P w = .ok x w)→∀S (w0:World) r0 r (f:Fr) (w:World) (R:Ending→World→Prop) D,(∀r' x w',Ext r0 r'→Rel S w0 fl r' h3 w'→real r' v=some x→R (.returned x) w')→Ext r0 r→f.ds=[markOf D]→FrOk r env3 f→Rel S w0 fl r h3 w→w.heap[D]?=some (.deferred (some []))→w0.heap.size≤D→(∀i p,r i=some p→p.1≠D)→MQ P fn R .ret f w:=by
      intro env3 h3 v hr S w0 r0 r f w R D hE hx hds hf hR hD h0 hN
      refine .inr ⟨D,hds,hD,fun w' hk'=>?_⟩
      have hR':=hR.other hk' (fun i p hp c=>hN i p hp c) (fun x hx=>by have hx:x=D:=hx; subst hx; exact .inr h0)
      obtain⟨x,hx1,hr1⟩:=hr S w0 r f w' hf hR'
      exact⟨x,hr1,hE r x w' hx hR' hx1⟩
     have whole : ∀{v:AV} {h':Hp},(∀S (w0:World) (r:Ren) (f:Fr) (w:World) (R:Ending→World→Prop),(∀r' x w',Ext r r'→Rel S w0 fl r' h' w'→real r' v=some x→R (.returned x) w')→∀(f2:Fr) r2 D W,f2.n=fn.ntmps→f2.ds=[markOf D]→Ext r r2→FrOk r2 (Tr.set none (bits q.2.1.1) env1) f2→Rel S w0 fl r2 h2 W→W.heap[D]?=some (.deferred (some []))→w0.heap.size≤D→(∀i p,r2 i=some p→p.1≠D)→AfterR P u.1 b (MQ P fn R) out f2 W)→RfOk P fl fn (.seq (.seq (.region id q.2.2 false) (.block u.1 (.rangeFunc (.tmp q.2.1.1) #[u.2.1] u.2.2.1 u.2.2.2))) b) env h v h':=by
      intro v h' hh S w0 r f w R hn hds hf hR hE
      have e2 : ∀{Q cs f w},CL none P Q (.region id q.2.2.toList.toArray false::cs) f w→CL none P Q (.region id q.2.2 false::cs) f w:=fun h=>by simpa using h
      refine CL.one (CL.seq (CL.seq (e2 (CL.region ?_))))
      rw[hops]
      have e3:(q.1++[op1 q.2.1.1 (.call {callee:= .value (.func F),args:=[q.2.1.2.1,q.2.1.2.2].toArray,argTypes:=ats}) ty pos af]).toArray=q.2.2:=by rw[←hops]
      rw[e3]
      refine RW.app (hO none S w0 r f w _ hn hf hR fun r' f' w' hn' hd hx hf' hR'=>?_)
      exact mid S w0 r' f' w' _ hn' (hd.trans hds) hf' hR' fun f2 r2 D W a b c d e g i j=>hh S w0 r' f' w' R (fun r3 x w3 hx3 hR3 hv=>hE r3 x w3 (hx.trans hx3) hR3 hv) f2 r2 D W a b c d e g i j
     have rest:restK P fl m dr call fn kr b (Tr.set none (bits q.2.1.1) env1) h2=true→∃v h',kr v h'=true∧∀S (w0:World) (r:Ren) (R:Ending→World→Prop),(∀r' x w',Ext r r'→Rel S w0 fl r' h' w'→real r' v=some x→R (.returned x) w')→∀(f2:Fr) r2 D W,f2.n=fn.ntmps→f2.ds=[markOf D]→Ext r r2→FrOk r2 (Tr.set none (bits q.2.1.1) env1) f2→Rel S w0 fl r2 h2 W→W.heap[D]?=some (.deferred (some []))→w0.heap.size≤D→(∀i p,r2 i=some p→p.1≠D)→CL none P (MQ P fn R) [b] f2 W:=fun hk=>by
      obtain⟨out3,env3,h3,hk,hC⟩:=codeK_ok hc (hdr fn.ntmps call hc) b hGc.2 _ h2 _ hk
      have ends:(out3 = .nm∨out3 = .ret)→finK P fl fn env3 h3 kr=true→∃v h',kr v h'=true∧∀S (w0:World) (r:Ren) (R:Ending→World→Prop),(∀r' x w',Ext r r'→Rel S w0 fl r' h' w'→real r' v=some x→R (.returned x) w')→∀(f2:Fr) r2 D W,f2.n=fn.ntmps→f2.ds=[markOf D]→Ext r r2→FrOk r2 (Tr.set none (bits q.2.1.1) env1) f2→Rel S w0 fl r2 h2 W→W.heap[D]?=some (.deferred (some []))→w0.heap.size≤D→(∀i p,r2 i=some p→p.1≠D)→CL none P (MQ P fn R) [b] f2 W:=fun ho hk=>by
       obtain⟨v,hk,hr⟩:=finK_ok hk
       refine⟨v,h3,hk,fun S w0 r R hE f2 r2 D W hn hds hx hf hR hD h0 hN=>CL_of_CW (hC none rfl (Wr fl r2) W r2 f2 W _ hn hf hR.self fun r3 f3 w3 hn3 hd3 hx3 hf3 hR3=>?_)⟩
       have hlt:D < W.heap.size:=lt_of_at hD
       have hN3:=hR.none_of (T:=fun x=>x=D) hR3 hx3 (fun i p hp c=>hN i p hp c) (fun x hx=>by have hx:x=D:=hx; omega)
       have hD3:w3.heap[D]?=some (.deferred (some [])):=(hR3.kept.block D hlt fun⟨i,z,_,hz,e⟩=>hN i z hz e).trans hD
       have:=fin env3 h3 v hr S w0 r r3 f3 w3 R D hE (hx.trans hx3) (hd3.trans hds) hf3 (hR.back hR3) hD3 h0 (fun i p hp c=>hN3 i p hp c)
       rcases ho with rfl|rfl <;> exact this
      cases out3 with
      | nm=>exact ends (.inl rfl) hk
      | ex i=>cases hk
      | ret=>exact ends (.inr rfl) hk
      | pan v=>cases hk
     cases out with
     | nm=>
      obtain⟨v,h',hk,hr⟩:=rest hk
      exact⟨v,h',hk,whole fun S w0 r f w R hE=>hr S w0 r R hE⟩
     | ex j=>
      obtain⟨hj,hk2⟩:=ask_ok hk
      have hj:=Nat.eq_of_beq_eq_true hj
      subst hj
      obtain⟨v,h',hk,hr⟩:=rest hk2
      refine⟨v,h',hk,whole fun S w0 r f w R hE f2 r2 D W a b c d e g i j=>?_⟩
      show blockQ _ _ _ (.exit _) f2 W
      simp only[blockQ,beq_self]
      exact hr S w0 r R hE f2 r2 D W a b c d e g i j
     | ret=>
      obtain⟨v,hk,hr⟩:=finK_ok hk
      exact⟨v,h2,hk,whole fun S w0 r f w R hE f2 r2 D W a b c d e g i j=>fin _ h2 v hr S w0 r r2 f2 W R D hE c b d e g i j⟩
     | pan v=>cases hk
    | ex i=>cases hk
    | ret=>cases hk
    | pan v=>cases hk
 | _=>intro _ env h hk; cases hk
noncomputable def rfK(P:Program)(fl m:Nat)(dr:Nat→CallF→DrawF)(F:FuncId)(itf:ItF)(Tk:Hp→Bool)(f:FuncId):Prim:=fun call vs h kr _=>fnK P f fun fn=>someK fn.body fun c=>lenK vs fun l=>ask (Nat.ble l fn.ntmps) (ask (Nat.ble l 4096) (argsK vs 0 .e fun env=>rfBody P fl m dr call F itf Tk fn kr c env h))
theorem rfK_ok{m:Nat}{dr:Nat→CallF→DrawF}{G:Array Oper→Prop}{F:FuncId}{itf:ItF}{Tk:Hp→Bool}{T:World→Prop}(hdr : ∀n call,CallOk P fl call→DrawOk P fl n G (dr n call))(hG:AllRegs P G)(hI:ItOk P F itf Tk T)(f:FuncId):Pr1 P fl f (rfK P fl m dr F itf Tk f):=by
 intro call hc g vs h kr kp hk
 rcases ife_ok hk with ⟨hb,hk2⟩|⟨_,hk2⟩
 ·have e:=Nat.eq_of_beq_eq_true hb
  subst e
  obtain⟨fn,hf,hk⟩:=fnK_ok hk2
  obtain⟨c,hb,hk⟩:=someK_ok hk
  rw[lenK_eq] at hk
  obtain⟨hl,hk⟩:=ask_ok hk
  obtain⟨hl2,hk⟩:=ask_ok hk
  obtain⟨env,hk,he⟩:=argsK_ok hk (by have:=ble_le hl2; omega)
  obtain⟨v,h',hk,hD⟩:=rfBody_ok hc hdr hI c (hG _ fn c hf hb) env h hk
  refine .inl ⟨v,h',hk,fun S w0 r w xs hR hxs=>?_⟩
  refine enterM hf rfl hb (by rw[reals_len hxs]; exact hl) (CL_of_CW (hD S w0 r _ w _ rfl rfl (fun t v ht hv=>?_) hR fun r' x w' hx hR' hv=>⟨r',x,rfl,hx,hR',hv⟩))
  rw[he t ht] at hv
  by_cases q:0≤t∧t < 0+vs.length
  ·rw[if_pos q,Nat.sub_zero] at hv
   obtain⟨u,hu,hr⟩:=reals_at hxs hv
   exact⟨u,hr,by rw[look_args' xs 0 t (Nat.zero_le _),Nat.sub_zero]; exact hu⟩
  ·rw[if_neg q,Tr.get_e] at hv; cases hv
 ·cases hk2
end
end Go.Proofs.YtbhbdeelpopgoaaGreatDoor.E

namespace Go.Proofs.YtbhbdeelpopgoaaGreatDoor.E
open Go Go.RowKit H
noncomputable def idxK(s:List Nat)(c:Nat)(k:Int→Bool):Bool:=List.rec (motive:=fun _=>Nat→Bool) (fun _=>k (.negSucc 0)) (fun x _ ih i=>ife (Nat.beq x c) (k (.ofNat i)) (natK (Nat.succ i) ih)) s 0
noncomputable def cntK(s:List Nat)(c:Nat)(k:Nat→Bool):Bool:=List.rec (motive:=fun _=>Nat→Bool) k (fun x _ ih i=>ife (Nat.beq x c) (natK (Nat.succ i) ih) (ih i)) s 0
noncomputable def natI(z:Int)(k:Nat→Bool):Bool:=Int.rec (motive:=fun _=>Bool) k (fun _=>false) z
noncomputable def idxP(vs:List AV)(_:Hp)(k:AV→Bool):Bool:=two2 vs fun a b=>qStr a fun s=>qInt b fun i z=>ask (kEq i .u8) (natI z fun c=>ask (Nat.blt c 256) (idxK s c fun i=>k (.int .i64 i)))
noncomputable def oneB(t:List Nat)(k:Nat→Bool):Bool:=List.rec (motive:=fun _=>Bool) false (fun c r _=>List.rec (motive:=fun _=>Bool) (k c) (fun _ _ _=>false) r) t
noncomputable def cnt1P(vs:List AV)(_:Hp)(k:AV→Bool):Bool:=two2 vs fun a b=>qStr a fun s=>qStr b fun t=>oneB t fun c=>cntK s c fun n=>k (.int .i64 (.ofNat n))
end Go.Proofs.YtbhbdeelpopgoaaGreatDoor.E

namespace Go.Proofs.YtbhbdeelpopgoaaGreatDoor.S
open Go.RowKit H
attribute [local irreducible] H.CL H.RW H.CW H.Yd H.thenK H.blockQ Go.Calls
def idx(c:UInt8)(l:List UInt8):Int:=Go.Lib.indexByte l c
theorem byte_back(c:UInt8):(((c.toNat:Int)).toNat).toUInt8=c:=by
 rw[Int.toNat_natCast]; simp
theorem ext_indexByte(l:List UInt8)(c:UInt8)(w:World):(callFunc 241 #[vs l,vb c]).run Tryz.prog w = .ok (.value (.int .i64 (idx c l))) w:=by
 rw[run_callFunc_extern Tryz.func241 (by kernel_rfl) (by kernel_rfl) (by kernel_rfl) (e:=Extern.BytealgIndexByte.indexByte) (by kernel_rfl),Lib.run_indexByteString,byte_back]
 rfl
theorem ext_count(l:List UInt8)(c:UInt8)(w:World):(callFunc 250 #[vs l,vb c]).run Tryz.prog w = .ok (.value (.int .i64 (l.count c:Nat))) w:=by
 rw[run_callFunc_extern Tryz.func250 (by kernel_rfl) (by kernel_rfl) (by kernel_rfl) (e:=Extern.BytealgCount.count) (by kernel_rfl),Lib.run_countString,byte_back]
 rfl
theorem sliteIndexByte(l:List UInt8)(c:UInt8)(w:World):Calls Tryz.prog 159 #[vs l,vb c] w fun e w'=>w=w'∧e = .returned (.int .i64 (idx c l)):=by
 refine H.enter Tryz.func159 Tryz.ntmps159 rfl rfl ?_; dsimp only[H.args]
 repeat' (first|(refine CL.seq ?_)|(refine CL.region ?_)|(refine Gt.nil ?_; refine RW.nilw [0,1,4] ?_; dsimp only[H.keep,H.look,H.Fr.put,Nat.beq])|(refine Gt.assign ?_; refine RW.y (Y.assign rfl) rfl ?_)|(refine Gt.move ?_; refine RW.y (Y.move rfl) rfl ?_))
 refine RW.y (Y.ext rfl (ext_indexByte l c w)) rfl ?_
 repeat' (first|(refine CL.ret ?_)|(refine Gt.nil ?_; refine RW.nilw [0,1,4] ?_; dsimp only[H.keep,H.look,H.Fr.put,Nat.beq])|(refine Gt.assign ?_; refine RW.y (Y.assign rfl) rfl ?_))
 exact FQ.one rfl rfl rfl ⟨rfl,rfl⟩
set_option maxHeartbeats 400000 in
theorem sliteIndex(l:List UInt8)(c:UInt8)(w:World):Calls Tryz.prog 178 #[vs l,vs [c]] w fun e w'=>w=w'∧e = .returned (.int .i64 (idx c l)):=by
 have h1:([c]:List UInt8).length=1:=rfl
 refine H.enter Tryz.func178 Tryz.ntmps178 rfl rfl ?_; dsimp only[H.args]
 repeat' (first|(refine CL.seq ?_)|(refine CL.region ?_)|(refine CL.condP rfl (fun _=>?_) (fun _=>?_) <;> try (exfalso; omega))|(refine CL.block ?_)|(refine CL.ret ?_)|(refine Rt.block ?_)|(refine Gt.nil ?_; refine RW.nilw [0,1,4,5,6,7,8,9,10,11,12,13,16,24,31,36,59,64,73,93,107,114,132,139] ?_; dsimp only[H.keep,H.look,H.Fr.put,Nat.beq])|(refine Gt.move ?_; refine RW.y (Y.move rfl) rfl ?_)|(refine Gt.guard ?_; first|(refine RW.part rfl rfl rfl (fun _=>?_) (fun _=>?_) <;> try (exfalso; omega))|(refine RW.on rfl rfl rfl ?_))|(refine Gt.assign ?_; refine RW.y (Y.assign rfl) rfl ?_)|(refine Gt.pick ?_; (refine RW.y (Y.pickF rfl rfl) rfl ?_))|(refine Gt.index ?_; refine RW.y (Y.idxs rfl rfl (by omega) (by omega)) rfl ?_)|(refine Gt.len ?_; refine RW.y (Y.lens rfl) rfl ?_)|(refine Gt.eql ?_; first|(refine RW.y (Y.eqi rfl rfl) rfl ?_)|(refine RW.y (Y.eqs rfl rfl) rfl ?_)))
 ·rename_i h
  subst h
  refine FQ.one rfl rfl rfl ⟨rfl,?_⟩
  simp[idx,Go.Lib.indexByte]
 refine RW.fn rfl rfl ((sliteIndexByte l c w).mono ?_)
 rintro e w1 ⟨rfl,rfl⟩
 repeat' (first|(refine CL.ret ?_)|(refine Rt.block ?_)|(refine Gt.nil ?_; refine RW.nilw [0,1,4,5,6,7,8,9,10,11,12,13,16,24,31,36,59,64,73,93,107,114,132,139] ?_; dsimp only[H.keep,H.look,H.Fr.put,Nat.beq])|(refine Gt.assign ?_; refine RW.y (Y.assign rfl) rfl ?_))
 exact FQ.one rfl rfl rfl ⟨rfl,rfl⟩
theorem index(l:List UInt8)(c:UInt8)(w:World):Calls Tryz.prog 177 #[vs l,vs [c]] w fun e w'=>w=w'∧e = .returned (.int .i64 (idx c l)):=by
 refine H.enter Tryz.func177 Tryz.ntmps177 rfl rfl ?_; dsimp only[H.args]
 repeat' (first|(refine CL.seq ?_)|(refine CL.region ?_)|(refine Gt.nil ?_; refine RW.nilw [0,1,4] ?_; dsimp only[H.keep,H.look,H.Fr.put,Nat.beq])|(refine Gt.assign ?_; refine RW.y (Y.assign rfl) rfl ?_)|(refine Gt.move ?_; refine RW.y (Y.move rfl) rfl ?_))
 refine RW.fn rfl rfl ((sliteIndex l c w).mono ?_)
 rintro e w1 ⟨rfl,rfl⟩
 repeat' (first|(refine CL.ret ?_)|(refine Gt.nil ?_; refine RW.nilw [0,1,4] ?_; dsimp only[H.keep,H.look,H.Fr.put,Nat.beq])|(refine Gt.assign ?_; refine RW.y (Y.assign rfl) rfl ?_))
 exact FQ.one rfl rfl rfl ⟨rfl,rfl⟩
theorem count(l:List UInt8)(c:UInt8)(w:World):Calls Tryz.prog 176 #[vs l,vs [c]] w fun e w'=>w=w'∧e = .returned (.int .i64 (l.count c:Nat)):=by
 have h1:([c]:List UInt8).length=1:=rfl
 refine H.enter Tryz.func176 Tryz.ntmps176 rfl rfl ?_; dsimp only[H.args]
 repeat' (first|(refine CL.seq ?_)|(refine CL.region ?_)|(refine CL.skip ?_)|(refine CL.condP rfl (fun _=>?_) (fun _=>?_) <;> try (exfalso; omega))|(refine Gt.nil ?_; refine RW.nilw [0,1,4,5,6,9,15,24] ?_; dsimp only[H.keep,H.look,H.Fr.put,Nat.beq])|(refine Gt.move ?_; refine RW.y (Y.move rfl) rfl ?_)|(refine Gt.assign ?_; refine RW.y (Y.assign rfl) rfl ?_)|(refine Gt.len ?_; refine RW.y (Y.lens rfl) rfl ?_)|(refine Gt.eql ?_; refine RW.y (Y.eqi rfl rfl) rfl ?_)|(refine Gt.index ?_; refine RW.y (Y.idxs rfl rfl (by omega) (by omega)) rfl ?_))
 refine RW.y (Y.ext rfl (ext_count l c w)) rfl ?_
 repeat' (first|(refine CL.ret ?_)|(refine Gt.nil ?_; refine RW.nilw [0,1,4,5,6,9,15,24] ?_; dsimp only[H.keep,H.look,H.Fr.put,Nat.beq])|(refine Gt.assign ?_; refine RW.y (Y.assign rfl) rfl ?_))
 exact FQ.one rfl rfl rfl ⟨rfl,rfl⟩
end Go.Proofs.YtbhbdeelpopgoaaGreatDoor.S

