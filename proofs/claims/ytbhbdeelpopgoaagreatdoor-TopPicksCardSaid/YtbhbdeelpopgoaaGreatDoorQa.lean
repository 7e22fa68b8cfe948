/-
  The data of an evaluator: values whose addresses are names, tries, continuations that force what they are given. A small calculus over the kit's rules: frames as short lists of slots, code as a list that is left to do, one rule an operation. Nothing here speaks of one program. The rules of operations that touch no memory: moves, numbers, truths, texts, parts of structs. The rules of operations that read and write memory: what is kept, slices that can be read, rows that are the call's own. The rules of slices: literals, append, reslicing; texts cut and turned into bytes and back; calls. The rules of cutting texts and slices, of bytes and texts, of calls; how the end of a body is read. What an evaluator's values and memory are in a world: names of blocks stand for blocks. Numbers, texts and truths of an evaluator: each is forced, and is what the language's rules say. Operands, and the operations that touch no memory.
-/
import GoSem.Core.World
import Derived.WalkKit
import Derived.Lib.Hide
import Derived.TacticsIn
import Derived.RangeFuncCalls
import Derived.OwnWalkIn
import Derived.WalkLawsBesides
import Derived.Lib.AppendStr
import Derived.Lib.Strings
set_option linter.unusedVariables false
set_option linter.unusedSimpArgs false
namespace Go.Proofs.YtbhbdeelpopgoaaGreatDoor.E
open Go
inductive AV where
 | und
 | bool (b:Bool)
 | int (k:IntKind) (n:Int)
 | str (s:List Nat)
 | nilp
 | ptr (i o:Nat)
 | nils
 | sl (i o n c:Nat)
 | slx (i o n z:Nat)
 | sly (i o l z:Nat)
 | nilm
 | map (i:Nat)
 | nilf
 | fn (f:Fn) (a b:List AV)
 | nili
 | ifc (t:TypeId) (v:AV)
 | agg (l:List AV)
 | tup (l:List AV)
 | sym (k:IntKind) (s m j:Nat)
 | opq (t i s o z:Nat)
 deriving Inhabited
abbrev K(α:Type):=(α→Bool)→Bool
inductive Dg where
 | d0|d1|d2|d3|d4|d5|d6|d7
 deriving DecidableEq
inductive Tr (α:Type) where
 | e
 | n (v:Option α) (c0 c1 c2 c3 c4 c5 c6 c7:Tr α)
namespace Tr
variable {α : Type}
noncomputable def pick(c0 c1 c2 c3 c4 c5 c6 c7:Tr α)(d:Dg):Tr α:=Dg.rec (motive:=fun _=>Tr α) c0 c1 c2 c3 c4 c5 c6 c7 d
noncomputable def rep0(v:Option α)(c0 c1 c2 c3 c4 c5 c6 c7 x:Tr α):Tr α:= .n v x c1 c2 c3 c4 c5 c6 c7
noncomputable def repK0(v:Option α)(c0 c1 c2 c3 c4 c5 c6 c7 x:Tr α)(k:Tr α→Bool):Bool:=k (.n v x c1 c2 c3 c4 c5 c6 c7)
noncomputable def rep1(v:Option α)(c0 c1 c2 c3 c4 c5 c6 c7 x:Tr α):Tr α:= .n v c0 x c2 c3 c4 c5 c6 c7
noncomputable def repK1(v:Option α)(c0 c1 c2 c3 c4 c5 c6 c7 x:Tr α)(k:Tr α→Bool):Bool:=k (.n v c0 x c2 c3 c4 c5 c6 c7)
noncomputable def rep2(v:Option α)(c0 c1 c2 c3 c4 c5 c6 c7 x:Tr α):Tr α:= .n v c0 c1 x c3 c4 c5 c6 c7
noncomputable def repK2(v:Option α)(c0 c1 c2 c3 c4 c5 c6 c7 x:Tr α)(k:Tr α→Bool):Bool:=k (.n v c0 c1 x c3 c4 c5 c6 c7)
noncomputable def rep3(v:Option α)(c0 c1 c2 c3 c4 c5 c6 c7 x:Tr α):Tr α:= .n v c0 c1 c2 x c4 c5 c6 c7
noncomputable def repK3(v:Option α)(c0 c1 c2 c3 c4 c5 c6 c7 x:Tr α)(k:Tr α→Bool):Bool:=k (.n v c0 c1 c2 x c4 c5 c6 c7)
noncomputable def rep4(v:Option α)(c0 c1 c2 c3 c4 c5 c6 c7 x:Tr α):Tr α:= .n v c0 c1 c2 c3 x c5 c6 c7
noncomputable def repK4(v:Option α)(c0 c1 c2 c3 c4 c5 c6 c7 x:Tr α)(k:Tr α→Bool):Bool:=k (.n v c0 c1 c2 c3 x c5 c6 c7)
noncomputable def rep5(v:Option α)(c0 c1 c2 c3 c4 c5 c6 c7 x:Tr α):Tr α:= .n v c0 c1 c2 c3 c4 x c6 c7
noncomputable def repK5(v:Option α)(c0 c1 c2 c3 c4 c5 c6 c7 x:Tr α)(k:Tr α→Bool):Bool:=k (.n v c0 c1 c2 c3 c4 x c6 c7)
noncomputable def rep6(v:Option α)(c0 c1 c2 c3 c4 c5 c6 c7 x:Tr α):Tr α:= .n v c0 c1 c2 c3 c4 c5 x c7
noncomputable def repK6(v:Option α)(c0 c1 c2 c3 c4 c5 c6 c7 x:Tr α)(k:Tr α→Bool):Bool:=k (.n v c0 c1 c2 c3 c4 c5 x c7)
noncomputable def rep7(v:Option α)(c0 c1 c2 c3 c4 c5 c6 c7 x:Tr α):Tr α:= .n v c0 c1 c2 c3 c4 c5 c6 x
noncomputable def repK7(v:Option α)(c0 c1 c2 c3 c4 c5 c6 c7 x:Tr α)(k:Tr α→Bool):Bool:=k (.n v c0 c1 c2 c3 c4 c5 c6 x)
noncomputable def rep(d:Dg):Option α→Tr α→Tr α→Tr α→Tr α→Tr α→Tr α→Tr α→Tr α→Tr α→Tr α:=Dg.rec (motive:=fun _=>Option α→Tr α→Tr α→Tr α→Tr α→Tr α→Tr α→Tr α→Tr α→Tr α→Tr α) rep0 rep1 rep2 rep3 rep4 rep5 rep6 rep7 d
noncomputable def repK(d:Dg):Option α→Tr α→Tr α→Tr α→Tr α→Tr α→Tr α→Tr α→Tr α→Tr α→K (Tr α):=Dg.rec (motive:=fun _=>Option α→Tr α→Tr α→Tr α→Tr α→Tr α→Tr α→Tr α→Tr α→Tr α→K (Tr α)) repK0 repK1 repK2 repK3 repK4 repK5 repK6 repK7 d
noncomputable def get:List Dg→Tr α→Option α:=fun p=>List.rec (motive:=fun _=>Tr α→Option α)
 (fun t=>Tr.rec (motive:=fun _=>Option α) none (fun v _ _ _ _ _ _ _ _ _ _ _ _ _ _ _ _=>v) t)
 (fun d _ ih t=>Tr.rec (motive:=fun _=>Option α) none (fun _ c0 c1 c2 c3 c4 c5 c6 c7 _ _ _ _ _ _ _ _=>ih (Dg.rec (motive:=fun _=>Tr α) c0 c1 c2 c3 c4 c5 c6 c7 d)) t) p
noncomputable def set(v:Option α):List Dg→Tr α→Tr α:=fun p=>List.rec (motive:=fun _=>Tr α→Tr α)
 (fun t=>Tr.rec (motive:=fun _=>Tr α) (.n v .e .e .e .e .e .e .e .e) (fun _ c0 c1 c2 c3 c4 c5 c6 c7 _ _ _ _ _ _ _ _=> .n v c0 c1 c2 c3 c4 c5 c6 c7) t)
 (fun d _ ih t=>Tr.rec (motive:=fun _=>Tr α) (rep d none .e .e .e .e .e .e .e .e (ih .e)) (fun u c0 c1 c2 c3 c4 c5 c6 c7 _ _ _ _ _ _ _ _=>rep d u c0 c1 c2 c3 c4 c5 c6 c7 (ih (pick c0 c1 c2 c3 c4 c5 c6 c7 d))) t) p
noncomputable def setK(v:Option α):List Dg→Tr α→K (Tr α):=fun p=>List.rec (motive:=fun _=>Tr α→K (Tr α))
 (fun t k=>Tr.rec (motive:=fun _=>Bool) (k (.n v .e .e .e .e .e .e .e .e)) (fun _ c0 c1 c2 c3 c4 c5 c6 c7 _ _ _ _ _ _ _ _=>k (.n v c0 c1 c2 c3 c4 c5 c6 c7)) t)
 (fun d _ ih t k=>Tr.rec (motive:=fun _=>Bool) (ih .e fun x=>repK d none .e .e .e .e .e .e .e .e x k) (fun u c0 c1 c2 c3 c4 c5 c6 c7 _ _ _ _ _ _ _ _=>ih (Dg.rec (motive:=fun _=>Tr α) c0 c1 c2 c3 c4 c5 c6 c7 d) fun x=>repK d u c0 c1 c2 c3 c4 c5 c6 c7 x k) t) p
noncomputable def getK:List Dg→Tr α→K (Option α):=fun p=>List.rec (motive:=fun _=>Tr α→K (Option α))
 (fun t k=>Tr.rec (motive:=fun _=>Bool) (k none) (fun v _ _ _ _ _ _ _ _ _ _ _ _ _ _ _ _=>k v) t)
 (fun d _ ih t k=>Tr.rec (motive:=fun _=>Bool) (k none) (fun _ c0 c1 c2 c3 c4 c5 c6 c7 _ _ _ _ _ _ _ _=>ih (Dg.rec (motive:=fun _=>Tr α) c0 c1 c2 c3 c4 c5 c6 c7 d) k) t) p
theorem getK_eq: ∀(p:List Dg) (t:Tr α) (k:Option α→Bool),getK p t k=k (get p t)
 | [],.e,_=>rfl
 | [],.n _ _ _ _ _ _ _ _ _,_=>rfl
 | _::_,.e,_=>rfl
 | d::p,.n _ c0 c1 c2 c3 c4 c5 c6 c7,k=>getK_eq p (pick c0 c1 c2 c3 c4 c5 c6 c7 d) k
theorem repK_eq(d:Dg)(v:Option α)(c0 c1 c2 c3 c4 c5 c6 c7 x:Tr α)(k:Tr α→Bool):repK d v c0 c1 c2 c3 c4 c5 c6 c7 x k=k (rep d v c0 c1 c2 c3 c4 c5 c6 c7 x):=by cases d <;> rfl
theorem setK_eq(v:Option α): ∀(p:List Dg) (t:Tr α) (k:Tr α→Bool),setK v p t k=k (set v p t)
 | [],.e,_=>rfl
 | [],.n _ _ _ _ _ _ _ _ _,_=>rfl
 | d::p,.e,k=>(setK_eq v p .e _).trans (repK_eq ..)
 | d::p,.n u c0 c1 c2 c3 c4 c5 c6 c7,k=>(setK_eq v p (pick c0 c1 c2 c3 c4 c5 c6 c7 d) _).trans (repK_eq ..)
theorem get_e: ∀p:List Dg,get p (.e:Tr α)=none
 | []=>rfl
 | _::_=>rfl
theorem get_rep(a d:Dg)(p:List Dg)(u:Option α)(c0 c1 c2 c3 c4 c5 c6 c7 x:Tr α):get (d::p) (rep a u c0 c1 c2 c3 c4 c5 c6 c7 x)=if a=d then get p x else get p (pick c0 c1 c2 c3 c4 c5 c6 c7 d):=by cases a <;> cases d <;> rfl
theorem pick_e(d:Dg):pick .e .e .e .e .e .e .e .e d=(.e:Tr α):=by cases d <;> rfl
theorem get_set(v:Option α): ∀(p q:List Dg) (t:Tr α),get q (set v p t)=if p=q then v else get q t
 | [],[],t=>by cases t <;> rfl
 | [],b::q,t=>by
  rw[if_neg (by simp)]
  cases t with
  | e=>exact(congrArg (get q) (pick_e b)).trans (get_e q)
  | n _ _ _ _ _ _ _ _ _=>rfl
 | a::p,[],t=>by
  rw[if_neg (by simp)]
  cases t <;> cases a <;> rfl
 | a::p,b::q,t=>by
  have h:=get_set v p q
  have key : ∀(u:Option α) (c0 c1 c2 c3 c4 c5 c6 c7:Tr α),get (b::q) (rep a u c0 c1 c2 c3 c4 c5 c6 c7 (set v p (pick c0 c1 c2 c3 c4 c5 c6 c7 a)))=if a::p=b::q then v else get q (pick c0 c1 c2 c3 c4 c5 c6 c7 b):=by
   intro u c0 c1 c2 c3 c4 c5 c6 c7
   rw[get_rep,h]
   by_cases e:a=b
   ·subst e
    by_cases e2:p=q
    ·subst e2; rw[if_pos rfl,if_pos rfl,if_pos rfl]
    ·rw[if_pos rfl,if_neg e2,if_neg (by simpa using e2)]
   ·rw[if_neg e,if_neg (fun c=>e (by injection c))]
  cases t with
  | e=>
   have k:=key none .e .e .e .e .e .e .e .e
   rw[pick_e,pick_e,get_e] at k
   rw[get_e]
   exact k
  | n u c0 c1 c2 c3 c4 c5 c6 c7=>exact key u c0 c1 c2 c3 c4 c5 c6 c7
end Tr
noncomputable def b1(t:Nat):Bool:=Nat.beq (Nat.mod t 2) 1
noncomputable def dgB(a b c:Bool):Dg:=Bool.rec (motive:=fun _=>Dg) (Bool.rec (motive:=fun _=>Dg) (Bool.rec (motive:=fun _=>Dg) .d0 .d4 c) (Bool.rec (motive:=fun _=>Dg) .d2 .d6 c) b) (Bool.rec (motive:=fun _=>Dg) (Bool.rec (motive:=fun _=>Dg) .d1 .d5 c) (Bool.rec (motive:=fun _=>Dg) .d3 .d7 c) b) a
noncomputable def dg(t:Nat):Dg:=dgB (b1 t) (b1 (Nat.div t 2)) (b1 (Nat.div t 4))
noncomputable def bitsF:Nat→Nat→List Dg:=fun f=>Nat.rec (motive:=fun _=>Nat→List Dg) (fun _=>[])
 (fun _ ih t=>Bool.rec (dg t::ih (Nat.div t 8)) [] (Nat.beq t 0)) f
noncomputable def bits(t:Nat):List Dg:=bitsF 14 t
theorem dgB_inj: ∀{a b c a' b' c':Bool},dgB a b c=dgB a' b' c'→a=a'∧b=b'∧c=c':=by
 intro a b c a' b' c' h
 cases a <;> cases b <;> cases c <;> cases a' <;> cases b' <;> cases c' <;> first|exact⟨rfl,rfl,rfl⟩|cases h
theorem b1_mod{m n:Nat}(h:b1 m=b1 n):m % 2=n % 2:=by
 have hm:m % 2 < 2:=Nat.mod_lt _ (by omega)
 have hn:n % 2 < 2:=Nat.mod_lt _ (by omega)
 have hx : ∀k,b1 k=decide (k % 2=1):=fun k=>by
  show Nat.beq (k % 2) 1=_
  cases hb:Nat.beq (k % 2) 1
  ·exact(decide_eq_false fun c=>by rw[c] at hb; cases hb).symm
  ·exact(decide_eq_true (Nat.eq_of_beq_eq_true hb)).symm
 rw[hx,hx] at h
 have h:=decide_eq_decide.1 h
 omega
theorem bitsF_inj: ∀(f a b:Nat),a < 8 ^ f→b < 8 ^ f→bitsF f a=bitsF f b→a=b
 | 0,a,b,ha,hb,_=>by omega
 | f+1,a,b,ha,hb,h=>by
  have e : ∀t,bitsF (f+1) t=if t=0 then [] else (dg t::bitsF f (t / 8)):=by
   intro t
   show(Bool.rec (motive:=fun _=>List Dg) (dg t::bitsF f (Nat.div t 8)) [] (Nat.beq t 0))=_
   by_cases h0:t=0
   ·subst h0; rfl
   ·have:Nat.beq t 0=false:=by rw[Bool.eq_false_iff]; exact fun c=>h0 (Nat.eq_of_beq_eq_true c)
    rw[this,if_neg h0]; rfl
  rw[e,e] at h
  by_cases h0:a=0
  ·by_cases h1:b=0
   ·omega
   ·rw[if_pos h0,if_neg h1] at h; cases h
  ·by_cases h1:b=0
   ·rw[if_neg h0,if_pos h1] at h; cases h
   ·rw[if_neg h0,if_neg h1] at h
    injection h with h2 h3
    have h4:=bitsF_inj f (a / 8) (b / 8) (by omega) (by omega) h3
    obtain⟨q1,q2,q3⟩:=dgB_inj h2
    have q1:=b1_mod q1
    have q2:(a / 2) % 2=(b / 2) % 2:=b1_mod q2
    have q3:(a / 4) % 2=(b / 4) % 2:=b1_mod q3
    omega
theorem bits_inj{a b:Nat}(ha:a < 2 ^ 40)(hb:b < 2 ^ 40)(h:bits a=bits b):a=b:=bitsF_inj 14 a b (by omega) (by omega) h
noncomputable def natK(n:Nat)(k:Nat→Bool):Bool:=Nat.rec (motive:=fun _=>Bool) (k 0) (fun p _=>k (Nat.succ p)) n
theorem natK_eq(n:Nat)(k:Nat→Bool):natK n k=k n:=by cases n <;> rfl
noncomputable def intK(z:Int)(k:Int→Bool):Bool:=Int.rec (motive:=fun _=>Bool) (fun m=>natK m fun m=>k (.ofNat m)) (fun m=>natK m fun m=>k (.negSucc m)) z
theorem intK_eq(z:Int)(k:Int→Bool):intK z k=k z:=by
 cases z with
 | ofNat m=>exact natK_eq m fun m=>k (.ofNat m)
 | negSucc m=>exact natK_eq m fun m=>k (.negSucc m)
end Go.Proofs.YtbhbdeelpopgoaaGreatDoor.E

namespace Go.Proofs.YtbhbdeelpopgoaaGreatDoor.H
open Go.RowKit
structure Fr where
 n:Nat
 ds:List Deferred
 e:List (Nat×Value)
def look:List (Nat×Value)→Nat→Option Value
 | [],_=>none
 | (k,v)::r,t=>match Nat.beq k t with
  | true=>some v
  | false=>look r t
def Fr.ev(f:Fr):Operand→Option Value
 | .tmp t=>look f.e t
 | .const v=>some v
 | .global g=>some (.pointer (some ⟨g,0,none⟩))
 | .func k=>some (.func (.func k) #[] #[])
def Fr.put(f:Fr)(d:Nat)(v:Value):Fr:=⟨f.n,f.ds,(d,v)::f.e⟩
structure Ag (f:Fr) (a:Act):Prop where
 size:a.tmps.size=f.n
 defers:a.defers=f.ds
 slot : ∀t v,look f.e t=some v→a.tmps.getD t undef=v
theorem Ag.eval{f:Fr}{a:Act}(h:Ag f a){x:Operand}{v:Value}(hx:f.ev x=some v):a.eval x=v:=by
 cases x with
 | tmp t=>exact h.slot t v hx
 | const u=>simpa [Fr.ev,Act.eval] using hx
 | global g=>simpa [Fr.ev,Act.eval] using hx
 | func k=>simpa [Fr.ev,Act.eval] using hx
theorem blt_lt{a b:Nat}(h:Nat.blt a b=true):a < b:=by simpa [Nat.blt_eq] using h
theorem ble_le{a b:Nat}(h:Nat.ble a b=true):a≤b:=by simpa [Nat.ble_eq] using h
theorem beq_ne{k t:Nat}(h:k≠t):Nat.beq k t=false:=by
 cases hb:Nat.beq k t with
 | false=>rfl
 | true=>exact absurd (Nat.eq_of_beq_eq_true hb) h
theorem beq_self(k:Nat):Nat.beq k k=true:=Nat.beq_refl k
theorem Ag.put{f:Fr}{a:Act}(h:Ag f a){d:Nat}(v:Value)(hd:Nat.blt d f.n=true):Ag (f.put d v) (a.put (some d) v):=by
 have hlt:d < a.tmps.size:=by rw[h.size]; exact blt_lt hd
 refine⟨by simp[Act.put,Fr.put,h.size],h.defers,fun t u hu=>?_⟩
 simp only[Fr.put,look] at hu
 by_cases hk:d=t
 ·subst hk
  rw[beq_self] at hu
  cases hu
  simp[Act.put,hlt]
 ·rw[beq_ne hk] at hu
  have:=h.slot t u hu
  simp only[Act.put,Array.getD_eq_getD_getElem?] at this ⊢
  rw[Array.getElem?_setIfInBounds_ne hk]
  exact this
def keep(l:List Nat)(e:List (Nat×Value)):List (Nat×Value):=
 match l with
 | []=>[]
 | t::r=>match look e t with
  | some v=>(t,v)::keep r e
  | none=>keep r e
theorem look_keep(l:List Nat)(e:List (Nat×Value))(t:Nat)(v:Value)(h:look (keep l e) t=some v):look e t=some v:=by
 induction l with
 | nil=>simp[keep,look] at h
 | cons k r ih=>
  simp only[keep] at h
  cases hk:look e k with
  | none=>rw[hk] at h; exact ih h
  | some u=>
   rw[hk] at h
   simp only[look] at h
   by_cases hkt:k=t
   ·subst hkt; rw[beq_self] at h; simp only at h; rw[hk]; exact h
   ·rw[beq_ne hkt] at h; exact ih h
theorem Ag.weaken{f:Fr}{a:Act}(h:Ag f a){e':List (Nat×Value)}(hs : ∀t v,look e' t=some v→look f.e t=some v):Ag ⟨f.n,f.ds,e'⟩ a:=
 ⟨h.size,h.defers,fun t v hv=>h.slot t v (hs t v hv)⟩
abbrev Post:=Exit→Fr→World→Prop
def lift(Q:Post):Exit→Act→World→Prop:=fun x a w=>∃f,Ag f a∧Q x f w
abbrev Rd1(r:Option Nat):Fence:={Fence.wide with round:=r}
def cwp(M:Option (Option Nat))(P:Program)(c:Code)(Q:Exit→Act→World→Prop)(a:Act)(w:World):Prop:=match M with
 | none=>c.wp P Q a w
 | some r=>c.wpIn (Rd1 r) 0 P Q a w
def lwp(M:Option (Option Nat))(P:Program)(ops:Array Oper)(Q:Exit→Act→World→Prop)(l:List Oper)(a:Act)(w:World):Prop:=match M with
 | none=>wpList P ops Q l a w
 | some r=>wpListIn (Rd1 r) 0 P ops Q l a w
def owp(M:Option (Option Nat))(P:Program)(o:Oper)(a:Act)(w:World)(K:Act→World→Prop)(Q:Exit→Act→World→Prop):Prop:=match M with
 | none=>o.wp P a w K Q
 | some r=>o.wpIn (Rd1 r) 0 P a w K Q
section base
variable {M : Option (Option Nat)} {P : Program} {Q Q' : Exit → Act → World → Prop} {a : Act} {w w' : World} {K : Act → World → Prop} {o : Oper} {ops : Array Oper} {rest : List Oper}
theorem cwp_mono{c:Code}(h:cwp M P c Q a w)(hq : ∀x a w,Q x a w→Q' x a w):cwp M P c Q' a w:=by
 cases M with
 | none=>exact wp_mono h hq
 | some r=>exact Go.wpIn_mono h hq
theorem cwp_seq{x y:Code}(h:cwp M P x (Exit.then (cwp M P y Q) Q) a w):cwp M P (.seq x y) Q a w:=by
 cases M with
 | none=>exact wp_seq h
 | some r=>exact wpIn_seq h
theorem cwp_skip(h:Q .normal a w):cwp M P .skip Q a w:=by
 cases M with
 | none=>exact wp_skip h
 | some r=>exact wpIn_skip h
theorem cwp_ret(h:Q .ret a w):cwp M P .ret Q a w:=by
 cases M with
 | none=>exact wp_ret h
 | some r=>exact wpIn_ret h
theorem cwp_exit{k:Nat}(h:Q (.exit k) a w):cwp M P (.exit k) Q a w:=by
 cases M with
 | none=>exact wp_exit h
 | some r=>exact wpIn_exit h
theorem cwp_cond{c:Operand}{x y:Code}{t:Bool}(hc:a.eval c = .bool t)(h:cwp M P (if t then x else y) Q a w):cwp M P (.cond c x y) Q a w:=by
 cases M with
 | none=>exact wp_cond hc h
 | some r=>exact wpIn_cond hc h
theorem cwp_block{k:Nat}{c:Code}(h:cwp M P c (Exit.inBlock k Q) a w):cwp M P (.block k c) Q a w:=by
 cases M with
 | none=>exact wp_block h
 | some r=>exact wpIn_block h
theorem cwp_region{id:Nat}{l:List Oper}(h:lwp M P l.toArray Q l a w):cwp M P (.region id l.toArray false) Q a w:=by
 cases M with
 | none=>exact wp_region_lit h
 | some r=>exact wpIn_region_lit h
theorem lwp_nil(h:Q .normal a w):lwp M P ops Q [] a w:=by
 cases M with
 | none=>exact h
 | some r=>exact h
theorem lwp_plain(hg:o.guard=none)(h : ∀K:Act→World→Prop,(∀a w,lwp M P ops Q rest a w→K a w)→owp M P o a w K Q):lwp M P ops Q (o::rest) a w:=by
 cases M with
 | none=>exact wpList_plain hg h
 | some r=>exact wpListIn_plain hg h
theorem not_defer{ρ:Operand→Value}{x:Next}(h:(execOp ρ o).run P w = .ok x w')(hx : ∀d,x≠.defer d): ∀c,o.op≠.defer c:=by
 intro c hc
 simp only[execOp,hc,Sem.run_bind] at h
 cases hr:(resolve ρ c o.type).run P w with
 | ok d w1=>rw[hr] at h; simp[Result.andThen] at h; exact hx _ h.1.symm
 | halt r w1=>rw[hr] at h; simp[Result.andThen] at h
theorem owp_val{v:Value}(hr:(execOp a.eval o).run P w = .ok (.value v) w')(k:K (a.put o.dst v) w'):owp M P o a w K Q:=by
 cases M with
 | none=>show o.wp P a w K Q; unfold Oper.wp; rw[hr]; exact k
 | some r=>
  refine⟨fun _ _=>trivial,?_⟩
  rw[show(Rd1 r).round=r from rfl,Oper.semAt_eq r _ _ (not_defer hr (fun _ c=>by cases c)),hr]; exact k
theorem owp_skip(hr:(execOp a.eval o).run P w = .ok .skip w')(k:K (a.put o.dst undef) w'):owp M P o a w K Q:=by
 cases M with
 | none=>show o.wp P a w K Q; unfold Oper.wp; rw[hr]; exact k
 | some r=>
  refine⟨fun _ _=>trivial,?_⟩
  rw[show(Rd1 r).round=r from rfl,Oper.semAt_eq r _ _ (not_defer hr (fun _ c=>by cases c)),hr]; exact k
theorem owp_panic{v:Value}(hd : ∀c,o.op≠.defer c)(hr:(execOp a.eval o).run P w = .halt (.panic v) w')(k:Q (.panic [{v,recovered:=false}]) a w'):owp M P o a w K Q:=by
 cases M with
 | none=>show o.wp P a w K Q; unfold Oper.wp; rw[hr]; exact k
 | some r=>
  refine⟨fun _ _=>trivial,?_⟩
  rw[show(Rd1 r).round=r from rfl,Oper.semAt_eq r _ _ hd,hr]; exact k
theorem owp_enter{k:FuncId}{args:Array Value}(hr:(execOp a.eval o).run P w = .ok (.enter k args) w){R:Ending→World→Prop}(h:Calls P k args w R)
  (hq : ∀e w',R e w'→match e with
   | .returned v=>K (a.put o.dst v) w'
   | .panicked chain=>Q (.panic chain) a w'
   | .outgrown=>False):owp M P o a w K Q:=by
 cases M with
 | none=>
  show o.wp P a w K Q
  unfold Oper.wp
  rw[hr,Oper.upon_enter]
  refine h.mono fun e w' hR=>?_
  have q:=hq e w' hR
  cases e with
  | returned v=>exact q
  | panicked ch=>exact q
  | outgrown=>exact q.elim
 | some r=>
  refine⟨fun _ _=>trivial,?_⟩
  rw[show(Rd1 r).round=r from rfl,Oper.semAt_eq r _ _ (not_defer hr (fun _ c=>by cases c)),hr,Oper.uponIn_enter]
  refine⟨fun c=>by simp[Fence.wide] at c,(show CallsIn (Rd1 r) (0 - 1) P k args w _ from callsIn_wide.2 h).mono fun e w' hR=>?_⟩
  have q:=hq e w' hR
  cases e with
  | returned v=>exact q
  | panicked ch=>exact q
  | outgrown=>exact q.elim
theorem exists_min{p:Nat→Prop}: ∀n,p n→∃n,p n∧∀m,p m→n≤m:=by
 intro n
 induction n using Nat.strongRecOn with
 | _ n ih=>
  intro h
  by_cases hm : ∃m,m < n∧p m
  ·obtain⟨m,h1,h2⟩:=hm; exact ih m h1 h2
  ·exact⟨n,h,fun m hp=>Nat.le_of_not_lt fun c=>hm ⟨m,c,hp⟩⟩
theorem cwp_loop{c:Code}(I:Nat→Act→World→Prop)(m:Nat)(h0:I m a w)
  (round : ∀m a w,I m a w→cwp M P c (Exit.then (fun a' w'=>∃m',m' < m∧I m' a' w') Q) a w):cwp M P (.loop c) Q a w:=by
 classical
 have hμ : ∃μ:Act→World→Nat,∀a w m,I m a w→I (μ a w) a w∧μ a w≤m:=by
  refine⟨fun a w=>if h : ∃m,I m a w then Classical.choose (exists_min (p:=fun m=>I m a w) _ (Classical.choose_spec h)) else 0,fun a w m hm=>?_⟩
  have h : ∃m,I m a w:=⟨m,hm⟩
  simp only[dif_pos h]
  have:=Classical.choose_spec (exists_min (p:=fun m=>I m a w) _ (Classical.choose_spec h))
  exact⟨this.1,this.2 m hm⟩
 obtain⟨μ,hμ⟩:=hμ
 have step : ∀a w,(∃m,I m a w)→cwp M P c (Exit.then (fun a' w'=>(∃m,I m a' w')∧μ a' w' < μ a w) Q) a w:=by
  intro a w ⟨m,hm⟩
  refine cwp_mono (round _ a w (hμ a w m hm).1) fun x a' w' q=>?_
  cases x with
  | normal=>
   obtain⟨m',h1,h2⟩:=q
   exact⟨⟨m',h2⟩,Nat.lt_of_le_of_lt (hμ a' w' m' h2).2 h1⟩
  | _=>exact q
 cases M with
 | none=>exact wp_loop (fun a w=>∃m,I m a w) μ ⟨m,h0⟩ step
 | some r=>exact wpIn_loop (fun a w=>∃m,I m a w) μ ⟨m,h0⟩ step
end base
def CW(M:Option (Option Nat))(P:Program)(Q:Post)(c:Code)(f:Fr)(w:World):Prop:=∀a,Ag f a→cwp M P c (lift Q) a w
def thenK(K:Fr→World→Prop)(Q:Post):Post
 | .normal,f,w=>K f w
 | x,f,w=>Q x f w
def CL(M:Option (Option Nat))(P:Program)(Q:Post):List Code→Fr→World→Prop
 | [],f,w=>Q .normal f w
 | c::cs,f,w=>CW M P (thenK (CL M P Q cs) Q) c f w
theorem CW.mono{M:Option (Option Nat)}{P:Program}{Q Q':Post}{c:Code}{f:Fr}{w:World}(h:CW M P Q c f w)(hq : ∀x f w,Q x f w→Q' x f w):CW M P Q' c f w:=
 fun a ha=>cwp_mono (h a ha) fun _ _ _ ⟨g,hg,q⟩=>⟨g,hg,hq _ _ _ q⟩
theorem CL.one{M:Option (Option Nat)}{P:Program}{Q:Post}{c:Code}{f:Fr}{w:World}(h:CL M P Q [c] f w):CW M P Q c f w:=
 CW.mono h fun x _ _ q=>by cases x <;> exact q
theorem CL.seq{M:Option (Option Nat)}{P:Program}{Q:Post}{x y:Code}{cs:List Code}{f:Fr}{w:World}(h:CL M P Q (x::y::cs) f w):CL M P Q (.seq x y::cs) f w:=by
 intro a ha
 refine cwp_seq (cwp_mono (h a ha) fun e a' w' q=>?_)
 obtain⟨f',hf',q⟩:=q
 cases e
 ·exact q a' hf'
 all_goals exact⟨f',hf',q⟩
theorem CL.skip{M:Option (Option Nat)}{P:Program}{Q:Post}{cs:List Code}{f:Fr}{w:World}(h:CL M P Q cs f w):CL M P Q (.skip::cs) f w:=
 fun _ ha=>cwp_skip ⟨f,ha,h⟩
theorem CL.ret{M:Option (Option Nat)}{P:Program}{Q:Post}{cs:List Code}{f:Fr}{w:World}(h:Q .ret f w):CL M P Q (.ret::cs) f w:=
 fun _ ha=>cwp_ret ⟨f,ha,h⟩
theorem CL.exit{M:Option (Option Nat)}{P:Program}{Q:Post}{cs:List Code}{k:Nat}{f:Fr}{w:World}(h:Q (.exit k) f w):CL M P Q (.exit k::cs) f w:=
 fun _ ha=>cwp_exit ⟨f,ha,h⟩
theorem CL.cond{M:Option (Option Nat)}{P:Program}{Q:Post}{cs:List Code}{c:Operand}{x y:Code}{f:Fr}{w:World}{b:Bool}(hc:f.ev c=some (.bool b))
  (ht:b=true→CL M P Q (x::cs) f w) (hf:b=false→CL M P Q (y::cs) f w):CL M P Q (.cond c x y::cs) f w:=by
 intro a ha
 cases b
 ·exact cwp_cond (ha.eval hc) (hf rfl a ha)
 ·exact cwp_cond (ha.eval hc) (ht rfl a ha)
theorem CL.condP{M:Option (Option Nat)}{P:Program}{Q:Post}{cs:List Code}{c:Operand}{x y:Code}{f:Fr}{w:World}{p:Prop}{_:Decidable p}(hc:f.ev c=some (.bool (decide p)))
  (ht:p→CL M P Q (x::cs) f w) (hf : ¬p→CL M P Q (y::cs) f w):CL M P Q (.cond c x y::cs) f w:=
 CL.cond hc (fun h=>ht (of_decide_eq_true h)) (fun h=>hf (of_decide_eq_false h))
theorem CL.condT{M:Option (Option Nat)}{P:Program}{Q:Post}{cs:List Code}{c:Operand}{x y:Code}{f:Fr}{w:World}(hc:f.ev c=some (.bool true))
  (ht:CL M P Q (x::cs) f w):CL M P Q (.cond c x y::cs) f w:=CL.cond hc (fun _=>ht) (fun h=>by cases h)
theorem CL.condF{M:Option (Option Nat)}{P:Program}{Q:Post}{cs:List Code}{c:Operand}{x y:Code}{f:Fr}{w:World}(hc:f.ev c=some (.bool false))
  (hf:CL M P Q (y::cs) f w):CL M P Q (.cond c x y::cs) f w:=CL.cond hc (fun h=>by cases h) (fun _=>hf)
def blockQ(k:Nat)(K:Fr→World→Prop)(Q:Post):Post
 | .normal,f,w=>K f w
 | .exit j,f,w=>match Nat.beq j k with
  | true=>K f w
  | false=>Q (.exit j) f w
 | x,f,w=>Q x f w
theorem CL.block{M:Option (Option Nat)}{P:Program}{Q:Post}{cs:List Code}{k:Nat}{c:Code}{f:Fr}{w:World}(h:CL M P (blockQ k (CL M P Q cs) Q) [c] f w):CL M P Q (.block k c::cs) f w:=by
 intro a ha
 refine cwp_block (cwp_mono (CL.one h a ha) fun e a' w' q=>?_)
 obtain⟨f',hf',q⟩:=q
 cases e with
 | exit j=>
  simp only[blockQ] at q
  simp only[Exit.inBlock]
  by_cases hjk:j=k
  ·subst hjk; rw[beq_self] at q; rw[if_pos rfl]; exact⟨f',hf',q⟩
  ·rw[beq_ne hjk] at q; rw[if_neg hjk]; exact⟨f',hf',q⟩
 | _=>exact⟨f',hf',q⟩
theorem CL.loop{M:Option (Option Nat)}{P:Program}{Q:Post}{cs:List Code}{c:Code}{f:Fr}{w:World}(I:Nat→Fr→World→Prop)(m:Nat)(h0:I m f w)
  (round : ∀m f w,I m f w→CL M P (thenK (fun f' w'=>∃m',m' < m∧I m' f' w') Q) [c] f w):CL M P Q (.loop c::cs) f w:=by
 intro a ha
 refine cwp_loop (fun m a w=>∃f,Ag f a∧I m f w) m ⟨f,ha,h0⟩ fun m a w ⟨f,hf,hI⟩=>?_
 refine cwp_mono (CL.one (round m f w hI) a hf) fun x a' w' q=>?_
 obtain⟨f',hf',q⟩:=q
 cases x with
 | normal=>obtain⟨m',h1,h2⟩:=q; exact⟨m',h1,f',hf',h2⟩
 | _=>exact⟨f',hf',q⟩
theorem CL.cut{M:Option (Option Nat)}{P:Program}{Q:Post}{cs:List Code}{c:Code}{f:Fr}{w:World}(K:Fr→World→Prop)(h:CL M P (thenK K Q) [c] f w)(hk : ∀f w,K f w→CL M P Q cs f w):CL M P Q (c::cs) f w:=
 CW.mono (CL.one h) fun x f w q=>by cases x <;> first|exact hk f w q|exact q
def FQ(P:Program)(fn:Func)(R:Ending→World→Prop):Post
 | .normal,f,w | .ret,f,w=>f.ds=[]∧∃v,(∀a,Ag f a→(results fn a.tmps).run P w = .ok v w)∧R (.returned v) w
 | .panic chain,f,w=>f.ds=[]∧R (.panicked chain) w
 | _,_,_=>False
def args:Nat→List Value→List (Nat×Value)
 | _,[]=>[]
 | k,v::r=>(k,v)::args (k+1) r
theorem look_args(l:List Value): ∀k t v,look (args k l) t=some v→k≤t∧l[t - k]?=some v:=by
 induction l with
 | nil=>intro k t v h; simp[args,look] at h
 | cons u r ih=>
  intro k t v h
  simp only[args,look] at h
  by_cases hkt:k=t
  ·subst hkt; rw[beq_self] at h; cases h; simp
  ·rw[beq_ne hkt] at h
   obtain⟨h1,h2⟩:=ih _ _ _ h
   have:t - k=(t - (k+1))+1:=by omega
   exact⟨by omega,by rw[this]; simpa using h2⟩
theorem enter{P:Program}{k n:Nat}{fn:Func}{c:Code}{l:List Value}{w:World}{R:Ending→World→Prop}(hf:P.funcs[k]?=some fn)(hn:fn.ntmps=n)(hb:fn.body=some c)
  (hl:Nat.ble l.length n=true) (h:CL none P (FQ P fn R) [c] ⟨n,[],args 0 l⟩ w):Calls P k l.toArray w R:=by
 refine calls_of_wp hf hb (wp_mono (CL.one h _ ⟨?_,rfl,?_⟩) fun e a w q=>?_)
 ·have:=ble_le hl
  simp[hn]; omega
 ·intro t v hv
  obtain⟨_,h2⟩:=look_args l 0 t v hv
  rw[Nat.sub_zero] at h2
  have hlt:t < l.length:=(List.getElem?_eq_some_iff.1 h2).1
  simp only[Array.getD_eq_getD_getElem?]
  rw[Array.getElem?_append_left (by simpa using hlt)]
  simp[h2]
 ·obtain⟨f,hf',q⟩:=q
  cases e with
  | normal=>obtain⟨hd,v,hv,hR⟩:=q; exact⟨hf'.defers.trans hd,v,hv a hf',hR⟩
  | ret=>obtain⟨hd,v,hv,hR⟩:=q; exact⟨hf'.defers.trans hd,v,hv a hf',hR⟩
  | panic ch=>exact⟨hf'.defers.trans q.1,q.2⟩
  | exit k=>exact q.elim
  | goto l=>exact q.elim
  | outgrown=>exact q.elim
def RW(M:Option (Option Nat))(P:Program)(ops:Array Oper)(Q:Post)(l:List Oper)(f:Fr)(w:World):Prop:=∀a,Ag f a→lwp M P ops (lift Q) l a w
theorem CL.region{M:Option (Option Nat)}{P:Program}{Q:Post}{cs:List Code}{id:Nat}{l:List Oper}{f:Fr}{w:World}(h:RW M P l.toArray (thenK (CL M P Q cs) Q) l f w):CL M P Q (.region id l.toArray false::cs) f w:=
 fun a ha=>cwp_region (h a ha)
theorem RW.nil{M:Option (Option Nat)}{P:Program}{ops:Array Oper}{Q:Post}{f:Fr}{w:World}(h:Q .normal f w):RW M P ops Q [] f w:=fun _ ha=>lwp_nil ⟨f,ha,h⟩
theorem RW.val{M:Option (Option Nat)}{P:Program}{ops:Array Oper}{Q:Post}{o:Oper}{rest:List Oper}{f:Fr}{w w':World}{d:Nat}{v:Value}(hg:o.guard=none)(hd:o.dst=some d)(hn:Nat.blt d f.n=true)
  (hr : ∀a,Ag f a→(execOp a.eval o).run P w = .ok (.value v) w') (k:RW M P ops Q rest (f.put d v) w'):RW M P ops Q (o::rest) f w:=by
 intro a ha
 refine lwp_plain hg fun K hK=>owp_val (hr a ha) ?_
 rw[hd]
 exact hK _ _ (k _ (ha.put v hn))
def Yd(P:Program)(f:Fr)(o:Oper)(v:Value)(w:World):Prop:=∀a,Ag f a→(execOp a.eval o).run P w = .ok (.value v) w
theorem RW.y{M:Option (Option Nat)}{P:Program}{ops:Array Oper}{Q:Post}{rest:List Oper}{f:Fr}{w:World}{v:Value}{d:Nat}{op:Op}{ty:TypeId}{pos:String}{af:Array Edge}(h:Yd P f {dst:=some d,op:=op,type:=ty,pos:=pos,after:=af,guard:=none} v w)(hd:Nat.blt d f.n=true)
  (k:RW M P ops Q rest (f.put d v) w):RW M P ops Q ({dst:=some d,op:=op,type:=ty,pos:=pos,after:=af,guard:=none}::rest) f w:=RW.val rfl rfl hd h k
theorem RW.act{M:Option (Option Nat)}{P:Program}{ops:Array Oper}{Q:Post}{o:Oper}{rest:List Oper}{f:Fr}{w w':World}(hg:o.guard=none)(hd:o.dst=none)
  (hr : ∀a,Ag f a→(execOp a.eval o).run P w = .ok .skip w') (k:RW M P ops Q rest f w'):RW M P ops Q (o::rest) f w:=by
 intro a ha
 refine lwp_plain hg fun K hK=>owp_skip (hr a ha) ?_
 rw[hd]
 exact hK _ _ (k _ ha)
theorem RW.panics{M:Option (Option Nat)}{P:Program}{ops:Array Oper}{Q:Post}{o:Oper}{rest:List Oper}{f:Fr}{w w':World}{v:Value}(hg:o.guard=none)(hnd : ∀c,o.op≠.defer c)
  (hr : ∀a,Ag f a→(execOp a.eval o).run P w = .halt (.panic v) w') (k:Q (.panic [{v,recovered:=false}]) f w'):RW M P ops Q (o::rest) f w:=by
 intro a ha
 exact lwp_plain hg fun K hK=>owp_panic hnd (hr a ha) ⟨f,ha,k⟩
theorem RW.call{M:Option (Option Nat)}{P:Program}{ops:Array Oper}{Q:Post}{o:Oper}{rest:List Oper}{f:Fr}{w:World}{k:FuncId}{args:Array Value}(hg:o.guard=none)
  (hn:(match o.dst with|some d=>Nat.blt d f.n|none=>true)=true) (hr : ∀a,Ag f a→(execOp a.eval o).run P w = .ok (.enter k args) w)
  {R:Ending→World→Prop} (h:Calls P k args w R)
  (hq : ∀e w',R e w'→match e with
   | .returned v=>RW M P ops Q rest (match o.dst with|some d=>f.put d v|none=>f) w'
   | .panicked chain=>Q (.panic chain) f w'
   | .outgrown=>False):RW M P ops Q (o::rest) f w:=by
 intro a ha
 refine lwp_plain hg fun K hK=>owp_enter (hr a ha) h fun e w' hR=>?_
 have q:=hq e w' hR
 cases e with
 | returned v=>
  refine hK _ _ ?_
  cases hd:o.dst with
  | none=>rw[hd] at q; exact q _ ha
  | some d=>rw[hd] at q hn; exact q _ (ha.put v hn)
 | panicked ch=>exact⟨f,ha,q⟩
 | outgrown=>exact q.elim
theorem yields{f:Fr}{a:Act}(ha:Ag f a){ops:Array Oper}{j t:Nat}{b:Bool}(hj:(ops[j]?).bind (·.dst)=some t)(hn:Nat.blt t f.n=true)(hv:look f.e t=some (.bool b)):yielded ops a.tmps j=some b:=by
 have h:=ha.slot t _ hv
 have hlt:t < a.tmps.size:=by rw[ha.size]; exact blt_lt hn
 have h2:a.tmps[t]?=some (.bool b):=by
  rw[Array.getD_eq_getD_getElem?] at h
  rw[Array.getElem?_eq_getElem hlt] at h ⊢
  simpa using h
 simp[yielded,hj,h2]
theorem RW.on{M:Option (Option Nat)}{P:Program}{ops:Array Oper}{Q:Post}{rest:List Oper}{f:Fr}{w:World}{dst:Option Tmp}{op:Op}{ty:TypeId}{pos:String}{af:Array Edge}{j t:Nat}{b:Bool}(hj:(ops[j]?).bind (·.dst)=some t)(hn:Nat.blt t f.n=true)
  (hv:look f.e t=some (.bool b)) (k:RW M P ops Q ({dst:=dst,op:=op,type:=ty,pos:=pos,after:=af,guard:=none}::rest) f w) :
  RW M P ops Q ({dst:=dst,op:=op,type:=ty,pos:=pos,after:=af,guard:=some (j,b)}::rest) f w:=by
 intro a ha
 have h:=k a ha
 have hw:Region.wanted ({dst:=dst,op:=op,type:=ty,pos:=pos,after:=af,guard:=some (j,b)}:Oper) (yielded ops a.tmps)=true:=by simp[Region.wanted,yields ha hj hn hv]
 have hw':Region.wanted ({dst:=dst,op:=op,type:=ty,pos:=pos,after:=af,guard:=none}:Oper) (yielded ops a.tmps)=true:=by simp[Region.wanted]
 cases M with
 | none=>
  unfold lwp wpList at h ⊢
  rw[if_pos hw'] at h
  rw[if_pos hw]
  exact h
 | some r=>
  change wpListIn (Rd1 r) 0 P ops (lift Q) _ a w at h
  change wpListIn (Rd1 r) 0 P ops (lift Q) _ a w
  unfold wpListIn at h ⊢
  rw[if_pos hw'] at h
  rw[if_pos hw]
  exact h
theorem RW.off{M:Option (Option Nat)}{P:Program}{ops:Array Oper}{Q:Post}{rest:List Oper}{f:Fr}{w:World}{dst:Option Tmp}{op:Op}{ty:TypeId}{pos:String}{af:Array Edge}{j t:Nat}{b c:Bool}(hj:(ops[j]?).bind (·.dst)=some t)(hn:Nat.blt t f.n=true)
  (hv:look f.e t=some (.bool c)) (hbc:(!c)=b) (hd:(match dst with|some d=>Nat.blt d f.n|none=>true)=true)
  (k:RW M P ops Q rest (match dst with|some d=>f.put d undef|none=>f) w) :
  RW M P ops Q ({dst:=dst,op:=op,type:=ty,pos:=pos,after:=af,guard:=some (j,b)}::rest) f w:=by
 intro a ha
 have hw:Region.wanted ({dst:=dst,op:=op,type:=ty,pos:=pos,after:=af,guard:=some (j,b)}:Oper) (yielded ops a.tmps)=false:=by
  subst hbc
  cases c <;> simp[Region.wanted,yields ha hj hn hv]
 cases M with
 | none=>
  unfold lwp wpList
  rw[hw]
  simp only[Bool.false_eq_true,if_false]
  cases dst with
  | none=>exact k _ ha
  | some d=>exact k _ (ha.put undef hd)
 | some r=>
  change wpListIn (Rd1 r) 0 P ops (lift Q) _ a w
  unfold wpListIn
  rw[hw]
  simp only[Bool.false_eq_true,if_false]
  refine⟨fun _ _=>trivial,?_⟩
  cases dst with
  | none=>exact k _ ha
  | some d=>exact k _ (ha.put undef hd)
theorem RW.off1{M:Option (Option Nat)}{P:Program}{ops:Array Oper}{Q:Post}{rest:List Oper}{f:Fr}{w:World}{d:Nat}{op:Op}{ty:TypeId}{pos:String}{af:Array Edge}{j t:Nat}{b c:Bool}(hj:(ops[j]?).bind (·.dst)=some t)(hn:Nat.blt t f.n=true)
  (hv:look f.e t=some (.bool c)) (hbc:(!c)=b) (hd:Nat.blt d f.n=true) (k:RW M P ops Q rest (f.put d undef) w) :
  RW M P ops Q ({dst:=some d,op:=op,type:=ty,pos:=pos,after:=af,guard:=some (j,b)}::rest) f w:=RW.off hj hn hv hbc hd k
end Go.Proofs.YtbhbdeelpopgoaaGreatDoor.H

namespace Go.Proofs.YtbhbdeelpopgoaaGreatDoor.H
open Go.RowKit
abbrev B(l:List UInt8):ByteArray:=⟨l.toArray⟩
theorem B_toList(l:List UInt8):(B l).toList=l:=by rw[ByteArray.toList_eq]
theorem B_size(l:List UInt8):(B l).size=l.length:=by simp[ByteArray.size]
class Und (P:Program) (t:TypeId) (d:outParam TypeDesc):Prop where out:P.underlying t=some d
class Inf (P:Program) (t:TypeId) (z:outParam Value) (size bytes:outParam Nat):Prop where out:(P.info? t).map (fun i=>(i.zero,i.size,i.bytes))=some (some z,size,bytes)
class Fld (P:Program) (s:TypeId) (i:Nat) (off ft:outParam Nat):Prop where out : ∃fs fd,P.underlying s=some (.struct fs)∧fs[i]?=some fd∧fd.offset=off∧fd.type=ft
section
variable {M : Option (Option Nat)} {P : Program} {ops : Array Oper} {Q : Post} {rest : List Oper} {f : Fr} {w : World} {d : Nat} {ty : TypeId} {pos : String} {af : Array Edge}
abbrev op1(d:Nat)(op:Op)(ty:TypeId)(pos:String)(af:Array Edge):Oper:={dst:=some d,op:=op,type:=ty,pos:=pos,after:=af,guard:=none}
abbrev op0(op:Op)(ty:TypeId)(pos:String)(af:Array Edge):Oper:={dst:=none,op:=op,type:=ty,pos:=pos,after:=af,guard:=none}
theorem run_sizeOf{t:TypeId}{z:Value}{s b:Nat}[h:Inf P t z s b](w:World):(sizeOf t).run P w = .ok s w:=by
 have h:=h.out
 cases hi:P.info? t with
 | none=>simp[hi] at h
 | some i=>
  simp only[hi,Option.map_some,Option.some.injEq,Prod.mk.injEq] at h
  simp[sizeOf,typeInfo,hi,h.2.1]
theorem run_zeroValue{t:TypeId}{z:Value}{s b:Nat}[h:Inf P t z s b](w:World):(zeroValue t).run P w = .ok z w:=by
 have h:=h.out
 cases hi:P.info? t with
 | none=>simp[hi] at h
 | some i=>
  simp only[hi,Option.map_some,Option.some.injEq,Prod.mk.injEq] at h
  simp[zeroValue,typeInfo,hi,h.1]
theorem Y.move{x:Operand}{v:Value}(hx:f.ev x=some v):Yd P f (op1 d (.move x) ty pos af) v w:=fun a ha=>by simp[execOp,ha.eval hx]
theorem Y.assign{x:Operand}{v:Value}(hx:f.ev x=some v):Yd P f (op1 d (.assign x) ty pos af) v w:=fun a ha=>by simp[execOp,ha.eval hx]
theorem Y.pickT{c x y:Operand}{v:Value}(hc:f.ev c=some (.bool true))(hx:f.ev x=some v):Yd P f (op1 d (.pick c x y) ty pos af) v w:=fun a ha=>by simp[execOp,ha.eval hx,ha.eval hc,asBool]
theorem Y.pickF{c x y:Operand}{v:Value}(hc:f.ev c=some (.bool false))(hy:f.ev y=some v):Yd P f (op1 d (.pick c x y) ty pos af) v w:=fun a ha=>by simp[execOp,ha.eval hy,ha.eval hc,asBool]
theorem noGuard(op:BinOp)(t:TypeId)(x y:Operand)(a b:Value)(h : ∀z,a≠.agg z)(h2:a≠.nilIface):(eqGuard op t x y a b).run P w = .ok () w:=by
 unfold eqGuard
 cases a <;> cases b <;> first|exact absurd rfl (h _)|exact absurd rfl h2|(cases op <;> rfl)
theorem run_bin{op:BinOp}{t yt:TypeId}{x y:Operand}{u v r:Value}{ρ:Operand→Value}(hx:ρ x=u)(hy:ρ y=v)(h : ∀z,u≠.agg z)(h2:u≠.nilIface)(hr:(binOp op t u v).run P w = .ok r w):
  (execOp ρ (op1 d (.binOp op t x y yt) ty pos af)).run P w = .ok (.value r) w:=by
 simp[execOp,hx,hy,noGuard op t x y u v h h2,hr]
theorem Y.bin{op:BinOp}{t yt:TypeId}{x y:Operand}{u v r:Value}(hx:f.ev x=some u)(hy:f.ev y=some v)(h : ∀z,u≠.agg z)(h2:u≠.nilIface)(hr:(binOp op t u v).run P w = .ok r w):Yd P f (op1 d (.binOp op t x y yt) ty pos af) r w:=fun a ha=>run_bin (ha.eval hx) (ha.eval hy) h h2 hr
theorem wrap64_id{z:Int}(h1 : -9223372036854775808≤z)(h2:z≤9223372036854775807):IntKind.i64.wrap z=z:=by
 simp only[IntKind.wrap,IntKind.bits,IntKind.signed]; simp; omega
theorem wrapu64_id{z:Int}(h1:0≤z)(h2:z < 18446744073709551616):IntKind.u64.wrap z=z:=by
 simp only[IntKind.wrap,IntKind.bits,IntKind.signed]; simp; omega
section arith
variable {t yt : TypeId} {x y : Operand} {a b : Int} {k : IntKind}
theorem Y.add(hx:f.ev x=some (.int k a))(hy:f.ev y=some (.int k b)):Yd P f (op1 d (.binOp .add t x y yt) ty pos af) (.int k (k.wrap (a+b))) w:=
 Y.bin hx hy (by simp) (by simp) (by simp[binOp,Op.intArith])
theorem Y.sub(hx:f.ev x=some (.int k a))(hy:f.ev y=some (.int k b)):Yd P f (op1 d (.binOp .sub t x y yt) ty pos af) (.int k (k.wrap (a - b))) w:=
 Y.bin hx hy (by simp) (by simp) (by simp[binOp,Op.intArith])
theorem Y.add64(hx:f.ev x=some (.int .i64 a))(hy:f.ev y=some (.int .i64 b))(h1 : -9223372036854775808≤a+b)(h2:a+b≤9223372036854775807):Yd P f (op1 d (.binOp .add t x y yt) ty pos af) (.int .i64 (a+b)) w:=by
 have h:=Y.add (P:=P) (w:=w) (d:=d) (ty:=ty) (pos:=pos) (af:=af) (t:=t) (yt:=yt) hx hy
 rw[wrap64_id h1 h2] at h
 exact h
theorem Y.sub64(hx:f.ev x=some (.int .i64 a))(hy:f.ev y=some (.int .i64 b))(h1 : -9223372036854775808≤a - b)(h2:a - b≤9223372036854775807):Yd P f (op1 d (.binOp .sub t x y yt) ty pos af) (.int .i64 (a - b)) w:=by
 have h:=Y.sub (P:=P) (w:=w) (d:=d) (ty:=ty) (pos:=pos) (af:=af) (t:=t) (yt:=yt) hx hy
 rw[wrap64_id h1 h2] at h
 exact h
theorem Y.rem(hx:f.ev x=some (.int k a))(hy:f.ev y=some (.int k b))(h0:b≠0):Yd P f (op1 d (.binOp .rem t x y yt) ty pos af) (.int k (a.tmod b)) w:=
 Y.bin hx hy (by simp) (by simp) (by simp[binOp,Op.intDiv,h0])
theorem Y.lss(hx:f.ev x=some (.int k a))(hy:f.ev y=some (.int k b)):Yd P f (op1 d (.binOp .lss t x y yt) ty pos af) (.bool (decide (a < b))) w:=
 Y.bin hx hy (by simp) (by simp) (by simp[binOp,Op.intCmp])
theorem Y.leq(hx:f.ev x=some (.int k a))(hy:f.ev y=some (.int k b)):Yd P f (op1 d (.binOp .leq t x y yt) ty pos af) (.bool (decide (a≤b))) w:=
 Y.bin hx hy (by simp) (by simp) (by simp[binOp,Op.intCmp])
theorem Y.gtr(hx:f.ev x=some (.int k a))(hy:f.ev y=some (.int k b)):Yd P f (op1 d (.binOp .gtr t x y yt) ty pos af) (.bool (decide (b < a))) w:=
 Y.bin hx hy (by simp) (by simp) (by simp[binOp,Op.intCmp])
theorem Y.eqi(hx:f.ev x=some (.int k a))(hy:f.ev y=some (.int k b)):Yd P f (op1 d (.binOp .eql t x y yt) ty pos af) (.bool (decide (a=b))) w:=
 Y.bin hx hy (by simp) (by simp) (by simp[binOp,Op.intCmp,BEq.beq])
theorem Y.nei(hx:f.ev x=some (.int k a))(hy:f.ev y=some (.int k b)):Yd P f (op1 d (.binOp .neq t x y yt) ty pos af) (.bool (decide (a≠b))) w:=
 Y.bin hx hy (by simp) (by simp) (by simp[binOp,Op.intCmp,bne,BEq.beq])
theorem Y.conv{s t:TypeId}{k1:IntKind}[h1:Und P t (.int k)](hx:f.ev x=some (.int k1 a))(hs:(P.underlying s).isSome=true):Yd P f (op1 d (.convert s t x) ty pos af) (.int k (k.wrap a)) w:=by
 intro a' ha
 obtain⟨u,hu⟩:=Option.isSome_iff_exists.1 hs
 simp[execOp,ha.eval hx,convert,run_underlying h1.out,run_underlying hu,Conv.intToInt]
end arith
section bools
variable {t yt : TypeId} {x y : Operand} {a b : Bool}
theorem Y.notb(hx:f.ev x=some (.bool a)):Yd P f (op1 d (.unOp .not t x) ty pos af) (.bool (!a)) w:=fun a' ha=>by simp[execOp,ha.eval hx,Op.unary]
theorem RW.split{l:List Oper}{t:Nat}(hv:look f.e t=some (.bool a))(h1:a=true→RW M P ops Q l (f.put t (.bool true)) w)(h2:a=false→RW M P ops Q l (f.put t (.bool false)) w):RW M P ops Q l f w:=by
 have key : ∀c,a=c→∀x,Ag f x→Ag (f.put t (.bool c)) x:=by
  intro c hc x hx
  refine⟨hx.size,hx.defers,fun s v hs=>?_⟩
  simp only[Fr.put,look] at hs
  by_cases hk:t=s
  ·subst hk; rw[beq_self] at hs; simp only[Option.some.injEq] at hs; rw[←hs,←hc]; exact hx.slot t _ hv
  ·rw[beq_ne hk] at hs; exact hx.slot s v hs
 intro x hx
 cases a with
 | true=>exact h1 rfl x (key _ rfl x hx)
 | false=>exact h2 rfl x (key _ rfl x hx)
theorem RW.splitP{l:List Oper}{t:Nat}{p:Prop}{_:Decidable p}(hv:look f.e t=some (.bool (decide p)))(h1:p→RW M P ops Q l (f.put t (.bool true)) w)(h2 : ¬p→RW M P ops Q l (f.put t (.bool false)) w):RW M P ops Q l f w:=
 RW.split hv (fun h=>h1 (of_decide_eq_true h)) (fun h=>h2 (of_decide_eq_false h))
end bools
section texts
variable {t yt : TypeId} {x y z : Operand} {a b : List UInt8}
theorem Y.cat(hx:f.ev x=some (.string (B a)))(hy:f.ev y=some (.string (B b)))(hl:a.length+b.length≤9223372036854775807):Yd P f (op1 d (.binOp .add t x y yt) ty pos af) (.string (B (a++b))) w:=by
 refine Y.bin hx hy (by simp) (by simp) ?_
 simp only[binOp,Op.stringOp]
 rw[if_neg (by simp only[B_size,IntKind.max,IntKind.signed,IntKind.bits]; simp; omega)]
 have:B a++B b=B (a++b):=by
  apply ByteArray.ext
  simp[ByteArray.data_append]
 rw[this]
 rfl
theorem Y.eqs(hx:f.ev x=some (.string (B a)))(hy:f.ev y=some (.string (B b))):Yd P f (op1 d (.binOp .eql t x y yt) ty pos af) (.bool (decide (a=b))) w:=
 Y.bin hx hy (by simp) (by simp) (by simp only[binOp,Op.stringOp,B_toList]; by_cases h:a=b <;> simp[h])
theorem Y.nes(hx:f.ev x=some (.string (B a)))(hy:f.ev y=some (.string (B b))):Yd P f (op1 d (.binOp .neq t x y yt) ty pos af) (.bool (decide (a≠b))) w:=
 Y.bin hx hy (by simp) (by simp) (by simp only[binOp,Op.stringOp,B_toList]; by_cases h:a=b <;> simp[h])
theorem Y.lts(hx:f.ev x=some (.string (B a)))(hy:f.ev y=some (.string (B b))):Yd P f (op1 d (.binOp .lss t x y yt) ty pos af) (.bool (Op.bytesLess a b)) w:=
 Y.bin hx hy (by simp) (by simp) (by simp only[binOp,Op.stringOp,B_toList]; rfl)
theorem Y.gts(hx:f.ev x=some (.string (B a)))(hy:f.ev y=some (.string (B b))):Yd P f (op1 d (.binOp .gtr t x y yt) ty pos af) (.bool (!(Op.bytesLess a b || a == b))) w:=
 Y.bin hx hy (by simp) (by simp) (by simp only[binOp,Op.stringOp,B_toList]; rfl)
theorem Y.lens[ht:Und P t .string](hx:f.ev x=some (.string (B a))):Yd P f (op1 d (.call {callee:= .builtin .len,args:=#[x],argTypes:=#[t]}) ty pos af) (.int .i64 (a.length:Int)) w:=fun a' ha=>by simp[execOp,resolve,invoke,builtin,Builtin.len_,ha.eval hx,run_underlying ht.out,goInt,B_size]
theorem Y.lenv{et:TypeId}[ht:Und P t (.slice et)]{p:Option Addr}{n c:Nat}(hx:f.ev x=some (.slice p n c)):Yd P f (op1 d (.call {callee:= .builtin .len,args:=#[x],argTypes:=#[t]}) ty pos af) (.int .i64 (n:Int)) w:=fun a' ha=>by simp[execOp,resolve,invoke,builtin,Builtin.len_,ha.eval hx,run_underlying ht.out,goInt]
theorem Y.idxs[ht:Und P t .string]{k:IntKind}{i:Int}(hx:f.ev x=some (.string (B a)))(hy:f.ev y=some (.int k i))(h0:0≤i)(h1:i < a.length):Yd P f (op1 d (.index t x y) ty pos af) (.int .u8 ((a.getD i.toNat 0).toNat:Int)) w:=by
 intro a' ha
 have hlt:i.toNat < a.length:=by omega
 have hs:(B a)[i.toNat]?=some (a.getD i.toNat 0):=by
  have h2:i.toNat < (B a).size:=by rw[B_size]; exact hlt
  rw[getElem?_pos (B a) i.toNat h2]
  simp only[List.getD_eq_getElem?_getD,List.getElem?_eq_getElem hlt,Option.getD_some]
  rfl
 simp[execOp,ha.eval hx,ha.eval hy,Instr.index,asIntOf,run_underlying ht.out,h0,hs]
end texts
section parts
variable {t : TypeId} {x y : Operand}
theorem Y.nilck{p:Addr}(hx:f.ev x=some (.pointer (some p))):Yd P f (op1 d (.nilCheck x) ty pos af) (.pointer (some p)) w:=fun a ha=>by simp[execOp,ha.eval hx]
theorem Y.extract{i:Nat}{vs:Array Value}{v:Value}(hx:f.ev x=some (.tuple vs))(hv:vs[i]?=some v):Yd P f (op1 d (.extract x i) ty pos af) v w:=fun a ha=>by simp[execOp,ha.eval hx,Instr.extract,hv]
end parts
end
section
variable {M : Option (Option Nat)} {P : Program} {ops : Array Oper} {Q : Post} {rest : List Oper} {f : Fr} {w : World} {d : Nat} {ty : TypeId} {pos : String} {af : Array Edge}
theorem Gt.move{x:Operand}(h:RW M P ops Q ({dst:=some d,op:= .move x,type:=ty,pos:=pos,after:=af,guard:=none}::rest) f w):RW M P ops Q ({dst:=some d,op:= .move x,type:=ty,pos:=pos,after:=af,guard:=none}::rest) f w:=h
theorem Gt.assign{x:Operand}(h:RW M P ops Q ({dst:=some d,op:= .assign x,type:=ty,pos:=pos,after:=af,guard:=none}::rest) f w):RW M P ops Q ({dst:=some d,op:= .assign x,type:=ty,pos:=pos,after:=af,guard:=none}::rest) f w:=h
theorem Gt.nilck{x:Operand}(h:RW M P ops Q ({dst:=some d,op:= .nilCheck x,type:=ty,pos:=pos,after:=af,guard:=none}::rest) f w):RW M P ops Q ({dst:=some d,op:= .nilCheck x,type:=ty,pos:=pos,after:=af,guard:=none}::rest) f w:=h
theorem Gt.fieldAddr{s:TypeId}{x:Operand}{i:Nat}(h:RW M P ops Q ({dst:=some d,op:= .fieldAddr s x i,type:=ty,pos:=pos,after:=af,guard:=none}::rest) f w):RW M P ops Q ({dst:=some d,op:= .fieldAddr s x i,type:=ty,pos:=pos,after:=af,guard:=none}::rest) f w:=h
theorem Gt.load{t:TypeId}{x:Operand}(h:RW M P ops Q ({dst:=some d,op:= .load t x,type:=ty,pos:=pos,after:=af,guard:=none}::rest) f w):RW M P ops Q ({dst:=some d,op:= .load t x,type:=ty,pos:=pos,after:=af,guard:=none}::rest) f w:=h
theorem Gt.pick{c x y:Operand}(h:RW M P ops Q ({dst:=some d,op:= .pick c x y,type:=ty,pos:=pos,after:=af,guard:=none}::rest) f w):RW M P ops Q ({dst:=some d,op:= .pick c x y,type:=ty,pos:=pos,after:=af,guard:=none}::rest) f w:=h
theorem Gt.extract{x:Operand}{i:Nat}(h:RW M P ops Q ({dst:=some d,op:= .extract x i,type:=ty,pos:=pos,after:=af,guard:=none}::rest) f w):RW M P ops Q ({dst:=some d,op:= .extract x i,type:=ty,pos:=pos,after:=af,guard:=none}::rest) f w:=h
theorem Gt.makeFunc{fn:Fn}{xs ys:Array Operand}(h:RW M P ops Q ({dst:=some d,op:= .makeFunc fn xs ys,type:=ty,pos:=pos,after:=af,guard:=none}::rest) f w):RW M P ops Q ({dst:=some d,op:= .makeFunc fn xs ys,type:=ty,pos:=pos,after:=af,guard:=none}::rest) f w:=h
theorem Gt.iface{t:TypeId}{x:Operand}(h:RW M P ops Q ({dst:=some d,op:= .makeInterface t x,type:=ty,pos:=pos,after:=af,guard:=none}::rest) f w):RW M P ops Q ({dst:=some d,op:= .makeInterface t x,type:=ty,pos:=pos,after:=af,guard:=none}::rest) f w:=h
theorem Gt.index{t:TypeId}{x y:Operand}(h:RW M P ops Q ({dst:=some d,op:= .index t x y,type:=ty,pos:=pos,after:=af,guard:=none}::rest) f w):RW M P ops Q ({dst:=some d,op:= .index t x y,type:=ty,pos:=pos,after:=af,guard:=none}::rest) f w:=h
theorem Gt.convert{s t:TypeId}{x:Operand}(h:RW M P ops Q ({dst:=some d,op:= .convert s t x,type:=ty,pos:=pos,after:=af,guard:=none}::rest) f w):RW M P ops Q ({dst:=some d,op:= .convert s t x,type:=ty,pos:=pos,after:=af,guard:=none}::rest) f w:=h
theorem Gt.not{t:TypeId}{x:Operand}(h:RW M P ops Q ({dst:=some d,op:= .unOp .not t x,type:=ty,pos:=pos,after:=af,guard:=none}::rest) f w):RW M P ops Q ({dst:=some d,op:= .unOp .not t x,type:=ty,pos:=pos,after:=af,guard:=none}::rest) f w:=h
theorem Gt.len{xs:Array Operand}{ts:Array TypeId}(h:RW M P ops Q ({dst:=some d,op:= .call {callee:= .builtin .len,args:=xs,argTypes:=ts},type:=ty,pos:=pos,after:=af,guard:=none}::rest) f w):RW M P ops Q ({dst:=some d,op:= .call {callee:= .builtin .len,args:=xs,argTypes:=ts},type:=ty,pos:=pos,after:=af,guard:=none}::rest) f w:=h
theorem Gt.idx{t:TypeId}{x y:Operand}(h:RW M P ops Q ({dst:=some d,op:= .indexAddr t x y,type:=ty,pos:=pos,after:=af,guard:=none}::rest) f w):RW M P ops Q ({dst:=some d,op:= .indexAddr t x y,type:=ty,pos:=pos,after:=af,guard:=none}::rest) f w:=h
theorem Gt.eql{t yt:TypeId}{x y:Operand}(h:RW M P ops Q ({dst:=some d,op:= .binOp .eql t x y yt,type:=ty,pos:=pos,after:=af,guard:=none}::rest) f w):RW M P ops Q ({dst:=some d,op:= .binOp .eql t x y yt,type:=ty,pos:=pos,after:=af,guard:=none}::rest) f w:=h
theorem Gt.neq{t yt:TypeId}{x y:Operand}(h:RW M P ops Q ({dst:=some d,op:= .binOp .neq t x y yt,type:=ty,pos:=pos,after:=af,guard:=none}::rest) f w):RW M P ops Q ({dst:=some d,op:= .binOp .neq t x y yt,type:=ty,pos:=pos,after:=af,guard:=none}::rest) f w:=h
theorem Gt.lss{t yt:TypeId}{x y:Operand}(h:RW M P ops Q ({dst:=some d,op:= .binOp .lss t x y yt,type:=ty,pos:=pos,after:=af,guard:=none}::rest) f w):RW M P ops Q ({dst:=some d,op:= .binOp .lss t x y yt,type:=ty,pos:=pos,after:=af,guard:=none}::rest) f w:=h
theorem Gt.leq{t yt:TypeId}{x y:Operand}(h:RW M P ops Q ({dst:=some d,op:= .binOp .leq t x y yt,type:=ty,pos:=pos,after:=af,guard:=none}::rest) f w):RW M P ops Q ({dst:=some d,op:= .binOp .leq t x y yt,type:=ty,pos:=pos,after:=af,guard:=none}::rest) f w:=h
theorem Gt.gtr{t yt:TypeId}{x y:Operand}(h:RW M P ops Q ({dst:=some d,op:= .binOp .gtr t x y yt,type:=ty,pos:=pos,after:=af,guard:=none}::rest) f w):RW M P ops Q ({dst:=some d,op:= .binOp .gtr t x y yt,type:=ty,pos:=pos,after:=af,guard:=none}::rest) f w:=h
theorem Gt.add{t yt:TypeId}{x y:Operand}(h:RW M P ops Q ({dst:=some d,op:= .binOp .add t x y yt,type:=ty,pos:=pos,after:=af,guard:=none}::rest) f w):RW M P ops Q ({dst:=some d,op:= .binOp .add t x y yt,type:=ty,pos:=pos,after:=af,guard:=none}::rest) f w:=h
theorem Gt.sub{t yt:TypeId}{x y:Operand}(h:RW M P ops Q ({dst:=some d,op:= .binOp .sub t x y yt,type:=ty,pos:=pos,after:=af,guard:=none}::rest) f w):RW M P ops Q ({dst:=some d,op:= .binOp .sub t x y yt,type:=ty,pos:=pos,after:=af,guard:=none}::rest) f w:=h
theorem Gt.rem{t yt:TypeId}{x y:Operand}(h:RW M P ops Q ({dst:=some d,op:= .binOp .rem t x y yt,type:=ty,pos:=pos,after:=af,guard:=none}::rest) f w):RW M P ops Q ({dst:=some d,op:= .binOp .rem t x y yt,type:=ty,pos:=pos,after:=af,guard:=none}::rest) f w:=h
theorem Gt.guard{o:Option Nat}{op:Op}{j:Nat}{b:Bool}(h:RW M P ops Q ({dst:=o,op:=op,type:=ty,pos:=pos,after:=af,guard:=some (j,b)}::rest) f w):RW M P ops Q ({dst:=o,op:=op,type:=ty,pos:=pos,after:=af,guard:=some (j,b)}::rest) f w:=h
theorem Gt.nil(h:RW M P ops Q [] f w):RW M P ops Q [] f w:=h
end
end Go.Proofs.YtbhbdeelpopgoaaGreatDoor.H

namespace Go.Proofs.YtbhbdeelpopgoaaGreatDoor.H
open Go.RowKit
structure Kept (S:Nat→Prop) (w w':World):Prop where
 os:w'.os=w.os
 tape:w'.tape=w.tape
 output:w'.output=w.output
 size:w.heap.size≤w'.heap.size
 block : ∀k,k < w.heap.size→¬S k→w'.heap[k]?=w.heap[k]?
abbrev K0(w w':World):Prop:=Kept (fun _=>False) w w'
theorem Kept.refl(S:Nat→Prop)(w:World):Kept S w w:=⟨rfl,rfl,rfl,Nat.le_refl _,fun _ _ _=>rfl⟩
theorem Kept.mono{S T:Nat→Prop}{w w':World}(h:Kept S w w')(hs : ∀k,S k→T k):Kept T w w':=⟨h.os,h.tape,h.output,h.size,fun k hk hn=>h.block k hk fun c=>hn (hs k c)⟩
theorem Kept.of0{S:Nat→Prop}{w w':World}(h:K0 w w'):Kept S w w':=h.mono fun _ c=>c.elim
theorem Kept.trans{S T:Nat→Prop}{a b c:World}(h:Kept S a b)(k:Kept T b c)(hT : ∀k,T k→S k∨a.heap.size≤k):Kept S a c:=
 ⟨k.os.trans h.os,k.tape.trans h.tape,k.output.trans h.output,Nat.le_trans h.size k.size,fun i hi hn=>
  (k.block i (Nat.lt_of_lt_of_le hi h.size) (fun t=>(hT i t).elim hn (fun l=>by omega))).trans (h.block i hi hn)⟩
theorem Kept.trans0{S:Nat→Prop}{a b c:World}(h:Kept S a b)(k:K0 b c):Kept S a c:=h.trans k fun _ c=>c.elim
theorem Kept.below{w w':World}(h:K0 w w'):Below w.heap.size w w':=⟨h.os,h.tape,h.output,h.size,fun k hk=>h.block k hk fun c=>c⟩
theorem Kept.of_below{w w':World}(h:Below w.heap.size w w'):K0 w w':=⟨h.os,h.tape,h.output,h.size,fun k hk _=>h.block k hk⟩
theorem Kept.of_grown{w w':World}{row:Option Nat}(h:w.grownBy w' row):Kept (fun k=>row=some k) w w':=
 ⟨h.os,h.tape,h.output,h.size,fun k hk hn=>h.block k hk fun c=>hn c.symm⟩
theorem Kept.alloc(w:World)(o:Obj):K0 w (w.alloc o):=⟨rfl,rfl,rfl,by simp,fun k hk _=>Below.heap_alloc w o k hk⟩
theorem Kept.drew(w:World):K0 w w.drew:=⟨rfl,rfl,rfl,Nat.le_refl _,fun _ _ _=>rfl⟩
theorem Kept.setCell(w:World)(a:Addr)(v:Value):Kept (fun k=>k=a.block) w (w.setCell a v):=
 ⟨rfl,rfl,rfl,by simp,fun k _ hn=>Below.heap_setCell w a v k hn⟩
theorem Kept.setRow(w:World)(g:Nat)(c:Array Value):Kept (fun k=>k=g) w (w.setRow g c):=
 ⟨rfl,rfl,rfl,by simp,fun k _ hn=>setRow_other w g k c hn⟩
theorem Kept.at{S:Nat→Prop}{w w':World}(h:Kept S w w'){g:Nat}{o:Obj}(ho:w.heap[g]?=some o)(hn : ¬S g):w'.heap[g]?=some o:=
 (h.block g (Array.getElem?_eq_some_iff.1 ho).1 hn).trans ho
theorem Kept.at0{w w':World}(h:K0 w w'){g:Nat}{o:Obj}(ho:w.heap[g]?=some o):w'.heap[g]?=some o:=h.at ho fun c=>c
theorem lt_of_at{w:World}{g:Nat}{o:Obj}(ho:w.heap[g]?=some o):g < w.heap.size:=(Array.getElem?_eq_some_iff.1 ho).1
def live:Value→Option Nat
 | .slice (some a) _ (_+1)=>some a.block
 | _=>none
theorem live_own{v:Value}{g:Nat}(h:live v=some g):v.ownBlock=some g:=by
 unfold live at h
 split at h
 ·cases h; rfl
 ·cases h
theorem live_pos{p:Addr}{n cap:Nat}(h:0 < cap):live (.slice (some p) n cap)=some p.block:=by
 cases cap with
 | zero=>omega
 | succ k=>rfl
def Sl(w:World)(sz:Nat)(v:Value)(n:Nat)(xs:List Value):Prop:=
 xs.length=n * sz∧n≤maxLen∧
 ((∃p,v = .slice p 0 0∧n=0)∨
  ∃g off cap cur e fz,v = .slice (some ⟨g,off,none⟩) n cap∧w.heap[g]?=some (.cells cur e fz)∧n≤cap∧cap≤maxLen∧off+cap * sz≤cur.size∧(cur.toList.drop off).take (n * sz)=xs)
theorem Sl.nil(w:World)(sz:Nat):Sl w sz (.slice none 0 0) 0 []:=⟨by simp,by simp,.inl ⟨_,rfl,rfl⟩⟩
theorem Sl.len{w:World}{sz:Nat}{v:Value}{n:Nat}{xs:List Value}(h:Sl w sz v n xs):xs.length=n * sz:=h.1
theorem Sl.keep{S:Nat→Prop}{w w':World}{sz:Nat}{v:Value}{n:Nat}{xs:List Value}(h:Sl w sz v n xs)(k:Kept S w w')(hn : ∀g,live v=some g→¬S g):Sl w' sz v n xs:=by
 refine⟨h.1,h.2.1,?_⟩
 rcases h.2.2 with h|⟨g,off,cap,cur,e,fz,hv,hg,hn',r⟩
 ·exact .inl h
 ·by_cases hc:0 < cap
  ·exact .inr ⟨g,off,cap,cur,e,fz,hv,k.at hg (hn g (by rw[hv]; exact live_pos hc)),hn',r⟩
  ·have hc0:cap=0:=by omega
   subst hc0
   have hn0:n=0:=by omega
   subst hn0
   exact .inl ⟨_,hv,rfl⟩
theorem Sl.keep0{w w':World}{sz:Nat}{v:Value}{n:Nat}{xs:List Value}(h:Sl w sz v n xs)(k:K0 w w'):Sl w' sz v n xs:=h.keep k fun _ _ c=>c
theorem Sl.lt{w:World}{sz:Nat}{v:Value}{n:Nat}{xs:List Value}(h:Sl w sz v n xs){g:Nat}(hg:live v=some g):g < w.heap.size:=by
 rcases h.2.2 with ⟨p,rfl,_⟩|⟨g',off,cap,cur,e,fz,rfl,hh,_⟩
 ·cases p <;> cases hg
 ·have:=live_own hg; cases this; exact lt_of_at hh
theorem Sl.of_own{w:World}{base:Nat}{e:TypeId}{sz:Nat}{v:Value}{n:Nat}{xs:List Value}(h:w.ownsRow base e sz v n xs):Sl w sz v n xs:=by
 rcases h.2 with ⟨rfl,rfl⟩|⟨g,cap,cur,rfl,hb,hg,hn,hm,hs,ht⟩
 ·exact⟨h.1,by simp,.inl ⟨_,rfl,rfl⟩⟩
 ·exact⟨h.1,Nat.le_trans hn hm,.inr ⟨g,0,cap,cur,e,(0,0),rfl,hg,hn,hm,by omega,by simpa using ht⟩⟩
theorem addr_add(g off k:Nat):(⟨g,off,none⟩:Addr).add k=⟨g,off+k,none⟩:=by
 unfold Addr.add; split <;> simp_all
theorem cell_row{w:World}{g off:Nat}{cur:Array Value}{e:TypeId}{fz:Nat×Nat}(h:w.heap[g]?=some (.cells cur e fz))(j:Nat):w.cell? ⟨g,j,none⟩=cur[j]?:=by
 simp[World.cell?,h]
def Value.spot(v:Value)(k:Nat):Addr:=match v with
 | .slice (some a) _ _=>a.add k
 | _=>⟨0,0,none⟩
theorem Sl.cell{w:World}{sz:Nat}{v:Value}{n:Nat}{xs:List Value}(h:Sl w sz v n xs){j:Nat}{u:Value}(hu:xs[j]?=some u):w.cell? (Value.spot v j)=some u:=by
 have hj:j < xs.length:=(List.getElem?_eq_some_iff.1 hu).1
 rcases h.2.2 with ⟨_,_,h0⟩|⟨g,off,cap,cur,e,fz,rfl,hg,hn,hm,ho,ht⟩
 ·rw[h.1,h0] at hj; omega
 ·simp only[Value.spot,addr_add]
  rw[cell_row (off:=off) hg]
  rw[←ht] at hu
  rw[List.getElem?_take] at hu
  split at hu
  ·simpa using hu
  ·cases hu
section
variable {M : Option (Option Nat)} {P : Program} {ops : Array Oper} {Q : Post} {rest : List Oper} {f : Fr} {w : World} {d : Nat} {ty : TypeId} {pos : String} {af : Array Edge}
class One (P:Program) (t:TypeId):Prop where
 agg : ∀w,(isAgg t).run P w = .ok false w
 size : ∀w,(sizeOf t).run P w = .ok 1 w
class Many (P:Program) (t:TypeId) (n:outParam Nat):Prop where
 agg : ∀w,(isAgg t).run P w = .ok true w
 size : ∀w,(sizeOf t).run P w = .ok n w
theorem Y.load1{t:TypeId}[h:One P t]{x:Operand}{a:Addr}{v:Value}(hx:f.ev x=some (.pointer (some a)))(hc:w.cell? a=some v):Yd P f (op1 d (.load t x) ty pos af) v w:=fun a' ha=>by simp[execOp,ha.eval hx,Instr.loadAt,Instr.sureAddr,loadVar,h.agg,load,Sem.run,hc]
theorem Y.loadB{t:TypeId}[h:One P t]{x:Operand}{g j:Nat}{v:Value}{c:Array Value}{e:TypeId}{fz:Nat×Nat}(hx:f.ev x=some (.pointer (some ⟨g,j,none⟩)))(hb:w.heap[g]?=some (.cells c e fz))(hc:c.toList[j]?=some v):Yd P f (op1 d (.load t x) ty pos af) v w:=
 Y.load1 hx (by rw[cell_row (off:=0) hb]; simpa using hc)
theorem RW.loadN{t:TypeId}{n:Nat}[h:Many P t n]{x:Operand}{a:Addr}{cs:List Value}(hx:f.ev x=some (.pointer (some a)))(hl:cs.length=n)(hc : ∀j v,cs[j]?=some v→w.cell? (a.add j)=some v)(hd:Nat.blt d f.n=true)(k:RW M P ops Q rest (f.put d (.agg cs.toArray)) w):
  RW M P ops Q (op1 d (.load t x) ty pos af::rest) f w:=
 RW.val rfl rfl hd (fun a' ha=>by
  have hr:=run_loadCells_list (P:=P) w a cs hc
  rw[hl] at hr
  simp[execOp,ha.eval hx,Instr.loadAt,Instr.sureAddr,loadVar,h.agg,h.size,hr]) k
theorem heap_setCell_same{w:World}{g j:Nat}{c:Array Value}{e:TypeId}{fz:Nat×Nat}(h:w.heap[g]?=some (.cells c e fz))(v:Value):(w.setCell ⟨g,j,none⟩ v).heap[g]?=some (.cells (c.setIfInBounds j v) e fz):=by
 simp[World.setCell,Array.getElem?_modify,h]
theorem frozen_row{w:World}{g j:Nat}{c:Array Value}{e:TypeId}(h:w.heap[g]?=some (.cells c e (0,0))):w.frozen? ⟨g,j,none⟩=false:=by
 simp[World.frozen?,h]
theorem RW.storeN{t:TypeId}{x y:Operand}{g j n:Nat}{u:Value}{c:Array Value}{e:TypeId}(hsz : ∀w,(sizeOf t).run P w = .ok n w)(hx:f.ev x=some (.pointer (some ⟨g,j,none⟩)))(hy:f.ev y=some u)(hu:u.cells.size=n)(h1 : ∀z∈u.cells.toList,z.oneCell'=true)
  (hb:w.heap[g]?=some (.cells c e (0,0))) (hj:j+n≤c.size)
  (k : ∀w',w'.heap[g]?=some (.cells (c.toList.take j++u.cells.toList++c.toList.drop (j+n)).toArray e (0,0))→Kept (fun k=>k=g) w w'→RW M P ops Q rest f w'):RW M P ops Q (op0 (.store t x y) ty pos af::rest) f w:=by
 have hst:=run_storeCells_at P g j e u.cells.toList 0 c w hb (by simp[hu]; omega) h1
 simp only[Nat.add_zero,Array.length_toList,hu] at hst
 refine RW.act rfl rfl (fun a ha=>?_) (k _ (setRow_heap w g c _ e (0,0) hb) (Kept.setRow w g _))
 simp[execOp,ha.eval hx,ha.eval hy,Instr.storeAt,Instr.sureAddr,storeVar,hsz,hu,hst]
theorem take_set_drop(l:List Value)(j:Nat)(u:Value)(h:j < l.length):l.take j++[u]++l.drop (j+1)=l.set j u:=by
 rw[List.set_eq_take_append_cons_drop,if_pos h]; simp
theorem RW.storeB{t:TypeId}[h:One P t]{x y:Operand}{g j:Nat}{u:Value}{c:Array Value}{e:TypeId}(hx:f.ev x=some (.pointer (some ⟨g,j,none⟩)))(hy:f.ev y=some u)(h1:u.oneCell'=true)(hb:w.heap[g]?=some (.cells c e (0,0)))(hj:j < c.size)
  (k : ∀w',w'.heap[g]?=some (.cells (c.setIfInBounds j u) e (0,0))→Kept (fun k=>k=g) w w'→RW M P ops Q rest f w'):RW M P ops Q (op0 (.store t x y) ty pos af::rest) f w:=by
 have hcs:u.cells=#[u]:=by cases u <;> first|rfl|cases h1
 refine RW.storeN h.size hx hy (by rw[hcs]; rfl) (by rw[hcs]; simpa using h1) hb (by omega) fun w' hw=>k w' ?_
 rw[hw,hcs]
 have:=take_set_drop c.toList j u (by simpa using hj)
 rw[show([u]:List Value)=[u] from rfl,this]
 congr 2
 apply Array.ext'
 simp
theorem Y.fieldAddr{s off ft:TypeId}{i:Nat}[h:Fld P s i off ft]{z:Value}{sz b:Nat}[h2:Inf P ft z sz b]{x:Operand}{g o:Nat}(hx:f.ev x=some (.pointer (some ⟨g,o,none⟩)))(hz:Nat.beq sz 0=false):Yd P f (op1 d (.fieldAddr s x i) ty pos af) (.pointer (some ⟨g,o+off,none⟩)) w:=by
 intro a ha
 obtain⟨fs,fd,hs,hi,ho,hf⟩:=h.out
 have hz':sz≠0:=fun c=>by subst c; simp at hz
 have h3:=run_sizeOf (P:=P) (t:=ft) w
 simp[execOp,ha.eval hx,Instr.fieldAt,run_underlying hs,hi,Instr.sureAddr,fieldPlace,hf,h3,hz',addr_add,ho]
theorem RW.alloc{t:TypeId}{z:Value}{sz b:Nat}[h:Inf P t z sz b](hd:Nat.blt d f.n=true)
  (k : ∀w',w'.heap[w.heap.size]?=some (.cells z.cells t (0,0))→K0 w w'→w.heap.size < w'.heap.size→RW M P ops Q rest (f.put d (.pointer (some ⟨w.heap.size,0,none⟩))) w'):RW M P ops Q (op1 d (.alloc t) ty pos af::rest) f w:=by
 refine RW.val rfl rfl hd (fun a ha=>?_) (k (w.alloc (.cells z.cells t)) (heap_alloc_new w _) (Kept.alloc w _) (by simp))
 have h3:=run_zeroValue (P:=P) (t:=t) w
 simp[execOp,Instr.alloc,h3,newVar,newRow,newObj,Sem.run]
theorem RW.box{t:TypeId}{x:Operand}{v:Value}(hx:f.ev x=some v)(hd:Nat.blt d f.n=true)
  (k : ∀w',w'.heap[w.heap.size]?=some (.cells v.cells t (0,0))→K0 w w'→w.heap.size < w'.heap.size→RW M P ops Q rest (f.put d (.pointer (some ⟨w.heap.size,0,none⟩))) w'):RW M P ops Q (op1 d (.box t x) ty pos af::rest) f w:=by
 refine RW.val rfl rfl hd (fun a ha=>?_) (k (w.alloc (.cells v.cells t)) (heap_alloc_new w _) (Kept.alloc w _) (by simp))
 simp[execOp,ha.eval hx,Instr.box,newVar,newRow,newObj,Sem.run]
end
end Go.Proofs.YtbhbdeelpopgoaaGreatDoor.H

namespace Go.Proofs.YtbhbdeelpopgoaaGreatDoor.H
open Go.RowKit
theorem foldl_set(l:List Value)(off:Nat): ∀(i:Nat) (cs:Array Value),off+i+l.length≤cs.size→
  ((l.zipIdx i).foldl (fun cs p=>cs.setIfInBounds (off+p.2) p.1) cs).toList=cs.toList.take (off+i)++l++cs.toList.drop (off+i+l.length):=by
 induction l with
 | nil=>intro i cs _; simp
 | cons v r ih=>
  intro i cs h
  simp only[List.length_cons] at h
  simp only[List.zipIdx_cons,List.foldl_cons]
  rw[ih (i+1) _ (by simp; omega)]
  have e:=list_seg_step cs.toList (off+i) v r (by simp; omega)
  simpa [Array.toList_setIfInBounds,Nat.add_assoc] using e
theorem fill_one(sz off:Nat)(place:Nat→Option (Nat×Nat))(i:Nat)(v:Value)(cells:Array Value)(rest:List (Nat×Value))(hp:place i=some (off,sz))(hv:v.cells.size=sz)(hc:off+sz≤cells.size):
  Instr.fill place cells ((i,v)::rest)=Instr.fill place (cells.toList.take off++v.cells.toList++cells.toList.drop (off+sz)).toArray rest:=by
 conv=>lhs; unfold Instr.fill
 simp only[hp,hv]
 rw[if_neg (by simp; omega)]
 congr 1
 apply Array.ext'
 have:=foldl_set v.cells.toList off 0 cells (by simp[hv]; omega)
 simp only[Nat.add_zero,Array.length_toList,hv] at this
 rw[←Array.foldl_toList]
 simp only[Array.toList_zipIdx]
 exact this
def catCells(vs:List Value):List Value:=vs.flatMap fun v=>v.cells.toList
theorem fill_all(sz:Nat)(hsz : ∀n:Nat,True): ∀(vs:List Value) (k:Nat) (cells:Array Value),(∀v∈vs,v.cells.size=sz)→cells.size=(k+vs.length) * sz→
  Instr.fill (fun i=>some (i * sz,sz)) cells ((vs.zipIdx k).map fun p=>(p.2,p.1))=some (cells.toList.take (k * sz)++catCells vs).toArray:=by
 intro vs
 induction vs with
 | nil=>
  intro k cells _ hc
  simp only[List.zipIdx_nil,List.map_nil,Instr.fill,catCells,List.flatMap_nil,List.append_nil]
  rw[List.take_of_length_le (by simp at hc ⊢; omega)]
 | cons v r ih=>
  intro k cells hv hc
  have h0:=hv v (by simp)
  have hmul:(k+(v::r).length) * sz=k * sz+sz+r.length * sz:=by
   simp only[List.length_cons]; rw[Nat.add_mul,Nat.add_mul]; omega
  simp only[List.zipIdx_cons,List.map_cons]
  rw[fill_one sz (k * sz) _ k v cells _ rfl h0 (by omega)]
  rw[ih (k+1) _ (fun x hx=>hv x (by simp[hx])) ?_]
  ·congr 2
   simp only[catCells,List.flatMap_cons,←List.append_assoc]
   congr 1
   rw[List.take_append_of_le_length (by simp[h0]; rw[Nat.add_mul]; omega),List.take_of_length_le (by simp[h0]; rw[Nat.add_mul]; omega)]
  ·simp[h0]; rw[Nat.add_mul,Nat.add_mul]; omega
section
variable {M : Option (Option Nat)} {P : Program} {ops : Array Oper} {Q : Post} {rest : List Oper} {f : Fr} {w : World} {d : Nat} {ty : TypeId} {pos : String} {af : Array Edge}
theorem run_buildSlice{t e:TypeId}{z:Value}{sz b:Nat}[ht:Und P t (.slice e)][Inf P e z sz b](vs:List Value)(parts:Array (Nat×Value))(hp:parts.toList=(vs.zipIdx 0).map fun p=>(p.2,p.1))(hv : ∀v∈vs,v.cells.size=sz)(hs:vs.length * sz≤16777216):
  (Instr.buildSlice t vs.length parts).run P w = .ok (.slice (some ⟨w.heap.size,0,none⟩) vs.length vs.length) (w.alloc (.cells (catCells vs).toArray e)):=by
 have h1:=run_sizeOf (P:=P) (t:=e) w
 have h2:=run_zeroValue (P:=P) (t:=e) w
 have hf:=fun cells hc=>fill_all sz (fun _=>trivial) vs 0 cells hv hc
 simp only[Nat.zero_mul,List.take_zero,List.nil_append,Nat.zero_add] at hf
 by_cases h0:vs.length * sz=0
 ·simp[Instr.buildSlice,run_underlying ht.out,h1,h0,hp,hf,newRow,newObj,Sem.run]
 ·have hbig : ¬(2:Nat) ^ 24 < vs.length * sz:=by simp only[show(2:Nat)^24=16777216 from rfl]; omega
  simp only[Instr.buildSlice,Sem.run_bind,run_underlying ht.out,h1,Result.andThen_ok,if_neg h0,if_neg (show ¬(vs.length * sz > 2 ^ 24) from hbig),h2,Sem.run_pure,hp]
  rw[hf _ (by simp)]
  simp[newRow,newObj,Sem.run]
theorem RW.build1{t e:TypeId}{z:Value}{sz b:Nat}[ht:Und P t (.slice e)][Inf P e z sz b]{x:Operand}{v:Value}(hx:f.ev x=some v)(hv:v.cells.size=sz)(hs:Nat.ble sz 16777216=true)(hd:Nat.blt d f.n=true)
  (k : ∀w',w'.heap[w.heap.size]?=some (.cells v.cells e (0,0))→K0 w w'→w.heap.size < w'.heap.size→RW M P ops Q rest (f.put d (.slice (some ⟨w.heap.size,0,none⟩) 1 1)) w'):RW M P ops Q (op1 d (.buildSlice t 1 #[(0,x)]) ty pos af::rest) f w:=by
 refine RW.val rfl rfl hd (fun a ha=>?_) (k (w.alloc (.cells v.cells e)) (heap_alloc_new w _) (Kept.alloc w _) (by simp))
 have:=run_buildSlice (P:=P) (w:=w) (t:=t) (z:=z) [v] #[(0,v)] rfl (by simpa using hv) (by simpa using ble_le hs)
 simp only[List.length_singleton,catCells,List.flatMap_cons,List.flatMap_nil,List.append_nil,Array.toArray_toList] at this
 simp[execOp,ha.eval hx,this]
theorem RW.build0{t e:TypeId}{z:Value}{sz b:Nat}[ht:Und P t (.slice e)][Inf P e z sz b](hd:Nat.blt d f.n=true)
  (k : ∀w',w'.heap[w.heap.size]?=some (.cells #[] e (0,0))→K0 w w'→w.heap.size < w'.heap.size→RW M P ops Q rest (f.put d (.slice (some ⟨w.heap.size,0,none⟩) 0 0)) w'):RW M P ops Q (op1 d (.buildSlice t 0 #[]) ty pos af::rest) f w:=by
 refine RW.val rfl rfl hd (fun a ha=>?_) (k (w.alloc (.cells #[] e)) (heap_alloc_new w _) (Kept.alloc w _) (by simp))
 have:=run_buildSlice (P:=P) (w:=w) (t:=t) (z:=z) [] #[] rfl (by simp) (by simp)
 simp only[List.length_nil,catCells,List.flatMap_nil] at this
 simp[execOp,this]
theorem own_new{w:World}{g:Nat}{c:Array Value}{e:TypeId}(h:w.heap[g]?=some (.cells c e (0,0))){n sz base:Nat}(hb:base≤g)(hn:c.size=n * sz)(hm:n≤maxLen):w.ownsRow base e sz (.slice (some ⟨g,0,none⟩) n n) n c.toList:=
 ⟨by simpa using hn,.inr ⟨g,n,c,rfl,hb,h,Nat.le_refl _,hm,hn,List.take_of_length_le (by simp; omega)⟩⟩
theorem own_kept{S:Nat→Prop}{w w':World}{base:Nat}{e:TypeId}{sz:Nat}{v:Value}{n:Nat}{xs:List Value}(h:w.ownsRow base e sz v n xs)(k:Kept S w w')(hn : ∀g,v.ownBlock=some g→¬S g):w'.ownsRow base e sz v n xs:=by
 refine⟨h.1,?_⟩
 rcases h.2 with h|⟨g,cap,cur,rfl,hb,hg,r⟩
 ·exact .inl h
 ·exact .inr ⟨g,cap,cur,rfl,hb,k.at hg (hn g rfl),r⟩
theorem own_kept0{w w':World}{base:Nat}{e:TypeId}{sz:Nat}{v:Value}{n:Nat}{xs:List Value}(h:w.ownsRow base e sz v n xs)(k:K0 w w'):w'.ownsRow base e sz v n xs:=own_kept h k fun _ _ c=>c
theorem own_base{w:World}{base base':Nat}{e:TypeId}{sz:Nat}{v:Value}{n:Nat}{xs:List Value}(h:w.ownsRow base e sz v n xs)(hb : ∀g,v.ownBlock=some g→base'≤g):w.ownsRow base' e sz v n xs:=by
 refine⟨h.1,?_⟩
 rcases h.2 with h|⟨g,cap,cur,rfl,_,r⟩
 ·exact .inl h
 ·exact .inr ⟨g,cap,cur,rfl,hb g rfl,r⟩
def Lies(w:World)(v v':Value):Prop:=∀g,v'.ownBlock=some g→v.ownBlock=some g∨w.heap.size≤g
theorem run_app{t u e:TypeId}{z:Value}{sz b:Nat}[ht:Und P t (.slice e)][hi:Inf P e z sz b](base:Nat)(hz:z.cells.size=sz)(hsz:0 < sz){v:Value}{n:Nat}{xs:List Value}(hown:w.ownsRow base e sz v n xs)
  {vx:Value} {m:Nat} {news:List Value} (hsrc:Sl w sz vx m news) (h1 : ∀u∈news,u.oneCell'=true) (h63:n+m≤maxLen) (hbytes:(n+m) * b≤140737488355328) (hbase:base≤w.heap.size) :
  ∃v' w',(Builtin.append_ #[t,t] u #[v,vx]).run P w = .ok v' w'∧w'.ownsRow base e sz v' (n+m) (xs++news)∧w.grownBy w' v.ownBlock∧Lies w v v':=by
 have hi':=hi.out
 have h63':n+m≤9223372036854775807:=by simpa [maxLen] using h63
 cases hinf:P.info? e with
 | none=>simp[hinf] at hi'
 | some i=>
  simp only[hinf,Option.map_some,Option.some.injEq,Prod.mk.injEq] at hi'
  obtain⟨hz',hs',hb'⟩:=hi'
  have key:(vx = .slice none 0 0∧m=0)∨∃a cap,vx = .slice (some a) m cap∧∀j y,news[j]?=some y→w.cell? (a.add j)=some y:=by
   rcases hsrc.2.2 with ⟨p,rfl,rfl⟩|⟨g,off,cap,cur,e',fz,rfl,hg,hn,hm,ho,htk⟩
   ·have hx:news=[]:=List.eq_nil_of_length_eq_zero (by simpa using hsrc.1)
    subst hx
    cases p with
    | none=>exact .inl ⟨rfl,rfl⟩
    | some a=>exact .inr ⟨a,0,rfl,fun j y hy=>by simp at hy⟩
   ·exact .inr ⟨_,cap,rfl,fun j y hy=>by have:=hsrc.cell hy; simpa [Value.spot] using this⟩
  rcases key with ⟨rfl,rfl⟩|⟨a,cap,rfl,hcells⟩
  ·have hx:news=[]:=List.eq_nil_of_length_eq_zero (by simpa using hsrc.1)
   subst hx
   exact⟨v,w,run_append_owned_none w base t u e i sz ht.out hinf v n xs hown,by simpa using hown,⟨rfl,rfl,rfl,Nat.le_refl _,fun _ _ _=>rfl⟩,fun g h=> .inl h⟩
  ·rcases hown.2 with ⟨rfl,rfl⟩|⟨g0,cap0,cur0,rfl,hb0,hg0,hn0,hm0,hs0,ht0⟩
   ·have hxs:xs=[]:=List.eq_nil_of_length_eq_zero (by simpa using hown.1)
    subst hxs
    obtain⟨v',w',h,h2,h3,_⟩:=run_append_own (P:=P) w w.heap.size t u e i z sz b ht.out hinf hz' hs' hb' hz hsz _ 0 [] (World.ownsRow_nil _ _ _ _) a m cap news hsrc.1 hcells h1 h63 hbytes (Nat.le_refl _)
    exact⟨v',w',h,own_base h2 fun k hk=>Nat.le_trans hbase (h2.lt k hk).1,h3,fun k hk=> .inr (h2.lt k hk).1⟩
   ·by_cases hroom:n+m≤cap0
    ·obtain⟨w',h,h2,h3⟩:=run_append_fits (P:=P) w base t u e i sz ht.out hinf hs' g0 n cap0 xs hown a m cap news hsrc.1 hcells h1 hroom
     exact⟨_,w',h,h2,h3,fun k hk=> .inl hk⟩
    ·obtain⟨v',w',h,h2,h3,_⟩:=run_append_own (P:=P) w base t u e i z sz b ht.out hinf hz' hs' hb' hz hsz _ n xs hown a m cap news hsrc.1 hcells h1 h63 hbytes hbase
     have h4:=run_append_grow (P:=P) w t u e i z ht.out hinf hz' ⟨g0,0,none⟩ n cap0 xs (by rw[hs']; exact hown.1) (hown.cells (g:=g0) rfl) a m cap news (by rw[hs']; exact hsrc.1) hcells (by omega) (by omega) (growslice_fits (by omega) (by rw[hb']; exact hbytes))
     have h5:=h.symm.trans h4
     simp only[Result.ok.injEq] at h5
     refine⟨v',w',h,h2,h3,fun k hk=> .inr ?_⟩
     rw[h5.1] at hk
     simp only[Value.ownBlock,Option.some.injEq] at hk
     omega
theorem RW.app{t e:TypeId}{z:Value}{sz b:Nat}[ht:Und P t (.slice e)][hi:Inf P e z sz b]{s x:Operand}{v vx:Value}(hs:f.ev s=some v)(hx:f.ev x=some vx)(hd:Nat.blt d f.n=true){base:Nat}(hz:z.cells.size=sz)(hsz:Nat.blt 0 sz=true){n:Nat}{xs:List Value}
  (hown:w.ownsRow base e sz v n xs) {m:Nat} {news:List Value} (hsrc:Sl w sz vx m news) (h1 : ∀u∈news,u.oneCell'=true) (h63:n+m≤9223372036854775807) (hbytes:(n+m) * b≤140737488355328) (hbase:base≤w.heap.size)
  (k : ∀v' w',w'.ownsRow base e sz v' (n+m) (xs++news)→Kept (fun k=>v.ownBlock=some k) w w'→Lies w v v'→RW M P ops Q rest (f.put d v') w') :
  RW M P ops Q (op1 d (.call {callee:= .builtin .append,args:=#[s,x],argTypes:=#[t,t]}) ty pos af::rest) f w:=by
 obtain⟨v',w',h,h2,h3,h4⟩:=run_app (P:=P) (t:=t) (u:=ty) base hz (blt_lt hsz) hown hsrc h1 (by simpa [maxLen] using h63) hbytes hbase
 refine RW.val rfl rfl hd (fun a ha=>?_) (k v' w' h2 (Kept.of_grown h3) h4)
 simp[execOp,resolve,invoke,builtin,ha.eval hs,ha.eval hx,h]
theorem RW.app1{t e ty1:TypeId}{d1:Nat}{pos1:String}{af1:Array Edge}{z:Value}{sz b:Nat}[ht:Und P t (.slice e)][hi:Inf P e z sz b]{s x:Operand}{v u:Value}(hx:f.ev x=some u)(hs:(f.put d1 (.slice (some ⟨w.heap.size,0,none⟩) 1 1)).ev s=some v)(hd1:Nat.blt d1 f.n=true)(hd:Nat.blt d f.n=true)
  {base:Nat} {n:Nat} {xs:List Value} (hown:w.ownsRow base e sz v n xs) (hz:z.cells.size=sz) (hu:u.cells.size=sz) (hsz:Nat.blt 0 sz=true) (hsz2:Nat.ble sz 65536=true) (h1 : ∀y∈u.cells.toList,y.oneCell'=true) (hbase:base≤w.heap.size) (hbytes:(n+1) * b≤140737488355328) (h63:n+1≤9223372036854775807)
  (k : ∀v' w',w'.ownsRow base e sz v' (n+1) (xs++u.cells.toList)→Kept (fun k=>v.ownBlock=some k) w w'→Lies w v v'→RW M P ops Q rest ((f.put d1 (.slice (some ⟨w.heap.size,0,none⟩) 1 1)).put d v') w') :
  RW M P ops Q (op1 d1 (.buildSlice t 1 #[(0,x)]) ty1 pos1 af1::op1 d (.call {callee:= .builtin .append,args:=#[s,.tmp d1],argTypes:=#[t,t]}) ty pos af::rest) f w:=by
 refine RW.build1 hx hu (by have:=ble_le hsz2; simp[Nat.ble_eq]; omega) hd1 fun w1 hb hk hlt=>?_
 have hsl:=Sl.of_own (own_new (sz:=sz) (base:=0) hb (Nat.zero_le _) (n:=1) (by simpa using hu) (by simp[maxLen]))
 have hevx:(f.put d1 (.slice (some ⟨w.heap.size,0,none⟩) 1 1)).ev (.tmp d1)=some (.slice (some ⟨w.heap.size,0,none⟩) 1 1):=by simp[Fr.ev,Fr.put,look]
 refine RW.app hs hevx hd hz hsz (own_kept0 hown hk) hsl h1 h63 hbytes (by omega) fun v' w' ho hk' hl=>?_
 have hk2:Kept (fun k=>v.ownBlock=some k) w w':=(Kept.of0 hk).trans hk' fun _ c=> .inl c
 exact k v' w' ho hk2 fun g hg=>(hl g hg).imp id fun h=>by have:=hk.size; omega
end
end Go.Proofs.YtbhbdeelpopgoaaGreatDoor.H

namespace Go.Proofs.YtbhbdeelpopgoaaGreatDoor.H
open Go.RowKit
abbrev vb(c:UInt8):Value:= .int .u8 (c.toNat:Int)
abbrev vs(l:List UInt8):Value:= .string (B l)
abbrev bv(l:List UInt8):List Value:=l.map vb
abbrev sv(l:List (List UInt8)):List Value:=l.map vs
theorem bv_one(l:List UInt8): ∀u∈bv l,u.oneCell'=true:=by intro u hu; obtain⟨c,_,rfl⟩:=List.mem_map.1 hu; rfl
theorem B_extract(l:List UInt8)(a b:Nat):(B l).extract a b=B ((l.drop a).take (b - a)):=by
 have:=Go.Lib.extract_eq (B l) a b
 simpa using this
theorem B_extract'(l:List UInt8)(a b:Nat):(B l).extract a b=B ((l.take b).drop a):=by
 rw[B_extract,List.drop_take]
section
variable {M : Option (Option Nat)} {P : Program} {ops : Array Oper} {Q : Post} {rest : List Oper} {f : Fr} {w : World} {d : Nat} {ty : TypeId} {pos : String} {af : Array Edge}
theorem Y.cuth{t:TypeId}[ht:Und P t .string]{x y:Operand}{k:IntKind}{l:List UInt8}{b:Int}(hx:f.ev x=some (.string (B l)))(hy:f.ev y=some (.int k b))(h0:0≤b)(h1:b≤l.length):Yd P f (op1 d (.slice t x none (some y) none) ty pos af) (.string (B (l.take b.toNat))) w:=by
 intro a ha
 have h:=run_slice_string_h (P:=P) w t (B l) ht.out k b h0 (by rw[B_size]; omega)
 rw[B_extract' l 0] at h
 simp[execOp,ha.eval hx,ha.eval hy,Instr.sliceAt,run_underlying ht.out,h]
theorem Y.cutl{t:TypeId}[ht:Und P t .string]{x y:Operand}{k:IntKind}{l:List UInt8}{a:Int}(hx:f.ev x=some (.string (B l)))(hy:f.ev y=some (.int k a))(h0:0≤a)(h1:a≤l.length):Yd P f (op1 d (.slice t x (some y) none none) ty pos af) (.string (B (l.drop a.toNat))) w:=by
 intro a' ha
 have h:=run_slice_string_l (P:=P) w t (B l) ht.out k a h0 (by rw[B_size]; omega)
 rw[B_extract' l,B_size,List.take_length] at h
 simp[execOp,ha.eval hx,ha.eval hy,Instr.sliceAt,run_underlying ht.out,h]
theorem Sl.shape{w:World}{sz:Nat}{v:Value}{n:Nat}{xs:List Value}(h:Sl w sz v n xs): ∃p cap,v = .slice p n cap∧n≤cap:=by
 rcases h.2.2 with ⟨_,rfl,rfl⟩|⟨g,off,cp,cur,e,fz,rfl,_,hn,_⟩
 ·exact⟨_,_,rfl,by omega⟩
 ·exact⟨_,_,rfl,hn⟩
theorem run_sub{t e:TypeId}{z:Value}{sz b:Nat}[ht:Und P t (.slice e)][Inf P e z sz b](p:Option Addr)(len cap:Nat)(lo hi:Option Value)(l h:Nat)(hlo:lo=none∧l=0∨∃k,lo=some (.int k (l:Int)))(hhi:hi=none∧h=len∨∃k,hi=some (.int k (h:Int)))(h1:l≤h)(h2:h≤cap):
  (Instr.sliceAt t (.slice p len cap) lo hi none).run P w = .ok (.slice (if cap=l then p else p.map (·.add (l * sz))) (h - l) (cap - l)) w:=by
 have hsz:=run_sizeOf (P:=P) (t:=e) w
 have e1 : ∀k,(Instr.sliceBound (.int k (h:Int)) cap .sliceAcap).run P w = .ok h w:=fun k=>by have:=run_sliceBound (P:=P) (w:=w) k h cap .sliceAcap (by omega) (by omega); simpa using this
 have e2 : ∀k,(Instr.sliceBound (.int k (l:Int)) h .sliceB).run P w = .ok l w:=fun k=>by have:=run_sliceBound (P:=P) (w:=w) k l h .sliceB (by omega) (by omega); simpa using this
 rcases hlo with ⟨rfl,rfl⟩|⟨kl,rfl⟩ <;> rcases hhi with ⟨rfl,rfl⟩|⟨kh,rfl⟩ <;> simp[Instr.sliceAt,Instr.slice,run_underlying ht.out,Instr.sliceBounds,hsz,e1,e2]
theorem RW.ownh{t e:TypeId}{z:Value}{sz b:Nat}[ht:Und P t (.slice e)][Inf P e z sz b]{x y:Operand}{k:IntKind}{v:Value}{i:Int}{base n:Nat}{xs:List Value}(hx:f.ev x=some v)(hy:f.ev y=some (.int k i))(hd:Nat.blt d f.n=true)(hs:w.ownsRow base e sz v n xs)(h0:0≤i)(h1:i≤n)
  (kk : ∀v',w.ownsRow base e sz v' i.toNat (xs.take (i.toNat * sz))→v'.ownBlock=v.ownBlock→RW M P ops Q rest (f.put d v') w):RW M P ops Q (op1 d (.slice t x none (some y) none) ty pos af::rest) f w:=by
 have hi:i=(i.toNat:Int):=by omega
 have key : ∃p cap,v = .slice p n cap∧n≤cap∧w.ownsRow base e sz (.slice p i.toNat cap) i.toNat (xs.take (i.toNat * sz)):=by
  have hle:i.toNat * sz≤n * sz:=Nat.mul_le_mul_right _ (by omega)
  rcases hs.2 with ⟨rfl,rfl⟩|⟨g,cap,cur,rfl,hb,hg,hn,hm,hc,ht⟩
  ·have:i.toNat=0:=by omega
   rw[this]
   exact⟨none,0,rfl,Nat.le_refl _,by simp,.inl ⟨rfl,rfl⟩⟩
  ·refine⟨_,cap,rfl,hn,by rw[List.length_take,hs.1,Nat.min_eq_left hle],.inr ⟨g,cap,cur,rfl,hb,hg,by omega,hm,hc,?_⟩⟩
   rw[←ht,List.take_take,Nat.min_eq_left hle]
 obtain⟨p,cap,rfl,hcap,ho⟩:=key
 have hr:=run_sub (P:=P) (w:=w) (t:=t) (sz:=sz) p n cap none (some (.int k i)) 0 i.toNat (.inl ⟨rfl,rfl⟩) (.inr ⟨k,by rw[←hi]⟩) (by omega) (by omega)
 have hp:(if cap=0 then p else p.map (·.add (0 * sz)))=p:=by
  cases p <;> simp[Addr.add]
 rw[hp] at hr
 refine RW.val rfl rfl hd (fun a ha=>?_) (kk _ ho (by cases p <;> rfl))
 simp only[execOp,ha.eval hx,Option.map_some,Option.map_none,ha.eval hy,Sem.run_bind,hr]; rfl
class Ent (P:Program) (k:FuncId):Prop where out : ∀args w,(callFunc k args).run P w = .ok (.enter k args) w
theorem Ent.of{k:FuncId}{fn:Func}(hf:P.funcs[k]?=some fn)(hname:(fn.name == "runtime.NumGoroutine")=false)(hb:fn.body.isSome=true):Ent P k:=
 ⟨fun args w=>by
  have hn:fn.body.isNone=false:=by cases h:fn.body <;> simp_all
  simp only[callFunc,Sem.run_bind,run_program,Result.andThen_ok,hf,hname,hn,Bool.false_eq_true,if_false,Sem.run_pure]⟩
def Fr.evs(f:Fr):List Operand→Option (List Value)
 | []=>some []
 | x::r=>match f.ev x with
  | some v=>match f.evs r with
   | some l=>some (v::l)
   | none=>none
  | none=>none
theorem Ag.evs{a:Act}(ha:Ag f a): ∀(xs:List Operand) (l:List Value),f.evs xs=some l→xs.map a.eval=l:=by
 intro xs
 induction xs with
 | nil=>intro l h; cases h; rfl
 | cons x r ih=>
  intro l h
  simp only[Fr.evs] at h
  cases hx:f.ev x with
  | none=>simp[hx] at h
  | some v=>
   cases hr:f.evs r with
   | none=>simp[hx,hr] at h
   | some l'=>
    simp only[hx,hr,Option.some.injEq] at h
    rw[←h,List.map_cons,ha.eval hx,ih l' hr]
def TypeDesc.isOne:TypeDesc→Bool
 | .struct _=>false
 | .array _ _=>false
 | _=>true
def TypeDesc.isMany:TypeDesc→Bool
 | .struct _=>true
 | .array _ _=>true
 | _=>false
theorem One.of{t:TypeId}{desc:TypeDesc}(h:P.underlying t=some desc)(hd:TypeDesc.isOne desc=true){z:Value}{b:Nat}[Inf P t z 1 b]:One P t:=
 ⟨fun w=>by cases desc <;> first|(simp[isAgg,run_underlying h]; done)|(simp[TypeDesc.isOne] at hd),fun w=>run_sizeOf (P:=P) (t:=t) w⟩
theorem Many.of{t:TypeId}{desc:TypeDesc}(h:P.underlying t=some desc)(hd:TypeDesc.isMany desc=true){z:Value}{n b:Nat}[Inf P t z n b]:Many P t n:=
 ⟨fun w=>by cases desc <;> first|(simp[isAgg,run_underlying h]; done)|(simp[TypeDesc.isMany] at hd),fun w=>run_sizeOf (P:=P) (t:=t) w⟩
def After(M:Option (Option Nat))(P:Program)(ops:Array Oper)(Q:Post)(rest:List Oper)(f:Fr)(d:Nat):Ending→World→Prop
 | .returned v,w=>RW M P ops Q rest (f.put d v) w
 | .panicked chain,w=>Q (.panic chain) f w
 | .outgrown,_=>False
theorem RW.fn{k:FuncId}[he:Ent P k]{xs:List Operand}{l:List Value}{at':Array TypeId}(hv:f.evs xs=some l)(hd:Nat.blt d f.n=true)(h:Calls P k l.toArray w (After M P ops Q rest f d)):
  RW M P ops Q (op1 d (.call {callee:= .value (.func k),args:=xs.toArray,argTypes:=at'}) ty pos af::rest) f w:=by
 refine RW.call (args:=l.toArray) rfl hd (fun a ha=>?_) h fun e w' hR=>by cases e <;> exact hR
 simp[execOp,resolve,Act.eval,Deferred.ofValue,invoke,he.out,ha.evs xs l hv]
theorem FQ.none{fn:Func}{R:Ending→World→Prop}(hr:fn.results=#[])(hd:f.ds=[])(h:R (.returned (.tuple #[])) w):FQ P fn R .ret f w:=
 ⟨hd,_,fun a _=>results_none hr a.tmps P w,h⟩
theorem FQ.one{fn:Func}{R:Ending→World→Prop}{t:Nat}{v:Value}(hr:fn.results=#[.tmp t])(hd:f.ds=[])(hv:look f.e t=some v)(h:R (.returned v) w):FQ P fn R .ret f w:=
 ⟨hd,_,fun a ha=>by rw[results_tmp hr,ha.slot t v hv],h⟩
theorem FQ.two{fn:Func}{R:Ending→World→Prop}{t u:Nat}{v v2:Value}(hr:fn.results=#[.tmp t,.tmp u])(hd:f.ds=[])(hv:look f.e t=some v)(hv2:look f.e u=some v2)(h:R (.returned (.tuple #[v,v2])) w):FQ P fn R .ret f w:=
 ⟨hd,_,fun a ha=>by rw[results_tmp2 hr,ha.slot t v hv,ha.slot u v2 hv2],h⟩
theorem FQ.norm{fn:Func}{R:Ending→World→Prop}(h:FQ P fn R .ret f w):FQ P fn R .normal f w:=h
end
end Go.Proofs.YtbhbdeelpopgoaaGreatDoor.H

namespace Go.Proofs.YtbhbdeelpopgoaaGreatDoor.E
open Go Go.RowKit H
def textOf(s:List Nat):List UInt8:=s.map UInt8.ofNat
def ints(l:List Nat):List AV:=l.map fun b=> .int .u8 (.ofNat b)
def vN:Nat→Nat×Nat×Nat
 | 0=>(1,0,0)|1=>(1,1,0)|2=>(2,0,0)|3=>(0,3,0)|4=>(1,0,0)|_=>(1,2,3)
def vC(q:Value)(s:Nat):List Value:=[.int .i64 (Int.ofNat (vN s).1),.int .i64 (Int.ofNat (vN s).2.1),.int .i64 (Int.ofNat (vN s).2.2),if s=4 then q else .slice none 0 0]
def sumOf:Nat→List Nat
 | 0=>[45,69,195,32,250,202,190,113,182,45,253,134,227,194,138,223,105,108,11,193,138,36,111,167,49,211,170,40,124,185,48,232]
 | 1=>[74,69,3,193,150,245,131,75,223,18,51,74,73,12,51,250,188,100,116,199,219,79,101,254,61,212,73,239,230,166,64,154]
 | 2=>[23,39,135,40,177,64,201,179,105,145,163,46,18,207,249,213,65,234,164,105,6,212,163,23,116,242,141,231,169,99,80,188]
 | 3=>[107,122,186,212,57,128,75,252,186,183,196,167,218,239,198,223,46,160,96,155,73,167,166,227,181,17,20,99,249,189,21,125]
 | 4=>[49,66,169,81,84,230,184,11,73,142,240,4,159,195,104,254,154,58,113,246,41,15,206,54,255,179,118,89,140,77,61,99]
 | _=>[150,119,148,109,10,244,108,92,125,6,47,123,203,97,204,183,21,123,194,123,252,49,219,251,11,143,183,246,33,242,88,55]
def sizeOf'(s:Nat):Nat:=if s=4 then 38 else 34
def arcB:Nat→List Nat
 | 0=>[80,65,75,49,1,0,3,108,105,98,0,0,5,108,105,98,47,98,0,0,0,0,0,0,0,7,98,32,49,46,48,46,48,255]
 | 1=>[80,65,75,49,1,0,3,108,105,98,0,0,5,108,105,98,47,98,0,0,0,0,0,0,0,7,98,32,49,46,49,46,48,255]
 | 2=>[80,65,75,49,1,0,3,108,105,98,0,0,5,108,105,98,47,98,0,0,0,0,0,0,0,7,98,32,50,46,48,46,48,255]
 | 3=>[80,65,75,49,1,0,3,108,105,98,0,0,5,108,105,98,47,98,0,0,0,0,0,0,0,7,98,32,48,46,51,46,48,255]
 | 4=>[80,65,75,49,1,0,3,108,105,98,0,0,5,108,105,98,47,98,0,0,0,0,0,0,0,11,98,32,49,46,48,46,48,45,120,46,49,255]
 | _=>[80,65,75,49,1,0,3,108,105,98,0,0,5,108,105,98,47,98,0,0,0,0,0,0,0,7,98,32,49,46,50,46,51,255]
theorem sumOf_len(s:Nat):(sumOf s).length=32:=by
 unfold sumOf
 split <;> rfl
def rowC(q:Value)(s:Nat):List Value:= .string (B (textOf [98]))::(vC q s++(bv (textOf (sumOf s))++[.int .i64 (Int.ofNat (sizeOf' s)),.slice none 0 0]))
theorem rowC_len(q:Value)(s:Nat):(rowC q s).length=39:=by
 simp[rowC,vC,textOf,sumOf_len]
theorem rowC_cell(q:Value)(hq:q.cells=#[q]∧q.oneCell'=true)(s:Nat): ∀u∈rowC q s,u.cells=#[u]∧u.oneCell'=true:=by
 intro u hu
 simp only[rowC,vC,List.cons_append,List.nil_append,List.mem_cons,List.mem_append,List.not_mem_nil,or_false] at hu
 rcases hu with rfl|rfl|rfl|rfl|rfl|hu|rfl|rfl
 ·exact⟨rfl,rfl⟩
 ·exact⟨rfl,rfl⟩
 ·exact⟨rfl,rfl⟩
 ·exact⟨rfl,rfl⟩
 ·split
  ·exact hq
  ·exact⟨rfl,rfl⟩
 ·simp only[bv,List.mem_map] at hu
  obtain⟨b,_,rfl⟩:=hu
  exact⟨rfl,rfl⟩
 ·exact⟨rfl,rfl⟩
 ·exact⟨rfl,rfl⟩
noncomputable def pickA(b:Bool)(t f:AV):AV:=Bool.rec (motive:=fun _=>AV) f t b
noncomputable def vL(pre:AV)(s:Nat):List AV:=[.int .i64 (.ofNat (vN s).1),.int .i64 (.ofNat (vN s).2.1),.int .i64 (.ofNat (vN s).2.2),pickA (Nat.beq s 4) pre .nils]
noncomputable def rowL(pre:AV)(s:Nat):List AV:= .str [98]::(vL pre s++(ints (sumOf s)++[.int .i64 (.ofNat (sizeOf' s)),.nils]))
noncomputable def tabA(pre:AV):List (Nat×List AV):=[(0,rowL .nils 0),(1,rowL .nils 1),(2,rowL .nils 2),(3,rowL .nils 3),(4,rowL pre 4),(5,rowL .nils 5)]
noncomputable def preOf(tab:List (Nat×List AV)):AV:=List.rec (motive:=fun _=>AV) .und (fun x _ _=>List.rec (motive:=fun _=>AV) .und (fun p _ _=>p) x.2) tab
noncomputable def tabX(z:Nat)(tab:List (Nat×List AV)):List (Nat×List AV):=Bool.rec (motive:=fun _=>List (Nat×List AV)) tab (tabA (preOf tab)) (Nat.beq z 39)
structure Sgs where
 n:Nat→Nat
 vs:List Nat
def sg0:Sgs:=⟨fun _=>0,[]⟩
def ddAcc(acc:List Nat):List Nat→List Nat
 | []=>acc
 | v::l=>if v % 6∈acc then ddAcc acc l else ddAcc (acc++[v % 6]) l
abbrev Sgs.dd(g:Sgs):List Nat:=ddAcc [] g.vs
def lineOf:Nat→List Nat
 | 0=>[112,97,99,107,32,98,32,49,46,48,46,48,32,50,100,52,53,99,51,50,48,102,97,99,97,98,101,55,49,98,54,50,100,102,100,56,54,101,51,99,50,56,97,100,102,54,57,54,99,48,98,99,49,56,97,50,52,54,102,97,55,51,49,100,51,97,97,50,56,55,99,98,57,51,48,101,56,32,51,52,10]
 | 1=>[112,97,99,107,32,98,32,49,46,49,46,48,32,52,97,52,53,48,51,99,49,57,54,102,53,56,51,52,98,100,102,49,50,51,51,52,97,52,57,48,99,51,51,102,97,98,99,54,52,55,52,99,55,100,98,52,102,54,53,102,101,51,100,100,52,52,57,101,102,101,54,97,54,52,48,57,97,32,51,52,10]
 | 2=>[112,97,99,107,32,98,32,50,46,48,46,48,32,49,55,50,55,56,55,50,56,98,49,52,48,99,57,98,51,54,57,57,49,97,51,50,101,49,50,99,102,102,57,100,53,52,49,101,97,97,52,54,57,48,54,100,52,97,51,49,55,55,52,102,50,56,100,101,55,97,57,54,51,53,48,98,99,32,51,52,10]
 | 3=>[112,97,99,107,32,98,32,48,46,51,46,48,32,54,98,55,97,98,97,100,52,51,57,56,48,52,98,102,99,98,97,98,55,99,52,97,55,100,97,101,102,99,54,100,102,50,101,97,48,54,48,57,98,52,57,97,55,97,54,101,51,98,53,49,49,49,52,54,51,102,57,98,100,49,53,55,100,32,51,52,10]
 | 4=>[112,97,99,107,32,98,32,49,46,48,46,48,45,120,46,49,32,51,49,52,50,97,57,53,49,53,52,101,54,98,56,48,98,52,57,56,101,102,48,48,52,57,102,99,51,54,56,102,101,57,97,51,97,55,49,102,54,50,57,48,102,99,101,51,54,102,102,98,51,55,54,53,57,56,99,52,100,51,100,54,51,32,51,56,10]
 | _=>[112,97,99,107,32,98,32,49,46,50,46,51,32,57,54,55,55,57,52,54,100,48,97,102,52,54,99,53,99,55,100,48,54,50,102,55,98,99,98,54,49,99,99,98,55,49,53,55,98,99,50,55,98,102,99,51,49,100,98,102,98,48,98,56,102,98,55,102,54,50,49,102,50,53,56,51,55,32,51,52,10]
abbrev Sgs.tx(g:Sgs):List Nat:=(g.dd.map lineOf).flatten
abbrev Sgs.ln(g:Sgs):Nat:=g.vs.length
abbrev Sgs.cd(g:Sgs)(c:Nat):Prop:=g.dd≠[]∧∀s,s < 6→(c.testBit s=true→s∈g.dd)∧(c.testBit (6+s)=true→s∉g.dd)
def Sgs.on(g:Sgs)(k:Nat):Prop:=(k=1→4∈g.dd)∧∀s,s < 6→k=10+s→s∈g.dd
def fixQ(k:Nat)(ty:TypeId)(c:Array Value):Prop:=(k=1→ty=9∧2≤c.size∧c.size≤maxLen∧c.toList.take 2=[.string (B (textOf [120])),.string (B (textOf [49]))])∧∀s,s < 6→k=10+s→ty=5∧sizeOf' s≤c.size∧c.size≤maxLen∧c.toList.take (sizeOf' s)=bv (textOf (arcB s))
structure Ren where
 f:Nat→Option (Nat×Nat)
 hole:Nat→Prop
 sg:Sgs
instance:CoeFun Ren fun _=>Nat→Option (Nat×Nat):=⟨Ren.f⟩
structure Vx (r r':Ren):Prop where
 f : ∀i p,r i=some p→r' i=some p
 s:r'.sg=r.sg
instance {r r':Ren}:CoeFun (Vx r r') fun _=>∀i p,r i=some p→r' i=some p:=⟨Vx.f⟩
structure Ext (r r':Ren):Prop where
 v:Vx r r'
 h : ∀i,r.hole i→r'.hole i
theorem Ext.refl(r:Ren):Ext r r:=⟨⟨fun _ _ h=>h,rfl⟩,fun _ h=>h⟩
theorem Ext.trans{a b c:Ren}(h:Ext a b)(k:Ext b c):Ext a c:=⟨⟨fun i p x=>k.v i p (h.v i p x),k.v.s.trans h.v.s⟩,fun i x=>k.h i (h.h i x)⟩
def standsAt:List Nat→Nat→Option Nat
 | [],_=>none
 | x::l,s=>if x=s then some 0 else (standsAt l s).map (· + 1)
theorem standsAt_at: ∀{l:List Nat} {s m:Nat},standsAt l s=some m→l[m]?=some s
 | [],_,_,h=>by cases h
 | x::l,s,m,h=>by
  rw[standsAt] at h
  split at h
  ·rename_i e; cases h; simp[e]
  ·obtain⟨j,hj,rfl⟩:=Option.map_eq_some_iff.1 h
   simpa using standsAt_at hj
theorem standsAt_pos: ∀{L:List Nat} {s m:Nat},standsAt L s=some m→∀j,j < m→L[j]?≠some s
 | [],_,_,h=>by cases h
 | x::L,s,m,h=>by
  rw[standsAt] at h
  split at h
  ·cases h; intro j hj; omega
  ·rename_i hx
   obtain⟨n,hn,rfl⟩:=Option.map_eq_some_iff.1 h
   intro j hj
   cases j with
   | zero=>intro e; simp only[List.getElem?_cons_zero,Option.some.injEq] at e; exact hx e
   | succ j=>rw[List.getElem?_cons_succ]; exact standsAt_pos hn j (by omega)
theorem standsAt_none: ∀{L:List Nat} {s:Nat},standsAt L s=none↔s∉L
 | [],s=>by simp[standsAt]
 | x::L,s=>by
  rw[standsAt]
  by_cases e:x=s
  ·simp[e]
  ·rw[if_neg e,Option.map_eq_none_iff,standsAt_none]
   simp[Ne.symm e]
theorem standsAt_eq{L:List Nat}{s m:Nat}(h:L[m]?=some s)(h2 : ∀j,j < m→L[j]?≠some s):standsAt L s=some m:=by
 cases e:standsAt L s with
 | none=>exact absurd (List.mem_of_getElem? h) (standsAt_none.1 e)
 | some n=>
  have a:=standsAt_at e
  have b:=standsAt_pos e
  rcases Nat.lt_trichotomy m n with c|c|c
  ·exact absurd h (b m c)
  ·rw[c]
  ·exact absurd a (h2 n c)
theorem ddAcc_lt: ∀{l acc:List Nat},(∀s∈acc,s < 6)→∀s∈ddAcc acc l,s < 6
 | [],_,h=>h
 | v::l,acc,h=>by
  rw[ddAcc]
  split
  ·exact ddAcc_lt h
  ·refine ddAcc_lt fun s hs=>?_
   rcases List.mem_append.1 hs with hs|hs
   ·exact h s hs
   ·rw[List.mem_singleton.1 hs]; omega
theorem ddAcc_nodup: ∀{l acc:List Nat},acc.Nodup→(ddAcc acc l).Nodup
 | [],_,h=>h
 | v::l,acc,h=>by
  rw[ddAcc]
  split
  ·exact ddAcc_nodup h
  ·rename_i hn
   refine ddAcc_nodup ?_
   rw[List.nodup_append]
   exact⟨h,by simp,fun a ha b hb c=>hn (by rw[List.mem_singleton.1 hb] at c; exact c▸ha)⟩
theorem few_of: ∀{n:Nat} {l:List Nat},l.Nodup→(∀s∈l,s < n)→l.length≤n
 | 0,[],_,_=>Nat.le_refl _
 | 0,x::l,_,h=>absurd (h x List.mem_cons_self) (by omega)
 | n+1,l,hn,h=>by
  have h1:=few_of (n:=n) (hn.erase n) fun s hs=>by
   obtain⟨a,b⟩:=(hn.mem_erase_iff).1 hs
   have:=h s b
   omega
  rw[List.length_erase] at h1
  split at h1 <;> omega
theorem dd_lt(g:Sgs): ∀s∈g.dd,s < 6:=ddAcc_lt fun s hs=>by cases hs
theorem dd_nodup(g:Sgs):g.dd.Nodup:=ddAcc_nodup (by simp)
theorem dd_few(g:Sgs):g.dd.length≤6:=few_of (dd_nodup g) (dd_lt g)
theorem standsAt_self{L:List Nat}(h:L.Nodup){m s:Nat}(hm:L[m]?=some s):standsAt L s=some m:=standsAt_eq hm fun j hj e=>by
 have:=(List.getElem?_inj (List.getElem?_eq_some_iff.1 e).1 h).1 (e.trans hm.symm)
 omega
noncomputable def xorB(a b:Bool):Bool:=Bool.rec (motive:=fun _=>Bool) b (not b) a
noncomputable def andB(a b:Bool):Bool:=Bool.rec (motive:=fun _=>Bool) false b a
noncomputable def fullB(c:Nat):Bool:=andB (xorB (Nat.testBit c 0) (Nat.testBit c 6)) (andB (xorB (Nat.testBit c 1) (Nat.testBit c 7)) (andB (xorB (Nat.testBit c 2) (Nat.testBit c 8)) (andB (xorB (Nat.testBit c 3) (Nat.testBit c 9)) (andB (xorB (Nat.testBit c 4) (Nat.testBit c 10)) (xorB (Nat.testBit c 5) (Nat.testBit c 11))))))
noncomputable def bitC(b:Bool)(n:Nat):Nat:=Bool.rec (motive:=fun _=>Nat) n (Nat.succ n) b
noncomputable def cntB(c:Nat):Nat:=bitC (Nat.testBit c 0) (bitC (Nat.testBit c 1) (bitC (Nat.testBit c 2) (bitC (Nat.testBit c 3) (bitC (Nat.testBit c 4) (bitC (Nat.testBit c 5) 0)))))
def setL(c:Nat):List Nat:=[0,1,2,3,4,5].filter fun s=>Nat.testBit c s
theorem xorB_ok{a b:Bool}(h:xorB a b=true):a = !b:=by cases a <;> cases b <;> first|rfl|cases h
theorem andB_ok{a b:Bool}(h:andB a b=true):a=true∧b=true:=by cases a <;> cases b <;> first|exact⟨rfl,rfl⟩|cases h
theorem full_bit{c:Nat}(h:fullB c=true): ∀s,s < 6→Nat.testBit c s = !(Nat.testBit c (6+s)):=by
 obtain⟨h0,h⟩:=andB_ok h
 obtain⟨h1,h⟩:=andB_ok h
 obtain⟨h2,h⟩:=andB_ok h
 obtain⟨h3,h⟩:=andB_ok h
 obtain⟨h4,h5⟩:=andB_ok h
 intro s hs
 match s,hs with
 | 0,_=>exact xorB_ok h0
 | 1,_=>exact xorB_ok h1
 | 2,_=>exact xorB_ok h2
 | 3,_=>exact xorB_ok h3
 | 4,_=>exact xorB_ok h4
 | 5,_=>exact xorB_ok h5
 | s+6,hs=>omega
theorem cnt_set(c:Nat):cntB c=(setL c).length:=by
 unfold cntB setL
 simp only[List.filter_cons,List.filter_nil]
 generalize Nat.testBit c 0=b0
 generalize Nat.testBit c 1=b1
 generalize Nat.testBit c 2=b2
 generalize Nat.testBit c 3=b3
 generalize Nat.testBit c 4=b4
 generalize Nat.testBit c 5=b5
 cases b0 <;> cases b1 <;> cases b2 <;> cases b3 <;> cases b4 <;> cases b5 <;> rfl
theorem set_mem{c s:Nat}:s∈setL c↔s < 6∧Nat.testBit c s=true:=by
 unfold setL
 rw[List.mem_filter]
 constructor
 ·rintro⟨h,k⟩; exact⟨by simp at h; omega,k⟩
 ·rintro⟨h,k⟩; exact⟨by simp; omega,k⟩
theorem set_nodup(c:Nat):(setL c).Nodup:=List.Pairwise.filter _ (show[0,1,2,3,4,5].Nodup by decide)
theorem len_sub: ∀{l m:List Nat},l.Nodup→(∀x∈l,x∈m)→l.length≤m.length
 | [],_,_,_=>Nat.zero_le _
 | x::l,m,hn,h=>by
  obtain⟨h1,h2⟩:=List.nodup_cons.1 hn
  have h3:=len_sub (m:=m.erase x) h2 fun y hy=>(List.mem_erase_of_ne fun e=>h1 (by rw[←e]; exact hy)).2 (h y (List.mem_cons_of_mem _ hy))
  have hx:=h x List.mem_cons_self
  rw[List.length_erase_of_mem hx] at h3
  have:=List.length_pos_of_mem hx
  rw[List.length_cons]; omega
theorem full_len{g:Sgs}{c:Nat}(h:fullB c=true)(hc:g.cd c):g.dd.length=cntB c:=by
 have hb:=full_bit h
 rw[cnt_set]
 refine Nat.le_antisymm (len_sub (dd_nodup g) fun s hs=>?_) (len_sub (set_nodup c) fun s hs=>?_)
 ·have h6:=dd_lt g s hs
  refine set_mem.2 ⟨h6,?_⟩
  cases e:Nat.testBit c (6+s) with
  | false=>rw[hb s h6,e]; rfl
  | true=>exact absurd hs ((hc.2 s h6).2 e)
 ·obtain⟨h6,e⟩:=set_mem.1 hs
  exact(hc.2 s h6).1 e
open Classical in
noncomputable def opqR(r:Ren)(t i s o z:Nat):Option Value:=match t with
 | 0=>(standsAt r.sg.dd s).map fun m=> .int .i64 (Int.ofNat m)
 | 1=>(r i).bind fun p=>if 0 < z∧r.sg.dd.length * z≤p.2∧p.2 / z≤maxLen∧r.sg.cd s then some (.slice (some ⟨p.1,0,none⟩) r.sg.dd.length (p.2 / z)) else none
 | 2=>(r i).bind fun p=>(standsAt r.sg.dd s).map fun m=> .pointer (some ⟨p.1,m * z+o,none⟩)
 | 3=>if r.sg.tx.all (fun b=>Nat.blt b 256)∧r.sg.cd s then some (.string (B (textOf r.sg.tx))) else none
 | 4=>(r i).bind fun p=>if 0 < z∧r.sg.ln * z≤p.2∧p.2 / z≤maxLen∧r.sg.cd s then some (.slice (some ⟨p.1,0,none⟩) r.sg.ln (p.2 / z)) else none
 | 6=>(r.sg.dd[s]?).bind fun v=>(if v=4 then (r i).map fun p=>Value.slice (some ⟨p.1,0,none⟩) 2 p.2 else some (.bool true)).bind fun q=>(rowC q v)[o]?
 | 7=>(r i).bind fun p=>if s < r.sg.dd.length then some (.pointer (some ⟨p.1,s * z+o,none⟩)) else none
 | _=>some (.int .i64 (Int.ofNat r.sg.dd.length))
theorem opqR_vx{r r':Ren}(h:Vx r r'){t i s o z:Nat}{u:Value}(e:opqR r t i s o z=some u):opqR r' t i s o z=some u:=by
 unfold opqR at e ⊢
 rw[h.s]
 split at e
 ·exact e
 ·simp only[Option.bind_eq_some_iff] at e ⊢
  obtain⟨p,hp,e⟩:=e; exact⟨p,h i p hp,e⟩
 ·simp only[Option.bind_eq_some_iff] at e ⊢
  obtain⟨p,hp,e⟩:=e; exact⟨p,h i p hp,e⟩
 ·exact e
 ·simp only[Option.bind_eq_some_iff] at e ⊢
  obtain⟨p,hp,e⟩:=e; exact⟨p,h i p hp,e⟩
 ·simp only[Option.bind_eq_some_iff] at e ⊢
  obtain⟨v,hv,q,hq,e⟩:=e
  refine⟨v,hv,q,?_,e⟩
  by_cases h4:v=4
  ·rw[if_pos h4] at hq ⊢
   obtain⟨p,hp,e2⟩:=Option.map_eq_some_iff.1 hq
   exact Option.map_eq_some_iff.2 ⟨p,h i p hp,e2⟩
  ·rw[if_neg h4] at hq ⊢
   exact hq
 ·simp only[Option.bind_eq_some_iff] at e ⊢
  obtain⟨p,hp,e⟩:=e; exact⟨p,h i p hp,e⟩
 ·exact e
theorem opqR_one{r:Ren}{t i s o z:Nat}{u:Value}(e:opqR r t i s o z=some u):u.cells=#[u]∧u.oneCell'=true:=by
 unfold opqR at e
 split at e
 ·obtain⟨_,_,rfl⟩:=Option.map_eq_some_iff.1 e; exact⟨rfl,rfl⟩
 ·obtain⟨_,_,e⟩:=Option.bind_eq_some_iff.1 e
  split at e <;> first|(cases e; exact⟨rfl,rfl⟩)|cases e
 ·obtain⟨_,_,e⟩:=Option.bind_eq_some_iff.1 e
  obtain⟨_,_,rfl⟩:=Option.map_eq_some_iff.1 e; exact⟨rfl,rfl⟩
 ·split at e <;> first|(cases e; exact⟨rfl,rfl⟩)|cases e
 ·obtain⟨_,_,e⟩:=Option.bind_eq_some_iff.1 e
  split at e <;> first|(cases e; exact⟨rfl,rfl⟩)|cases e
 ·simp only[Option.bind_eq_some_iff] at e
  obtain⟨v,_,q,hq,e⟩:=e
  have hq1:q.cells=#[q]∧q.oneCell'=true:=by
   split at hq
   ·obtain⟨p,_,rfl⟩:=Option.map_eq_some_iff.1 hq; exact⟨rfl,rfl⟩
   ·cases hq; exact⟨rfl,rfl⟩
  exact rowC_cell q hq1 v u (List.mem_of_getElem? e)
 ·obtain⟨_,_,e⟩:=Option.bind_eq_some_iff.1 e
  split at e <;> first|(cases e; exact⟨rfl,rfl⟩)|cases e
 ·cases e; exact⟨rfl,rfl⟩
mutual
noncomputable def real(r:Ren):AV→Option Value
 | .und=>some undef
 | .bool b=>some (.bool b)
 | .int k n=>some (.int k n)
 | .str s=>if s.all (fun b=>Nat.blt b 256) then some (.string (B (textOf s))) else none
 | .nilp=>some (.pointer none)
 | .ptr i o=>(r i).map fun p=> .pointer (some ⟨p.1,o,none⟩)
 | .nils=>some (.slice none 0 0)
 | .sl i o n c=>(r i).map fun p=> .slice (some ⟨p.1,o,none⟩) n c
 | .slx i o n z=>(r i).bind fun p=>if 0 < z∧o+n * z≤p.2∧(p.2 - o) / z≤maxLen then some (.slice (some ⟨p.1,o,none⟩) n ((p.2 - o) / z)) else none
 | .sly i o l z=>(r i).bind fun p=>if 0 < z∧o+l * z≤p.2 then some (.slice (some ⟨p.1,if (p.2 - o) / z=l then o else o+l * z,none⟩) 0 ((p.2 - o) / z - l)) else none
 | .nilm=>some (.map none)
 | .map i=>(r i).map fun p=> .map (some p.1)
 | .nilf=>some .nilFunc
 | .fn f a b=>(reals r a).bind fun a=>(reals r b).map fun b=> .func f a.toArray b.toArray
 | .nili=>some .nilIface
 | .ifc t v=>(real r v).map fun u=> .iface t u
 | .agg l=>(reals r l).map fun l=> .agg l.toArray
 | .tup l=>(reals r l).map fun l=> .tuple l.toArray
 | .sym k s m j=>if r.sg.n s % m=j∧r.sg.n s < 256 then some (.int k (Int.ofNat (r.sg.n s))) else none
 | .opq t i s o z=>opqR r t i s o z
noncomputable def reals(r:Ren):List AV→Option (List Value)
 | []=>some []
 | v::l=>(real r v).bind fun u=>(reals r l).map fun us=>u::us
end
mutual
theorem real_vx{r r':Ren}(h:Vx r r'): ∀(v:AV) (u:Value),real r v=some u→real r' v=some u
 | .und,_,e=>e
 | .bool _,_,e=>e
 | .int _ _,_,e=>e
 | .str _,_,e=>e
 | .nilp,_,e=>e
 | .ptr i o,u,e=>by
  simp only[real,Option.map_eq_some_iff] at e ⊢
  obtain⟨p,hp,e⟩:=e; exact⟨p,h i p hp,e⟩
 | .nils,_,e=>e
 | .sl i o n c,u,e=>by
  simp only[real,Option.map_eq_some_iff] at e ⊢
  obtain⟨p,hp,e⟩:=e; exact⟨p,h i p hp,e⟩
 | .slx i o n z,u,e=>by
  simp only[real,Option.bind_eq_some_iff] at e ⊢
  obtain⟨p,hp,e⟩:=e; exact⟨p,h i p hp,e⟩
 | .sly i o l z,u,e=>by
  simp only[real,Option.bind_eq_some_iff] at e ⊢
  obtain⟨p,hp,e⟩:=e; exact⟨p,h i p hp,e⟩
 | .nilm,_,e=>e
 | .map i,u,e=>by
  simp only[real,Option.map_eq_some_iff] at e ⊢
  obtain⟨p,hp,e⟩:=e; exact⟨p,h i p hp,e⟩
 | .nilf,_,e=>e
 | .fn f a b,u,e=>by
  simp only[real,Option.bind_eq_some_iff,Option.map_eq_some_iff] at e ⊢
  obtain⟨x,hx,y,hy,e⟩:=e; exact⟨x,reals_vx h a x hx,y,reals_vx h b y hy,e⟩
 | .nili,_,e=>e
 | .ifc t v,u,e=>by
  simp only[real,Option.map_eq_some_iff] at e ⊢
  obtain⟨x,hx,e⟩:=e; exact⟨x,real_vx h v x hx,e⟩
 | .agg l,u,e=>by
  simp only[real,Option.map_eq_some_iff] at e ⊢
  obtain⟨x,hx,e⟩:=e; exact⟨x,reals_vx h l x hx,e⟩
 | .tup l,u,e=>by
  simp only[real,Option.map_eq_some_iff] at e ⊢
  obtain⟨x,hx,e⟩:=e; exact⟨x,reals_vx h l x hx,e⟩
 | .sym k s m j,u,e=>by
  simp only[real,h.s] at e ⊢
  exact e
 | .opq t i s o z,u,e=>by
  simp only[real] at e ⊢
  exact opqR_vx h e
theorem reals_vx{r r':Ren}(h:Vx r r'): ∀(l:List AV) (us:List Value),reals r l=some us→reals r' l=some us
 | [],_,e=>e
 | v::l,us,e=>by
  simp only[reals,Option.bind_eq_some_iff,Option.map_eq_some_iff] at e ⊢
  obtain⟨x,hx,y,hy,e⟩:=e; exact⟨x,real_vx h v x hx,y,reals_vx h l y hy,e⟩
end
theorem real_mono{r r':Ren}(h:Ext r r')(v:AV)(u:Value)(e:real r v=some u):real r' v=some u:=real_vx h.v v u e
theorem reals_mono{r r':Ren}(h:Ext r r')(l:List AV)(us:List Value)(e:reals r l=some us):reals r' l=some us:=reals_vx h.v l us e
theorem reals_nil{r:Ren}:reals r []=some []:=by simp[reals]
theorem reals_cons{r:Ren}{v:AV}{l:List AV}{us:List Value}:reals r (v::l)=some us↔∃u t,real r v=some u∧reals r l=some t∧us=u::t:=by
 simp only[reals,Option.bind_eq_some_iff,Option.map_eq_some_iff]
 constructor
 ·rintro⟨x,hx,y,hy,rfl⟩; exact⟨x,y,hx,hy,rfl⟩
 ·rintro⟨x,y,hx,hy,rfl⟩; exact⟨x,hx,y,hy,rfl⟩
theorem reals_len{r:Ren}: ∀{l:List AV} {us:List Value},reals r l=some us→us.length=l.length
 | [],us,e=>by rw[reals_nil] at e; cases e; rfl
 | v::l,us,e=>by
  obtain⟨u,t,_,h,rfl⟩:=reals_cons.1 e
  simp[reals_len h]
theorem reals_app{r:Ren}: ∀{a b:List AV} {x y:List Value},reals r a=some x→reals r b=some y→reals r (a++b)=some (x++y)
 | [],b,x,y,hx,hy=>by rw[reals_nil] at hx; cases hx; exact hy
 | v::l,b,x,y,hx,hy=>by
  obtain⟨u,t,hu,h,rfl⟩:=reals_cons.1 hx
  exact reals_cons.2 ⟨u,t++y,hu,reals_app h hy,rfl⟩
theorem reals_at{r:Ren}: ∀{l:List AV} {us:List Value} {j:Nat} {v:AV},reals r l=some us→l[j]?=some v→∃u,us[j]?=some u∧real r v=some u
 | [],_,j,v,_,h=>by simp at h
 | a::l,us,0,v,e,h=>by
  obtain⟨u,t,hu,_,rfl⟩:=reals_cons.1 e
  have:a=v:=by simpa using h
  exact⟨u,rfl,this▸hu⟩
 | a::l,us,j+1,v,e,h=>by
  obtain⟨u,t,_,ht,rfl⟩:=reals_cons.1 e
  simpa using reals_at ht (by simpa using h)
theorem reals_take{r:Ren}: ∀{l:List AV} {us:List Value} (n:Nat),reals r l=some us→reals r (l.take n)=some (us.take n)
 | l,us,0,_=>by simp[reals_nil]
 | [],us,n+1,e=>by rw[reals_nil] at e; cases e; simp[reals_nil]
 | a::l,us,n+1,e=>by
  obtain⟨u,t,hu,ht,rfl⟩:=reals_cons.1 e
  exact reals_cons.2 ⟨u,_,hu,reals_take n ht,rfl⟩
theorem reals_drop{r:Ren}: ∀{l:List AV} {us:List Value} (n:Nat),reals r l=some us→reals r (l.drop n)=some (us.drop n)
 | l,us,0,e=>e
 | [],us,n+1,e=>by rw[reals_nil] at e; cases e; simp[reals_nil]
 | a::l,us,n+1,e=>by
  obtain⟨u,t,hu,ht,rfl⟩:=reals_cons.1 e
  exact reals_drop n ht
theorem reals_set{r:Ren}: ∀{l:List AV} {us:List Value} (n:Nat) {v:AV} {u:Value},reals r l=some us→real r v=some u→reals r (l.set n v)=some (us.set n u)
 | [],us,n,v,u,e,_=>by rw[reals_nil] at e; cases e; simp[reals_nil]
 | a::l,us,0,v,u,e,h=>by
  obtain⟨x,t,hu,ht,rfl⟩:=reals_cons.1 e
  exact reals_cons.2 ⟨u,t,h,ht,rfl⟩
 | a::l,us,n+1,v,u,e,h=>by
  obtain⟨x,t,hu,ht,rfl⟩:=reals_cons.1 e
  exact reals_cons.2 ⟨x,_,hu,reals_set n ht h,rfl⟩
def AV.cells:AV→List AV
 | .agg l=>l
 | v=>[v]
theorem real_cells{r:Ren}{v:AV}{u:Value}(h:real r v=some u): ∃us,reals r v.cells=some us∧u.cells=us.toArray:=by
 cases v with
 | agg l=>
  simp only[real,Option.map_eq_some_iff] at h
  obtain⟨x,hx,rfl⟩:=h
  exact⟨x,hx,rfl⟩
 | opq t i s o z=>
  refine⟨[u],reals_cons.2 ⟨u,[],h,reals_nil,rfl⟩,?_⟩
  simp only[real] at h
  exact(opqR_one h).1
 | _=>
  refine⟨[u],reals_cons.2 ⟨u,[],h,reals_nil,rfl⟩,?_⟩
  simp only[real,Option.map_eq_some_iff,Option.bind_eq_some_iff] at h
  first
   | (cases h; rfl)
   | (obtain⟨_,_,rfl⟩:=h; rfl)
   | (obtain⟨_,_,_,_,rfl⟩:=h; rfl)
   | (split at h <;> first|(cases h; rfl)|cases h)
   | (obtain⟨_,_,h⟩:=h; split at h <;> first|(cases h; rfl)|cases h)
inductive Blk where
 | cells (ty:TypeId) (opn ro:Bool) (cs:List AV)
 | mp (ks vs:List AV) (bs:List Nat) (ck:Nat)
 | it (s:List Nat) (p:Nat)
 | mit (m:AV) (since:Nat) (seen:List Nat) (last:Nat)
 | ints
 | rows (z:Nat) (tab:List (Nat×List AV))
 | fix (q:Nat)
structure Hp where
 next:Nat
 tr:Tr Blk
noncomputable def Hp.at(h:Hp)(i:Nat):Option Blk:=Tr.get (bits i) h.tr
noncomputable def Hp.put(h:Hp)(i:Nat)(b:Option Blk):Hp:=⟨h.next,Tr.set b (bits i) h.tr⟩
noncomputable def Hp.new(h:Hp)(b:Blk):Hp:=⟨h.next+1,Tr.set (some b) (bits h.next) h.tr⟩
def BRel(r:Ren)(p:Nat×Nat)(w:World):Blk→Prop
 | .cells ty opn ro cs=>∃c fz us,w.heap[p.1]?=some (.cells c ty fz)∧c.size=p.2∧reals r cs=some us∧us=c.toList.take cs.length∧cs.length≤p.2∧(opn=false→cs.length=p.2)∧(ro=false→fz.1=fz.2∨p.2≤fz.1)
 | .mp ks vs bs c=>∃en ck,w.heap[p.1]?=some (.map en ck)∧reals r ks=some (en.toList.map (·.key))∧reals r vs=some (en.toList.map (·.val))∧(en.toList.map (·.born)).Pairwise (· < ·)∧(∀e∈en.toList,e.born < ck)∧en.toList.map (·.born)=bs∧ck=c
 | .it s q=>w.heap[p.1]?=some (.stringIter (B (textOf s)) q)∧s.all (fun b=>Nat.blt b 256)=true
 | .mit m a s l=>∃q,real r m=some (.map q)∧w.heap[p.1]?=some (.mapIter q a s.toArray l)
 | .ints=>∃m,w.cell? ⟨p.1,0,none⟩=some (.int .i64 m)
 | .rows z tab=>∃c ty fz,w.heap[p.1]?=some (.cells c ty fz)∧c.size=p.2∧∀x∈tabX z tab,∀m,standsAt r.sg.dd x.1=some m→∃us,reals r x.2=some us∧us.length=z∧us=(c.toList.drop (m * z)).take z
 | .fix q=>p.1 < w.heap.size∧(r.sg.on q→∃c ty fz,w.heap[p.1]?=some (.cells c ty fz)∧c.size=p.2∧fixQ q ty c)
theorem BRel.vx{r r':Ren}(h:Vx r r'){p:Nat×Nat}{w:World}: ∀{b:Blk},BRel r p w b→BRel r' p w b
 | .cells ..,⟨c,fz,us,h1,h2,h3,h4⟩=>⟨c,fz,us,h1,h2,reals_vx h _ _ h3,h4⟩
 | .mp ..,⟨en,ck,h1,h2,h3,h4⟩=>⟨en,ck,h1,reals_vx h _ _ h2,reals_vx h _ _ h3,h4⟩
 | .it ..,h=>h
 | .mit ..,⟨q,h1,h2⟩=>⟨q,real_vx h _ _ h1,h2⟩
 | .ints,h=>h
 | .rows ..,⟨c,ty,fz,h1,h2,h3⟩=>⟨c,ty,fz,h1,h2,fun x hx m hm=>by
  rw[h.s] at hm
  obtain⟨us,h4,h5⟩:=h3 x hx m hm
  exact⟨us,reals_vx h _ _ h4,h5⟩⟩
 | .fix _,⟨h1,h2⟩=>⟨h1,fun k=>h2 (by rw[h.s] at k; exact k)⟩
theorem BRel.mono{r r':Ren}(h:Ext r r'){p:Nat×Nat}{w:World}{b:Blk}(e:BRel r p w b):BRel r' p w b:=e.vx h.v
theorem BRel.of{r:Ren}{p:Nat×Nat}{w w':World}(h:w'.heap[p.1]?=w.heap[p.1]?): ∀{b:Blk},BRel r p w b→BRel r p w' b
 | .cells ..,⟨c,fz,us,h1,h2⟩=>⟨c,fz,us,h.trans h1,h2⟩
 | .mp ..,⟨en,ck,h1,h2⟩=>⟨en,ck,h.trans h1,h2⟩
 | .it ..,⟨h1,h2⟩=>⟨h.trans h1,h2⟩
 | .mit ..,⟨q,h1,h2⟩=>⟨q,h1,h.trans h2⟩
 | .ints,⟨m,h1⟩=>⟨m,by
  simp only[World.cell?] at h1 ⊢
  rw[h]; exact h1⟩
 | .rows ..,⟨c,ty,fz,h1,h2⟩=>⟨c,ty,fz,h.trans h1,h2⟩
 | .fix _,⟨h1,h2⟩=>⟨by
  rw[Array.getElem?_eq_getElem h1] at h
  exact lt_of_at h,fun k=>by
  obtain⟨c,ty,fz,h3,h4⟩:=h2 k
  exact⟨c,ty,fz,h.trans h3,h4⟩⟩
theorem BRel.lt{r:Ren}{p:Nat×Nat}{w:World}: ∀{b:Blk},BRel r p w b→p.1 < w.heap.size
 | .cells ..,⟨_,_,_,h1,_⟩=>lt_of_at h1
 | .mp ..,⟨_,_,h1,_⟩=>lt_of_at h1
 | .it ..,⟨h1,_⟩=>lt_of_at h1
 | .mit ..,⟨_,_,h1⟩=>lt_of_at h1
 | .ints,⟨m,h1⟩=>by
  simp only[World.cell?] at h1
  rcases Nat.lt_or_ge p.1 w.heap.size with c|c
  ·exact c
  ·rw[Array.getElem?_eq_none c] at h1; cases h1
 | .rows ..,⟨_,_,_,h1,_⟩=>lt_of_at h1
 | .fix _,⟨h1,_⟩=>h1
abbrev LIM:Nat:=1099511627776
abbrev GLB:Nat:=100
structure Rel (S:Nat→Prop) (w0:World) (fl:Nat) (r:Ren) (h:Hp) (w:World):Prop where
 live : ∀i b,i < h.next→h.at i=some b→∃p,r i=some p∧BRel r p w b
 inj : ∀i j b c p q,i < h.next→j < h.next→h.at i=some b→h.at j=some c→r i=some p→r j=some q→p.1=q.1→i=j
 fresh : ∀i,h.next≤i→r i=none
 lim:h.next≤LIM
 glob : ∀i p,i < GLB→r i=some p→p.1=i
 may : ∀i p,fl≤i→r i=some p→S p.1∨w0.heap.size≤p.1
 dom : ∀i p,r i=some p→p.1 < w.heap.size
 kept:Kept S w0 w
 base:fl≤h.next∧GLB≤h.next
 hol : ∀i,r.hole i→r i=none∧i < h.next
 full : ∀i,i < h.next→r.hole i∨∃p,r i=some p
 top : ∀i,h.next≤i→i < LIM→h.at i=none
theorem Hp.at_put{h:Hp}{i j:Nat}{b:Option Blk}(hi:i < LIM)(hj:j < LIM):(h.put i b).at j=if i=j then b else h.at j:=by
 unfold Hp.at Hp.put
 rw[Tr.get_set]
 by_cases e:i=j
 ·subst e; simp
 ·rw[if_neg e,if_neg fun c=>e (bits_inj hi hj c)]
theorem Hp.at_new{h:Hp}{j:Nat}{b:Blk}(hi:h.next < LIM)(hj:j < LIM):(h.new b).at j=if h.next=j then some b else h.at j:=by
 unfold Hp.at Hp.new
 rw[Tr.get_set]
 by_cases e:h.next=j
 ·subst e; simp
 ·rw[if_neg e,if_neg fun c=>e (bits_inj hi hj c)]
section
variable {S : Nat → Prop} {w0 : World} {fl : Nat} {r : Ren} {h : Hp} {w : World}
theorem Rel.lt(H:Rel S w0 fl r h w){i:Nat}{p:Nat×Nat}(hr:r i=some p):i < h.next:=by
 rcases Nat.lt_or_ge i h.next with c|c
 ·exact c
 ·rw[H.fresh i c] at hr; cases hr
theorem Rel.at(H:Rel S w0 fl r h w){i:Nat}{p:Nat×Nat}{b:Blk}(hr:r i=some p)(hb:h.at i=some b):BRel r p w b:=by
 obtain⟨q,hq,hB⟩:=H.live i b (H.lt hr) hb
 rw[hr] at hq; cases hq; exact hB
theorem Rel.same(H:Rel S w0 fl r h w){w':World}(k:K0 w w'):Rel S w0 fl r h w':=
 ⟨fun i b hi hb=>by
   obtain⟨p,hp,hB⟩:=H.live i b hi hb
   exact⟨p,hp,hB.of (k.block _ (H.dom i p hp) fun c=>c)⟩,
  H.inj,H.fresh,H.lim,H.glob,H.may,fun i p hp=>Nat.lt_of_lt_of_le (H.dom i p hp) k.size,H.kept.trans0 k,H.base,H.hol,H.full,H.top⟩
def upd(r:Ren)(i:Nat)(p:Nat×Nat):Ren:=⟨fun j=>if j=i then some p else r j,r.hole,r.sg⟩
theorem upd_eq(r:Ren)(i:Nat)(p:Nat×Nat)(j:Nat):upd r i p j=if j=i then some p else r j:=rfl
theorem upd_ext(H:Rel S w0 fl r h w)(p:Nat×Nat):Ext r (upd r h.next p):=⟨⟨fun i q hq=>by
 have:=H.lt hq
 rw[upd_eq,if_neg (by omega)]; exact hq,rfl⟩,fun _ h=>h⟩
theorem upd_hol(H:Rel S w0 fl r h w)(p:Nat×Nat): ∀i,(upd r h.next p).hole i→upd r h.next p i=none∧i < h.next+1:=fun i hi=>by
 obtain⟨h1,h2⟩:=H.hol i hi
 rw[upd_eq,if_neg (by omega)]; exact⟨h1,by omega⟩
theorem upd_full(H:Rel S w0 fl r h w)(p:Nat×Nat): ∀i,i < h.next+1→(upd r h.next p).hole i∨∃q,upd r h.next p i=some q:=fun i hi=>by
 by_cases e:i=h.next
 ·exact .inr ⟨p,by rw[upd_eq,if_pos e]⟩
 ·rcases H.full i (by omega) with q|⟨q,hq⟩
  ·exact .inl q
  ·exact .inr ⟨q,by rw[upd_eq,if_neg e]; exact hq⟩
theorem upd_same(r:Ren)(i:Nat)(p:Nat×Nat):upd r i p i=some p:=if_pos rfl
theorem Rel.new(H:Rel S w0 fl r h w){w':World}{b:Blk}{p:Nat×Nat}(hn:h.next < LIM)(k:K0 w w')(hp:w.heap.size≤p.1)(hB:BRel (upd r h.next p) p w' b):Rel S w0 fl (upd r h.next p) (h.new b) w':=by
 have hx:=upd_ext H p
 have hl:=H.lim
 refine⟨fun i c hi hc=>?_,fun i j c d q q' hi hj hc hd hq hq' e=>?_,fun i hi=>?_,hn,fun i q hi hq=>?_,fun i q hi hq=>?_,fun i q hq=>?_,H.kept.trans0 k,⟨Nat.le_succ_of_le H.base.1,Nat.le_succ_of_le H.base.2⟩,upd_hol H p,upd_full H p,fun i hi hL=>?_⟩
 ·have hi':i < h.next+1:=hi
  rw[Hp.at_new hn (by omega)] at hc
  by_cases e:h.next=i
  ·subst e; rw[if_pos rfl] at hc; cases hc; exact⟨p,upd_same _ _ _,hB⟩
  ·rw[if_neg e] at hc
   obtain⟨q,hq,hb⟩:=H.live i c (by omega) hc
   exact⟨q,hx.v i q hq,(hb.of (k.block _ (H.dom i q hq) fun c=>c)).mono hx⟩
 ·have hi':i < h.next+1:=hi
  have hj':j < h.next+1:=hj
  rw[Hp.at_new hn (by omega)] at hc hd
  rw[upd_eq] at hq hq'
  by_cases e1:i=h.next
  ·by_cases e2:j=h.next
   ·omega
   ·rw[if_pos e1] at hq
    rw[if_neg e2] at hq'
    cases hq
    have:=H.dom j q' hq'
    omega
  ·by_cases e2:j=h.next
   ·rw[if_neg e1] at hq
    rw[if_pos e2] at hq'
    cases hq'
    have:=H.dom i q hq
    omega
   ·rw[if_neg (by omega)] at hc hd
    rw[if_neg e1] at hq
    rw[if_neg e2] at hq'
    exact H.inj i j c d q q' (by omega) (by omega) hc hd hq hq' e
 ·have:h.next+1≤i:=hi
  rw[upd_eq,if_neg (by omega)]; exact H.fresh i (by omega)
 ·rw[upd_eq] at hq
  by_cases e:i=h.next
  ·have:=H.base; omega
  ·rw[if_neg e] at hq; exact H.glob i q hi hq
 ·rw[upd_eq] at hq
  by_cases e:i=h.next
  ·rw[if_pos e] at hq; cases hq; exact .inr (Nat.le_trans H.kept.size hp)
  ·rw[if_neg e] at hq; exact H.may i q hi hq
 ·rw[upd_eq] at hq
  by_cases e:i=h.next
  ·rw[if_pos e] at hq; cases hq; exact hB.lt
  ·rw[if_neg e] at hq; exact Nat.lt_of_lt_of_le (H.dom i q hq) k.size
 ·have hi:h.next+1≤i:=hi
  rw[Hp.at_new hn hL,if_neg (by omega)]
  exact H.top i (by omega) hL
theorem Rel.put(H:Rel S w0 fl r h w){w':World}{i:Nat}{b c:Blk}{p:Nat×Nat}(hi:fl≤i)(hr:r i=some p)(hc:h.at i=some c)(k:Kept (fun k=>k=p.1) w w')(hB:BRel r p w' b):Rel S w0 fl r (h.put i (some b)) w':=by
 have hin:=H.lt hr
 have hl:=H.lim
 refine⟨fun j d hj hd=>?_,fun j j' d d' q q' hj hj' hd hd' hq hq' e=>?_,H.fresh,H.lim,H.glob,H.may,fun j q hq=>Nat.lt_of_lt_of_le (H.dom j q hq) k.size,?_,H.base,H.hol,H.full,fun j hj hL=>?_⟩
 ·have hj:j < h.next:=hj
  rw[Hp.at_put (by omega) (by omega)] at hd
  by_cases e:i=j
  ·subst e; rw[if_pos rfl] at hd; cases hd; exact⟨p,hr,hB⟩
  ·rw[if_neg e] at hd
   obtain⟨q,hq,hb⟩:=H.live j d hj hd
   exact⟨q,hq,hb.of (k.block _ (H.dom j q hq) fun x=>e (H.inj i j c d p q hin hj hc hd hr hq x.symm))⟩
 ·have hj:j < h.next:=hj
  have hj':j' < h.next:=hj'
  rw[Hp.at_put (by omega) (by omega)] at hd hd'
  have key : ∀x d,x < h.next→(if i=x then some b else h.at x)=some d→∃d,h.at x=some d:=by
   intro x d _ hx
   by_cases e:i=x
   ·subst e; exact⟨c,hc⟩
   ·rw[if_neg e] at hx; exact⟨d,hx⟩
  obtain⟨e1,h1⟩:=key j d hj hd
  obtain⟨e2,h2⟩:=key j' d' hj' hd'
  exact H.inj j j' e1 e2 q q' hj hj' h1 h2 hq hq' e
 ·exact H.kept.trans k fun x hx=>hx▸H.may i p hi hr
 ·have hj:h.next≤j:=hj
  rw[Hp.at_put (by omega) hL,if_neg (by omega)]
  exact H.top j hj hL
theorem Rel.move(H:Rel S w0 fl r h w){w':World}{i g m:Nat}{b c:Blk}{p:Nat×Nat}(hn:h.next < LIM)(hi:fl≤i)(hr:r i=some p)(hc:h.at i=some c)(k:Kept (fun k=>k=p.1) w w')(hg:g=p.1∨w.heap.size≤g)
  (hB:BRel (upd r h.next (g,m)) (g,m) w' b):Rel S w0 fl (upd r h.next (g,m)) ((h.put i none).new b) w':=by
 have hin:=H.lt hr
 have hl:=H.lim
 have hx:=upd_ext H (g,m)
 have hat : ∀j,j < h.next+1→((h.put i none).new b).at j=if h.next=j then some b else if i=j then none else h.at j:=by
  intro j hj
  rw[Hp.at_new (h:=h.put i none) (show h.next < LIM from hn) (by omega)]
  show(if h.next=j then some b else (h.put i none).at j)=_
  by_cases e:h.next=j
  ·rw[if_pos e,if_pos e]
  ·rw[if_neg e,if_neg e,Hp.at_put (by omega) (by omega)]
 refine⟨fun j d hj hd=>?_,fun j j' d d' q q' hj hj' hd hd' hq hq' e=>?_,fun j hj=>?_,hn,fun j q hj hq=>?_,fun j q hj hq=>?_,fun j q hq=>?_,H.kept.trans k fun x hx=>hx▸H.may i p hi hr,⟨Nat.le_succ_of_le H.base.1,Nat.le_succ_of_le H.base.2⟩,upd_hol H (g,m),upd_full H (g,m),fun j hj hL=>?_⟩
 ·have hj:j < h.next+1:=hj
  rw[hat j hj] at hd
  by_cases e:h.next=j
  ·subst e; rw[if_pos rfl] at hd; cases hd; exact⟨(g,m),upd_same _ _ _,hB⟩
  ·rw[if_neg e] at hd
   by_cases e2:i=j
   ·rw[if_pos e2] at hd; cases hd
   ·rw[if_neg e2] at hd
    obtain⟨q,hq,hb⟩:=H.live j d (by omega) hd
    exact⟨q,hx.v j q hq,(hb.of (k.block _ (H.dom j q hq) fun x=>e2 (H.inj i j c d p q hin (by omega) hc hd hr hq x.symm))).mono hx⟩
 ·have hj:j < h.next+1:=hj
  have hj':j' < h.next+1:=hj'
  rw[hat j hj] at hd
  rw[hat j' hj'] at hd'
  have key : ∀x dx qx,x < h.next+1→x≠h.next→(if h.next=x then some b else if i=x then none else h.at x)=some dx→upd r h.next (g,m) x=some qx→qx.1≠g:=by
   intro x dx qx hx1 hx2 hx3 hx4 c1
   rw[if_neg (Ne.symm hx2)] at hx3
   rw[upd_eq] at hx4
   rw[if_neg hx2] at hx4
   by_cases e2:i=x
   ·rw[if_pos e2] at hx3; cases hx3
   ·rw[if_neg e2] at hx3
    have h1:=H.dom x qx hx4
    rcases hg with hg|hg
    ·exact e2 (H.inj i x c dx p qx hin (by omega) hc hx3 hr hx4 (by rw[c1,hg]))
    ·omega
  by_cases e1:j=h.next
  ·by_cases e2:j'=h.next
   ·omega
   ·exfalso
    have:=key j' d' q' hj' e2 hd' hq'
    rw[e1,upd_same] at hq
    cases hq
    exact this e.symm
  ·by_cases e2:j'=h.next
   ·exfalso
    have:=key j d q hj e1 hd hq
    rw[e2,upd_same] at hq'
    cases hq'
    exact this e
   ·rw[if_neg (Ne.symm e1)] at hd
    rw[if_neg (Ne.symm e2)] at hd'
    rw[upd_eq] at hq hq'
    rw[if_neg e1] at hq
    rw[if_neg e2] at hq'
    by_cases e3:i=j
    ·rw[if_pos e3] at hd; cases hd
    ·by_cases e4:i=j'
     ·rw[if_pos e4] at hd'; cases hd'
     ·rw[if_neg e3] at hd
      rw[if_neg e4] at hd'
      exact H.inj j j' d d' q q' (by omega) (by omega) hd hd' hq hq' e
 ·have:h.next+1≤j:=hj
  rw[upd_eq,if_neg (by omega)]; exact H.fresh j (by omega)
 ·rw[upd_eq] at hq
  by_cases e:j=h.next
  ·have:=H.base; omega
  ·rw[if_neg e] at hq; exact H.glob j q hj hq
 ·rw[upd_eq] at hq
  by_cases e:j=h.next
  ·rw[if_pos e] at hq; cases hq
   rcases hg with hg|hg
   ·rw[hg]; exact H.may i p hi hr
   ·exact .inr (Nat.le_trans H.kept.size hg)
  ·rw[if_neg e] at hq; exact H.may j q hj hq
 ·rw[upd_eq] at hq
  by_cases e:j=h.next
  ·rw[if_pos e] at hq; cases hq; exact hB.lt
  ·rw[if_neg e] at hq; exact Nat.lt_of_lt_of_le (H.dom j q hq) k.size
 ·have hj:h.next+1≤j:=hj
  rw[Hp.at_new (h:=h.put i none) (show h.next < LIM from hn) hL]
  show(if h.next=j then some b else (h.put i none).at j)=none
  rw[if_neg (by omega),Hp.at_put (by omega) hL,if_neg (by omega)]
  exact H.top j (by omega) hL
end
def FrOk(r:Ren)(env:Tr AV)(f:Fr):Prop:=∀t v,t < LIM→Tr.get (bits t) env=some v→∃u,real r v=some u∧H.look f.e t=some u
theorem FrOk.mono{r r':Ren}{env:Tr AV}{f:Fr}(h:FrOk r env f)(x:Ext r r'):FrOk r' env f:=fun t v ht hv=>by
 obtain⟨u,hu,hl⟩:=h t v ht hv
 exact⟨u,real_mono x v u hu,hl⟩
theorem FrOk.put{r:Ren}{env:Tr AV}{f:Fr}(h:FrOk r env f){d:Nat}{v:AV}{u:Value}(hd:d < LIM)(hv:real r v=some u):FrOk r (Tr.set (some v) (bits d) env) (f.put d u):=by
 intro t x ht hx
 rw[Tr.get_set] at hx
 by_cases e:d=t
 ·subst e
  rw[if_pos rfl] at hx; cases hx
  exact⟨u,hv,by simp[Fr.put,H.look,beq_self]⟩
 ·rw[if_neg fun c=>e (bits_inj hd ht c)] at hx
  obtain⟨y,hy,hl⟩:=h t x ht hx
  exact⟨y,hy,by simp only[Fr.put,H.look,beq_ne e]; exact hl⟩
end Go.Proofs.YtbhbdeelpopgoaaGreatDoor.E

namespace Go.Proofs.YtbhbdeelpopgoaaGreatDoor.E
open Go Go.RowKit H
section elim
abbrev no:Bool:=false
noncomputable def hop{α β:Type}(f:α→β)(x:α):β:=f x
noncomputable def consK{α:Type}(k:List α→Bool)(a:α)(l:List α):Bool:=k (a::l)
noncomputable def qInt(x:AV)(k:IntKind→Int→Bool):Bool:=AV.rec (motive_1:=fun _=>Bool) (motive_2:=fun _=>Bool) no (fun _=>no) (fun i n=>k i n) (fun _=>no) no (fun _ _=>no) no (fun _ _ _ _=>no) (fun _ _ _ _=>no) (fun _ _ _ _=>no) no (fun _=>no) no (fun _ _ _ _ _=>no) no (fun _ _ _=>no) (fun _ _=>no) (fun _ _=>no) (fun _ _ _ _=>no) (fun _ _ _ _ _=>no) no (fun _ _ _ _=>no) x
noncomputable def qBool(x:AV)(k:Bool→Bool):Bool:=AV.rec (motive_1:=fun _=>Bool) (motive_2:=fun _=>Bool) no (fun b=>k b) (fun _ _=>no) (fun _=>no) no (fun _ _=>no) no (fun _ _ _ _=>no) (fun _ _ _ _=>no) (fun _ _ _ _=>no) no (fun _=>no) no (fun _ _ _ _ _=>no) no (fun _ _ _=>no) (fun _ _=>no) (fun _ _=>no) (fun _ _ _ _=>no) (fun _ _ _ _ _=>no) no (fun _ _ _ _=>no) x
noncomputable def qStr(x:AV)(k:List Nat→Bool):Bool:=AV.rec (motive_1:=fun _=>Bool) (motive_2:=fun _=>Bool) no (fun _=>no) (fun _ _=>no) (fun s=>k s) no (fun _ _=>no) no (fun _ _ _ _=>no) (fun _ _ _ _=>no) (fun _ _ _ _=>no) no (fun _=>no) no (fun _ _ _ _ _=>no) no (fun _ _ _=>no) (fun _ _=>no) (fun _ _=>no) (fun _ _ _ _=>no) (fun _ _ _ _ _=>no) no (fun _ _ _ _=>no) x
noncomputable def qPtr(x:AV)(k:Nat→Nat→Bool):Bool:=AV.rec (motive_1:=fun _=>Bool) (motive_2:=fun _=>Bool) no (fun _=>no) (fun _ _=>no) (fun _=>no) no (fun i o=>k i o) no (fun _ _ _ _=>no) (fun _ _ _ _=>no) (fun _ _ _ _=>no) no (fun _=>no) no (fun _ _ _ _ _=>no) no (fun _ _ _=>no) (fun _ _=>no) (fun _ _=>no) (fun _ _ _ _=>no) (fun _ _ _ _ _=>no) no (fun _ _ _ _=>no) x
noncomputable def qAgg(x:AV)(k:List AV→Bool):Bool:=AV.rec (motive_1:=fun _=>Bool) (motive_2:=fun _=>Bool) no (fun _=>no) (fun _ _=>no) (fun _=>no) no (fun _ _=>no) no (fun _ _ _ _=>no) (fun _ _ _ _=>no) (fun _ _ _ _=>no) no (fun _=>no) no (fun _ _ _ _ _=>no) no (fun _ _ _=>no) (fun l _=>k l) (fun _ _=>no) (fun _ _ _ _=>no) (fun _ _ _ _ _=>no) no (fun _ _ _ _=>no) x
noncomputable def qTup(x:AV)(k:List AV→Bool):Bool:=AV.rec (motive_1:=fun _=>Bool) (motive_2:=fun _=>Bool) no (fun _=>no) (fun _ _=>no) (fun _=>no) no (fun _ _=>no) no (fun _ _ _ _=>no) (fun _ _ _ _=>no) (fun _ _ _ _=>no) no (fun _=>no) no (fun _ _ _ _ _=>no) no (fun _ _ _=>no) (fun _ _=>no) (fun l _=>k l) (fun _ _ _ _=>no) (fun _ _ _ _ _=>no) no (fun _ _ _ _=>no) x
theorem qInt_ok{x:AV}{k:IntKind→Int→Bool}(h:qInt x k=true): ∃i n,x = .int i n∧k i n=true:=by cases x <;> first|exact⟨_,_,rfl,h⟩|cases h
theorem qBool_ok{x:AV}{k:Bool→Bool}(h:qBool x k=true): ∃b,x = .bool b∧k b=true:=by cases x <;> first|exact⟨_,rfl,h⟩|cases h
theorem qStr_ok{x:AV}{k:List Nat→Bool}(h:qStr x k=true): ∃s,x = .str s∧k s=true:=by cases x <;> first|exact⟨_,rfl,h⟩|cases h
theorem qPtr_ok{x:AV}{k:Nat→Nat→Bool}(h:qPtr x k=true): ∃i o,x = .ptr i o∧k i o=true:=by cases x <;> first|exact⟨_,_,rfl,h⟩|cases h
theorem qAgg_ok{x:AV}{k:List AV→Bool}(h:qAgg x k=true): ∃l,x = .agg l∧k l=true:=by cases x <;> first|exact⟨_,rfl,h⟩|cases h
theorem qTup_ok{x:AV}{k:List AV→Bool}(h:qTup x k=true): ∃l,x = .tup l∧k l=true:=by cases x <;> first|exact⟨_,rfl,h⟩|cases h
noncomputable def ask(b:Bool)(k:Bool):Bool:=Bool.rec (motive:=fun _=>Bool) false k b
theorem ask_ok{b k:Bool}(h:ask b k=true):b=true∧k=true:=by cases b <;> first|exact⟨rfl,h⟩|cases h
noncomputable def ife(b:Bool)(t f:Bool):Bool:=Bool.rec (motive:=fun _=>Bool) f t b
theorem ife_ok{b t f:Bool}(h:ife b t f=true):(b=true∧t=true)∨(b=false∧f=true):=by cases b <;> first|exact .inl ⟨rfl,h⟩|exact .inr ⟨rfl,h⟩
noncomputable def ifeV{α:Type}(b:Bool)(t f:α):α:=Bool.rec (motive:=fun _=>α) f t b
noncomputable def boolK(b:Bool)(k:Bool→Bool):Bool:=Bool.rec (motive:=fun _=>Bool) (k false) (k true) b
theorem boolK_eq(b:Bool)(k:Bool→Bool):boolK b k=k b:=by cases b <;> rfl
noncomputable def optK{α:Type}(x:Option α)(n:Bool)(k:α→Bool):Bool:=Option.rec (motive:=fun _=>Bool) n k x
noncomputable def someK{α:Type}(x:Option α)(k:α→Bool):Bool:=Option.rec (motive:=fun _=>Bool) false k x
theorem someK_ok{α:Type}{x:Option α}{k:α→Bool}(h:someK x k=true): ∃a,x=some a∧k a=true:=by cases x <;> first|exact⟨_,rfl,h⟩|cases h
end elim
section ints
noncomputable def kN(k:IntKind):Nat:=IntKind.rec (motive:=fun _=>Nat) 0 1 2 3 4 5 6 7 k
noncomputable def kEq(a b:IntKind):Bool:=Nat.beq (kN a) (kN b)
theorem kEq_ok{a b:IntKind}(h:kEq a b=true):a=b:=by cases a <;> cases b <;> first|rfl|cases h
noncomputable def iEq(a b:Int):Bool:=Int.rec (motive:=fun _=>Bool) (fun m=>Int.rec (motive:=fun _=>Bool) (fun n=>Nat.beq m n) (fun _=>false) b) (fun m=>Int.rec (motive:=fun _=>Bool) (fun _=>false) (fun n=>Nat.beq m n) b) a
noncomputable def iLt(a b:Int):Bool:=Int.rec (motive:=fun _=>Bool) (fun m=>Int.rec (motive:=fun _=>Bool) (fun n=>Nat.blt m n) (fun _=>false) b) (fun m=>Int.rec (motive:=fun _=>Bool) (fun _=>true) (fun n=>Nat.blt n m) b) a
theorem beq_dec(m n:Nat):Nat.beq m n=decide (m=n):=by
 by_cases h:m=n
 ·subst h; simp
 ·rw[beq_ne h]; simp[h]
theorem blt_dec(m n:Nat):Nat.blt m n=decide (m < n):=by
 by_cases h:m < n
 ·simp[h,Nat.blt_eq]
 ·have:Nat.blt m n=false:=by rw[Bool.eq_false_iff]; exact fun c=>h (blt_lt c)
  rw[this]; simp[h]
theorem ble_dec(m n:Nat):Nat.ble m n=decide (m≤n):=by
 by_cases h:m≤n
 ·simp[h,Nat.ble_eq]
 ·have:Nat.ble m n=false:=by rw[Bool.eq_false_iff]; exact fun c=>h (ble_le c)
  rw[this]; simp[h]
theorem iEq_eq(a b:Int):iEq a b=decide (a=b):=by
 cases a <;> cases b <;> simp[iEq,beq_dec] <;> omega
theorem iLt_eq(a b:Int):iLt a b=decide (a < b):=by
 cases a <;> cases b <;> simp[iLt,blt_dec] <;> omega
noncomputable def kmax(k:IntKind):Nat:=IntKind.rec (motive:=fun _=>Nat) 128 32768 2147483648 9223372036854775808 256 65536 4294967296 18446744073709551616 k
noncomputable def wrapK(kd:IntKind)(z:Int)(k:Int→Bool):Bool:=Int.rec (motive:=fun _=>Bool)
 (fun m=>Bool.rec (motive:=fun _=>Bool) (intK (kd.wrap (.ofNat m)) k) (natK m fun m=>k (.ofNat m)) (Nat.blt m (kmax kd)))
 (fun m=>Bool.rec (motive:=fun _=>Bool) (intK (kd.wrap (.negSucc m)) k) (natK m fun m=>k (.negSucc m)) (ifeV kd.signed (Nat.blt m (kmax kd)) false)) z
theorem wrap_small(kd:IntKind)(z:Int)(h1:z < kmax kd)(h2:0≤z∨(kd.signed=true∧-(kmax kd:Int)≤z)):kd.wrap z=z:=by
 cases kd <;> simp[kmax,IntKind.wrap,IntKind.bits,IntKind.signed] at h1 h2 ⊢ <;> omega
theorem wrapK_eq(kd:IntKind)(z:Int)(k:Int→Bool):wrapK kd z k=k (kd.wrap z):=by
 cases z with
 | ofNat m=>
  show Bool.rec (motive:=fun _=>Bool) (intK (kd.wrap (.ofNat m)) k) (natK m fun m=>k (.ofNat m)) (Nat.blt m (kmax kd))=_
  cases hb:Nat.blt m (kmax kd) with
  | false=>exact intK_eq _ _
  | true=>
   have:=blt_lt hb
   rw[wrap_small kd (.ofNat m) (by simp; omega) (.inl (by simp))]
   exact natK_eq m _
 | negSucc m=>
  show Bool.rec (motive:=fun _=>Bool) (intK (kd.wrap (.negSucc m)) k) (natK m fun m=>k (.negSucc m)) (ifeV kd.signed (Nat.blt m (kmax kd)) false)=_
  cases hs:kd.signed with
  | false=>exact intK_eq _ _
  | true=>
   cases hb:Nat.blt m (kmax kd) with
   | false=>exact intK_eq _ _
   | true=>
    have:=blt_lt hb
    rw[wrap_small kd (.negSucc m) (by have:(Int.negSucc m) < 0:=Int.negSucc_lt_zero m; omega) (.inr ⟨hs,by rw[Int.negSucc_eq]; omega⟩)]
    exact natK_eq m _
noncomputable def iAdd(a b:Int):Int:=Int.rec (motive:=fun _=>Int) (fun m=>Int.rec (motive:=fun _=>Int) (fun n=> .ofNat (Nat.add m n)) (fun n=>Int.add (.ofNat m) (.negSucc n)) b) (fun m=>Int.add (.negSucc m) b) a
noncomputable def iSub(a b:Int):Int:=Int.rec (motive:=fun _=>Int) (fun m=>Int.rec (motive:=fun _=>Int) (fun n=>ifeV (Nat.ble n m) (.ofNat (Nat.sub m n)) (Int.sub (.ofNat m) (.ofNat n))) (fun n=>Int.sub (.ofNat m) (.negSucc n)) b) (fun m=>Int.sub (.negSucc m) b) a
noncomputable def iMul(a b:Int):Int:=Int.rec (motive:=fun _=>Int) (fun m=>Int.rec (motive:=fun _=>Int) (fun n=> .ofNat (Nat.mul m n)) (fun n=>Int.mul (.ofNat m) (.negSucc n)) b) (fun m=>Int.mul (.negSucc m) b) a
noncomputable def iQuo(a b:Int):Int:=Int.rec (motive:=fun _=>Int) (fun m=>Int.rec (motive:=fun _=>Int) (fun n=> .ofNat (Nat.div m n)) (fun n=>Int.tdiv (.ofNat m) (.negSucc n)) b) (fun m=>Int.tdiv (.negSucc m) b) a
noncomputable def iRem(a b:Int):Int:=Int.rec (motive:=fun _=>Int) (fun m=>Int.rec (motive:=fun _=>Int) (fun n=> .ofNat (Nat.mod m n)) (fun n=>Int.tmod (.ofNat m) (.negSucc n)) b) (fun m=>Int.tmod (.negSucc m) b) a
theorem iAdd_eq(a b:Int):iAdd a b=a+b:=by cases a <;> cases b <;> rfl
theorem iSub_eq(a b:Int):iSub a b=a - b:=by
 cases a <;> cases b <;> try rfl
 rename_i m n
 show ifeV (Nat.ble n m) (.ofNat (Nat.sub m n)) (Int.sub (.ofNat m) (.ofNat n))=_
 cases hb:Nat.ble n m with
 | false=>rfl
 | true=>
  have:=ble_le hb
  show Int.ofNat (m - n)=_
  simp; omega
theorem iMul_eq(a b:Int):iMul a b=a * b:=by cases a <;> cases b <;> rfl
theorem iQuo_eq(a b:Int):iQuo a b=a.tdiv b:=by cases a <;> cases b <;> rfl
theorem iRem_eq(a b:Int):iRem a b=a.tmod b:=by cases a <;> cases b <;> rfl
noncomputable def kbits(k:IntKind):Nat:=IntKind.rec (motive:=fun _=>Nat) 8 16 32 64 8 16 32 64 k
theorem kbits_eq(k:IntKind):kbits k=k.bits:=by cases k <;> rfl
noncomputable def iShl(kd:IntKind)(a b:Int):Int:=Int.rec (motive:=fun _=>Int) (fun m=>Int.rec (motive:=fun _=>Int) (fun n=>ifeV (Nat.ble n (kbits kd)) (.ofNat (Nat.mul m (Nat.pow 2 n))) (Int.mul (.ofNat m) (2 ^ (min n kd.bits)))) (fun _=>0) b) (fun m=>Int.mul (.negSucc m) (2 ^ (min b.toNat kd.bits))) a
noncomputable def iShr(kd:IntKind)(a b:Int):Int:=Int.rec (motive:=fun _=>Int) (fun m=>Int.rec (motive:=fun _=>Int) (fun n=>ifeV (Nat.ble n (kbits kd)) (.ofNat (Nat.div m (Nat.pow 2 n))) (Int.fdiv (.ofNat m) (2 ^ (min n kd.bits)))) (fun _=>0) b) (fun m=>Int.fdiv (.negSucc m) (2 ^ (min b.toNat kd.bits))) a
theorem iShl_eq(kd:IntKind)(a b:Int)(hb:0≤b):iShl kd a b=a * 2 ^ (min b.toNat kd.bits):=by
 cases b with
 | negSucc n=>exact absurd hb (by have:=Int.negSucc_lt_zero n; omega)
 | ofNat n=>
  cases a with
  | negSucc m=>rfl
  | ofNat m=>
   show ifeV (Nat.ble n (kbits kd)) (.ofNat (Nat.mul m (Nat.pow 2 n))) (Int.mul (.ofNat m) (2 ^ (min n kd.bits)))=_
   cases hn:Nat.ble n (kbits kd) with
   | false=>rfl
   | true=>
    have:=ble_le hn
    rw[kbits_eq] at this
    show Int.ofNat (m * 2 ^ n)=Int.ofNat m * 2 ^ (min (Int.ofNat n).toNat kd.bits)
    rw[show(Int.ofNat n).toNat=n from rfl,Nat.min_eq_left this]
    simp
theorem iShr_eq(kd:IntKind)(a b:Int)(hb:0≤b):iShr kd a b=a.fdiv (2 ^ (min b.toNat kd.bits)):=by
 cases b with
 | negSucc n=>exact absurd hb (by have:=Int.negSucc_lt_zero n; omega)
 | ofNat n=>
  cases a with
  | negSucc m=>rfl
  | ofNat m=>
   show ifeV (Nat.ble n (kbits kd)) (.ofNat (Nat.div m (Nat.pow 2 n))) (Int.fdiv (.ofNat m) (2 ^ (min n kd.bits)))=_
   cases hn:Nat.ble n (kbits kd) with
   | false=>rfl
   | true=>
    have:=ble_le hn
    rw[kbits_eq] at this
    show Int.ofNat (m / 2 ^ n)=(Int.ofNat m).fdiv (2 ^ (min (Int.ofNat n).toNat kd.bits))
    rw[show(Int.ofNat n).toNat=n from rfl,Nat.min_eq_left this]
    rw[Int.fdiv_eq_ediv_of_nonneg _ (by exact_mod_cast Nat.zero_le (2 ^ n))]
    simp
noncomputable def bitsOp(op:BinOp)(kd:IntKind)(a b:Int):Int:=BinOp.rec (motive:=fun _=>Int) 0 0 0 0 0
 (kd.wrap (BitVec.ofInt kd.bits a &&& BitVec.ofInt kd.bits b).toNat) (kd.wrap (BitVec.ofInt kd.bits a ||| BitVec.ofInt kd.bits b).toNat) (kd.wrap (BitVec.ofInt kd.bits a ^^^ BitVec.ofInt kd.bits b).toNat)
 0 0 (kd.wrap (BitVec.ofInt kd.bits a &&& ~~~ BitVec.ofInt kd.bits b).toNat) 0 0 0 0 0 0 op
noncomputable def bitsF2(op:BinOp)(m n:Nat)(f:Int):Int:=BinOp.rec (motive:=fun _=>Int) f f f f f (.ofNat (Nat.land m n)) (.ofNat (Nat.lor m n)) (.ofNat (Nat.xor m n)) f f f f f f f f f op
noncomputable def iBits(op:BinOp)(kd:IntKind)(a b:Int):Int:=Int.rec (motive:=fun _=>Int)
 (fun m=>Int.rec (motive:=fun _=>Int) (fun n=>ifeV (Nat.blt m (kmax kd)) (ifeV (Nat.blt n (kmax kd)) (bitsF2 op m n (bitsOp op kd (.ofNat m) (.ofNat n))) (bitsOp op kd (.ofNat m) (.ofNat n))) (bitsOp op kd (.ofNat m) (.ofNat n))) (fun n=>bitsOp op kd (.ofNat m) (.negSucc n)) b)
 (fun m=>bitsOp op kd (.negSucc m) b) a
theorem kmax_le(kd:IntKind):kmax kd≤2 ^ kd.bits:=by cases kd <;> simp[kmax,IntKind.bits]
theorem kmax_pow(kd:IntKind): ∃j,kmax kd=2 ^ j:=by
 cases kd
 ·exact⟨7,rfl⟩
 ·exact⟨15,rfl⟩
 ·exact⟨31,rfl⟩
 ·exact⟨63,rfl⟩
 ·exact⟨8,rfl⟩
 ·exact⟨16,rfl⟩
 ·exact⟨32,rfl⟩
 ·exact⟨64,rfl⟩
theorem ofInt_small{w m:Nat}(h:m < 2 ^ w):(BitVec.ofInt w (Int.ofNat m)).toNat=m:=by
 simp[Nat.mod_eq_of_lt h]
theorem iBits_eq(op:BinOp)(kd:IntKind)(a b:Int):iBits op kd a b=bitsOp op kd a b:=by
 cases a with
 | negSucc m=>rfl
 | ofNat m=>
  cases b with
  | negSucc n=>rfl
  | ofNat n=>
   show ifeV (Nat.blt m (kmax kd)) (ifeV (Nat.blt n (kmax kd)) (bitsF2 op m n (bitsOp op kd (.ofNat m) (.ofNat n))) (bitsOp op kd (.ofNat m) (.ofNat n))) (bitsOp op kd (.ofNat m) (.ofNat n))=_
   cases hm:Nat.blt m (kmax kd) with
   | false=>rfl
   | true=>
    cases hn:Nat.blt n (kmax kd) with
    | false=>rfl
    | true=>
     have h1:=blt_lt hm
     have h2:=blt_lt hn
     have h3:=kmax_le kd
     obtain⟨j,hj⟩:=kmax_pow kd
     have a1:=ofInt_small (w:=kd.bits) (m:=m) (by omega)
     have a2:=ofInt_small (w:=kd.bits) (m:=n) (by omega)
     have key : ∀q:Nat,q < kmax kd→kd.wrap (q:Int)=Int.ofNat q:=fun q hq=>wrap_small kd _ (by omega) (.inl (by omega))
     rw[hj] at h1 h2
     show bitsF2 op m n (bitsOp op kd (.ofNat m) (.ofNat n))=_
     cases op <;> try rfl
     ·show Int.ofNat (m &&& n)=kd.wrap _
      rw[BitVec.toNat_and,a1,a2,key _ (by rw[hj]; exact Nat.and_lt_two_pow _ h2)]
     ·show Int.ofNat (m ||| n)=kd.wrap _
      rw[BitVec.toNat_or,a1,a2,key _ (by rw[hj]; exact Nat.or_lt_two_pow h1 h2)]
     ·show Int.ofNat (m ^^^ n)=kd.wrap _
      rw[BitVec.toNat_xor,a1,a2,key _ (by rw[hj]; exact Nat.xor_lt_two_pow h1 h2)]
end ints
section texts
noncomputable def sEq(a:List Nat):List Nat→Bool:=List.rec (motive:=fun _=>List Nat→Bool) (fun b=>List.rec (motive:=fun _=>Bool) true (fun _ _ _=>false) b)
 (fun x _ ih b=>List.rec (motive:=fun _=>Bool) false (fun y t _=>ifeV (Nat.beq x y) (ih t) false) b) a
noncomputable def sLt(a:List Nat):List Nat→Bool:=List.rec (motive:=fun _=>List Nat→Bool) (fun b=>List.rec (motive:=fun _=>Bool) false (fun _ _ _=>true) b)
 (fun x _ ih b=>List.rec (motive:=fun _=>Bool) false (fun y t _=>ifeV (Nat.blt x y) true (ifeV (Nat.beq x y) (ih t) false)) b) a
abbrev Bytes(s:List Nat):Prop:=s.all (fun b=>Nat.blt b 256)=true
theorem bytes_cons{x:Nat}{s:List Nat}:Bytes (x::s)↔x < 256∧Bytes s:=by
 simp only[Bytes,List.all_cons,Bool.and_eq_true]
 exact⟨fun h=>⟨blt_lt h.1,h.2⟩,fun h=>⟨by rw[blt_dec]; simpa using h.1,h.2⟩⟩
theorem bytes_at{s:List Nat}(h:Bytes s): ∀x∈s,x < 256:=fun x hx=>blt_lt (List.all_eq_true.1 h x hx)
theorem bytes_of{s:List Nat}(h : ∀x∈s,x < 256):Bytes s:=List.all_eq_true.2 fun x hx=>by rw[blt_dec]; simpa using h x hx
theorem byte_inj{x y:Nat}(hx:x < 256)(hy:y < 256):UInt8.ofNat x=UInt8.ofNat y↔x=y:=by
 refine⟨fun h=>?_,fun h=>by rw[h]⟩
 have:=congrArg UInt8.toNat h
 simp[UInt8.toNat_ofNat,Nat.mod_eq_of_lt hx,Nat.mod_eq_of_lt hy] at this
 omega
theorem byte_lt{x y:Nat}(hx:x < 256)(hy:y < 256):UInt8.ofNat x < UInt8.ofNat y↔x < y:=by
 rw[UInt8.lt_iff_toNat_lt]
 simp only[UInt8.toNat_ofNat']
 omega
theorem sEq_eq: ∀{a b:List Nat},Bytes a→Bytes b→sEq a b=decide (textOf a=textOf b)
 | [],[],_,_=>rfl
 | [],_::_,_,_=>rfl
 | _::_,[],_,_=>rfl
 | x::a,y::b,ha,hb=>by
  obtain⟨hx,ha⟩:=bytes_cons.1 ha
  obtain⟨hy,hb⟩:=bytes_cons.1 hb
  show ifeV (Nat.beq x y) (sEq a b) false=_
  rw[sEq_eq ha hb,beq_dec]
  have e:(textOf (x::a)=textOf (y::b))↔(x=y∧textOf a=textOf b):=by
   simp only[textOf,List.map_cons,List.cons.injEq,byte_inj hx hy]
  rw[show decide (textOf (x::a)=textOf (y::b))=(decide (x=y) && decide (textOf a=textOf b)) from by rw[←Bool.decide_and]; exact decide_eq_decide.2 e]
  by_cases h:x=y
  ·simp[h,ifeV]
  ·simp[h,ifeV]
theorem sLt_eq: ∀{a b:List Nat},Bytes a→Bytes b→sLt a b=Op.bytesLess (textOf a) (textOf b)
 | [],[],_,_=>rfl
 | [],_::_,_,_=>rfl
 | _::_,[],_,_=>rfl
 | x::a,y::b,ha,hb=>by
  obtain⟨hx,ha⟩:=bytes_cons.1 ha
  obtain⟨hy,hb⟩:=bytes_cons.1 hb
  show ifeV (Nat.blt x y) true (ifeV (Nat.beq x y) (sLt a b) false)=(decide (UInt8.ofNat x < UInt8.ofNat y) || (UInt8.ofNat x == UInt8.ofNat y && Op.bytesLess (textOf a) (textOf b)))
  rw[sLt_eq ha hb,beq_dec,blt_dec]
  have e1:(UInt8.ofNat x == UInt8.ofNat y)=decide (x=y):=by
   rw[show(UInt8.ofNat x == UInt8.ofNat y)=decide (UInt8.ofNat x=UInt8.ofNat y) from rfl]
   simp[byte_inj hx hy]
  rw[e1]
  simp only[byte_lt hx hy]
  by_cases h1:x < y
  ·simp[h1,ifeV]
  ·by_cases h2:x=y
   ·simp[h2,ifeV]
   ·simp[h1,h2,ifeV]
theorem real_str{r:Ren}{s:List Nat}{u:Value}(h:real r (.str s)=some u):Bytes s∧u = .string (B (textOf s)):=by
 rw[real] at h
 split at h
 ·rename_i h1; cases h; exact⟨h1,rfl⟩
 ·cases h
theorem str_real{r:Ren}{s:List Nat}(h:Bytes s):real r (.str s)=some (.string (B (textOf s))):=by rw[real]; exact if_pos h
theorem text_len(s:List Nat):(textOf s).length=s.length:=by simp[textOf]
theorem text_app(a b:List Nat):textOf (a++b)=textOf a++textOf b:=by simp[textOf]
end texts
end Go.Proofs.YtbhbdeelpopgoaaGreatDoor.E

namespace Go.Proofs.YtbhbdeelpopgoaaGreatDoor.E
open Go Go.RowKit H
section consts
noncomputable def ofV1(v:Value):Option AV:=match v with
 | .bool b=>some (.bool b)
 | .int k n=>some (.int k n)
 | .string s=>some (.str (s.data.toList.map (·.toNat)))
 | .pointer none=>some .nilp
 | .slice none 0 0=>some .nils
 | .map none=>some .nilm
 | .nilFunc=>some .nilf
 | .nilIface=>some .nili
 | _=>none
noncomputable def ofVs(l:List Value):Option (List AV):=List.rec (motive:=fun _=>Option (List AV)) (some []) (fun v _ ih=>match ofV1 v with
 | some a=>(match ih with|some l=>some (a::l)|none=>none)
 | none=>none) l
noncomputable def ofV(v:Value):Option AV:=match v with
 | .agg cs=>(match ofVs cs.toList with|some l=>some (.agg l)|none=>none)
 | v=>ofV1 v
theorem bytes_toNat(s:List UInt8):Bytes (s.map (·.toNat)):=bytes_of fun x hx=>by
 obtain⟨b,_,rfl⟩:=List.mem_map.1 hx
 exact b.toNat_lt
theorem text_toNat(s:List UInt8):textOf (s.map (·.toNat))=s:=by
 rw[textOf,List.map_map]
 exact(List.map_congr_left fun b _=>by simp).trans (List.map_id s)
theorem ofV1_ok{v:Value}{a:AV}(h:ofV1 v=some a)(r:Ren):real r a=some v:=by
 unfold ofV1 at h
 split at h
 case h_3 s=>
  cases h
  rw[str_real (bytes_toNat _),text_toNat]
 all_goals first|(cases h; rfl)|cases h
theorem ofVs_ok: ∀{l:List Value} {a:List AV} (_:ofVs l=some a) (r:Ren),reals r a=some l
 | [],_,h,r=>by cases h; exact reals_nil
 | v::l,a,h,r=>by
  have h:(match ofV1 v with|some a=>(match ofVs l with|some l=>some (a::l)|none=>none)|none=>none)=some a:=h
  split at h
  ·rename_i x hx
   split at h
   ·rename_i y hy
    cases h
    exact reals_cons.2 ⟨v,l,ofV1_ok hx r,ofVs_ok hy r,rfl⟩
   ·cases h
  ·cases h
theorem ofV_ok{v:Value}{a:AV}(h:ofV v=some a)(r:Ren):real r a=some v:=by
 unfold ofV at h
 split at h
 ·split at h
  ·rename_i cs l hl
   cases h
   simp only[real,ofVs_ok hl r,Option.map_some]
  ·cases h
 ·exact ofV1_ok h r
end consts
noncomputable def getV(t:Nat)(env:Tr AV)(k:AV→Bool):Bool:=Tr.getK (bits t) env fun o=>someK o k
theorem getV_ok{t:Nat}{env:Tr AV}{k:AV→Bool}(h:getV t env k=true): ∃v,Tr.get (bits t) env=some v∧k v=true:=by
 unfold getV at h
 rw[Tr.getK_eq] at h
 exact someK_ok h
noncomputable def atK(h:Hp)(i:Nat)(k:Blk→Bool):Bool:=Hp.rec (motive:=fun _=>Bool) (fun _ t=>Tr.getK (bits i) t fun o=>someK o k) h
theorem atK_ok{h:Hp}{i:Nat}{k:Blk→Bool}(hk:atK h i k=true): ∃b,h.at i=some b∧k b=true:=by
 cases h with
 | mk n t=>
  replace hk:Tr.getK (bits i) t (fun o=>someK o k)=true:=hk
  rw[Tr.getK_eq] at hk
  exact someK_ok hk
section
variable (P : Program) (fl : Nat)
noncomputable def evK(h:Hp)(env:Tr AV)(x:Operand)(k:AV→Bool):Bool:=Operand.rec (motive:=fun _=>Bool)
 (fun t=>ask (Nat.blt t 4096) (getV t env k)) (fun v=>someK (ofV v) k) (fun g=>ask (Nat.blt g fl) (ask (Nat.blt g GLB) (atK h g fun _=>k (.ptr g 0)))) (fun f=>k (.fn (.func f) [] [])) x
noncomputable def evsK(h:Hp)(env:Tr AV)(l:List Operand):(List AV→Bool)→Bool:=List.rec (motive:=fun _=>(List AV→Bool)→Bool) (fun k=>k []) (fun x _ ih k=>evK fl h env x fun v=>ih fun vs=>k (v::vs)) l
end
section
variable {P : Program} {fl : Nat}
def Ev(fl:Nat)(env:Tr AV)(h:Hp)(v:AV)(val:Fr→Option Value):Prop:=∀S w0 r f w,FrOk r env f→Rel S w0 fl r h w→∃u,real r v=some u∧val f=some u
theorem evK_ok{h:Hp}{env:Tr AV}{x:Operand}{k:AV→Bool}(hk:evK fl h env x k=true): ∃v,k v=true∧Ev fl env h v fun f=>f.ev x:=by
 cases x with
 | tmp t=>
  obtain⟨h1,h2⟩:=ask_ok hk
  obtain⟨v,hv,h3⟩:=getV_ok h2
  have:=blt_lt h1
  exact⟨v,h3,fun S w0 r f w hf _=>hf t v (Nat.lt_of_lt_of_le this (by decide)) hv⟩
 | const c=>
  obtain⟨v,hv,h3⟩:=someK_ok hk
  exact⟨v,h3,fun S w0 r f w _ _=>⟨c,ofV_ok hv r,rfl⟩⟩
 | global g=>
  obtain⟨h1,h2⟩:=ask_ok hk
  obtain⟨h1,h2⟩:=ask_ok h2
  obtain⟨b,hb,h3⟩:=atK_ok h2
  refine⟨_,h3,fun S w0 r f w _ hR=>?_⟩
  have hlt:=blt_lt h1
  obtain⟨p,hp,_⟩:=hR.live g b (Nat.lt_of_lt_of_le hlt hR.base.2) hb
  have:=hR.glob g p hlt hp
  refine⟨.pointer (some ⟨p.1,0,none⟩),by simp[real,hp],by simp[Fr.ev,this]⟩
 | func f=>exact⟨_,hk,fun S w0 r fr w _ _=>⟨_,by simp[real,reals],rfl⟩⟩
theorem evsK_ok{h:Hp}{env:Tr AV}: ∀{l:List Operand} {k:List AV→Bool},evsK fl h env l k=true→∃vs,k vs=true∧∀S w0 r f w,FrOk r env f→Rel S w0 fl r h w→∃us,reals r vs=some us∧∀a,Ag f a→l.map a.eval=us
 | [],k,hk=>⟨[],hk,fun _ _ _ _ _ _ _=>⟨[],reals_nil,fun _ _=>rfl⟩⟩
 | x::l,k,hk=>by
  obtain⟨v,h1,h2⟩:=evK_ok (x:=x) hk
  obtain⟨vs,h3,h4⟩:=evsK_ok (l:=l) h1
  refine⟨v::vs,h3,fun S w0 r f w hf hR=>?_⟩
  obtain⟨u,hu,hx⟩:=h2 S w0 r f w hf hR
  obtain⟨us,hus,hl⟩:=h4 S w0 r f w hf hR
  exact⟨u::us,reals_cons.2 ⟨u,us,hu,hus,rfl⟩,fun a ha=>by rw[List.map_cons,ha.eval hx,hl a ha]⟩
def Bi(P:Program)(op:BinOp)(t:TypeId)(x y z:AV):Prop:=∀(r:Ren) (u v:Value) (w:World),real r x=some u→real r y=some v→∃q,real r z=some q∧(binOp op t u v).run P w = .ok q w
noncomputable def intBin(op:BinOp)(i:IntKind)(a b:Int)(k:AV→Bool):Bool:=BinOp.rec (motive:=fun _=>Bool)
 (wrapK i (iAdd a b) fun z=>k (.int i z)) (wrapK i (iSub a b) fun z=>k (.int i z)) (wrapK i (iMul a b) fun z=>k (.int i z))
 (ife (iEq b 0) false (wrapK i (iQuo a b) fun z=>k (.int i z))) (ife (iEq b 0) false (intK (iRem a b) fun z=>k (.int i z)))
 (intK (iBits .and i a b) fun z=>k (.int i z)) (intK (iBits .or i a b) fun z=>k (.int i z)) (intK (iBits .xor i a b) fun z=>k (.int i z))
 false false (intK (iBits .andNot i a b) fun z=>k (.int i z))
 (boolK (iEq a b) fun z=>k (.bool z)) (boolK (iEq a b) fun z=>k (.bool (not z))) (boolK (iLt a b) fun z=>k (.bool z)) (boolK (iLt b a) fun z=>k (.bool (not z))) (boolK (iLt b a) fun z=>k (.bool z)) (boolK (iLt a b) fun z=>k (.bool (not z))) op
theorem not_lt_dec(a b:Int):decide (a≤b) = !decide (b < a):=by
 by_cases h:a≤b
 ·have : ¬b < a:=by omega
  simp[h,this]
 ·have:b < a:=by omega
  simp[h,this]
theorem intBin_ok{op:BinOp}{i:IntKind}{a b:Int}{k:AV→Bool}(h:intBin op i a b k=true)(t:TypeId): ∃z,k z=true∧Bi P op t (.int i a) (.int i b) z:=by
 have fin : ∀(z:AV) (q:Value),(∀r,real r z=some q)→(∀w,(binOp op t (.int i a) (.int i b)).run P w = .ok q w)→k z=true→∃z,k z=true∧Bi P op t (.int i a) (.int i b) z:=by
  intro z q h1 h2 h3
  refine⟨z,h3,fun r u v w hu hv=>?_⟩
  simp only[real,Option.some.injEq] at hu hv
  subst hu hv
  exact⟨q,h1 r,h2 w⟩
 cases op
 case add=>rw[show intBin .add i a b k=wrapK i (iAdd a b) fun z=>k (.int i z) from rfl,wrapK_eq,iAdd_eq] at h; exact fin _ _ (fun _=>rfl) (fun w=>by simp[binOp,Op.intArith]) h
 case sub=>rw[show intBin .sub i a b k=wrapK i (iSub a b) fun z=>k (.int i z) from rfl,wrapK_eq,iSub_eq] at h; exact fin _ _ (fun _=>rfl) (fun w=>by simp[binOp,Op.intArith]) h
 case mul=>rw[show intBin .mul i a b k=wrapK i (iMul a b) fun z=>k (.int i z) from rfl,wrapK_eq,iMul_eq] at h; exact fin _ _ (fun _=>rfl) (fun w=>by simp[binOp,Op.intArith]) h
 case quo=>
  rcases ife_ok (b:=iEq b 0) h with ⟨_,h⟩|⟨h0,h⟩
  ·cases h
  ·rw[iEq_eq] at h0
   have h0:b≠0:=by simpa using h0
   rw[wrapK_eq,iQuo_eq] at h
   exact fin _ _ (fun _=>rfl) (fun w=>by simp[binOp,Op.intDiv,h0]) h
 case rem=>
  rcases ife_ok (b:=iEq b 0) h with ⟨_,h⟩|⟨h0,h⟩
  ·cases h
  ·rw[iEq_eq] at h0
   have h0:b≠0:=by simpa using h0
   rw[intK_eq,iRem_eq] at h
   exact fin _ _ (fun _=>rfl) (fun w=>by simp[binOp,Op.intDiv,h0]) h
 case and=>rw[show intBin .and i a b k=intK (iBits .and i a b) fun z=>k (.int i z) from rfl,intK_eq,iBits_eq] at h; exact fin _ _ (fun _=>rfl) (fun w=>by simp[binOp,Op.intBits,bitsOp]) h
 case or=>rw[show intBin .or i a b k=intK (iBits .or i a b) fun z=>k (.int i z) from rfl,intK_eq,iBits_eq] at h; exact fin _ _ (fun _=>rfl) (fun w=>by simp[binOp,Op.intBits,bitsOp]) h
 case xor=>rw[show intBin .xor i a b k=intK (iBits .xor i a b) fun z=>k (.int i z) from rfl,intK_eq,iBits_eq] at h; exact fin _ _ (fun _=>rfl) (fun w=>by simp[binOp,Op.intBits,bitsOp]) h
 case andNot=>rw[show intBin .andNot i a b k=intK (iBits .andNot i a b) fun z=>k (.int i z) from rfl,intK_eq,iBits_eq] at h; exact fin _ _ (fun _=>rfl) (fun w=>by simp[binOp,Op.intBits,bitsOp]) h
 case shl=>cases h
 case shr=>cases h
 case eql=>rw[show intBin .eql i a b k=boolK (iEq a b) fun z=>k (.bool z) from rfl,boolK_eq,iEq_eq] at h; exact fin _ _ (fun _=>rfl) (fun w=>by simp[binOp,Op.intCmp,BEq.beq]) h
 case neq=>rw[show intBin .neq i a b k=boolK (iEq a b) fun z=>k (.bool (not z)) from rfl,boolK_eq,iEq_eq] at h; exact fin _ _ (fun _=>rfl) (fun w=>by simp[binOp,Op.intCmp,bne,BEq.beq]) h
 case lss=>rw[show intBin .lss i a b k=boolK (iLt a b) fun z=>k (.bool z) from rfl,boolK_eq,iLt_eq] at h; exact fin _ _ (fun _=>rfl) (fun w=>by simp[binOp,Op.intCmp]) h
 case leq=>rw[show intBin .leq i a b k=boolK (iLt b a) fun z=>k (.bool (not z)) from rfl,boolK_eq,iLt_eq] at h; exact fin _ _ (fun _=>rfl) (fun w=>by simp[binOp,Op.intCmp,not_lt_dec]) h
 case gtr=>rw[show intBin .gtr i a b k=boolK (iLt b a) fun z=>k (.bool z) from rfl,boolK_eq,iLt_eq] at h; exact fin _ _ (fun _=>rfl) (fun w=>by simp[binOp,Op.intCmp]) h
 case geq=>rw[show intBin .geq i a b k=boolK (iLt a b) fun z=>k (.bool (not z)) from rfl,boolK_eq,iLt_eq] at h; exact fin _ _ (fun _=>rfl) (fun w=>by simp[binOp,Op.intCmp,not_lt_dec]) h
noncomputable def isShift(op:BinOp):Bool:=BinOp.rec (motive:=fun _=>Bool) false false false false false false false false true true false false false false false false false op
noncomputable def shiftK(op:BinOp)(i:IntKind)(a b:Int)(k:AV→Bool):Bool:=ife (iLt b 0) false (BinOp.rec (motive:=fun _=>Bool) no no no no no no no no (wrapK i (iShl i a b) fun z=>k (.int i z)) (intK (iShr i a b) fun z=>k (.int i z)) no no no no no no no op)
theorem shiftK_ok{op:BinOp}{i:IntKind}{a b:Int}{k:AV→Bool}(h:shiftK op i a b k=true)(j:IntKind)(t:TypeId): ∃z,k z=true∧Bi P op t (.int i a) (.int j b) z:=by
 have fin : ∀(z:AV) (q:Value),(∀r,real r z=some q)→(∀w,(binOp op t (.int i a) (.int j b)).run P w = .ok q w)→k z=true→∃z,k z=true∧Bi P op t (.int i a) (.int j b) z:=by
  intro z q h1 h2 h3
  refine⟨z,h3,fun r u v w hu hv=>?_⟩
  simp only[real,Option.some.injEq] at hu hv
  subst hu hv
  exact⟨q,h1 r,h2 w⟩
 rcases ife_ok (b:=iLt b 0) h with ⟨_,h⟩|⟨h0,h⟩
 ·cases h
 rw[iLt_eq] at h0
 have h0 : ¬b < 0:=by simpa using h0
 cases op <;> try (cases h; done)
 ·replace h:(wrapK i (iShl i a b) fun z=>k (.int i z))=true:=h
  rw[wrapK_eq,iShl_eq _ _ _ (by omega)] at h
  exact fin _ _ (fun _=>rfl) (fun w=>by simp[binOp,Op.shift,h0]) h
 ·replace h:(intK (iShr i a b) fun z=>k (.int i z))=true:=h
  rw[intK_eq,iShr_eq _ _ _ (by omega)] at h
  exact fin _ _ (fun _=>rfl) (fun w=>by simp[binOp,Op.shift,h0]) h
noncomputable def strBin(op:BinOp)(a b:List Nat)(k:AV→Bool):Bool:=BinOp.rec (motive:=fun _=>Bool)
 (appK a b fun l=>ask (Nat.ble (lenN l) 1000000000000) (k (.str l))) no no no no no no no no no no
 (boolK (sEq a b) fun z=>k (.bool z)) (boolK (sEq a b) fun z=>k (.bool (not z))) (boolK (sLt a b) fun z=>k (.bool z)) (boolK (sLt b a) fun z=>k (.bool (not z))) (boolK (sLt b a) fun z=>k (.bool z)) (boolK (sLt a b) fun z=>k (.bool (not z))) op
where
 appK (a b:List Nat):(List Nat→Bool)→Bool:=List.rec (motive:=fun _=>(List Nat→Bool)→Bool) (fun k=>k b) (fun x _ ih k=>hop ih (consK k x)) a
 lenN (l:List Nat):Nat:=List.rec (motive:=fun _=>Nat) 0 (fun _ _ n=>Nat.succ n) l
end
end Go.Proofs.YtbhbdeelpopgoaaGreatDoor.E

