/-
  Calls that take and yield values without addresses: a table of them, each evaluated by itself.
-/
import Derived.Test.YtbhbdeelpopgoaaGreatDoorQg
import Derived.Test.YtbhbdeelpopgoaaGreatDoorQi
set_option linter.unusedVariables false
set_option linter.unusedSimpArgs false
set_option linter.constructorNameAsVariable false
set_option linter.unusedVariables false
namespace Go.Proofs.YtbhbdeelpopgoaaGreatDoor.E
open Go Go.RowKit H
def ValOk(P:Program)(f:FuncId)(x:List AV×AV):Prop:=∀(r:Ren) (w:World) xs,reals r x.1=some xs→Calls P f xs.toArray w fun e w'=>∃u,e = .returned u∧K0 w w'∧real r x.2=some u
noncomputable def valB(call:CallF)(f:FuncId)(x:List AV×AV)(b:Bool):Bool:=ask (flats x.1) (ask (flatA x.2) (call f x.1 ⟨100,.e⟩ (fun v _=>ask (avEq v x.2) b) (fun _ _=>false)))
theorem valB_ok{P:Program}{call:CallF}(hc:CallOk P 100 call){f:FuncId}{x:List AV×AV}(hk:valB call f x true=true):ValOk P f x:=by
 obtain⟨h1,hk⟩:=ask_ok hk
 obtain⟨h2,hk⟩:=ask_ok hk
 rcases hc _ _ _ _ _ hk with ⟨v,h',hv,hC⟩|⟨_,_,hk,_⟩
 ·have hv:=avEq_ok _ _ (ask_ok hv).1
  subst hv
  intro r w xs hxs
  refine(hC _ w (rE sg0) w xs (relE _ w) (flats_real _ _ h1 hxs)).mono ?_
  rintro e w' ⟨r',u,rfl,hx,hR',hu⟩
  exact⟨u,rfl,hR'.kept,flat_real _ _ h2 hu⟩
 ·cases hk
noncomputable def valP(T:List (List AV×AV))(vs:List AV)(_:Hp)(k:AV→Bool):Bool:=List.rec (motive:=fun _=>Bool) false (fun x _ ih=>Prod.rec (motive:=fun _=>Bool) (fun a b=>ife (avEq (.agg vs) (.agg a)) (k b) ih) x) T
theorem valP_ok{P:Program}{fl:Nat}{f:FuncId}{T:List (List AV×AV)}(hT : ∀x∈T,ValOk P f x):Pr1 P fl f fun _ vs h kr _=>valP T vs h fun v=>kr v h:=by
 refine Pr1.val fun vs h k hk=>?_
 induction T with
 | nil=>cases hk
 | cons x T ih=>
  obtain⟨a,b⟩:=x
  rcases ife_ok (b:=avEq (.agg vs) (.agg a)) hk with ⟨h1,hk2⟩|⟨_,hk2⟩
  ·have h1:=avEq_ok _ _ h1
   injection h1 with h1
   subst h1
   exact⟨b,hk2,fun S w0 r w xs _ hxs=>hT _ List.mem_cons_self r w xs hxs⟩
  ·exact ih (fun y hy=>hT y (List.mem_cons_of_mem _ hy)) hk2
end Go.Proofs.YtbhbdeelpopgoaaGreatDoor.E

