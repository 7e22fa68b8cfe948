/-
  The best of rows, plain; the law walked: of any versions the greatest one that a span has is locked, or none fits. The law walked: of any versions the greatest one that a span has is locked, or none fits. solve.Solve over opaque rows: run at each set of versions that may be there; each comes to the same. Short words for states.
-/
import Derived.Test.YtbhbdeelpopgoaaGreatDoorQi
import Derived.Test.YtbhbdeelpopgoaaGreatDoorQh
set_option linter.unusedVariables false
set_option linter.unusedSimpArgs false
set_option linter.constructorNameAsVariable false
set_option linter.unusedVariables false
namespace Go.Proofs.YtbhbdeelpopgoaaGreatDoor.E
open Go Go.RowKit H
set_option maxRecDepth 100000
def bstS(k:Nat)(b:Option Nat)(s:Nat):Option Nat:=match b with
 | none=>if fitB k s=true then some s else none
 | some t=>if fitB k s=true∧rk t < rk s then some s else some t
def bstF(k:Nat)(L:List Nat):Option Nat:=L.foldl (bstS k) none
theorem bstF_snoc(k:Nat)(L:List Nat)(s:Nat):bstF k (L++[s])=bstS k (bstF k L) s:=by simp[bstF]
theorem rev_ind{α:Type}{p:List α→Prop}(h0:p [])(hs : ∀l a,p l→p (l++[a]))(l:List α):p l:=by
 have : ∀l:List α,p l.reverse:=by
  intro l
  induction l with
  | nil=>exact h0
  | cons a l ih=>rw[List.reverse_cons]; exact hs _ _ ih
 have h:=this l.reverse
 rwa [List.reverse_reverse] at h
theorem bst_spec(k:Nat)(L:List Nat):match bstF k L with
  | none=>∀s∈L,fitB k s=false
  | some t=>t∈L∧fitB k t=true∧∀s∈L,fitB k s=true→rk s≤rk t:=by
 refine rev_ind (p:=fun L=>match bstF k L with
  | none=>∀s∈L,fitB k s=false
  | some t=>t∈L∧fitB k t=true∧∀s∈L,fitB k s=true→rk s≤rk t) ?_ ?_ L
 ·intro s hs; cases hs
 ·intro L s ih
  show match bstF k (L++[s]) with
   | none=>∀z∈L++[s],fitB k z=false
   | some t=>t∈L++[s]∧fitB k t=true∧∀z∈L++[s],fitB k z=true→rk z≤rk t
  rw[bstF_snoc]
  cases hb:bstF k L with
  | none=>
   rw[hb] at ih
   replace ih : ∀s∈L,fitB k s=false:=ih
   unfold bstS
   by_cases hf:fitB k s=true
   ·simp only[if_pos hf]
    exact⟨by simp,hf,fun z hz hzf=>by
     rcases List.mem_append.1 hz with hz|hz
     ·rw[ih z hz] at hzf; cases hzf
     ·rw[List.mem_singleton.1 hz]; exact Nat.le_refl _⟩
   ·simp only[if_neg hf]
    intro z hz
    rcases List.mem_append.1 hz with hz|hz
    ·exact ih z hz
    ·rw[List.mem_singleton.1 hz]; simpa using hf
  | some t=>
   rw[hb] at ih
   replace ih:t∈L∧fitB k t=true∧∀s∈L,fitB k s=true→rk s≤rk t:=ih
   obtain⟨h1,h2,h3⟩:=ih
   unfold bstS
   by_cases hf:fitB k s=true∧rk t < rk s
   ·simp only[if_pos hf]
    exact⟨by simp,hf.1,fun z hz hzf=>by
     rcases List.mem_append.1 hz with hz|hz
     ·have:=h3 z hz hzf; omega
     ·rw[List.mem_singleton.1 hz]; exact Nat.le_refl _⟩
   ·simp only[if_neg hf]
    exact⟨by simp[h1],h2,fun z hz hzf=>by
     rcases List.mem_append.1 hz with hz|hz
     ·exact h3 z hz hzf
     ·have e:=List.mem_singleton.1 hz
      subst e
      have : ¬rk t < rk z:=fun c=>hf ⟨hzf,c⟩
      omega⟩
def bstI(k:Nat)(L M:List Nat):Int:=match bstF k M with
 | none=>-1
 | some s=>plI L s
def bmask:Nat→Option Nat→List Nat
 | k,none=>[64 * fitM k]
 | k,some s=>let c:=2 ^ s+(([0,1,2,3,4,5].filter fun t=>fitB k t && decide (rk s < rk t)).map fun t=>2 ^ (6+t)).sum
  if k=7∧s=2 then [c+16,c+1024] else [c]
theorem bmask_none: ∀k,k < 10→∀c∈bmask k none,∀s,s < 6→c.testBit s=false∧(c.testBit (6+s)=true→fitB k s=true):=by decide +kernel
theorem bmask_fin:([0,1,2,3,4,5,6,7,8,9].all fun k=>[0,1,2,3,4,5].all fun t=>(bmask k (some t)).all fun c=>[0,1,2,3,4,5].all fun s=>!fitB k t || ((!c.testBit s || decide (s=t∨(s=4∧c.testBit 4=true∧k=7∧t=2))) && (!c.testBit (6+s) || decide ((fitB k s=true∧rk t < rk s)∨(s=4∧c.testBit 10=true∧k=7∧t=2)))))=true:=by decide +kernel
theorem bmask_some(k:Nat)(hk:k < 10)(t:Nat)(ht:t < 6)(hf:fitB k t=true)(c:Nat)(hc:c∈bmask k (some t))(s:Nat)(hs:s < 6):(c.testBit s=true→s=t∨(s=4∧c.testBit 4=true∧k=7∧t=2))∧(c.testBit (6+s)=true→(fitB k s=true∧rk t < rk s)∨(s=4∧c.testBit 10=true∧k=7∧t=2)):=by
 have h1:=List.all_eq_true.1 bmask_fin k (by simp; omega)
 have h2:=List.all_eq_true.1 h1 t (by simp; omega)
 have h3:=List.all_eq_true.1 h2 c hc
 have h4:=List.all_eq_true.1 h3 s (by simp; omega)
 rw[hf] at h4
 simp only[Bool.not_true,Bool.false_or,Bool.and_eq_true,Bool.or_eq_true,Bool.not_eq_true',decide_eq_true_eq] at h4
 refine⟨fun e=>?_,fun e=>?_⟩
 ·rcases h4.1 with z|z
  ·rw[e] at z; cases z
  ·exact z
 ·rcases h4.2 with z|z
  ·rw[e] at z; cases z
  ·exact z
theorem bmask_ok{k:Nat}(hk:k < 10){L:List Nat}(h6 : ∀s∈L,s < 6): ∃c∈bmask k (bstF k L),∀s,s < 6→(c.testBit s=true→s∈L)∧(c.testBit (6+s)=true→s∉L):=by
 have hsp:=bst_spec k L
 cases hb:bstF k L with
 | none=>
  rw[hb] at hsp
  replace hsp : ∀s∈L,fitB k s=false:=hsp
  refine⟨_,List.mem_singleton.2 rfl,fun s hs=>?_⟩
  obtain⟨m1,m2⟩:=bmask_none k hk _ (List.mem_singleton.2 rfl) s hs
  exact⟨fun e=>(by rw[m1] at e; cases e),fun e m=>by rw[hsp s m] at m2; exact absurd (m2 e) (by simp)⟩
 | some t=>
  rw[hb] at hsp
  obtain⟨h1,h2,h3⟩:t∈L∧fitB k t=true∧∀s∈L,fitB k s=true→rk s≤rk t:=hsp
  have ht:=h6 t h1
  have base : ∀c∈bmask k (some t),(c.testBit 4=true→k=7→t=2→4∈L)→(c.testBit 10=true→k=7→t=2→4∉L)→∀s,s < 6→(c.testBit s=true→s∈L)∧(c.testBit (6+s)=true→s∉L):=fun c hc q1 q2 s hs=>by
   obtain⟨m1,m2⟩:=bmask_some k hk t ht h2 c hc s hs
   refine⟨fun e=>?_,fun e m=>?_⟩
   ·rcases m1 e with rfl|⟨rfl,e4,e7,e2⟩
    ·exact h1
    ·exact q1 e4 e7 e2
   ·rcases m2 e with ⟨f1,f2⟩|⟨rfl,e4,e7,e2⟩
    ·have:=h3 s m f1; omega
    ·exact q2 e4 e7 e2 m
  by_cases hc:k=7∧t=2
  ·obtain⟨rfl,rfl⟩:=hc
   by_cases h4:4∈L
   ·refine⟨(bmask 7 (some 2))[0]!,by decide +kernel,base _ (by decide +kernel) (fun _ _ _=>h4) fun e=>?_⟩
    exact absurd e (by decide +kernel)
   ·refine⟨(bmask 7 (some 2))[1]!,by decide +kernel,base _ (by decide +kernel) (fun e=>?_) fun _ _ _=>h4⟩
    exact absurd e (by decide +kernel)
  ·obtain⟨c,hcm⟩ : ∃c,c∈bmask k (some t):=by
    show ∃c,c∈(if k=7∧t=2 then _ else _)
    rw[if_neg hc]
    exact⟨_,List.mem_singleton.2 rfl⟩
   exact⟨c,hcm,base c hcm (fun _ e7 e2=>absurd ⟨e7,e2⟩ hc) fun _ e7 e2=>absurd ⟨e7,e2⟩ hc⟩
structure TailsOk:Prop where
 fitN : ∀k,k < 10→∀c∈bmask k none,∀w a t,Begun w c a t→TailN k w a t
 fitS : ∀k,k < 10→∀s,s < 6→fitB k s=true→∀c∈bmask k (some s),∀w a t,Begun w c a t→TailS k s w a t
 nil : ∀k,k < 10→∀w,Wf w→Calls P0 10 #[.slice none 0 0] w fun e w1=>∃x:Value,e = .returned x∧K0 w w1∧∀w2,K0 w1 w2→Calls P0 11 #[x,cmdIv] w2 fun e w3=>∃y,e = .returned y∧K0 w w3∧∀w4,K0 w3 w4→Calls P0 11 #[x,cmdAv k] w4 fun e w5=>e = .returned (.int .i64 70)∧K0 w w5
theorem Wf.keep{w w':World}(h:Wf w)(k:K0 w w'):Wf w':=by
 obtain⟨fz,e1⟩:=h.e1
 refine⟨?_,⟨fz,k.at0 e1⟩,Nat.lt_of_lt_of_le h.sz k.size⟩
 obtain⟨m,hm⟩:=h.m0
 refine⟨m,?_⟩
 have hlt:0 < w.heap.size:=Nat.lt_of_le_of_lt (by decide) h.sz
 simp only[World.cell?] at hm ⊢
 rw[k.block _ hlt fun c=>c]
 exact hm
attribute [local irreducible] H.CL H.RW H.CW H.Yd H.thenK H.blockQ Go.Calls
theorem initK:y0R [] 12 [.int .u8 (.ofNat 0)] cmdI=true:=by kernel_rfl
theorem initCall{w:World}:Calls P0 12 #[.int .u8 0] w fun e w'=>e = .returned cmdIv∧K0 w w':=
 (y0Call (no_tab _) sg0 initK rfl (xs:=[.int .u8 0]) (reals_cons.2 ⟨_,_,rfl,reals_nil,rfl⟩)).mono fun e w' ⟨x,e1,hk,hx⟩=>by
  have:=(hx (rE sg0)).symm.trans (cmdI_real _)
  cases this
  exact⟨e1,hk⟩
def RestOk(k:Nat)(w:World)(x:Value)(K:Value→Value→World→Prop)(w1:World):Prop:=∀w2,K0 w1 w2→Calls P0 11 #[x,cmdIv] w2 fun e w3=>∃y,e = .returned y∧K0 w w3∧∀w4,K0 w3 w4→Calls P0 11 #[x,cmdAv k] w4 fun e w5=>∃y,e = .returned y∧K0 w w5∧K x y w5
theorem lifeCall(hO:OfOk){w:World}(hw:Wf w){v:Value}{ws:List Nat}(hv:Sl w 5 v ws.length (ws.flatMap lawC))(h2 : ∀x∈ws,x < 256)(hl:ws.length≤8)(hne:ws≠[]){k c:Nat}(hc : ∀s,s < 6→(c.testBit s=true→s∈ddAcc [] ws)∧(c.testBit (6+s)=true→s∉ddAcc [] ws)){K:World→Value→Value→World→Prop}(hT : ∀w a t,Begun w c a t→RunsOk k w a t (K w)):Calls Tryz.prog 10 #[v] w fun e w'=>∃w1 x ad,x = .pointer (some ad)∧e = .returned x∧K0 w w1∧K0 w1 w'∧RestOk k w1 x (K w1) w':=by
 have hL6 : ∀s∈ddAcc [] ws,s < 6:=ddAcc_lt fun s hs=>by cases hs
 have hLn:(ddAcc [] ws).Nodup:=ddAcc_nodup (by simp)
 have hLne:ddAcc [] ws≠[]:=ddAcc_ne (.inr hne)
 have hsz:=hw.sz
 refine H.enter Tryz.func10 Tryz.ntmps10 rfl rfl ?_; dsimp only[H.args]
 repeat' (first|(refine CL.seq ?_)|(refine CL.region ?_)|(refine Gt.nil ?_; refine RW.nilw [0,2,4,5,6,8,27] ?_; dsimp only[H.keep,H.look,H.Fr.put,Nat.beq])|(refine Gt.assign ?_; refine RW.y (Y.assign rfl) rfl ?_)|(refine Gt.move ?_; refine RW.y (Y.move rfl) rfl ?_))
 refine RW.fn rfl rfl ((made hO hv h2 hl).mono ?_)
 rintro e w1 ⟨hk1,u,a,q,f,rfl,hI⟩
 have hbg:Begun w1 c a (.string (B (rowsT (ddAcc [] ws)))):=begun (hw.keep hk1) hLne hL6 hLn (by omega) hI.arcs hI.each hc
 have hr:=hT w1 a _ hbg
 repeat' (first|(refine CL.seq ?_)|(refine CL.region ?_)|(refine Gt.nil ?_; refine RW.nilw [0,2,4,5,6,8,27] ?_; dsimp only[H.keep,H.look,H.Fr.put,Nat.beq])|(refine Gt.assign ?_; refine RW.y (Y.assign rfl) rfl ?_)|(refine Gt.move ?_; refine RW.y (Y.move rfl) rfl ?_)|(refine Gt.extract ?_; refine RW.y (Y.extract rfl rfl) rfl ?_))
 refine RW.fn rfl rfl (hr.mono ?_)
 rintro e w2 ⟨x,l,ad,rfl,rfl,hk2,hrest⟩
 repeat' (first|(refine CL.seq ?_)|(refine CL.region ?_)|(refine CL.skip ?_)|(refine CL.condP rfl (fun _=>?_) (fun _=>?_) <;> try (exfalso; omega))|(refine CL.ret ?_)|(refine Gt.nil ?_; refine RW.nilw [0,2,4,5,6,8,27] ?_; dsimp only[H.keep,H.look,H.Fr.put,Nat.beq])|(refine Gt.assign ?_; refine RW.y (Y.assign rfl) rfl ?_)|(refine Gt.guard ?_; (refine RW.on rfl rfl rfl ?_))|(refine Gt.move ?_; refine RW.y (Y.move rfl) rfl ?_)|(refine Gt.extract ?_; refine RW.y (Y.extract rfl rfl) rfl ?_)|(refine Gt.eql ?_; refine RW.y (Y.eqpn rfl rfl) rfl ?_)|(refine Gt.neq ?_; refine RW.y (Y.nei rfl rfl) rfl ?_)|(refine Gt.pick ?_; (refine RW.y (Y.pickF rfl rfl) rfl ?_)))
 exact FQ.one rfl rfl rfl ⟨w1,_,ad,rfl,rfl,hk1,hk2,hrest⟩
end Go.Proofs.YtbhbdeelpopgoaaGreatDoor.E

set_option linter.constructorNameAsVariable false
set_option linter.unusedVariables false
namespace Go.Proofs.YtbhbdeelpopgoaaGreatDoor.E
open Go Go.RowKit H
set_option maxRecDepth 100000
attribute [local irreducible] H.CL H.RW H.CW H.Yd H.thenK H.blockQ Go.Calls
theorem bstI_bd{k:Nat}{L M:List Nat}(hM : ∀s∈M,s∈L): -1≤bstI k L M∧bstI k L M < L.length∧(bstI k L M < 0→bstF k M=none)∧∀t,bstF k M=some t→∃m:Nat,bstI k L M=(m:Int)∧L[m]?=some t:=by
 have hsp:=bst_spec k M
 unfold bstI
 cases hb:bstF k M with
 | none=>exact⟨by simp,by simp; omega,fun _=>rfl,fun t ht=>by cases ht⟩
 | some t=>
  rw[hb] at hsp
  obtain⟨h1,_⟩:t∈M∧_:=hsp
  obtain⟨m,hm⟩:=stands_of (hM t h1)
  have hat:=standsAt_at hm
  have hlt:=(List.getElem?_eq_some_iff.1 hat).1
  have e:plI L t=(m:Int):=by rw[plI,hm]; rfl
  exact⟨by simp only[e]; omega,by simp only[e]; omega,fun z=>by simp only[e] at z; omega,fun t' ht'=>by cases ht'; exact⟨m,e,hat⟩⟩
theorem plI_at{L:List Nat}(hn:L.Nodup){i s:Nat}(h:L[i]?=some s):plI L s=(i:Int):=by rw[plI,standsAt_self hn h]; rfl
theorem lawC_one(v:Nat)(y:Value)(hy:y∈lawC v):y.oneCell'=true:=by
 simp only[lawC,List.mem_cons,List.not_mem_nil,or_false] at hy
 rcases hy with rfl|rfl|rfl|rfl|rfl <;> rfl
set_option maxHeartbeats 2000000 in
theorem topPicks(hO:OfOk)(hKn:KnOk)(hTl:TailsOk){w:World}(hw:Wf w){v:Value}{l:List UInt8}(hv:Sl w 1 v l.length (bv l)){kv:Nat}(hkv:kv < 256):Calls Tryz.prog 3 #[v,.int .u8 (kv:Int)] w fun e w'=>K0 w w'∧e = .returned (.bool true):=by
 obtain⟨k,hk⟩ : ∃k,kv % 10=k:=⟨_,rfl⟩
 have hk10:k < 10:=by omega
 obtain⟨p,cap,rfl,hcap⟩:=hv.shape
 refine H.enter Tryz.func3 Tryz.ntmps3 rfl rfl ?_; dsimp only[H.args]
 repeat' (first|(refine CL.seq ?_)|(refine CL.region ?_)|(refine Gt.nil ?_; refine RW.nilw [0,1,4,5,6,7,10,12,13,14,15,16,18,20,23,27,53,80,93] ?_; dsimp only[H.keep,H.look,H.Fr.put,Nat.beq])|(refine Gt.assign ?_; refine RW.y (Y.assign rfl) rfl ?_))
 refine RW.fn rfl rfl ((hKn w hw.m0 hw.e1 hw.sz).mono ?_)
 rintro e w1 ⟨hk1,rfl⟩
 repeat' (first|(refine CL.seq ?_)|(refine CL.region ?_)|(refine CL.skip ?_)|(refine CL.condP rfl (fun _=>?_) (fun _=>?_) <;> try (exfalso; omega))|(refine CL.condF rfl ?_)|(refine CL.block ?_)|(refine CL.ret ?_)|(refine Gt.nil ?_; refine RW.nilw [0,1,4,5,6,7,10,12,13,14,15,16,18,20,23,27,53,80,93] ?_; dsimp only[H.keep,H.look,H.Fr.put,Nat.beq])|(refine Gt.move ?_; refine RW.y (Y.move rfl) rfl ?_)|(refine Gt.assign ?_; refine RW.y (Y.assign rfl) rfl ?_)|(refine Gt.len ?_; (refine RW.y (Y.lenv rfl) rfl ?_))|(refine Gt.gtr ?_; refine RW.y (Y.gtr rfl rfl) rfl ?_)|(refine Gt.not ?_; (refine RW.y (Y.notb rfl) rfl ?_)))
 ·exact FQ.one rfl rfl rfl ⟨hk1,rfl⟩
 ·rename_i hl8
  have hv1:=hv.keep0 hk1
  obtain⟨ws,hws⟩ : ∃ws:List Nat,ws=l.map UInt8.toNat:=⟨_,rfl⟩
  have hwl:ws.length=l.length:=by rw[hws,List.length_map]
  have hw8 : ∀x∈ws,x < 256:=fun x hx=>by
   rw[hws] at hx
   obtain⟨c,_,rfl⟩:=List.mem_map.1 hx
   exact c.toNat_lt
  skip
  refine CL.loopS [0,1,5,6] (fun n vals wr=>∃(i:Nat) (u:Value),vals=[.slice p l.length cap,.int .u8 (kv:Int),u,.int .i64 (i:Int)]∧n=l.length - i∧i≤l.length∧wr.ownsRow w1.heap.size 27 5 u i ((ws.take i).flatMap lawC)∧(i=0→u = .slice none 0 0)∧K0 w1 wr) l.length ⟨_,rfl,0,_,rfl,rfl,Nat.zero_le _,World.ownsRow_nil _ _ _ _,fun _=>rfl,Kept.refl _ _⟩ ?_
  rintro n vals wr ⟨i,u,rfl,rfl,hi,hu,hu0,hkr⟩
  dsimp only[List.zip,List.zipWith]
  have hvr:=hv1.keep0 hkr
  have hzr:=hkr.size
  rcases Nat.lt_or_ge i l.length with hlt|hge
  ·obtain⟨x,hx⟩ : ∃x,l[i]?=some x:=⟨l[i],List.getElem?_eq_getElem hlt⟩
   have hti:((i:Int)).toNat=i:=Int.toNat_natCast i
   have hgd:l.getD ((i:Int)).toNat 0=x:=by rw[hti,List.getD_eq_getElem?_getD,hx]; rfl
   have hwx:ws[i]?=some x.toNat:=by rw[hws,List.getElem?_map,hx]; rfl
   have htk:ws.take (i+1)=ws.take i++[x.toNat]:=take_snoc' hwx
   repeat' (first|(refine CL.seq ?_)|(refine CL.region ?_)|(refine CL.skip ?_)|(refine CL.condP rfl (fun _=>?_) (fun _=>?_) <;> try (exfalso; omega))|(refine CL.block ?_)|(refine Gt.nil ?_; refine RW.nilw [0,1,4,5,6,7,10,12,13,14,15,16,18,20,23,27,53,80,93] ?_; dsimp only[H.keep,H.look,H.Fr.put,Nat.beq])|(refine Gt.move ?_; refine RW.y (Y.move rfl) rfl ?_)|(refine Gt.idx ?_; (refine RW.elemB rfl rfl rfl rfl (by assumption) (by omega) (by omega) ?_))|(refine Gt.len ?_; (refine RW.y (Y.lenv rfl) rfl ?_))|(refine Gt.lss ?_; refine RW.y (Y.lss rfl rfl) rfl ?_)|(refine RW.y (Y.build (ps:=[(0,_),(1,_)]) rfl rfl) rfl ?_))
   rw[hgd]
   refine RW.app1 (u:= .agg (lawC x.toNat).toArray) rfl rfl rfl rfl hu rfl rfl rfl rfl (fun y hy=>lawC_one x.toNat y (by simpa [Value.cells] using hy)) (by omega) (by omega) (by omega) (fun u' w3 how hk3 hl3=>?_)
   have how':w3.ownsRow w1.heap.size 27 5 u' (i+1) ((ws.take (i+1)).flatMap lawC):=by
    rw[htk,List.flatMap_append,List.flatMap_singleton]
    simpa [Value.cells] using how
   repeat' (first|(refine CL.region ?_)|(refine CL.done ?_)|(refine Nm.block ?_)|(refine Nm.then ?_)|(refine Gt.nil ?_; refine RW.nilw [0,1,4,5,6,7,10,12,13,14,15,16,18,20,23,27,53,80,93] ?_; dsimp only[H.keep,H.look,H.Fr.put,Nat.beq])|(refine Gt.move ?_; refine RW.y (Y.move rfl) rfl ?_)|(refine Gt.assign ?_; refine RW.y (Y.assign rfl) rfl ?_)|(refine Gt.add ?_; refine RW.y (Y.add64 rfl rfl (by omega) (by omega)) rfl ?_))
   exact⟨l.length - (i+1),_,rfl,rfl,rfl,by omega,i+1,u',rfl,rfl,by omega,how',(fun z=>by omega),hkr.trans hk3 fun k h=> .inr (hu.lt k h).1⟩
  ·have hi:i=l.length:=by omega
   subst hi
   rw[List.take_of_length_le (by omega)] at hu
   have hwr:=hw.keep (hk1.trans0 hkr)
   have hul:Sl wr 5 u ws.length (ws.flatMap lawC):=by rw[hwl]; exact Sl.of_own hu
   have hws8:ws.length≤8:=by omega
   have hL6 : ∀s∈ddAcc [] ws,s < 6:=ddAcc_lt fun s hs=>by cases hs
   have hLn:(ddAcc [] ws).Nodup:=ddAcc_nodup (by simp)
   have hLf:=few_of hLn hL6
   obtain⟨c,hcm,hc⟩:=bmask_ok hk10 hL6
   repeat' (first|(refine CL.seq ?_)|(refine CL.region ?_)|(refine CL.condP rfl (fun _=>?_) (fun _=>?_) <;> try (exfalso; omega))|(refine CL.exit ?_)|(refine Ex.then ?_)|(refine Ex.hit ?_)|(refine Gt.nil ?_; refine RW.nilw [0,1,4,5,6,7,10,12,13,14,15,16,18,20,23,27,53,80,93] ?_; dsimp only[H.keep,H.look,H.Fr.put,Nat.beq])|(refine Gt.move ?_; refine RW.y (Y.move rfl) rfl ?_)|(refine Gt.len ?_; (refine RW.y (Y.lenv rfl) rfl ?_))|(refine Gt.lss ?_; refine RW.y (Y.lss rfl rfl) rfl ?_))
   refine RW.fn rfl rfl ((made hO hul hw8 hws8).mono ?_)
   rintro e w3 ⟨hk3,u3,a3,q,f,rfl,hI⟩
   have hrw:=hI.rws hL6 hLn
   obtain⟨L,hLd⟩ : ∃L,ddAcc [] ws=L:=⟨_,rfl⟩
   rw[hLd] at hrw hL6 hLn hLf hc hcm hI
   obtain⟨p3,cap3,rfl,hcap3⟩:=hrw.sl.shape
   repeat' (first|(refine CL.seq ?_)|(refine CL.region ?_)|(refine Gt.nil ?_; refine RW.nilw [0,1,4,5,6,7,10,12,13,14,15,16,18,20,23,27,53,80,93] ?_; dsimp only[H.keep,H.look,H.Fr.put,Nat.beq])|(refine Gt.move ?_; refine RW.y (Y.move rfl) rfl ?_)|(refine Gt.assign ?_; refine RW.y (Y.assign rfl) rfl ?_)|(refine Gt.extract ?_; refine RW.y (Y.extract rfl rfl) rfl ?_))
   refine RW.fn rfl rfl ((spanName hk10 hk hkv).mono ?_)
   rintro e w4 ⟨rfl,hk4⟩
   refine RW.fn rfl rfl ((spanCall hk10).mono ?_)
   rintro e w5 ⟨hk5,sa,sb,rfl,hsa,hsb,hhas⟩
   repeat' (first|(refine Gt.move ?_; refine RW.y (Y.move rfl) rfl ?_)|(refine Gt.extract ?_; refine RW.y (Y.extract rfl rfl) rfl ?_))
   refine RW.alloc rfl (fun w6 hb6 hk6 hlt6=>?_)
   refine RW.storeBlock rfl rfl rfl (by intro z hz; simp at hz; rcases hz with rfl|rfl <;> assumption) hb6 rfl (fun w7 hb7 hk7=>?_)
   have hz5:=hk5.size
   have hz4:=hk4.size
   have hz6:=hk6.size
   have hK57:K0 w5 w7:=hk6.trans hk7 fun k h=> .inr (by omega)
   have hK37:K0 w3 w7:=(hk4.trans0 hk5).trans0 hK57
   have hrw7:=hrw.keep0 hK37
   repeat' (first|(refine CL.seq ?_)|(refine CL.region ?_)|(refine CL.block ?_)|(refine Gt.nil ?_; refine RW.nilw [0,1,4,5,6,7,10,12,13,14,15,16,18,20,23,27,53,80,93] ?_; dsimp only[H.keep,H.look,H.Fr.put,Nat.beq])|(refine Gt.assign ?_; refine RW.y (Y.assign rfl) rfl ?_))
   refine CL.loopS [1,5,7,10,12,13] (fun n vals wv=>∃i:Nat,vals=[.int .u8 (kv:Int),u,.slice p3 L.length cap3,.pointer (some ⟨w5.heap.size,0,none⟩),.int .i64 (bstI k L (L.take i)),.int .i64 (i:Int)]∧n=L.length - i∧i≤L.length∧K0 w7 wv) L.length ⟨_,rfl,0,rfl,rfl,Nat.zero_le _,Kept.refl _ _⟩ ?_
   rintro n vals wv ⟨i,rfl,rfl,hi,hkv'⟩
   dsimp only[List.zip,List.zipWith]
   have hrv:=hrw7.keep0 hkv'
   have hsv:=hrv.sl
   have hbv:=hkv'.at0 hb7
   have hbd:=bstI_bd (k:=k) (L:=L) (M:=L.take i) fun s hs=>List.mem_of_mem_take hs
   rcases Nat.lt_or_ge i L.length with hlt|hge
   ·have hti:((i:Int)).toNat=i:=Int.toNat_natCast i
    obtain⟨s,hsL⟩ : ∃s,L[i]?=some s:=⟨L[i],List.getElem?_eq_getElem hlt⟩
    have hmem:s∈L:=List.mem_of_getElem? hsL
    have h6:=hL6 s hmem
    have hcell : ∀{n t:Nat},L[n]?=some t→∃g o,Value.spot (.slice p3 L.length cap3) (((n:Int)).toNat * 39)=⟨g,o,none⟩∧∀w',K0 wv w'→∀j z,(vC q t)[j]?=some z→w'.cell? ((⟨g,o+1,none⟩:Addr).add j)=some z:=fun {n t} hn=>by
     have hnl:=(List.getElem?_eq_some_iff.1 hn).1
     have htn:((n:Int)).toNat=n:=Int.toNat_natCast n
     have hall:=elAll hsv (rowC_len q) (i:=(n:Int)) (by omega) (by omega)
     rw[show L.getD ((n:Int)).toNat default=t from by rw[htn,List.getD_eq_getElem?_getD,hn]; rfl] at hall
     obtain⟨g,o,hsp,_⟩:=spot_ptr hsv (by omega) (((n:Int)).toNat * 39)
     refine⟨g,o,hsp,fun w' hk' j z hz=>?_⟩
     have:=hall w' hk' (1+j) z (rowC_1 q t hz)
     rw[hsp,addr_add] at this
     rw[addr_add,Nat.add_assoc]; exact this
    obtain⟨g,o,hsp,hvs⟩:=hcell hsL
    have htk:L.take (i+1)=L.take i++[s]:=take_snoc' hsL
    have hstep:bstI k L (L.take (i+1))=if fitB k s=true∧(bstF k (L.take i)=none∨∃t,bstF k (L.take i)=some t∧rk t < rk s) then (i:Int) else bstI k L (L.take i):=by
     unfold bstI
     rw[htk,bstF_snoc]
     cases hb:bstF k (L.take i) with
     | none=>
      unfold bstS
      by_cases hf:fitB k s=true
      ·simp only[if_pos hf]; rw[if_pos ⟨hf,.inl trivial⟩]; exact plI_at hLn hsL
      ·simp only[if_neg hf]; rw[if_neg fun z=>hf z.1]
     | some t=>
      unfold bstS
      by_cases hf:fitB k s=true∧rk t < rk s
      ·simp only[if_pos hf]; rw[if_pos ⟨hf.1,.inr ⟨t,rfl,hf.2⟩⟩]; exact plI_at hLn hsL
      ·simp only[if_neg hf]
       rw[if_neg fun z=>hf ⟨z.1,(z.2.resolve_left (by simp)).elim fun t' h=>by
        have:t'=t:=(Option.some.inj h.1).symm
        exact this▸h.2⟩]
    repeat' (first|(refine CL.seq ?_)|(refine CL.region ?_)|(refine CL.skip ?_)|(refine CL.condP rfl (fun _=>?_) (fun _=>?_) <;> try (exfalso; omega))|(refine CL.block ?_)|(refine Gt.nil ?_; refine RW.nilw [0,1,4,5,6,7,10,12,13,14,15,16,18,20,23,27,53,80,93] ?_; dsimp only[H.keep,H.look,H.Fr.put,Nat.beq])|(refine Gt.move ?_; refine RW.y (Y.move rfl) rfl ?_)|(refine Gt.len ?_; (refine RW.y (Y.lenv rfl) rfl ?_))|(refine Gt.lss ?_; refine RW.y (Y.lss rfl rfl) rfl ?_))
    refine CL.draw (fun w'=>K0 wv w') (by kernel_rfl) (fun w8 hheap hk8=>?_)
    have hS:K0 wv w8:=hk8
    skip
    refine AW.take 0 rfl (by kernel_rfl) (by kernel_rfl) (by kernel_rfl) rfl (by assumption) (fun w hS=>Y.loadBlock rfl (hS.at0 hbv) rfl) ?_
    refine AW.take 1 rfl (by kernel_rfl) (by kernel_rfl) (by kernel_rfl) rfl (by assumption) (fun w hS=>Y.move rfl) ?_
    refine AW.take 2 rfl (by kernel_rfl) (by kernel_rfl) (by kernel_rfl) rfl (by assumption) (fun w hS=>Y.move rfl) ?_
    refine AW.take 3 rfl (by kernel_rfl) (by kernel_rfl) (by kernel_rfl) rfl (by assumption) (fun w hS=>Y.idx rfl rfl (hsv.keep0 hS) (by omega) (by omega)) ?_
    refine AW.take 4 rfl (by kernel_rfl) (by kernel_rfl) (by kernel_rfl) rfl (by assumption) (fun w hS=>Y.fieldAddr (congrArg (fun a=>some (Value.pointer (some a))) hsp) (by rfl)) ?_
    refine AW.take 5 rfl (by kernel_rfl) (by kernel_rfl) (by kernel_rfl) rfl (by assumption) (fun w hS=>Y.loadN (cs:=vC q s) rfl rfl (hvs _ hS)) ?_
    refine AW.next 6 rfl (by kernel_rfl) ?_
    refine RW.fn rfl rfl ((hhas w8 ((hK57.trans0 hkv').trans0 hk8) q s h6 (fun e=>((hI.pre (e▸hmem)).pre).keep hk4)).mono ?_)
    rintro e w9 ⟨rfl,hk9⟩
    refine RW.nil (Nm.then (rebase0 hS hk9 fun hS=>?_))
    have hk89:=hk8.trans0 hk9
    cases hh:fitB k s
    ·skip
     refine AW.take 7 rfl (by kernel_rfl) (by kernel_rfl) (by kernel_rfl) rfl (by assumption) (fun w hS=>Y.move rfl) ?_
     refine AW.takeOff 8 rfl (by kernel_rfl) (by kernel_rfl) (by kernel_rfl) rfl rfl rfl rfl rfl (by assumption) ?_
     refine AW.takeOff 9 rfl (by kernel_rfl) (by kernel_rfl) (by kernel_rfl) rfl rfl rfl rfl rfl (by assumption) ?_
     refine AW.takeOff 10 rfl (by kernel_rfl) (by kernel_rfl) (by kernel_rfl) rfl rfl rfl rfl rfl (by assumption) ?_
     refine AW.takeOffU 11 rfl (by kernel_rfl) (by kernel_rfl) (by kernel_rfl) rfl rfl rfl rfl (by assumption) ?_
     refine AW.takeOffU 12 rfl (by kernel_rfl) (by kernel_rfl) (by kernel_rfl) rfl rfl rfl rfl (by assumption) ?_
     refine AW.takeOffU 13 rfl (by kernel_rfl) (by kernel_rfl) (by kernel_rfl) rfl rfl rfl rfl (by assumption) ?_
     refine AW.takeOffU 14 rfl (by kernel_rfl) (by kernel_rfl) (by kernel_rfl) rfl rfl rfl rfl (by assumption) ?_
     refine AW.takeOffU 15 rfl (by kernel_rfl) (by kernel_rfl) (by kernel_rfl) rfl rfl rfl rfl (by assumption) ?_
     refine AW.takeOffU 16 rfl (by kernel_rfl) (by kernel_rfl) (by kernel_rfl) rfl rfl rfl rfl (by assumption) ?_
     refine AW.takeOffU 17 rfl (by kernel_rfl) (by kernel_rfl) (by kernel_rfl) rfl rfl rfl rfl (by assumption) ?_
     refine AW.takeOffU 18 rfl (by kernel_rfl) (by kernel_rfl) (by kernel_rfl) rfl rfl rfl rfl (by assumption) ?_
     refine AW.takeOffU 19 rfl (by kernel_rfl) (by kernel_rfl) (by kernel_rfl) rfl rfl rfl rfl (by assumption) ?_
     refine AW.takeOffU 20 rfl (by kernel_rfl) (by kernel_rfl) (by kernel_rfl) rfl rfl rfl rfl (by assumption) ?_
     refine AW.takeOffU 21 rfl (by kernel_rfl) (by kernel_rfl) (by kernel_rfl) rfl rfl rfl rfl (by assumption) ?_
     refine AW.takeOffU 22 rfl (by kernel_rfl) (by kernel_rfl) (by kernel_rfl) rfl rfl rfl rfl (by assumption) ?_
     refine AW.takeOff 23 rfl (by kernel_rfl) (by kernel_rfl) (by kernel_rfl) rfl rfl rfl rfl rfl (by assumption) ?_
     refine AW.take 24 rfl (by kernel_rfl) (by kernel_rfl) (by kernel_rfl) rfl (by assumption) (fun w hS=>by exact Y.pickF rfl rfl) ?_
     refine AW.donew [1,5,7,10,12,13,80] (by kernel_rfl) ?_
     dsimp only[H.keep,H.look,H.Fr.put,Nat.beq]
     rw[hh] at hstep
     repeat' (first|(refine CL.region ?_)|(refine CL.skip ?_)|(refine CL.condF rfl ?_)|(refine CL.done ?_)|(refine Nm.block ?_)|(refine Nm.then ?_)|(refine Gt.nil ?_; refine RW.nilw [0,1,4,5,6,7,10,12,13,14,15,16,18,20,23,27,53,80,93] ?_; dsimp only[H.keep,H.look,H.Fr.put,Nat.beq])|(refine Gt.move ?_; refine RW.y (Y.move rfl) rfl ?_)|(refine Gt.assign ?_; refine RW.y (Y.assign rfl) rfl ?_)|(refine Gt.add ?_; refine RW.y (Y.add64 rfl rfl (by omega) (by omega)) rfl ?_))
     exact⟨L.length - (i+1),_,rfl,rfl,rfl,by omega,i+1,by rw[hstep,if_neg (by simp)] <;> rfl,rfl,by omega,hkv'.trans0 hk89⟩
    ·skip
     refine AW.take 7 rfl (by kernel_rfl) (by kernel_rfl) (by kernel_rfl) rfl (by assumption) (fun w hS=>Y.move rfl) ?_
     refine AW.takeOn 8 rfl (by kernel_rfl) (by kernel_rfl) (by kernel_rfl) rfl rfl rfl rfl (by assumption) (fun w hS=>Y.move rfl) ?_
     refine AW.takeOn 9 rfl (by kernel_rfl) (by kernel_rfl) (by kernel_rfl) rfl rfl rfl rfl (by assumption) (fun w hS=>Y.lss rfl rfl) ?_
     refine AW.takeOn 10 rfl (by kernel_rfl) (by kernel_rfl) (by kernel_rfl) rfl rfl rfl rfl (by assumption) (fun w hS=>Y.move rfl) ?_
     refine AW.split (t:=66) rfl (fun hn=>?_) (fun hn=>?_)
     ·skip
      refine AW.takeOff 11 rfl (by kernel_rfl) (by kernel_rfl) (by kernel_rfl) rfl rfl rfl rfl rfl (by assumption) ?_
      refine AW.takeOff 12 rfl (by kernel_rfl) (by kernel_rfl) (by kernel_rfl) rfl rfl rfl rfl rfl (by assumption) ?_
      refine AW.takeOff 13 rfl (by kernel_rfl) (by kernel_rfl) (by kernel_rfl) rfl rfl rfl rfl rfl (by assumption) ?_
      refine AW.takeOff 14 rfl (by kernel_rfl) (by kernel_rfl) (by kernel_rfl) rfl rfl rfl rfl rfl (by assumption) ?_
      refine AW.takeOff 15 rfl (by kernel_rfl) (by kernel_rfl) (by kernel_rfl) rfl rfl rfl rfl rfl (by assumption) ?_
      refine AW.takeOff 16 rfl (by kernel_rfl) (by kernel_rfl) (by kernel_rfl) rfl rfl rfl rfl rfl (by assumption) ?_
      refine AW.takeOff 17 rfl (by kernel_rfl) (by kernel_rfl) (by kernel_rfl) rfl rfl rfl rfl rfl (by assumption) ?_
      refine AW.takeOff 18 rfl (by kernel_rfl) (by kernel_rfl) (by kernel_rfl) rfl rfl rfl rfl rfl (by assumption) ?_
      refine AW.takeOff 19 rfl (by kernel_rfl) (by kernel_rfl) (by kernel_rfl) rfl rfl rfl rfl rfl (by assumption) ?_
      refine AW.takeOff 20 rfl (by kernel_rfl) (by kernel_rfl) (by kernel_rfl) rfl rfl rfl rfl rfl (by assumption) ?_
      refine AW.takeOff 21 rfl (by kernel_rfl) (by kernel_rfl) (by kernel_rfl) rfl rfl rfl rfl rfl (by assumption) ?_
      refine AW.takeOff 22 rfl (by kernel_rfl) (by kernel_rfl) (by kernel_rfl) rfl rfl rfl rfl rfl (by assumption) ?_
      refine AW.takeOn 23 rfl (by kernel_rfl) (by kernel_rfl) (by kernel_rfl) rfl rfl rfl rfl (by assumption) (fun w hS=>by exact Y.pickT rfl rfl) ?_
      refine AW.take 24 rfl (by kernel_rfl) (by kernel_rfl) (by kernel_rfl) rfl (by assumption) (fun w hS=>by exact Y.pickT rfl rfl) ?_
      refine AW.donew [1,5,7,10,12,13,80] (by kernel_rfl) ?_
      dsimp only[H.keep,H.look,H.Fr.put,Nat.beq]
      have hnn:=hbd.2.2.1 (of_decide_eq_true hn)
      repeat' (first|(refine CL.region ?_)|(refine CL.condT rfl ?_)|(refine CL.done ?_)|(refine Nm.block ?_)|(refine Nm.then ?_)|(refine Gt.nil ?_; refine RW.nilw [0,1,4,5,6,7,10,12,13,14,15,16,18,20,23,27,53,80,93] ?_; dsimp only[H.keep,H.look,H.Fr.put,Nat.beq])|(refine Gt.move ?_; refine RW.y (Y.move rfl) rfl ?_)|(refine Gt.assign ?_; refine RW.y (Y.assign rfl) rfl ?_)|(refine Gt.add ?_; refine RW.y (Y.add64 rfl rfl (by omega) (by omega)) rfl ?_))
      exact⟨L.length - (i+1),_,rfl,rfl,rfl,by omega,i+1,by rw[hstep,if_pos ⟨hh,.inl hnn⟩] <;> rfl,rfl,by omega,hkv'.trans0 hk89⟩
     ·have hn':=of_decide_eq_false hn
      obtain⟨t,ht⟩ : ∃t,bstF k (L.take i)=some t:=by
       cases e:bstF k (L.take i) with
       | none=>exact absurd (show bstI k L (L.take i) < 0 by unfold bstI; rw[e]; show(-1:Int) < 0; decide) hn'
       | some t=>exact⟨t,rfl⟩
      obtain⟨m,hm1,hm2⟩:=hbd.2.2.2 t ht
      rw[hm1] at hstep ⊢
      have hml:=(List.getElem?_eq_some_iff.1 hm2).1
      have htm:t∈L:=List.mem_of_getElem? hm2
      obtain⟨g2,o2,hsp2,hvs2⟩:=hcell hm2
      have hsv9:=hsv.keep0 hk89
      have hcmp:=fun w' (h:K0 wv w')=>cmpCall (w:=w') (p:=q) (q:=q) cmp2 h6 (hL6 t htm) (fun e=>(hrv.pr (e▸hmem)).keep h) (fun e=>(hrv.pr (e▸htm)).keep h)
      skip
      refine AW.takeOn 11 rfl (by kernel_rfl) (by kernel_rfl) (by kernel_rfl) rfl rfl rfl rfl (by assumption) (fun w hS=>Y.move rfl) ?_
      refine AW.takeOn 12 rfl (by kernel_rfl) (by kernel_rfl) (by kernel_rfl) rfl rfl rfl rfl (by assumption) (fun w hS=>Y.move rfl) ?_
      refine AW.takeOn 13 rfl (by kernel_rfl) (by kernel_rfl) (by kernel_rfl) rfl rfl rfl rfl (by assumption) (fun w hS=>Y.idx rfl rfl (hsv9.keep0 hS) (by omega) (by omega)) ?_
      refine AW.takeOn 14 rfl (by kernel_rfl) (by kernel_rfl) (by kernel_rfl) rfl rfl rfl rfl (by assumption) (fun w hS=>Y.fieldAddr (congrArg (fun a=>some (Value.pointer (some a))) hsp) (by rfl)) ?_
      refine AW.takeOn 15 rfl (by kernel_rfl) (by kernel_rfl) (by kernel_rfl) rfl rfl rfl rfl (by assumption) (fun w hS=>Y.loadN (cs:=vC q s) rfl rfl (hvs _ (hk89.trans0 hS))) ?_
      refine AW.takeOn 16 rfl (by kernel_rfl) (by kernel_rfl) (by kernel_rfl) rfl rfl rfl rfl (by assumption) (fun w hS=>Y.move rfl) ?_
      refine AW.takeOn 17 rfl (by kernel_rfl) (by kernel_rfl) (by kernel_rfl) rfl rfl rfl rfl (by assumption) (fun w hS=>Y.move rfl) ?_
      refine AW.takeOn 18 rfl (by kernel_rfl) (by kernel_rfl) (by kernel_rfl) rfl rfl rfl rfl (by assumption) (fun w hS=>Y.idx rfl rfl (hsv9.keep0 hS) (by omega) (by omega)) ?_
      refine AW.takeOn 19 rfl (by kernel_rfl) (by kernel_rfl) (by kernel_rfl) rfl rfl rfl rfl (by assumption) (fun w hS=>Y.fieldAddr (congrArg (fun a=>some (Value.pointer (some a))) hsp2) (by rfl)) ?_
      refine AW.takeOn 20 rfl (by kernel_rfl) (by kernel_rfl) (by kernel_rfl) rfl rfl rfl rfl (by assumption) (fun w hS=>Y.loadN (cs:=vC q t) rfl rfl (hvs2 _ (hk89.trans0 hS))) ?_
      refine AW.next 21 rfl (by kernel_rfl) ?_
      refine RW.on rfl rfl rfl ?_
      refine RW.fn rfl rfl ((hcmp w9 hk89).mono ?_)
      rintro e w10 ⟨rfl,hk10'⟩
      refine RW.nil (Nm.then (rebase0 hS hk10' fun hS=>?_))
      refine AW.takeOn 22 rfl (by kernel_rfl) (by kernel_rfl) (by kernel_rfl) rfl rfl rfl rfl (by assumption) (fun w hS=>Y.gtr rfl rfl) ?_
      refine AW.takeOn 23 rfl (by kernel_rfl) (by kernel_rfl) (by kernel_rfl) rfl rfl rfl rfl (by assumption) (fun w hS=>by exact Y.pickF rfl rfl) ?_
      refine AW.take 24 rfl (by kernel_rfl) (by kernel_rfl) (by kernel_rfl) rfl (by assumption) (fun w hS=>by exact Y.pickT rfl rfl) ?_
      refine AW.donew [1,5,7,10,12,13,80] (by kernel_rfl) ?_
      dsimp only[H.keep,H.look,H.Fr.put,Nat.beq]
      have hz:(0 < cmpZ s t)↔rk t < rk s:=by
       unfold cmpZ
       split
       ·simp; omega
       ·split <;> simp <;> omega
      repeat' (first|(refine CL.region ?_)|(refine CL.skip ?_)|(refine CL.condP rfl (fun _=>?_) (fun _=>?_) <;> try (exfalso; omega))|(refine CL.done ?_)|(refine Nm.block ?_)|(refine Nm.then ?_)|(refine Gt.nil ?_; refine RW.nilw [0,1,4,5,6,7,10,12,13,14,15,16,18,20,23,27,53,80,93] ?_; dsimp only[H.keep,H.look,H.Fr.put,Nat.beq])|(refine Gt.move ?_; refine RW.y (Y.move rfl) rfl ?_)|(refine Gt.assign ?_; refine RW.y (Y.assign rfl) rfl ?_)|(refine Gt.add ?_; refine RW.y (Y.add64 rfl rfl (by omega) (by omega)) rfl ?_))
      ·rename_i g1
       exact⟨L.length - (i+1),_,rfl,rfl,rfl,by omega,i+1,by rw[hstep,if_pos ⟨hh,.inr ⟨t,ht,hz.1 (by omega)⟩⟩] <;> rfl,rfl,by omega,hkv'.trans0 (hk89.trans0 hk10')⟩
      ·rename_i g1
       have hneg : ¬(fitB k s=true∧(bstF k (L.take i)=none∨∃t,bstF k (L.take i)=some t∧rk t < rk s)):=fun z=>by
        rcases z.2 with z|⟨t',z1,z2⟩
        ·rw[ht] at z; cases z
        ·rw[ht] at z1
         cases z1
         have:=hz.2 z2
         omega
       exact⟨L.length - (i+1),_,rfl,rfl,rfl,by omega,i+1,by rw[hstep,if_neg hneg] <;> rfl,rfl,by omega,hkv'.trans0 (hk89.trans0 hk10')⟩
   ·have hi:i=L.length:=by omega
    subst hi
    rw[List.take_of_length_le (Nat.le_refl _)] at hbd ⊢
    have hKv:K0 w3 wv:=hK37.trans0 hkv'
    have hK0v:K0 w wv:=((hk1.trans0 hkr).trans0 hk3).trans0 hKv
    have hwv:=hw.keep hK0v
    by_cases hne:ws=[]
    ·have hl0:l.length=0:=by rw[←hwl,hne]; rfl
     have hun:=hu0 hl0
     have hLe:L=[]:=by rw[←hLd,hne]; rfl
     have hb1:bstI k L L = -1:=by rw[hLe]; rfl
     rw[hb1]
     rw[hun]
     repeat' (first|(refine CL.seq ?_)|(refine CL.region ?_)|(refine CL.condP rfl (fun _=>?_) (fun _=>?_) <;> try (exfalso; omega))|(refine CL.exit ?_)|(refine Ex.then ?_)|(refine Ex.hit ?_)|(refine Gt.nil ?_; refine RW.nilw [0,1,4,5,6,7,10,12,13,14,15,16,18,20,23,27,53,80,93] ?_; dsimp only[H.keep,H.look,H.Fr.put,Nat.beq])|(refine Gt.move ?_; refine RW.y (Y.move rfl) rfl ?_)|(refine Gt.len ?_; (refine RW.y (Y.lenv rfl) rfl ?_))|(refine Gt.lss ?_; refine RW.y (Y.lss rfl rfl) rfl ?_))
     refine RW.fn rfl rfl ((hTl.nil k hk10 wv hwv).mono ?_)
     rintro e wA ⟨x,rfl,hkA,hrest⟩
     repeat' (first|(refine CL.seq ?_)|(refine CL.region ?_)|(refine Gt.nil ?_; refine RW.nilw [0,1,4,5,6,7,10,12,13,14,15,16,18,20,23,27,53,80,93] ?_; dsimp only[H.keep,H.look,H.Fr.put,Nat.beq])|(refine Gt.move ?_; refine RW.y (Y.move rfl) rfl ?_)|(refine Gt.assign ?_; refine RW.y (Y.assign rfl) rfl ?_))
     refine RW.fn rfl rfl (initCall.mono ?_)
     rintro e wB ⟨rfl,hkB⟩
     refine RW.fn rfl rfl ((hrest wB hkB).mono ?_)
     rintro e wC ⟨y1,rfl,hkC,hrest2⟩
     repeat' (first|(refine CL.seq ?_)|(refine CL.region ?_)|(refine Gt.nil ?_; refine RW.nilw [0,1,4,5,6,7,10,12,13,14,15,16,18,20,23,27,53,80,93] ?_; dsimp only[H.keep,H.look,H.Fr.put,Nat.beq])|(refine Gt.move ?_; refine RW.y (Y.move rfl) rfl ?_))
     refine RW.fn rfl rfl ((spanName hk10 hk hkv).mono ?_)
     rintro e wD ⟨rfl,hkD⟩
     refine RW.y (Y.build (ps:=[(0,_),(1,_),(2,_)]) (l:=[_,_,_]) (c:=#[.int .i64 1,.string (B (textOf [98])),.string (B (textOf (spt k)))]) rfl rfl) rfl ?_
     refine RW.fn rfl rfl ((hrest2 wD hkD).mono ?_)
     rintro e wE ⟨rfl,hkE⟩
     repeat' (first|(refine CL.seq ?_)|(refine CL.region ?_)|(refine CL.condP rfl (fun _=>?_) (fun _=>?_) <;> try (exfalso; omega))|(refine CL.ret ?_)|(refine Gt.nil ?_; refine RW.nilw [0,1,4,5,6,7,10,12,13,14,15,16,18,20,23,27,53,80,93] ?_; dsimp only[H.keep,H.look,H.Fr.put,Nat.beq])|(refine Gt.move ?_; refine RW.y (Y.move rfl) rfl ?_)|(refine Gt.assign ?_; refine RW.y (Y.assign rfl) rfl ?_)|(refine Gt.eql ?_; (refine RW.y (Y.eqi rfl rfl) rfl ?_))|(refine Gt.lss ?_; refine RW.y (Y.lss rfl rfl) rfl ?_))
     exact FQ.one rfl rfl rfl ⟨hK0v.trans0 hkE,by simp⟩
    ·have hvS:Sl wv 5 u ws.length (ws.flatMap lawC):=hul.keep0 (hk3.trans0 hKv)
     rw[←hLd] at hc
     cases hb:bstF k L with
     | none=>
      rw[hb] at hcm
      have hb1:bstI k L L = -1:=by unfold bstI; rw[hb]
      have hlife:=lifeCall hO hwv hvS hw8 hws8 hne hc (K:=fun _ _ y _=>y = .int .i64 70) (fun w a t hbg=>hTl.fitN k hk10 c hcm w a t hbg)
      rw[hb1]
      repeat' (first|(refine CL.seq ?_)|(refine CL.region ?_)|(refine CL.condP rfl (fun _=>?_) (fun _=>?_) <;> try (exfalso; omega))|(refine CL.exit ?_)|(refine Ex.then ?_)|(refine Ex.hit ?_)|(refine Gt.nil ?_; refine RW.nilw [0,1,4,5,6,7,10,12,13,14,15,16,18,20,23,27,53,80,93] ?_; dsimp only[H.keep,H.look,H.Fr.put,Nat.beq])|(refine Gt.move ?_; refine RW.y (Y.move rfl) rfl ?_)|(refine Gt.len ?_; (refine RW.y (Y.lenv rfl) rfl ?_))|(refine Gt.lss ?_; refine RW.y (Y.lss rfl rfl) rfl ?_))
      refine RW.fn rfl rfl (hlife.mono ?_)
      rintro e wA ⟨w1',x,ad,rfl,rfl,hkA1,hkA2,hrest⟩
      repeat' (first|(refine CL.seq ?_)|(refine CL.region ?_)|(refine Gt.nil ?_; refine RW.nilw [0,1,4,5,6,7,10,12,13,14,15,16,18,20,23,27,53,80,93] ?_; dsimp only[H.keep,H.look,H.Fr.put,Nat.beq])|(refine Gt.move ?_; refine RW.y (Y.move rfl) rfl ?_)|(refine Gt.assign ?_; refine RW.y (Y.assign rfl) rfl ?_))
      refine RW.fn rfl rfl (initCall.mono ?_)
      rintro e wB ⟨rfl,hkB⟩
      refine RW.fn rfl rfl ((hrest wB hkB).mono ?_)
      rintro e wC ⟨y1,rfl,hkC,hrest2⟩
      repeat' (first|(refine CL.seq ?_)|(refine CL.region ?_)|(refine Gt.nil ?_; refine RW.nilw [0,1,4,5,6,7,10,12,13,14,15,16,18,20,23,27,53,80,93] ?_; dsimp only[H.keep,H.look,H.Fr.put,Nat.beq])|(refine Gt.move ?_; refine RW.y (Y.move rfl) rfl ?_))
      refine RW.fn rfl rfl ((spanName hk10 hk hkv).mono ?_)
      rintro e wD ⟨rfl,hkD⟩
      refine RW.y (Y.build (ps:=[(0,_),(1,_),(2,_)]) (l:=[_,_,_]) (c:=#[.int .i64 1,.string (B (textOf [98])),.string (B (textOf (spt k)))]) rfl rfl) rfl ?_
      refine RW.fn rfl rfl ((hrest2 wD hkD).mono ?_)
      rintro e wE ⟨y2,rfl,hkE,rfl⟩
      repeat' (first|(refine CL.seq ?_)|(refine CL.region ?_)|(refine CL.condP rfl (fun _=>?_) (fun _=>?_) <;> try (exfalso; omega))|(refine CL.ret ?_)|(refine Gt.nil ?_; refine RW.nilw [0,1,4,5,6,7,10,12,13,14,15,16,18,20,23,27,53,80,93] ?_; dsimp only[H.keep,H.look,H.Fr.put,Nat.beq])|(refine Gt.move ?_; refine RW.y (Y.move rfl) rfl ?_)|(refine Gt.assign ?_; refine RW.y (Y.assign rfl) rfl ?_)|(refine Gt.eql ?_; (refine RW.y (Y.eqi rfl rfl) rfl ?_))|(refine Gt.lss ?_; refine RW.y (Y.lss rfl rfl) rfl ?_))
      exact FQ.one rfl rfl rfl ⟨(hK0v.trans0 hkA1).trans0 hkE,by simp⟩
     | some s=>
      rw[hb] at hcm
      obtain⟨hsL,hsf,_⟩:s∈L∧fitB k s=true∧_:=by
       have:=bst_spec k L
       rw[hb] at this
       exact this
      have hs6:=hL6 s hsL
      obtain⟨m,hm1,hm2⟩:=hbd.2.2.2 s hb
      have hml:=(List.getElem?_eq_some_iff.1 hm2).1
      have hlife:=lifeCall hO hwv hvS hw8 hws8 hne hc (hT:=fun w a t hbg=>hTl.fitS k hk10 s hs6 hsf c hcm w a t hbg)
      rw[hm1]
      repeat' (first|(refine CL.seq ?_)|(refine CL.region ?_)|(refine CL.condP rfl (fun _=>?_) (fun _=>?_) <;> try (exfalso; omega))|(refine CL.exit ?_)|(refine Ex.then ?_)|(refine Ex.hit ?_)|(refine Gt.nil ?_; refine RW.nilw [0,1,4,5,6,7,10,12,13,14,15,16,18,20,23,27,53,80,93] ?_; dsimp only[H.keep,H.look,H.Fr.put,Nat.beq])|(refine Gt.move ?_; refine RW.y (Y.move rfl) rfl ?_)|(refine Gt.len ?_; (refine RW.y (Y.lenv rfl) rfl ?_))|(refine Gt.lss ?_; refine RW.y (Y.lss rfl rfl) rfl ?_))
      refine RW.fn rfl rfl (hlife.mono ?_)
      rintro e wA ⟨w1',x,ad,rfl,rfl,hkA1,hkA2,hrest⟩
      repeat' (first|(refine CL.seq ?_)|(refine CL.region ?_)|(refine Gt.nil ?_; refine RW.nilw [0,1,4,5,6,7,10,12,13,14,15,16,18,20,23,27,53,80,93] ?_; dsimp only[H.keep,H.look,H.Fr.put,Nat.beq])|(refine Gt.move ?_; refine RW.y (Y.move rfl) rfl ?_)|(refine Gt.assign ?_; refine RW.y (Y.assign rfl) rfl ?_))
      refine RW.fn rfl rfl (initCall.mono ?_)
      rintro e wB ⟨rfl,hkB⟩
      refine RW.fn rfl rfl ((hrest wB hkB).mono ?_)
      rintro e wC ⟨y1,rfl,hkC,hrest2⟩
      repeat' (first|(refine CL.seq ?_)|(refine CL.region ?_)|(refine Gt.nil ?_; refine RW.nilw [0,1,4,5,6,7,10,12,13,14,15,16,18,20,23,27,53,80,93] ?_; dsimp only[H.keep,H.look,H.Fr.put,Nat.beq])|(refine Gt.move ?_; refine RW.y (Y.move rfl) rfl ?_))
      refine RW.fn rfl rfl ((spanName hk10 hk hkv).mono ?_)
      rintro e wD ⟨rfl,hkD⟩
      refine RW.y (Y.build (ps:=[(0,_),(1,_),(2,_)]) (l:=[_,_,_]) (c:=#[.int .i64 1,.string (B (textOf [98])),.string (B (textOf (spt k)))]) rfl rfl) rfl ?_
      refine RW.fn rfl rfl ((hrest2 wD hkD).mono ?_)
      rintro e wE ⟨y2,rfl,hkE,rfl,hst⟩
      repeat' (first|(refine CL.seq ?_)|(refine CL.region ?_)|(refine CL.skip ?_)|(refine CL.condP rfl (fun _=>?_) (fun _=>?_) <;> try (exfalso; omega))|(refine Gt.nil ?_; refine RW.nilw [0,1,4,5,6,7,10,12,13,14,15,16,18,20,23,27,53,80,93] ?_; dsimp only[H.keep,H.look,H.Fr.put,Nat.beq])|(refine Gt.move ?_; refine RW.y (Y.move rfl) rfl ?_)|(refine Gt.assign ?_; refine RW.y (Y.assign rfl) rfl ?_)|(refine Gt.lss ?_; refine RW.y (Y.lss rfl rfl) rfl ?_))
      refine RW.fn rfl rfl ((hst wE (Kept.refl _ _)).mono ?_)
      rintro e wF ⟨st,lk,rfl,hlk,hkF,hlo⟩
      refine RW.y (Y.field rfl hlk) rfl ?_
      refine RW.fn rfl rfl ((hlo wF (Kept.refl _ _)).mono ?_)
      rintro e wG ⟨pv,l9,q9,rfl,hkG,hvr9,hsl9⟩
      have hKG:K0 w3 wG:=(hKv.trans0 hkA1).trans0 hkG
      have hrwG:=hrw.keep0 hKG
      have hslG:=hrwG.sl
      obtain⟨p9,cap9,rfl,hcap9⟩:=hsl9.shape
      have hpinl:Sl wG 37 (.slice p9 1 cap9) [s].length ([s].flatMap (pinC q9)):=by simpa using hsl9
      obtain⟨g9,o9,hsp9,_⟩:=spot_ptr hsl9 (by omega) (((0:Int)).toNat * 37)
      have hall9:=elAll hpinl (pinC_len q9) (i:=0) (by omega) (by simp)
      have hpc : ∀w',K0 wG w'→∀j z,(pinC q9 s)[j]?=some z→w'.cell? ⟨g9,o9+j,none⟩=some z:=fun w' hk' j z hz=>by
       have:=hall9 w' hk' j z hz
       rw[hsp9,addr_add] at this
       exact this
      have hpv1 : ∀w',K0 wG w'→∀j z,(vC q9 s)[j]?=some z→w'.cell? ((⟨g9,o9+1,none⟩:Addr).add j)=some z:=fun w' hk' j z hz=>by
       rw[addr_add,Nat.add_assoc]
       refine hpc w' hk' (1+j) z ?_
       have hj:j < 4:=(List.getElem?_eq_some_iff.1 hz).1
       rw[pinC,Nat.add_comm,List.getElem?_cons_succ,List.getElem?_append_left hj]; exact hz
      have hps1 : ∀w',K0 wG w'→∀j z,(bv (textOf (sumOf s)))[j]?=some z→w'.cell? ((⟨g9,o9+5,none⟩:Addr).add j)=some z:=fun w' hk' j z hz=>by
       rw[addr_add,Nat.add_assoc]
       refine hpc w' hk' (5+j) z ?_
       rw[pinC,show 5+j=(j+4)+1 from by omega,List.getElem?_cons_succ,List.getElem?_append_right (by simp[vC])]
       simp only[vC,List.length_cons,List.length_nil,Nat.zero_add,Nat.reduceAdd,Nat.add_sub_cancel]
       exact hz
      have htm:((m:Int)).toNat=m:=Int.toNat_natCast m
      have hallr:=elAll hslG (rowC_len q) (i:=(m:Int)) (by omega) (by omega)
      rw[show L.getD ((m:Int)).toNat default=s from by rw[htm,List.getD_eq_getElem?_getD,hm2]; rfl] at hallr
      obtain⟨gr,or',hspr,_⟩:=spot_ptr hslG (by omega) (((m:Int)).toNat * 39)
      have hrc : ∀w',K0 wG w'→∀j z,(rowC q s)[j]?=some z→w'.cell? ⟨gr,or'+j,none⟩=some z:=fun w' hk' j z hz=>by
       have:=hallr w' hk' j z hz
       rw[hspr,addr_add] at this
       exact this
      have hrv1 : ∀w',K0 wG w'→∀j z,(vC q s)[j]?=some z→w'.cell? ((⟨gr,or'+1,none⟩:Addr).add j)=some z:=fun w' hk' j z hz=>by
       rw[addr_add,Nat.add_assoc]; exact hrc w' hk' (1+j) z (rowC_1 q s hz)
      have hrs1 : ∀w',K0 wG w'→∀j z,(bv (textOf (sumOf s)))[j]?=some z→w'.cell? ((⟨gr,or'+5,none⟩:Addr).add j)=some z:=fun w' hk' j z hz=>by
       rw[addr_add,Nat.add_assoc]; exact hrc w' hk' (5+j) z (rowC_5 q s hz)
      have hsml:(bv (textOf (sumOf s))).length=32:=by simp[textOf,sumOf_len]
      have hsml':(textOf (sumOf s)).length=32:=by simp[textOf,sumOf_len]
      have hcz:cmpZ s s=0:=by simp[cmpZ]
      have hcmp:=fun w' (h:K0 wG w')=>cmpCall (w:=w') (p:=q9) (q:=q) cmp2 hs6 hs6 (hvr9.keep h) (fun e=>(hrwG.pr (e▸hsL)).keep h)
      rw[hcz] at hcmp
      repeat' (first|(refine CL.seq ?_)|(refine Gt.nil ?_; refine RW.nilw [0,1,4,5,6,7,10,12,13,14,15,16,18,20,23,27,53,80,93] ?_; dsimp only[H.keep,H.look,H.Fr.put,Nat.beq])|(refine Gt.move ?_; refine RW.y (Y.move rfl) rfl ?_)|(refine Gt.assign ?_; refine RW.y (Y.assign rfl) rfl ?_)|(refine Gt.extract ?_; refine RW.y (Y.extract rfl rfl) rfl ?_))
      refine CL.draw (fun w'=>K0 wG w') (by kernel_rfl) (fun wH hheap hkH=>?_)
      have hS:K0 wG wH:=hkH
      skip
      refine AW.take 0 rfl (by kernel_rfl) (by kernel_rfl) (by kernel_rfl) rfl (by assumption) (fun w hS=>Y.move rfl) ?_
      refine AW.take 1 rfl (by kernel_rfl) (by kernel_rfl) (by kernel_rfl) rfl (by assumption) (fun w hS=>Y.eqiE rfl rfl (show decide ((0:Int)=0)=true by decide)) ?_
      refine AW.take 2 rfl (by kernel_rfl) (by kernel_rfl) (by kernel_rfl) rfl (by assumption) (fun w hS=>Y.move rfl) ?_
      refine AW.takeOn 3 rfl (by kernel_rfl) (by kernel_rfl) (by kernel_rfl) rfl rfl rfl rfl (by assumption) (fun w hS=>Y.move rfl) ?_
      refine AW.takeOn 4 rfl (by kernel_rfl) (by kernel_rfl) (by kernel_rfl) rfl rfl rfl rfl (by assumption) (fun w hS=>Y.eqiE rfl rfl (show decide ((0:Int)=0)=true by decide)) ?_
      refine AW.take 5 rfl (by kernel_rfl) (by kernel_rfl) (by kernel_rfl) rfl (by assumption) (fun w hS=>by exact Y.pickT rfl rfl) ?_
      refine AW.take 6 rfl (by kernel_rfl) (by kernel_rfl) (by kernel_rfl) rfl (by assumption) (fun w hS=>Y.move rfl) ?_
      refine AW.takeOn 7 rfl (by kernel_rfl) (by kernel_rfl) (by kernel_rfl) rfl rfl rfl rfl (by assumption) (fun w hS=>Y.move rfl) ?_
      refine AW.takeOn 8 rfl (by kernel_rfl) (by kernel_rfl) (by kernel_rfl) rfl rfl rfl rfl (by assumption) (fun w hS=>Y.lenv rfl) ?_
      refine AW.takeOn 9 rfl (by kernel_rfl) (by kernel_rfl) (by kernel_rfl) rfl rfl rfl rfl (by assumption) (fun w hS=>Y.eqiE rfl rfl (show decide (((1:Nat):Int)=1)=true by decide)) ?_
      refine AW.take 10 rfl (by kernel_rfl) (by kernel_rfl) (by kernel_rfl) rfl (by assumption) (fun w hS=>by exact Y.pickT rfl rfl) ?_
      refine AW.take 11 rfl (by kernel_rfl) (by kernel_rfl) (by kernel_rfl) rfl (by assumption) (fun w hS=>Y.move rfl) ?_
      refine AW.takeOn 12 rfl (by kernel_rfl) (by kernel_rfl) (by kernel_rfl) rfl rfl rfl rfl (by assumption) (fun w hS=>Y.move rfl) ?_
      refine AW.takeOn 13 rfl (by kernel_rfl) (by kernel_rfl) (by kernel_rfl) rfl rfl rfl rfl (by assumption) (fun w hS=>Y.idx rfl rfl (hsl9.keep0 hS) (by omega) (by omega)) ?_
      refine AW.takeOn 14 rfl (by kernel_rfl) (by kernel_rfl) (by kernel_rfl) rfl rfl rfl rfl (by assumption) (fun w hS=>Y.fieldAddr (congrArg (fun a=>some (Value.pointer (some a))) hsp9) (by rfl)) ?_
      refine AW.takeOn 15 rfl (by kernel_rfl) (by kernel_rfl) (by kernel_rfl) rfl rfl rfl rfl (by assumption) (fun w hS=>Y.loadN (cs:=vC q9 s) rfl rfl (hpv1 _ hS)) ?_
      refine AW.takeOn 16 rfl (by kernel_rfl) (by kernel_rfl) (by kernel_rfl) rfl rfl rfl rfl (by assumption) (fun w hS=>Y.move rfl) ?_
      refine AW.takeOn 17 rfl (by kernel_rfl) (by kernel_rfl) (by kernel_rfl) rfl rfl rfl rfl (by assumption) (fun w hS=>Y.move rfl) ?_
      refine AW.takeOn 18 rfl (by kernel_rfl) (by kernel_rfl) (by kernel_rfl) rfl rfl rfl rfl (by assumption) (fun w hS=>Y.idx rfl rfl (hslG.keep0 hS) (by omega) (by omega)) ?_
      refine AW.takeOn 19 rfl (by kernel_rfl) (by kernel_rfl) (by kernel_rfl) rfl rfl rfl rfl (by assumption) (fun w hS=>Y.fieldAddr (congrArg (fun a=>some (Value.pointer (some a))) hspr) (by rfl)) ?_
      refine AW.takeOn 20 rfl (by kernel_rfl) (by kernel_rfl) (by kernel_rfl) rfl rfl rfl rfl (by assumption) (fun w hS=>Y.loadN (cs:=vC q s) rfl rfl (hrv1 _ hS)) ?_
      refine AW.next 21 rfl (by kernel_rfl) ?_
      refine RW.on rfl rfl rfl ?_
      refine RW.fn rfl rfl ((hcmp wH hkH).mono ?_)
      rintro e wI ⟨rfl,hkI⟩
      refine RW.nil (Nm.then (rebase0 hS hkI fun hS=>?_))
      have hkHI:=hkH.trans0 hkI
      refine AW.takeOn 22 rfl (by kernel_rfl) (by kernel_rfl) (by kernel_rfl) rfl rfl rfl rfl (by assumption) (fun w hS=>Y.eqiE rfl rfl (show decide ((0:Int)=0)=true by decide)) ?_
      refine AW.take 23 rfl (by kernel_rfl) (by kernel_rfl) (by kernel_rfl) rfl (by assumption) (fun w hS=>by exact Y.pickT rfl rfl) ?_
      refine AW.take 24 rfl (by kernel_rfl) (by kernel_rfl) (by kernel_rfl) rfl (by assumption) (fun w hS=>Y.move rfl) ?_
      refine AW.takeOn 25 rfl (by kernel_rfl) (by kernel_rfl) (by kernel_rfl) rfl rfl rfl rfl (by assumption) (fun w hS=>Y.move rfl) ?_
      refine AW.takeOn 26 rfl (by kernel_rfl) (by kernel_rfl) (by kernel_rfl) rfl rfl rfl rfl (by assumption) (fun w hS=>Y.idx rfl rfl ((hsl9.keep0 hkHI).keep0 hS) (by omega) (by omega)) ?_
      refine AW.takeOn 27 rfl (by kernel_rfl) (by kernel_rfl) (by kernel_rfl) rfl rfl rfl rfl (by assumption) (fun w hS=>Y.fieldAddr (congrArg (fun a=>some (Value.pointer (some a))) hsp9) (by rfl)) ?_
      refine AW.takeOn 28 rfl (by kernel_rfl) (by kernel_rfl) (by kernel_rfl) rfl rfl rfl rfl (by assumption) (fun w hS=>Y.loadN (cs:=bv (textOf (sumOf s))) rfl hsml (hps1 _ (hkHI.trans0 hS))) ?_
      refine AW.takeOn 29 rfl (by kernel_rfl) (by kernel_rfl) (by kernel_rfl) rfl rfl rfl rfl (by assumption) (fun w hS=>Y.move rfl) ?_
      refine AW.takeOn 30 rfl (by kernel_rfl) (by kernel_rfl) (by kernel_rfl) rfl rfl rfl rfl (by assumption) (fun w hS=>Y.move rfl) ?_
      refine AW.takeOn 31 rfl (by kernel_rfl) (by kernel_rfl) (by kernel_rfl) rfl rfl rfl rfl (by assumption) (fun w hS=>Y.idx rfl rfl ((hslG.keep0 hkHI).keep0 hS) (by omega) (by omega)) ?_
      refine AW.takeOn 32 rfl (by kernel_rfl) (by kernel_rfl) (by kernel_rfl) rfl rfl rfl rfl (by assumption) (fun w hS=>Y.fieldAddr (congrArg (fun a=>some (Value.pointer (some a))) hspr) (by rfl)) ?_
      refine AW.takeOn 33 rfl (by kernel_rfl) (by kernel_rfl) (by kernel_rfl) rfl rfl rfl rfl (by assumption) (fun w hS=>Y.loadN (cs:=bv (textOf (sumOf s))) rfl hsml (hrs1 _ (hkHI.trans0 hS))) ?_
      refine AW.takeOn 34 rfl (by kernel_rfl) (by kernel_rfl) (by kernel_rfl) rfl rfl rfl rfl (by assumption) (fun w hS=>Y.eqB rfl rfl (by kernel_rfl) hsml' hsml' (decide_eq_true rfl)) ?_
      refine AW.take 35 rfl (by kernel_rfl) (by kernel_rfl) (by kernel_rfl) rfl (by assumption) (fun w hS=>by exact Y.pickT rfl rfl) ?_
      refine AW.take 36 rfl (by kernel_rfl) (by kernel_rfl) (by kernel_rfl) rfl (by assumption) (fun w hS=>Y.assign rfl) ?_
      refine AW.donew [4] (by kernel_rfl) ?_
      dsimp only[H.keep,H.look,H.Fr.put,Nat.beq]
      repeat' ((refine CL.ret ?_))
      exact FQ.one rfl rfl rfl ⟨((hK0v.trans0 hkA1).trans0 hkG).trans0 hkHI,rfl⟩
end Go.Proofs.YtbhbdeelpopgoaaGreatDoor.E

set_option linter.constructorNameAsVariable false
set_option linter.unusedVariables false
namespace Go.Proofs.YtbhbdeelpopgoaaGreatDoor.E
open Go Go.RowKit H
def maskD(D:Nat):Nat:=D+64 * (63 - D)
theorem maskD_bit: ∀D,D < 64→∀s,s < 6→(maskD D).testBit s=D.testBit s∧(maskD D).testBit (6+s) = !(D.testBit s):=by decide +kernel
noncomputable def impB(a b:Bool):Bool:=Bool.rec (motive:=fun _=>Bool) true b a
theorem impB_of{a b:Bool}(h:a=true→b=true):impB a b=true:=by
 cases a with
 | false=>rfl
 | true=>exact h rfl
noncomputable def conB(c D:Nat):Bool:=List.rec (motive:=fun _=>Bool) true (fun s _ ih=>ifeV (impB (Nat.testBit c s) (Nat.testBit D s)) (ifeV (impB (Nat.testBit c (Nat.add 6 s)) (not (Nat.testBit D s))) ih false) false) [0,1,2,3,4,5]
theorem conB_of{c D:Nat}(h : ∀s,s < 6→(Nat.testBit c s=true→Nat.testBit D s=true)∧(Nat.testBit c (6+s)=true→Nat.testBit D s=false)):conB c D=true:=by
 have key : ∀l:List Nat,(∀s∈l,s < 6)→List.rec (motive:=fun _=>Bool) true (fun s _ ih=>ifeV (impB (Nat.testBit c s) (Nat.testBit D s)) (ifeV (impB (Nat.testBit c (Nat.add 6 s)) (not (Nat.testBit D s))) ih false) false) l=true:=by
  intro l
  induction l with
  | nil=>intro _; rfl
  | cons s l ih=>
   intro hl
   obtain⟨h1,h2⟩:=h s (hl s List.mem_cons_self)
   show ifeV (impB (Nat.testBit c s) (Nat.testBit D s)) (ifeV (impB (Nat.testBit c (Nat.add 6 s)) (not (Nat.testBit D s))) _ false) false=true
   rw[impB_of h1,impB_of fun e=>by rw[h2 e]; rfl]
   exact ih fun t ht=>hl t (List.mem_cons_of_mem _ ht)
 exact key [0,1,2,3,4,5] fun s hs=>by simp at hs; omega
noncomputable def csetK(c:Nat)(k:List Nat→Bool):Bool:=List.rec (motive:=fun _=>(List Nat→Bool)→Bool) (fun k=>k []) (fun D _ ih k=>ife (conB c D) (ih fun l=>k (D::l)) (ih k)) (List.range' 1 63) k
theorem csetK_ok{c:Nat}{k:List Nat→Bool}(hk:csetK c k=true): ∃l,k l=true∧∀D,1≤D→D < 64→conB c D=true→D∈l:=by
 have key : ∀(m:List Nat) (k:List Nat→Bool),List.rec (motive:=fun _=>(List Nat→Bool)→Bool) (fun k=>k []) (fun D _ ih k=>ife (conB c D) (ih fun l=>k (D::l)) (ih k)) m k=true→∃l,k l=true∧∀D∈m,conB c D=true→D∈l:=by
  intro m
  induction m with
  | nil=>intro k hk; exact⟨[],hk,fun D hD=>by cases hD⟩
  | cons D m ih=>
   intro k hk
   rcases ife_ok hk with ⟨_,hk⟩|⟨hc,hk⟩
   ·obtain⟨l,h1,h2⟩:=ih _ hk
    refine⟨D::l,h1,fun E hE hc=>?_⟩
    rcases List.mem_cons.1 hE with rfl|hE
    ·exact List.mem_cons_self
    ·exact List.mem_cons_of_mem _ (h2 E hE hc)
   ·obtain⟨l,h1,h2⟩:=ih _ hk
    refine⟨l,h1,fun E hE hc2=>?_⟩
    rcases List.mem_cons.1 hE with rfl|hE
    ·rw[hc] at hc2; cases hc2
    ·exact h2 E hE hc2
 obtain⟨l,h1,h2⟩:=key (List.range' 1 63) k hk
 exact⟨l,h1,fun D hD1 hD2 hc=>h2 D (by rw[List.mem_range'_1]; omega) hc⟩
theorem set_of(g:Sgs)(h:g.dd≠[]): ∃D,1≤D∧D < 64∧∀s,s < 6→D.testBit s=decide (s∈g.dd):=by
 have key : ∀b0 b1 b2 b3 b4 b5:Bool,∃D:Fin 64,D.1.testBit 0=b0∧D.1.testBit 1=b1∧D.1.testBit 2=b2∧D.1.testBit 3=b3∧D.1.testBit 4=b4∧D.1.testBit 5=b5:=by
  have k2 : ∀b0 b1 b2 b3 b4 b5:Bool,(cond b0 1 0+cond b1 2 0+cond b2 4 0+cond b3 8 0+cond b4 16 0+cond b5 32 0) < 64∧(cond b0 1 0+cond b1 2 0+cond b2 4 0+cond b3 8 0+cond b4 16 0+cond b5 32 0).testBit 0=b0∧(cond b0 1 0+cond b1 2 0+cond b2 4 0+cond b3 8 0+cond b4 16 0+cond b5 32 0).testBit 1=b1∧(cond b0 1 0+cond b1 2 0+cond b2 4 0+cond b3 8 0+cond b4 16 0+cond b5 32 0).testBit 2=b2∧(cond b0 1 0+cond b1 2 0+cond b2 4 0+cond b3 8 0+cond b4 16 0+cond b5 32 0).testBit 3=b3∧(cond b0 1 0+cond b1 2 0+cond b2 4 0+cond b3 8 0+cond b4 16 0+cond b5 32 0).testBit 4=b4∧(cond b0 1 0+cond b1 2 0+cond b2 4 0+cond b3 8 0+cond b4 16 0+cond b5 32 0).testBit 5=b5:=by decide +kernel
  exact fun b0 b1 b2 b3 b4 b5=>⟨⟨_,(k2 b0 b1 b2 b3 b4 b5).1⟩,(k2 b0 b1 b2 b3 b4 b5).2⟩
 obtain⟨⟨D,hD⟩,h0,h1,h2,h3,h4,h5⟩:=key (decide (0∈g.dd)) (decide (1∈g.dd)) (decide (2∈g.dd)) (decide (3∈g.dd)) (decide (4∈g.dd)) (decide (5∈g.dd))
 have hb : ∀s,s < 6→D.testBit s=decide (s∈g.dd):=fun s hs=>by
  match s,hs with
  | 0,_=>exact h0
  | 1,_=>exact h1
  | 2,_=>exact h2
  | 3,_=>exact h3
  | 4,_=>exact h4
  | 5,_=>exact h5
  | s+6,hs=>omega
 refine⟨D,Nat.one_le_iff_ne_zero.2 fun e=>h ?_,hD,hb⟩
 refine List.eq_nil_iff_forall_not_mem.2 fun s hs=>?_
 have:=hb s (dd_lt g s hs)
 rw[e,decide_eq_true hs] at this
 simp at this
theorem set_cd{g:Sgs}(h:g.dd≠[]){D:Nat}(hD:D < 64)(hb : ∀s,s < 6→D.testBit s=decide (s∈g.dd)):g.cd (maskD D):=by
 refine⟨h,fun s hs=>?_⟩
 obtain⟨h1,h2⟩:=maskD_bit D hD s hs
 rw[h1,h2,hb s hs]
 exact⟨fun e=>of_decide_eq_true e,fun e=>by simpa using e⟩
section
variable {P : Program}
noncomputable def solOne(callF:Nat→CallF)(f:FuncId)(nx:Nat)(t:Tr Blk)(i o z:Nat)(rest:List AV)(D:Nat)(k:AV→List Blk→Bool):Bool:=natK (maskD D) fun c=>callF nx f (.opq 1 i c o z::rest) ⟨nx,t⟩ (fun v h'=>canP nx nx h' v fun v3 L3=>k v3 L3) (fun _ _=>false)
noncomputable def solL(run:Nat→(AV→List Blk→Bool)→Bool)(v0:AV)(L0:List Blk)(k:Bool)(Ds:List Nat):Bool:=List.rec (motive:=fun _=>Bool) k (fun D _ ih=>run D fun v L=>ask (avEq v v0) (ask (blksEq L L0) ih)) Ds
noncomputable def solP(callF:Nat→CallF)(f:FuncId):Prim:=fun _ vs h kr _=>match vs with
 | .opq t1 i c o z::rest=>ask (Nat.beq t1 1) (Hp.rec (motive:=fun _=>Bool) (fun nx t=>csetK c fun Ds=>List.rec (motive:=fun _=>Bool) false (fun D Ds _=>solOne callF f nx t i o z rest D fun v0 L0=>solL (solOne callF f nx t i o z rest) v0 L0 (newsK L0 ⟨nx,t⟩ fun g=>kr v0 g) Ds) Ds) h)
 | _=>false
def SolOk(P:Program)(f:FuncId)(nx:Nat)(t:Tr Blk)(i o z:Nat)(rest:List AV)(D:Nat)(v0:AV)(L0:List Blk):Prop:=∀S w0 r w xs (fl:Nat),Rel S w0 fl r ⟨nx,t⟩ w→(∀j,j < L0.length→nx+j < LIM)→reals r (.opq 1 i (maskD D) o z::rest)=some xs→Calls P f xs.toArray w fun e w'=>∃r' x,e = .returned x∧Ext r r'∧Rel S w0 fl r' (L0.foldl Hp.new ⟨nx,t⟩) w'∧real r' v0=some x
theorem solOne_ok{callF:Nat→CallF}(hc : ∀fl,CallOk P fl (callF fl)){f:FuncId}{nx:Nat}{t:Tr Blk}{i o z:Nat}{rest:List AV}{D:Nat}{k:AV→List Blk→Bool}(hk:solOne callF f nx t i o z rest D k=true): ∃v L,k v L=true∧SolOk P f nx t i o z rest D v L:=by
 unfold solOne at hk
 rw[natK_eq] at hk
 rcases hc nx _ _ _ _ _ hk with ⟨u,h',hu,hC⟩|⟨_,_,hk,_⟩
 ·obtain⟨v',L,hk2,hP⟩:=canP_ok hu
  refine⟨v',L,hk2,fun S w0 r w xs fl hR hl hxs=>(hC _ w r w xs hR.floor hxs).mono ?_⟩
  rintro e w' ⟨r',x,rfl,hx,hR',hxv⟩
  obtain⟨r2,a1,a2,a3⟩:=hP hR rfl hR' hl hxv
  exact⟨r2,x,rfl,a1,a2,a3⟩
 ·cases hk
theorem solL_ok{callF:Nat→CallF}(hc : ∀fl,CallOk P fl (callF fl)){f:FuncId}{nx:Nat}{t:Tr Blk}{i o z:Nat}{rest:List AV}{v0:AV}{L0:List Blk}{k:Bool}: ∀{Ds:List Nat},solL (solOne callF f nx t i o z rest) v0 L0 k Ds=true→k=true∧∀D∈Ds,SolOk P f nx t i o z rest D v0 L0
 | [],h=>⟨h,fun D hD=>by cases hD⟩
 | D::Ds,h=>by
  obtain⟨v,L,h,hS⟩:=solOne_ok hc (show solOne callF f nx t i o z rest D (fun v L=>ask (avEq v v0) (ask (blksEq L L0) (solL (solOne callF f nx t i o z rest) v0 L0 k Ds)))=true from h)
  replace h:=ask_ok h; obtain⟨h1,h⟩:=h
  replace h:=ask_ok h; obtain⟨h2,h⟩:=h
  obtain rfl:=avEq_ok _ _ h1
  obtain rfl:=blksEq_ok h2
  obtain⟨hk,hD⟩:=solL_ok hc h
  refine⟨hk,fun E hE=>?_⟩
  rcases List.mem_cons.1 hE with rfl|hE
  ·exact hS
  ·exact hD E hE
theorem solP_ok{callF:Nat→CallF}(hc : ∀fl,CallOk P fl (callF fl))(fl:Nat)(f:FuncId):Pr1 P fl f (solP callF f):=by
 intro call _ g vs h kr kp hk
 rcases ife_ok hk with ⟨hb,hk2⟩|⟨_,hk2⟩
 ·obtain rfl:=Nat.eq_of_beq_eq_true hb
  clear hk hb
  unfold solP at hk2
  split at hk2
  ·rename_i t1 i c o z rest
   obtain⟨h1,hk⟩:=ask_ok hk2
   have h1:=Nat.eq_of_beq_eq_true h1; subst h1
   cases h with
   | mk nx t=>
    obtain⟨Ds,hk,hDs⟩:=csetK_ok (show csetK c _=true from hk)
    cases Ds with
    | nil=>cases hk
    | cons D0 Ds=>
     obtain⟨v0,L0,hk,hS0⟩:=solOne_ok hc (show solOne callF g nx t i o z rest D0 _=true from hk)
     obtain⟨hk,hS⟩:=solL_ok hc hk
     obtain⟨hkr,hl⟩:=newsK_ok hk
     refine .inl ⟨v0,_,hkr,fun S w0 r w xs hR hxs=>?_⟩
     obtain⟨u,us,hu,hus,rfl⟩:=reals_cons.1 hxs
     obtain⟨p,hp,a1,a2,a3,hcd,rfl⟩ : ∃p,r i=some p∧0 < z∧r.sg.dd.length * z≤p.2∧p.2 / z≤maxLen∧r.sg.cd c∧u = .slice (some ⟨p.1,0,none⟩) r.sg.dd.length (p.2 / z):=real_opq1 hu
     obtain⟨D,d1,d2,d3⟩:=set_of r.sg hcd.1
     have hcd2:=set_cd hcd.1 d2 d3
     have hcon:conB c D=true:=conB_of fun s hs=>by
      obtain⟨q1,q2⟩:=hcd.2 s hs
      rw[d3 s hs]
      exact⟨fun e=>decide_eq_true (q1 e),fun e=>decide_eq_false (q2 e)⟩
     have hSD:SolOk P g nx t i o z rest D v0 L0:=by
      rcases List.mem_cons.1 (hDs D d1 d2 hcon) with e|e
      ·exact e▸hS0
      ·exact hS D e
     refine hSD S w0 r w _ fl hR hl (reals_cons.2 ⟨_,_,?_,hus,rfl⟩)
     simp only[real]
     unfold opqR
     simp only[hp,Option.bind_some]
     rw[if_pos ⟨a1,a2,a3,hcd2⟩]
  ·cases hk2
 ·cases hk2
end
end Go.Proofs.YtbhbdeelpopgoaaGreatDoor.E

namespace Go.Proofs.YtbhbdeelpopgoaaGreatDoor.E
open Go
end Go.Proofs.YtbhbdeelpopgoaaGreatDoor.E

