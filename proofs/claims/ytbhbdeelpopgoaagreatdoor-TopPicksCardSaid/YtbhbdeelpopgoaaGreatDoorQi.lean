/-
  A registry of rows that tell nothing but versions, made: its rows, archives, text. The law's spans, as the reference reads them: which versions they have. Regions that draw their order and end in writes, with operations between the writes that touch no memory. Places put in order by the versions that stand there: made's sort of few numbers. made's sort, as an evaluator sees it: places become versions' places, the greatest version first. The tables of the functions that are told by themselves, one above the other. A law out of its run: where it begins, what it comes to. What the law does behind its archives: a life is made, a project begun, a need put in; run where rows are known by what is there. Calls that are told by a table: what is known before, what is known behind. stage.Build by a table: what comes of a pin and an archive's bytes, told under names of its own.
-/
import Derived.Test.YtbhbdeelpopgoaaGreatDoorQh
import Derived.Test.YtbhbdeelpopgoaaGreatDoorQe
set_option linter.unusedVariables false
set_option linter.unusedSimpArgs false
set_option linter.constructorNameAsVariable false
set_option linter.unusedVariables false
namespace Go.Proofs.YtbhbdeelpopgoaaGreatDoor.E
open Go Go.RowKit H
set_option maxRecDepth 100000
def lawC(v:Nat):List Value:=[.int .u8 1,.int .u8 (Int.ofNat v),.slice none 0 0,.int .u8 0,.int .u8 0]
noncomputable def lawA(s:Nat):AV:= .agg [.int .u8 (.ofNat 1),.sym .u8 0 6 s,.nils,.int .u8 (.ofNat 0),.int .u8 (.ofNat 0)]
def sgV(v:Nat):Sgs:=⟨fun _=>v,[]⟩
theorem sym_real{v s:Nat}{g:Nat→Option (Nat×Nat)}{ho:Nat→Prop}(h1:v % 6=s)(h2:v < 256):real ⟨g,ho,sgV v⟩ (.sym .u8 0 6 s)=some (.int .u8 (Int.ofNat v)):=by
 simp only[real]
 exact if_pos ⟨h1,h2⟩
theorem lawA_real{v s:Nat}{g:Nat→Option (Nat×Nat)}{ho:Nat→Prop}(h1:v % 6=s)(h2:v < 256):real ⟨g,ho,sgV v⟩ (lawA s)=some (.agg (lawC v).toArray):=by
 simp only[lawA,real,reals]
 rw[if_pos (show(sgV v).n 0 % 6=s∧(sgV v).n 0 < 256 from⟨h1,h2⟩)]
 rfl
noncomputable def y0R(T:List (FuncId×Prim))(f:FuncId)(vs:List AV)(v:AV):Bool:=callK P0 100 FU (tab T) (dr0 100) 50 f vs (memL [] hE) (fun u _=>avEq v u) (fun _ _=>false)
theorem y0Call{T:List (FuncId×Prim)}(hT:PrimOk P0 100 (tab T)){f:FuncId}{vs:List AV}{v:AV}(sg:Sgs)(hb:y0R T f vs v=true)(hv:flatA v=true){w:World}{xs:List Value}(hx:reals (rE sg) vs=some xs):Calls P0 f xs.toArray w fun e w'=>∃x,e = .returned x∧K0 w w'∧∀r,real r v=some x:=
 callL (l:=[]) (T:=T) hT hv hb (by decide) (ps:=[]) (sg:=sg) trivial hx
theorem vnK:([0,1,2,3,4,5].all fun s=>y0R [] 18 [.sym .u8 0 6 s] (.str (vtx s)))=true:=by kernel_rfl
theorem nmK:y0R [] 20 [.int .u8 (.ofNat 1)] (.str [98])=true:=by kernel_rfl
theorem verName{w:World}{v s:Nat}(hs:s < 6)(h1:v % 6=s)(h2:v < 256):Calls P0 18 #[.int .u8 (Int.ofNat v)] w fun e w'=>e = .returned (.string (B (textOf (vtx s))))∧K0 w w':=
 (y0Call (no_tab _) (sgV v) (all6 vnK hs) rfl (xs:=[.int .u8 (Int.ofNat v)]) (reals_cons.2 ⟨_,_,sym_real h1 h2,reals_nil,rfl⟩)).mono fun e w' ⟨x,e1,hk,hx⟩=>by
  have:=(hx (rE sg0)).symm.trans (str_real (vtx_bytes hs))
  cases this
  exact⟨e1,hk⟩
theorem packName{w:World}:Calls P0 20 #[.int .u8 1] w fun e w'=>e = .returned (.string (B (textOf [98])))∧K0 w w':=
 (y0Call (no_tab _) sg0 nmK rfl (xs:=[.int .u8 1]) (reals_cons.2 ⟨_,_,rfl,reals_nil,rfl⟩)).mono fun e w' ⟨x,e1,hk,hx⟩=>by
  have:=(hx (rE sg0)).symm.trans (str_real (r:=rE sg0) (s:=[98]) (by decide))
  cases this
  exact⟨e1,hk⟩
noncomputable def verX(u:AV)(h:Hp):Bool:=qTup u fun l=>nthK l 0 fun x=>qAgg x fun c=>nthK c 3 fun p=>ask (avEq (.tup [.agg (vL p 4),.int .i64 (.ofNat 0)]) u) (preV 100 p h)
theorem verX_ok{u:AV}{h:Hp}(hk:verX u h=true): ∃p,u = .tup [.agg (vL p 4),.int .i64 (.ofNat 0)]∧preV 100 p h=true:=by
 replace hk:=qTup_ok (x:=u) hk; obtain⟨l,rfl,hk⟩:=hk
 replace hk:=nthK_ok hk; obtain⟨x,hx,hk⟩:=hk
 replace hk:=qAgg_ok (x:=x) hk; obtain⟨c,rfl,hk⟩:=hk
 replace hk:=nthK_ok hk; obtain⟨p,hp,hk⟩:=hk
 replace hk:=ask_ok hk; obtain⟨e,hk⟩:=hk
 exact⟨p,(avEq_ok _ _ e).symm,hk⟩
theorem voK:([0,1,2,3,5].all fun s=>y0R [] 17 [.str (vtx s)] (.tup [.agg (vL .nils s),.int .i64 (.ofNat 0)]))=true:=by kernel_rfl
theorem voK4:callK P0 100 FU (tab []) (dr0 100) 50 17 [.str (vtx 4)] hE (fun u h=>verX u h) (fun _ _=>false)=true:=by kernel_rfl
theorem verOf{w:World}{s:Nat}(hs:s < 6):Calls P0 17 #[.string (B (textOf (vtx s)))] w fun e w'=>K0 w w'∧∃q,q.oneCell'=true∧e = .returned (.tuple #[.agg (vC q s).toArray,.int .i64 0])∧(s=4→PreB w.heap.size w' q):=by
 by_cases h4:s=4
 ·subst h4
  rcases callK_ok (no_tab 100) (dr0_ok 100) regs0 50 _ _ _ _ _ voK4 with ⟨u,h',hu,hC⟩|⟨_,_,hk,_⟩
  ·obtain⟨p,rfl,hpv⟩:=verX_ok hu
   refine(hC _ w (rE sg0) w [.string (B (textOf (vtx 4)))] (relE sg0 w) (reals_cons.2 ⟨_,_,str_real (vtx_bytes hs),reals_nil,rfl⟩)).mono ?_
   rintro e w' ⟨r',x,rfl,_,hR',hx⟩
   simp only[real,Option.map_eq_some_iff] at hx
   obtain⟨ys,hys,rfl⟩:=hx
   obtain⟨xg,ts,hxg,hts,rfl⟩:=reals_cons.1 hys
   obtain⟨zg,hzg,rfl⟩:=reals1 hts
   have hzg:=Option.some.inj hzg
   subst hzg
   simp only[real,Option.map_eq_some_iff] at hxg
   obtain⟨us,hus,rfl⟩:=hxg
   obtain⟨q,_,hq⟩:=reals_at (j:=3) hus (v:=p) rfl
   have e1:us=vC q 4:=Option.some.inj (hus.symm.trans (vLs_real fun _=>hq))
   obtain⟨q1,q2⟩:=preV_ok hpv hR' hq
   exact⟨hR'.kept,q,q1,by rw[e1]; rfl,fun _=>q2⟩
  ·cases hk
 ·have hm:s∈[0,1,2,3,5]:=by simp; omega
  have hf:flatA (.tup [.agg (vL .nils s),.int .i64 (.ofNat 0)])=true:=by
   have:([0,1,2,3,4,5].all fun s=>flatA (.tup [.agg (vL .nils s),.int .i64 (.ofNat 0)]))=true:=by kernel_rfl
   exact all6 this hs
  refine(y0Call (no_tab _) sg0 (List.all_eq_true.1 voK s hm) hf (xs:=[.string (B (textOf (vtx s)))]) (reals_cons.2 ⟨_,_,str_real (vtx_bytes hs),reals_nil,rfl⟩)).mono ?_
  rintro e w' ⟨x,rfl,hk,hx⟩
  have h2:=hx (rE sg0)
  have h3:real (rE sg0) (.tup [.agg (vL .nils s),.int .i64 (.ofNat 0)])=some (.tuple [.agg (vC (.bool true) s).toArray,.int .i64 0].toArray):=by
   simp only[real,reals,vLs_real (r:=rE sg0) (pre:= .nils) (q:= .bool true) fun z=>absurd z h4,Option.bind_some,Option.map_some]
   rfl
  rw[h3] at h2
  cases h2
  exact⟨hk,.bool true,rfl,rfl,fun z=>absurd z h4⟩
noncomputable def arcX(s:Nat)(v:AV)(h:Hp):Bool:=match v with
 | .sl j o n c=>ask (Nat.beq o 0) (ask (Nat.beq n (sizeOf' s)) (ask (Nat.ble 100 j) (cellsK h j fun t op _ cs=>ask (not op) (ask (Nat.beq t 5) (lenK cs fun m=>ask (Nat.beq m c) (ask (Nat.ble m 1000000) (takeK cs n fun l=>avEq (.agg l) (.agg (ints (arcB s))))))))))
 | .slx j o n z=>ask (Nat.beq o 0) (ask (Nat.beq z 1) (ask (Nat.beq n (sizeOf' s)) (ask (Nat.ble 100 j) (cellsK h j fun t op _ cs=>ask (Nat.beq t 5) (takeK cs n fun l=>avEq (.agg l) (.agg (ints (arcB s))))))))
 | _=>false
theorem arcX_ok{s:Nat}(hs:s < 6){v:AV}{h:Hp}(hk:arcX s v h=true){w w':World}{fl:Nat}{r:Ren}(hfl:fl=100)(hR:Rel (fun _=>False) w fl r h w'){x:Value}(hx:real r v=some x):ArcOne w.heap.size w' s x:=by
 subst hfl
 have hl:=arcB_len hs
 have fin : ∀j t op ro cs p,100≤j→h.at j=some (.cells t op ro cs)→r j=some p→Nat.beq t 5=true→avEq (.agg (cs.take (sizeOf' s))) (.agg (ints (arcB s)))=true→p.2≤maxLen→ArcOne w.heap.size w' s (.slice (some ⟨p.1,0,none⟩) (sizeOf' s) p.2):=by
  intro j t op ro cs p hj hb hp ht he hm
  have e:=avEq_ok _ _ he
  injection e with e
  rw[Nat.eq_of_beq_eq_true ht] at hb
  obtain⟨cc,fz,us,g1,g2,g3,g4,g5,_⟩:=hR.at hp hb
  have h1:=reals_take (sizeOf' s) g3
  rw[e,ints_real (arcB_bytes hs)] at h1
  have h1:=Option.some.inj h1
  have hcl:sizeOf' s≤cs.length:=by
   have:=congrArg List.length e
   rw[List.length_take] at this
   simp only[ints,List.length_map] at this
   omega
  have hul:=reals_len g3
  rcases hR.may j p hj hp with z|z
  ·exact z.elim
  refine⟨p.1,cc,fz,z,by rw[g2],g1,by omega,by rw[g2]; exact hm,?_⟩
  rw[h1,g4,List.take_take,Nat.min_eq_left (by omega)]
 unfold arcX at hk
 split at hk
 ·rename_i j o n c
  replace hk:=ask_ok hk; obtain⟨h1,hk⟩:=hk
  replace hk:=ask_ok hk; obtain⟨h2,hk⟩:=hk
  replace hk:=ask_ok hk; obtain⟨h3,hk⟩:=hk
  have h1:=Nat.eq_of_beq_eq_true h1; subst h1
  have h2:=Nat.eq_of_beq_eq_true h2; subst h2
  replace hk:=cellsK_ok hk; obtain⟨t,op,ro,cs,hb,hk⟩:=hk
  replace hk:=ask_ok hk; obtain⟨h4,hk⟩:=hk
  replace hk:=ask_ok hk; obtain⟨h5,hk⟩:=hk
  rw[lenK_eq] at hk
  replace hk:=ask_ok hk; obtain⟨h6,hk⟩:=hk
  replace hk:=ask_ok hk; obtain⟨h7,hk⟩:=hk
  have h7:=ble_le h7
  rw[takeK_eq] at hk
  have h6:=Nat.eq_of_beq_eq_true h6; subst h6
  simp only[real,Option.map_eq_some_iff] at hx
  obtain⟨p,hp,rfl⟩:=hx
  cases op with
  | true=>cases h4
  | false=>
   obtain⟨cc,fz,us,g1,g2,g3,g4,g5,g6,_⟩:=id (hR.at hp hb)
   have g7:=g6 rfl
   have g8:=reals_len g3
   have e:cs.length=p.2:=by omega
   rw[e]
   exact fin j t false ro cs p (ble_le h3) hb hp h5 hk (by rw[←e]; exact Nat.le_trans h7 (by decide))
 ·rename_i j o n z
  replace hk:=ask_ok hk; obtain⟨h1,hk⟩:=hk
  replace hk:=ask_ok hk; obtain⟨h2,hk⟩:=hk
  replace hk:=ask_ok hk; obtain⟨h3,hk⟩:=hk
  replace hk:=ask_ok hk; obtain⟨h4,hk⟩:=hk
  have h1:=Nat.eq_of_beq_eq_true h1; subst h1
  have h2:=Nat.eq_of_beq_eq_true h2; subst h2
  have h3:=Nat.eq_of_beq_eq_true h3; subst h3
  replace hk:=cellsK_ok hk; obtain⟨t,op,ro,cs,hb,hk⟩:=hk
  replace hk:=ask_ok hk; obtain⟨h5,hk⟩:=hk
  rw[takeK_eq] at hk
  obtain⟨p,hp,_,_,hm,rfl⟩:=real_slx hx
  have e:(p.2 - 0) / 1=p.2:=by simp
  rw[e] at hm ⊢
  exact fin j t op ro cs p (ble_le h4) hb hp h5 hk hm
 ·cases hk
noncomputable def arcR(s:Nat):Bool:=callK P0 100 FU (tab []) (dr0 100) 50 22 [lawA s] hE (fun v h=>callK P0 100 FU (tab []) (dr0 100) 50 21 [v] h (fun v2 h2=>arcX s v2 h2) (fun _ _=>false)) (fun _ _=>false)
theorem arcK0:arcR 0=true:=by kernel_rfl
theorem arcK1:arcR 1=true:=by kernel_rfl
theorem arcK2:arcR 2=true:=by kernel_rfl
theorem arcK3:arcR 3=true:=by kernel_rfl
theorem arcK4:arcR 4=true:=by kernel_rfl
theorem arcK5:arcR 5=true:=by kernel_rfl
theorem arcRs{s:Nat}(hs:s < 6):arcR s=true:=match s,hs with
 | 0,_=>arcK0|1,_=>arcK1|2,_=>arcK2|3,_=>arcK3|4,_=>arcK4|5,_=>arcK5
theorem arcCall{w:World}{v s:Nat}(hs:s < 6)(h1:v % 6=s)(h2:v < 256):Calls P0 22 #[.agg (lawC v).toArray] w fun e w1=>∃x,e = .returned x∧K0 w w1∧Calls P0 21 #[x] w1 fun e w2=>∃y,e = .returned y∧K0 w w2∧ArcOne w.heap.size w2 s y:=by
 rcases callK_ok (no_tab 100) (dr0_ok 100) regs0 50 _ _ _ _ _ (arcRs hs) with ⟨u,h',hu,hC⟩|⟨_,_,hk,_⟩
 ·refine(hC _ w (rE (sgV v)) w [.agg (lawC v).toArray] (relE _ w) (reals_cons.2 ⟨_,_,lawA_real h1 h2,reals_nil,rfl⟩)).mono ?_
  rintro e w1 ⟨r',x,rfl,hx',hR',hx⟩
  refine⟨x,rfl,hR'.kept,?_⟩
  rcases callK_ok (no_tab 100) (dr0_ok 100) regs0 50 _ _ _ _ _ hu with ⟨u2,h2',hu2,hC2⟩|⟨_,_,hk,_⟩
  ·refine(hC2 _ w r' w1 [x] hR' (reals_cons.2 ⟨_,_,hx,reals_nil,rfl⟩)).mono ?_
   rintro e w2 ⟨r2,y,rfl,_,hR2,hy⟩
   exact⟨y,rfl,hR2.kept,arcX_ok hs hu2 rfl hR2 hy⟩
  ·cases hk
 ·cases hk
noncomputable def tbO:List (FuncId×Prim):=[(23,fun _ vs h kr _=>sumP 22 5 shaT vs h fun v=>kr v h)]
noncomputable def ofL(s:Nat):List Blk:=[.cells 5 true true (ints (arcB s)),.cells 22 false true [.slx 100 0 (sizeOf' s) 1]]
noncomputable def ofR(s:Nat):Bool:=callK P0 102 FU (tab tbO) (dr0 102) 50 23 [.sl 101 0 1 1] (memL (ofL s) hE) (fun u _=>avEq (.agg (ints (sumOf s))) u) (fun _ _=>false)
theorem ofK:([0,1,2,3,4,5].all fun s=>ofR s)=true:=by kernel_rfl
abbrev OfOk:Prop:=∀x∈shaT,Bytes x.2∧SumOk P0 23 22 5 x.1 x.2
theorem ofCall(hO:OfOk){w:World}{s g:Nat}{y:Value}{fz:Nat×Nat}(hs:s < 6)(hy:ArcOne 0 w s y)(hb:w.heap[g]?=some (.cells #[y] 22 fz)):Calls P0 23 #[.slice (some ⟨g,0,none⟩) 1 1] w fun e w'=>e = .returned (.agg (bv (textOf (sumOf s))).toArray)∧K0 w w':=by
 obtain⟨ga,c,fz2,h0,rfl,h1,h2,h3,h4⟩:=hy
 have hne:g≠ga:=fun e=>by
  subst e
  rw[h1] at hb
  have hb:=Option.some.inj hb
  injection hb with _ e2 _
  exact absurd e2 (by decide)
 have hl:=arcB_len hs
 have hT:PrimOk P0 102 (tab tbO):=tab_ok (List.forall_mem_cons.2 ⟨sumP_ok hO,fun x hx=>by cases hx⟩)
 have hf:flatA (.agg (ints (sumOf s)))=true:=by
  have:([0,1,2,3,4,5].all fun s=>flatA (.agg (ints (sumOf s))))=true:=by kernel_rfl
  exact all6 this hs
 have hR : ∀r:Ren,r 100=some (ga,c.size)→real r (.slx 100 0 (sizeOf' s) 1)=some (.slice (some ⟨ga,0,none⟩) (sizeOf' s) c.size):=fun r hr=>by
  simp only[real,hr,Option.bind_some]
  rw[if_pos ⟨by decide,by omega,by simpa using h3⟩]
  simp
 refine(callL hT hf (all6 ofK hs) (l:=ofL s) (by show 2≤1000; decide) (ps:=[(ga,c.size),(g,1)]) (sg:=sg0) ⟨?_,?_,?_⟩ (xs:=[.slice (some ⟨g,0,none⟩) 1 1]) (reals_cons.2 ⟨_,_,?_,reals_nil,rfl⟩)).mono ?_
 ·intro q hq; rw[List.mem_singleton.1 hq]; exact hne
 ·exact⟨c,fz2,_,h1,rfl,ints_real (arcB_bytes hs),by rw[ints_len,hl]; exact h4.symm,by rw[ints_len,hl]; exact h2,(fun z=>by cases z),fun z=>by cases z⟩
 ·refine⟨(fun q hq=>by cases hq),⟨#[_],fz,_,hb,rfl,reals_cons.2 ⟨_,_,hR _ rfl,reals_nil,rfl⟩,rfl,Nat.le_refl _,(fun _=>rfl),fun z=>by cases z⟩,trivial⟩
 ·simp only[real]
  rfl
 ·rintro e w' ⟨x,rfl,hk,hx⟩
  have h5:=hx (rE sg0)
  simp only[real,ints_real (sumOf_bytes s),Option.map_some] at h5
  cases h5
  exact⟨rfl,hk⟩
section
variable {f : Fr} {w : World} {d : Nat} {ty : TypeId} {pos : String} {af : Array Edge}
theorem rowBuild(q:Value)(s:Nat){o0 o1 o2 o3:Operand}(h0:f.ev o0=some (.string (B (textOf [98]))))(h1:f.ev o1=some (.agg (vC q s).toArray))(h2:f.ev o2=some (.agg (bv (textOf (sumOf s))).toArray))(h3:f.ev o3=some (.int .i64 (sizeOf' s:Int))):Yd Tryz.prog f (op1 d (.build 46 #[(0,o0),(1,o1),(2,o2),(3,o3)]) ty pos af) (.agg (rowC q s).toArray) w:=by
 have hl:(bv (textOf (sumOf s))).length=32:=by simp[textOf,sumOf_len]
 generalize hB:bv (textOf (sumOf s))=bs at *
 refine Y.build (ps:=[(0,o0),(1,o1),(2,o2),(3,o3)]) (l:=[.string (B (textOf [98])),.agg (vC q s).toArray,.agg bs.toArray,.int .i64 (sizeOf' s:Int)]) ?_ ?_
 ·simp[H.Fr.evs,h0,h1,h2,h3]
 ·show Instr.fill _ _ [(0,_),(1,_),(2,_),(3,_)]=_
  rw[fill_one 1 0 _ 0 (.string (B (textOf [98]))) _ _ rfl rfl (Nat.le_of_ble_eq_true rfl)]
  rw[fill_one 4 1 _ 1 (.agg (vC q s).toArray) _ _ rfl rfl (Nat.le_of_ble_eq_true rfl)]
  rw[fill_one 32 5 _ 2 (.agg bs.toArray) _ _ rfl (by simpa [Value.cells] using hl) (Nat.le_of_ble_eq_true rfl)]
  rw[fill_one 1 37 _ 3 (.int .i64 (sizeOf' s:Int)) _ _ rfl rfl (by show 37+1≤([Value.string (B (textOf [98]))]++vC q s++bs++[Value.int .i64 0,Value.slice none 0 0]).length; simp[hl,vC])]
  rw[fill_nil]
  have hA : ∀(X Z:List Value) (u:Value),X.length=37→(X++Z).take 37++[u]++(X++Z).drop (37+1)=X++[u]++Z.drop 1:=fun X Z u hX=>by rw[List.take_left' hX,List.drop_append,hX]; simp[hX]
  refine congrArg some (congrArg List.toArray ?_)
  refine(hA ([Value.string (B (textOf [98]))]++vC q s++bs) [.int .i64 0,.slice none 0 0] (.int .i64 (sizeOf' s:Int)) (by simp[hl,vC])).trans ?_
  simp[rowC,hB]
end
theorem ddAcc_snoc: ∀(l acc:List Nat) (v:Nat),ddAcc acc (l++[v])=if v % 6∈ddAcc acc l then ddAcc acc l else ddAcc acc l++[v % 6]
 | [],acc,v=>rfl
 | x::l,acc,v=>by
  rw[List.cons_append,ddAcc]
  conv=>rhs; rw[show ddAcc acc (x::l)=if x % 6∈acc then ddAcc acc l else ddAcc (acc++[x % 6]) l from rfl]
  split
  ·exact ddAcc_snoc l acc v
  ·exact ddAcc_snoc l _ v
theorem ddAcc_ne: ∀{l acc:List Nat},acc≠[]∨l≠[]→ddAcc acc l≠[]
 | [],acc,h=>h.elim id fun z=>absurd rfl z
 | x::l,acc,h=>by
  rw[ddAcc]
  split
  ·rename_i hm
   exact ddAcc_ne (.inl fun e=>by rw[e] at hm; cases hm)
  ·exact ddAcc_ne (.inl (by simp))
structure MadeI (b0:Nat) (w:World) (L:List Nat) (u a q:Value) (f:Nat→Value):Prop where
 rows:w.ownsRow b0 46 39 u L.length (L.flatMap (rowC q))
 arcs:w.ownsRow b0 22 1 a L.length (L.map f)
 each:ArcsAt b0 w L f
 one:q.oneCell'=true
 pre:4∈L→PreB b0 w q
 gar:L≠[]→∃g c fz,b0≤g∧w.heap[g]?=some (.cells c 41 fz)
theorem MadeI.keep{b0:Nat}{w w':World}{L:List Nat}{u a q:Value}{f:Nat→Value}(h:MadeI b0 w L u a q f)(k:K0 w w'):MadeI b0 w' L u a q f:=
 ⟨own_kept0 h.rows k,own_kept0 h.arcs k,fun s hs=>(h.each s hs).keep k,h.one,fun m=>(h.pre m).keep k,fun n=>by
  obtain⟨g,c,fz,h1,h2⟩:=h.gar n
  exact⟨g,c,fz,h1,k.at0 h2⟩⟩
theorem MadeI.rws{b0:Nat}{w:World}{L:List Nat}{u a q:Value}{f:Nat→Value}(h:MadeI b0 w L u a q f)(h6 : ∀s∈L,s < 6)(hn:L.Nodup):RwsAt w q L u:=⟨Sl.of_own h.rows,fun m=>(h.pre m).pre,h6,few_of hn h6⟩
attribute [local irreducible] H.CL H.RW H.CW H.Yd H.thenK H.blockQ Go.Calls
set_option maxHeartbeats 2000000 in
theorem made(hO:OfOk){w:World}{v:Value}{ws:List Nat}(hv:Sl w 5 v ws.length (ws.flatMap lawC))(hw : ∀x∈ws,x < 256)(hl:ws.length≤8):Calls Tryz.prog 5 #[v] w fun e w'=>K0 w w'∧∃u a q f,e = .returned (.tuple #[u,a,.string (B (rowsT (ddAcc [] ws)))])∧MadeI w.heap.size w' (ddAcc [] ws) u a q f:=by
 refine H.enter Tryz.func5 Tryz.ntmps5 rfl rfl ?_; dsimp only[H.args]
 repeat' (first|(refine CL.seq ?_)|(refine CL.region ?_)|(refine CL.block ?_)|(refine Gt.nil ?_; refine RW.nilw [0,2,3,4,5,6,7,8,11,12,13,14,15,16,17,18,19,21,25,50,63,85,86,94,100,107,119,153,167,187] ?_; dsimp only[H.keep,H.look,H.Fr.put,Nat.beq])|(refine Gt.assign ?_; refine RW.y (Y.assign rfl) rfl ?_))
 refine CL.loopS [0,5,6,7] (fun k vals wr=>∃(i:Nat) (u a q:Value) (f:Nat→Value),vals=[v,u,a,.int .i64 (i:Int)]∧k=ws.length - i∧i≤ws.length∧MadeI w.heap.size wr (ddAcc [] (ws.take i)) u a q f∧K0 w wr) ws.length ⟨_,rfl,0,_,_,.bool true,fun _=> .bool true,rfl,rfl,Nat.zero_le _,⟨World.ownsRow_nil _ _ _ _,World.ownsRow_nil _ _ _ _,(fun s hs=>by simp[ddAcc] at hs),rfl,(fun m=>by simp[ddAcc] at m),(fun n=>absurd rfl n)⟩,Kept.refl _ _⟩ ?_
 rintro k vals wr ⟨i,u,a,q,f,rfl,rfl,hi,hI,hKr⟩
 dsimp only[List.zip,List.zipWith]
 have hsr:=hv.keep0 hKr
 have hL6 : ∀s∈ddAcc [] (ws.take i),s < 6:=ddAcc_lt fun s hs=>by cases hs
 have hLn:(ddAcc [] (ws.take i)).Nodup:=ddAcc_nodup (by simp)
 have hLf:=few_of hLn hL6
 rcases Nat.lt_or_ge i ws.length with hlt|hge
 ·have hti:((i:Int)).toNat=i:=Int.toNat_natCast i
  obtain⟨x,hxL⟩ : ∃x,ws[i]?=some x:=⟨ws[i],List.getElem?_eq_getElem hlt⟩
  have hx2:=hw x (List.mem_of_getElem? hxL)
  have hxd:ws.getD ((i:Int)).toNat default=x:=by rw[hti,List.getD_eq_getElem?_getD,hxL]; rfl
  obtain⟨s,hxs⟩ : ∃s,x % 6=s:=⟨_,rfl⟩
  have h6:s < 6:=by omega
  have hdd:=ddAcc_snoc (ws.take i) [] x
  rw[←take_snoc' hxL,hxs] at hdd
  generalize ddAcc [] (ws.take i)=L at *
  repeat' (first|(refine CL.seq ?_)|(refine CL.region ?_)|(refine CL.skip ?_)|(refine CL.condP rfl (fun _=>?_) (fun _=>?_) <;> try (exfalso; omega))|(refine Gt.nil ?_; refine RW.nilw [0,2,3,4,5,6,7,8,11,12,13,14,15,16,17,18,19,21,25,50,63,85,86,94,100,107,119,153,167,187] ?_; dsimp only[H.keep,H.look,H.Fr.put,Nat.beq])|(refine Gt.move ?_; refine RW.y (Y.move rfl) rfl ?_)|(refine Gt.len ?_; (refine RW.y (Y.lenx rfl (by assumption)) rfl ?_))|(refine Gt.lss ?_; (refine RW.y (Y.lss rfl rfl) rfl ?_)))
  refine CL.block ?_
  repeat' (first|(refine CL.seq ?_)|(refine CL.region ?_)|(refine Gt.move ?_; refine RW.y (Y.move rfl) rfl ?_)|(refine Gt.idx ?_; (refine RW.elemF rfl rfl rfl rfl rfl rfl (by assumption) (fun _=>by rfl) rfl (by omega) (by omega) (by rfl) (fun _ _=>?_))))
  rw[hxd]
  refine RW.fn rfl rfl ((verName h6 hxs hx2).mono ?_)
  rintro e w1 ⟨rfl,hk1⟩
  refine RW.fn rfl rfl ((verOf h6).mono ?_)
  rintro e w2 ⟨hk2,q2,hq2,rfl,hp2⟩
  repeat' (first|(refine Gt.move ?_; refine RW.y (Y.move rfl) rfl ?_)|(refine Gt.extract ?_; refine RW.y (Y.extract rfl rfl) rfl ?_))
  refine RW.varN rfl rfl rfl (fun z hz=>vC_one q2 hq2 s z (by simpa using hz)) rfl (fun w3 hb3 hk3 hlt3=>?_)
  have hz1:=hk1.size
  have hz2:=hk2.size
  have hzr:=hKr.size
  have hK3:=(hk1.trans0 hk2).trans0 hk3
  have hp3:s=4→PreB wr.heap.size w3 q2:=fun e=>((hp2 e).low hz1).keep hk3
  have hrw3:RwsAt w3 q L u:=(hI.rws hL6 hLn).keep0 hK3
  repeat' (first|(refine CL.seq ?_)|(refine Gt.nil ?_; refine RW.nilw [0,2,3,4,5,6,7,8,11,12,13,14,15,16,17,18,19,21,25,50,63,85,86,94,100,107,119,153,167,187] ?_; dsimp only[H.keep,H.look,H.Fr.put,Nat.beq])|(refine Gt.assign ?_; refine RW.y (Y.assign rfl) rfl ?_))
  refine CL.cutS [0,5,6,7,8,11] (fun vals wx=>vals=[v,u,a,.int .i64 (i:Int),.pointer (some ⟨w2.heap.size,0,none⟩),.bool (decide (s∈L))]∧K0 w3 wx) (by simp) ?_ ?_
  ·refine CL.draw (fun w'=>K0 w3 w') (by kernel_rfl) (fun wc hheap hkc=>?_)
   have hS:K0 w3 wc:=hkc
   have hsr3:=hsr.keep0 hK3
   obtain⟨g,o,hsp,hcl⟩:=elSpot hsr (enc:=lawC) (fun _=>rfl) (i:=(i:Int)) (by omega) (by omega)
   rw[hxd] at hcl
   have hcl3 : ∀w',K0 w3 w'→w'.cell? ⟨g,o+0,none⟩=some (.int .u8 1):=fun w' k=>hcl w' (hK3.trans0 k) 0 _ rfl
   skip
   refine AW.take 0 rfl (by kernel_rfl) (by kernel_rfl) (by kernel_rfl) rfl (by assumption) (fun w hS=>Y.move rfl) ?_
   refine AW.take 1 rfl (by kernel_rfl) (by kernel_rfl) (by kernel_rfl) rfl (by assumption) (fun w hS=>Y.move rfl) ?_
   refine AW.take 2 rfl (by kernel_rfl) (by kernel_rfl) (by kernel_rfl) rfl (by assumption) (fun w hS=>Y.move rfl) ?_
   refine AW.take 3 rfl (by kernel_rfl) (by kernel_rfl) (by kernel_rfl) rfl (by assumption) (fun w hS=>Y.idx rfl rfl (hsr3.keep0 hS) (by omega) (by omega)) ?_
   refine AW.take 4 rfl (by kernel_rfl) (by kernel_rfl) (by kernel_rfl) rfl (by assumption) (fun w hS=>Y.fieldAddr (congrArg (fun a=>some (Value.pointer (some a))) hsp) (by rfl)) ?_
   refine AW.take 5 rfl (by kernel_rfl) (by kernel_rfl) (by kernel_rfl) rfl (by assumption) (fun w hS=>Y.load1A rfl (hcl3 _ hS)) ?_
   refine AW.take 7 rfl (by kernel_rfl) (by kernel_rfl) (by kernel_rfl) rfl (by assumption) (fun w hS=>Y.loadBlock rfl (hS.at0 hb3) rfl) ?_
   refine AW.two 6 12 rfl rfl (by kernel_rfl) ?_ ?_
   ·refine RW.fn rfl rfl (packName.mono ?_)
    rintro e wc' ⟨rfl,hkc'⟩
    have hS:=hS.trans0 hkc'
    try replace hba:=Kept.at0 hkc' hba
    try replace hbb:=Kept.at0 hkc' hbb
    refine RW.nil (Nm.then ⟨hS,?_⟩)
    refine AW.two 8 12 rfl rfl (by kernel_rfl) ?_ ?_
    ·refine RW.fn rfl rfl ((refFind (hrw3.keep0 hS) (fun _=>hI.one) h6 (fun e=>(hp3 e).pre.keep hS)).mono ?_)
     rintro e wd ⟨hkd,cF,rfl,hcF,hcF1⟩
     have hS:=hS.trans0 hkd
     try replace hba:=Kept.at0 hkd hba
     refine RW.nil (Nm.then ⟨hS,?_⟩)
     refine AW.take 9 rfl (by kernel_rfl) (by kernel_rfl) (by kernel_rfl) rfl (by assumption) (fun w hS=>Y.move rfl) ?_
     refine AW.take 10 rfl (by kernel_rfl) (by kernel_rfl) (by kernel_rfl) rfl (by assumption) (fun w hS=>Y.extract rfl rfl) ?_
     refine AW.take 11 rfl (by kernel_rfl) (by kernel_rfl) (by kernel_rfl) rfl (by assumption) (fun w hS=>Y.extract rfl rfl) ?_
     refine AW.next 12 rfl (by kernel_rfl) ?_
     have hga:=hS.size
     refine RW.alloc rfl (fun wa hba hka hlta=>?_)
     have hS:=hS.trans0 hka
     refine RW.nil (Nm.then ⟨hS,?_⟩)
     refine AW.next 13 rfl (by kernel_rfl) ?_
     refine RW.storeBlock rfl rfl (by rw[List.size_toArray,hcF]; rfl) (fun z hz=>hcF1 z (by simpa using hz)) hba rfl (fun wd hbd hkd=>?_)
     have hS:=hS.trans hkd fun k h=> .inr (by omega)
     refine RW.nil (Nm.then ⟨hS,?_⟩)
     refine AW.take 14 rfl (by kernel_rfl) (by kernel_rfl) (by kernel_rfl) rfl (by assumption) (fun w hS=>Y.assign rfl) ?_
     refine AW.donew [0,5,6,7,8,11] (by kernel_rfl) ?_
     dsimp only[H.keep,H.look,H.Fr.put,Nat.beq]
     repeat' (first|(refine CL.done ?_)|(refine Nm.then ?_))
     exact⟨_,rfl,rfl,rfl,rfl,hS⟩
    ·have hga:=hS.size
     refine RW.alloc rfl (fun wa hba hka hlta=>?_)
     have hS:=hS.trans0 hka
     refine RW.nil (Nm.then ⟨hS,?_⟩)
     refine AW.next 8 rfl (by kernel_rfl) ?_
     refine RW.fn rfl rfl ((refFind (hrw3.keep0 hS) (fun _=>hI.one) h6 (fun e=>(hp3 e).pre.keep hS)).mono ?_)
     rintro e wd ⟨hkd,cF,rfl,hcF,hcF1⟩
     have hS:=hS.trans0 hkd
     try replace hba:=Kept.at0 hkd hba
     refine RW.nil (Nm.then ⟨hS,?_⟩)
     refine AW.take 9 rfl (by kernel_rfl) (by kernel_rfl) (by kernel_rfl) rfl (by assumption) (fun w hS=>Y.move rfl) ?_
     refine AW.take 10 rfl (by kernel_rfl) (by kernel_rfl) (by kernel_rfl) rfl (by assumption) (fun w hS=>Y.extract rfl rfl) ?_
     refine AW.take 11 rfl (by kernel_rfl) (by kernel_rfl) (by kernel_rfl) rfl (by assumption) (fun w hS=>Y.extract rfl rfl) ?_
     refine AW.next 13 rfl (by kernel_rfl) ?_
     refine RW.storeBlock rfl rfl (by rw[List.size_toArray,hcF]; rfl) (fun z hz=>hcF1 z (by simpa using hz)) hba rfl (fun wd hbd hkd=>?_)
     have hS:=hS.trans hkd fun k h=> .inr (by omega)
     refine RW.nil (Nm.then ⟨hS,?_⟩)
     refine AW.take 14 rfl (by kernel_rfl) (by kernel_rfl) (by kernel_rfl) rfl (by assumption) (fun w hS=>Y.assign rfl) ?_
     refine AW.donew [0,5,6,7,8,11] (by kernel_rfl) ?_
     dsimp only[H.keep,H.look,H.Fr.put,Nat.beq]
     repeat' (first|(refine CL.done ?_)|(refine Nm.then ?_))
     exact⟨_,rfl,rfl,rfl,rfl,hS⟩
   ·have hga:=hS.size
    refine RW.alloc rfl (fun wa hba hka hlta=>?_)
    have hS:=hS.trans0 hka
    refine RW.nil (Nm.then ⟨hS,?_⟩)
    refine AW.next 6 rfl (by kernel_rfl) ?_
    refine RW.fn rfl rfl (packName.mono ?_)
    rintro e wc' ⟨rfl,hkc'⟩
    have hS:=hS.trans0 hkc'
    try replace hba:=Kept.at0 hkc' hba
    try replace hbb:=Kept.at0 hkc' hbb
    refine RW.nil (Nm.then ⟨hS,?_⟩)
    refine AW.next 8 rfl (by kernel_rfl) ?_
    refine RW.fn rfl rfl ((refFind (hrw3.keep0 hS) (fun _=>hI.one) h6 (fun e=>(hp3 e).pre.keep hS)).mono ?_)
    rintro e wd ⟨hkd,cF,rfl,hcF,hcF1⟩
    have hS:=hS.trans0 hkd
    try replace hba:=Kept.at0 hkd hba
    refine RW.nil (Nm.then ⟨hS,?_⟩)
    refine AW.take 9 rfl (by kernel_rfl) (by kernel_rfl) (by kernel_rfl) rfl (by assumption) (fun w hS=>Y.move rfl) ?_
    refine AW.take 10 rfl (by kernel_rfl) (by kernel_rfl) (by kernel_rfl) rfl (by assumption) (fun w hS=>Y.extract rfl rfl) ?_
    refine AW.take 11 rfl (by kernel_rfl) (by kernel_rfl) (by kernel_rfl) rfl (by assumption) (fun w hS=>Y.extract rfl rfl) ?_
    refine AW.next 13 rfl (by kernel_rfl) ?_
    refine RW.storeBlock rfl rfl (by rw[List.size_toArray,hcF]; rfl) (fun z hz=>hcF1 z (by simpa using hz)) hba rfl (fun wd hbd hkd=>?_)
    have hS:=hS.trans hkd fun k h=> .inr (by omega)
    refine RW.nil (Nm.then ⟨hS,?_⟩)
    refine AW.take 14 rfl (by kernel_rfl) (by kernel_rfl) (by kernel_rfl) rfl (by assumption) (fun w hS=>Y.assign rfl) ?_
    refine AW.donew [0,5,6,7,8,11] (by kernel_rfl) ?_
    dsimp only[H.keep,H.look,H.Fr.put,Nat.beq]
    repeat' (first|(refine CL.done ?_)|(refine Nm.then ?_))
    exact⟨_,rfl,rfl,rfl,rfl,hS⟩
  ·rintro vals wx ⟨rfl,hkx⟩
   dsimp only[List.zip,List.zipWith]
   have hKx:=hK3.trans0 hkx
   have hsx:=hsr.keep0 hKx
   by_cases hin:s∈L
   ·rw[decide_eq_true hin]
    rw[if_pos hin] at hdd
    repeat' (first|(refine CL.seq ?_)|(refine CL.region ?_)|(refine CL.condT rfl ?_)|(refine CL.exit ?_)|(refine Ex.hit ?_)|(refine CL.done ?_)|(refine Nm.then ?_)|(refine Gt.nil ?_; refine RW.nilw [0,2,3,4,5,6,7,8,11,12,13,14,15,16,17,18,19,21,25,50,63,85,86,94,100,107,119,153,167,187] ?_; dsimp only[H.keep,H.look,H.Fr.put,Nat.beq])|(refine Gt.move ?_; refine RW.y (Y.move rfl) rfl ?_)|(refine Gt.assign ?_; refine RW.y (Y.assign rfl) rfl ?_)|(refine Gt.add ?_; refine RW.y (Y.add64 rfl rfl (by omega) (by omega)) rfl ?_))
    exact⟨ws.length - (i+1),_,rfl,rfl,rfl,by omega,i+1,u,a,q,f,rfl,rfl,by omega,by rw[hdd]; exact hI.keep hKx,hKr.trans0 hKx⟩
   ·rw[decide_eq_false hin]
    rw[if_neg hin] at hdd
    repeat' (first|(refine CL.seq ?_)|(refine CL.region ?_)|(refine CL.skip ?_)|(refine CL.condF rfl ?_)|(refine Gt.nil ?_; refine RW.nilw [0,2,3,4,5,6,7,8,11,12,13,14,15,16,17,18,19,21,25,50,63,85,86,94,100,107,119,153,167,187] ?_; dsimp only[H.keep,H.look,H.Fr.put,Nat.beq])|(refine Gt.move ?_; refine RW.y (Y.move rfl) rfl ?_)|(refine Gt.idx ?_; (refine RW.elemA rfl rfl rfl rfl (by assumption) (fun _=>by rfl) rfl (by omega) (by omega) (fun _=>?_))))
    rw[hxd]
    refine RW.fn rfl rfl ((arcCall h6 hxs hx2).mono ?_)
    rintro e w4 ⟨x4,rfl,hk4,hpk⟩
    refine RW.fn rfl rfl (hpk.mono ?_)
    rintro e w5 ⟨y5,rfl,hk5,har0⟩
    have hzx:=hKx.size
    have hz5:=hk5.size
    have hK5:=hKx.trans0 hk5
    have hs5:=hsr.keep0 hK5
    have har:ArcOne 0 w5 s y5:=by
     obtain⟨g,c,fz,_,h⟩:=har0
     exact⟨g,c,fz,Nat.zero_le _,h⟩
    have hy2:=har.one.2
    have hy1:y5.cells.size=1:=by rw[hy2]; rfl
    have hsy:=har.sl h6
    have hsz:=size_few s
    obtain⟨py,cy,rfl,_⟩:=hsy.shape
    have hb3y:=(hkx.trans0 hk5).at0 hb3
    have hp5:s=4→PreB wr.heap.size w5 q2:=fun e=>(hp3 e).keep (hkx.trans0 hk5)
    repeat' (first|(refine CL.seq ?_)|(refine CL.region ?_)|(refine CL.skip ?_)|(refine CL.condP rfl (fun _=>?_) (fun _=>?_) <;> try (exfalso; omega))|(refine Gt.nil ?_; refine RW.nilw [0,2,3,4,5,6,7,8,11,12,13,14,15,16,17,18,19,21,25,50,63,85,86,94,100,107,119,153,167,187] ?_; dsimp only[H.keep,H.look,H.Fr.put,Nat.beq])|(refine Gt.move ?_; refine RW.y (Y.move rfl) rfl ?_)|(refine Gt.assign ?_; refine RW.y (Y.assign rfl) rfl ?_)|(refine Gt.idx ?_; (refine RW.elemF rfl rfl rfl rfl rfl rfl (by assumption) (fun _=>by rfl) rfl (by omega) (by omega) (by rfl) (fun _ _=>?_)))|(refine Gt.eql ?_; (refine RW.y (Y.eqi rfl rfl) rfl ?_))|(refine Gt.rem ?_; (refine RW.y (Y.remP rfl rfl (by omega) (by omega)) rfl ?_)))
    refine CL.cutS [0,5,6,7,12,13] (fun vals wz=>∃gr:Nat,vals=[v,u,a,.int .i64 (i:Int),.slice py (sizeOf' s) cy,.pointer (some ⟨gr,0,none⟩)]∧wz.heap[gr]?=some (.cells (rowC q2 s).toArray 46 (0,0))∧w5.heap.size≤gr∧K0 w5 wz) (by simp) ?_ ?_
    ·refine CL.draw (fun w'=>K0 w5 w') (by kernel_rfl) (fun wc hheap hkc=>?_)
     have hS:K0 w5 wc:=hkc
     obtain⟨g,o,hsp,hcl⟩:=elSpot hs5 (enc:=lawC) (fun _=>rfl) (i:=(i:Int)) (by omega) (by omega)
     rw[hxd] at hcl
     have hcly : ∀w',K0 w5 w'→w'.cell? ⟨g,o+0,none⟩=some (.int .u8 1):=fun w' k=>hcl w' k 0 _ rfl
     skip
     refine AW.take 0 rfl (by kernel_rfl) (by kernel_rfl) (by kernel_rfl) rfl (by assumption) (fun w hS=>Y.move rfl) ?_
     refine AW.take 1 rfl (by kernel_rfl) (by kernel_rfl) (by kernel_rfl) rfl (by assumption) (fun w hS=>Y.move rfl) ?_
     refine AW.take 2 rfl (by kernel_rfl) (by kernel_rfl) (by kernel_rfl) rfl (by assumption) (fun w hS=>Y.idx rfl rfl (hs5.keep0 hS) (by omega) (by omega)) ?_
     refine AW.take 3 rfl (by kernel_rfl) (by kernel_rfl) (by kernel_rfl) rfl (by assumption) (fun w hS=>Y.fieldAddr (congrArg (fun a=>some (Value.pointer (some a))) hsp) (by rfl)) ?_
     refine AW.take 4 rfl (by kernel_rfl) (by kernel_rfl) (by kernel_rfl) rfl (by assumption) (fun w hS=>Y.load1A rfl (hcly _ hS)) ?_
     refine AW.take 6 rfl (by kernel_rfl) (by kernel_rfl) (by kernel_rfl) rfl (by assumption) (fun w hS=>Y.loadBlock rfl (hS.at0 hb3y) rfl) ?_
     refine AW.take 7 rfl (by kernel_rfl) (by kernel_rfl) (by kernel_rfl) rfl (by assumption) (fun w hS=>Y.move rfl) ?_
     refine AW.take 10 rfl (by kernel_rfl) (by kernel_rfl) (by kernel_rfl) rfl (by assumption) (fun w hS=>Y.move rfl) ?_
     refine AW.take 11 rfl (by kernel_rfl) (by kernel_rfl) (by kernel_rfl) rfl (by assumption) (fun w hS=>Y.lenv rfl) ?_
     refine AW.three 5 8 13 (by kernel_rfl) rfl rfl rfl ?_ ?_ ?_
     ·refine RW.fn rfl rfl (packName.mono ?_)
      rintro e wc' ⟨rfl,hkc'⟩
      have hS:=hS.trans0 hkc'
      try replace hba:=Kept.at0 hkc' hba
      try replace hbb:=Kept.at0 hkc' hbb
      refine RW.nil (Nm.then ⟨hS,?_⟩)
      refine AW.two 8 13 rfl rfl (by kernel_rfl) ?_ ?_
      ·have hg8:=hS.size
       refine RW.build1 rfl hy1 rfl rfl (fun wb hbb hkb hltb=>?_)
       rw[hy2] at hbb
       have hS:=hS.trans0 hkb
       try replace hba:=Kept.at0 hkb hba
       refine RW.nil (Nm.then ⟨hS,?_⟩)
       refine AW.two 9 13 rfl rfl (by kernel_rfl) ?_ ?_
       ·refine RW.fn rfl rfl ((ofCall hO h6 (har.keep hS) hbb).mono ?_)
        rintro e we ⟨rfl,hke⟩
        have hS:=hS.trans0 hke
        try replace hba:=Kept.at0 hke hba
        refine RW.nil (Nm.then ⟨hS,?_⟩)
        refine AW.take 12 rfl (by kernel_rfl) (by kernel_rfl) (by kernel_rfl) rfl (by assumption) (fun w hS=>rowBuild q2 s rfl rfl rfl rfl) ?_
        refine AW.next 13 rfl (by kernel_rfl) ?_
        have hga:=hS.size
        refine RW.alloc rfl (fun wa hba hka hlta=>?_)
        have hS:=hS.trans0 hka
        try replace hbb:=Kept.at0 hka hbb
        refine RW.nil (Nm.then ⟨hS,?_⟩)
        refine AW.next 14 rfl (by kernel_rfl) ?_
        refine RW.storeBlock rfl rfl (by rw[List.size_toArray,rowC_len]; rfl) (fun z hz=>rowC_one q2 hq2 s z (by simpa using hz)) hba rfl (fun wd hbd hkd=>?_)
        have hS:=hS.trans hkd fun k h=> .inr (by omega)
        refine RW.nil (Nm.then ⟨hS,?_⟩)
        refine AW.donew [0,5,6,7,12,13] (by kernel_rfl) ?_
        dsimp only[H.keep,H.look,H.Fr.put,Nat.beq]
        repeat' (first|(refine CL.done ?_)|(refine Nm.then ?_))
        exact⟨_,rfl,rfl,rfl,_,rfl,hbd,by omega,hS⟩
       ·have hga:=hS.size
        refine RW.alloc rfl (fun wa hba hka hlta=>?_)
        have hS:=hS.trans0 hka
        try replace hbb:=Kept.at0 hka hbb
        refine RW.nil (Nm.then ⟨hS,?_⟩)
        refine AW.next 9 rfl (by kernel_rfl) ?_
        refine RW.fn rfl rfl ((ofCall hO h6 (har.keep hS) hbb).mono ?_)
        rintro e we ⟨rfl,hke⟩
        have hS:=hS.trans0 hke
        try replace hba:=Kept.at0 hke hba
        refine RW.nil (Nm.then ⟨hS,?_⟩)
        refine AW.take 12 rfl (by kernel_rfl) (by kernel_rfl) (by kernel_rfl) rfl (by assumption) (fun w hS=>rowBuild q2 s rfl rfl rfl rfl) ?_
        refine AW.next 14 rfl (by kernel_rfl) ?_
        refine RW.storeBlock rfl rfl (by rw[List.size_toArray,rowC_len]; rfl) (fun z hz=>rowC_one q2 hq2 s z (by simpa using hz)) hba rfl (fun wd hbd hkd=>?_)
        have hS:=hS.trans hkd fun k h=> .inr (by omega)
        refine RW.nil (Nm.then ⟨hS,?_⟩)
        refine AW.donew [0,5,6,7,12,13] (by kernel_rfl) ?_
        dsimp only[H.keep,H.look,H.Fr.put,Nat.beq]
        repeat' (first|(refine CL.done ?_)|(refine Nm.then ?_))
        exact⟨_,rfl,rfl,rfl,_,rfl,hbd,by omega,hS⟩
      ·have hga:=hS.size
       refine RW.alloc rfl (fun wa hba hka hlta=>?_)
       have hS:=hS.trans0 hka
       try replace hbb:=Kept.at0 hka hbb
       refine RW.nil (Nm.then ⟨hS,?_⟩)
       refine AW.next 8 rfl (by kernel_rfl) ?_
       have hg8:=hS.size
       refine RW.build1 rfl hy1 rfl rfl (fun wb hbb hkb hltb=>?_)
       rw[hy2] at hbb
       have hS:=hS.trans0 hkb
       try replace hba:=Kept.at0 hkb hba
       refine RW.nil (Nm.then ⟨hS,?_⟩)
       refine AW.next 9 rfl (by kernel_rfl) ?_
       refine RW.fn rfl rfl ((ofCall hO h6 (har.keep hS) hbb).mono ?_)
       rintro e we ⟨rfl,hke⟩
       have hS:=hS.trans0 hke
       try replace hba:=Kept.at0 hke hba
       refine RW.nil (Nm.then ⟨hS,?_⟩)
       refine AW.take 12 rfl (by kernel_rfl) (by kernel_rfl) (by kernel_rfl) rfl (by assumption) (fun w hS=>rowBuild q2 s rfl rfl rfl rfl) ?_
       refine AW.next 14 rfl (by kernel_rfl) ?_
       refine RW.storeBlock rfl rfl (by rw[List.size_toArray,rowC_len]; rfl) (fun z hz=>rowC_one q2 hq2 s z (by simpa using hz)) hba rfl (fun wd hbd hkd=>?_)
       have hS:=hS.trans hkd fun k h=> .inr (by omega)
       refine RW.nil (Nm.then ⟨hS,?_⟩)
       refine AW.donew [0,5,6,7,12,13] (by kernel_rfl) ?_
       dsimp only[H.keep,H.look,H.Fr.put,Nat.beq]
       repeat' (first|(refine CL.done ?_)|(refine Nm.then ?_))
       exact⟨_,rfl,rfl,rfl,_,rfl,hbd,by omega,hS⟩
     ·have hg8:=hS.size
      refine RW.build1 rfl hy1 rfl rfl (fun wb hbb hkb hltb=>?_)
      rw[hy2] at hbb
      have hS:=hS.trans0 hkb
      try replace hba:=Kept.at0 hkb hba
      refine RW.nil (Nm.then ⟨hS,?_⟩)
      refine AW.two 5 13 rfl rfl (by kernel_rfl) ?_ ?_
      ·refine RW.fn rfl rfl (packName.mono ?_)
       rintro e wc' ⟨rfl,hkc'⟩
       have hS:=hS.trans0 hkc'
       try replace hba:=Kept.at0 hkc' hba
       try replace hbb:=Kept.at0 hkc' hbb
       refine RW.nil (Nm.then ⟨hS,?_⟩)
       refine AW.two 9 13 rfl rfl (by kernel_rfl) ?_ ?_
       ·refine RW.fn rfl rfl ((ofCall hO h6 (har.keep hS) hbb).mono ?_)
        rintro e we ⟨rfl,hke⟩
        have hS:=hS.trans0 hke
        try replace hba:=Kept.at0 hke hba
        refine RW.nil (Nm.then ⟨hS,?_⟩)
        refine AW.take 12 rfl (by kernel_rfl) (by kernel_rfl) (by kernel_rfl) rfl (by assumption) (fun w hS=>rowBuild q2 s rfl rfl rfl rfl) ?_
        refine AW.next 13 rfl (by kernel_rfl) ?_
        have hga:=hS.size
        refine RW.alloc rfl (fun wa hba hka hlta=>?_)
        have hS:=hS.trans0 hka
        try replace hbb:=Kept.at0 hka hbb
        refine RW.nil (Nm.then ⟨hS,?_⟩)
        refine AW.next 14 rfl (by kernel_rfl) ?_
        refine RW.storeBlock rfl rfl (by rw[List.size_toArray,rowC_len]; rfl) (fun z hz=>rowC_one q2 hq2 s z (by simpa using hz)) hba rfl (fun wd hbd hkd=>?_)
        have hS:=hS.trans hkd fun k h=> .inr (by omega)
        refine RW.nil (Nm.then ⟨hS,?_⟩)
        refine AW.donew [0,5,6,7,12,13] (by kernel_rfl) ?_
        dsimp only[H.keep,H.look,H.Fr.put,Nat.beq]
        repeat' (first|(refine CL.done ?_)|(refine Nm.then ?_))
        exact⟨_,rfl,rfl,rfl,_,rfl,hbd,by omega,hS⟩
       ·have hga:=hS.size
        refine RW.alloc rfl (fun wa hba hka hlta=>?_)
        have hS:=hS.trans0 hka
        try replace hbb:=Kept.at0 hka hbb
        refine RW.nil (Nm.then ⟨hS,?_⟩)
        refine AW.next 9 rfl (by kernel_rfl) ?_
        refine RW.fn rfl rfl ((ofCall hO h6 (har.keep hS) hbb).mono ?_)
        rintro e we ⟨rfl,hke⟩
        have hS:=hS.trans0 hke
        try replace hba:=Kept.at0 hke hba
        refine RW.nil (Nm.then ⟨hS,?_⟩)
        refine AW.take 12 rfl (by kernel_rfl) (by kernel_rfl) (by kernel_rfl) rfl (by assumption) (fun w hS=>rowBuild q2 s rfl rfl rfl rfl) ?_
        refine AW.next 14 rfl (by kernel_rfl) ?_
        refine RW.storeBlock rfl rfl (by rw[List.size_toArray,rowC_len]; rfl) (fun z hz=>rowC_one q2 hq2 s z (by simpa using hz)) hba rfl (fun wd hbd hkd=>?_)
        have hS:=hS.trans hkd fun k h=> .inr (by omega)
        refine RW.nil (Nm.then ⟨hS,?_⟩)
        refine AW.donew [0,5,6,7,12,13] (by kernel_rfl) ?_
        dsimp only[H.keep,H.look,H.Fr.put,Nat.beq]
        repeat' (first|(refine CL.done ?_)|(refine Nm.then ?_))
        exact⟨_,rfl,rfl,rfl,_,rfl,hbd,by omega,hS⟩
      ·have hga:=hS.size
       refine RW.alloc rfl (fun wa hba hka hlta=>?_)
       have hS:=hS.trans0 hka
       try replace hbb:=Kept.at0 hka hbb
       refine RW.nil (Nm.then ⟨hS,?_⟩)
       refine AW.next 5 rfl (by kernel_rfl) ?_
       refine RW.fn rfl rfl (packName.mono ?_)
       rintro e wc' ⟨rfl,hkc'⟩
       have hS:=hS.trans0 hkc'
       try replace hba:=Kept.at0 hkc' hba
       try replace hbb:=Kept.at0 hkc' hbb
       refine RW.nil (Nm.then ⟨hS,?_⟩)
       refine AW.next 9 rfl (by kernel_rfl) ?_
       refine RW.fn rfl rfl ((ofCall hO h6 (har.keep hS) hbb).mono ?_)
       rintro e we ⟨rfl,hke⟩
       have hS:=hS.trans0 hke
       try replace hba:=Kept.at0 hke hba
       refine RW.nil (Nm.then ⟨hS,?_⟩)
       refine AW.take 12 rfl (by kernel_rfl) (by kernel_rfl) (by kernel_rfl) rfl (by assumption) (fun w hS=>rowBuild q2 s rfl rfl rfl rfl) ?_
       refine AW.next 14 rfl (by kernel_rfl) ?_
       refine RW.storeBlock rfl rfl (by rw[List.size_toArray,rowC_len]; rfl) (fun z hz=>rowC_one q2 hq2 s z (by simpa using hz)) hba rfl (fun wd hbd hkd=>?_)
       have hS:=hS.trans hkd fun k h=> .inr (by omega)
       refine RW.nil (Nm.then ⟨hS,?_⟩)
       refine AW.donew [0,5,6,7,12,13] (by kernel_rfl) ?_
       dsimp only[H.keep,H.look,H.Fr.put,Nat.beq]
       repeat' (first|(refine CL.done ?_)|(refine Nm.then ?_))
       exact⟨_,rfl,rfl,rfl,_,rfl,hbd,by omega,hS⟩
     ·have hga:=hS.size
      refine RW.alloc rfl (fun wa hba hka hlta=>?_)
      have hS:=hS.trans0 hka
      try replace hbb:=Kept.at0 hka hbb
      refine RW.nil (Nm.then ⟨hS,?_⟩)
      refine AW.two 5 8 rfl rfl (by kernel_rfl) ?_ ?_
      ·refine RW.fn rfl rfl (packName.mono ?_)
       rintro e wc' ⟨rfl,hkc'⟩
       have hS:=hS.trans0 hkc'
       try replace hba:=Kept.at0 hkc' hba
       try replace hbb:=Kept.at0 hkc' hbb
       refine RW.nil (Nm.then ⟨hS,?_⟩)
       refine AW.next 8 rfl (by kernel_rfl) ?_
       have hg8:=hS.size
       refine RW.build1 rfl hy1 rfl rfl (fun wb hbb hkb hltb=>?_)
       rw[hy2] at hbb
       have hS:=hS.trans0 hkb
       try replace hba:=Kept.at0 hkb hba
       refine RW.nil (Nm.then ⟨hS,?_⟩)
       refine AW.next 9 rfl (by kernel_rfl) ?_
       refine RW.fn rfl rfl ((ofCall hO h6 (har.keep hS) hbb).mono ?_)
       rintro e we ⟨rfl,hke⟩
       have hS:=hS.trans0 hke
       try replace hba:=Kept.at0 hke hba
       refine RW.nil (Nm.then ⟨hS,?_⟩)
       refine AW.take 12 rfl (by kernel_rfl) (by kernel_rfl) (by kernel_rfl) rfl (by assumption) (fun w hS=>rowBuild q2 s rfl rfl rfl rfl) ?_
       refine AW.next 14 rfl (by kernel_rfl) ?_
       refine RW.storeBlock rfl rfl (by rw[List.size_toArray,rowC_len]; rfl) (fun z hz=>rowC_one q2 hq2 s z (by simpa using hz)) hba rfl (fun wd hbd hkd=>?_)
       have hS:=hS.trans hkd fun k h=> .inr (by omega)
       refine RW.nil (Nm.then ⟨hS,?_⟩)
       refine AW.donew [0,5,6,7,12,13] (by kernel_rfl) ?_
       dsimp only[H.keep,H.look,H.Fr.put,Nat.beq]
       repeat' (first|(refine CL.done ?_)|(refine Nm.then ?_))
       exact⟨_,rfl,rfl,rfl,_,rfl,hbd,by omega,hS⟩
      ·have hg8:=hS.size
       refine RW.build1 rfl hy1 rfl rfl (fun wb hbb hkb hltb=>?_)
       rw[hy2] at hbb
       have hS:=hS.trans0 hkb
       try replace hba:=Kept.at0 hkb hba
       refine RW.nil (Nm.then ⟨hS,?_⟩)
       refine AW.next 5 rfl (by kernel_rfl) ?_
       refine RW.fn rfl rfl (packName.mono ?_)
       rintro e wc' ⟨rfl,hkc'⟩
       have hS:=hS.trans0 hkc'
       try replace hba:=Kept.at0 hkc' hba
       try replace hbb:=Kept.at0 hkc' hbb
       refine RW.nil (Nm.then ⟨hS,?_⟩)
       refine AW.next 9 rfl (by kernel_rfl) ?_
       refine RW.fn rfl rfl ((ofCall hO h6 (har.keep hS) hbb).mono ?_)
       rintro e we ⟨rfl,hke⟩
       have hS:=hS.trans0 hke
       try replace hba:=Kept.at0 hke hba
       refine RW.nil (Nm.then ⟨hS,?_⟩)
       refine AW.take 12 rfl (by kernel_rfl) (by kernel_rfl) (by kernel_rfl) rfl (by assumption) (fun w hS=>rowBuild q2 s rfl rfl rfl rfl) ?_
       refine AW.next 14 rfl (by kernel_rfl) ?_
       refine RW.storeBlock rfl rfl (by rw[List.size_toArray,rowC_len]; rfl) (fun z hz=>rowC_one q2 hq2 s z (by simpa using hz)) hba rfl (fun wd hbd hkd=>?_)
       have hS:=hS.trans hkd fun k h=> .inr (by omega)
       refine RW.nil (Nm.then ⟨hS,?_⟩)
       refine AW.donew [0,5,6,7,12,13] (by kernel_rfl) ?_
       dsimp only[H.keep,H.look,H.Fr.put,Nat.beq]
       repeat' (first|(refine CL.done ?_)|(refine Nm.then ?_))
       exact⟨_,rfl,rfl,rfl,_,rfl,hbd,by omega,hS⟩
    ·rintro vals wz ⟨gr,rfl,hbz,hgr,hkz⟩
     dsimp only[List.zip,List.zipWith]
     have hKz:=hK5.trans0 hkz
     have hsz':=hsr.keep0 hKz
     have hIz:=hI.keep hKz
     have harz:=har0.keep hkz
     have hpz:s=4→PreB wr.heap.size wz q2:=fun e=>(hp5 e).keep hkz
     have hbvz:=hkz.at0 hb3y
     have hzz:=hkz.size
     repeat' (first|(refine CL.seq ?_)|(refine CL.region ?_)|(refine CL.skip ?_)|(refine CL.condP rfl (fun _=>?_) (fun _=>?_) <;> try (exfalso; omega))|(refine CL.block ?_)|(refine CL.done ?_)|(refine Nm.block ?_)|(refine Gt.nil ?_; refine RW.nilw [0,2,3,4,5,6,7,8,11,12,13,14,15,16,17,18,19,21,25,50,63,85,86,94,100,107,119,153,167,187] ?_; dsimp only[H.keep,H.look,H.Fr.put,Nat.beq])|(refine Gt.move ?_; refine RW.y (Y.move rfl) rfl ?_)|(refine Gt.assign ?_; refine RW.y (Y.assign rfl) rfl ?_)|(refine Gt.idx ?_; (refine RW.elemF rfl rfl rfl rfl rfl rfl (by assumption) (fun _=>by rfl) rfl (by omega) (by omega) (by rfl) (fun _ _=>?_)))|(refine Gt.eql ?_; (refine RW.y (Y.eqi rfl rfl) rfl ?_))|(refine Gt.rem ?_; (refine RW.y (Y.remP rfl rfl (by omega) (by omega)) rfl ?_)))
     refine CL.loopS [0,5,6,7,12,13,14] (fun k vals wn=>vals=[v,u,a,.int .i64 (i:Int),.slice py (sizeOf' s) cy,.pointer (some ⟨gr,0,none⟩),.int .i64 0]∧wn=wz) 0 ⟨_,rfl,rfl,rfl⟩ ?_
     rintro k vals wn ⟨rfl,rfl⟩
     dsimp only[List.zip,List.zipWith]
     repeat' (first|(refine CL.seq ?_)|(refine CL.region ?_)|(refine CL.condP rfl (fun _=>?_) (fun _=>?_) <;> try (exfalso; omega))|(refine CL.exit ?_)|(refine Ex.then ?_)|(refine Ex.hit ?_)|(refine Gt.nil ?_; refine RW.nilw [0,2,3,4,5,6,7,8,11,12,13,14,15,16,17,18,19,21,25,50,63,85,86,94,100,107,119,153,167,187] ?_; dsimp only[H.keep,H.look,H.Fr.put,Nat.beq])|(refine Gt.move ?_; refine RW.y (Y.move rfl) rfl ?_)|(refine Gt.idx ?_; (refine RW.elemF rfl rfl rfl rfl rfl rfl (by assumption) (fun _=>by rfl) rfl (by omega) (by omega) (by rfl) (fun _ _=>?_)))|(refine Gt.len ?_; (refine RW.y (Y.lenv rfl) rfl ?_))|(refine Gt.lss ?_; (refine RW.y (Y.lss rfl rfl) rfl ?_)))
     refine RW.y (Y.loadBlock rfl hbz (by rw[List.size_toArray,rowC_len]; rfl)) rfl ?_
     refine RW.app1 rfl rfl rfl rfl hIz.rows rfl (by show(rowC q2 s).toArray.size=39; rw[List.size_toArray,rowC_len]) rfl rfl (fun y hy=>rowC_one q2 hq2 s y (by simpa [Value.cells] using hy)) (by omega) (by omega) (by omega) (fun u' w8 how8 hk8 hl8=>?_)
     have how8':w8.ownsRow w.heap.size 46 39 u' (L.length+1) (L.flatMap (rowC q)++rowC q2 s):=by simpa [Value.cells] using how8
     have kp8 : ∀(g:Nat) (c:Array Value) (fz:Nat×Nat) (t2:TypeId),wn.heap[g]?=some (.cells c t2 fz)→46≠t2→w8.heap[g]?=wn.heap[g]?:=fun g c fz t2 hg ht=>keepO hIz.rows hk8 hg ht
     have harc8:=own_keepG hIz.arcs fun g c fz hg=>kp8 g c fz _ hg (by decide)
     have hz8:=hk8.size
     repeat' ((refine Gt.move ?_; refine RW.y (Y.move rfl) rfl ?_))
     refine RW.app1 rfl rfl rfl rfl harc8 rfl hy1 rfl rfl (fun y hy=>by rw[hy2] at hy; simp at hy; rw[hy]; exact har.one.1) (by omega) (by omega) (by omega) (fun a' w9 how9 hk9 hl9=>?_)
     have kp9 : ∀(g:Nat) (c:Array Value) (fz:Nat×Nat) (t2:TypeId),w8.heap[g]?=some (.cells c t2 fz)→22≠t2→w9.heap[g]?=w8.heap[g]?:=fun g c fz t2 hg ht=>keepO harc8 hk9 hg ht
     rw[hy2] at how9
     have kp : ∀(g:Nat) (c:Array Value) (fz:Nat×Nat) (t2:TypeId),wn.heap[g]?=some (.cells c t2 fz)→46≠t2→22≠t2→w9.heap[g]?=wn.heap[g]?:=fun g c fz t2 hg h1 h2=>(kp9 g c fz t2 ((kp8 g c fz t2 hg h1).trans hg) h2).trans (kp8 g c fz t2 hg h1)
     have kpP : ∀{b0:Nat} {z:Value},PreB b0 wn z→PreB b0 w9 z:=fun {b0 z} h=>by
      obtain⟨g,c,fz,h0,e,h1,h2⟩:=h
      exact⟨g,c,fz,h0,e,(kp g c fz _ h1 (by decide) (by decide)).trans h1,h2⟩
     repeat' (first|(refine CL.region ?_)|(refine CL.done ?_)|(refine Nm.block ?_)|(refine Nm.then ?_)|(refine Gt.nil ?_; refine RW.nilw [0,2,3,4,5,6,7,8,11,12,13,14,15,16,17,18,19,21,25,50,63,85,86,94,100,107,119,153,167,187] ?_; dsimp only[H.keep,H.look,H.Fr.put,Nat.beq])|(refine Gt.move ?_; refine RW.y (Y.move rfl) rfl ?_)|(refine Gt.assign ?_; refine RW.y (Y.assign rfl) rfl ?_)|(refine Gt.add ?_; refine RW.y (Y.add64 rfl rfl (by omega) (by omega)) rfl ?_))
     have hrows : ∀q',L.flatMap (rowC q)++rowC q2 s=(L++[s]).flatMap (rowC q')→w9.ownsRow w.heap.size 46 39 u' (L++[s]).length ((L++[s]).flatMap (rowC q')):=fun q' e=>by
      rw[←e,List.length_append]
      exact own_keepG how8' fun g c fz hg=>kp9 g c fz _ hg (by decide)
     have hm1:L.map (fun t=>if t=s then .slice py (sizeOf' s) cy else f t)=L.map f:=List.map_congr_left fun t ht=>(by show(if t=s then _ else f t)=f t; rw[if_neg]; intro e; exact hin (e▸ht))
     have harcs:w9.ownsRow w.heap.size 22 1 a' (L++[s]).length ((L++[s]).map fun t=>if t=s then .slice py (sizeOf' s) cy else f t):=by
      rw[List.map_append,hm1,List.map_singleton,if_pos rfl,List.length_append]
      exact how9
     have heach:ArcsAt w.heap.size w9 (L++[s]) fun t=>if t=s then .slice py (sizeOf' s) cy else f t:=fun t ht=>by
      show ArcOne _ _ _ (if t=s then _ else _)
      by_cases e:t=s
      ·subst e
       rw[if_pos rfl]
       have h9:=harz.keepG fun g c fz hg=>kp g c fz _ hg (by decide) (by decide)
       obtain⟨g,c,fz,h0,h⟩:=h9
       exact⟨g,c,fz,by omega,h⟩
      ·rw[if_neg e]
       have ht:t∈L:=(List.mem_append.1 ht).resolve_right fun z=>e (List.mem_singleton.1 z)
       exact(hIz.each t ht).keepG fun g c fz hg=>kp g c fz _ hg (by decide) (by decide)
     have hgar : ∃g c fz,w.heap.size≤g∧w9.heap[g]?=some (.cells c 41 fz):=⟨_,_,_,by omega,(kp _ _ _ _ hbvz (by decide) (by decide)).trans hbvz⟩
     have hKK:K0 w w9:=(((hKr.trans0 hKz).trans hk8 fun k h=> .inr (hIz.rows.lt k h).1)).trans hk9 fun k h=> .inr (harc8.lt k h).1
     by_cases h4:s=4
     ·have hn4:4∉L:=h4▸hin
      refine⟨ws.length - (i+1),_,rfl,rfl,rfl,by omega,i+1,u',a',q2,(fun t=>if t=s then .slice py (sizeOf' s) cy else f t),rfl,rfl,by omega,?_,hKK⟩
      rw[hdd]
      exact⟨hrows q2 (by rw[List.flatMap_append,rows_irr q2 q hn4]; simp),harcs,heach,hq2,fun _=>(kpP (hpz h4)).low hzr,fun _=>hgar⟩
     ·refine⟨ws.length - (i+1),_,rfl,rfl,rfl,by omega,i+1,u',a',q,(fun t=>if t=s then .slice py (sizeOf' s) cy else f t),rfl,rfl,by omega,?_,hKK⟩
      rw[hdd]
      refine⟨hrows q (by rw[List.flatMap_append,List.flatMap_singleton,rowC_irr q q2 h4]),harcs,heach,hI.one,fun m=>?_,fun _=>hgar⟩
      have m:4∈L:=by
       rcases List.mem_append.1 m with m|m
       ·exact m
       ·exact absurd (List.mem_singleton.1 m).symm h4
      exact kpP (hIz.pre m)
 ·have hi:i=ws.length:=by omega
  subst hi
  rw[List.take_of_length_le (Nat.le_refl _)] at hI hL6 hLn hLf
  have hrw:=hI.rws hL6 hLn
  repeat' (first|(refine CL.seq ?_)|(refine CL.region ?_)|(refine CL.condP rfl (fun _=>?_) (fun _=>?_) <;> try (exfalso; omega))|(refine CL.exit ?_)|(refine Ex.then ?_)|(refine Ex.hit ?_)|(refine Gt.nil ?_; refine RW.nilw [0,2,3,4,5,6,7,8,11,12,13,14,15,16,17,18,19,21,25,50,63,85,86,94,100,107,119,153,167,187] ?_; dsimp only[H.keep,H.look,H.Fr.put,Nat.beq])|(refine Gt.move ?_; refine RW.y (Y.move rfl) rfl ?_)|(refine Gt.len ?_; (refine RW.y (Y.lenx rfl (by assumption)) rfl ?_))|(refine Gt.lss ?_; (refine RW.y (Y.lss rfl rfl) rfl ?_)))
  refine RW.fn rfl rfl ((indexText hrw).mono ?_)
  rintro e w2 ⟨hk2,rfl⟩
  repeat' (first|(refine CL.ret ?_)|(refine Gt.nil ?_; refine RW.nilw [0,2,3,4,5,6,7,8,11,12,13,14,15,16,17,18,19,21,25,50,63,85,86,94,100,107,119,153,167,187] ?_; dsimp only[H.keep,H.look,H.Fr.put,Nat.beq])|(refine Gt.assign ?_; refine RW.y (Y.assign rfl) rfl ?_))
  exact FQ.res (rs:=[.tmp 2,.tmp 3,.tmp 4]) (vs:=[_,_,_]) rfl rfl ⟨rfl,rfl,rfl,trivial⟩ rfl ⟨hKr.trans0 hk2,u,a,q,f,rfl,hI.keep hk2⟩
end Go.Proofs.YtbhbdeelpopgoaaGreatDoor.E

set_option linter.constructorNameAsVariable false
set_option linter.unusedVariables false
namespace Go.Proofs.YtbhbdeelpopgoaaGreatDoor.E
open Go Go.RowKit H
set_option maxRecDepth 100000
def spt:Nat→List Nat
 | 0=>[42]
 | 1=>[94,49,46,48,46,48]
 | 2=>[126,49,46,48,46,48]
 | 3=>[62,61,49,46,49,46,48]
 | 4=>[50,46,48,46,48]
 | 5=>[60,50,46,48,46,48]
 | 6=>[94,48,46,51,46,48]
 | 7=>[62,61,49,46,48,46,48,45,97,32,60,49,46,48,46,48,32,124,124,32,50,46,48,46,48]
 | 8=>[49,46,48,46,48,45,120,46,49]
 | _=>[42]
def fitM:Nat→Nat
 | 0=>47
 | 1=>35
 | 2=>1
 | 3=>38
 | 4=>4
 | 5=>43
 | 6=>8
 | 7=>20
 | 8=>16
 | _=>47
def fitB(k s:Nat):Bool:=Nat.testBit (fitM k) s
theorem all10{p:Nat→Bool}(h:([0,1,2,3,4,5,6,7,8,9].all p)=true){k:Nat}(hk:k < 10):p k=true:=List.all_eq_true.1 h k (by simp; omega)
theorem spt_bytes{k:Nat}(hk:k < 10):Bytes (spt k):=all10 (p:=fun k=>(spt k).all fun b=>Nat.blt b 256) (by decide) hk
theorem snK:([0,1,2,3,4,5,6,7,8,9].all fun k=>y0R [] 7 [.sym .u8 0 10 k] (.str (spt k)))=true:=by kernel_rfl
theorem spanName{w:World}{v k:Nat}(hk:k < 10)(h1:v % 10=k)(h2:v < 256):Calls P0 7 #[.int .u8 (Int.ofNat v)] w fun e w'=>e = .returned (.string (B (textOf (spt k))))∧K0 w w':=
 (y0Call (no_tab _) (sgV v) (all10 snK hk) rfl (xs:=[.int .u8 (Int.ofNat v)]) (reals_cons.2 ⟨_,_,by simp only[real]; exact if_pos ⟨h1,h2⟩,reals_nil,rfl⟩)).mono fun e w' ⟨x,e1,hk',hx⟩=>by
  have:=(hx (rE sg0)).symm.trans (str_real (spt_bytes hk))
  cases this
  exact⟨e1,hk'⟩
noncomputable def hasR(k s:Nat)(x pre:AV)(g:Hp):Bool:=Hp.rec (motive:=fun _=>Bool) (fun nx t=>callK P0 nx FU (tab []) (dr0 nx) 50 8 [x,.agg (vL pre s)] ⟨nx,t⟩ (fun b _=>avEq (.bool (fitB k s)) b) (fun _ _=>false)) g
theorem hasR_ok{k s:Nat}{x pre:AV}{g:Hp}(h:hasR k s x pre g=true){S:Nat→Prop}{w0 w:World}{fl:Nat}{r:Ren}(hR:Rel S w0 fl r g w){xv q:Value}(hx:real r x=some xv)(hq:s=4→real r pre=some q):Calls P0 8 #[xv,.agg (vC q s).toArray] w fun e w'=>e = .returned (.bool (fitB k s))∧K0 w w':=by
 cases g with
 | mk nx t=>
  rcases callK_ok (no_tab nx) (dr0_ok nx) regs0 50 _ _ _ _ _ (show callK P0 nx FU (tab []) (dr0 nx) 50 8 [x,.agg (vL pre s)] ⟨nx,t⟩ (fun b _=>avEq (.bool (fitB k s)) b) (fun _ _=>false)=true from h) with ⟨u,h',hu,hC⟩|⟨_,_,hk,_⟩
  ·have:=avEq_ok _ _ hu
   subst this
   refine(hC _ w r w [xv,.agg (vC q s).toArray] hR.floor (reals_cons.2 ⟨_,_,hx,reals_cons.2 ⟨_,_,vL_real hq,reals_nil,rfl⟩,rfl⟩)).mono ?_
   rintro e w' ⟨r',y,rfl,_,hR',hy⟩
   have:=real_bool hy
   subst this
   exact⟨rfl,hR'.kept⟩
  ·cases hk
noncomputable def hasAll(k:Nat)(x:AV)(h:Hp):Bool:=ask (hasR k 0 x .nils h) (ask (hasR k 1 x .nils h) (ask (hasR k 2 x .nils h) (ask (hasR k 3 x .nils h) (ask (hasR k 4 x (.slx h.next 0 2 1) (h.new pK)) (hasR k 5 x .nils h)))))
noncomputable def spR(k:Nat):Bool:=callK P0 100 FU (tab []) (dr0 100) 50 6 [.str (spt k)] hE (fun u h=>qTup u fun l=>nthK l 0 fun x=>ask (avEq u (.tup [x,.int .i64 (.ofNat 0)])) (qAgg x fun cs=>nthK cs 0 fun a=>nthK cs 1 fun b=>ask (avEq x (.agg [a,b])) (ask (oneA a) (ask (oneA b) (ask (Nat.blt h.next LIM) (hasAll k x h)))))) (fun _ _=>false)
theorem spK0:spR 0=true:=by kernel_rfl
theorem spK1:spR 1=true:=by kernel_rfl
theorem spK2:spR 2=true:=by kernel_rfl
theorem spK3:spR 3=true:=by kernel_rfl
theorem spK4:spR 4=true:=by kernel_rfl
theorem spK5:spR 5=true:=by kernel_rfl
theorem spK6:spR 6=true:=by kernel_rfl
theorem spK7:spR 7=true:=by kernel_rfl
theorem spK8:spR 8=true:=by kernel_rfl
theorem spK9:spR 9=true:=by kernel_rfl
theorem spRs{k:Nat}(hk:k < 10):spR k=true:=match k,hk with
 | 0,_=>spK0|1,_=>spK1|2,_=>spK2|3,_=>spK3|4,_=>spK4|5,_=>spK5|6,_=>spK6|7,_=>spK7|8,_=>spK8|9,_=>spK9
theorem spanCall{w:World}{k:Nat}(hk:k < 10):Calls P0 6 #[.string (B (textOf (spt k)))] w fun e w'=>K0 w w'∧∃a b,e = .returned (.tuple #[.agg #[a,b],.int .i64 0])∧a.oneCell'=true∧b.oneCell'=true∧∀w2,K0 w' w2→∀q s,s < 6→(s=4→PreAt w q)→Calls P0 8 #[.agg #[a,b],.agg (vC q s).toArray] w2 fun e w3=>e = .returned (.bool (fitB k s))∧K0 w2 w3:=by
 rcases callK_ok (no_tab 100) (dr0_ok 100) regs0 50 _ _ _ _ _ (spRs hk) with ⟨u,h',hu,hC⟩|⟨_,_,hk,_⟩
 ·replace hu:=qTup_ok (x:=u) hu; obtain⟨l,rfl,hu⟩:=hu
  replace hu:=nthK_ok hu; obtain⟨x,hx,hu⟩:=hu
  replace hu:=ask_ok hu; obtain⟨e1,hu⟩:=hu
  replace hu:=qAgg_ok (x:=x) hu; obtain⟨cs,rfl,hu⟩:=hu
  replace hu:=nthK_ok hu; obtain⟨a,ha,hu⟩:=hu
  replace hu:=nthK_ok hu; obtain⟨b,hb,hu⟩:=hu
  replace hu:=ask_ok hu; obtain⟨e2,hu⟩:=hu
  replace hu:=ask_ok hu; obtain⟨o1,hu⟩:=hu
  replace hu:=ask_ok hu; obtain⟨o2,hu⟩:=hu
  replace hu:=ask_ok hu; obtain⟨hlim,hu⟩:=hu
  have e1:=avEq_ok _ _ e1
  have e2:=avEq_ok _ _ e2
  have hlim:=blt_lt hlim
  rw[e2] at hu e1
  rw[e1] at hC
  refine(hC _ w (rE sg0) w [.string (B (textOf (spt k)))] (relE sg0 w) (reals_cons.2 ⟨_,_,str_real (spt_bytes hk),reals_nil,rfl⟩)).mono ?_
  rintro e w' ⟨r',y,rfl,hext,hR',hy⟩
  simp only[real,Option.map_eq_some_iff] at hy
  obtain⟨ys,hys,rfl⟩:=hy
  obtain⟨xg,ts,hxg,hts,rfl⟩:=reals_cons.1 hys
  obtain⟨zg,hzg,rfl⟩:=reals1 hts
  have hzg:some (Value.int .i64 0)=some zg:=hzg
  cases hzg
  simp only[real,Option.map_eq_some_iff] at hxg
  obtain⟨xs,hxs,rfl⟩:=hxg
  obtain⟨av,ts2,hav,hts2,rfl⟩:=reals_cons.1 hxs
  obtain⟨bv',hbv,rfl⟩:=reals1 hts2
  refine⟨hR'.kept,av,bv',rfl,oneA_ok o1 hav,oneA_ok o2 hbv,fun w2 hk2 q s hs hq=>?_⟩
  have hR2:=hR'.same hk2
  have hxr : ∀r:Ren,Ext r' r→real r (.agg [a,b])=some (.agg #[av,bv']):=fun r hx=>by
   simp only[real]
   rw[reals_cons.2 ⟨_,_,real_mono hx _ _ hav,reals_cons.2 ⟨_,_,real_mono hx _ _ hbv,reals_nil,rfl⟩,rfl⟩]
   rfl
  unfold hasAll at hu
  replace hu:=ask_ok hu; obtain⟨h0,hu⟩:=hu
  replace hu:=ask_ok hu; obtain⟨h1,hu⟩:=hu
  replace hu:=ask_ok hu; obtain⟨h2,hu⟩:=hu
  replace hu:=ask_ok hu; obtain⟨h3,hu⟩:=hu
  obtain⟨h4,h5⟩:=ask_ok hu
  have easy : ∀s,s≠4→hasR k s (.agg [a,b]) .nils h'=true→Calls P0 8 #[.agg #[av,bv'],.agg (vC q s).toArray] w2 fun e w3=>e = .returned (.bool (fitB k s))∧K0 w2 w3:=fun s h4 h=>hasR_ok h hR2 (hxr _ (Ext.refl _)) fun z=>absurd z h4
  match s,hs with
  | 0,_=>exact easy 0 (by decide) h0
  | 1,_=>exact easy 1 (by decide) h1
  | 2,_=>exact easy 2 (by decide) h2
  | 3,_=>exact easy 3 (by decide) h3
  | 5,_=>exact easy 5 (by decide) h5
  | 4,_=>
   obtain⟨g,c,fz,rfl,g1,g2,g3,g4⟩:=hq rfl
   have hgw:=lt_of_at g1
   have g1':=(hR'.kept.trans0 hk2).at0 g1
   have hfar : ∀i p,r' i=some p→p.1≠g:=fun i p hp e=>by
    rcases Nat.lt_or_ge i 100 with hi|hi
    ·have:=(hR'.hol i (hext.h i hi)).1
     rw[this] at hp; cases hp
    ·rcases hR'.may i p hi hp with z|z
     ·exact z
     ·omega
   have hS:Rel (fun b=>b=g) w2 h'.next r' h' w2:=hR2.floor.monoS
   have hR3:=hS.adopt (b:=pK) (p:=(g,c.size)) hlim hfar (.inl rfl) (pre_brel g1' g2 g4)
   exact hasR_ok h4 hR3 (hxr _ (upd_ext hS _)) fun _=>slx2 (upd_same ..) g2 g3
 ·cases hk
end Go.Proofs.YtbhbdeelpopgoaaGreatDoor.E

namespace Go.Proofs.YtbhbdeelpopgoaaGreatDoor.H
open Go.RowKit
section
variable {P : Program} {ops : Array Oper} {Q : Exit → Act → World → Prop} {md : Region.Mode} {S : World → Prop} {Z : Nat → Bool}
theorem wpAnyL_firstU{C:Nat→Prop}{i:Nat}{oi:Oper}{v:Value}(hi:ops[i]?=some oi)(hsel : ∀(j:Nat) (o:Oper) cs b,ops[j]?=some o→o.op≠.select cs b)
  (hQ : ∀c a w,Q (.panic c) (a.put oi.dst v) w→Q (.panic c) a w) :
  ∀(fuel:Nat) (listed:Array Bool) (a:Act) (w:World),
   (∀j oj,ops[j]?=some oj→j≠i→listed.getD j true=false→(∀e∈oj.after,Region.binds md e=true→e.on≠i)→oi.apart ops oj=true)→
   (∀j,C j→j≠i∧listed.getD j true=false∧∃oj,ops[j]?=some oj∧∃e∈oj.after,Region.binds md e=true∧(e.on=i∨C e.on))→
   (∀j oj,ops[j]?=some oj→Z j=true→listed.getD j true=false→j≠i→C j)→
   i∈Region.ready md ops listed→YieldsIf P ops S oi v a→S w→
   wpAnyL P md ops Q S Z fuel (listed.setIfInBounds i true) (a.put oi.dst v) w→wpAnyL P md ops Q S Z (fuel+1) listed a w:=by
 intro fuel
 induction fuel with
 | zero=>
  intro listed a w _ _ _ hr hy hS H
  refine⟨fun h=>(by rw[h] at hr; cases hr),fun j hj=>?_⟩
  by_cases hji:j=i
  ·subst hji; exact hy.wpOp hi hS ⟨fun _=>hS,H⟩
  ·have:=ready_mono hj hji
   rw[H.1] at this
   cases this
 | succ fuel ih=>
  intro listed a w hfree hwait hzc hr hy hS H
  refine⟨fun h=>(by rw[h] at hr; cases hr),fun j hj=>?_⟩
  by_cases hji:j=i
  ·subst hji; exact hy.wpOp hi hS ⟨fun _=>hS,H⟩
  ·have h1:=H.2 j (ready_mono hj hji)
   obtain⟨hjun,oj,hoj,hall⟩:=mem_ready.1 hj
   have hnot : ∀e∈oj.after,Region.binds md e=true→e.on≠i:=fun e he hb heq=>by
    have h1:=hall e he hb
    have h0:=(mem_ready.1 hr).1
    rw[heq] at h1
    rcases Nat.lt_or_ge i listed.size with h'|h'
    ·simp[h'] at h0 h1; rw[h0] at h1; cases h1
    ·simp[Array.getElem?_eq_none h'] at h1
   have hlisted : ∀e∈oj.after,Region.binds md e=true→listed.getD e.on true=true:=fun e he hb=>by
    have h1:=hall e he hb
    rcases Nat.lt_or_ge e.on listed.size with h'|h'
    ·simp[h'] at h1 ⊢; exact h1
    ·simp[Array.getD,Nat.not_lt.2 h']
   have hcj : ¬C j:=fun hc=>by
    obtain⟨_,_,oj',hoj',e,he,hb,ho⟩:=hwait j hc
    rw[hoj] at hoj'
    cases hoj'
    rcases ho with ho|ho
    ·exact hnot e he hb ho
    ·have:=(hwait e.on ho).2.1
     rw[hlisted e he hb] at this
     cases this
   have hz:Z j=false:=by
    cases hzj:Z j with
    | false=>rfl
    | true=>exact absurd (hzc j oj hoj hzj hjun hji) hcj
   have h2:=wpOp_putIf hoj (hfree j oj hoj hji hjun hnot) (fun cs b=>hsel i oi cs b hi) (fun cs b=>hsel j oj cs b hoj) hQ hy h1
   have hun' : ∀k,(listed.setIfInBounds j true).getD k true=false→listed.getD k true=false:=fun k hun=>by
    by_cases hjk:j=k
    ·subst hjk; exact hjun
    ·rw[getD_set_ne true hjk] at hun; exact hun
   refine wpOp_mono (fun a' w' h3=>⟨h3.2.1,ih (listed.setIfInBounds j true) a' w' (fun k ok hk hki hun=>hfree k ok hk hki (hun' k hun)) (fun k hk=>⟨(hwait k hk).1,by rw[getD_set_ne true (fun(h:j=k)=>hcj (by rw[h]; exact hk))]; exact(hwait k hk).2.1,(hwait k hk).2.2⟩) (fun k ok hk hz hun=>hzc k ok hk hz (hun' k hun)) (ready_mono hr (Ne.symm hji)) h3.1 (h3.2.1 hz) ?_⟩) h2
   rw[Array.setIfInBounds_comm _ _ hji]
   exact h3.2.2
theorem wpAnyL_firstP{i:Nat}{oi:Oper}{v:Value}(hi:ops[i]?=some oi)(hzi:Z i=true)(hsel : ∀(j:Nat) (o:Oper) cs b,ops[j]?=some o→o.op≠.select cs b)
  (hQ : ∀c a w,Q (.panic c) (a.put oi.dst v) w→Q (.panic c) a w) :
  ∀(fuel:Nat) (listed:Array Bool) (a:Act) (w:World),
   (∀j oj,ops[j]?=some oj→j≠i→listed.getD j true=false→(∀e∈oj.after,Region.binds md e=true→e.on≠i)→oi.apart ops oj=true)→
   i∈Region.ready md ops listed→YieldsIf P ops (fun _=>True) oi v a→
   wpAnyL P md ops Q S Z fuel (listed.setIfInBounds i true) (a.put oi.dst v) w→wpAnyL P md ops Q S Z (fuel+1) listed a w:=by
 intro fuel
 induction fuel with
 | zero=>
  intro listed a w _ hr hy H
  refine⟨fun h=>(by rw[h] at hr; cases hr),fun j hj=>?_⟩
  by_cases hji:j=i
  ·subst hji; exact hy.wpOp hi trivial ⟨fun c=>(by rw[hzi] at c; cases c),H⟩
  ·have:=ready_mono hj hji
   rw[H.1] at this
   cases this
 | succ fuel ih=>
  intro listed a w hfree hr hy H
  refine⟨fun h=>(by rw[h] at hr; cases hr),fun j hj=>?_⟩
  by_cases hji:j=i
  ·subst hji; exact hy.wpOp hi trivial ⟨fun c=>(by rw[hzi] at c; cases c),H⟩
  ·have h1:=H.2 j (ready_mono hj hji)
   obtain⟨hjun,oj,hoj,hall⟩:=mem_ready.1 hj
   have hnot : ∀e∈oj.after,Region.binds md e=true→e.on≠i:=fun e he hb heq=>by
    have h1:=hall e he hb
    have h0:=(mem_ready.1 hr).1
    rw[heq] at h1
    rcases Nat.lt_or_ge i listed.size with h'|h'
    ·simp[h'] at h0 h1; rw[h0] at h1; cases h1
    ·simp[Array.getElem?_eq_none h'] at h1
   have h2:=wpOp_putIf hoj (hfree j oj hoj hji hjun hnot) (fun cs b=>hsel i oi cs b hi) (fun cs b=>hsel j oj cs b hoj) hQ hy h1
   have hun' : ∀k,(listed.setIfInBounds j true).getD k true=false→listed.getD k true=false:=fun k hun=>by
    by_cases hjk:j=k
    ·subst hjk; exact hjun
    ·rw[getD_set_ne true hjk] at hun; exact hun
   refine wpOp_mono (fun a' w' h3=>⟨h3.2.1,ih (listed.setIfInBounds j true) a' w' (fun k ok hk hki hun=>hfree k ok hk hki (hun' k hun)) (ready_mono hr (Ne.symm hji)) h3.1 ?_⟩) h2
   rw[Array.setIfInBounds_comm _ _ hji]
   exact h3.2.2
def waitsU(ops:Array Oper)(Z:Nat→Bool)(l:Array Bool)(C:List Nat)(i:Nat):Bool:=
 C.all (fun j=>!(Nat.beq j i) && !(l.getD j true) && (match ops[j]? with|some o=>o.after.any (fun e=>Region.binds .any e && (Nat.beq e.on i || C.any (Nat.beq e.on)))|none=>false)) && (List.range ops.size).all (fun j=>!Z j || l.getD j true || Nat.beq j i || C.any (Nat.beq j))
theorem waitsU_spec{l:Array Bool}{C:List Nat}{i:Nat}(h:waitsU ops Z l C i=true):(∀j,j∈C→j≠i∧l.getD j true=false∧∃oj,ops[j]?=some oj∧∃e∈oj.after,Region.binds .any e=true∧(e.on=i∨e.on∈C))∧(∀j oj,ops[j]?=some oj→Z j=true→l.getD j true=false→j≠i→j∈C):=by
 rw[waitsU,Bool.and_eq_true] at h
 obtain⟨h1,h2⟩:=h
 refine⟨fun j hj=>?_,fun j oj ho hz hun hne=>?_⟩
 ·have h3:=List.all_eq_true.1 h1 j hj
  rw[Bool.and_eq_true,Bool.and_eq_true] at h3
  obtain⟨⟨h3,h4⟩,h5⟩:=h3
  refine⟨(fun c=>by subst c; rw[beq_self] at h3; cases h3),by simpa using h4,?_⟩
  cases ho:ops[j]? with
  | none=>rw[ho] at h5; cases h5
  | some oj=>
   rw[ho] at h5
   simp only[Array.any_eq_true'] at h5
   obtain⟨e,he,h6⟩:=h5
   rw[Bool.and_eq_true,Bool.or_eq_true] at h6
   exact⟨oj,rfl,e,he,h6.1,h6.2.imp Nat.eq_of_beq_eq_true any_beq⟩
 ·have h3:=List.all_eq_true.1 h2 j (List.mem_range.2 (Array.getElem?_eq_some_iff.1 ho).1)
  rw[Bool.or_eq_true,Bool.or_eq_true,Bool.or_eq_true] at h3
  rcases h3 with ((h3|h3)|h3)|h3
  ·rw[hz] at h3; cases h3
  ·rw[hun] at h3; cases h3
  ·exact absurd (Nat.eq_of_beq_eq_true h3) hne
  ·exact any_beq h3
end
section
variable {P : Program} {ops : Array Oper} {Q : Post} {f : Fr} {w : World} {S : World → Prop} {Z : Nat → Bool}
theorem AP.takeY(i:Nat)(C:List Nat){o:Oper}{d:Option Nat}{v:Value}{n:Nat}{l:Array Bool}(hi:ops[i]?=some o)(hz:waitsU ops Z l C i=true)(hs:Region.noSelect ops=true)(hf:Region.free .any ops l i=true)(hr:(Region.ready .any ops l).contains i=true)
  [PI Q] (hS:S w) {a:Act} (hy:YieldsIf P ops S o v a) (k:wpAnyL P .any ops (lift Q) S Z n (l.setIfInBounds i true) (a.put o.dst v) w):wpAnyL P .any ops (lift Q) S Z (n+1) l a w:=
 wpAnyL_firstU (C:=(·∈C)) hi (Region.noSelect_spec hs) (PI.lift _ _) n l a w (Region.free_spec hi hf) (waitsU_spec hz).1 (waitsU_spec hz).2 (by simpa using hr) hy hS k
theorem AP.take(i:Nat)(C:List Nat){op:Op}{ty:TypeId}{pos:String}{af:Array Edge}{d:Nat}{v:Value}{n:Nat}{l:Array Bool}(hi:ops[i]?=some {dst:=some d,op:=op,type:=ty,pos:=pos,after:=af,guard:=none})(hs:Region.noSelect ops=true)(hf:Region.free .any ops l i=true)(hr:(Region.ready .any ops l).contains i=true)(hz:waitsU ops Z l C i=true)
  [PI Q] (hd:Nat.blt d f.n=true) (hS:S w) (hy : ∀w,S w→Yd P f {dst:=some d,op:=op,type:=ty,pos:=pos,after:=af,guard:=none} v w) (k:AL P ops Q S Z n (l.setIfInBounds i true) (f.put d v) w):AL P ops Q S Z (n+1) l f w:=by
 intro a ha
 exact AP.takeY (d:=some d) i C hi hz hs hf hr hS (.inl ⟨by simp[Region.wanted],fun w' hw'=>hy w' hw' a ha⟩) (k _ (ha.put v hd))
theorem AP.pure(i:Nat){op:Op}{ty:TypeId}{pos:String}{af:Array Edge}{d:Nat}{v:Value}{n:Nat}{l:Array Bool}(hi:ops[i]?=some {dst:=some d,op:=op,type:=ty,pos:=pos,after:=af,guard:=none})(hs:Region.noSelect ops=true)(hf:Region.free .any ops l i=true)(hr:(Region.ready .any ops l).contains i=true)(hz:Z i=true)
  [PI Q] (hd:Nat.blt d f.n=true) (hy : ∀w,Yd P f {dst:=some d,op:=op,type:=ty,pos:=pos,after:=af,guard:=none} v w) (k:AL P ops Q S Z n (l.setIfInBounds i true) (f.put d v) w):AL P ops Q S Z (n+1) l f w:=by
 intro a ha
 exact wpAnyL_firstP hi hz (Region.noSelect_spec hs) (PI.lift _ _) n l a w (Region.free_spec hi hf) (by simpa using hr) (.inl ⟨by simp[Region.wanted],fun w' _=>hy w' a ha⟩) (k _ (ha.put v hd))
end
section
variable {M : Option (Option Nat)} {P : Program} {ops : Array Oper} {Q : Post} {rest : List Oper} {f : Fr} {w : World} {ty : TypeId} {pos : String} {af : Array Edge}
end
end Go.Proofs.YtbhbdeelpopgoaaGreatDoor.H

set_option linter.constructorNameAsVariable false
set_option linter.unusedVariables false
namespace Go.Proofs.YtbhbdeelpopgoaaGreatDoor.E
open Go Go.RowKit H
section
variable {M : Option (Option Nat)} {P : Program} {ops : Array Oper} {Q : Post} {rest : List Oper} {f : Fr} {w : World} {ty : Nat} {pos : String} {af : Array Edge}
theorem RW.storeF{t:TypeId}[h:One P t]{x y:Operand}{g j:Nat}{u:Value}{c:Array Value}{e:TypeId}{fz:Nat×Nat}(hx:f.ev x=some (.pointer (some ⟨g,j,none⟩)))(hy:f.ev y=some u)(h1:u.oneCell'=true)(hb:w.heap[g]?=some (.cells c e fz))(hf : ∀i,i < c.size→¬(fz.1≤i∧i < fz.2))(hj:j < c.size)
  (k : ∀w',w'.heap[g]?=some (.cells (c.setIfInBounds j u) e fz)→Kept (fun k=>k=g) w w'→RW M P ops Q rest f w'):RW M P ops Q (op0 (.store t x y) ty pos af::rest) f w:=by
 have hcs:u.cells=#[u]:=by cases u <;> first|rfl|cases h1
 obtain⟨w',hr,hh,hk⟩:=run_stores P g j e fz [u] 0 c w hb (by simp; omega) (by simpa using h1) hf
 refine RW.act rfl rfl (fun a ha=>?_) (k w' ?_ hk)
 ·have hr':(storeCells ⟨g,j,none⟩ u.cells.toList).run P w = .ok () w':=by rw[hcs]; exact hr
  simp[execOp,ha.eval hx,ha.eval hy,Instr.storeAt,Instr.sureAddr,storeVar,h.size,hcs,hr]
 ·rw[hh]
  have:=take_set_drop c.toList j u (by simpa using hj)
  simp only[Nat.add_zero,List.length_singleton]
  rw[←List.append_assoc,this]
  congr 2
  apply Array.ext'
  simp
end
attribute [local irreducible] H.CL H.RW H.CW H.Yd H.thenK H.blockQ Go.Calls
theorem lamCmp{w:World}{q rv:Value}{L:List Nat}{gp a b s t:Nat}{c:Array Value}{tb:TypeId}{fz:Nat×Nat}(hrw:RwsAt w q L rv)(hgp:w.heap[gp]?=some (.cells c tb fz))(hc0:c.toList[0]?=some rv)(ha:L[a]?=some s)(hb:L[b]?=some t):Calls Tryz.prog 512 #[.int .i64 (a:Int),.int .i64 (b:Int),.pointer (some ⟨gp,0,none⟩)] w fun e w'=>e = .returned (.int .i64 (cmpZ t s))∧K0 w w':=by
 have hsl:=hrw.sl
 have hal:=(List.getElem?_eq_some_iff.1 ha).1
 have hbl:=(List.getElem?_eq_some_iff.1 hb).1
 have hfew:=hrw.few
 have hsm:s∈L:=List.mem_of_getElem? ha
 have htm:t∈L:=List.mem_of_getElem? hb
 have hta:((a:Int)).toNat=a:=Int.toNat_natCast a
 have htb:((b:Int)).toNat=b:=Int.toNat_natCast b
 have halla:=elAll hsl (rowC_len q) (i:=(a:Int)) (by omega) (by omega)
 have hallb:=elAll hsl (rowC_len q) (i:=(b:Int)) (by omega) (by omega)
 rw[show L.getD ((a:Int)).toNat default=s from by rw[hta,List.getD_eq_getElem?_getD,ha]; rfl] at halla
 rw[show L.getD ((b:Int)).toNat default=t from by rw[htb,List.getD_eq_getElem?_getD,hb]; rfl] at hallb
 obtain⟨ga,oa,hspa,_⟩:=spot_ptr hsl (by omega) (((a:Int)).toNat * 39)
 obtain⟨gb,ob,hspb,_⟩:=spot_ptr hsl (by omega) (((b:Int)).toNat * 39)
 have hva : ∀w',K0 w w'→∀j u,(vC q s)[j]?=some u→w'.cell? ((⟨ga,oa+1,none⟩:Addr).add j)=some u:=fun w' hk' j u hu=>by
  have:=halla w' hk' (1+j) u (by have hj:j < 4:=(List.getElem?_eq_some_iff.1 hu).1; rw[rowC,Nat.add_comm,List.getElem?_cons_succ,List.getElem?_append_left hj]; exact hu)
  rw[hspa,addr_add] at this
  rw[addr_add,Nat.add_assoc]; exact this
 have hvb : ∀w',K0 w w'→∀j u,(vC q t)[j]?=some u→w'.cell? ((⟨gb,ob+1,none⟩:Addr).add j)=some u:=fun w' hk' j u hu=>by
  have:=hallb w' hk' (1+j) u (by have hj:j < 4:=(List.getElem?_eq_some_iff.1 hu).1; rw[rowC,Nat.add_comm,List.getElem?_cons_succ,List.getElem?_append_left hj]; exact hu)
  rw[hspb,addr_add] at this
  rw[addr_add,Nat.add_assoc]; exact this
 have hcmp:=fun w' (hk':K0 w w')=>cmpCall (w:=w') (p:=q) (q:=q) cmp1 (hrw.lt t htm) (hrw.lt s hsm) (fun e=>(hrw.pr (e▸htm)).keep hk') (fun e=>(hrw.pr (e▸hsm)).keep hk')
 refine H.enter Tryz.func512 Tryz.ntmps512 rfl rfl ?_; dsimp only[H.args]
 repeat' (first|(refine CL.seq ?_)|(refine CL.region ?_)|(refine Gt.nil ?_; refine RW.nilw [0,1,2,5] ?_; dsimp only[H.keep,H.look,H.Fr.put,Nat.beq])|(refine Gt.assign ?_; refine RW.y (Y.assign rfl) rfl ?_))
 refine CL.draw (fun w'=>K0 w w') (by kernel_rfl) (fun w1 hheap hk1=>?_)
 have hS:K0 w w1:=hk1
 skip
 refine AW.take 0 rfl (by kernel_rfl) (by kernel_rfl) (by kernel_rfl) rfl (by assumption) (fun w hS=>Y.loadB rfl (hS.at0 hgp) hc0) ?_
 refine AW.take 1 rfl (by kernel_rfl) (by kernel_rfl) (by kernel_rfl) rfl (by assumption) (fun w hS=>Y.move rfl) ?_
 refine AW.take 2 rfl (by kernel_rfl) (by kernel_rfl) (by kernel_rfl) rfl (by assumption) (fun w hS=>Y.idx rfl rfl (hsl.keep0 hS) (by omega) (by omega)) ?_
 refine AW.take 3 rfl (by kernel_rfl) (by kernel_rfl) (by kernel_rfl) rfl (by assumption) (fun w hS=>Y.fieldAddr (congrArg (fun a=>some (Value.pointer (some a))) hspb) (by rfl)) ?_
 refine AW.take 4 rfl (by kernel_rfl) (by kernel_rfl) (by kernel_rfl) rfl (by assumption) (fun w hS=>Y.loadN (cs:=vC q t) rfl rfl (hvb _ hS)) ?_
 refine AW.take 5 rfl (by kernel_rfl) (by kernel_rfl) (by kernel_rfl) rfl (by assumption) (fun w hS=>Y.loadB rfl (hS.at0 hgp) hc0) ?_
 refine AW.take 6 rfl (by kernel_rfl) (by kernel_rfl) (by kernel_rfl) rfl (by assumption) (fun w hS=>Y.move rfl) ?_
 refine AW.take 7 rfl (by kernel_rfl) (by kernel_rfl) (by kernel_rfl) rfl (by assumption) (fun w hS=>Y.idx rfl rfl (hsl.keep0 hS) (by omega) (by omega)) ?_
 refine AW.take 8 rfl (by kernel_rfl) (by kernel_rfl) (by kernel_rfl) rfl (by assumption) (fun w hS=>Y.fieldAddr (congrArg (fun a=>some (Value.pointer (some a))) hspa) (by rfl)) ?_
 refine AW.take 9 rfl (by kernel_rfl) (by kernel_rfl) (by kernel_rfl) rfl (by assumption) (fun w hS=>Y.loadN (cs:=vC q s) rfl rfl (hva _ hS)) ?_
 refine AW.next 10 rfl (by kernel_rfl) ?_
 refine RW.fn rfl rfl ((hcmp w1 hk1).mono ?_)
 rintro e w2 ⟨rfl,hk2⟩
 refine RW.nil (Nm.then (rebase0 hS hk2 fun hS=>?_))
 refine AW.take 11 rfl (by kernel_rfl) (by kernel_rfl) (by kernel_rfl) rfl (by assumption) (fun w hS=>Y.assign rfl) ?_
 refine AW.donew [5] (by kernel_rfl) ?_
 dsimp only[H.keep,H.look,H.Fr.put,Nat.beq]
 repeat' ((refine CL.ret ?_))
 exact FQ.one rfl rfl rfl ⟨rfl,hk1.trans0 hk2⟩
abbrev plC(x:Nat):Value:= .int .i64 (x:Int)
structure DatAt (w:World) (g:Nat) (fz:Nat×Nat) (m:Nat) (tl:List Value) (xs:List Nat):Prop where
 at_ : ∃c,w.heap[g]?=some (.cells c 3 fz)∧c.toList=xs.map plC++tl
 fr : ∀i,i < m→¬(fz.1≤i∧i < fz.2)
 sz:xs.length+tl.length=m
theorem DatAt.sl{w:World}{g m cap:Nat}{fz:Nat×Nat}{tl:List Value}{xs:List Nat}(h:DatAt w g fz m tl xs)(hn:xs.length≤cap)(hc:cap≤m)(hm:cap≤maxLen):Sl w 1 (.slice (some ⟨g,0,none⟩) xs.length cap) xs.length (xs.map plC):=by
 obtain⟨c,h1,h2⟩:=h.at_
 have h3:=h.sz
 have h4:c.size=m:=by rw[←Array.length_toList,h2,List.length_append,List.length_map]; exact h3
 exact⟨by rw[List.length_map,Nat.mul_one],Nat.le_trans hn hm,.inr ⟨g,0,cap,c,3,fz,rfl,h1,hn,hm,by omega,by rw[List.drop_zero,Nat.mul_one,h2,List.take_left' (by rw[List.length_map])]⟩⟩
theorem DatAt.keep{w w':World}{g m:Nat}{fz:Nat×Nat}{tl:List Value}{xs:List Nat}(h:DatAt w g fz m tl xs)(k:K0 w w'):DatAt w' g fz m tl xs:=by
 obtain⟨c,h1,h2⟩:=h.at_
 exact⟨⟨c,k.at0 h1,h2⟩,h.fr,h.sz⟩
theorem DatAt.put{w w':World}{g m:Nat}{fz:Nat×Nat}{tl:List Value}{xs:List Nat}{c:Array Value}(h:DatAt w g fz m tl xs)(hc:w.heap[g]?=some (.cells c 3 fz)){j x:Nat}(hj:j < xs.length)(hb:w'.heap[g]?=some (.cells (c.setIfInBounds j (plC x)) 3 fz)):DatAt w' g fz m tl (xs.set j x):=by
 obtain⟨c2,h1,h2⟩:=h.at_
 rw[hc] at h1
 cases h1
 refine⟨⟨_,hb,?_⟩,h.fr,by rw[List.length_set]; exact h.sz⟩
 rw[Array.toList_setIfInBounds,h2,List.set_append_left _ _ (by rw[List.length_map]; exact hj),List.map_set]
def kR(L:List Nat)(x:Nat):Nat:=rk (L.getD x 0)
abbrev DnP(L:List Nat)(l:List Nat):Prop:=l.Pairwise fun a b=>kR L b < kR L a
theorem cmpZ_lt(s t:Nat):cmpZ t s < 0↔rk t < rk s:=by
 unfold cmpZ
 split
 ·simp; assumption
 ·split <;> simp <;> omega
theorem dnp_ins{L:List Nat}{P R:List Nat}{x:Nat}(h:DnP L (P++R))(h1 : ∀r∈R,kR L r < kR L x)(h2 : ∀p,P.getLast?=some p→kR L x < kR L p):DnP L (P++x::R):=by
 obtain⟨a,b,c⟩:=List.pairwise_append.1 h
 refine List.pairwise_append.2 ⟨a,List.pairwise_cons.2 ⟨h1,b⟩,fun p hp r hr=>?_⟩
 have hx:kR L x < kR L p:=by
  rcases List.eq_nil_or_concat P with e|⟨P',z,e⟩
  ·rw[e] at hp; cases hp
  ·have e:P=P'++[z]:=by simpa using e
   have hz:=h2 z (by rw[e]; simp)
   rw[e] at hp a
   rcases List.mem_append.1 hp with hp|hp
   ·have:=(List.pairwise_append.1 a).2.2 p hp z (by simp)
    omega
   ·rw[List.mem_singleton.1 hp]; exact hz
 rcases List.mem_cons.1 hr with rfl|hr
 ·exact hx
 ·have:=h1 r hr; omega
theorem dnp_eq{L:List Nat}: ∀{a b:List Nat},DnP L a→DnP L b→(∀x,x∈a↔x∈b)→a=b
 | [],[],_,_,_=>rfl
 | [],y::b,_,_,h=>absurd ((h y).2 List.mem_cons_self) (by simp)
 | x::a,[],_,_,h=>absurd ((h x).1 List.mem_cons_self) (by simp)
 | x::a,y::b,h1,h2,h=>by
  obtain⟨p1,p2⟩:=List.pairwise_cons.1 h1
  obtain⟨q1,q2⟩:=List.pairwise_cons.1 h2
  have e:x=y:=by
   rcases List.mem_cons.1 ((h x).1 List.mem_cons_self) with e|e
   ·exact e
   ·rcases List.mem_cons.1 ((h y).2 List.mem_cons_self) with e2|e2
    ·exact e2.symm
    ·have:=q1 x e
     have:=p1 y e2
     omega
  subst e
  rw[dnp_eq p2 q2 fun z=>?_]
  constructor
  ·intro hz
   rcases List.mem_cons.1 ((h z).1 (List.mem_cons_of_mem _ hz)) with e|e
   ·subst e; have:=p1 z hz; omega
   ·exact e
  ·intro hz
   rcases List.mem_cons.1 ((h z).2 (List.mem_cons_of_mem _ hz)) with e|e
   ·subst e; have:=q1 z hz; omega
   ·exact e
theorem set_mid{α:Type}(P:List α)(p x:α)(T:List α):((P++p::x::T).set (P.length+1) p).set P.length x=P++x::p::T:=by
 rw[List.set_append_right _ _ (by omega),Nat.add_sub_cancel_left,List.set_cons_succ,List.set_cons_zero,List.set_append_right _ _ (by omega),Nat.sub_self,List.set_cons_zero]
abbrev madeV(gp:Nat):Value:= .func (.func 512) #[] #[.pointer (some ⟨gp,0,none⟩)]
abbrev LamOk(w:World)(g gp:Nat)(L X:List Nat):Prop:=∀w',Kept (fun k=>k=g) w w'→∀a∈X,∀b∈X,a≠b→Calls Tryz.prog 512 #[.int .i64 (a:Int),.int .i64 (b:Int),.pointer (some ⟨gp,0,none⟩)] w' fun e w''=>e = .returned (.int .i64 (cmpZ (L.getD b 0) (L.getD a 0)))∧K0 w' w''
set_option maxHeartbeats 1000000 in
theorem insIdx{w:World}{L X:List Nat}{g gp m cap:Nat}{fz:Nat×Nat}{tl:List Value}(hdat:DatAt w g fz m tl X)(hcap:X.length≤cap)(hc:cap≤m)(hcm:cap≤maxLen)(hn:X.length≤20)(hlam:LamOk w g gp L X)(hinj : ∀a∈X,∀b∈X,kR L a=kR L b→a=b)(hnd:X.Nodup):
  Calls Tryz.prog 547 #[.slice (some ⟨g,0,none⟩) X.length cap,.int .i64 0,.int .i64 (X.length:Int),madeV gp] w fun e w'=>e = .returned (.tuple #[])∧∃A,A.Perm X∧DnP L A∧DatAt w' g fz m tl A∧Kept (fun k=>k=g) w w':=by
 obtain⟨n,hXn⟩ : ∃n,X.length=n:=⟨_,rfl⟩
 rw[hXn] at hcap hn ⊢
 refine H.enter Tryz.func547 Tryz.ntmps547 rfl rfl ?_; dsimp only[H.args]
 repeat' (first|(refine CL.seq ?_)|(refine CL.region ?_)|(refine CL.block ?_)|(refine Gt.nil ?_; refine RW.nilw [0,1,2,3,8,9,14,34] ?_; dsimp only[H.keep,H.look,H.Fr.put,Nat.beq])|(refine Gt.move ?_; refine RW.y (Y.move rfl) rfl ?_)|(refine Gt.assign ?_; refine RW.y (Y.assign rfl) rfl ?_)|(refine Gt.add ?_; refine RW.y (Y.add64 rfl rfl (by omega) (by omega)) rfl ?_))
 refine CL.loopS [0,1,2,3,8] (fun k vals wr=>∃(i:Nat) (A:List Nat),vals=[.slice (some ⟨g,0,none⟩) n cap,.int .i64 0,.int .i64 (n:Int),madeV gp,.int .i64 (i:Int)]∧k=n - i∧1≤i∧A.Perm (X.take i)∧DnP L A∧DatAt wr g fz m tl (A++X.drop i)∧Kept (fun k=>k=g) w wr) (n - 1) ⟨_,rfl,1,X.take 1,rfl,rfl,Nat.le_refl _,List.Perm.refl _,?_,by rw[List.take_append_drop]; exact hdat,Kept.refl _ _⟩ ?_
 ·cases X with
  | nil=>simp
  | cons x l=>simp
 rintro k vals wr ⟨i,A,rfl,rfl,hi1,hAp,hAs,hdr,hkr⟩
 dsimp only[List.zip,List.zipWith]
 have hAl:=hAp.length_eq
 rw[List.length_take] at hAl
 rcases Nat.lt_or_ge i n with hlt|hge
 ·obtain⟨x,hx⟩ : ∃x,X[i]?=some x:=⟨X[i],List.getElem?_eq_getElem (by omega)⟩
  have hxm:x∈X:=List.mem_of_getElem? hx
  have hdx:X.drop i=x::X.drop (i+1):=by
   rw[List.drop_eq_getElem_cons (by omega)]
   congr 1
   have:=List.getElem?_eq_getElem (l:=X) (i:=i) (by omega)
   rw[hx] at this
   exact(Option.some.inj this).symm
  have hAm : ∀z∈A,z∈X∧z≠x:=fun z hz=>by
   have hz':=hAp.mem_iff.1 hz
   refine⟨List.mem_of_mem_take hz',fun e=>?_⟩
   subst e
   obtain⟨j,hj⟩:=List.getElem?_of_mem hz'
   have hj2:=(List.getElem?_eq_some_iff.1 hj).1
   rw[List.length_take] at hj2
   rw[List.getElem?_take,if_pos (by omega)] at hj
   have:=(List.getElem?_inj (by omega) hnd).1 (hj.trans hx.symm)
   omega
  rw[hdx] at hdr
  generalize hD:X.drop (i+1)=D at *
  have hDl:D.length=n - (i+1):=by rw[←hD,List.length_drop]; omega
  repeat' (first|(refine CL.seq ?_)|(refine CL.region ?_)|(refine CL.skip ?_)|(refine CL.condP rfl (fun _=>?_) (fun _=>?_) <;> try (exfalso; omega))|(refine Gt.nil ?_; refine RW.nilw [0,1,2,3,8,9,14,34] ?_; dsimp only[H.keep,H.look,H.Fr.put,Nat.beq])|(refine Gt.move ?_; refine RW.y (Y.move rfl) rfl ?_)|(refine Gt.lss ?_; refine RW.y (Y.lss rfl rfl) rfl ?_))
  refine CL.cutS [0,1,2,3,8] (fun vals wx=>vals=[.slice (some ⟨g,0,none⟩) n cap,.int .i64 0,.int .i64 (n:Int),madeV gp,.int .i64 (i:Int)]∧∃A',A'.Perm (x::A)∧DnP L A'∧DatAt wx g fz m tl (A'++D)∧Kept (fun k=>k=g) wr wx) (by simp) ?_ ?_
  ·refine CL.block ?_
   repeat' (first|(refine CL.seq ?_)|(refine CL.region ?_)|(refine Gt.nil ?_; refine RW.nilw [0,1,2,3,8,9,14,34] ?_; dsimp only[H.keep,H.look,H.Fr.put,Nat.beq])|(refine Gt.move ?_; refine RW.y (Y.move rfl) rfl ?_)|(refine Gt.assign ?_; refine RW.y (Y.assign rfl) rfl ?_))
   refine CL.block ?_
   refine CL.loopS [0,1,2,3,8,9] (fun k vals wv=>∃(P R:List Nat),vals=[.slice (some ⟨g,0,none⟩) n cap,.int .i64 0,.int .i64 (n:Int),madeV gp,.int .i64 (i:Int),.int .i64 (P.length:Int)]∧k=P.length∧P++R=A∧(∀r∈R,kR L r < kR L x)∧DatAt wv g fz m tl (P++x::(R++D))∧Kept (fun k=>k=g) wr wv) i ⟨_,rfl,A,[],by rw[show A.length=i from by omega],by omega,by simp,(fun r hr=>by cases hr),hdr,Kept.refl _ _⟩ ?_
   rintro k vals wv ⟨P,R,rfl,rfl,hPR,hR,hdat,hkv⟩
   dsimp only[List.zip,List.zipWith]
   have hPRl:P.length+R.length=i:=by rw[←List.length_append,hPR]; omega
   have hUl:(P++x::(R++D)).length=n:=by simp; omega
   have hslv:Sl wv 1 (.slice (some ⟨g,0,none⟩) n cap) n ((P++x::(R++D)).map plC):=by
    have h:=hdat.sl (cap:=cap) (by omega) hc hcm
    rw[hUl] at h; exact h
   rcases List.eq_nil_or_concat P with hP|⟨P',p,hP⟩
   ·subst hP
    repeat' ((refine CL.seq ?_))
    refine CL.draw (fun w'=>K0 wv w') (by kernel_rfl) (fun w1 hheap1 hk1=>?_)
    have hS:K0 wv w1:=hk1
    skip
    refine AW.take 0 rfl (by kernel_rfl) (by kernel_rfl) (by kernel_rfl) rfl (by assumption) (fun w hS=>Y.move rfl) ?_
    refine AW.take 1 rfl (by kernel_rfl) (by kernel_rfl) (by kernel_rfl) rfl (by assumption) (fun w hS=>Y.move rfl) ?_
    refine AW.take 2 rfl (by kernel_rfl) (by kernel_rfl) (by kernel_rfl) rfl (by assumption) (fun w hS=>Y.gtrF rfl rfl (by simp)) ?_
    refine AW.take 3 rfl (by kernel_rfl) (by kernel_rfl) (by kernel_rfl) rfl (by assumption) (fun w hS=>Y.move rfl) ?_
    refine AW.takeOff 4 rfl (by kernel_rfl) (by kernel_rfl) (by kernel_rfl) rfl rfl rfl rfl rfl (by assumption) ?_
    refine AW.takeOff 5 rfl (by kernel_rfl) (by kernel_rfl) (by kernel_rfl) rfl rfl rfl rfl rfl (by assumption) ?_
    refine AW.takeOff 6 rfl (by kernel_rfl) (by kernel_rfl) (by kernel_rfl) rfl rfl rfl rfl rfl (by assumption) ?_
    refine AW.takeOff 7 rfl (by kernel_rfl) (by kernel_rfl) (by kernel_rfl) rfl rfl rfl rfl rfl (by assumption) ?_
    refine AW.takeOff 8 rfl (by kernel_rfl) (by kernel_rfl) (by kernel_rfl) rfl rfl rfl rfl rfl (by assumption) ?_
    refine AW.takeOff 9 rfl (by kernel_rfl) (by kernel_rfl) (by kernel_rfl) rfl rfl rfl rfl rfl (by assumption) ?_
    refine AW.takeOff 10 rfl (by kernel_rfl) (by kernel_rfl) (by kernel_rfl) rfl rfl rfl rfl rfl (by assumption) ?_
    refine AW.takeOff 11 rfl (by kernel_rfl) (by kernel_rfl) (by kernel_rfl) rfl rfl rfl rfl rfl (by assumption) ?_
    refine AW.takeOff 12 rfl (by kernel_rfl) (by kernel_rfl) (by kernel_rfl) rfl rfl rfl rfl rfl (by assumption) ?_
    refine AW.takeOff 13 rfl (by kernel_rfl) (by kernel_rfl) (by kernel_rfl) rfl rfl rfl rfl rfl (by assumption) ?_
    refine AW.takeOff 14 rfl (by kernel_rfl) (by kernel_rfl) (by kernel_rfl) rfl rfl rfl rfl rfl (by assumption) ?_
    refine AW.takeOff 15 rfl (by kernel_rfl) (by kernel_rfl) (by kernel_rfl) rfl rfl rfl rfl rfl (by assumption) ?_
    refine AW.take 16 rfl (by kernel_rfl) (by kernel_rfl) (by kernel_rfl) rfl (by assumption) (fun w hS=>by exact Y.pickF rfl rfl) ?_
    refine AW.donew [0,1,2,3,8,9,34] (by kernel_rfl) ?_
    dsimp only[H.keep,H.look,H.Fr.put,Nat.beq]
    repeat' (first|(refine CL.condF rfl ?_)|(refine CL.exit ?_)|(refine Ex.then ?_)|(refine Ex.hit ?_)|(refine CL.done ?_)|(refine Nm.block ?_)|(refine Nm.then ?_))
    refine⟨_,rfl,rfl,rfl,rfl,x::R,?_,?_,hdat.keep hk1,hkv.trans0 hk1⟩
    ·rw[←hPR]; exact List.Perm.refl _
    ·exact dnp_ins (P:=[]) (by rw[hPR]; exact hAs) hR (fun p hp=>by cases hp)
   ·have hP:P=P'++[p]:=by simpa using hP
    subst hP
    have hpA:p∈A:=by rw[←hPR]; simp
    obtain⟨hpX,hpx⟩:=hAm p hpA
    have hPl:P'.length+1=(P'++[p]).length:=by simp
    have htj:(((P'++[p]).length:Nat):Int).toNat=P'.length+1:=by rw[←hPl]; rfl
    have htj2:((((P'++[p]).length:Nat):Int) - 1).toNat=P'.length:=by simp
    have hjl:(((P'++[p]).length:Nat):Int)=(P'.length:Int)+1:=by simp
    have hcx:((P'++[p]++x::(R++D)).map plC)[(((P'++[p]).length:Nat):Int).toNat * 1]?=some (plC x):=by rw[htj,Nat.mul_one,List.getElem?_map,List.getElem?_append_right (by simp)]; simp
    have hcp:((P'++[p]++x::(R++D)).map plC)[((((P'++[p]).length:Nat):Int) - 1).toNat * 1]?=some (plC p):=by rw[htj2,Nat.mul_one,List.getElem?_map,List.getElem?_append_left (by simp),List.getElem?_append_right (by simp)]; simp
    have hln:=fun w' (h:Kept (fun k=>k=g) w w')=>hlam w' h x hxm p hpX (Ne.symm hpx)
    obtain⟨bb,hbb⟩ : ∃bb:Bool,decide (cmpZ (L.getD p 0) (L.getD x 0) < 0)=bb:=⟨_,rfl⟩
    repeat' ((refine CL.seq ?_))
    refine CL.draw (fun w'=>K0 wv w') (by kernel_rfl) (fun w1 hheap1 hk1=>?_)
    have hS:K0 wv w1:=hk1
    skip
    refine AW.take 0 rfl (by kernel_rfl) (by kernel_rfl) (by kernel_rfl) rfl (by assumption) (fun w hS=>Y.move rfl) ?_
    refine AW.take 1 rfl (by kernel_rfl) (by kernel_rfl) (by kernel_rfl) rfl (by assumption) (fun w hS=>Y.move rfl) ?_
    refine AW.take 2 rfl (by kernel_rfl) (by kernel_rfl) (by kernel_rfl) rfl (by assumption) (fun w hS=>Y.gtrT rfl rfl (by omega)) ?_
    refine AW.take 3 rfl (by kernel_rfl) (by kernel_rfl) (by kernel_rfl) rfl (by assumption) (fun w hS=>Y.move rfl) ?_
    refine AW.takeOn 4 rfl (by kernel_rfl) (by kernel_rfl) (by kernel_rfl) rfl rfl rfl rfl (by assumption) (fun w hS=>Y.move rfl) ?_
    refine AW.takeOn 5 rfl (by kernel_rfl) (by kernel_rfl) (by kernel_rfl) rfl rfl rfl rfl (by assumption) (fun w hS=>Y.move rfl) ?_
    refine AW.takeOn 6 rfl (by kernel_rfl) (by kernel_rfl) (by kernel_rfl) rfl rfl rfl rfl (by assumption) (fun w hS=>Y.move rfl) ?_
    refine AW.takeOn 7 rfl (by kernel_rfl) (by kernel_rfl) (by kernel_rfl) rfl rfl rfl rfl (by assumption) (fun w hS=>Y.idx rfl rfl (hslv.keep0 hS) (by omega) (by omega)) ?_
    refine AW.takeOn 8 rfl (by kernel_rfl) (by kernel_rfl) (by kernel_rfl) rfl rfl rfl rfl (by assumption) (fun w hS=>Y.load1 rfl ((hslv.keep0 hS).cell hcx)) ?_
    refine AW.takeOn 9 rfl (by kernel_rfl) (by kernel_rfl) (by kernel_rfl) rfl rfl rfl rfl (by assumption) (fun w hS=>Y.move rfl) ?_
    refine AW.takeOn 10 rfl (by kernel_rfl) (by kernel_rfl) (by kernel_rfl) rfl rfl rfl rfl (by assumption) (fun w hS=>Y.move rfl) ?_
    refine AW.takeOn 11 rfl (by kernel_rfl) (by kernel_rfl) (by kernel_rfl) rfl rfl rfl rfl (by assumption) (fun w hS=>by exact Y.sub64 rfl rfl (by omega) (by omega)) ?_
    refine AW.takeOn 12 rfl (by kernel_rfl) (by kernel_rfl) (by kernel_rfl) rfl rfl rfl rfl (by assumption) (fun w hS=>Y.idx rfl rfl (hslv.keep0 hS) (by omega) (by omega)) ?_
    refine AW.takeOn 13 rfl (by kernel_rfl) (by kernel_rfl) (by kernel_rfl) rfl rfl rfl rfl (by assumption) (fun w hS=>Y.load1 rfl ((hslv.keep0 hS).cell hcp)) ?_
    refine AW.next 14 rfl (by kernel_rfl) ?_
    refine RW.on rfl rfl rfl ?_
    refine RW.fnv (cap:=[.pointer (some ⟨gp,0,none⟩)]) rfl rfl rfl ((hln w1 ((hkr.trans hkv fun k h=> .inl h).trans0 hk1)).mono ?_)
    rintro e w2 ⟨rfl,hk2⟩
    refine RW.nil (Nm.then ⟨hS.trans0 hk2,?_⟩)
    have hS:=hS.trans0 hk2
    refine AW.takeOn 15 rfl (by kernel_rfl) (by kernel_rfl) (by kernel_rfl) rfl rfl rfl rfl (by assumption) (fun w hS=>Y.lssE rfl rfl hbb) ?_
    refine AW.take 16 rfl (by kernel_rfl) (by kernel_rfl) (by kernel_rfl) rfl (by assumption) (fun w hS=>by exact Y.pickT rfl rfl) ?_
    refine AW.donew [0,1,2,3,8,9,34] (by kernel_rfl) ?_
    dsimp only[H.keep,H.look,H.Fr.put,Nat.beq]
    cases bb
    ·have hge:kR L x < kR L p:=by
      have h1:=of_decide_eq_false hbb
      rw[cmpZ_lt] at h1
      have h2:kR L p≠kR L x:=fun e=>hpx (hinj p hpX x hxm e)
      unfold kR at *
      omega
     repeat' (first|(refine CL.condF rfl ?_)|(refine CL.exit ?_)|(refine Ex.then ?_)|(refine Ex.hit ?_)|(refine CL.done ?_)|(refine Nm.block ?_)|(refine Nm.then ?_))
     refine⟨_,rfl,rfl,rfl,rfl,P'++[p]++x::R,?_,?_,?_,hkv.trans0 hS⟩
     ·rw[←hPR]; exact List.perm_middle
     ·exact dnp_ins (by rw[hPR]; exact hAs) hR (fun z hz=>by simp at hz; rw[←hz]; exact hge)
     ·have:=hdat.keep hS
      simpa using this
    ·have hlt':kR L p < kR L x:=by
      have h1:=of_decide_eq_true hbb
      rw[cmpZ_lt] at h1
      exact h1
     have hspA:Value.spot (.slice (some ⟨g,0,none⟩) n cap) ((((P'++[p]).length:Nat):Int).toNat * 1)=⟨g,P'.length+1,none⟩:=by rw[htj]; simp[Value.spot,addr_add]
     have hspB:Value.spot (.slice (some ⟨g,0,none⟩) n cap) (((((P'++[p]).length:Nat):Int) - 1).toNat * 1)=⟨g,P'.length,none⟩:=by rw[htj2]; simp[Value.spot,addr_add]
     repeat' (first|(refine CL.seq ?_)|(refine CL.skip ?_)|(refine CL.condT rfl ?_)|(refine CL.block ?_))
     refine CL.drawz (fun w'=>K0 w2 w') (fun j=>Nat.beq j 2 || Nat.beq j 3 || Nat.beq j 4 || Nat.beq j 15 || Nat.beq j 16 || Nat.beq j 17) (by kernel_rfl) (fun w4 hheap4 hk4=>?_)
     have hS4:=hS.trans0 hk4
     have hdat4:=hdat.keep hS4
     have hsl2:=hslv.keep0 hS
     have hS:K0 w2 w4:=hk4
     skip
     refine AP.pure 2 rfl (by kernel_rfl) (by kernel_rfl) (by kernel_rfl) rfl rfl (fun w=>Y.move rfl) ?_
     refine AP.pure 3 rfl (by kernel_rfl) (by kernel_rfl) (by kernel_rfl) rfl rfl (fun w=>Y.move rfl) ?_
     refine AP.pure 4 rfl (by kernel_rfl) (by kernel_rfl) (by kernel_rfl) rfl rfl (fun w=>by exact Y.sub64 rfl rfl (by omega) (by omega)) ?_
     refine AP.take 0 [14,15,16,17] rfl (by kernel_rfl) (by kernel_rfl) (by kernel_rfl) (by kernel_rfl) rfl (by assumption) (fun w hS=>Y.move rfl) ?_
     refine AP.take 1 [14,15,16,17] rfl (by kernel_rfl) (by kernel_rfl) (by kernel_rfl) (by kernel_rfl) rfl (by assumption) (fun w hS=>Y.move rfl) ?_
     refine AP.take 5 [8,9,14,15,16,17] rfl (by kernel_rfl) (by kernel_rfl) (by kernel_rfl) (by kernel_rfl) rfl (by assumption) (fun w hS=>Y.move rfl) ?_
     refine AP.take 6 [7,8,9,14,15,16,17] rfl (by kernel_rfl) (by kernel_rfl) (by kernel_rfl) (by kernel_rfl) rfl (by assumption) (fun w hS=>Y.move rfl) ?_
     refine AP.take 7 [8,9,14,15,16,17] rfl (by kernel_rfl) (by kernel_rfl) (by kernel_rfl) (by kernel_rfl) rfl (by assumption) (fun w hS=>by exact Y.sub64 rfl rfl (by omega) (by omega)) ?_
     refine AP.take 8 [9,14,15,16,17] rfl (by kernel_rfl) (by kernel_rfl) (by kernel_rfl) (by kernel_rfl) rfl (by assumption) (fun w hS=>Y.idx rfl rfl (hsl2.keep0 hS) (by omega) (by omega)) ?_
     refine AP.take 9 [14,15,16,17] rfl (by kernel_rfl) (by kernel_rfl) (by kernel_rfl) (by kernel_rfl) rfl (by assumption) (fun w hS=>Y.load1 rfl ((hsl2.keep0 hS).cell hcp)) ?_
     refine AP.take 10 [12,13,14,15,16,17] rfl (by kernel_rfl) (by kernel_rfl) (by kernel_rfl) (by kernel_rfl) rfl (by assumption) (fun w hS=>Y.move rfl) ?_
     refine AP.take 11 [12,13,14,15,16,17] rfl (by kernel_rfl) (by kernel_rfl) (by kernel_rfl) (by kernel_rfl) rfl (by assumption) (fun w hS=>Y.move rfl) ?_
     refine AP.take 12 [13,14,15,16,17] rfl (by kernel_rfl) (by kernel_rfl) (by kernel_rfl) (by kernel_rfl) rfl (by assumption) (fun w hS=>Y.idx rfl rfl (hsl2.keep0 hS) (by omega) (by omega)) ?_
     refine AP.take 13 [14,15,16,17] rfl (by kernel_rfl) (by kernel_rfl) (by kernel_rfl) (by kernel_rfl) rfl (by assumption) (fun w hS=>Y.load1 rfl ((hsl2.keep0 hS).cell hcx)) ?_
     refine AP.take 14 [15,16,17] rfl (by kernel_rfl) (by kernel_rfl) (by kernel_rfl) (by kernel_rfl) rfl (by assumption) (fun w hS=>Y.idx rfl rfl (hsl2.keep0 hS) (by omega) (by omega)) ?_
     refine AL.last 15 rfl (by kernel_rfl) rfl ?_
     obtain⟨c4,hc4,hl4⟩:=hdat4.at_
     have hz4:c4.size=m:=by rw[←Array.length_toList,hl4,List.length_append,List.length_map]; exact hdat4.sz
     refine RW.storeF (congrArg (fun a=>some (Value.pointer (some a))) hspA) rfl rfl hc4 (by rw[hz4]; exact hdat4.fr) (by omega) (fun w5 hb5 hk5=>?_)
     have hdat5:=hdat4.put hc4 (by omega) hb5
     refine RW.nil (Nm.then ⟨trivial,?_⟩)
     refine AL.last 16 rfl (by kernel_rfl) rfl ?_
     refine RW.y (Y.idx rfl rfl (by have h:=hdat5.sl (cap:=cap) (by rw[List.length_set]; omega) (by omega) hcm; rw[List.length_set,hUl] at h; exact h) (by omega) (by omega)) rfl ?_
     refine RW.nil (Nm.then ⟨trivial,?_⟩)
     refine AL.last 17 rfl (by kernel_rfl) rfl ?_
     refine RW.storeF (congrArg (fun a=>some (Value.pointer (some a))) hspB) rfl rfl hb5 (by rw[Array.size_setIfInBounds,hz4]; exact hdat4.fr) (by rw[Array.size_setIfInBounds]; omega) (fun w6 hb6 hk6=>?_)
     have hdat6:=hdat5.put hb5 (by rw[List.length_set]; omega) hb6
     refine RW.nil (Nm.then ⟨trivial,?_⟩)
     refine AL.donew [0,1,2,3,8,9] (by kernel_rfl) ?_
     dsimp only[H.keep,H.look,H.Fr.put,Nat.beq]
     rw[List.append_assoc,List.singleton_append,set_mid] at hdat6
     repeat' (first|(refine CL.region ?_)|(refine CL.done ?_)|(refine Nm.block ?_)|(refine Nm.then ?_)|(refine Gt.nil ?_; refine RW.nilw [0,1,2,3,8,9,14,34] ?_; dsimp only[H.keep,H.look,H.Fr.put,Nat.beq])|(refine Gt.move ?_; refine RW.y (Y.move rfl) rfl ?_)|(refine Gt.assign ?_; refine RW.y (Y.assign rfl) rfl ?_)|(refine Gt.sub ?_; refine RW.y (Y.sub64 rfl rfl (by omega) (by omega)) rfl ?_))
     exact⟨P'.length,_,rfl,rfl,rfl,by omega,P',p::R,by rw[hjl,Int.add_sub_cancel],by simp <;> omega,by rw[←hPR]; simp,fun r hr=>(List.mem_cons.1 hr).elim (fun e=>e▸hlt') (hR r),hdat6,hkv.trans ((Kept.of0 hS4).trans hk5 (fun k h=> .inl h) |>.trans hk6 fun k h=> .inl h) fun k h=> .inl h⟩
  ·rintro vals wx ⟨rfl,A',hA'p,hA's,hdx',hkx⟩
   dsimp only[List.zip,List.zipWith]
   repeat' (first|(refine CL.region ?_)|(refine CL.done ?_)|(refine Nm.then ?_)|(refine Gt.nil ?_; refine RW.nilw [0,1,2,3,8,9,14,34] ?_; dsimp only[H.keep,H.look,H.Fr.put,Nat.beq])|(refine Gt.move ?_; refine RW.y (Y.move rfl) rfl ?_)|(refine Gt.assign ?_; refine RW.y (Y.assign rfl) rfl ?_)|(refine Gt.add ?_; refine RW.y (Y.add64 rfl rfl (by omega) (by omega)) rfl ?_))
   refine⟨n - (i+1),_,rfl,rfl,rfl,by omega,i+1,A',rfl,rfl,by omega,?_,hA's,by rw[hD]; exact hdx',hkr.trans hkx fun k h=> .inl h⟩
   have e:X.take (i+1)=X.take i++[x]:=by rw[List.take_add_one,hx]; rfl
   rw[e]
   exact hA'p.trans ((hAp.cons x).trans (List.perm_append_singleton x (X.take i)).symm)
 ·rw[List.drop_of_length_le (by omega),List.append_nil] at hdr
  rw[List.take_of_length_le (by omega)] at hAp
  repeat' (first|(refine CL.seq ?_)|(refine CL.region ?_)|(refine CL.condP rfl (fun _=>?_) (fun _=>?_) <;> try (exfalso; omega))|(refine CL.exit ?_)|(refine Ex.then ?_)|(refine Ex.hit ?_)|(refine CL.done ?_)|(refine Gt.nil ?_; refine RW.nilw [0,1,2,3,8,9,14,34] ?_; dsimp only[H.keep,H.look,H.Fr.put,Nat.beq])|(refine Gt.move ?_; refine RW.y (Y.move rfl) rfl ?_)|(refine Gt.lss ?_; refine RW.y (Y.lss rfl rfl) rfl ?_))
  exact FQ.norm (FQ.none rfl rfl ⟨rfl,A,hAp,hAs,hdr,hkr⟩)
theorem stableIdx{w:World}{L X:List Nat}{g gp m cap:Nat}{fz:Nat×Nat}{tl:List Value}(hdat:DatAt w g fz m tl X)(hcap:X.length≤cap)(hc:cap≤m)(hcm:cap≤maxLen)(hn:X.length≤19)(hlam:LamOk w g gp L X)(hinj : ∀a∈X,∀b∈X,kR L a=kR L b→a=b)(hnd:X.Nodup):
  Calls Tryz.prog 534 #[.slice (some ⟨g,0,none⟩) X.length cap,.int .i64 (X.length:Int),madeV gp] w fun e w'=>e = .returned (.tuple #[])∧∃A,A.Perm X∧DnP L A∧DatAt w' g fz m tl A∧Kept (fun k=>k=g) w w':=by
 have hins:=insIdx hdat hcap hc hcm (by omega) hlam hinj hnd
 generalize hXn:X.length=n at *
 refine H.enter Tryz.func534 Tryz.ntmps534 rfl rfl ?_; dsimp only[H.args]
 repeat' (first|(refine CL.seq ?_)|(refine CL.region ?_)|(refine CL.block ?_)|(refine Gt.nil ?_; refine RW.nilw [0,1,2,6,7,8,9,13,30,35,54] ?_; dsimp only[H.keep,H.look,H.Fr.put,Nat.beq])|(refine Gt.move ?_; refine RW.y (Y.move rfl) rfl ?_)|(refine Gt.assign ?_; refine RW.y (Y.assign rfl) rfl ?_))
 refine CL.loopS [0,1,2,6,7,8] (fun k vals wr=>vals=[.slice (some ⟨g,0,none⟩) n cap,.int .i64 (n:Int),madeV gp,.int .i64 20,.int .i64 0,.int .i64 20]∧wr=w) 0 ⟨_,rfl,rfl,rfl⟩ ?_
 rintro k vals wr ⟨rfl,rfl⟩
 dsimp only[List.zip,List.zipWith]
 repeat' (first|(refine CL.seq ?_)|(refine CL.region ?_)|(refine CL.condP rfl (fun _=>?_) (fun _=>?_) <;> try (exfalso; omega))|(refine CL.exit ?_)|(refine Ex.then ?_)|(refine Ex.hit ?_)|(refine Gt.nil ?_; refine RW.nilw [0,1,2,6,7,8,9,13,30,35,54] ?_; dsimp only[H.keep,H.look,H.Fr.put,Nat.beq])|(refine Gt.move ?_; refine RW.y (Y.move rfl) rfl ?_)|(refine Gt.leq ?_; refine RW.y (Y.leq rfl rfl) rfl ?_))
 refine RW.fn rfl rfl (hins.mono ?_)
 rintro e w3 ⟨rfl,A,h1,h2,h3,h4⟩
 repeat' (first|(refine CL.block ?_)|(refine Gt.nil ?_; refine RW.nilw [0,1,2,6,7,8,9,13,30,35,54] ?_; dsimp only[H.keep,H.look,H.Fr.put,Nat.beq]))
 refine CL.loopS [0,1,2,6] (fun k vals wr'=>vals=[.slice (some ⟨g,0,none⟩) n cap,.int .i64 (n:Int),madeV gp,.int .i64 20]∧wr'=w3) 0 ⟨_,rfl,rfl,rfl⟩ ?_
 rintro k vals wr' ⟨rfl,rfl⟩
 dsimp only[List.zip,List.zipWith]
 repeat' (first|(refine CL.seq ?_)|(refine CL.region ?_)|(refine CL.condP rfl (fun _=>?_) (fun _=>?_) <;> try (exfalso; omega))|(refine CL.exit ?_)|(refine Ex.then ?_)|(refine Ex.hit ?_)|(refine CL.done ?_)|(refine Gt.nil ?_; refine RW.nilw [0,1,2,6,7,8,9,13,30,35,54] ?_; dsimp only[H.keep,H.look,H.Fr.put,Nat.beq])|(refine Gt.move ?_; refine RW.y (Y.move rfl) rfl ?_)|(refine Gt.lss ?_; refine RW.y (Y.lss rfl rfl) rfl ?_))
 exact FQ.norm (FQ.none rfl rfl ⟨rfl,A,h1,h2,h3,h4⟩)
theorem sortIdx{w:World}{L X:List Nat}{g gp m cap:Nat}{fz:Nat×Nat}{tl:List Value}(hdat:DatAt w g fz m tl X)(hcap:X.length≤cap)(hc:cap≤m)(hcm:cap≤maxLen)(hn:X.length≤19)(hlam:LamOk w g gp L X)(hinj : ∀a∈X,∀b∈X,kR L a=kR L b→a=b)(hnd:X.Nodup):
  Calls Tryz.prog 511 #[.slice (some ⟨g,0,none⟩) X.length cap,madeV gp] w fun e w'=>e = .returned (.tuple #[])∧∃A,A.Perm X∧DnP L A∧DatAt w' g fz m tl A∧Kept (fun k=>k=g) w w':=by
 have hst:=stableIdx hdat hcap hc hcm hn hlam hinj hnd
 generalize hXn:X.length=n at *
 refine H.enter Tryz.func511 Tryz.ntmps511 rfl rfl ?_; dsimp only[H.args]
 repeat' (first|(refine CL.region ?_)|(refine Gt.move ?_; refine RW.y (Y.move rfl) rfl ?_)|(refine Gt.len ?_; (refine RW.y (Y.lenv rfl) rfl ?_)))
 refine RW.fn rfl rfl (hst.mono ?_)
 rintro e w3 ⟨rfl,h⟩
 repeat' (first|(refine CL.done ?_)|(refine Gt.nil ?_; refine RW.nilw [0,1] ?_; dsimp only[H.keep,H.look,H.Fr.put,Nat.beq]))
 exact FQ.norm (FQ.none rfl rfl ⟨rfl,h⟩)
end Go.Proofs.YtbhbdeelpopgoaaGreatDoor.E

set_option linter.constructorNameAsVariable false
set_option linter.unusedVariables false
namespace Go.Proofs.YtbhbdeelpopgoaaGreatDoor.E
open Go Go.RowKit H
def desc6:List Nat:=[2,5,1,0,4,3]
noncomputable def bitL(b:Bool)(v:AV)(l:List AV):List AV:=Bool.rec (motive:=fun _=>List AV) l (v::l) b
noncomputable def srtA(c:Nat):List AV:=bitL (Nat.testBit c 2) (.opq 0 0 2 0 0) (bitL (Nat.testBit c 5) (.opq 0 0 5 0 0) (bitL (Nat.testBit c 1) (.opq 0 0 1 0 0) (bitL (Nat.testBit c 0) (.opq 0 0 0 0 0) (bitL (Nat.testBit c 4) (.opq 0 0 4 0 0) (bitL (Nat.testBit c 3) (.opq 0 0 3 0 0) [])))))
def srt6L(c:Nat):List Nat:=desc6.filter fun s=>Nat.testBit c s
theorem srtA_eq(c:Nat):srtA c=(srt6L c).map fun s=> .opq 0 0 s 0 0:=by
 unfold srtA srt6L desc6
 simp only[List.filter_cons,List.filter_nil]
 generalize Nat.testBit c 0=b0
 generalize Nat.testBit c 1=b1
 generalize Nat.testBit c 2=b2
 generalize Nat.testBit c 3=b3
 generalize Nat.testBit c 4=b4
 generalize Nat.testBit c 5=b5
 cases b0 <;> cases b1 <;> cases b2 <;> cases b3 <;> cases b4 <;> cases b5 <;> rfl
theorem srt6L_mem{c s:Nat}:s∈srt6L c↔s < 6∧Nat.testBit c s=true:=by
 unfold srt6L desc6
 rw[List.mem_filter]
 constructor
 ·rintro⟨h,k⟩; exact⟨by simp at h; omega,k⟩
 ·rintro⟨h,k⟩; exact⟨by simp; omega,k⟩
theorem srt6L_desc(c:Nat):(srt6L c).Pairwise fun a b=>rk b < rk a:=List.Pairwise.filter _ (by decide)
theorem rk_inj: ∀a,a < 6→∀b,b < 6→rk a=rk b→a=b:=by decide
def plN(L:List Nat)(s:Nat):Nat:=(standsAt L s).getD 0
theorem full_mem{g:Sgs}{c:Nat}(h:fullB c=true)(hc:g.cd c){s:Nat}:s∈g.dd↔s < 6∧Nat.testBit c s=true:=by
 constructor
 ·intro hs
  have h6:=dd_lt g s hs
  refine⟨h6,?_⟩
  cases e:Nat.testBit c (6+s) with
  | false=>rw[full_bit h s h6,e]; rfl
  | true=>exact absurd hs ((hc.2 s h6).2 e)
 ·rintro⟨h6,e⟩
  exact(hc.2 s h6).1 e
theorem srt_real{r:Ren}{c:Nat}(h:fullB c=true)(hc:r.sg.cd c):reals r (srtA c)=some (((srt6L c).map (plN r.sg.dd)).map plC):=by
 rw[srtA_eq]
 have key : ∀l:List Nat,(∀s∈l,s∈r.sg.dd)→reals r (l.map fun s=>AV.opq 0 0 s 0 0)=some ((l.map (plN r.sg.dd)).map plC):=by
  intro l
  induction l with
  | nil=>intro _; exact reals_nil
  | cons s l ih=>
   intro hl
   obtain⟨m,hm⟩:=stands_of (hl s List.mem_cons_self)
   refine reals_cons.2 ⟨_,_,?_,ih fun t ht=>hl t (List.mem_cons_of_mem _ ht),rfl⟩
   simp only[real]
   show(standsAt r.sg.dd s).map (fun m=>Value.int .i64 (Int.ofNat m))=_
   rw[hm,plN,hm]; rfl
 exact key _ fun s hs=>(full_mem h hc).2 (srt6L_mem.1 hs)
theorem srt_end{r:Ren}{c:Nat}(h:fullB c=true)(hc:r.sg.cd c){A:List Nat}(h1:A.Perm (List.range r.sg.dd.length))(h2:DnP r.sg.dd A):A=(srt6L c).map (plN r.sg.dd):=by
 have hpl : ∀s,s∈r.sg.dd→r.sg.dd[plN r.sg.dd s]?=some s:=fun s hs=>by
  obtain⟨m,hm⟩:=stands_of hs
  rw[plN,hm]; exact standsAt_at hm
 have hS : ∀s∈srt6L c,s∈r.sg.dd:=fun s hs=>(full_mem h hc).2 (srt6L_mem.1 hs)
 refine dnp_eq h2 ?_ fun x=>?_
 ·rw[DnP,List.pairwise_map]
  refine List.Pairwise.imp_of_mem (fun {a b} ha hb hab=>?_) (srt6L_desc c)
  unfold kR
  rw[List.getD_eq_getElem?_getD,List.getD_eq_getElem?_getD,hpl a (hS a ha),hpl b (hS b hb)]
  exact hab
 ·rw[h1.mem_iff,List.mem_range,List.mem_map]
  constructor
  ·intro hx
   obtain⟨s,hs⟩ : ∃s,r.sg.dd[x]?=some s:=⟨_,List.getElem?_eq_getElem hx⟩
   have hm:=List.mem_of_getElem? hs
   refine⟨s,srt6L_mem.2 ((full_mem h hc).1 hm),?_⟩
   rw[plN,standsAt_self (dd_nodup _) hs]; rfl
  ·rintro⟨s,hs,rfl⟩
   exact(List.getElem?_eq_some_iff.1 (hpl s (hS s hs))).1
noncomputable def rngA(n:Nat):List AV:=(List.range n).map fun x=> .int .i64 (.ofNat x)
noncomputable def isMade(f:Fn):Bool:=match f with
 | .func q=>Nat.beq q 512
 | _=>false
theorem isMade_ok{f:Fn}(h:isMade f=true):f = .func 512:=by
 unfold isMade at h
 split at h
 ·rw[Nat.eq_of_beq_eq_true h]
 ·cases h
noncomputable def srtK(rv:AV)(h:Hp)(n:Nat)(l:List AV)(k:List AV→Bool):Bool:=ife (isOpq rv) (rwsK rv h fun _ c _=>ask (fullB c) (ask (Nat.beq n (cntB c)) (k (srtA c)))) (ask (Nat.ble n 1) (k l))
where isOpq (v:AV):Bool:=match v with
 | .opq _ _ _ _ _=>true
 | _=>false
noncomputable def sortP(fl:Nat)(vs:List AV)(h:Hp)(k:KV):Bool:=match vs with
 | [.slx j o n z,.fn f [] [.ptr b o2]]=>ask (isMade f) (ask (Nat.beq o 0) (ask (Nat.beq o2 0) (ask (Nat.ble fl j) (ask (Nat.beq z 1) (ask (Nat.ble n 19) (cellsK h b fun tb ob rb cb=>ask (Nat.beq tb 28) (match cb with
  | [rv]=>cellsK h j fun t op ro cs=>ask (Nat.beq t 3) (ife ro false (lenK cs fun m=>ask (Nat.ble n m) (ask (Nat.ble m 1000000) (takeK cs n fun l=>ask (avEq (.agg l) (.agg (rngA n))) (dropK cs n fun tl=>srtK rv h n l fun l'=>catK l' tl fun cs'=>putH h j (.cells t op ro cs') fun h'=>k (.tup []) h')))))
  | _=>false)))))))
 | _=>false
theorem rng_real{r:Ren}: ∀(l:List Nat),reals r (l.map fun x=>AV.int .i64 (.ofNat x))=some (l.map plC)
 | []=>reals_nil
 | x::l=>reals_cons.2 ⟨_,_,rfl,rng_real l,rfl⟩
theorem RwsAt.keepG{w w':World}{q v:Value}{L:List Nat}{g:Nat}{c:Array Value}{fz:Nat×Nat}(h:RwsAt w q L v)(hl : ∀g',live v=some g'→g'≠g)(hg:w.heap[g]?=some (.cells c 3 fz))(k:Kept (fun k=>k=g) w w'):RwsAt w' q L v:=by
 refine⟨h.sl.keep k fun g' hg'=>hl g' hg',fun m=>?_,h.lt,h.few⟩
 obtain⟨g2,c2,fz2,e,h1,h2⟩:=h.pr m
 refine⟨g2,c2,fz2,e,?_,h2⟩
 rw[k.block g2 (lt_of_at h1) fun z=>?_]
 ·exact h1
 ·have z:g2=g:=z
  subst z
  rw[h1] at hg; cases hg
theorem sort_core{S:Nat→Prop}{w0 w:World}{fl:Nat}{r:Ren}{h:Hp}(hR:Rel S w0 fl r h w){j gp n cp:Nat}{op:Bool}{cs l':List AV}{L A:List Nat}{p:Nat×Nat}(hfl:fl≤j)(hjb:h.at j=some (.cells 3 op false cs))(hp:r j=some p)(hl:cs.take n=rngA n)(hnl:n≤cs.length)(hnc:n≤cp)(hcp:cp≤p.2)(hcx:cp≤maxLen)(hn9:n≤19)
  (hlam:LamOk w p.1 gp L (List.range n)) (hinj : ∀a∈List.range n,∀b∈List.range n,kR L a=kR L b→a=b) (hA:reals r l'=some (A.map plC)) (hAn:A.length=n) (huq : ∀Z,Z.Perm (List.range n)→DnP L Z→Z=A) :
  Calls Tryz.prog 511 #[.slice (some ⟨p.1,0,none⟩) n cp,madeV gp] w fun e w'=>e = .returned (.tuple #[])∧Rel S w0 fl r (h.put j (some (.cells 3 op false (l'++cs.drop n)))) w':=by
 obtain⟨c,fz,us,g1,g2,g3,g4,g5,g6,g7⟩:=id (hR.at hp hjb)
 have hul:=reals_len g3
 have h1:=reals_take n g3
 rw[hl,rngA,rng_real] at h1
 have h1:=Option.some.inj h1
 have hl':l'.length=n:=by
  have:=reals_len hA
  rw[List.length_map,hAn] at this
  exact this.symm
 have hct:c.toList=(List.range n).map plC++c.toList.drop n:=by
  rw[h1,g4,List.take_take,Nat.min_eq_left hnl,List.take_append_drop]
 have hcz:c.toList.length=p.2:=by rw[Array.length_toList]; exact g2
 have hdat:DatAt w p.1 fz p.2 (c.toList.drop n) (List.range n):=⟨⟨c,g1,hct⟩,fun i hi=>by have:=g7 rfl; omega,by rw[List.length_range,List.length_drop,hcz]; omega⟩
 have hs:=sortIdx (cap:=cp) hdat (by rw[List.length_range]; exact hnc) hcp hcx (by rw[List.length_range]; exact hn9) hlam hinj List.nodup_range
 rw[List.length_range] at hs
 refine hs.mono ?_
 rintro e w' ⟨rfl,Z,hZ1,hZ2,hZ3,hZ4⟩
 rw[huq Z hZ1 hZ2] at hZ3
 obtain⟨c',q1,q2⟩:=hZ3.at_
 have hsz:=hZ3.sz
 have hln:(l'++cs.drop n).length=cs.length:=by rw[List.length_append,List.length_drop,hl']; omega
 refine⟨rfl,hR.put hfl hp hjb hZ4 ⟨c',fz,A.map plC++us.drop n,q1,?_,reals_app hA (reals_drop n g3),?_,?_,(fun z=>?_),g7⟩⟩
 ·rw[←Array.length_toList,q2,List.length_append,List.length_map]; exact hsz
 ·rw[hln,q2,List.take_append,List.length_map,hAn,List.take_of_length_le (by rw[List.length_map,hAn]; exact hnl),g4,List.drop_take]
 ·rw[hln]; exact g5
 ·rw[hln]; exact g6 z
theorem pr_sort{fl:Nat}:Pr1 Tryz.prog fl 511 fun _ vs h kr _=>sortP fl vs h kr:=by
 refine Pr1.mem fun vs h k hk=>?_
 unfold sortP at hk
 split at hk
 ·rename_i j o n zz f b o2
  replace hk:=ask_ok hk; obtain⟨hf,hk⟩:=hk
  replace hk:=ask_ok hk; obtain⟨h1,hk⟩:=hk
  replace hk:=ask_ok hk; obtain⟨h2,hk⟩:=hk
  replace hk:=ask_ok hk; obtain⟨hfl,hk⟩:=hk
  replace hk:=ask_ok hk; obtain⟨hnc,hk⟩:=hk
  replace hk:=ask_ok hk; obtain⟨hn9,hk⟩:=hk
  have hf:=isMade_ok hf; subst hf
  have h1:=Nat.eq_of_beq_eq_true h1; subst h1
  have h2:=Nat.eq_of_beq_eq_true h2; subst h2
  have hfl:=ble_le hfl
  have hnc:=Nat.eq_of_beq_eq_true hnc; subst hnc
  have hn9:=ble_le hn9
  replace hk:=cellsK_ok hk; obtain⟨tb,ob,rb,cb,hbb,hk⟩:=hk
  replace hk:=ask_ok hk; obtain⟨h3,hk⟩:=hk
  have h3:=Nat.eq_of_beq_eq_true h3; subst h3
  split at hk
  ·rename_i rv
   replace hk:=cellsK_ok hk; obtain⟨t,op,ro,cs,hjb,hk⟩:=hk
   replace hk:=ask_ok hk; obtain⟨h4,hk⟩:=hk
   have h4:=Nat.eq_of_beq_eq_true h4; subst h4
   rcases ife_ok hk with ⟨_,hk⟩|⟨hro,hk⟩
   ·cases hk
   subst hro
   rw[lenK_eq] at hk
   replace hk:=ask_ok hk; obtain⟨hcm,hk⟩:=hk
   replace hk:=ask_ok hk; obtain⟨hm1,hk⟩:=hk
   have hcm:=ble_le hcm
   have hm1:=ble_le hm1
   rw[takeK_eq] at hk
   replace hk:=ask_ok hk; obtain⟨he,hk⟩:=hk
   have he:=avEq_ok _ _ he
   injection he with he
   rw[dropK_eq] at hk
   have fin : ∀l',(∀(S:Nat→Prop) (w0 w:World) (r:Ren),Rel S w0 fl r h w→∀(p:Nat×Nat) (pb:Nat) (rvx:Value) (cbv:Array Value) (tb:TypeId) (fzb:Nat×Nat),r j=some p→real r rv=some rvx→w.heap[pb]?=some (.cells cbv 28 fzb)→cbv.toList[0]?=some rvx→∃L A,LamOk w p.1 pb L (List.range n)∧(∀a∈List.range n,∀b∈List.range n,kR L a=kR L b→a=b)∧reals r l'=some (A.map plC)∧A.length=n∧∀Z,Z.Perm (List.range n)→DnP L Z→Z=A)→catK l' (cs.drop n) (fun cs'=>putH h j (.cells 3 op false cs') fun h'=>k (.tup []) h')=true→∃v h',k v h'=true∧∀S w0 r w xs,Rel S w0 fl r h w→reals r [.slx j 0 n 1,.fn (.func 512) [] [.ptr b 0]]=some xs→Calls Tryz.prog 511 xs.toArray w fun e w'=>∃r' x,e = .returned x∧Ext r r'∧Rel S w0 fl r' h' w'∧real r' v=some x:=by
    intro l' hall hk
    rw[catK_eq,putH_eq] at hk
    refine⟨_,_,hk,fun S w0 r w xs hR hxs=>?_⟩
    obtain⟨u1,t1,hu1,ht1,rfl⟩:=reals_cons.1 hxs
    obtain⟨u2,hu2,rfl⟩:=reals1 ht1
    obtain⟨p,hp,_,hle,hmx,rfl⟩:=real_slx hu1
    obtain⟨xa,xb,hxa,hxb,rfl⟩:=real_fn hu2
    have hxa:some ([]:List Value)=some xa:=hxa
    cases hxa
    obtain⟨ub,hub,rfl⟩:=reals1 hxb
    obtain⟨pb,hpb,rfl⟩:=real_ptr hub
    obtain⟨cbv,fzb,usb,b1,b2,b3,b4,b5,b6,b7⟩:=id (hR.at hpb hbb)
    obtain⟨rvx,hrvx,rfl⟩:=reals1 b3
    have b8:cbv.toList[0]?=some rvx:=by
     have:=congrArg (·[0]?) b4
     simp only[List.length_singleton,List.getElem?_cons_zero,List.getElem?_take,Nat.lt_add_one,if_pos] at this
     exact this.symm
    obtain⟨L,A,a1,a2,a3,a4,a5⟩:=hall S w0 w r hR p pb.1 rvx cbv 0 fzb hp hrvx b1 b8
    refine(sort_core hR hfl hjb hp he hcm (by simpa using hle) (by simp) hmx hn9 a1 a2 a3 a4 a5).mono ?_
    rintro e w' ⟨rfl,hR'⟩
    exact⟨r,_,rfl,Ext.refl r,hR',by simp[real,reals]⟩
   rcases ife_ok hk with ⟨_,hk⟩|⟨_,hk⟩
   ·obtain⟨i,c,o,tab,rfl,hb,hk0⟩:=rwsK_ok hk
    have hk:=preK_k hk0
    replace hk:=ask_ok hk; obtain⟨hfu,hk⟩:=hk
    replace hk:=ask_ok hk; obtain⟨hcn,hk⟩:=hk
    have hcn:=Nat.eq_of_beq_eq_true hcn
    refine fin _ (fun S w0 w r hR p pb rvx cbv tb fzb hp hrvx hpb hc0=>?_) hk
    obtain⟨q,hq1,hq2,hrw⟩:=rws_at hR hrvx hb hk0
    obtain⟨pi,hpi,_,_,_,hcd,rfl⟩:=real_opq1 hrvx
    have hdl:=full_len hfu hcd
    have hnd:n=r.sg.dd.length:=by omega
    subst hnd
    obtain⟨cj,fz,us,g1,_⟩:=id (hR.at hp hjb)
    have hne:pi.1≠p.1:=fun e=>by
     have:=hR.inj i j _ _ pi p (hR.lt hpi) (hR.lt hp) hb hjb hpi hp e
     subst this
     rw[hb] at hjb; cases hjb
    refine⟨r.sg.dd,_,fun w' hk' a ha b hb' hab=>?_,fun a ha b hb' e=>?_,srt_real hfu hcd,?_,fun Z hZ1 hZ2=>srt_end hfu hcd hZ1 hZ2⟩
    ·rw[List.mem_range] at ha hb'
     have hrw':RwsAt w' q r.sg.dd _:=hrw.keepG (fun g' hg'=>by
      have:=live_own hg'
      simp only[Value.ownBlock,Option.some.injEq] at this
      rw[←this]; exact hne) g1 hk'
     have hpb':w'.heap[pb]?=some (.cells cbv 28 fzb):=by
      rw[hk'.block pb (lt_of_at hpb) fun z=>?_]
      ·exact hpb
      ·have z:pb=p.1:=z
       subst z
       rw[hpb] at g1; cases g1
     have ea:=List.getElem?_eq_getElem ha
     have eb:=List.getElem?_eq_getElem hb'
     have:=lamCmp hrw' hpb' hc0 ea eb
     rw[List.getD_eq_getElem?_getD,List.getD_eq_getElem?_getD,ea,eb]
     exact this
    ·rw[List.mem_range] at ha hb'
     unfold kR at e
     rw[List.getD_eq_getElem?_getD,List.getD_eq_getElem?_getD,List.getElem?_eq_getElem ha,List.getElem?_eq_getElem hb'] at e
     have:=rk_inj _ (dd_lt _ _ (List.getElem_mem ha)) _ (dd_lt _ _ (List.getElem_mem hb')) e
     exact(List.getElem?_inj ha (dd_nodup _)).1 (by rw[List.getElem?_eq_getElem ha,List.getElem?_eq_getElem hb',this])
    ·have:=reals_len (srt_real hfu hcd)
     rw[List.length_map] at this
     rw[this,srtA_eq,List.length_map,hdl,cnt_set]
     exact Nat.le_antisymm (len_sub (show(srt6L c).Nodup from List.Pairwise.filter _ (show desc6.Nodup by decide)) fun s hs=>set_mem.2 (srt6L_mem.1 hs)) (len_sub (set_nodup c) fun s hs=>srt6L_mem.2 (set_mem.1 hs))
   ·replace hk:=ask_ok hk; obtain⟨hn1,hk⟩:=hk
    have hn1:=ble_le hn1
    refine fin _ (fun S w0 w r hR p pb rvx cbv tb fzb hp hrvx hpb hc0=>?_) hk
    have h01:n=0∨n=1:=by omega
    refine⟨[],List.range n,fun w' hk' a ha b hb' hab=>?_,fun a ha b hb' e=>?_,by rw[he]; exact rng_real _,List.length_range,fun Z hZ1 hZ2=>?_⟩
    ·rw[List.mem_range] at ha hb'; omega
    ·rw[List.mem_range] at ha hb'; omega
    ·rcases h01 with rfl|rfl
     ·exact List.perm_nil.1 hZ1
     ·exact List.perm_singleton.1 hZ1
  ·cases hk
 ·cases hk
end Go.Proofs.YtbhbdeelpopgoaaGreatDoor.E

set_option linter.constructorNameAsVariable false
set_option linter.unusedVariables false
namespace Go.Proofs.YtbhbdeelpopgoaaGreatDoor.E
open Go Go.RowKit H
set_option maxRecDepth 100000
def SumsOk:Prop:=(∀x∈shaT,Bytes x.2∧SumOk P0 106 22 5 x.1 x.2)∧∀x∈shaT,Bytes x.2∧SumOk P0 23 22 5 x.1 x.2
noncomputable def defP(fl:Nat)(f:FuncId):Prim:=fun call vs h kr kp=>deferK P0 fl FU (dr0 fl) call f vs h kr kp
noncomputable def tb0(fl:Nat):List (FuncId×Prim):=[(511,fun _ vs h kr _=>sortP fl vs h kr),(104,fun _ vs h kr _=>idxP vs h fun v=>kr v h),(159,fun _ vs h kr _=>idxP vs h fun v=>kr v h),(176,fun _ vs h kr _=>cnt1P vs h fun v=>kr v h),
 (432,rfK P0 fl FU (dr0 fl) 189 it1 (fun _=>true) 432),(126,rfK P0 fl FU (dr0 fl) 189 it2 tk2 126),
 (101,fun _ vs h kr _=>sortedS 9 [157,518,557] vs h kr),(236,fun _ vs h kr _=>sortedI 3 [320] vs h kr),
 (203,fun _ vs h kr _=>cloneP vs h kr),(515,fun _ vs h kr _=>cloneP vs h kr),(509,fun _ vs h kr _=>ccP fl 598 vs h kr),
 (235,fun _ vs h kr _=>asP fl vs h kr),(306,fun _ vs h kr _=>isP vs h fun v=>kr v h),(50,fun _ vs h kr _=>diskP vs h kr),
 (106,fun _ vs h kr _=>sumP 22 5 shaT vs h fun v=>kr v h),(23,fun _ vs h kr _=>sumP 22 5 shaT vs h fun v=>kr v h),(430,fun _ vs h kr _=>joinP vs h fun v=>kr v h),
 (110,defP fl 110),(197,defP fl 197),(351,defP fl 351),(302,defP fl 302)]
theorem tb0_ok(hs:SumsOk)(fl:Nat): ∀x∈tb0 fl,Pr1 P0 fl x.1 x.2:=by
 have hd : ∀f,Pr1 P0 fl f (defP fl f):=fun f=>Pr1.defer (dr0_ok fl) regs0
 unfold tb0
 refine List.forall_mem_cons.2 ⟨pr_sort,List.forall_mem_cons.2 ⟨pr_106,List.forall_mem_cons.2 ⟨pr_162,List.forall_mem_cons.2 ⟨pr_179,List.forall_mem_cons.2 ⟨rfK_ok (dr0_ok fl) regs0 it1_ok 432,List.forall_mem_cons.2 ⟨rfK_ok (dr0_ok fl) regs0 it2_ok 126,List.forall_mem_cons.2 ⟨pr_103,List.forall_mem_cons.2 ⟨pr_239,List.forall_mem_cons.2 ⟨pr_206,List.forall_mem_cons.2 ⟨pr_518,List.forall_mem_cons.2 ⟨pr_512,List.forall_mem_cons.2 ⟨pr_238,List.forall_mem_cons.2 ⟨pr_309,List.forall_mem_cons.2 ⟨pr_37,List.forall_mem_cons.2 ⟨sumP_ok hs.1,List.forall_mem_cons.2 ⟨sumP_ok hs.2,List.forall_mem_cons.2 ⟨pr_433,List.forall_mem_cons.2 ⟨hd 110,List.forall_mem_cons.2 ⟨hd 197,List.forall_mem_cons.2 ⟨hd 351,List.forall_mem_cons.2 ⟨hd 302,fun x hx=>by cases hx⟩⟩⟩⟩⟩⟩⟩⟩⟩⟩⟩⟩⟩⟩⟩⟩⟩⟩⟩⟩⟩
noncomputable def call0(fl:Nat):CallF:=callK P0 fl FU (tab (tb0 fl)) (dr0 fl) 100
theorem call0_ok(hs:SumsOk)(fl:Nat):CallOk P0 fl (call0 fl):=callK_ok (tab_ok (tb0_ok hs fl)) (dr0_ok fl) regs0 100
noncomputable def tb1(fl:Nat):List (FuncId×Prim):=(234,pureD P0 FU (fun _=>noWc) (fun _=>noWc) dr0 call0 234)::(535,pureV P0 FU dr0 call0 535)::(466,pureS P0 FU dr0 call0 466)::(422,pureS P0 FU dr0 call0 422)::tb0 fl
theorem tb1_ok(hs:SumsOk)(fl:Nat): ∀x∈tb1 fl,Pr1 P0 fl x.1 x.2:=List.forall_mem_cons.2 ⟨pureD_ok (call0_ok hs) (fun fl=>(noWc_ok (P:=P0) (fl:=fl)).ex) (fun _=>noWc_ok) dr0_ok regs0 fl _,List.forall_mem_cons.2 ⟨pureV_ok (call0_ok hs) dr0_ok regs0 fl _,List.forall_mem_cons.2 ⟨pureS_ok (call0_ok hs) dr0_ok regs0 fl _,List.forall_mem_cons.2 ⟨pureS_ok (call0_ok hs) dr0_ok regs0 fl _,tb0_ok hs fl⟩⟩⟩⟩
noncomputable def call1(fl:Nat):CallF:=callK P0 fl FU (tab (tb1 fl)) (dr0 fl) 100
theorem call1_ok(hs:SumsOk)(fl:Nat):CallOk P0 fl (call1 fl):=callK_ok (tab_ok (tb1_ok hs fl)) (dr0_ok fl) regs0 100
noncomputable def run1(fl:Nat)(vs:List AV)(h:Hp)(k:KV):Bool:=bodyW 0 P0 fl FU noWc (fun n call=>drX call1 n call) (call1 fl) 303 vs h k
noncomputable def wc1(fl:Nat):WcF:=fun f=>ifeV (Nat.beq f 303) (some (run1 fl)) none
theorem wc1_ok(hs:SumsOk)(fl:Nat):WcOk P0 fl (wc1 fl):=by
 intro f g vs h k hg hk
 cases e:Nat.beq f 303 with
 | true=>
  replace hg:ifeV (Nat.beq f 303) (some (run1 fl)) none=some g:=hg
  rw[e] at hg
  replace hg:some (run1 fl)=some g:=hg
  cases hg
  have e:=Nat.eq_of_beq_eq_true e
  subst e
  replace hk:bodyW 0 P0 fl FU noWc (fun n call=>drX call1 n call) (call1 fl) 303 vs h k=true:=hk
  have hd : ∀n call,CallOk P0 fl call→DrawWk P0 fl n (fun ops=>ops=R8) (drX call1 n call):=fun n call hc=>drX_ok (call1_ok hs) hc
  exact⟨bodyW_ex (call1_ok hs fl) (noWc_ok (P:=P0) (fl:=fl)).ex (fun n call hc=>(hd n call hc).ex) regs8 hk,bodyW_ok (call1_ok hs fl) noWc_ok hd regs8 hk⟩
 | false=>
  replace hg:ifeV (Nat.beq f 303) (some (run1 fl)) none=some g:=hg
  rw[e] at hg
  cases hg
noncomputable def runA(fl:Nat)(vs:List AV)(h:Hp)(k:KV):Bool:=bodyW 1 P0 fl FU noWc (fun n call=>drXA call1 n call) (call1 fl) 303 vs h k
noncomputable def wcA(fl:Nat):WcF:=fun f=>ifeV (Nat.beq f 303) (some (runA fl)) none
theorem wcA_ex(hs:SumsOk)(fl:Nat):WcEx (wcA fl):=by
 intro f g vs h k hg hk
 cases e:Nat.beq f 303 with
 | true=>
  replace hg:ifeV (Nat.beq f 303) (some (runA fl)) none=some g:=hg
  rw[e] at hg
  replace hg:some (runA fl)=some g:=hg
  cases hg
  replace hk:bodyW 1 P0 fl FU noWc (fun n call=>drXA call1 n call) (call1 fl) 303 vs h k=true:=hk
  exact bodyW_ex (call1_ok hs fl) (noWc_ok (P:=P0) (fl:=fl)).ex (fun n call hc=>drXA_ex (call1_ok hs) hc) regs8 hk
 | false=>
  replace hg:ifeV (Nat.beq f 303) (some (runA fl)) none=some g:=hg
  rw[e] at hg
  cases hg
noncomputable def h00:Hp:=((⟨100,.e⟩:Hp).put 0 (some .ints)).put 1 (some (.cells 441 false true [.ifc 512 (.agg [.ptr 9 201])]))
end Go.Proofs.YtbhbdeelpopgoaaGreatDoor.E

set_option linter.constructorNameAsVariable false
set_option linter.unusedVariables false
namespace Go.Proofs.YtbhbdeelpopgoaaGreatDoor.E
open Go Go.RowKit H
set_option maxRecDepth 100000
structure Wf (w:World):Prop where
 m0 : ∃m,w.cell? ⟨0,0,none⟩=some (.int .i64 m)
 e1 : ∃fz,w.heap[1]?=some (.cells #[rT 201] 441 fz)
 sz:9 < w.heap.size
theorem h00_at{i:Nat}(hi:i < LIM):h00.at i=if 1=i then some (.cells 441 false true [.ifc 512 (.agg [.ptr 9 201])]) else if 0=i then some .ints else none:=by
 unfold h00
 rw[Hp.at_put (by decide) hi,Hp.at_put (by decide) hi]
 simp only[Hp.at,Tr.get_e]
def r00f(i:Nat):Option (Nat×Nat):=match i with
 | 0=>some (0,1)
 | 1=>some (1,1)
 | 9=>some (9,0)
 | _=>none
def r00(sg:Sgs):Ren:=⟨r00f,fun i=>i < 100∧r00f i=none,sg⟩
theorem r00_some{sg:Sgs}{i:Nat}{p:Nat×Nat}(h:r00 sg i=some p):(i=0∨i=1∨i=9)∧p.1=i:=by
 have h:r00f i=some p:=h
 unfold r00f at h
 split at h
 ·cases h; exact⟨.inl rfl,rfl⟩
 ·cases h; exact⟨.inr (.inl rfl),rfl⟩
 ·cases h; exact⟨.inr (.inr rfl),rfl⟩
 ·cases h
theorem rel00(sg:Sgs){w:World}(h:Wf w):Rel (fun _=>False) w 100 (r00 sg) h00 w:=by
 have hn:h00.next=100:=rfl
 obtain⟨fz1,he1⟩:=h.e1
 have hl1:=lt_of_at he1
 refine⟨fun i b hi hb=>?_,fun i j b c p q hi hj hb hc hp hq e=>?_,fun i hi=>?_,by rw[hn]; decide,fun i p _ hp=>(r00_some hp).2,fun i p hi hp=>?_,fun i p hp=>?_,Kept.refl _ _,by rw[hn]; exact⟨Nat.le_refl _,Nat.le_refl _⟩,fun i hi=>⟨hi.2,by rw[hn]; exact hi.1⟩,fun i hi=>?_,fun i hi hL=>?_⟩
 ·rw[hn] at hi
  rw[h00_at (Nat.lt_trans hi (by decide))] at hb
  by_cases e1:1=i
  ·subst e1
   rw[if_pos rfl] at hb; cases hb
   refine⟨(1,1),rfl,_,fz1,_,he1,rfl,reals_cons.2 ⟨rT 201,[],rfl,reals_nil,rfl⟩,rfl,Nat.le_refl _,fun _=>rfl,fun z=>by cases z⟩
  ·rw[if_neg e1] at hb
   by_cases e0:0=i
   ·subst e0
    rw[if_pos rfl] at hb; cases hb
    exact⟨(0,1),rfl,h.m0⟩
   ·rw[if_neg e0] at hb; cases hb
 ·have h1:=(r00_some hp).2
  have h2:=(r00_some hq).2
  omega
 ·rw[hn] at hi
  cases e:r00 sg i with
  | none=>rfl
  | some p=>have:=(r00_some e).1; omega
 ·have:=(r00_some hp).1; omega
 ·have h1:=(r00_some hp).1
  have h2:=(r00_some hp).2
  have:=h.sz
  omega
 ·rw[hn] at hi
  cases e:r00 sg i with
  | none=>exact .inl ⟨hi,e⟩
  | some p=>exact .inr ⟨p,rfl⟩
 ·rw[hn] at hi
  rw[h00_at hL,if_neg (by omega),if_neg (by omega)]
theorem law_of{T:List (FuncId×Prim)}(hT : ∀x∈T,Pr1 P0 100 x.1 x.2){f:FuncId}{vs:List AV}
  (hk:callK P0 100 FU (tab T) (dr0 100) 200 f vs h00 (fun v _=>qBool v fun x=>ask x true) (fun _ _=>false)=true) {w:World} (hw:Wf w) {sg:Sgs} {xs:List Value} (hxs:reals (r00 sg) vs=some xs):Calls P0 f xs.toArray w fun e w'=>K0 w w'∧e = .returned (.bool true):=by
 have hc:=callK_ok (P:=P0) (fl:=100) (m:=FU) (tab_ok hT) (dr0_ok 100) regs0 200
 rcases hc _ _ _ _ _ hk with ⟨v,h',hv,hC⟩|⟨_,_,hk,_⟩
 ·obtain⟨b,rfl,hb⟩:=qBool_ok (x:=v) hv
  have hb:b=true:=(ask_ok (b:=b) hb).1
  subst hb
  refine(hC _ w (r00 sg) w xs (rel00 sg hw) hxs).mono ?_
  rintro e w' ⟨r',x,rfl,_,hR',hx⟩
  have:=real_bool hx
  subst this
  exact⟨hR'.kept,rfl⟩
 ·cases hk
end Go.Proofs.YtbhbdeelpopgoaaGreatDoor.E

set_option linter.constructorNameAsVariable false
set_option linter.unusedVariables false
namespace Go.Proofs.YtbhbdeelpopgoaaGreatDoor.E
open Go Go.RowKit H
set_option maxRecDepth 100000
noncomputable def hTL:List Blk:=[.fix 10,.fix 11,.fix 12,.fix 13,.fix 14,.fix 15,.rows 1 arcTab]
noncomputable def hT7:Hp:=memL hTL h00
noncomputable def tl1(T:List (FuncId×Prim)):CallF:=callK P0 107 FU (tab T) (dr0 107) 200
noncomputable def nope:KV:=fun _ _=>false
noncomputable def lifeK(v:AV)(k:AV→Bool):Bool:=match v with
 | .tup [.ptr i o,_,e]=>ask (avEq e (.int .i64 (.ofNat 0))) (k (.ptr i o))
 | _=>false
theorem lifeK_ok{v:AV}{k:AV→Bool}(h:lifeK v k=true): ∃i o l,v = .tup [.ptr i o,l,.int .i64 (.ofNat 0)]∧k (.ptr i o)=true:=by
 unfold lifeK at h
 split at h
 ·replace h:=ask_ok h; obtain⟨h1,h⟩:=h
  have:=avEq_ok _ _ h1
  subst this
  exact⟨_,_,_,rfl,h⟩
 ·cases h
noncomputable def cmdI:AV:= .agg [.int .i64 (.ofNat 0),.str [112,114,111,106],.str [49,46,48,46,48]]
noncomputable def cmdA(k:Nat):AV:= .agg [.int .i64 (.ofNat 1),.str [98],.str (spt k)]
def cmdIv:Value:= .agg #[.int .i64 0,.string (B (textOf [112,114,111,106])),.string (B (textOf [49,46,48,46,48]))]
def cmdAv(k:Nat):Value:= .agg #[.int .i64 1,.string (B (textOf [98])),.string (B (textOf (spt k)))]
theorem cmdI_real(r:Ren):real r cmdI=some cmdIv:=by
 simp only[cmdI,real,reals,if_pos (show([112,114,111,106].all fun b=>Nat.blt b 256)=true by decide),if_pos (show([49,46,48,46,48].all fun b=>Nat.blt b 256)=true by decide),Option.bind_some,Option.map_some]
 rfl
theorem cmdA_real(r:Ren){k:Nat}(hk:k < 10):real r (cmdA k)=some (cmdAv k):=by
 simp only[cmdA,real,reals,if_pos (show([98].all fun b=>Nat.blt b 256)=true by decide),if_pos (spt_bytes hk),Option.bind_some,Option.map_some]
 rfl
noncomputable def tailR(T:List (FuncId×Prim))(k c:Nat)(K:AV→AV→Hp→Bool):Bool:=tl1 T 32 [.int .i64 (.ofNat 4000),.int .i64 (.ofNat 1024),.opq 3 0 c 0 0,.opq 1 106 c 0 1] hT7 (fun v h=>lifeK v fun x=>tl1 T 11 [x,cmdI] h (fun _ h=>tl1 T 11 [x,cmdA k] h (fun e h=>K x e h) nope) nope) nope
noncomputable def tailN(T:List (FuncId×Prim))(k c:Nat)(b:Bool):Bool:=tailR T k c fun _ e _=>ask (avEq e (.int .i64 (.ofNat 70))) b
noncomputable def lockK(st:AV)(k:AV→Bool):Bool:=qAgg st fun cs=>nthK cs 1 k
noncomputable def pinL(pre:AV)(s:Nat):List AV:= .str [98]::(vL pre s++ints (sumOf s))
noncomputable def pinX(s:Nat)(cs:List AV)(h:Hp)(b:Bool):Bool:=takeK cs 37 fun l=>nthK l 4 fun p=>ask (avEq (.agg l) (.agg (pinL p s))) (ife (Nat.beq s 4) (ask (preV 107 p h) b) b)
noncomputable def pinK(s:Nat)(u:AV)(h:Hp)(b:Bool):Bool:=match u with
 | .tup [.slx j o n z,_,e]=>ask (avEq e (.int .i64 (.ofNat 0))) (ask (Nat.beq o 0) (ask (Nat.beq n 1) (ask (Nat.beq z 37) (cellsK h j fun _ _ _ cs=>pinX s cs h b))))
 | _=>false
noncomputable def tailS(T:List (FuncId×Prim))(k c s:Nat)(b:Bool):Bool:=tailR T k c fun x e h=>ask (avEq e (.int .i64 (.ofNat 0))) (tl1 T 14 [x] h (fun st h=>lockK st fun l=>tl1 T 13 [l] h (fun u h=>pinK s u h b) nope) nope)
def RunsOk(k:Nat)(w:World)(a t:Value)(K:Value→Value→World→Prop):Prop:=Calls P0 32 #[.int .i64 4000,.int .i64 1024,t,a] w fun e w1=>∃x l:Value,∃ad:Addr,x = .pointer (some ad)∧e = .returned (.tuple #[x,l,.int .i64 0])∧K0 w w1∧∀w2,K0 w1 w2→Calls P0 11 #[x,cmdIv] w2 fun e w3=>∃y,e = .returned y∧K0 w w3∧∀w4,K0 w3 w4→Calls P0 11 #[x,cmdAv k] w4 fun e w5=>∃y,e = .returned y∧K0 w w5∧K x y w5
def TailN(k:Nat)(w:World)(a t:Value):Prop:=RunsOk k w a t fun _ y _=>y = .int .i64 70
def pinC(q:Value)(s:Nat):List Value:= .string (B (textOf [98]))::(vC q s++bv (textOf (sumOf s)))
theorem pinC_len(q:Value)(s:Nat):(pinC q s).length=37:=by simp[pinC,vC,textOf,sumOf_len]
def PinAt(w:World)(v:Value)(s:Nat)(q:Value):Prop:=Vr w q s∧Sl w 37 v 1 (pinC q s)
def TailS(k s:Nat)(w:World)(a t:Value):Prop:=RunsOk k w a t fun x y w5=>y = .int .i64 0∧∀w6,K0 w5 w6→Calls P0 14 #[x] w6 fun e w7=>∃st lk,e = .returned (.agg st)∧st[1]?=some lk∧K0 w w7∧∀w8,K0 w7 w8→Calls P0 13 #[lk] w8 fun e w9=>∃p l q,e = .returned (.tuple #[p,l,.int .i64 0])∧K0 w w9∧PinAt w9 p s q
section
variable {T : List (FuncId × Prim)}
theorem tl1_ok(hT : ∀x∈T,Pr1 P0 107 x.1 x.2):CallOk P0 107 (tl1 T):=callK_ok (tab_ok hT) (dr0_ok 107) regs0 200
def Begun(w:World)(c:Nat)(a t:Value):Prop:=∃r,Rel (fun _=>False) w 107 r hT7 w∧real r (.opq 3 0 c 0 0)=some t∧real r (.opq 1 106 c 0 1)=some a
theorem tailR_ok(hT : ∀x∈T,Pr1 P0 107 x.1 x.2){k c:Nat}(hk10:k < 10){K:AV→AV→Hp→Bool}{K':World→Value→Value→World→Prop}(hK : ∀x e h,K x e h=true→∀w0 r w xv ev,Rel (fun _=>False) w0 107 r h w→real r x=some xv→real r e=some ev→K' w0 xv ev w)(hk:tailR T k c K=true){w:World}{a t:Value}(hb:Begun w c a t):RunsOk k w a t (K' w):=by
 obtain⟨r,hR,ht,ha⟩:=hb
 rcases tl1_ok hT _ _ _ _ _ hk with ⟨u,h1,hu,hC⟩|⟨_,_,hk,_⟩
 ·replace hu:=lifeK_ok hu; obtain⟨i,o,l,rfl,hu⟩:=hu
  refine(hC _ w r w [.int .i64 4000,.int .i64 1024,t,a] hR (reals_cons.2 ⟨_,_,rfl,reals_cons.2 ⟨_,_,rfl,reals_cons.2 ⟨_,_,ht,reals_cons.2 ⟨_,_,ha,reals_nil,rfl⟩,rfl⟩,rfl⟩,rfl⟩)).mono ?_
  rintro e w1 ⟨r1,y,rfl,hx1,hR1,hy⟩
  simp only[real,Option.map_eq_some_iff] at hy
  obtain⟨ys,hys,rfl⟩:=hy
  obtain⟨x,ts,hx,hts,rfl⟩:=reals_cons.1 hys
  obtain⟨lv,z,hl,hz,rfl⟩:=reals2 hts
  have hz:some (Value.int .i64 0)=some z:=hz
  cases hz
  obtain⟨p,hp,rfl⟩:=real_ptr hx
  refine⟨_,lv,_,rfl,rfl,hR1.kept,fun w2 hk2=>?_⟩
  have hR2:=hR1.same hk2
  rcases tl1_ok hT _ _ _ _ _ hu with ⟨u2,h2,hu2,hC2⟩|⟨_,_,hk,_⟩
  ·refine(hC2 _ w r1 w2 [_,cmdIv] hR2 (reals_cons.2 ⟨_,_,hx,reals_cons.2 ⟨_,_,cmdI_real _,reals_nil,rfl⟩,rfl⟩)).mono ?_
   rintro e w3 ⟨r3,y3,rfl,hx3,hR3,hy3⟩
   refine⟨y3,rfl,hR3.kept,fun w4 hk4=>?_⟩
   have hR4:=hR3.same hk4
   rcases tl1_ok hT _ _ _ _ _ hu2 with ⟨u4,h4,hu4,hC4⟩|⟨_,_,hk,_⟩
   ·refine(hC4 _ w r3 w4 [_,cmdAv k] hR4 (reals_cons.2 ⟨_,_,real_mono hx3 _ _ hx,reals_cons.2 ⟨_,_,cmdA_real _ hk10,reals_nil,rfl⟩,rfl⟩)).mono ?_
    rintro e w5 ⟨r5,y5,rfl,hx5,hR5,hy5⟩
    exact⟨y5,rfl,hR5.kept,hK _ _ _ hu4 w r5 w5 _ _ hR5 (real_mono hx5 _ _ (real_mono hx3 _ _ hx)) hy5⟩
   ·cases hk
  ·cases hk
 ·cases hk
theorem tailN_ok(hT : ∀x∈T,Pr1 P0 107 x.1 x.2){k c:Nat}(hk10:k < 10)(hk:tailN T k c true=true){w:World}{a t:Value}(hb:Begun w c a t):TailN k w a t:=
 tailR_ok (K':=fun _ _ y _=>y = .int .i64 70) hT hk10 (fun x e h hx w0 r w xv ev hR hxv hev=>by
  have:=avEq_ok _ _ (ask_ok hx).1
  subst this
  exact real_int hev) hk hb
theorem pinX_ok{s:Nat}(hs:s < 6){cs:List AV}{h:Hp}(hk:pinX s cs h true=true){j:Nat}{t:TypeId}{op ro:Bool}(hb:h.at j=some (.cells t op ro cs)){w0 w:World}{r:Ren}(hR:Rel (fun _=>False) w0 107 r h w){p:Nat×Nat}(hp:r j=some p)(hm:p.2 / 37≤maxLen): ∃q,PinAt w (.slice (some ⟨p.1,0,none⟩) 1 (p.2 / 37)) s q:=by
 unfold pinX at hk
 rw[takeK_eq] at hk
 replace hk:=nthK_ok hk; obtain⟨pa,hpa,hk⟩:=hk
 replace hk:=ask_ok hk; obtain⟨e1,hk⟩:=hk
 have e1:=avEq_ok _ _ e1
 injection e1 with e1
 obtain⟨c,fz,us,g1,g2,g3,g4,g5,_⟩:=id (hR.at hp hb)
 have h1:=reals_take 37 g3
 obtain⟨q,hq0,hq⟩ : ∃q,(s=4→real r pa=some q)∧Vr w q s:=by
  rcases ife_ok hk with ⟨e4,hk⟩|⟨e4,hk⟩
  ·obtain⟨u4,_,hu4⟩:=reals_at h1 hpa
   obtain⟨q1,q2⟩:=preV_ok (ask_ok hk).1 hR hu4
   exact⟨u4,fun _=>hu4,fun _=>q2.pre⟩
  ·exact⟨.bool true,(fun z=>by subst z; cases e4),fun z=>by subst z; cases e4⟩
 have hr:reals r (pinL pa s)=some (Value.string (B (textOf [98]))::(vC q s++bv (textOf (sumOf s)))):=reals_cons.2 ⟨_,_,str_real (by decide),reals_app (vLs_real hq0) (ints_real (sumOf_bytes s)),rfl⟩
 rw[e1,hr] at h1
 have h1:=Option.some.inj h1
 have hpl:(pinC q s).length=37:=pinC_len q s
 have hle:37≤cs.length:=by
  have h2:=congrArg List.length h1
  rw[List.length_take,reals_len g3] at h2
  have h3:(Value.string (B (textOf [98]))::(vC q s++bv (textOf (sumOf s)))).length=37:=hpl
  omega
 refine⟨q,hq,by rw[hpl],Nat.le_trans (by decide) (show 1≤maxLen by decide),.inr ⟨p.1,0,p.2 / 37,c,t,fz,rfl,g1,(Nat.le_div_iff_mul_le (by decide)).2 (by omega),hm,by rw[g2,Nat.zero_add]; exact Nat.div_mul_le_self _ _,?_⟩⟩
 rw[List.drop_zero]
 show c.toList.take (1 * 37)=pinC q s
 rw[show pinC q s=us.take 37 from h1,g4,List.take_take,Nat.min_eq_left hle]
theorem tailS_ok(hT : ∀x∈T,Pr1 P0 107 x.1 x.2){k c s:Nat}(hk10:k < 10)(hs:s < 6)(hk:tailS T k c s true=true){w:World}{a t:Value}(hb:Begun w c a t):TailS k s w a t:=by
 refine tailR_ok (K':=fun w0 x y w5=>y = .int .i64 0∧∀w6,K0 w5 w6→Calls P0 14 #[x] w6 fun e w7=>∃st lk,e = .returned (.agg st)∧st[1]?=some lk∧K0 w0 w7∧∀w8,K0 w7 w8→Calls P0 13 #[lk] w8 fun e w9=>∃p l q,e = .returned (.tuple #[p,l,.int .i64 0])∧K0 w0 w9∧PinAt w9 p s q) hT hk10 (fun x e h hx w0 r w xv ev hR hxv hev=>?_) hk hb
 replace hx:=ask_ok hx; obtain⟨e1,hx⟩:=hx
 have:=avEq_ok _ _ e1
 subst this
 refine⟨real_int hev,fun w6 hk6=>?_⟩
 have hR6:=hR.same hk6
 rcases tl1_ok hT _ _ _ _ _ hx with ⟨u,h1,hu,hC⟩|⟨_,_,hk,_⟩
 ·replace hu:=qAgg_ok (x:=u) hu; obtain⟨cs,rfl,hu⟩:=hu
  replace hu:=nthK_ok hu; obtain⟨l,hl,hu⟩:=hu
  refine(hC _ w0 r w6 [xv] hR6 (reals_cons.2 ⟨_,_,hxv,reals_nil,rfl⟩)).mono ?_
  rintro e w7 ⟨r7,y,rfl,hx7,hR7,hy⟩
  simp only[real,Option.map_eq_some_iff] at hy
  obtain⟨us,hus,rfl⟩:=hy
  obtain⟨lk,hlk,hlr⟩:=reals_at hus hl
  refine⟨us.toArray,lk,rfl,by simpa using hlk,hR7.kept,fun w8 hk8=>?_⟩
  have hR8:=hR7.same hk8
  rcases tl1_ok hT _ _ _ _ _ hu with ⟨u2,h2,hu2,hC2⟩|⟨_,_,hk,_⟩
  ·refine(hC2 _ w0 r7 w8 [lk] hR8 (reals_cons.2 ⟨_,_,hlr,reals_nil,rfl⟩)).mono ?_
   rintro e w9 ⟨r9,y9,rfl,hx9,hR9,hy9⟩
   unfold pinK at hu2
   split at hu2
   ·rename_i j o n z lx ex
    replace hu2:=ask_ok hu2; obtain⟨h1,hu2⟩:=hu2
    replace hu2:=ask_ok hu2; obtain⟨h2,hu2⟩:=hu2
    replace hu2:=ask_ok hu2; obtain⟨h3,hu2⟩:=hu2
    replace hu2:=ask_ok hu2; obtain⟨h4,hu2⟩:=hu2
    replace hu2:=cellsK_ok hu2; obtain⟨tb,op,ro,cs2,hb2,hu2⟩:=hu2
    rw[avEq_ok _ _ h1,Nat.eq_of_beq_eq_true h2,Nat.eq_of_beq_eq_true h3,Nat.eq_of_beq_eq_true h4] at hy9
    simp only[real,Option.map_eq_some_iff] at hy9
    obtain⟨ys,hys,rfl⟩:=hy9
    obtain⟨pv,ts,hpv,hts,rfl⟩:=reals_cons.1 hys
    obtain⟨lv,zv,hl2,hz2,rfl⟩:=reals2 hts
    have hz2:some (Value.int .i64 0)=some zv:=hz2
    cases hz2
    obtain⟨p,hp,z1,z2,z3,rfl⟩:=real_slx hpv
    rw[Nat.sub_zero] at z3
    obtain⟨q,hq⟩:=pinX_ok hs hu2 hb2 hR9 hp z3
    exact⟨_,lv,q,rfl,hR9.kept,hq⟩
   ·cases hu2
  ·cases hk
 ·cases hk
end
theorem begun{w:World}(hw:Wf w){L:List Nat}(hne:L≠[])(h6 : ∀s∈L,s < 6)(hnd:L.Nodup){c:Nat}{a:Value}{f:Nat→Value}{b0:Nat}(hb0:10≤b0)(ha:w.ownsRow b0 22 1 a L.length (L.map f))(hA:ArcsAt b0 w L f)(hc : ∀s,s < 6→(c.testBit s=true→s∈L)∧(c.testBit (6+s)=true→s∉L)):Begun w c a (.string (B (rowsT L))):=by
 have hdd:ddAcc [] L=L:=by
  have key : ∀(l acc:List Nat),(acc++l).Nodup→(∀s∈l,s < 6)→ddAcc acc l=acc++l:=by
   intro l
   induction l with
   | nil=>intro acc _ _; simp[ddAcc]
   | cons x l ih=>
    intro acc hn h6
    have hx:x % 6=x:=Nat.mod_eq_of_lt (h6 x List.mem_cons_self)
    have hxn:x∉acc:=fun m=>by
     have:=(List.nodup_append.1 hn).2.2 x m x List.mem_cons_self
     exact this rfl
    rw[ddAcc,hx,if_neg hxn,ih (acc++[x]) (by simpa using hn) fun s hs=>h6 s (List.mem_cons_of_mem _ hs)]
    simp
  simpa using key L [] (by simpa using hnd) h6
 obtain⟨sg,hsg⟩ : ∃sg:Sgs,sg=⟨fun _=>0,L⟩:=⟨_,rfl⟩
 have hsd:sg.dd=L:=by rw[hsg]; exact hdd
 have hcd:sg.cd c:=by
  show sg.dd≠[]∧_
  rw[hsd]; exact⟨hne,hc⟩
 have hh:=(rel00 sg hw)
 have hn00:h00.next=100:=rfl
 obtain⟨ps,hps⟩ : ∃ps:Nat→Nat×Nat,∀s,s < 6→(s∈L→b0≤(ps s).1∧f s = .slice (some ⟨(ps s).1,0,none⟩) (sizeOf' s) (ps s).2∧∃cc fz,w.heap[(ps s).1]?=some (.cells cc 5 fz)∧cc.size=(ps s).2∧sizeOf' s≤cc.size∧cc.size≤maxLen∧cc.toList.take (sizeOf' s)=bv (textOf (arcB s)))∧(s∉L→ps s=(2+s,0)):=by
  classical
  have : ∀s,∃p:Nat×Nat,s < 6→(s∈L→b0≤p.1∧f s = .slice (some ⟨p.1,0,none⟩) (sizeOf' s) p.2∧∃cc fz,w.heap[p.1]?=some (.cells cc 5 fz)∧cc.size=p.2∧sizeOf' s≤cc.size∧cc.size≤maxLen∧cc.toList.take (sizeOf' s)=bv (textOf (arcB s)))∧(s∉L→p=(2+s,0)):=fun s=>by
   by_cases hs:s∈L
   ·obtain⟨g,cc,fz,h0,e,h1,h2,h3,h4⟩:=hA s hs
    exact⟨(g,cc.size),fun _=>⟨fun _=>⟨h0,e,cc,fz,h1,rfl,h2,h3,h4⟩,fun z=>absurd hs z⟩⟩
   ·exact⟨(2+s,0),fun _=>⟨fun z=>absurd z hs,fun _=>rfl⟩⟩
  exact⟨fun s=>Classical.choose (this s),fun s=>Classical.choose_spec (this s)⟩
 have hsz:=hw.sz
 have hdiff : ∀s t,s < 6→t < 6→s≠t→(ps s).1≠(ps t).1:=fun s t hs ht hst e=>by
  by_cases m1:s∈L
  ·obtain⟨a1,_,c1,f1,b1,b2,b3,b4,b5⟩:=(hps s hs).1 m1
   by_cases m2:t∈L
   ·obtain⟨a2,_,c2,f2,d1,d2,d3,d4,d5⟩:=(hps t ht).1 m2
    rw[e,d1] at b1
    cases b1
    have key : ∀s,s < 6→∀t,t < 6→s≠t→(textOf (arcB s)).take 34≠(textOf (arcB t)).take 34:=by decide +kernel
    have hb1:=congrArg (List.take 34) b5
    have hd1:=congrArg (List.take 34) d5
    have n1:34≤sizeOf' s:=by unfold sizeOf'; split <;> omega
    have n2:34≤sizeOf' t:=by unfold sizeOf'; split <;> omega
    rw[List.take_take,Nat.min_eq_left n1] at hb1
    rw[List.take_take,Nat.min_eq_left n2] at hd1
    have h3:=hb1.symm.trans hd1
    rw[←List.map_take,←List.map_take] at h3
    exact key s hs t ht hst (List.map_inj_right (f:=vb) (fun x y h=>by
     have:((x.toNat:Nat):Int)=(y.toNat:Int):=by simpa using h
     exact UInt8.toNat_inj.1 (by omega)) |>.1 h3)
   ·rw[(hps t ht).2 m2] at e
    simp only at e
    omega
  ·rw[(hps s hs).2 m1] at e
   by_cases m2:t∈L
   ·have:=((hps t ht).1 m2).1
    simp only at e
    omega
   ·rw[(hps t ht).2 m2] at e
    simp only at e
    omega
 have hpos:0 < L.length:=List.length_pos_iff.2 hne
 obtain⟨ga,cap,cur,rfl,hga,hgh,hcap,hcm,hcs,hct⟩ : ∃g cap cur,a = .slice (some ⟨g,0,none⟩) L.length cap∧b0≤g∧w.heap[g]?=some (.cells cur 22 (0,0))∧L.length≤cap∧cap≤maxLen∧cur.size=cap∧cur.toList.take L.length=L.map f:=by
  rcases ha.2 with ⟨_,z⟩|⟨g,cap,cur,rfl,h1,h2,h3,h4,h5,h6⟩
  ·omega
  ·exact⟨g,cap,cur,rfl,h1,h2,h3,h4,by rw[h5,Nat.mul_one],by rw[Nat.mul_one] at h6; exact h6⟩
 have hfix : ∀(r:Ren) (s:Nat),s < 6→r.sg=sg→BRel r (ps s) w (.fix (10+s)):=fun r s hs hr=>by
  refine⟨?_,fun ho=>?_⟩
  ·by_cases m:s∈L
   ·obtain⟨_,_,cc,fz,b1,_⟩:=(hps s hs).1 m
    exact lt_of_at b1
   ·rw[(hps s hs).2 m]; show 2+s < _; omega
  ·have m:s∈L:=by
    have:=ho.2 s hs rfl
    rwa [hr,hsd] at this
   obtain⟨_,_,cc,fz,b1,b2,b3,b4,b5⟩:=(hps s hs).1 m
   exact⟨cc,_,fz,b1,b2,(fun z=>by omega),fun t ht z=>by
    have:t=s:=by omega
    subst this
    exact⟨rfl,b3,b4,b5⟩⟩
 have hga9 : ∀s,s < 6→(ps s).1≠ga:=fun s hs e=>by
  by_cases m:s∈L
  ·obtain⟨_,_,cc,fz,b1,_⟩:=(hps s hs).1 m
   rw[e,hgh] at b1; cases b1
  ·rw[(hps s hs).2 m] at e
   simp only at e
   omega
 have hsl : ∀(r:Ren) (s:Nat),s∈L→r (100+s)=some (ps s)→real r (.slx (100+s) 0 (sizeOf' s) 1)=some (f s):=fun r s m hr=>by
  obtain⟨_,e,cc,fz,b1,b2,b3,b4,b5⟩:=(hps s (h6 s m)).1 m
  rw[e]
  simp only[real,hr,Option.bind_some]
  rw[if_pos ⟨by decide,by omega,by simp; omega⟩]
  simp
 have h1:=hh.monoS (S:=fun _=>True)
 have hAt:AtL w hTL [ps 0,ps 1,ps 2,ps 3,ps 4,ps 5,(ga,cap)] 100 (r00 sg):=by
  have hd:=fun s t hs ht hst=>(hdiff s t hs ht hst).symm
  refine⟨fun q hq=>?_,hfix _ 0 (by decide) rfl,fun q hq=>?_,hfix _ 1 (by decide) rfl,fun q hq=>?_,hfix _ 2 (by decide) rfl,fun q hq=>?_,hfix _ 3 (by decide) rfl,fun q hq=>?_,hfix _ 4 (by decide) rfl,fun q hq=>?_,hfix _ 5 (by decide) rfl,(fun q hq=>by cases hq),⟨cur,_,_,hgh,hcs,fun y hy m hmm=>?_⟩,trivial⟩
  ·simp only[List.mem_cons,List.not_mem_nil,or_false] at hq
   rcases hq with rfl|rfl|rfl|rfl|rfl|rfl
   ·exact hd 0 1 (by decide) (by decide) (by decide)
   ·exact hd 0 2 (by decide) (by decide) (by decide)
   ·exact hd 0 3 (by decide) (by decide) (by decide)
   ·exact hd 0 4 (by decide) (by decide) (by decide)
   ·exact hd 0 5 (by decide) (by decide) (by decide)
   ·exact(hga9 0 (by decide)).symm
  ·simp only[List.mem_cons,List.not_mem_nil,or_false] at hq
   rcases hq with rfl|rfl|rfl|rfl|rfl
   ·exact hd 1 2 (by decide) (by decide) (by decide)
   ·exact hd 1 3 (by decide) (by decide) (by decide)
   ·exact hd 1 4 (by decide) (by decide) (by decide)
   ·exact hd 1 5 (by decide) (by decide) (by decide)
   ·exact(hga9 1 (by decide)).symm
  ·simp only[List.mem_cons,List.not_mem_nil,or_false] at hq
   rcases hq with rfl|rfl|rfl|rfl
   ·exact hd 2 3 (by decide) (by decide) (by decide)
   ·exact hd 2 4 (by decide) (by decide) (by decide)
   ·exact hd 2 5 (by decide) (by decide) (by decide)
   ·exact(hga9 2 (by decide)).symm
  ·simp only[List.mem_cons,List.not_mem_nil,or_false] at hq
   rcases hq with rfl|rfl|rfl
   ·exact hd 3 4 (by decide) (by decide) (by decide)
   ·exact hd 3 5 (by decide) (by decide) (by decide)
   ·exact(hga9 3 (by decide)).symm
  ·simp only[List.mem_cons,List.not_mem_nil,or_false] at hq
   rcases hq with rfl|rfl
   ·exact hd 4 5 (by decide) (by decide) (by decide)
   ·exact(hga9 4 (by decide)).symm
  ·simp only[List.mem_cons,List.not_mem_nil,or_false] at hq
   subst hq
   exact(hga9 5 (by decide)).symm
  ·have hmm':standsAt L y.1=some m:=by rw[←hsd]; exact hmm
   have hat:=standsAt_at hmm'
   have hlt:m < L.length:=(List.getElem?_eq_some_iff.1 hat).1
   have hyL:y.1∈L:=List.mem_of_getElem? hat
   have e:cur.toList[m]?=some (f y.1):=by
    have:=congrArg (·[m]?) hct
    simp only[List.getElem?_take,if_pos hlt,List.getElem?_map,hat,Option.map_some] at this
    exact this
   have hy':y.2=[AV.slx (100+y.1) 0 (sizeOf' y.1) 1]:=by
    replace hy:y∈arcTab:=hy
    simp only[arcTab,List.mem_cons,List.not_mem_nil,or_false] at hy
    rcases hy with rfl|rfl|rfl|rfl|rfl|rfl <;> rfl
   refine⟨[f y.1],?_,rfl,?_⟩
   ·rw[hy']
    refine reals_cons.2 ⟨_,_,hsl _ _ hyL ?_,reals_nil,rfl⟩
    have:=h6 _ hyL
    generalize y.1=s at this
    match s,this with
    | 0,_=>rfl
    | 1,_=>rfl
    | 2,_=>rfl
    | 3,_=>rfl
    | 4,_=>rfl
    | 5,_=>rfl
    | s+6,h=>omega
   ·apply List.ext_getElem?
    intro k
    rw[List.getElem?_take,List.getElem?_drop,Nat.mul_one]
    cases k with
    | zero=>rw[if_pos (by decide),Nat.add_zero,e]; rfl
    | succ k=>rw[if_neg (by omega)]; rfl
 have hnm : ∀i q p,(r00 sg) i=some q→p∈[ps 0,ps 1,ps 2,ps 3,ps 4,ps 5,(ga,cap)]→q.1≠p.1:=fun i q p hq hp e=>by
  obtain⟨q1,q2⟩:=r00_some hq
  have key : ∀s,s < 6→q.1≠(ps s).1:=fun s hs e=>by
   by_cases m:s∈L
   ·have:=((hps s hs).1 m).1; omega
   ·rw[(hps s hs).2 m] at e
    simp only at e
    omega
  simp only[List.mem_cons,List.not_mem_nil,or_false] at hp
  rcases hp with rfl|rfl|rfl|rfl|rfl|rfl|rfl
  ·exact key 0 (by decide) e
  ·exact key 1 (by decide) e
  ·exact key 2 (by decide) e
  ·exact key 3 (by decide) e
  ·exact key 4 (by decide) e
  ·exact key 5 (by decide) e
  ·simp only at e; omega
 obtain⟨h2,e2⟩:=memL_rel (l:=hTL) h1 (by rw[hn00]; decide) (fun p hp=> .inl trivial) hnm (by rw[hn00]; exact hAt)
 have h3:=h2.floor
 rw[hn00] at e2 h3
 have e3:(memL hTL h00).next=107:=by rw[e2]; rfl
 rw[e3] at h3
 refine⟨_,h3,?_,?_⟩
 ·simp only[real]
  show opqR _ 3 0 c 0 0=_
  unfold opqR
  have e4:(renL [ps 0,ps 1,ps 2,ps 3,ps 4,ps 5,(ga,cap)] 100 (r00 sg)).sg=sg:=renL_sg
  simp only[e4]
  have hall:((sg.dd.map lineOf).flatten.all fun b=>Nat.blt b 256)=true:=by
   rw[hsd,List.all_eq_true]
   intro b hb
   obtain⟨l,hl,hbl⟩:=List.mem_flatten.1 hb
   obtain⟨s,hs,rfl⟩:=List.mem_map.1 hl
   have:=all6 (p:=fun s=>(lineOf s).all fun b=>Nat.blt b 256) (by decide) (h6 s hs)
   exact List.all_eq_true.1 this b hbl
  rw[if_pos ⟨hall,hcd⟩]
  show some (Value.string (B (textOf (sg.dd.map lineOf).flatten)))=_
  rw[hsd]; rfl
 ·simp only[real]
  show opqR _ 1 106 c 0 1=_
  unfold opqR
  have e4:(renL [ps 0,ps 1,ps 2,ps 3,ps 4,ps 5,(ga,cap)] 100 (r00 sg)).sg=sg:=renL_sg
  have e5:(renL [ps 0,ps 1,ps 2,ps 3,ps 4,ps 5,(ga,cap)] 100 (r00 sg)) 106=some (ga,cap):=rfl
  simp only[e4,e5,Option.bind_some]
  rw[if_pos ⟨by decide,by rw[hsd]; omega,by rw[Nat.div_one]; exact hcm,hcd⟩,Nat.div_one,hsd]
end Go.Proofs.YtbhbdeelpopgoaaGreatDoor.E

set_option linter.constructorNameAsVariable false
set_option linter.unusedVariables false
namespace Go.Proofs.YtbhbdeelpopgoaaGreatDoor.E
open Go Go.RowKit H
section
variable {S : Nat → Prop} {w0 : World} {fl : Nat} {r : Ren} {h : Hp} {w : World}
end
structure CutE where
 vs:List AV
 nx:Nat
 l:List (Nat×Blk)
 v:AV
 nx':Nat
 l':List (Nat×Blk)
end Go.Proofs.YtbhbdeelpopgoaaGreatDoor.E

set_option linter.constructorNameAsVariable false
set_option linter.unusedVariables false
namespace Go.Proofs.YtbhbdeelpopgoaaGreatDoor.E
open Go Go.RowKit H
attribute [local irreducible] H.CL H.RW H.CW H.Yd H.thenK H.blockQ Go.Calls
noncomputable def bldH(t2:TypeId)(s:List Nat):Hp:=(⟨101,.e⟩:Hp).put 100 (some (.cells t2 true true (ints s)))
theorem bldH_at{t2:TypeId}{s:List Nat}{i:Nat}(hi:i < LIM):(bldH t2 s).at i=if 100=i then some (.cells t2 true true (ints s)) else none:=by
 unfold bldH
 rw[Hp.at_put (by decide) hi]
 simp only[Hp.at,Tr.get_e]
def bldR(q:Nat×Nat):Ren:=⟨fun i=>if i=100 then some q else none,fun i=>i < 100,sg0⟩
theorem bldR_rel{S:Nat→Prop}{w0 w:World}{fl:Nat}{r:Ren}{h:Hp}(hR:Rel S w0 fl r h w){j:Nat}{q:Nat×Nat}{t2:TypeId}{op ro:Bool}{s:List Nat}(hq:r j=some q)(hb:h.at j=some (.cells t2 op ro (ints s)))(hs:Bytes s):Rel (fun _=>False) w 101 (bldR q) (bldH t2 s) w:=by
 obtain⟨c,fz,us,g1,g2,g3,g4,g5,g6,g7⟩:=hR.at hq hb
 have only : ∀i p,(bldR q) i=some p→i=100∧p=q:=fun i p h=>by
  replace h:(if i=100 then some q else none)=some p:=h
  split at h
  ·cases h; exact⟨by assumption,rfl⟩
  ·cases h
 refine⟨fun a b ha hab=>?_,fun a b x y x' y' ha hb hx hy hx' hy' e=>?_,fun a ha=>?_,(show 101≤LIM by decide),fun a x ha hx=>?_,fun a x ha hx=>?_,fun a x hx=>?_,Kept.refl _ _,⟨Nat.le_refl _,(show GLB≤101 by decide)⟩,fun a ha=>?_,fun a ha=>?_,fun a ha hl=>?_⟩
 ·have ha:a < 101:=ha
  rw[bldH_at (Nat.lt_trans ha (by decide))] at hab
  by_cases q1:100=a
  ·subst q1
   rw[if_pos rfl] at hab; cases hab
   exact⟨q,rfl,c,fz,us,g1,g2,by rw[reals_ints hs g3]; exact ints_real hs,g4,g5,(fun z=>by cases z),fun z=>by cases z⟩
  ·rw[if_neg q1] at hab; cases hab
 ·rw[(only _ _ hx').1,(only _ _ hy').1]
 ·have ha:101≤a:=ha
  show(if a=100 then some q else none)=none
  rw[if_neg (by omega)]
 ·have:=(only _ _ hx).1; have ha:a < 100:=ha; omega
 ·have:=(only _ _ hx).1; omega
 ·rw[(only _ _ hx).2]; exact hR.dom _ _ hq
 ·have ha:a < 100:=ha
  refine⟨?_,Nat.lt_trans ha (show 100 < 101 by decide)⟩
  show(if a=100 then some q else none)=none
  rw[if_neg (by omega)]
 ·have ha:a < 101:=ha
  rcases Nat.lt_or_ge a 100 with z|z
  ·exact .inl z
  ·obtain rfl:a=100:=by omega
   exact .inr ⟨q,rfl⟩
 ·have ha:101≤a:=ha
  rw[bldH_at hl,if_neg (by omega)]
structure BldE where
 pin:AV
 s:List Nat
 v:AV
 L:List Blk
def BldOk(P:Program)(f:FuncId)(t2:TypeId)(x:BldE):Prop:=∀w r,Rel (fun _=>False) w 101 r (bldH t2 x.s) w→∀xs,reals r [x.pin,.slx 100 0 x.s.length 1]=some xs→Calls P f xs.toArray w fun e w'=>∃r2 u,e = .returned u∧Rel (fun _=>False) w 101 r2 (x.L.foldl Hp.new (bldH t2 x.s)) w'∧real r2 x.v=some u
noncomputable def bldLook(pin:AV)(s:List Nat)(T:List BldE)(k:AV→List Blk→Bool):Bool:=List.rec (motive:=fun _=>Bool) false (fun x _ ih=>BldE.rec (motive:=fun _=>Bool) (fun p s' v L=>ife (ifeV (avEq pin p) (sEq s' s) false) (k v L) ih) x) T
theorem bldLook_ok{pin:AV}{s:List Nat}{k:AV→List Blk→Bool}: ∀{T:List BldE},bldLook pin s T k=true→∃x∈T,x.pin=pin∧x.s=s∧k x.v x.L=true
 | [],h=>by cases h
 | ⟨p,s',v,L⟩::T,h=>by
  rcases ife_ok (b:=ifeV (avEq pin p) (sEq s' s) false) h with ⟨hb,h1⟩|⟨_,h1⟩
  ·obtain⟨h2,h3⟩:=and_ok hb
   exact⟨_,List.mem_cons_self,(avEq_ok _ _ h2).symm,sEq_ok h3,h1⟩
  ·obtain⟨x,hx,h2⟩:=bldLook_ok (T:=T) h1
   exact⟨x,List.mem_cons_of_mem _ hx,h2⟩
noncomputable def bldP(t2:TypeId)(T:List BldE)(vs:List AV)(h:Hp)(kr:KV):Bool:=match vs with
 | [pin,.slx j 0 n 1]=>ask (flatA pin) (cellsK h j fun t op ro cs=>ask (Nat.beq t t2) (intsK cs fun s=>lenK s fun m=>ask (Nat.beq n m) (bldLook pin s T fun v L=>newsK L (bldH t2 s) fun g=>Hp.rec (motive:=fun _=>Bool) (fun nx t=>canP 101 nx g v fun v' L'=>newsK L' ⟨nx,t⟩ fun g'=>kr v' g') h)))
 | _=>false
theorem bldP_ok{P:Program}{fl:Nat}{f:FuncId}{t2:TypeId}{T:List BldE}(hT : ∀x∈T,BldOk P f t2 x):Pr1 P fl f fun _ vs h kr _=>bldP t2 T vs h kr:=by
 intro call _ g vs h kr kp hk
 rcases ife_ok hk with ⟨hb,hk2⟩|⟨_,hk2⟩
 ·obtain rfl:=Nat.eq_of_beq_eq_true hb
  clear hk hb
  replace hk2:bldP t2 T vs h kr=true:=hk2
  unfold bldP at hk2
  split at hk2
  ·rename_i pin j n
   obtain⟨hpin,hk⟩:=ask_ok hk2
   obtain⟨t,op,ro,cs,hb,hk⟩:=cellsK_ok hk
   obtain⟨ht,hk⟩:=ask_ok hk
   have ht:=Nat.eq_of_beq_eq_true ht
   rw[ht] at hb
   obtain⟨s,rfl,hs,hk⟩:=intsK_ok hk
   replace hk:lenK s (fun m=>ask (Nat.beq n m) (bldLook pin s T fun v L=>newsK L (bldH t2 s) fun g=>Hp.rec (motive:=fun _=>Bool) (fun nx t=>canP 101 nx g v fun v' L'=>newsK L' ⟨nx,t⟩ fun g'=>kr v' g') h))=true:=hk
   rw[lenK_eq] at hk
   obtain⟨hn,hk⟩:=ask_ok hk
   have hn:=Nat.eq_of_beq_eq_true hn
   obtain⟨x,hx,rfl,rfl,hk⟩:=bldLook_ok hk
   obtain⟨hk,_⟩:=newsK_ok hk
   cases h with
   | mk nx tr=>
    replace hk:canP 101 nx (x.L.foldl Hp.new (bldH t2 x.s)) x.v (fun v' L'=>newsK L' ⟨nx,tr⟩ fun g'=>kr v' g')=true:=hk
    obtain⟨v',L',hk,hC⟩:=canP_ok hk
    obtain⟨hkr,hl⟩:=newsK_ok hk
    refine .inl ⟨v',_,hkr,fun S w0 r w xs hR hxs=>?_⟩
    obtain⟨u1,us1,hu1,hu2,rfl⟩:=reals_cons.1 hxs
    obtain⟨u2,hu3,rfl⟩:=reals1 hu2
    obtain⟨q,hq,hz,ho,hm,rfl⟩:=real_slx hu3
    have hRb:=bldR_rel hR hq hb hs
    have rq:bldR q 100=some q:=rfl
    refine(hT x hx w _ hRb _ (reals_cons.2 ⟨u1,_,flat_real _ _ hpin hu1,reals_cons.2 ⟨_,_,?_,reals_nil,rfl⟩,rfl⟩)).mono ?_
    ·rw[←hn]
     simp only[real,rq,Option.bind_some]
     rw[if_pos ⟨hz,ho,hm⟩]
    ·rintro e w' ⟨r2,u,rfl,hR2,hu⟩
     obtain⟨r3,a1,a2,a3⟩:=hC hR rfl hR2 hl hu
     exact⟨r3,u,rfl,a1,a2,a3⟩
  ·cases hk2
 ·cases hk2
noncomputable def bldB(x:BldE)(b:Bool):Bool:=BldE.rec (motive:=fun _=>Bool) (fun pin s v L=>lenK s fun n=>lenK L fun m=>ask (Nat.ble m 1000000) (bodyW 0 P0 101 FU (wc1 101) (dr0 101) (call1 101) 226 [pin,.slx 100 0 n 1] (bldH 5 s) fun v' h'=>canP 101 101 h' v' fun v3 L3=>ask (avEq v3 v) (ask (blksEq L3 L) b))) x
theorem bldB_ok(hs:SumsOk){x:BldE}(hk:bldB x true=true):BldOk P0 226 5 x:=by
 obtain⟨pin,s,v,L⟩:=x
 replace hk:lenK s (fun n=>lenK L fun m=>ask (Nat.ble m 1000000) (bodyW 0 P0 101 FU (wc1 101) (dr0 101) (call1 101) 226 [pin,.slx 100 0 n 1] (bldH 5 s) fun v' h'=>canP 101 101 h' v' fun v3 L3=>ask (avEq v3 v) (ask (blksEq L3 L) true)))=true:=hk
 rw[lenK_eq,lenK_eq] at hk
 obtain⟨hm,hk⟩:=ask_ok hk
 have hm:=ble_le hm
 intro w r hR xs hxs
 refine(bodyW_ok (call1_ok hs 101) (wc1_ok hs 101) (fun n call h=> .of (dr0_ok 101 n call h)) (regs0 _) hk _ _ r w xs hR hxs).mono ?_
 rintro e w' ⟨v',h',r',u,hv,rfl,hx,hR',hxv⟩
 obtain⟨v3,L3,hv,hC⟩:=canP_ok hv
 obtain⟨q1,hv⟩:=ask_ok hv
 obtain⟨q2,_⟩:=ask_ok hv
 obtain rfl:=avEq_ok _ _ q1
 obtain rfl:=blksEq_ok q2
 obtain⟨r2,a1,a2,a3⟩:=hC hR rfl hR' (fun i hi=>by have:LIM=1099511627776:=rfl; omega) hxv
 exact⟨r2,u,rfl,a2,a3⟩
def KnOk:Prop:=∀(w:World),(∃m,w.cell? ⟨0,0,none⟩=some (.int .i64 m))→(∃fz,w.heap[1]?=some (.cells #[rT 201] 441 fz))→9 < w.heap.size→Calls P0 4 #[] w fun e w'=>K0 w w'∧e = .returned (.bool true)
end Go.Proofs.YtbhbdeelpopgoaaGreatDoor.E

