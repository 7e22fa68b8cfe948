/-
  The reference looks a row up. The reference tells rows: their lines, one behind the other. A row that isn't there yet is looked up. Opaque rows, as an evaluator sees them: what they are in memory; index.At, net.rowsOf among the functions that are told by themselves. index.At, net.rowsOf over opaque rows, among the functions that are told by themselves. The program reads the text of rows: they are the rows that were told. A registry made of rows and archives: copies of them. index.Parse of the text of rows, net.New of rows and archives, as an evaluator sees them. A field of a struct that is a value. Arrays that are values: one element; two held against one another. An element of several cells of a row of the call's own written. Elements of rows: where they lie; rows cloned.
-/
import Derived.Test.YtbhbdeelpopgoaaGreatDoorQg
import Derived.Test.YtbhbdeelpopgoaaGreatDoorQf
set_option linter.unusedVariables false
set_option linter.unusedSimpArgs false
set_option linter.constructorNameAsVariable false
set_option linter.unusedVariables false
namespace Go.Proofs.YtbhbdeelpopgoaaGreatDoor.E
open Go Go.RowKit H
section
variable {P : Program} {f : Fr} {w : World} {d ty : Nat} {pos : String} {af : Array Edge} {t yt : TypeId} {x y : Operand}
theorem Y.eqsE{a b:List UInt8}{c:Bool}(hx:f.ev x=some (.string (B a)))(hy:f.ev y=some (.string (B b)))(h:decide (a=b)=c):Yd P f (op1 d (.binOp .eql t x y yt) ty pos af) (.bool c) w:=by
 have:=Y.eqs (P:=P) (w:=w) (d:=d) (ty:=ty) (pos:=pos) (af:=af) (t:=t) (yt:=yt) hx hy
 rwa [h] at this
theorem Y.eqiE{k:IntKind}{a b:Int}{c:Bool}(hx:f.ev x=some (.int k a))(hy:f.ev y=some (.int k b))(h:decide (a=b)=c):Yd P f (op1 d (.binOp .eql t x y yt) ty pos af) (.bool c) w:=by
 have:=Y.eqi (P:=P) (w:=w) (d:=d) (ty:=ty) (pos:=pos) (af:=af) (t:=t) (yt:=yt) hx hy
 rwa [h] at this
end
attribute [local irreducible] H.CL H.RW H.CW H.Yd H.thenK H.blockQ Go.Calls
theorem refFind{w:World}{q p v:Value}{L:List Nat}{t:Nat}(hv:RwsAt w q L v)(hq1:L≠[]→q.oneCell'=true)(ht:t < 6)(hp:Vr w p t):Calls Tryz.prog 19 #[v,.string (B (textOf [98])),.agg (vC p t).toArray] w fun e w'=>K0 w w'∧∃cs:List Value,e = .returned (.tuple #[.agg cs.toArray,.bool (decide (t∈L))])∧cs.length=39∧∀u∈cs,u.oneCell'=true:=by
 refine H.enter Tryz.func19 Tryz.ntmps19 rfl rfl ?_; dsimp only[H.args]
 repeat' (first|(refine CL.seq ?_)|(refine CL.region ?_))
 refine RW.box rfl rfl (fun w1 hb1 hk1 hlt1=>?_)
 have hb1':w1.heap[w.heap.size]?=some (.cells (vC p t).toArray 41 (0,0)):=hb1
 refine RW.alloc rfl (fun w2 hb2 hk2 hlt2=>?_)
 have hb12:=hk2.at0 hb1'
 have hK2:=hk1.trans0 hk2
 have hz1:=hk1.size
 repeat' (first|(refine CL.seq ?_)|(refine CL.region ?_)|(refine CL.block ?_)|(refine Gt.nil ?_; refine RW.nilw [0,1,2,5,6,7,8,12,31] ?_; dsimp only[H.keep,H.look,H.Fr.put,Nat.beq])|(refine Gt.assign ?_; refine RW.y (Y.assign rfl) rfl ?_))
 refine CL.loopS [0,1,5,6,7,8] (fun k vals wr=>∃i:Nat,vals=[v,.string (B (textOf [98])),.pointer (some ⟨w.heap.size,0,none⟩),.pointer (some ⟨w1.heap.size,0,none⟩),.bool false,.int .i64 (i:Int)]∧k=L.length - i∧i≤L.length∧(∀j,j < i→L[j]?≠some t)∧K0 w2 wr) L.length ⟨_,rfl,0,rfl,rfl,Nat.zero_le _,(fun j hj=>by omega),Kept.refl _ _⟩ ?_
 rintro k vals wr ⟨i,rfl,rfl,hi,hix,hkr⟩
 dsimp only[List.zip,List.zipWith]
 have hKr:=hK2.trans0 hkr
 have hvr:=hv.keep0 hKr
 have hsr:=hvr.sl
 have hbr1:=hkr.at0 hb12
 have hbr2:=hkr.at0 hb2
 have hfew:=hv.few
 rcases Nat.lt_or_ge i L.length with hlt|hge
 ·have hti:((i:Int)).toNat=i:=Int.toNat_natCast i
  obtain⟨s,hsL⟩ : ∃s,L[i]?=some s:=⟨L[i],List.getElem?_eq_getElem hlt⟩
  have hmem:s∈L:=List.mem_of_getElem? hsL
  have hall:=elAll hsr (rowC_len q) (i:=(i:Int)) (by omega) (by omega)
  have hgd:L.getD ((i:Int)).toNat default=s:=by rw[hti,List.getD_eq_getElem?_getD,hsL]; rfl
  rw[hgd] at hall
  obtain⟨g,o,hsp,hspj⟩:=spot_ptr hsr (by omega) (((i:Int)).toNat * 39)
  have hq:=hq1 (fun e=>by rw[e] at hmem; cases hmem)
  have hnm : ∀w',K0 wr w'→w'.cell? ⟨g,o+0,none⟩=some (.string (B (textOf [98]))):=fun w' hk'=>by
   have:=hall w' hk' 0 (.string (B (textOf [98]))) rfl
   rw[hsp,addr_add] at this
   exact this
  have hvs : ∀w',K0 wr w'→∀j u,(vC q s)[j]?=some u→w'.cell? ((⟨g,o+1,none⟩:Addr).add j)=some u:=fun w' hk' j u hu=>by
   have hj:j < 4:=(List.getElem?_eq_some_iff.1 hu).1
   have:=hall w' hk' (1+j) u (by rw[rowC,Nat.add_comm,List.getElem?_cons_succ,List.getElem?_append_left hj]; exact hu)
   rw[hsp,addr_add] at this
   rw[addr_add,Nat.add_assoc]
   exact this
  have hcmp:=fun w' (hk':K0 wr w')=>cmpCall (p:=q) (q:=p) cmp2 (hv.lt s hmem) ht (fun e=>(hvr.pr (e▸hmem)).keep hk') (hp.keep (hKr.trans0 hk'))
  have hone:=rowC_one q hq s
  repeat' (first|(refine CL.seq ?_)|(refine CL.region ?_)|(refine CL.skip ?_)|(refine CL.condP rfl (fun _=>?_) (fun _=>?_) <;> try (exfalso; omega))|(refine CL.block ?_)|(refine Gt.nil ?_; refine RW.nilw [0,1,2,5,6,7,8,12,31] ?_; dsimp only[H.keep,H.look,H.Fr.put,Nat.beq])|(refine Gt.move ?_; refine RW.y (Y.move rfl) rfl ?_)|(refine Gt.len ?_; (refine RW.y (Y.lenx rfl (by assumption)) rfl ?_))|(refine Gt.lss ?_; refine RW.y (Y.lss rfl rfl) rfl ?_))
  refine CL.draw (fun w'=>K0 wr w') (by kernel_rfl) (fun w3 hheap hk3=>?_)
  have hS:K0 wr w3:=hk3
  obtain⟨b1,hb1e⟩ : ∃b:Bool,decide (textOf [98]=textOf [98])=b:=⟨_,rfl⟩
  have hb1t:b1=true:=by rw[←hb1e]; simp
  subst hb1t
  skip
  refine AW.take 0 rfl (by kernel_rfl) (by kernel_rfl) (by kernel_rfl) rfl (by assumption) (fun w hS=>Y.move rfl) ?_
  refine AW.take 1 rfl (by kernel_rfl) (by kernel_rfl) (by kernel_rfl) rfl (by assumption) (fun w hS=>Y.move rfl) ?_
  refine AW.take 2 rfl (by kernel_rfl) (by kernel_rfl) (by kernel_rfl) rfl (by assumption) (fun w hS=>Y.idx rfl rfl (hsr.keep0 hS) (by omega) (by omega)) ?_
  refine AW.take 3 rfl (by kernel_rfl) (by kernel_rfl) (by kernel_rfl) rfl (by assumption) (fun w hS=>Y.fieldAddr (congrArg (fun a=>some (Value.pointer (some a))) hsp) (by rfl)) ?_
  refine AW.take 4 rfl (by kernel_rfl) (by kernel_rfl) (by kernel_rfl) rfl (by assumption) (fun w hS=>Y.load1A rfl (hnm _ hS)) ?_
  refine AW.take 5 rfl (by kernel_rfl) (by kernel_rfl) (by kernel_rfl) rfl (by assumption) (fun w hS=>Y.move rfl) ?_
  refine AW.take 6 rfl (by kernel_rfl) (by kernel_rfl) (by kernel_rfl) rfl (by assumption) (fun w hS=>Y.eqsE rfl rfl hb1e) ?_
  refine AW.take 7 rfl (by kernel_rfl) (by kernel_rfl) (by kernel_rfl) rfl (by assumption) (fun w hS=>Y.move rfl) ?_
  refine AW.takeOn 8 rfl (by kernel_rfl) (by kernel_rfl) (by kernel_rfl) rfl rfl rfl rfl (by assumption) (fun w hS=>Y.move rfl) ?_
  refine AW.takeOn 9 rfl (by kernel_rfl) (by kernel_rfl) (by kernel_rfl) rfl rfl rfl rfl (by assumption) (fun w hS=>Y.move rfl) ?_
  refine AW.takeOn 10 rfl (by kernel_rfl) (by kernel_rfl) (by kernel_rfl) rfl rfl rfl rfl (by assumption) (fun w hS=>Y.idx rfl rfl (hsr.keep0 hS) (by omega) (by omega)) ?_
  refine AW.takeOn 11 rfl (by kernel_rfl) (by kernel_rfl) (by kernel_rfl) rfl rfl rfl rfl (by assumption) (fun w hS=>Y.fieldAddr (congrArg (fun a=>some (Value.pointer (some a))) hsp) (by rfl)) ?_
  refine AW.takeOn 12 rfl (by kernel_rfl) (by kernel_rfl) (by kernel_rfl) rfl rfl rfl rfl (by assumption) (fun w hS=>Y.loadN (cs:=vC q s) rfl rfl (hvs _ hS)) ?_
  refine AW.takeOn 13 rfl (by kernel_rfl) (by kernel_rfl) (by kernel_rfl) rfl rfl rfl rfl (by assumption) (fun w hS=>Y.loadBlock rfl (hS.at0 hbr1) rfl) ?_
  refine AW.next 14 rfl (by kernel_rfl) ?_
  refine RW.on rfl rfl rfl ?_
  refine RW.fn rfl rfl ((hcmp w3 hk3).mono ?_)
  rintro e w4 ⟨rfl,hk4⟩
  refine RW.nil (Nm.then (rebase0 hS hk4 fun hS=>?_))
  obtain⟨b2,hb2e⟩ : ∃b:Bool,decide (cmpZ s t=0)=b:=⟨_,rfl⟩
  refine AW.takeOn 15 rfl (by kernel_rfl) (by kernel_rfl) (by kernel_rfl) rfl rfl rfl rfl (by assumption) (fun w hS=>Y.eqiE rfl rfl hb2e) ?_
  refine AW.take 16 rfl (by kernel_rfl) (by kernel_rfl) (by kernel_rfl) rfl (by assumption) (fun w hS=>by exact Y.pickT rfl rfl) ?_
  refine AW.donew [0,1,5,6,7,8,31] (by kernel_rfl) ?_
  dsimp only[H.keep,H.look,H.Fr.put,Nat.beq]
  have hk34:=hk3.trans0 hk4
  have hz:=cmpZ_0 s (hv.lt s hmem) t ht
  cases b2
  ·repeat' (first|(refine CL.region ?_)|(refine CL.skip ?_)|(refine CL.condF rfl ?_)|(refine CL.done ?_)|(refine Nm.block ?_)|(refine Nm.then ?_)|(refine Gt.nil ?_; refine RW.nilw [0,1,2,5,6,7,8,12,31] ?_; dsimp only[H.keep,H.look,H.Fr.put,Nat.beq])|(refine Gt.move ?_; refine RW.y (Y.move rfl) rfl ?_)|(refine Gt.assign ?_; refine RW.y (Y.assign rfl) rfl ?_)|(refine Gt.add ?_; refine RW.y (Y.add64 rfl rfl (by omega) (by omega)) rfl ?_))
   refine⟨L.length - (i+1),_,rfl,rfl,rfl,by omega,i+1,rfl,rfl,by omega,fun j hj=>?_,hkr.trans0 hk34⟩
   rcases Nat.lt_or_ge j i with c|c
   ·exact hix j c
   ·obtain rfl:j=i:=by omega
    rw[hsL]
    exact fun e=>of_decide_eq_false hb2e (hz.2 (Option.some.inj e))
  ·have hst:s=t:=hz.1 (of_decide_eq_true hb2e)
   repeat' (first|(refine CL.seq ?_)|(refine CL.region ?_)|(refine CL.condT rfl ?_)|(refine Gt.move ?_; refine RW.y (Y.move rfl) rfl ?_))
   refine RW.y (Y.idx rfl rfl (hsr.keep0 hk34) (by omega) (by omega)) rfl ?_
   refine RW.y (Y.loadN (cs:=rowC q s) rfl (rowC_len q s) (hall _ hk34)) rfl ?_
   refine RW.storeBlock rfl rfl (by rw[List.size_toArray,rowC_len]; rfl) (fun z hz=>hone z (by simpa using hz)) (hk34.at0 hbr2) rfl (fun w5 hb5 hk5=>?_)
   repeat' (first|(refine CL.ret ?_)|(refine Rt.then ?_)|(refine Rt.block ?_)|(refine Gt.nil ?_; refine RW.nilw [0,1,2,5,6,7,8,12,31] ?_; dsimp only[H.keep,H.look,H.Fr.put,Nat.beq])|(refine Gt.assign ?_; refine RW.y (Y.assign rfl) rfl ?_))
   exact FQ.res (rs:=[.cell 6 46,.tmp 7]) (vs:=[_,_]) rfl rfl ⟨⟨_,rfl,load_block hb5 (rowC_len q s)⟩,rfl,trivial⟩ rfl ⟨(hKr.trans0 hk34).trans hk5 fun k h=> .inr (by omega),_,by rw[decide_eq_true (hst▸hmem)],rowC_len q s,hone⟩
 ·have hi:i=L.length:=by omega
  subst hi
  have hno:t∉L:=fun m=>by
   obtain⟨j,hj⟩:=List.getElem?_of_mem m
   exact hix j (List.getElem?_eq_some_iff.1 hj).1 hj
  repeat' (first|(refine CL.seq ?_)|(refine CL.region ?_)|(refine CL.condP rfl (fun _=>?_) (fun _=>?_) <;> try (exfalso; omega))|(refine CL.exit ?_)|(refine Ex.then ?_)|(refine Ex.hit ?_)|(refine Gt.nil ?_; refine RW.nilw [0,1,2,5,6,7,8,12,31] ?_; dsimp only[H.keep,H.look,H.Fr.put,Nat.beq])|(refine Gt.move ?_; refine RW.y (Y.move rfl) rfl ?_)|(refine Gt.len ?_; (refine RW.y (Y.lenx rfl (by assumption)) rfl ?_))|(refine Gt.lss ?_; refine RW.y (Y.lss rfl rfl) rfl ?_)|(refine RW.y (Y.build (ps:=[]) rfl rfl) rfl ?_))
  refine RW.storeBlock rfl rfl rfl (by decide) hbr2 rfl (fun w5 hb5 hk5=>?_)
  repeat' (first|(refine CL.ret ?_)|(refine Gt.nil ?_; refine RW.nilw [0,1,2,5,6,7,8,12,31] ?_; dsimp only[H.keep,H.look,H.Fr.put,Nat.beq])|(refine Gt.assign ?_; refine RW.y (Y.assign rfl) rfl ?_))
  exact FQ.res (rs:=[.cell 6 46,.tmp 7]) (vs:=[_,_]) rfl rfl ⟨⟨_,rfl,load_block (cs:=_) hb5 rfl⟩,rfl,trivial⟩ rfl ⟨hKr.trans hk5 fun k h=> .inr (by omega),_,by rw[decide_eq_false hno],rfl,by decide⟩
end Go.Proofs.YtbhbdeelpopgoaaGreatDoor.E

set_option linter.constructorNameAsVariable false
set_option linter.unusedVariables false
namespace Go.Proofs.YtbhbdeelpopgoaaGreatDoor.E
open Go Go.RowKit H
set_option maxRecDepth 100000
def vtx:Nat→List Nat
 | 0=>[49,46,48,46,48]
 | 1=>[49,46,49,46,48]
 | 2=>[50,46,48,46,48]
 | 3=>[48,46,51,46,48]
 | 4=>[49,46,48,46,48,45,120,46,49]
 | _=>[49,46,50,46,51]
def hxx:Nat→List Nat
 | 0=>[50,100,52,53,99,51,50,48,102,97,99,97,98,101,55,49,98,54,50,100,102,100,56,54,101,51,99,50,56,97,100,102,54,57,54,99,48,98,99,49,56,97,50,52,54,102,97,55,51,49,100,51,97,97,50,56,55,99,98,57,51,48,101,56]
 | 1=>[52,97,52,53,48,51,99,49,57,54,102,53,56,51,52,98,100,102,49,50,51,51,52,97,52,57,48,99,51,51,102,97,98,99,54,52,55,52,99,55,100,98,52,102,54,53,102,101,51,100,100,52,52,57,101,102,101,54,97,54,52,48,57,97]
 | 2=>[49,55,50,55,56,55,50,56,98,49,52,48,99,57,98,51,54,57,57,49,97,51,50,101,49,50,99,102,102,57,100,53,52,49,101,97,97,52,54,57,48,54,100,52,97,51,49,55,55,52,102,50,56,100,101,55,97,57,54,51,53,48,98,99]
 | 3=>[54,98,55,97,98,97,100,52,51,57,56,48,52,98,102,99,98,97,98,55,99,52,97,55,100,97,101,102,99,54,100,102,50,101,97,48,54,48,57,98,52,57,97,55,97,54,101,51,98,53,49,49,49,52,54,51,102,57,98,100,49,53,55,100]
 | 4=>[51,49,52,50,97,57,53,49,53,52,101,54,98,56,48,98,52,57,56,101,102,48,48,52,57,102,99,51,54,56,102,101,57,97,51,97,55,49,102,54,50,57,48,102,99,101,51,54,102,102,98,51,55,54,53,57,56,99,52,100,51,100,54,51]
 | _=>[57,54,55,55,57,52,54,100,48,97,102,52,54,99,53,99,55,100,48,54,50,102,55,98,99,98,54,49,99,99,98,55,49,53,55,98,99,50,55,98,102,99,51,49,100,98,102,98,48,98,56,102,98,55,102,54,50,49,102,50,53,56,51,55]
def dcx(s:Nat):List Nat:=if s=4 then [51,56] else [51,52]
noncomputable def v1R(f:FuncId)(s:Nat)(v:AV):Bool:=ifeV (Nat.beq s 4) (callK P0 101 FU (tab []) (dr0 101) 50 f [.agg (vL p0A s)] (memL [pK] hE) (fun u _=>avEq v u) (fun _ _=>false)) (callK P0 100 FU (tab []) (dr0 100) 50 f [.agg (vL .nils s)] (memL [] hE) (fun u _=>avEq v u) (fun _ _=>false))
theorem v1Call{f:FuncId}{s:Nat}{v:AV}(hb:v1R f s v=true)(hv:flatA v=true){w:World}{q:Value}(hq:Vr w q s):Calls P0 f #[.agg (vC q s).toArray] w fun e w'=>∃x,e = .returned x∧K0 w w'∧∀r,real r v=some x:=by
 unfold v1R at hb
 by_cases es:s=4
 ·obtain⟨g,c,fz,rfl,h1,h2,h3,h4⟩:=hq es
  have e1:Nat.beq s 4=true:=by rw[es]; rfl
  rw[e1] at hb
  replace hb:callK P0 101 FU (tab []) (dr0 101) 50 f [.agg (vL p0A s)] (memL [pK] hE) (fun u _=>avEq v u) (fun _ _=>false)=true:=hb
  exact callL (l:=[pK]) (T:=[]) (no_tab _) hv hb (by decide) (ps:=[(g,c.size)]) (sg:=sg0) ⟨(fun q hq=>by cases hq),pre_brel h1 h2 h4,trivial⟩ (reals_cons.2 ⟨_,_,vL_real fun _=>slx2 rfl h2 h3,reals_nil,rfl⟩)
 ·rw[beq_ne es] at hb
  replace hb:callK P0 100 FU (tab []) (dr0 100) 50 f [.agg (vL .nils s)] (memL [] hE) (fun u _=>avEq v u) (fun _ _=>false)=true:=hb
  exact callL (l:=[]) (T:=[]) (no_tab _) hv hb (by decide) (ps:=[]) (sg:=sg0) trivial (reals_cons.2 ⟨_,_,vL_real fun z=>absurd z es,reals_nil,rfl⟩)
noncomputable def v0R(f:FuncId)(vs:List AV)(v:AV):Bool:=callK P0 100 FU (tab []) (dr0 100) 50 f vs (memL [] hE) (fun u _=>avEq v u) (fun _ _=>false)
theorem v0Call{f:FuncId}{vs:List AV}{v:AV}(hb:v0R f vs v=true)(hv:flatA v=true){w:World}{xs:List Value}(hx : ∀r,reals r vs=some xs):Calls P0 f xs.toArray w fun e w'=>∃x,e = .returned x∧K0 w w'∧∀r,real r v=some x:=
 callL (l:=[]) (T:=[]) (no_tab _) hv hb (by decide) (ps:=[]) (sg:=sg0) trivial (hx _)
theorem all6{p:Nat→Bool}(h:([0,1,2,3,4,5].all p)=true){s:Nat}(hs:s < 6):p s=true:=List.all_eq_true.1 h s (by simp; omega)
theorem vtx_bytes{s:Nat}(hs:s < 6):Bytes (vtx s):=all6 (p:=fun s=>(vtx s).all fun b=>Nat.blt b 256) (by decide) hs
theorem hxx_bytes{s:Nat}(hs:s < 6):Bytes (hxx s):=all6 (p:=fun s=>(hxx s).all fun b=>Nat.blt b 256) (by decide) hs
theorem dcx_bytes{s:Nat}(hs:s < 6):Bytes (dcx s):=all6 (p:=fun s=>(dcx s).all fun b=>Nat.blt b 256) (by decide) hs
theorem vtxK:([0,1,2,3,4,5].all fun s=>v1R 44 s (.str (vtx s)))=true:=by kernel_rfl
theorem hxxK:([0,1,2,3,4,5].all fun s=>v0R 45 [.agg (ints (sumOf s))] (.str (hxx s)))=true:=by kernel_rfl
theorem dcxK:([0,1,2,3,4,5].all fun s=>v0R 46 [.int .i64 (.ofNat (sizeOf' s))] (.str (dcx s)))=true:=by kernel_rfl
theorem sortedK:v0R 47 [.nils] .nils=true:=by kernel_rfl
theorem vText{w:World}{s:Nat}(hs:s < 6){q:Value}(hq:Vr w q s):Calls P0 44 #[.agg (vC q s).toArray] w fun e w'=>e = .returned (.string (B (textOf (vtx s))))∧K0 w w':=
 (v1Call (all6 vtxK hs) rfl hq).mono fun e w' ⟨x,h1,hk,hx⟩=>by
  have:=(hx (rE sg0)).symm.trans (str_real (vtx_bytes hs))
  cases this
  exact⟨h1,hk⟩
theorem hText{w:World}{s:Nat}(hs:s < 6):Calls P0 45 #[.agg (bv (textOf (sumOf s))).toArray] w fun e w'=>e = .returned (.string (B (textOf (hxx s))))∧K0 w w':=
 (v0Call (all6 hxxK hs) rfl (xs:=[.agg (bv (textOf (sumOf s))).toArray]) fun r=>reals_cons.2 ⟨_,_,by simp only[real,ints_real (sumOf_bytes s),Option.map_some],reals_nil,rfl⟩).mono fun e w' ⟨x,h1,hk,hx⟩=>by
  have:=(hx (rE sg0)).symm.trans (str_real (hxx_bytes hs))
  cases this
  exact⟨h1,hk⟩
theorem dText{w:World}{s:Nat}(hs:s < 6):Calls P0 46 #[.int .i64 (Int.ofNat (sizeOf' s))] w fun e w'=>e = .returned (.string (B (textOf (dcx s))))∧K0 w w':=
 (v0Call (all6 dcxK hs) rfl (xs:=[.int .i64 (Int.ofNat (sizeOf' s))]) fun r=>reals_cons.2 ⟨_,_,rfl,reals_nil,rfl⟩).mono fun e w' ⟨x,h1,hk,hx⟩=>by
  have:=(hx (rE sg0)).symm.trans (str_real (dcx_bytes hs))
  cases this
  exact⟨h1,hk⟩
theorem sortedNil{w:World}:Calls P0 47 #[.slice none 0 0] w fun e w'=>e = .returned (.slice none 0 0)∧K0 w w':=
 (v0Call sortedK rfl (xs:=[.slice none 0 0]) fun r=>reals_cons.2 ⟨_,_,rfl,reals_nil,rfl⟩).mono fun e w' ⟨x,h1,hk,hx⟩=>by
  have:some (Value.slice none 0 0)=some x:=hx (rE sg0)
  cases this
  exact⟨h1,hk⟩
theorem line_eq{s:Nat}(hs:s < 6):textOf (lineOf s)=[112,97,99,107,32]++textOf [98]++[32]++textOf (vtx s)++[32]++textOf (hxx s)++[32]++textOf (dcx s)++[10]:=
 of_decide_eq_true (all6 (p:=fun s=>decide (textOf (lineOf s)=[112,97,99,107,32]++textOf [98]++[32]++textOf (vtx s)++[32]++textOf (hxx s)++[32]++textOf (dcx s)++[10])) (by decide) hs)
theorem line_len{s:Nat}(hs:s < 6):(lineOf s).length≤90:=of_decide_eq_true (all6 (p:=fun s=>decide ((lineOf s).length≤90)) (by decide) hs)
theorem textOf_app(a b:List Nat):textOf (a++b)=textOf a++textOf b:=by simp[textOf]
def rowsT(L:List Nat):List UInt8:=textOf (L.map lineOf).flatten
theorem rowsT_snoc(L:List Nat)(s:Nat):rowsT (L++[s])=rowsT L++textOf (lineOf s):=by simp[rowsT,textOf_app]
theorem rowsT_len: ∀{L:List Nat},(∀s∈L,s < 6)→(rowsT L).length≤L.length * 90
 | [],_=>by simp[rowsT,textOf]
 | x::L,h=>by
  have h1:=rowsT_len (L:=L) fun s hs=>h s (List.mem_cons_of_mem _ hs)
  have h2:=line_len (h x List.mem_cons_self)
  simp only[rowsT,List.map_cons,List.flatten_cons,textOf_app,List.length_append,List.length_cons] at *
  have:(textOf (lineOf x)).length=(lineOf x).length:=by simp[textOf]
  omega
theorem take_snoc'{α:Type}{L:List α}{i:Nat}{s:α}(h:L[i]?=some s):L.take (i+1)=L.take i++[s]:=by
 rw[List.take_add_one,h]; rfl
theorem rowC_1(q:Value)(s:Nat){j:Nat}{u:Value}(h:(vC q s)[j]?=some u):(rowC q s)[1+j]?=some u:=by
 have hj:j < 4:=(List.getElem?_eq_some_iff.1 h).1
 rw[rowC,Nat.add_comm,List.getElem?_cons_succ,List.getElem?_append_left hj]; exact h
theorem rowC_5(q:Value)(s:Nat){j:Nat}{u:Value}(h:(bv (textOf (sumOf s)))[j]?=some u):(rowC q s)[5+j]?=some u:=by
 have hl:=sumOf_len s
 have hj:j < 32:=by have:=(List.getElem?_eq_some_iff.1 h).1; simpa [textOf,hl] using this
 rw[rowC,show 5+j=(j+4)+1 from by omega,List.getElem?_cons_succ,List.getElem?_append_right (by simp[vC])]
 simp only[vC,List.length_cons,List.length_nil,Nat.zero_add,Nat.reduceAdd,Nat.add_sub_cancel]
 rw[List.getElem?_append_left (by simp[textOf,hl]; omega)]; exact h
theorem rowC_37(q:Value)(s:Nat):(rowC q s)[37]?=some (.int .i64 (Int.ofNat (sizeOf' s))):=by
 have h:=sumOf_len s
 simp[rowC,vC,bv,textOf,h]
attribute [local irreducible] H.CL H.RW H.CW H.Yd H.thenK H.blockQ Go.Calls
theorem indexText{w:World}{q v:Value}{L:List Nat}(hv:RwsAt w q L v):Calls Tryz.prog 24 #[v] w fun e w'=>K0 w w'∧e = .returned (.string (B (rowsT L))):=by
 have k1:([112,97,99,107,32]:List UInt8).length=5:=rfl
 have k2:([32]:List UInt8).length=1:=rfl
 have k3:([10]:List UInt8).length=1:=rfl
 have k4:(textOf [98]).length=1:=rfl
 have hfew:=hv.few
 refine H.enter Tryz.func24 Tryz.ntmps24 rfl rfl ?_; dsimp only[H.args]
 repeat' (first|(refine CL.seq ?_)|(refine CL.region ?_)|(refine CL.block ?_)|(refine Gt.nil ?_; refine RW.nilw [0,2,3,4,5,6,10,55] ?_; dsimp only[H.keep,H.look,H.Fr.put,Nat.beq])|(refine Gt.assign ?_; refine RW.y (Y.assign rfl) rfl ?_))
 refine CL.loopS [0,3,4] (fun k vals wr=>∃(i:Nat) (t:List UInt8),vals=[v,.string (B t),.int .i64 (i:Int)]∧k=L.length - i∧i≤L.length∧t=rowsT (L.take i)∧t.length≤i * 90∧K0 w wr) L.length ⟨_,rfl,0,[],rfl,rfl,Nat.zero_le _,rfl,by simp,Kept.refl _ _⟩ ?_
 rintro k vals wr ⟨i,t,rfl,rfl,hi,ht,htl,hKr⟩
 dsimp only[List.zip,List.zipWith]
 have hvr:=hv.keep0 hKr
 have hsr:=hvr.sl
 rcases Nat.lt_or_ge i L.length with hlt|hge
 ·have hti:((i:Int)).toNat=i:=Int.toNat_natCast i
  obtain⟨s,hsL⟩ : ∃s,L[i]?=some s:=⟨L[i],List.getElem?_eq_getElem hlt⟩
  have hmem:s∈L:=List.mem_of_getElem? hsL
  have h6:=hv.lt s hmem
  have hall:=elAll hsr (rowC_len q) (i:=(i:Int)) (by omega) (by omega)
  have hgd:L.getD ((i:Int)).toNat default=s:=by rw[hti,List.getD_eq_getElem?_getD,hsL]; rfl
  rw[hgd] at hall
  obtain⟨g,o,hsp,hspj⟩:=spot_ptr hsr (by omega) (((i:Int)).toNat * 39)
  have hcl : ∀w',K0 wr w'→∀j u,(rowC q s)[j]?=some u→w'.cell? ⟨g,o+j,none⟩=some u:=fun w' hk' j u hu=>by
   have:=hall w' hk' j u hu
   rw[hsp,addr_add] at this
   exact this
  have hnm : ∀w',K0 wr w'→w'.cell? ⟨g,o+0,none⟩=some (.string (B (textOf [98]))):=fun w' hk'=>hcl w' hk' 0 _ rfl
  have hvs : ∀w',K0 wr w'→∀j u,(vC q s)[j]?=some u→w'.cell? ((⟨g,o+1,none⟩:Addr).add j)=some u:=fun w' hk' j u hu=>by
   rw[addr_add,Nat.add_assoc]; exact hcl w' hk' (1+j) u (rowC_1 q s hu)
  have hsm : ∀w',K0 wr w'→∀j u,(bv (textOf (sumOf s)))[j]?=some u→w'.cell? ((⟨g,o+5,none⟩:Addr).add j)=some u:=fun w' hk' j u hu=>by
   rw[addr_add,Nat.add_assoc]; exact hcl w' hk' (5+j) u (rowC_5 q s hu)
  have hsz : ∀w',K0 wr w'→w'.cell? ⟨g,o+37,none⟩=some (.int .i64 (Int.ofNat (sizeOf' s))):=fun w' hk'=>hcl w' hk' 37 _ (rowC_37 q s)
  have hnd : ∀w',K0 wr w'→w'.cell? ⟨g,o+38,none⟩=some (.slice none 0 0):=fun w' hk'=>hcl w' hk' 38 _ (rowC_38 q s)
  have hvt:=fun w' (hk':K0 wr w')=>vText (w:=w') h6 (fun e=>(hvr.pr (e▸hmem)).keep hk')
  have hsml:(bv (textOf (sumOf s))).length=32:=by simp[textOf,sumOf_len]
  have l1:(textOf (vtx s)).length≤20:=of_decide_eq_true (all6 (p:=fun s=>decide ((textOf (vtx s)).length≤20)) (by decide) h6)
  have l2:(textOf (hxx s)).length≤64:=of_decide_eq_true (all6 (p:=fun s=>decide ((textOf (hxx s)).length≤64)) (by decide) h6)
  have l3:(textOf (dcx s)).length≤2:=of_decide_eq_true (all6 (p:=fun s=>decide ((textOf (dcx s)).length≤2)) (by decide) h6)
  repeat' (first|(refine CL.seq ?_)|(refine CL.region ?_)|(refine CL.skip ?_)|(refine CL.condP rfl (fun _=>?_) (fun _=>?_) <;> try (exfalso; omega))|(refine CL.block ?_)|(refine Gt.nil ?_; refine RW.nilw [0,2,3,4,5,6,10,55] ?_; dsimp only[H.keep,H.look,H.Fr.put,Nat.beq])|(refine Gt.move ?_; refine RW.y (Y.move rfl) rfl ?_)|(refine Gt.len ?_; (refine RW.y (Y.lenx rfl (by assumption)) rfl ?_))|(refine Gt.lss ?_; refine RW.y (Y.lss rfl rfl) rfl ?_))
  refine CL.draw (fun w'=>K0 wr w') (by kernel_rfl) (fun w1 hheap hk1=>?_)
  have hS:K0 wr w1:=hk1
  skip
  refine AW.take 0 rfl (by kernel_rfl) (by kernel_rfl) (by kernel_rfl) rfl (by assumption) (fun w hS=>Y.move rfl) ?_
  refine AW.take 1 rfl (by kernel_rfl) (by kernel_rfl) (by kernel_rfl) rfl (by assumption) (fun w hS=>by exact Y.cat rfl rfl (by omega)) ?_
  refine AW.take 2 rfl (by kernel_rfl) (by kernel_rfl) (by kernel_rfl) rfl (by assumption) (fun w hS=>Y.move rfl) ?_
  refine AW.take 3 rfl (by kernel_rfl) (by kernel_rfl) (by kernel_rfl) rfl (by assumption) (fun w hS=>Y.move rfl) ?_
  refine AW.take 4 rfl (by kernel_rfl) (by kernel_rfl) (by kernel_rfl) rfl (by assumption) (fun w hS=>Y.idx rfl rfl (hsr.keep0 hS) (by omega) (by omega)) ?_
  refine AW.take 5 rfl (by kernel_rfl) (by kernel_rfl) (by kernel_rfl) rfl (by assumption) (fun w hS=>Y.fieldAddr (congrArg (fun a=>some (Value.pointer (some a))) hsp) (by rfl)) ?_
  refine AW.take 6 rfl (by kernel_rfl) (by kernel_rfl) (by kernel_rfl) rfl (by assumption) (fun w hS=>Y.load1A rfl (hnm _ hS)) ?_
  refine AW.take 7 rfl (by kernel_rfl) (by kernel_rfl) (by kernel_rfl) rfl (by assumption) (fun w hS=>by exact Y.cat rfl rfl (by(simp only[List.length_append,List.length_cons,List.length_nil]; omega))) ?_
  refine AW.take 8 rfl (by kernel_rfl) (by kernel_rfl) (by kernel_rfl) rfl (by assumption) (fun w hS=>by exact Y.cat rfl rfl (by(simp only[List.length_append,List.length_cons,List.length_nil]; omega))) ?_
  refine AW.take 9 rfl (by kernel_rfl) (by kernel_rfl) (by kernel_rfl) rfl (by assumption) (fun w hS=>Y.move rfl) ?_
  refine AW.take 10 rfl (by kernel_rfl) (by kernel_rfl) (by kernel_rfl) rfl (by assumption) (fun w hS=>Y.move rfl) ?_
  refine AW.take 11 rfl (by kernel_rfl) (by kernel_rfl) (by kernel_rfl) rfl (by assumption) (fun w hS=>Y.idx rfl rfl (hsr.keep0 hS) (by omega) (by omega)) ?_
  refine AW.take 12 rfl (by kernel_rfl) (by kernel_rfl) (by kernel_rfl) rfl (by assumption) (fun w hS=>Y.fieldAddr (congrArg (fun a=>some (Value.pointer (some a))) hsp) (by rfl)) ?_
  refine AW.take 13 rfl (by kernel_rfl) (by kernel_rfl) (by kernel_rfl) rfl (by assumption) (fun w hS=>Y.loadN (cs:=vC q s) rfl rfl (hvs _ hS)) ?_
  refine AW.take 17 rfl (by kernel_rfl) (by kernel_rfl) (by kernel_rfl) rfl (by assumption) (fun w hS=>Y.move rfl) ?_
  refine AW.take 18 rfl (by kernel_rfl) (by kernel_rfl) (by kernel_rfl) rfl (by assumption) (fun w hS=>Y.move rfl) ?_
  refine AW.take 19 rfl (by kernel_rfl) (by kernel_rfl) (by kernel_rfl) rfl (by assumption) (fun w hS=>Y.idx rfl rfl (hsr.keep0 hS) (by omega) (by omega)) ?_
  refine AW.take 20 rfl (by kernel_rfl) (by kernel_rfl) (by kernel_rfl) rfl (by assumption) (fun w hS=>Y.fieldAddr (congrArg (fun a=>some (Value.pointer (some a))) hsp) (by rfl)) ?_
  refine AW.take 21 rfl (by kernel_rfl) (by kernel_rfl) (by kernel_rfl) rfl (by assumption) (fun w hS=>Y.loadN (cs:=bv (textOf (sumOf s))) rfl hsml (hsm _ hS)) ?_
  refine AW.take 25 rfl (by kernel_rfl) (by kernel_rfl) (by kernel_rfl) rfl (by assumption) (fun w hS=>Y.move rfl) ?_
  refine AW.take 26 rfl (by kernel_rfl) (by kernel_rfl) (by kernel_rfl) rfl (by assumption) (fun w hS=>Y.move rfl) ?_
  refine AW.take 27 rfl (by kernel_rfl) (by kernel_rfl) (by kernel_rfl) rfl (by assumption) (fun w hS=>Y.idx rfl rfl (hsr.keep0 hS) (by omega) (by omega)) ?_
  refine AW.take 28 rfl (by kernel_rfl) (by kernel_rfl) (by kernel_rfl) rfl (by assumption) (fun w hS=>Y.fieldAddr (congrArg (fun a=>some (Value.pointer (some a))) hsp) (by rfl)) ?_
  refine AW.take 29 rfl (by kernel_rfl) (by kernel_rfl) (by kernel_rfl) rfl (by assumption) (fun w hS=>Y.load1A rfl (hsz _ hS)) ?_
  refine AW.next 14 rfl (by kernel_rfl) ?_
  refine RW.fn rfl rfl ((hvt w1 hk1).mono ?_)
  rintro e w2 ⟨rfl,hk2⟩
  refine RW.nil (Nm.then (rebase0 hS hk2 fun hS=>?_))
  refine AW.take 15 rfl (by kernel_rfl) (by kernel_rfl) (by kernel_rfl) rfl (by assumption) (fun w hS=>by exact Y.cat rfl rfl (by(simp only[List.length_append,List.length_cons,List.length_nil]; omega))) ?_
  refine AW.take 16 rfl (by kernel_rfl) (by kernel_rfl) (by kernel_rfl) rfl (by assumption) (fun w hS=>by exact Y.cat rfl rfl (by(simp only[List.length_append,List.length_cons,List.length_nil]; omega))) ?_
  refine AW.next 22 rfl (by kernel_rfl) ?_
  refine RW.fn rfl rfl ((hText h6).mono ?_)
  rintro e w3 ⟨rfl,hk3⟩
  refine RW.nil (Nm.then (rebase0 hS hk3 fun hS=>?_))
  refine AW.take 23 rfl (by kernel_rfl) (by kernel_rfl) (by kernel_rfl) rfl (by assumption) (fun w hS=>by exact Y.cat rfl rfl (by(simp only[List.length_append,List.length_cons,List.length_nil]; omega))) ?_
  refine AW.take 24 rfl (by kernel_rfl) (by kernel_rfl) (by kernel_rfl) rfl (by assumption) (fun w hS=>by exact Y.cat rfl rfl (by(simp only[List.length_append,List.length_cons,List.length_nil]; omega))) ?_
  refine AW.next 30 rfl (by kernel_rfl) ?_
  refine RW.fn rfl rfl ((dText h6).mono ?_)
  rintro e w4 ⟨rfl,hk4⟩
  refine RW.nil (Nm.then (rebase0 hS hk4 fun hS=>?_))
  refine AW.take 31 rfl (by kernel_rfl) (by kernel_rfl) (by kernel_rfl) rfl (by assumption) (fun w hS=>by exact Y.cat rfl rfl (by(simp only[List.length_append,List.length_cons,List.length_nil]; omega))) ?_
  refine AW.take 32 rfl (by kernel_rfl) (by kernel_rfl) (by kernel_rfl) rfl (by assumption) (fun w hS=>by exact Y.cat rfl rfl (by(simp only[List.length_append,List.length_cons,List.length_nil]; omega))) ?_
  refine AW.take 33 rfl (by kernel_rfl) (by kernel_rfl) (by kernel_rfl) rfl (by assumption) (fun w hS=>Y.assign rfl) ?_
  refine AW.donew [0,3,4] (by kernel_rfl) ?_
  dsimp only[H.keep,H.look,H.Fr.put,Nat.beq]
  have hk14:=((hk1.trans0 hk2).trans0 hk3).trans0 hk4
  have hs4:=hsr.keep0 hk14
  obtain⟨t4,ht4⟩ : ∃t4,t4=t++[112,97,99,107,32]++textOf [98]++[32]++textOf (vtx s)++[32]++textOf (hxx s)++[32]++textOf (dcx s)++[10]:=⟨_,rfl⟩
  have htx:t4=rowsT (L.take (i+1)):=by
   rw[take_snoc' hsL,rowsT_snoc,line_eq h6,ht4,ht]
   simp only[List.append_assoc]
  have hl4:t4.length≤(i+1) * 90:=by
   rw[htx]
   refine Nat.le_trans (rowsT_len fun z hz=>hv.lt z (List.mem_of_mem_take hz)) (Nat.mul_le_mul_right _ ?_)
   rw[List.length_take]; omega
  rw[←ht4]
  repeat' (first|(refine CL.seq ?_)|(refine CL.region ?_)|(refine Gt.move ?_; refine RW.y (Y.move rfl) rfl ?_))
  refine RW.y (Y.idx rfl rfl hs4 (by omega) (by omega)) rfl ?_
  refine RW.y (Y.fieldAddr (congrArg (fun a=>some (Value.pointer (some a))) hsp) (by rfl)) rfl ?_
  refine RW.y (Y.load1A rfl (hnd _ hk14)) rfl ?_
  refine RW.fn rfl rfl (sortedNil.mono ?_)
  rintro e w5 ⟨rfl,hk5⟩
  repeat' (first|(refine CL.seq ?_)|(refine CL.region ?_)|(refine CL.block ?_)|(refine Gt.nil ?_; refine RW.nilw [0,2,3,4,5,6,10,55] ?_; dsimp only[H.keep,H.look,H.Fr.put,Nat.beq])|(refine Gt.assign ?_; refine RW.y (Y.assign rfl) rfl ?_))
  refine CL.loopS [0,3,4,5,6] (fun k vals wv=>vals=[v,.string (B t4),.int .i64 (i:Int),.slice none 0 0,.int .i64 0]∧wv=w5) 0 ⟨_,rfl,rfl,rfl⟩ ?_
  rintro k vals wv ⟨rfl,rfl⟩
  dsimp only[List.zip,List.zipWith]
  repeat' (first|(refine CL.seq ?_)|(refine CL.region ?_)|(refine CL.condP rfl (fun _=>?_) (fun _=>?_) <;> try (exfalso; omega))|(refine CL.exit ?_)|(refine Ex.then ?_)|(refine Ex.hit ?_)|(refine CL.done ?_)|(refine Nm.block ?_)|(refine Nm.then ?_)|(refine Gt.nil ?_; refine RW.nilw [0,2,3,4,5,6,10,55] ?_; dsimp only[H.keep,H.look,H.Fr.put,Nat.beq])|(refine Gt.move ?_; refine RW.y (Y.move rfl) rfl ?_)|(refine Gt.add ?_; (refine RW.y (Y.add64 rfl rfl (by omega) (by omega)) rfl ?_))|(refine Gt.assign ?_; refine RW.y (Y.assign rfl) rfl ?_)|(refine Gt.len ?_; (refine RW.y (Y.lenv rfl) rfl ?_))|(refine Gt.lss ?_; refine RW.y (Y.lss rfl rfl) rfl ?_))
  exact⟨L.length - (i+1),_,rfl,rfl,rfl,by omega,i+1,t4,rfl,rfl,by omega,htx,hl4,hKr.trans0 (hk14.trans0 hk5)⟩
 ·have hi:i=L.length:=by omega
  subst hi
  rw[List.take_of_length_le (Nat.le_refl _)] at ht
  subst ht
  repeat' (first|(refine CL.seq ?_)|(refine CL.region ?_)|(refine CL.condP rfl (fun _=>?_) (fun _=>?_) <;> try (exfalso; omega))|(refine CL.exit ?_)|(refine Ex.then ?_)|(refine Ex.hit ?_)|(refine CL.ret ?_)|(refine Gt.nil ?_; refine RW.nilw [0,2,3,4,5,6,10,55] ?_; dsimp only[H.keep,H.look,H.Fr.put,Nat.beq])|(refine Gt.move ?_; refine RW.y (Y.move rfl) rfl ?_)|(refine Gt.assign ?_; refine RW.y (Y.assign rfl) rfl ?_)|(refine Gt.len ?_; (refine RW.y (Y.lenx rfl (by assumption)) rfl ?_))|(refine Gt.lss ?_; refine RW.y (Y.lss rfl rfl) rfl ?_))
  exact FQ.one rfl rfl rfl ⟨hKr,rfl⟩
end Go.Proofs.YtbhbdeelpopgoaaGreatDoor.E

set_option linter.constructorNameAsVariable false
set_option linter.unusedVariables false
namespace Go.Proofs.YtbhbdeelpopgoaaGreatDoor.E
open Go Go.RowKit H
attribute [local irreducible] H.CL H.RW H.CW H.Yd H.thenK H.blockQ Go.Calls
theorem findNone{w:World}{q p v:Value}{L:List Nat}{t:Nat}(hv:RwsAt w q L v)(ht:t < 6)(hp:Vr w p t)(hn:t∉L):Calls Tryz.prog 90 #[v,.string (B (textOf [98])),.agg (vC p t).toArray] w fun e w'=>K0 w w'∧∃cs:List Value,e = .returned (.tuple #[.agg cs.toArray,.bool false])∧cs.length=39∧∀u∈cs,u.oneCell'=true:=by
 have hpl:plI L t = -1:=by rw[plI,standsAt_none.2 hn]
 refine H.enter Tryz.func90 Tryz.ntmps90 rfl rfl ?_; dsimp only[H.args]
 repeat' (first|(refine CL.seq ?_)|(refine CL.region ?_))
 refine RW.box rfl rfl (fun w1 hb1 hk1 hlt1=>?_)
 have hb1':w1.heap[w.heap.size]?=some (.cells (vC p t).toArray 41 (0,0)):=hb1
 refine RW.alloc rfl (fun w2 hb2 hk2 hlt2=>?_)
 have hb12:=hk2.at0 hb1'
 have hK2:=hk1.trans0 hk2
 have hz1:=hk1.size
 repeat' (first|(refine CL.seq ?_)|(refine CL.region ?_)|(refine Gt.nil ?_; refine RW.nilw [0,1,2,5,6,7,8,9,15] ?_; dsimp only[H.keep,H.look,H.Fr.put,Nat.beq])|(refine Gt.move ?_; refine RW.y (Y.move rfl) rfl ?_)|(refine Gt.load ?_; (refine RW.y (Y.loadBlock rfl (by assumption) rfl) rfl ?_))|(refine Gt.assign ?_; refine RW.y (Y.assign rfl) rfl ?_))
 refine RW.fn rfl rfl ((indexAt (hv.keep0 hK2) ht (hp.keep hK2)).mono ?_)
 rintro e w3 ⟨hk3,rfl⟩
 rw[hpl]
 repeat' (first|(refine CL.seq ?_)|(refine CL.region ?_)|(refine CL.condP rfl (fun _=>?_) (fun _=>?_) <;> try (exfalso; omega))|(refine Gt.nil ?_; refine RW.nilw [0,1,2,5,6,7,8,9,15] ?_; dsimp only[H.keep,H.look,H.Fr.put,Nat.beq])|(refine Gt.move ?_; refine RW.y (Y.move rfl) rfl ?_)|(refine Gt.assign ?_; refine RW.y (Y.assign rfl) rfl ?_)|(refine Gt.lss ?_; refine RW.y (Y.lss rfl rfl) rfl ?_)|(refine RW.y (Y.build (ps:=[]) rfl rfl) rfl ?_))
 refine RW.storeBlock rfl rfl rfl (by decide) (hk3.at0 hb2) rfl (fun w5 hb5 hk5=>?_)
 repeat' (first|(refine CL.ret ?_)|(refine Gt.nil ?_; refine RW.nilw [0,1,2,5,6,7,8,9,15] ?_; dsimp only[H.keep,H.look,H.Fr.put,Nat.beq])|(refine Gt.assign ?_; refine RW.y (Y.assign rfl) rfl ?_))
 exact FQ.res (rs:=[.cell 6 46,.tmp 7]) (vs:=[_,_]) rfl rfl ⟨⟨_,rfl,load_block (cs:=_) hb5 rfl⟩,rfl,trivial⟩ rfl ⟨(hK2.trans0 hk3).trans hk5 fun k h=> .inr (by omega),_,rfl,rfl,by decide⟩
end Go.Proofs.YtbhbdeelpopgoaaGreatDoor.E

set_option linter.constructorNameAsVariable false
set_option linter.unusedVariables false
namespace Go.Proofs.YtbhbdeelpopgoaaGreatDoor.E
open Go Go.RowKit H
noncomputable def preC(h:Hp)(pre:AV)(k:Bool):Bool:=match pre with
 | .slx j 0 2 1=>cellsK h j fun t o _ cs=>ask (Nat.beq t 9) (ask (avEq (.agg cs) (.agg [.str [120],.str [49]])) k)
 | _=>false
noncomputable def fixK(h:Hp)(i:Nat)(kc:TypeId→List AV→Bool)(kf:Nat→Bool):Bool:=atK h i fun b=>Blk.rec (motive:=fun _=>Bool) (fun t _ _ cs=>kc t cs) (fun _ _ _ _=>false) (fun _ _=>false) (fun _ _ _ _=>false) false (fun _ _=>false) (fun q=>kf q) b
theorem fixK_ok{h:Hp}{i:Nat}{kc:TypeId→List AV→Bool}{kf:Nat→Bool}(hk:fixK h i kc kf=true):(∃t o r cs,h.at i=some (.cells t o r cs)∧kc t cs=true)∨∃q,h.at i=some (.fix q)∧kf q=true:=by
 replace hk:=atK_ok hk; obtain⟨b,hb,hk⟩:=hk
 cases b with
 | cells t o r cs=>exact .inl ⟨t,o,r,cs,hb,hk⟩
 | fix q=>exact .inr ⟨q,hb,hk⟩
 | _=>cases hk
noncomputable def preK(h:Hp)(pre:AV)(k:Bool):Bool:=match pre with
 | .slx j 0 2 1=>fixK h j (fun t cs=>ask (Nat.beq t 9) (ask (avEq (.agg cs) (.agg [.str [120],.str [49]])) k)) fun q=>ask (Nat.beq q 1) k
 | _=>false
noncomputable def rwsK(v:AV)(h:Hp)(k:Nat→Nat→List (Nat×List AV)→Bool):Bool:=match v with
 | .opq t i c _ z=>ask (Nat.beq t 1) (ask (Nat.beq z 39) (orowK h i fun z' tab=>ask (Nat.beq z' 39) (preK h (preOf tab) (k i c tab))))
 | _=>false
theorem rwsK_ok{v:AV}{h:Hp}{k:Nat→Nat→List (Nat×List AV)→Bool}(hk:rwsK v h k=true): ∃i c o tab,v = .opq 1 i c o 39∧h.at i=some (.rows 39 tab)∧preK h (preOf tab) (k i c tab)=true:=by
 unfold rwsK at hk
 split at hk
 ·rename_i t i c o z
  replace hk:=ask_ok hk
  obtain⟨h1,hk⟩:=hk
  have e1:=Nat.eq_of_beq_eq_true h1; subst e1
  replace hk:=ask_ok hk
  obtain⟨h1,hk⟩:=hk
  have e1:=Nat.eq_of_beq_eq_true h1; subst e1
  replace hk:=orowK_ok hk
  obtain⟨z',tab,hb,hk⟩:=hk
  replace hk:=ask_ok hk
  obtain⟨h1,hk⟩:=hk
  have e1:=Nat.eq_of_beq_eq_true h1; subst e1
  exact⟨i,c,o,tab,rfl,hb,hk⟩
 ·cases hk
theorem rowsLen(q:Value): ∀L:List Nat,(L.flatMap (rowC q)).length=L.length * 39
 | []=>rfl
 | x::L=>by
  rw[List.flatMap_cons,List.length_append,rowsLen q L,rowC_len,List.length_cons]; omega
theorem rows_eq{q:Value}: ∀{L:List Nat} {cl:List Value},(∀m s,L[m]?=some s→(cl.drop (m * 39)).take 39=rowC q s)→cl.take (L.length * 39)=L.flatMap (rowC q)
 | [],cl,_=>by simp
 | x::L,cl,h=>by
  have h0:=h 0 x rfl
  rw[Nat.zero_mul,List.drop_zero] at h0
  have h1:=rows_eq (L:=L) (cl:=cl.drop 39) fun m s hm=>by
   have:=h (m+1) s (by simpa using hm)
   rw[List.drop_drop,show 39+m * 39=(m+1) * 39 from by omega]
   exact this
  rw[List.flatMap_cons,←h0,←h1,List.length_cons,show(L.length+1) * 39=39+L.length * 39 from by omega,List.take_add]
theorem preK_k{h:Hp}{p:AV}{k:Bool}(hk:preK h p k=true):k=true:=by
 unfold preK at hk
 split at hk
 ·rcases fixK_ok hk with ⟨t,op,ro,cs,hj,hk⟩|⟨q,hj,hk⟩
  ·exact(ask_ok (ask_ok hk).2).2
  ·exact(ask_ok hk).2
 ·cases hk
theorem pre_at{S:Nat→Prop}{w0 w:World}{fl:Nat}{r:Ren}{h:Hp}(hR:Rel S w0 fl r h w){pre:AV}{k:Bool}(hk:preK h pre k=true)(h4:4∈r.sg.dd){q:Value}(hq:real r pre=some q):q.oneCell'=true∧PreAt w q:=by
 unfold preK at hk
 split at hk
 ·rename_i j
  obtain⟨pj,hpj,z1,z2,z3,rfl⟩:=real_slx hq
  have z2:0+2 * 1≤pj.2:=z2
  rcases fixK_ok hk with ⟨t,op,ro,cs,hj,hk⟩|⟨q,hj,hk⟩
  ·replace hk:=ask_ok hk; obtain⟨e1,hk⟩:=hk
   replace hk:=ask_ok hk; obtain⟨e2,hk⟩:=hk
   have e1:=Nat.eq_of_beq_eq_true e1
   have e2:=avEq_ok _ _ e2
   injection e2 with e2
   subst e1 e2
   obtain⟨cc,fz',us',g1,g2,g3,g4,g5,_⟩:=hR.at hpj hj
   have hx:reals r [.str [120],.str [49]]=some [.string (B (textOf [120])),.string (B (textOf [49]))]:=reals_cons.2 ⟨_,_,str_real (by decide),reals_cons.2 ⟨_,_,str_real (by decide),reals_nil,rfl⟩,rfl⟩
   have e3:=Option.some.inj (g3.symm.trans hx)
   have hsz:(pj.2 - 0) / 1=cc.size:=by rw[g2]; simp
   refine⟨rfl,pj.1,cc,fz',by rw[hsz],g1,by omega,by rw[←hsz]; exact z3,?_⟩
   rw[←e3]; exact g4.symm
  ·replace hk:=ask_ok hk; obtain⟨e1,hk⟩:=hk
   have e1:=Nat.eq_of_beq_eq_true e1
   subst e1
   obtain⟨cc,ty,fz',g1,g2,g3⟩:=(hR.at hpj hj).2 ⟨fun _=>h4,fun s _ z=>by omega⟩
   obtain⟨rfl,g4,g5,g6⟩:=g3.1 rfl
   have hsz:(pj.2 - 0) / 1=cc.size:=by rw[g2]; simp
   exact⟨rfl,pj.1,cc,fz',by rw[hsz],g1,g4,g5,g6⟩
 ·cases hk
theorem stands_of{L:List Nat}{s:Nat}(h:s∈L): ∃m,standsAt L s=some m:=by
 cases e:standsAt L s with
 | none=>exact absurd h (standsAt_none.1 e)
 | some m=>exact⟨m,rfl⟩
theorem rws_at{S:Nat→Prop}{w0 w:World}{fl:Nat}{r:Ren}{h:Hp}(hR:Rel S w0 fl r h w){i c o:Nat}{tab:List (Nat×List AV)}{u:Value}{k:Bool}(hu:real r (.opq 1 i c o 39)=some u)(hb:h.at i=some (.rows 39 tab))(hk:preK h (preOf tab) k=true): ∃q,q.oneCell'=true∧(4∈r.sg.dd→real r (preOf tab)=some q)∧RwsAt w q r.sg.dd u:=by
 obtain⟨p,hp,_,hn,hm,hcd,rfl⟩:=real_opq1 hu
 obtain⟨cs,ty,fz,h1,h2,h3⟩:=hR.at hp hb
 obtain⟨q,hq1,hq⟩ : ∃q,q.oneCell'=true∧(4∈r.sg.dd→real r (preOf tab)=some q∧PreAt w q):=by
  by_cases h4:4∈r.sg.dd
  ·obtain⟨m,hmm⟩:=stands_of h4
   obtain⟨us,hus,_,_⟩:=h3 (4,rowL (preOf tab) 4) (tabA_mem (preOf tab) 4 (by decide)) m hmm
   obtain⟨q,_,hq⟩:=reals_at (j:=4) hus (v:=preOf tab) rfl
   obtain⟨q1,q2⟩:=pre_at hR hk h4 hq
   exact⟨q,q1,fun _=>⟨hq,q2⟩⟩
  ·exact⟨.bool true,rfl,fun z=>absurd z h4⟩
 refine⟨q,hq1,fun z=>(hq z).1,⟨⟨rowsLen q _,Nat.le_trans (dd_few _) (by decide),.inr ⟨p.1,0,p.2 / 39,cs,ty,fz,rfl,h1,(Nat.le_div_iff_mul_le (by decide)).2 hn,hm,by rw[h2,Nat.zero_add]; exact Nat.div_mul_le_self _ _,?_⟩⟩,fun z=>(hq z).2,dd_lt _,dd_few _⟩⟩
 rw[List.drop_zero]
 refine rows_eq fun m s hs=>?_
 have h6:=dd_lt r.sg s (List.mem_of_getElem? hs)
 obtain⟨us,g1,_,g3⟩:=h3 _ (tabA_mem (preOf tab) s h6) m (standsAt_self (dd_nodup _) hs)
 rw[←g3]
 have:reals r (rowL (pickA (Nat.beq s 4) (preOf tab) .nils) s)=some (rowC q s):=rowL_real fun e=>by
  subst e
  exact(hq (List.mem_of_getElem? hs)).1
 exact Option.some.inj (g1.symm.trans this)
end Go.Proofs.YtbhbdeelpopgoaaGreatDoor.E

set_option linter.constructorNameAsVariable false
set_option linter.unusedVariables false
namespace Go.Proofs.YtbhbdeelpopgoaaGreatDoor.E
open Go Go.RowKit H
theorem preC_k{h:Hp}{p:AV}{k:Bool}(hk:preC h p k=true):k=true:=by
 unfold preC at hk
 split at hk
 ·replace hk:=cellsK_ok hk; obtain⟨t,op,ro,l,hj,hk⟩:=hk
  exact(ask_ok (ask_ok hk).2).2
 ·cases hk
theorem pre_slx{h:Hp}{p:AV}{k:Bool}(hk:preC h p k=true):k=true∧∀(S:Nat→Prop) (w0 w:World) (fl:Nat) (r:Ren),Rel S w0 fl r h w→∀q,real r p=some q→PreAt w q:=by
 unfold preC at hk
 split at hk
 ·rename_i j
  replace hk:=cellsK_ok hk; obtain⟨t,op,ro,l,hj,hk⟩:=hk
  replace hk:=ask_ok hk
  obtain⟨e1,hk⟩:=hk
  replace hk:=ask_ok hk
  obtain⟨e2,hk⟩:=hk
  have e1:=Nat.eq_of_beq_eq_true e1
  have e2:=avEq_ok _ _ e2
  injection e2 with e2
  subst e1 e2
  refine⟨hk,fun S w0 w fl r hR q hq=>?_⟩
  obtain⟨pj,hpj,z1,z2,z3,rfl⟩:=real_slx hq
  obtain⟨cc,fz',us',g1,g2,g3,g4,g5,_⟩:=hR.at hpj hj
  have hx:reals r [.str [120],.str [49]]=some [.string (B (textOf [120])),.string (B (textOf [49]))]:=reals_cons.2 ⟨_,_,str_real (by decide),reals_cons.2 ⟨_,_,str_real (by decide),reals_nil,rfl⟩,rfl⟩
  have e3:=Option.some.inj (g3.symm.trans hx)
  have z2:0+2 * 1≤pj.2:=z2
  have hsz:(pj.2 - 0) / 1=cc.size:=by rw[g2]; simp
  refine⟨pj.1,cc,fz',by rw[hsz],g1,by omega,by rw[←hsz]; exact z3,?_⟩
  rw[←e3]; exact g4.symm
 ·cases hk
noncomputable def verT(l:List AV)(p:AV)(h:Hp)(k:Nat→Bool)(ts:List Nat):Bool:=List.rec (motive:=fun _=>Bool) false (fun t _ ih=>ife (avEq (.agg l) (.agg (vL p t))) (ife (Nat.beq t 4) (preC h p (k t)) (k t)) ih) ts
noncomputable def verS(v:AV)(h:Hp)(k:Nat→Bool):Bool:=qAgg v fun l=>nthK l 3 fun p=>verT l p h k [0,1,2,3,4,5]
theorem verT_ok{l:List AV}{p:AV}{h:Hp}{k:Nat→Bool}: ∀{ts:List Nat},verT l p h k ts=true→∃t∈ts,l=vL p t∧k t=true∧(t=4→preC h p true=true)
 | [],hk=>by cases hk
 | t::ts,hk=>by
  rcases ife_ok (show ife (avEq (.agg l) (.agg (vL p t))) (ife (Nat.beq t 4) (preC h p (k t)) (k t)) (verT l p h k ts)=true from hk) with ⟨e,hk⟩|⟨_,hk⟩
  ·have e:=avEq_ok _ _ e
   injection e with e
   rcases ife_ok hk with ⟨e4,hk⟩|⟨e4,hk⟩
   ·have ht:=preC_k hk
    exact⟨t,List.mem_cons_self,e,ht,fun _=>by rw[ht] at hk; exact hk⟩
   ·exact⟨t,List.mem_cons_self,e,hk,fun z=>by subst z; cases e4⟩
  ·obtain⟨t',h1,h2⟩:=verT_ok hk
   exact⟨t',List.mem_cons_of_mem _ h1,h2⟩
theorem verS_ok{v:AV}{h:Hp}{k:Nat→Bool}(hk:verS v h k=true): ∃t,t < 6∧k t=true∧∀(S:Nat→Prop) (w0 w:World) (fl:Nat) (r:Ren),Rel S w0 fl r h w→∀u,real r v=some u→∃q,u = .agg (vC q t).toArray∧Vr w q t:=by
 replace hk:=qAgg_ok (x:=v) hk; obtain⟨l,rfl,hk⟩:=hk
 replace hk:=nthK_ok hk; obtain⟨p,hp,hk⟩:=hk
 obtain⟨t,ht,rfl,hk,h4⟩:=verT_ok hk
 refine⟨t,by simp at ht; omega,hk,fun S w0 w fl r hR u hu=>?_⟩
 by_cases e:t=4
 ·have h5:=(pre_slx (h4 e)).2 S w0 w fl r hR
  simp only[real,Option.map_eq_some_iff] at hu
  obtain⟨us,hus,rfl⟩:=hu
  obtain⟨q,_,hq⟩:=reals_at hus hp
  have:=vLs_real (r:=r) (pre:=p) (q:=q) (s:=t) fun _=>hq
  rw[hus] at this
  cases this
  exact⟨q,rfl,fun _=>h5 q hq⟩
 ·have:=vL_real (r:=r) (pre:=p) (q:= .bool true) (s:=t) fun z=>absurd z e
  rw[hu] at this
  cases this
  exact⟨_,rfl,fun z=>absurd z e⟩
noncomputable def atRes(c t:Nat)(k:AV→Bool):Bool:=ife (c.testBit t) (k (.opq 0 0 t 0 0)) (ife (c.testBit (6+t)) (k (.int .i64 (-1))) false)
noncomputable def atP(vs:List AV)(h:Hp)(k:AV→Bool):Bool:=match vs with
 | [v,nm,ver]=>rwsK v h fun _ c _=>qStr nm fun s=>ask (sEq s [98]) (verS ver h fun t=>atRes c t k)
 | _=>false
theorem pr_at{fl:Nat}:Pr1 Tryz.prog fl 122 fun _ vs h kr _=>atP vs h fun v=>kr v h:=by
 refine Pr1.val fun vs h k hk=>?_
 unfold atP at hk
 split at hk
 ·rename_i v nm ver
  replace hk:=rwsK_ok hk; obtain⟨i,c,o,tab,rfl,hb,hk⟩:=hk
  have hk0:=hk
  have hkk:=preK_k hk
  replace hkk:=qStr_ok (x:=nm) hkk; obtain⟨s,rfl,hkk⟩:=hkk
  replace hkk:=ask_ok hkk; obtain⟨e,hkk⟩:=hkk
  have e:=sEq_ok e
  subst e
  obtain⟨t,ht,hkk,hver⟩:=verS_ok hkk
  have fin : ∀z,k z=true→(∀r:Ren,r.sg.cd c→real r z=some (.int .i64 (plI r.sg.dd t)))→∃v,k v=true∧∀S w0 r w xs,Rel S w0 fl r h w→reals r [.opq 1 i c o 39,.str [98],ver]=some xs→Calls Tryz.prog 122 xs.toArray w fun e w'=>∃x,e = .returned x∧K0 w w'∧real r v=some x:=by
   intro z hz hr
   refine⟨z,hz,fun S w0 r w xs hR hxs=>?_⟩
   obtain⟨u1,t1,hu1,ht1,rfl⟩:=reals_cons.1 hxs
   obtain⟨u2,u3,hu2,hu3,rfl⟩:=reals2 ht1
   obtain⟨q,hq1,hq2,hrw⟩:=rws_at hR hu1 hb hk0
   obtain⟨_,rfl⟩:=real_str hu2
   obtain⟨q',rfl,hvr⟩:=hver S w0 w fl r hR _ hu3
   refine(indexAt hrw ht hvr).mono ?_
   rintro e w' ⟨hk',rfl⟩
   obtain⟨_,_,_,_,_,hcd,_⟩:=real_opq1 hu1
   exact⟨_,rfl,hk',hr r hcd⟩
  rcases ife_ok hkk with ⟨hc,hkk⟩|⟨_,hkk⟩
  ·refine fin _ hkk fun r hcd=>?_
   have hm:=(hcd.2 t ht).1 hc
   cases e:standsAt r.sg.dd t with
   | none=>exact absurd hm (standsAt_none.1 e)
   | some m=>
    simp only[real]
    show(standsAt r.sg.dd t).map (fun m=>Value.int .i64 (Int.ofNat m))=_
    rw[plI,e]; rfl
  ·rcases ife_ok hkk with ⟨hc,hkk⟩|⟨_,hkk⟩
   ·refine fin _ hkk fun r hcd=>?_
    have hm:=(hcd.2 t ht).2 hc
    rw[plI,standsAt_none.2 hm]
    rfl
   ·cases hkk
 ·cases hk
theorem flat_part{q:Value}: ∀{L:List Nat} {m s:Nat},L[m]?=some s→((L.flatMap (rowC q)).drop (m * 39)).take 39=rowC q s
 | [],m,s,h=>by simp at h
 | x::L,0,s,h=>by
  have e:x=s:=by simpa using h
  subst e
  rw[List.flatMap_cons,Nat.zero_mul,List.drop_zero,List.take_left' (rowC_len q x)]
 | x::L,m+1,s,h=>by
  have h:L[m]?=some s:=by simpa using h
  rw[List.flatMap_cons,show(m+1) * 39=39+m * 39 from by omega,←List.drop_drop,List.drop_left' (rowC_len q x)]
  exact flat_part h
noncomputable def rowsOfP(vs:List AV)(h:Hp)(k:KV):Bool:=one1 vs fun v=>rwsK v h fun _ c tab=>newH h (.rows 39 tab) fun j h=>k (.opq 1 j c 0 39) h
theorem pr_rowsOf{fl:Nat}:Pr1 Tryz.prog fl 94 fun _ vs h kr _=>rowsOfP vs h kr:=by
 refine Pr1.mem fun vs h k hk=>?_
 replace hk:=one1_ok hk; obtain⟨v,rfl,hk⟩:=hk
 obtain⟨i,c,o,tab,rfl,hb,hk0⟩:=rwsK_ok hk
 have hk:=preK_k hk0
 replace hk:=newH_ok hk; obtain⟨hl,hk⟩:=hk
 refine⟨_,_,hk,fun S w0 r w xs hR hxs=>?_⟩
 obtain⟨x,hx,rfl⟩:=reals1 hxs
 obtain⟨q,hq1,hq2,hrw⟩:=rws_at hR hx hb hk0
 obtain⟨_,_,_,_,_,hcd,_⟩:=real_opq1 hx
 refine(rowsOf hrw hq1).mono ?_
 rintro e w' ⟨hk',u,rfl,how⟩
 have hpos:0 < r.sg.dd.length:=List.length_pos_iff.2 hcd.1
 rcases how.2 with ⟨_,z⟩|⟨g,cap,cur,rfl,hB,hg,hnc,hm,hs,ht⟩
 ·omega
 have hdiv:cur.size / 39=cap:=by rw[hs]; exact Nat.mul_div_cancel _ (by decide)
 have hR':=(hR.same hk').adopt (b:= .rows 39 tab) (p:=(g,cur.size)) hl (fun j p hp e=>by have:=hR.dom j p hp; simp only at e; omega) (.inr (Nat.le_trans hR.kept.size hB)) ⟨cur,_,_,hg,rfl,fun y hy m hmm=>?_⟩
 ·have hx':=upd_ext hR (g,cur.size)
  refine⟨_,_,rfl,hx',hR',?_⟩
  simp only[real]
  unfold opqR
  simp only[upd_same,Option.bind_some]
  rw[if_pos ⟨by decide,by rw[hs]; exact Nat.mul_le_mul_right _ hnc,by rw[hdiv]; exact hm,hcd⟩,hdiv]
  rfl
 ·have hx':=upd_ext hR (g,cur.size)
  have hat:=standsAt_at hmm
  have hs6:=dd_lt r.sg y.1 (List.mem_of_getElem? hat)
  have hlt:m < r.sg.dd.length:=(List.getElem?_eq_some_iff.1 hat).1
  have hreal:reals (upd r h.next (g,cur.size)) y.2=some (rowC q y.1):=by
   refine reals_mono hx' _ _ ?_
   replace hy:y∈tabA (preOf tab):=hy
   simp only[tabA,List.mem_cons,List.not_mem_nil,or_false] at hy
   rcases hy with rfl|rfl|rfl|rfl|rfl|rfl
   ·exact rowL_real fun z=>absurd z (by decide)
   ·exact rowL_real fun z=>absurd z (by decide)
   ·exact rowL_real fun z=>absurd z (by decide)
   ·exact rowL_real fun z=>absurd z (by decide)
   ·exact rowL_real fun _=>hq2 (List.mem_of_getElem? hat)
   ·exact rowL_real fun z=>absurd z (by decide)
  refine⟨_,hreal,rowC_len q _,?_⟩
  have e:=flat_part (q:=q) (L:=r.sg.dd) hat
  rw[←ht,List.drop_take,List.take_take,Nat.min_eq_left (by omega)] at e
  exact e.symm
end Go.Proofs.YtbhbdeelpopgoaaGreatDoor.E

set_option linter.constructorNameAsVariable false
set_option linter.unusedVariables false
namespace Go.Proofs.YtbhbdeelpopgoaaGreatDoor.E
open Go Go.RowKit H
set_option maxRecDepth 100000
def lnT(s:Nat):List Nat:=(lineOf s).dropLast
theorem lnT_bytes{s:Nat}(hs:s < 6):Bytes (lnT s):=all6 (p:=fun s=>(lnT s).all fun b=>Nat.blt b 256) (by decide) hs
theorem lnT_ten{s:Nat}(hs:s < 6):(10:UInt8)∉textOf (lnT s):=of_decide_eq_true (all6 (p:=fun s=>decide ((10:UInt8)∉textOf (lnT s))) (by decide) hs)
theorem lnT_line{s:Nat}(hs:s < 6):textOf (lineOf s)=textOf (lnT s)++[10]:=of_decide_eq_true (all6 (p:=fun s=>decide (textOf (lineOf s)=textOf (lnT s)++[10])) (by decide) hs)
noncomputable def tbS:List (FuncId×Prim):=[(104,fun _ vs h kr _=>idxP vs h fun v=>kr v h),(159,fun _ vs h kr _=>idxP vs h fun v=>kr v h),(176,fun _ vs h kr _=>cnt1P vs h fun v=>kr v h)]
theorem tbS_ok:PrimOk P0 100 (tab tbS):=tab_ok (List.forall_mem_cons.2 ⟨pr_106,List.forall_mem_cons.2 ⟨pr_162,List.forall_mem_cons.2 ⟨pr_179,fun x hx=>by cases hx⟩⟩⟩)
noncomputable def s0R(f:FuncId)(vs:List AV)(v:AV):Bool:=callK P0 100 FU (tab tbS) (dr0 100) 50 f vs (memL [] hE) (fun u _=>avEq v u) (fun _ _=>false)
theorem s0Call{f:FuncId}{vs:List AV}{v:AV}(hb:s0R f vs v=true)(hv:flatA v=true){w:World}{xs:List Value}(hx : ∀r,reals r vs=some xs):Calls P0 f xs.toArray w fun e w'=>∃x,e = .returned x∧K0 w w'∧∀r,real r v=some x:=
 callL (l:=[]) (T:=tbS) tbS_ok hv hb (by decide) (ps:=[]) (sg:=sg0) trivial (hx _)
def lnR(s:Nat):List Nat:=(lnT s).drop 5
theorem lnR_bytes{s:Nat}(hs:s < 6):Bytes (lnR s):=all6 (p:=fun s=>(lnR s).all fun b=>Nat.blt b 256) (by decide) hs
theorem cutK':([0,1,2,3,4,5].all fun s=>s0R 88 [.str (lnT s),.str [32]] (.tup [.str [112,97,99,107],.str (lnR s),.bool true]))=true:=by kernel_rfl
theorem silentK:([0,1,2,3,4,5].all fun s=>s0R 62 [.str (lnT s)] (.bool false))=true:=by kernel_rfl
theorem sortK:s0R 64 [.nils,.fn (.func 65) [] []] (.tup [])=true:=by kernel_rfl
theorem cutCall{w:World}{s:Nat}(hs:s < 6):Calls P0 88 #[.string (B (textOf (lnT s))),.string (B [32])] w fun e w'=>e = .returned (.tuple #[.string (B [112,97,99,107]),.string (B (textOf (lnR s))),.bool true])∧K0 w w':=
 (s0Call (all6 cutK' hs) rfl (xs:=[.string (B (textOf (lnT s))),.string (B (textOf [32]))]) fun r=>reals_cons.2 ⟨_,_,str_real (lnT_bytes hs),reals_cons.2 ⟨_,_,str_real (by decide),reals_nil,rfl⟩,rfl⟩).mono fun e w' ⟨x,h1,hk,hx⟩=>by
  have h2:=hx (rE sg0)
  have h3:real (rE sg0) (.tup [.str [112,97,99,107],.str (lnR s),.bool true])=some (.tuple [.string (B (textOf [112,97,99,107])),.string (B (textOf (lnR s))),.bool true].toArray):=by
   simp only[real,reals,if_pos (show([112,97,99,107].all fun b=>Nat.blt b 256)=true by decide),if_pos (lnR_bytes hs),Option.bind_some,Option.map_some]
  rw[h3] at h2
  cases h2
  exact⟨h1,hk⟩
theorem silentCall{w:World}{s:Nat}(hs:s < 6):Calls P0 62 #[.string (B (textOf (lnT s)))] w fun e w'=>e = .returned (.bool false)∧K0 w w':=
 (s0Call (all6 silentK hs) rfl (xs:=[.string (B (textOf (lnT s)))]) fun r=>reals_cons.2 ⟨_,_,str_real (lnT_bytes hs),reals_nil,rfl⟩).mono fun e w' ⟨x,h1,hk,hx⟩=>by
  have h2:some (Value.bool false)=some x:=hx (rE sg0)
  cases h2
  exact⟨h1,hk⟩
theorem sortCall{w:World}:Calls P0 64 #[.slice none 0 0,.func (.func 65) #[] #[]] w fun e w'=>e = .returned (.tuple #[])∧K0 w w':=
 (s0Call sortK rfl (xs:=[.slice none 0 0,.func (.func 65) #[] #[]]) fun r=>reals_cons.2 ⟨_,_,rfl,reals_cons.2 ⟨_,_,by simp[real,reals],reals_nil,rfl⟩,rfl⟩).mono fun e w' ⟨x,h1,hk,hx⟩=>by
  have h2:=hx (rE sg0)
  simp only[real,reals,Option.map_some] at h2
  cases h2
  exact⟨h1,hk⟩
def PreB(b0:Nat)(w:World)(q:Value):Prop:=∃g c fz,b0≤g∧q = .slice (some ⟨g,0,none⟩) 2 c.size∧w.heap[g]?=some (.cells c 9 fz)∧2≤c.size∧c.size≤maxLen∧c.toList.take 2=[.string (B (textOf [120])),.string (B (textOf [49]))]
theorem PreB.pre{b0:Nat}{w:World}{q:Value}(h:PreB b0 w q):PreAt w q:=by
 obtain⟨g,c,fz,_,h⟩:=h
 exact⟨g,c,fz,h⟩
theorem PreB.keep{b0:Nat}{w w':World}{q:Value}(h:PreB b0 w q)(k:K0 w w'):PreB b0 w' q:=by
 obtain⟨g,c,fz,h0,e,h1,h2⟩:=h
 exact⟨g,c,fz,h0,e,k.at0 h1,h2⟩
theorem PreB.low{b0 b1:Nat}{w:World}{q:Value}(h:PreB b0 w q)(k:b1≤b0):PreB b1 w q:=by
 obtain⟨g,c,fz,h0,h⟩:=h
 exact⟨g,c,fz,Nat.le_trans k h0,h⟩
theorem PreB.keepO{b0 b1:Nat}{w w':World}{q v:Value}{n sz:Nat}{t:TypeId}{xs:List Value}(h:PreB b0 w q)(ho:w.ownsRow b1 t sz v n xs)(k:Kept (fun k=>v.ownBlock=some k) w w')(ht:t≠9):PreB b0 w' q:=by
 obtain⟨g',c',fz',h0,e,h1,h2⟩:=h
 refine⟨g',c',fz',h0,e,?_,h2⟩
 rw[k.block g' (lt_of_at h1) fun z=>?_]
 ·exact h1
 ·have z:v.ownBlock=some g':=z
  rcases ho.2 with ⟨rfl,_⟩|⟨g,cap,cur,rfl,hB,hg,_⟩
  ·cases z
  ·cases z
   rw[h1] at hg
   cases hg
   exact ht rfl
theorem rowC_irr(q p:Value){s:Nat}(h:s≠4):rowC q s=rowC p s:=by simp only[rowC,vC,if_neg h]
theorem rows_irr(q p:Value): ∀{L:List Nat},4∉L→L.flatMap (rowC q)=L.flatMap (rowC p)
 | [],_=>rfl
 | x::L,h=>by rw[List.flatMap_cons,List.flatMap_cons,rowC_irr q p (fun e=>h (e▸List.mem_cons_self)),rows_irr q p fun m=>h (List.mem_cons_of_mem _ m)]
noncomputable def preV(fl:Nat)(p:AV)(h:Hp):Bool:=match p with
 | .sl j o n m=>ask (Nat.beq o 0) (ask (Nat.beq n 2) (ask (Nat.beq m 2) (ask (Nat.ble fl j) (cellsK h j fun t op _ cs=>ask (not op) (ask (Nat.beq t 9) (avEq (.agg cs) (.agg [.str [120],.str [49]])))))))
 | .slx j o n z=>ask (Nat.beq o 0) (ask (Nat.beq n 2) (ask (Nat.beq z 1) (ask (Nat.ble fl j) (cellsK h j fun t _ _ cs=>ask (Nat.beq t 9) (takeK cs 2 fun l=>avEq (.agg l) (.agg [.str [120],.str [49]]))))))
 | _=>false
theorem preV_ok{fl:Nat}{p:AV}{h:Hp}(hk:preV fl p h=true){w0 w:World}{r:Ren}(hR:Rel (fun _=>False) w0 fl r h w){q:Value}(hq:real r p=some q):q.oneCell'=true∧PreB w0.heap.size w q:=by
 have hx2:reals r [.str [120],.str [49]]=some [.string (B (textOf [120])),.string (B (textOf [49]))]:=reals_cons.2 ⟨_,_,str_real (by decide),reals_cons.2 ⟨_,_,str_real (by decide),reals_nil,rfl⟩,rfl⟩
 unfold preV at hk
 split at hk
 ·rename_i j o n m
  replace hk:=ask_ok hk; obtain⟨h1,hk⟩:=hk
  replace hk:=ask_ok hk; obtain⟨h2,hk⟩:=hk
  replace hk:=ask_ok hk; obtain⟨h3,hk⟩:=hk
  replace hk:=ask_ok hk; obtain⟨h4,hk⟩:=hk
  rw[Nat.eq_of_beq_eq_true h1,Nat.eq_of_beq_eq_true h2,Nat.eq_of_beq_eq_true h3] at hq
  replace hk:=cellsK_ok hk; obtain⟨t,op,ro,cs,hb,hk⟩:=hk
  replace hk:=ask_ok hk; obtain⟨h5,hk⟩:=hk
  replace hk:=ask_ok hk; obtain⟨h6,hk⟩:=hk
  have e2:=avEq_ok _ _ hk
  injection e2 with e2
  cases op with
  | true=>cases h5
  | false=>
   rw[e2,Nat.eq_of_beq_eq_true h6] at hb
   simp only[real,Option.map_eq_some_iff] at hq
   obtain⟨p,hp,rfl⟩:=hq
   obtain⟨cc,fz,us',g1,g2,g3,g4,g5,g6,_⟩:=hR.at hp hb
   have e3:=Option.some.inj (g3.symm.trans hx2)
   have hsz:cc.size=2:=by
    have:=g6 rfl
    rw[g2,←this]; rfl
   rcases hR.may j p (ble_le h4) hp with z|z
   ·exact z.elim
   refine⟨rfl,p.1,cc,fz,z,by rw[hsz],g1,by omega,by rw[hsz]; decide,?_⟩
   rw[←e3]; exact g4.symm
 ·rename_i j o n z
  replace hk:=ask_ok hk; obtain⟨h1,hk⟩:=hk
  replace hk:=ask_ok hk; obtain⟨h2,hk⟩:=hk
  replace hk:=ask_ok hk; obtain⟨h3,hk⟩:=hk
  replace hk:=ask_ok hk; obtain⟨h4,hk⟩:=hk
  rw[Nat.eq_of_beq_eq_true h1,Nat.eq_of_beq_eq_true h2,Nat.eq_of_beq_eq_true h3] at hq
  replace hk:=cellsK_ok hk; obtain⟨t,op,ro,cs,hb,hk⟩:=hk
  replace hk:=ask_ok hk; obtain⟨h5,hk⟩:=hk
  rw[takeK_eq] at hk
  have e2:=avEq_ok _ _ hk
  injection e2 with e2
  rw[Nat.eq_of_beq_eq_true h5] at hb
  obtain⟨p,hp,z1,z2,z3,rfl⟩:=real_slx hq
  have z2:0+2 * 1≤p.2:=z2
  obtain⟨cc,fz,us',g1,g2,g3,g4,g5,g6,_⟩:=hR.at hp hb
  have g8:=reals_take 2 g3
  rw[e2,hx2] at g8
  have g8:=Option.some.inj g8
  have hsz:(p.2 - 0) / 1=cc.size:=by rw[g2]; simp
  rcases hR.may j p (ble_le h4) hp with z|z
  ·exact z.elim
  refine⟨rfl,p.1,cc,fz,z,by rw[hsz],g1,by omega,by rw[←hsz]; exact z3,?_⟩
  have hcl:2≤cs.length:=by
   have:=congrArg List.length e2
   rw[List.length_take] at this
   simp at this
   omega
  rw[g8,g4,List.take_take,Nat.min_eq_left hcl]
 ·cases hk
noncomputable def rowX(u:AV)(h:Hp):Bool:=qTup u fun l=>nthK l 0 fun x=>qAgg x fun c=>nthK c 4 fun p=>ask (avEq (.tup [.agg (rowL p 4),.bool true]) u) (preV 100 p h)
theorem rowX_ok{u:AV}{h:Hp}(hk:rowX u h=true): ∃p,u = .tup [.agg (rowL p 4),.bool true]∧preV 100 p h=true:=by
 replace hk:=qTup_ok (x:=u) hk; obtain⟨l,rfl,hk⟩:=hk
 replace hk:=nthK_ok hk; obtain⟨x,hx,hk⟩:=hk
 replace hk:=qAgg_ok (x:=x) hk; obtain⟨c,rfl,hk⟩:=hk
 replace hk:=nthK_ok hk; obtain⟨p,hp,hk⟩:=hk
 replace hk:=ask_ok hk; obtain⟨e,hk⟩:=hk
 exact⟨p,(avEq_ok _ _ e).symm,hk⟩
noncomputable def row0R(s:Nat):Bool:=s0R 89 [.str (lnT s)] (.tup [.agg (rowL .nils s),.bool true])
noncomputable def row4R:Bool:=callK P0 100 FU (tab tbS) (dr0 100) 50 89 [.str (lnT 4)] hE (fun u h=>rowX u h) (fun _ _=>false)
theorem rowK0:row0R 0=true:=by kernel_rfl
theorem rowK1:row0R 1=true:=by kernel_rfl
theorem rowK2:row0R 2=true:=by kernel_rfl
theorem rowK3:row0R 3=true:=by kernel_rfl
theorem rowK4:row4R=true:=by kernel_rfl
theorem rowK5:row0R 5=true:=by kernel_rfl
theorem rowCall{w:World}{s:Nat}(hs:s < 6):Calls P0 89 #[.string (B (textOf (lnT s)))] w fun e w'=>K0 w w'∧∃q,q.oneCell'=true∧e = .returned (.tuple #[.agg (rowC q s).toArray,.bool true])∧(s=4→PreB w.heap.size w' q):=by
 have easy : ∀s,s < 6→s≠4→row0R s=true→Calls P0 89 #[.string (B (textOf (lnT s)))] w fun e w'=>K0 w w'∧∃q,q.oneCell'=true∧e = .returned (.tuple #[.agg (rowC q s).toArray,.bool true])∧(s=4→PreB w.heap.size w' q):=fun s hs h4 hb=>by
  have hf:flatA (.tup [.agg (rowL .nils s),.bool true])=true:=by
   have:([0,1,2,3,4,5].all fun s=>flatA (.tup [.agg (rowL .nils s),.bool true]))=true:=by kernel_rfl
   exact all6 this hs
  refine(s0Call hb hf (xs:=[.string (B (textOf (lnT s)))]) fun r=>reals_cons.2 ⟨_,_,str_real (lnT_bytes hs),reals_nil,rfl⟩).mono ?_
  rintro e w' ⟨x,rfl,hk,hx⟩
  have h2:=hx (rE sg0)
  have h3:real (rE sg0) (.tup [.agg (rowL .nils s),.bool true])=some (.tuple [.agg (rowC (.bool true) s).toArray,.bool true].toArray):=by
   simp only[real,reals,rowL_real (r:=rE sg0) (pre:= .nils) (q:= .bool true) fun z=>absurd z h4,Option.bind_some,Option.map_some]
  rw[h3] at h2
  cases h2
  exact⟨hk,.bool true,rfl,rfl,fun z=>absurd z h4⟩
 match s,hs with
 | 0,hs=>exact easy 0 hs (by decide) rowK0
 | 1,hs=>exact easy 1 hs (by decide) rowK1
 | 2,hs=>exact easy 2 hs (by decide) rowK2
 | 3,hs=>exact easy 3 hs (by decide) rowK3
 | 5,hs=>exact easy 5 hs (by decide) rowK5
 | 4,hs=>
  rcases callK_ok tbS_ok (dr0_ok 100) regs0 50 _ _ _ _ _ rowK4 with ⟨u,h',hu,hC⟩|⟨_,_,hk,_⟩
  ·obtain⟨p,rfl,hpv⟩:=rowX_ok hu
   refine(hC _ w (rE sg0) w [.string (B (textOf (lnT 4)))] (relE sg0 w) (reals_cons.2 ⟨_,_,str_real (lnT_bytes hs),reals_nil,rfl⟩)).mono ?_
   rintro e w' ⟨r',x,rfl,_,hR',hx⟩
   simp only[real,Option.map_eq_some_iff] at hx
   obtain⟨ys,hys,rfl⟩:=hx
   obtain⟨xg,ts,hxg,hts,rfl⟩:=reals_cons.1 hys
   obtain⟨zg,hzg,rfl⟩:=reals1 hts
   have hzg:=Option.some.inj hzg
   subst hzg
   simp only[real,Option.map_eq_some_iff] at hxg
   obtain⟨us,hus,rfl⟩:=hxg
   obtain⟨q,_,hq⟩:=reals_at (j:=4) hus (v:=p) rfl
   have e1:us=rowC q 4:=Option.some.inj (hus.symm.trans (rowL_real fun _=>hq))
   obtain⟨q1,q2⟩:=preV_ok hpv hR' hq
   exact⟨hR'.kept,q,q1,by rw[e1],fun _=>q2⟩
  ·cases hk
def linesB(s:List UInt8):List (List UInt8):=if (S.splitB 10 s).getLastD []=[] then (S.splitB 10 s).dropLast else S.splitB 10 s
theorem getLastD_getD(l:List (List UInt8)):l.getD (l.length - 1) []=l.getLastD []:=by
 rcases List.eq_nil_or_concat l with e|⟨a,x,rfl⟩
 ·rw[e]; rfl
 ·simp
theorem splitB_snocL(c:UInt8): ∀(x r:List UInt8),c∉x→S.splitB c (x++c::r)=x::S.splitB c r:=by
 intro x r h
 induction x with
 | nil=>simp[S.splitB]
 | cons a x ih=>
  have ha : ¬a=c:=fun e=>h (by simp[e])
  rw[List.cons_append,S.splitB,if_neg ha,ih (fun e=>h (by simp[e]))]
  simp
theorem splitRows: ∀{L:List Nat},(∀s∈L,s < 6)→S.splitB 10 (rowsT L)=L.map (fun s=>textOf (lnT s))++[[]]
 | [],_=>rfl
 | x::L,h=>by
  have h6:=h x List.mem_cons_self
  have e:rowsT (x::L)=textOf (lnT x)++10::rowsT L:=by
   simp only[rowsT,List.map_cons,List.flatten_cons,textOf_app]
   rw[lnT_line h6,List.append_assoc]; rfl
  rw[e,splitB_snocL 10 _ _ (lnT_ten h6),splitRows fun s hs=>h s (List.mem_cons_of_mem _ hs)]
  rfl
theorem linesRows{L:List Nat}(h : ∀s∈L,s < 6):linesB (rowsT L)=L.map fun s=>textOf (lnT s):=by
 rw[linesB,splitRows h,List.getLastD_concat,if_pos rfl,List.dropLast_concat]
attribute [local irreducible] H.CL H.RW H.CW H.Yd H.thenK H.blockQ Go.Calls
theorem progLines(s:List UInt8)(hl:s.length≤1000000)(w:World):Calls Tryz.prog 61 #[.string (B s)] w fun e w'=>∃v',e = .returned v'∧w'.ownsRow w.heap.size 9 1 v' (linesB s).length (sv (linesB s))∧K0 w w':=by
 refine H.enter Tryz.func61 Tryz.ntmps61 rfl rfl ?_; dsimp only[H.args]
 repeat' (first|(refine CL.seq ?_)|(refine CL.region ?_)|(refine Gt.nil ?_; refine RW.nilw [0,2,3,12] ?_; dsimp only[H.keep,H.look,H.Fr.put,Nat.beq])|(refine Gt.move ?_; refine RW.y (Y.move rfl) rfl ?_)|(refine Gt.assign ?_; refine RW.y (Y.assign rfl) rfl ?_))
 refine RW.fn rfl rfl ((S.split s 10 hl w).mono ?_)
 rintro e w1 ⟨v1,rfl,how,hk1⟩
 have hs:=Sl.of_own how
 have hp:=List.length_pos_iff.2 (S.splitB_ne 10 s)
 have hsm:=S.splitB_len 10 s
 have hcm:=List.count_le_length (a:=(10:UInt8)) (l:=s)
 have e1:((((S.splitB 10 s).length:Nat):Int) - 1).toNat=(S.splitB 10 s).length - 1:=by omega
 repeat' (first|(refine CL.seq ?_)|(refine CL.region ?_)|(refine CL.skip ?_)|(refine CL.condP rfl (fun _=>?_) (fun _=>?_) <;> try (exfalso; omega))|(refine CL.ret ?_)|(refine Gt.nil ?_; refine RW.nilw [0,2,3,12] ?_; dsimp only[H.keep,H.look,H.Fr.put,Nat.beq])|(refine Gt.move ?_; refine RW.y (Y.move rfl) rfl ?_)|(refine Gt.assign ?_; refine RW.y (Y.assign rfl) rfl ?_)|(refine Gt.len ?_; (refine RW.y (Y.lenx rfl (by assumption)) rfl ?_))|(refine Gt.sub ?_; refine RW.y (Y.sub64 rfl rfl (by omega) (by omega)) rfl ?_)|(refine Gt.idx ?_; refine RW.elemS rfl rfl rfl rfl (by assumption) (by omega) (by omega) ?_)|(refine Gt.eql ?_; refine RW.y (Y.eqs rfl rfl) rfl ?_))
 ·rename_i h
  rw[e1,getLastD_getD] at h
  refine RW.ownh rfl rfl rfl how (by omega) (by omega) (fun v2 how2 hb2=>?_)
  rw[e1] at how2
  have hd:linesB s=(S.splitB 10 s).dropLast:=if_pos h
  repeat' (first|(refine CL.seq ?_)|(refine CL.region ?_)|(refine CL.ret ?_)|(refine Gt.nil ?_; refine RW.nilw [0,2,3,12] ?_; dsimp only[H.keep,H.look,H.Fr.put,Nat.beq])|(refine Gt.move ?_; refine RW.y (Y.move rfl) rfl ?_)|(refine Gt.assign ?_; refine RW.y (Y.assign rfl) rfl ?_))
  refine FQ.one rfl rfl rfl ⟨_,rfl,?_,hk1⟩
  rw[hd,List.length_dropLast,sv,List.dropLast_eq_take,List.map_take]
  rw[Nat.mul_one] at how2
  exact how2
 ·rename_i h
  rw[e1,getLastD_getD] at h
  exact FQ.one rfl rfl rfl ⟨_,rfl,by rw[show linesB s=S.splitB 10 s from if_neg h]; exact how,hk1⟩
theorem lineCall{w:World}{b0:Nat}{q u:Value}{L:List Nat}{s:Nat}(hu:w.ownsRow b0 46 39 u L.length (L.flatMap (rowC q)))(hb0:b0≤w.heap.size)(hq1:q.oneCell'=true)(hq:4∈L→PreB b0 w q)(hL : ∀z∈L,z < 6)(hf:L.length≤5)(hs:s < 6)(hn:s∉L):Calls Tryz.prog 63 #[u,.string (B (textOf (lnT s)))] w fun e w'=>∃u' q',e = .returned (.tuple #[u',.bool true])∧q'.oneCell'=true∧w'.ownsRow b0 46 39 u' (L.length+1) ((L++[s]).flatMap (rowC q'))∧(4∈L++[s]→PreB b0 w' q')∧Kept (fun k=>u.ownBlock=some k) w w':=by
 have hrw:RwsAt w q L u:=⟨Sl.of_own hu,fun m=>(hq m).pre,hL,by omega⟩
 obtain⟨p,cap,rfl,hcap⟩:=hrw.sl.shape
 refine H.enter Tryz.func63 Tryz.ntmps63 rfl rfl ?_; dsimp only[H.args]
 repeat' (first|(refine CL.seq ?_)|(refine CL.region ?_)|(refine Gt.nil ?_; refine RW.nilw [0,1,4,5,6,9,10,12,13,14,15,22,23,53,57,95] ?_; dsimp only[H.keep,H.look,H.Fr.put,Nat.beq])|(refine Gt.move ?_; refine RW.y (Y.move rfl) rfl ?_)|(refine Gt.assign ?_; refine RW.y (Y.assign rfl) rfl ?_))
 refine RW.fn rfl rfl ((cutCall hs).mono ?_)
 rintro e w1 ⟨rfl,hk1⟩
 repeat' (first|(refine CL.seq ?_)|(refine CL.region ?_)|(refine CL.skip ?_)|(refine CL.condP rfl (fun _=>?_) (fun _=>?_) <;> try (exfalso; omega))|(refine CL.block ?_)|(refine CL.exit ?_)|(refine Ex.hit ?_)|(refine CL.ret ?_)|(refine CL.done ?_)|(refine Nm.block ?_)|(refine Gt.nil ?_; refine RW.nilw [0,1,4,5,6,9,10,12,13,14,15,22,23,53,57,95] ?_; dsimp only[H.keep,H.look,H.Fr.put,Nat.beq])|(refine Gt.move ?_; refine RW.y (Y.move rfl) rfl ?_)|(refine Gt.assign ?_; refine RW.y (Y.assign rfl) rfl ?_)|(refine Gt.extract ?_; refine RW.y (Y.extract rfl rfl) rfl ?_)|(refine Gt.len ?_; (refine RW.y (Y.lenv rfl) rfl ?_))|(refine Gt.eql ?_; first|(refine RW.y (Y.eqs rfl rfl) rfl ?_)|(refine RW.y (Y.eqi rfl rfl) rfl ?_))|(refine Gt.sub ?_; refine RW.y (Y.sub64 rfl rfl (by omega) (by omega)) rfl ?_))
 ·rename_i hpk
  refine RW.fn rfl rfl ((rowCall hs).mono ?_)
  rintro e w2 ⟨hk2,q2,hq2,rfl,hp2⟩
  have hz2:=(hk1.trans0 hk2).size
  repeat' (first|(refine Gt.move ?_; refine RW.y (Y.move rfl) rfl ?_)|(refine Gt.extract ?_; refine RW.y (Y.extract rfl rfl) rfl ?_))
  refine RW.alloc rfl (fun w3 hb3 hk3 hlt3=>?_)
  refine RW.storeBlock rfl rfl (by rw[List.size_toArray,rowC_len]; rfl) (fun z hz=>rowC_one q2 hq2 s z (by simpa using hz)) hb3 rfl (fun w4 hb4 hk4=>?_)
  have hz3:=hk3.size
  have hK4:K0 w w4:=((hk1.trans0 hk2).trans0 hk3).trans hk4 fun k h=> .inr (by omega)
  have hcells : ∀j u,(vC q2 s)[j]?=some u→w4.cell? ((⟨w2.heap.size,1,none⟩:Addr).add j)=some u:=fun j u hu=>by
   rw[addr_add]
   exact ldU hb4 (by rw[List.getElem?_toArray]; exact rowC_1 q2 s hu)
  have hvr:s=4→PreB w1.heap.size w4 q2:=fun e=>(hp2 e).keep (hk3.trans hk4 fun k h=> .inr (by omega))
  repeat' (first|(refine CL.seq ?_)|(refine CL.region ?_)|(refine Gt.nil ?_; refine RW.nilw [0,1,4,5,6,9,10,12,13,14,15,22,23,53,57,95] ?_; dsimp only[H.keep,H.look,H.Fr.put,Nat.beq])|(refine Gt.move ?_; refine RW.y (Y.move rfl) rfl ?_)|(refine Gt.assign ?_; refine RW.y (Y.assign rfl) rfl ?_)|(refine Gt.load ?_; (refine RW.y (Y.loadB rfl (by assumption) rfl) rfl ?_))|(refine Gt.fieldAddr ?_; refine RW.y (Y.fieldAddr rfl (by rfl)) rfl ?_))
  refine RW.y (Y.loadN (cs:=vC q2 s) rfl rfl hcells) rfl ?_
  refine RW.fn rfl rfl ((findNone (hrw.keep0 hK4) hs (fun e=>(hvr e).pre) hn).mono ?_)
  rintro e w5 ⟨hk5,cF,rfl,hcF,hcF1⟩
  have hz4:=hK4.size
  have hz5:=hk5.size
  repeat' (first|(refine Gt.move ?_; refine RW.y (Y.move rfl) rfl ?_)|(refine Gt.extract ?_; refine RW.y (Y.extract rfl rfl) rfl ?_))
  refine RW.alloc rfl (fun w6 hb6 hk6 hlt6=>?_)
  refine RW.storeBlock rfl rfl (by rw[List.size_toArray,hcF]; rfl) (fun z hz=>hcF1 z (by simpa using hz)) hb6 rfl (fun w7 hb7 hk7=>?_)
  have hz6:=hk6.size
  have hK57:K0 w4 w7:=(hk5.trans0 hk6).trans hk7 fun k h=> .inr (by omega)
  have hb47:=hK57.at0 hb4
  have hu7:=own_kept0 hu (hK4.trans0 hK57)
  have hz7:=(hK4.trans0 hK57).size
  repeat' (first|(refine CL.seq ?_)|(refine CL.region ?_)|(refine Gt.nil ?_; refine RW.nilw [0,1,4,5,6,9,10,12,13,14,15,22,23,53,57,95] ?_; dsimp only[H.keep,H.look,H.Fr.put,Nat.beq])|(refine Gt.move ?_; refine RW.y (Y.move rfl) rfl ?_)|(refine Gt.assign ?_; refine RW.y (Y.assign rfl) rfl ?_))
  refine RW.y (Y.loadBlock rfl hb47 (by rw[List.size_toArray,rowC_len]; rfl)) rfl ?_
  refine RW.app1 rfl rfl rfl rfl hu7 rfl (by show(rowC q2 s).toArray.size=39; rw[List.size_toArray,rowC_len]) rfl rfl (fun y hy=>rowC_one q2 hq2 s y (by simpa [Value.cells] using hy)) (by omega) (by omega) (by omega) (fun u' w8 how8 hk8 hl8=>?_)
  have how8':w8.ownsRow b0 46 39 u' (L.length+1) (L.flatMap (rowC q)++rowC q2 s):=by simpa [Value.cells] using how8
  repeat' (first|(refine CL.ret ?_)|(refine Rt.block ?_)|(refine Gt.nil ?_; refine RW.nilw [0,1,4,5,6,9,10,12,13,14,15,22,23,53,57,95] ?_; dsimp only[H.keep,H.look,H.Fr.put,Nat.beq])|(refine Gt.move ?_; refine RW.y (Y.move rfl) rfl ?_)|(refine Gt.guard ?_; (refine RW.on rfl rfl rfl ?_))|(refine Gt.assign ?_; refine RW.y (Y.assign rfl) rfl ?_)|(refine Gt.pick ?_; (refine RW.y (Y.pickT rfl rfl) rfl ?_))|(refine Gt.len ?_; (refine RW.y (Y.lenv rfl) rfl ?_))|(refine Gt.not ?_; (refine RW.y (Y.notb rfl) rfl ?_))|(refine Gt.lss ?_; refine RW.y (Y.lss rfl rfl) rfl ?_))
  rw[show decide ((L.length:Int) < 200)=true from decide_eq_true (by omega)]
  have hkk:Kept (fun k=>(Value.slice p L.length cap).ownBlock=some k) w w8:=(Kept.of0 (hK4.trans0 hK57)).trans hk8 fun _ c=> .inl c
  by_cases h4:s=4
  ·have hn4:4∉L:=h4▸hn
   refine FQ.two rfl rfl rfl rfl ⟨u',q2,rfl,hq2,?_,fun _=>?_,hkk⟩
   ·rw[List.flatMap_append,rows_irr q2 q hn4]
    simpa using how8'
   ·exact(((hvr h4).keep hK57).low (by have:=hk1.size; omega)).keepO hu7 hk8 (by decide)
  ·refine FQ.two rfl rfl rfl rfl ⟨u',q,rfl,hq1,?_,fun m=>?_,hkk⟩
   ·rw[List.flatMap_append,List.flatMap_singleton,rowC_irr q q2 h4]
    exact how8'
   ·have m:4∈L:=by
     rcases List.mem_append.1 m with m|m
     ·exact m
     ·exact absurd (List.mem_singleton.1 m).symm h4
    exact((hq m).keep (hK4.trans0 hK57)).keepO hu7 hk8 (by decide)
 all_goals (exfalso; contradiction)
theorem parse{w:World}{L:List Nat}(hL : ∀s∈L,s < 6)(hnd:L.Nodup):Calls Tryz.prog 49 #[.string (B (rowsT L))] w fun e w'=>K0 w w'∧∃u q,e = .returned (.tuple #[u,.int .i64 0,.int .i64 0])∧q.oneCell'=true∧w'.ownsRow w.heap.size 46 39 u L.length (L.flatMap (rowC q))∧(4∈L→PreB w.heap.size w' q)∧(L≠[]→∃g c fz,w.heap.size≤g∧w'.heap[g]?=some (.cells c 9 fz)):=by
 have hfew:L.length≤6:=few_of hnd hL
 have hlen:=rowsT_len hL
 refine H.enter Tryz.func49 Tryz.ntmps49 rfl rfl ?_; dsimp only[H.args]
 repeat' (first|(refine CL.seq ?_)|(refine CL.region ?_)|(refine CL.skip ?_)|(refine CL.condP rfl (fun _=>?_) (fun _=>?_) <;> try (exfalso; omega))|(refine Gt.nil ?_; refine RW.nilw [0,2,3,4,5,6,7,8,9,10,13,15,16,17,18,23,31,37,38,39] ?_; dsimp only[H.keep,H.look,H.Fr.put,Nat.beq])|(refine Gt.assign ?_; refine RW.y (Y.assign rfl) rfl ?_)|(refine Gt.move ?_; refine RW.y (Y.move rfl) rfl ?_)|(refine Gt.len ?_; (refine RW.y (Y.lens rfl) rfl ?_))|(refine Gt.gtr ?_; refine RW.y (Y.gtr rfl rfl) rfl ?_))
 refine RW.fn rfl rfl ((progLines (rowsT L) (by omega) w).mono ?_)
 rintro e w1 ⟨v1,rfl,how1,hk1⟩
 rw[linesRows hL,List.length_map] at how1
 have hs1:=Sl.of_own how1
 have hz1:=hk1.size
 obtain⟨p1,c1,rfl,hcap1⟩:=hs1.shape
 repeat' (first|(refine CL.block ?_)|(refine Gt.nil ?_; refine RW.nilw [0,2,3,4,5,6,7,8,9,10,13,15,16,17,18,23,31,37,38,39] ?_; dsimp only[H.keep,H.look,H.Fr.put,Nat.beq])|(refine Gt.move ?_; refine RW.y (Y.move rfl) rfl ?_)|(refine Gt.len ?_; (refine RW.y (Y.lenv rfl) rfl ?_)))
 refine CL.loopS [5,15,16,17] (fun k vals wr=>∃(i:Nat) (u q:Value),vals=[u,.slice p1 L.length c1,.int .i64 (L.length:Int),.int .i64 (i:Int)]∧k=L.length - i∧i≤L.length∧q.oneCell'=true∧wr.ownsRow w1.heap.size 46 39 u i ((L.take i).flatMap (rowC q))∧(4∈L.take i→PreB w1.heap.size wr q)∧K0 w1 wr) L.length ⟨_,rfl,0,_,.bool true,rfl,rfl,Nat.zero_le _,rfl,World.ownsRow_nil _ _ _ _,(fun m=>by simp at m),Kept.refl _ _⟩ ?_
 rintro k vals wr ⟨i,u,q,rfl,rfl,hi,hq1,hu,hq,hkr⟩
 dsimp only[List.zip,List.zipWith]
 have hzr:=hkr.size
 rcases Nat.lt_or_ge i L.length with hlt|hge
 ·obtain⟨s,hsL⟩ : ∃s,L[i]?=some s:=⟨L[i],List.getElem?_eq_getElem hlt⟩
  have hmem:s∈L:=List.mem_of_getElem? hsL
  have h6:=hL s hmem
  have hti:((i:Int)).toNat=i:=Int.toNat_natCast i
  have hsr:=hs1.keep0 hkr
  have hgd:(L.map fun s=>textOf (lnT s)).getD ((i:Int)).toNat default=textOf (lnT s):=by rw[hti,List.getD_eq_getElem?_getD,List.getElem?_map,hsL]; rfl
  have hni:s∉L.take i:=fun m=>by
   obtain⟨j,hj⟩:=List.getElem?_of_mem m
   have hj2:=(List.getElem?_eq_some_iff.1 hj).1
   rw[List.length_take] at hj2
   rw[List.getElem?_take,if_pos (by omega)] at hj
   have:=(List.getElem?_inj (by omega) hnd).1 (hj.trans hsL.symm)
   omega
  have hli:(L.take i).length=i:=by rw[List.length_take]; omega
  repeat' (first|(refine CL.seq ?_)|(refine CL.region ?_)|(refine CL.skip ?_)|(refine CL.condP rfl (fun _=>?_) (fun _=>?_) <;> try (exfalso; omega))|(refine Gt.nil ?_; refine RW.nilw [0,2,3,4,5,6,7,8,9,10,13,15,16,17,18,23,31,37,38,39] ?_; dsimp only[H.keep,H.look,H.Fr.put,Nat.beq])|(refine Gt.lss ?_; refine RW.y (Y.lss rfl rfl) rfl ?_))
  refine CL.block ?_
  repeat' (first|(refine CL.seq ?_)|(refine CL.region ?_)|(refine Gt.move ?_; refine RW.y (Y.move rfl) rfl ?_))
  refine RW.elemM rfl rfl rfl rfl hsr (by omega) (by rw[List.length_map]; omega) ?_
  rw[hgd]
  repeat' (first|(refine CL.seq ?_)|(refine CL.region ?_)|(refine Gt.nil ?_; refine RW.nilw [0,2,3,4,5,6,7,8,9,10,13,15,16,17,18,23,31,37,38,39] ?_; dsimp only[H.keep,H.look,H.Fr.put,Nat.beq])|(refine Gt.assign ?_; refine RW.y (Y.assign rfl) rfl ?_)|(refine Gt.move ?_; refine RW.y (Y.move rfl) rfl ?_))
  refine RW.fn rfl rfl ((silentCall h6).mono ?_)
  rintro e w2 ⟨rfl,hk2⟩
  have hu2:=own_kept0 hu hk2
  repeat' (first|(refine CL.seq ?_)|(refine CL.region ?_)|(refine CL.skip ?_)|(refine CL.condF rfl ?_)|(refine Gt.nil ?_; refine RW.nilw [0,2,3,4,5,6,7,8,9,10,13,15,16,17,18,23,31,37,38,39] ?_; dsimp only[H.keep,H.look,H.Fr.put,Nat.beq])|(refine Gt.move ?_; refine RW.y (Y.move rfl) rfl ?_))
  refine RW.fn rfl rfl ((lineCall (L:=L.take i) (by rw[hli]; exact hu2) (by have:=hk2.size; omega) hq1 (fun m=>(hq m).keep hk2) (fun z hz=>hL z (List.mem_of_mem_take hz)) (by omega) h6 hni).mono ?_)
  rintro e w3 ⟨u',q',rfl,hq1',hu',hq',hk3⟩
  rw[hli] at hu'
  rw[←take_snoc' hsL] at hu' hq'
  repeat' (first|(refine CL.seq ?_)|(refine CL.region ?_)|(refine CL.skip ?_)|(refine CL.condF rfl ?_)|(refine CL.done ?_)|(refine Nm.block ?_)|(refine Nm.then ?_)|(refine Gt.nil ?_; refine RW.nilw [0,2,3,4,5,6,7,8,9,10,13,15,16,17,18,23,31,37,38,39] ?_; dsimp only[H.keep,H.look,H.Fr.put,Nat.beq])|(refine Gt.assign ?_; refine RW.y (Y.assign rfl) rfl ?_)|(refine Gt.move ?_; refine RW.y (Y.move rfl) rfl ?_)|(refine Gt.add ?_; refine RW.y (Y.add64 rfl rfl (by omega) (by omega)) rfl ?_)|(refine Gt.extract ?_; refine RW.y (Y.extract rfl rfl) rfl ?_)|(refine Gt.not ?_; (refine RW.y (Y.notb rfl) rfl ?_)))
  exact⟨L.length - (i+1),_,rfl,rfl,rfl,by omega,i+1,u',q',rfl,rfl,by omega,hq1',hu',hq',(hkr.trans0 hk2).trans hk3 fun k h=> .inr (hu.lt k h).1⟩
 ·have hi:i=L.length:=by omega
  subst hi
  rw[List.take_of_length_le (Nat.le_refl _)] at hu hq
  have hsu:=Sl.of_own hu
  obtain⟨p,cap,rfl,hcap⟩:=hsu.shape
  have hrw:RwsAt wr q L (.slice p L.length cap):=⟨hsu,fun m=>(hq m).pre,hL,hfew⟩
  repeat' (first|(refine CL.seq ?_)|(refine CL.region ?_)|(refine CL.condP rfl (fun _=>?_) (fun _=>?_) <;> try (exfalso; omega))|(refine CL.block ?_)|(refine CL.exit ?_)|(refine Ex.then ?_)|(refine Ex.hit ?_)|(refine Gt.nil ?_; refine RW.nilw [0,2,3,4,5,6,7,8,9,10,13,15,16,17,18,23,31,37,38,39] ?_; dsimp only[H.keep,H.look,H.Fr.put,Nat.beq])|(refine Gt.move ?_; refine RW.y (Y.move rfl) rfl ?_)|(refine Gt.len ?_; (refine RW.y (Y.lenv rfl) rfl ?_))|(refine Gt.lss ?_; refine RW.y (Y.lss rfl rfl) rfl ?_))
  refine CL.loopS [5,37,38] (fun k vals wv=>∃j:Nat,vals=[.slice p L.length cap,.int .i64 (L.length:Int),.int .i64 (j:Int)]∧k=L.length - j∧j≤L.length∧K0 wr wv) L.length ⟨_,rfl,0,rfl,rfl,Nat.zero_le _,Kept.refl _ _⟩ ?_
  rintro k vals wv ⟨j,rfl,rfl,hj,hkv⟩
  dsimp only[List.zip,List.zipWith]
  have hsv:=hsu.keep0 hkv
  rcases Nat.lt_or_ge j L.length with hlt|hge
  ·obtain⟨s,hsL⟩ : ∃s,L[j]?=some s:=⟨L[j],List.getElem?_eq_getElem hlt⟩
   have htj:((j:Int)).toNat=j:=Int.toNat_natCast j
   have hall:=elAll hsv (rowC_len q) (i:=(j:Int)) (by omega) (by omega)
   have hgd:L.getD ((j:Int)).toNat default=s:=by rw[htj,List.getD_eq_getElem?_getD,hsL]; rfl
   rw[hgd] at hall
   obtain⟨g,o,hsp,hspj⟩:=spot_ptr hsv (by omega) (((j:Int)).toNat * 39)
   have hnd':wv.cell? ⟨g,o+38,none⟩=some (.slice none 0 0):=by
    have:=hall wv (Kept.refl _ _) 38 _ (rowC_38 q s)
    rw[hsp,addr_add] at this
    exact this
   repeat' (first|(refine CL.seq ?_)|(refine CL.region ?_)|(refine CL.skip ?_)|(refine CL.condP rfl (fun _=>?_) (fun _=>?_) <;> try (exfalso; omega))|(refine CL.block ?_)|(refine Gt.nil ?_; refine RW.nilw [0,2,3,4,5,6,7,8,9,10,13,15,16,17,18,23,31,37,38,39] ?_; dsimp only[H.keep,H.look,H.Fr.put,Nat.beq])|(refine Gt.assign ?_; refine RW.y (Y.assign rfl) rfl ?_)|(refine Gt.move ?_; refine RW.y (Y.move rfl) rfl ?_)|(refine Gt.lss ?_; refine RW.y (Y.lss rfl rfl) rfl ?_))
   refine RW.y (Y.idx rfl rfl hsv (by omega) (by omega)) rfl ?_
   refine RW.y (Y.fieldAddr (congrArg (fun a=>some (Value.pointer (some a))) hsp) (by rfl)) rfl ?_
   refine RW.y (Y.load1A rfl hnd') rfl ?_
   refine RW.fn rfl rfl (sortCall.mono ?_)
   rintro e w2 ⟨rfl,hk2⟩
   repeat' (first|(refine CL.region ?_)|(refine CL.done ?_)|(refine Nm.block ?_)|(refine Nm.then ?_)|(refine Gt.nil ?_; refine RW.nilw [0,2,3,4,5,6,7,8,9,10,13,15,16,17,18,23,31,37,38,39] ?_; dsimp only[H.keep,H.look,H.Fr.put,Nat.beq])|(refine Gt.move ?_; refine RW.y (Y.move rfl) rfl ?_)|(refine Gt.add ?_; refine RW.y (Y.add64 rfl rfl (by omega) (by omega)) rfl ?_))
   exact⟨L.length - (j+1),_,rfl,rfl,rfl,by omega,j+1,rfl,rfl,by omega,hkv.trans0 hk2⟩
  ·have hj:j=L.length:=by omega
   subst hj
   have hK:=hkr.trans0 hkv
   repeat' (first|(refine CL.seq ?_)|(refine CL.region ?_)|(refine CL.condP rfl (fun _=>?_) (fun _=>?_) <;> try (exfalso; omega))|(refine CL.exit ?_)|(refine Ex.then ?_)|(refine Ex.hit ?_)|(refine CL.ret ?_)|(refine Gt.nil ?_; refine RW.nilw [0,2,3,4,5,6,7,8,9,10,13,15,16,17,18,23,31,37,38,39] ?_; dsimp only[H.keep,H.look,H.Fr.put,Nat.beq])|(refine Gt.assign ?_; refine RW.y (Y.assign rfl) rfl ?_)|(refine Gt.move ?_; refine RW.y (Y.move rfl) rfl ?_)|(refine Gt.lss ?_; refine RW.y (Y.lss rfl rfl) rfl ?_))
   refine FQ.res (rs:=[.tmp 2,.tmp 3,.tmp 4]) (vs:=[_,_,_]) rfl rfl ⟨rfl,rfl,rfl,trivial⟩ rfl ⟨hk1.trans0 hK,_,q,rfl,hq1,?_,fun m=>((hq m).keep hkv).low hz1,fun hne=>?_⟩
   ·exact own_base (own_kept0 hu hkv) fun g hg=>by have:=(hu.lt g hg).1; omega
   ·rcases how1.2 with ⟨_,z⟩|⟨g,cap,cur,_,hB,hg,_⟩
    ·exact absurd (List.eq_nil_of_length_eq_zero (by simpa using z)) hne
    ·exact⟨g,cur,_,hB,hK.at0 hg⟩
end Go.Proofs.YtbhbdeelpopgoaaGreatDoor.E

set_option linter.constructorNameAsVariable false
set_option linter.unusedVariables false
namespace Go.Proofs.YtbhbdeelpopgoaaGreatDoor.E
open Go Go.RowKit H
set_option maxRecDepth 100000
attribute [local irreducible] H.CL H.RW H.CW H.Yd H.thenK H.blockQ Go.Calls
theorem arcB_len{s:Nat}(hs:s < 6):(arcB s).length=sizeOf' s:=of_decide_eq_true (all6 (p:=fun s=>decide ((arcB s).length=sizeOf' s)) (by decide) hs)
theorem arcB_bytes{s:Nat}(hs:s < 6):Bytes (arcB s):=all6 (p:=fun s=>(arcB s).all fun b=>Nat.blt b 256) (by decide) hs
theorem size_few(s:Nat):sizeOf' s≤38:=by unfold sizeOf'; split <;> omega
def ArcOne(b0:Nat)(w:World)(s:Nat)(x:Value):Prop:=∃g c fz,b0≤g∧x = .slice (some ⟨g,0,none⟩) (sizeOf' s) c.size∧w.heap[g]?=some (.cells c 5 fz)∧sizeOf' s≤c.size∧c.size≤maxLen∧c.toList.take (sizeOf' s)=bv (textOf (arcB s))
def ArcsAt(b0:Nat)(w:World)(L:List Nat)(f:Nat→Value):Prop:=∀s∈L,ArcOne b0 w s (f s)
theorem ArcOne.keepG{b0:Nat}{w w':World}{s:Nat}{x:Value}(h:ArcOne b0 w s x)(k : ∀(g:Nat) (c:Array Value) (fz:Nat×Nat),w.heap[g]?=some (.cells c 5 fz)→w'.heap[g]?=w.heap[g]?):ArcOne b0 w' s x:=by
 obtain⟨g,c,fz,h0,e,h1,h2⟩:=h
 exact⟨g,c,fz,h0,e,(k g c fz h1).trans h1,h2⟩
theorem ArcOne.keep{b0:Nat}{w w':World}{s:Nat}{x:Value}(h:ArcOne b0 w s x)(k:K0 w w'):ArcOne b0 w' s x:=h.keepG fun g c fz hg=>(k.at0 hg).trans hg.symm
theorem ArcOne.one{b0:Nat}{w:World}{s:Nat}{x:Value}(h:ArcOne b0 w s x):x.oneCell'=true∧x.cells=#[x]:=by
 obtain⟨g,c,fz,h0,rfl,_⟩:=h
 exact⟨rfl,rfl⟩
theorem ArcOne.sl{b0:Nat}{w:World}{s:Nat}{x:Value}(hs:s < 6)(h:ArcOne b0 w s x):Sl w 1 x (sizeOf' s) (bv (textOf (arcB s))):=by
 obtain⟨g,c,fz,h0,rfl,h1,h2,h3,h4⟩:=h
 exact⟨by rw[List.length_map,textOf,List.length_map,arcB_len hs,Nat.mul_one],Nat.le_trans h2 h3,.inr ⟨g,0,c.size,c,5,fz,rfl,h1,h2,h3,by omega,by rw[List.drop_zero,Nat.mul_one]; exact h4⟩⟩
theorem keepO{w w':World}{b1:Nat}{v:Value}{n sz:Nat}{t:TypeId}{xs:List Value}(ho:w.ownsRow b1 t sz v n xs)(k:Kept (fun k=>v.ownBlock=some k) w w'){g:Nat}{c:Array Value}{t2:TypeId}{fz:Nat×Nat}(hg:w.heap[g]?=some (.cells c t2 fz))(ht:t≠t2):w'.heap[g]?=w.heap[g]?:=by
 refine k.block g (lt_of_at hg) fun z=>?_
 have z:v.ownBlock=some g:=z
 rcases ho.2 with ⟨rfl,_⟩|⟨g2,cap,cur,rfl,hB,hg2,_⟩
 ·cases z
 ·cases z
  rw[hg2] at hg
  cases hg
  exact ht rfl
theorem keepB{w w':World}{g2:Nat}{c2:Array Value}{t:TypeId}{fz2:Nat×Nat}(h2:w.heap[g2]?=some (.cells c2 t fz2))(k:Kept (fun k=>k=g2) w w'){g:Nat}{c:Array Value}{t2:TypeId}{fz:Nat×Nat}(hg:w.heap[g]?=some (.cells c t2 fz))(ht:t≠t2):w'.heap[g]?=w.heap[g]?:=by
 refine k.block g (lt_of_at hg) fun z=>?_
 have z:g=g2:=z
 subst z
 rw[h2] at hg
 cases hg
 exact ht rfl
theorem own_keepG{w w':World}{b:Nat}{e:TypeId}{sz:Nat}{v:Value}{n:Nat}{xs:List Value}(h:w.ownsRow b e sz v n xs)(k : ∀(g:Nat) (c:Array Value) (fz:Nat×Nat),w.heap[g]?=some (.cells c e fz)→w'.heap[g]?=w.heap[g]?):w'.ownsRow b e sz v n xs:=by
 refine⟨h.1,?_⟩
 rcases h.2 with h|⟨g,cap,cur,rfl,hb,hg,r⟩
 ·exact .inl h
 ·exact .inr ⟨g,cap,cur,rfl,hb,(k g _ _ hg).trans hg,r⟩
theorem cloneB(v:Value)(n:Nat)(xs:List Value)(w:World)(hs:Sl w 1 v n xs)(h1 : ∀u∈xs,u.oneCell'=true)(hn:n≤1000000)(hn0:0 < n):Calls Tryz.prog 95 #[v] w fun e w'=>K0 w w'∧∃u,e = .returned u∧w'.ownsRow w.heap.size 5 1 u n xs:=by
 refine H.enter Tryz.func95 Tryz.ntmps95 rfl rfl ?_; dsimp only[H.args]
 repeat' (first|(refine CL.seq ?_)|(refine CL.region ?_)|(refine Gt.nil ?_; refine RW.nilw [0,2,4] ?_; dsimp only[H.keep,H.look,H.Fr.put,Nat.beq])|(refine Gt.assign ?_; refine RW.y (Y.assign rfl) rfl ?_)|(refine Gt.move ?_; refine RW.y (Y.move rfl) rfl ?_))
 obtain⟨p,cap,rfl,hcap⟩:=hs.shape
 refine RW.y (Y.eqsn rfl rfl) rfl ?_
 cases p with
 | none=>
  have hn:n=0:=by
   rcases hs.2.2 with ⟨p,h,_⟩|⟨g,off,cap,cur,e',fz,h,_⟩
   ·cases h; rfl
   ·cases h
  omega
 | some a=>
  repeat' (first|(refine CL.seq ?_)|(refine CL.region ?_)|(refine CL.skip ?_)|(refine CL.condF rfl ?_)|(refine Gt.nil ?_; refine RW.nilw [0,2,4] ?_; dsimp only[H.keep,H.look,H.Fr.put,Nat.beq]))
  refine RW.build0 rfl (fun w1 hb1 hk1 hlt1=>?_)
  have hown:=fun sz=>own_new (n:=0) (sz:=sz) hb1 (Nat.le_refl _) (by simp) (by decide)
  repeat' ((refine Gt.move ?_; refine RW.y (Y.move rfl) rfl ?_))
  refine H.RW.app (sz:=1) rfl rfl rfl rfl rfl (hown 1) (hs.keep0 hk1) h1 (by omega) (by omega) (by omega) (fun u' w2 how hk2 hl2=>?_)
  repeat' (first|(refine CL.ret ?_)|(refine Gt.nil ?_; refine RW.nilw [0,2,4] ?_; dsimp only[H.keep,H.look,H.Fr.put,Nat.beq])|(refine Gt.assign ?_; refine RW.y (Y.assign rfl) rfl ?_))
  have how':=how
  rw[Nat.zero_add] at how'
  exact FQ.one rfl rfl rfl ⟨hk1.trans hk2 fun k h=> .inr (by simp[Value.ownBlock] at h; omega),_,rfl,how'⟩
theorem own_arc{w:World}{b0:Nat}{s:Nat}{u:Value}(hs:s < 6)(h:w.ownsRow b0 5 1 u (sizeOf' s) (bv (textOf (arcB s)))):ArcOne b0 w s u:=by
 have hp:0 < sizeOf' s:=by unfold sizeOf'; split <;> omega
 rcases h.2 with ⟨_,z⟩|⟨g,cap,cur,rfl,hB,hg,hnc,hm,hsz,ht⟩
 ·omega
 ·rw[Nat.mul_one] at hsz ht
  exact⟨g,cur,_,hB,by rw[hsz],hg,by omega,by omega,ht⟩
theorem netNew{w:World}{u a q:Value}{L:List Nat}{f:Nat→Value}(hu:RwsAt w q L u)(hq1:q.oneCell'=true)(ha:Sl w 1 a L.length (L.map f))(hA:ArcsAt 0 w L f)(hnd:L.Nodup):Calls Tryz.prog 67 #[u,a] w fun e w'=>K0 w w'∧∃gn u' a' f',e = .returned (.pointer (some ⟨gn,0,none⟩))∧w.heap.size≤gn∧w'.heap[gn]?=some (.cells #[u',a',.slice none 0 0,.int .i64 0] 191 (0,0))∧w'.ownsRow w.heap.size 46 39 u' L.length (L.flatMap (rowC q))∧w'.ownsRow w.heap.size 22 1 a' L.length (L.map f')∧ArcsAt w.heap.size w' L f':=by
 have hfew:=hu.few
 refine H.enter Tryz.func67 Tryz.ntmps67 rfl rfl ?_; dsimp only[H.args]
 repeat' (first|(refine CL.seq ?_)|(refine CL.region ?_)|(refine Gt.nil ?_; refine RW.nilw [0,1,4,5,7,12,13,14,15] ?_; dsimp only[H.keep,H.look,H.Fr.put,Nat.beq])|(refine Gt.move ?_; refine RW.y (Y.move rfl) rfl ?_)|(refine Gt.assign ?_; refine RW.y (Y.assign rfl) rfl ?_))
 refine RW.fn rfl rfl ((rowsOf hu hq1).mono ?_)
 rintro e w1 ⟨hk1,u',rfl,hu'⟩
 have hs1:=Sl.of_own hu'
 obtain⟨pu,cu,rfl,_⟩:=hs1.shape
 refine RW.y (Y.build (ps:=[(0,_)]) (l:=[_]) (c:=#[.slice pu L.length cu,.slice none 0 0,.slice none 0 0,.int .i64 0]) rfl rfl) rfl ?_
 refine RW.box rfl rfl (fun w2 hb2 hk2 hlt2=>?_)
 have hb2':w2.heap[w1.heap.size]?=some (.cells #[.slice pu L.length cu,.slice none 0 0,.slice none 0 0,.int .i64 0] 191 (0,0)):=hb2
 have hz1:=hk1.size
 have hz2:=hk2.size
 have hs2:=ha.keep0 (hk1.trans0 hk2)
 have hal:=hs2.len
 obtain⟨pa,ca,rfl,_⟩:=hs2.shape
 repeat' (first|(refine CL.seq ?_)|(refine CL.region ?_)|(refine CL.block ?_)|(refine Gt.nil ?_; refine RW.nilw [0,1,4,5,7,12,13,14,15] ?_; dsimp only[H.keep,H.look,H.Fr.put,Nat.beq])|(refine Gt.move ?_; refine RW.y (Y.move rfl) rfl ?_)|(refine Gt.assign ?_; refine RW.y (Y.assign rfl) rfl ?_)|(refine Gt.len ?_; (refine RW.y (Y.lenv rfl) rfl ?_)))
 refine CL.loopS [5,12,13,14] (fun k vals wr=>∃(i:Nat) (v:Value) (f':Nat→Value),vals=[.pointer (some ⟨w1.heap.size,0,none⟩),.slice pa L.length ca,.int .i64 (L.length:Int),.int .i64 (i:Int)]∧k=L.length - i∧i≤L.length∧wr.heap[w1.heap.size]?=some (.cells #[.slice pu L.length cu,v,.slice none 0 0,.int .i64 0] 191 (0,0))∧wr.ownsRow w2.heap.size 22 1 v i ((L.take i).map f')∧ArcsAt w2.heap.size wr (L.take i) f'∧Kept (fun k=>k=w1.heap.size) w2 wr) L.length ⟨_,rfl,0,_,f,rfl,rfl,Nat.zero_le _,hb2',World.ownsRow_nil _ _ _ _,(fun s hs=>by simp at hs),Kept.refl _ _⟩ ?_
 rintro k vals wr ⟨i,v,f',rfl,rfl,hi,hbr,hv,hA',hKr⟩
 dsimp only[List.zip,List.zipWith]
 have hti:((i:Int)).toNat=i:=Int.toNat_natCast i
 have hzr:=hKr.size
 have hnet : ∀(g:Nat) (c:Array Value) (fz:Nat×Nat) (t2:TypeId),w2.heap[g]?=some (.cells c t2 fz)→191≠t2→wr.heap[g]?=w2.heap[g]?:=fun g c fz t2 hg ht=>keepB hb2' hKr hg ht
 have hsr:Sl wr 1 (.slice pa L.length ca) L.length (L.map f):=by
  refine hs2.keep hKr fun g hg c=>?_
  have:=ha.lt hg
  have c:g=w1.heap.size:=c
  omega
 rcases Nat.lt_or_ge i L.length with hlt|hge
 ·obtain⟨s,hsL⟩ : ∃s,L[i]?=some s:=⟨L[i],List.getElem?_eq_getElem hlt⟩
  have hmem:s∈L:=List.mem_of_getElem? hsL
  have h6:=hu.lt s hmem
  have hgd:L.getD ((i:Int)).toNat default=s:=by rw[hti,List.getD_eq_getElem?_getD,hsL]; rfl
  have hx:ArcOne 0 wr s (f s):=(((hA s hmem).keep hk1).keep hk2).keepG fun g c fz hg=>hnet g c fz _ hg (by decide)
  have hni:s∉L.take i:=fun m=>by
   obtain⟨j,hj⟩:=List.getElem?_of_mem m
   have hj2:=(List.getElem?_eq_some_iff.1 hj).1
   rw[List.length_take] at hj2
   rw[List.getElem?_take,if_pos (by omega)] at hj
   have:=(List.getElem?_inj (by omega) hnd).1 (hj.trans hsL.symm)
   omega
  have hsz:=size_few s
  have hsp:0 < sizeOf' s:=by unfold sizeOf'; split <;> omega
  repeat' (first|(refine CL.seq ?_)|(refine CL.region ?_)|(refine CL.skip ?_)|(refine CL.condP rfl (fun _=>?_) (fun _=>?_) <;> try (exfalso; omega))|(refine CL.block ?_)|(refine Gt.nil ?_; refine RW.nilw [0,1,4,5,7,12,13,14,15] ?_; dsimp only[H.keep,H.look,H.Fr.put,Nat.beq])|(refine Gt.assign ?_; refine RW.y (Y.assign rfl) rfl ?_)|(refine Gt.lss ?_; refine RW.y (Y.lss rfl rfl) rfl ?_)|(refine Gt.idx ?_; refine RW.elemM rfl rfl rfl rfl (by assumption) (by omega) (by omega) ?_))
  rw[hgd]
  have hvn : ∀g,v.ownBlock=some g→g≠w1.heap.size:=fun g hg=>by have:=(hv.lt g hg).1; omega
  have hne : ¬(v.ownBlock=some w1.heap.size):=fun c=>hvn _ c rfl
  refine CL.drawz (fun w'=>Kept (fun k=>v.ownBlock=some k) wr w') (fun j=>Nat.beq j 11) (by kernel_rfl) (fun w3 hheap hk3=>?_)
  have hS:Kept (fun k=>v.ownBlock=some k) wr w3:=hk3.of0
  have hz3:=hk3.size
  skip
  refine AL.take 0 [9,10,11] rfl (by kernel_rfl) (by kernel_rfl) (by kernel_rfl) (by kernel_rfl) rfl (by assumption) (fun w hS=>Y.move rfl) ?_
  refine AL.take 1 [2,3,4,8,9,10,11] rfl (by kernel_rfl) (by kernel_rfl) (by kernel_rfl) (by kernel_rfl) rfl (by assumption) (fun w hS=>Y.move rfl) ?_
  refine AL.take 2 [3,4,8,9,10,11] rfl (by kernel_rfl) (by kernel_rfl) (by kernel_rfl) (by kernel_rfl) rfl (by assumption) (fun w hS=>Y.nilck rfl) ?_
  refine AL.take 3 [4,8,9,10,11] rfl (by kernel_rfl) (by kernel_rfl) (by kernel_rfl) (by kernel_rfl) rfl (by assumption) (fun w hS=>Y.fieldAddr rfl (by rfl)) ?_
  refine AL.take 4 [8,9,10,11] rfl (by kernel_rfl) (by kernel_rfl) (by kernel_rfl) (by kernel_rfl) rfl (by assumption) (fun w hS=>Y.loadB rfl (hS.at hbr hne) rfl) ?_
  refine AL.take 5 [6,7,8,9,10,11] rfl (by kernel_rfl) (by kernel_rfl) (by kernel_rfl) (by kernel_rfl) rfl (by assumption) (fun w hS=>Y.move rfl) ?_
  refine AL.next 6 rfl (by kernel_rfl) ?_
  refine RW.fn rfl rfl ((cloneB (f s) _ _ w3 ((hx.keep hk3).sl h6) (bv_one _) (by omega) hsp).mono ?_)
  rintro e w4 ⟨hk4,u3,rfl,how3⟩
  have hk34:=hk3.trans0 hk4
  have hz4:=hk4.size
  have hS:Kept (fun k=>v.ownBlock=some k) wr w4:=hk34.of0
  have har4:ArcOne w2.heap.size w4 s u3:=own_arc h6 (own_base how3 fun g hg=>by have:=(how3.lt g hg).1; omega)
  refine RW.nil (Nm.then ⟨hS,?_⟩)
  skip
  refine AL.next 7 rfl (by kernel_rfl) ?_
  refine RW.build1 rfl (by rw[har4.one.2]; rfl) rfl rfl (fun w5 hb5 hk5 hlt5=>?_)
  rw[har4.one.2] at hb5
  have hk35:=hk34.trans0 hk5
  have hS:Kept (fun k=>v.ownBlock=some k) wr w5:=hk35.of0
  have hs5:=Sl.of_own (own_new (base:=0) (n:=1) (sz:=1) hb5 (Nat.zero_le _) rfl (by decide))
  refine RW.nil (Nm.then ⟨hS,?_⟩)
  skip
  refine AL.next 8 rfl (by kernel_rfl) ?_
  have hv5:=own_kept0 hv hk35
  refine H.RW.app (sz:=1) rfl rfl rfl rfl rfl hv5 hs5 (fun z hz=>by simp at hz; rw[hz]; exact har4.one.1) (by omega) (by omega) (by omega) (fun v6 w6 how6 hk6 hl6=>?_)
  have hS:Kept (fun k=>v.ownBlock=some k) wr w6:=hk35.of0.trans hk6 fun k h=> .inl h
  have har6:ArcOne w2.heap.size w6 s u3:=(har4.keep hk5).keepG fun g c fz hg=>keepO hv5 hk6 hg (by decide)
  have hA6:ArcsAt w2.heap.size w6 (L.take i) f':=fun t ht=>((hA' t ht).keep hk35).keepG fun g c fz hg=>keepO hv5 hk6 hg (by decide)
  refine RW.nil (Nm.then ⟨hS,?_⟩)
  refine AL.take 9 [10,11] rfl (by kernel_rfl) (by kernel_rfl) (by kernel_rfl) (by kernel_rfl) rfl (by assumption) (fun w hS=>Y.nilck rfl) ?_
  refine AL.take 10 [11] rfl (by kernel_rfl) (by kernel_rfl) (by kernel_rfl) (by kernel_rfl) rfl (by assumption) (fun w hS=>Y.fieldAddr rfl (by rfl)) ?_
  refine AL.last 11 rfl (by kernel_rfl) rfl ?_
  have hbr6:=hS.at hbr hne
  refine RW.storeB rfl rfl (Sl.of_own how6).one hbr6 (by simp) (fun w7 hb7 hk7=>?_)
  have hkB : ∀(g:Nat) (c:Array Value) (fz:Nat×Nat) (t2:TypeId),w6.heap[g]?=some (.cells c t2 fz)→191≠t2→w7.heap[g]?=w6.heap[g]?:=fun g c fz t2 hg ht=>keepB hbr6 hk7 hg ht
  have hv7:=own_keepG how6 fun g c fz hg=>hkB g c fz _ hg (by decide)
  refine RW.nil (Nm.then ⟨trivial,?_⟩)
  skip
  refine AL.donew [5,12,13,14] (by kernel_rfl) ?_
  dsimp only[H.keep,H.look,H.Fr.put,Nat.beq]
  repeat' (first|(refine CL.region ?_)|(refine CL.done ?_)|(refine Nm.block ?_)|(refine Nm.then ?_)|(refine Gt.nil ?_; refine RW.nilw [0,1,4,5,7,12,13,14,15] ?_; dsimp only[H.keep,H.look,H.Fr.put,Nat.beq])|(refine Gt.move ?_; refine RW.y (Y.move rfl) rfl ?_)|(refine Gt.add ?_; refine RW.y (Y.add64 rfl rfl (by omega) (by omega)) rfl ?_))
  have hm1:(L.take i).map (fun t=>if t=s then u3 else f' t)=(L.take i).map f':=List.map_congr_left fun t ht=>(by show(if t=s then u3 else f' t)=f' t; rw[if_neg]; intro e; exact hni (e▸ht))
  refine⟨L.length - (i+1),_,rfl,rfl,rfl,by omega,i+1,v6,fun t=>if t=s then u3 else f' t,rfl,rfl,by omega,hb7,?_,fun t ht=>?_,(hKr.trans hS fun k h=> .inr (hv.lt k h).1).trans hk7 fun k h=> .inl h⟩
  ·rw[take_snoc' hsL,List.map_append,hm1,List.map_singleton,if_pos rfl]
   exact hv7
  ·rw[take_snoc' hsL] at ht
   show ArcOne _ _ t (if t=s then u3 else f' t)
   by_cases e:t=s
   ·subst e
    rw[if_pos rfl]
    exact har6.keepG fun g c fz hg=>hkB g c fz _ hg (by decide)
   ·rw[if_neg e]
    have ht:t∈L.take i:=(List.mem_append.1 ht).resolve_right fun z=>e (List.mem_singleton.1 z)
    exact(hA6 t ht).keepG fun g c fz hg=>hkB g c fz _ hg (by decide)
 ·have hi:i=L.length:=by omega
  subst hi
  rw[List.take_of_length_le (Nat.le_refl _)] at hv hA'
  repeat' (first|(refine CL.seq ?_)|(refine CL.region ?_)|(refine CL.condP rfl (fun _=>?_) (fun _=>?_) <;> try (exfalso; omega))|(refine CL.exit ?_)|(refine Ex.then ?_)|(refine Ex.hit ?_)|(refine CL.ret ?_)|(refine Gt.nil ?_; refine RW.nilw [0,1,4,5,7,12,13,14,15] ?_; dsimp only[H.keep,H.look,H.Fr.put,Nat.beq])|(refine Gt.move ?_; refine RW.y (Y.move rfl) rfl ?_)|(refine Gt.assign ?_; refine RW.y (Y.assign rfl) rfl ?_)|(refine Gt.lss ?_; refine RW.y (Y.lss rfl rfl) rfl ?_))
  refine FQ.one rfl rfl rfl ⟨((hk1.trans0 hk2)).trans hKr fun k h=> .inr (by omega),w1.heap.size,_,v,f',rfl,hz1,hbr,?_,own_base hv (fun g hg=>by have:=(hv.lt g hg).1; omega),fun s hs=>?_⟩
  ·exact own_keepG (own_kept0 hu' hk2) fun g c fz hg=>hnet g c fz _ hg (by decide)
  ·obtain⟨g,c,fz,h0,h⟩:=hA' s hs
   exact⟨g,c,fz,by omega,h⟩
end Go.Proofs.YtbhbdeelpopgoaaGreatDoor.E

set_option linter.constructorNameAsVariable false
set_option linter.unusedVariables false
namespace Go.Proofs.YtbhbdeelpopgoaaGreatDoor.E
open Go Go.RowKit H
section
variable {S : Nat → Prop} {w0 w : World} {fl : Nat} {r : Ren} {h : Hp}
theorem rows_adopt(hR:Rel S w0 fl r h w)(hl:h.next < LIM){b0 c:Nat}{u q:Value}{tab:List (Nat×List AV)}(how:w.ownsRow b0 46 39 u r.sg.dd.length (r.sg.dd.flatMap (rowC q)))(hcd:r.sg.cd c)(hq:4∈r.sg.dd→real r (preOf tab)=some q)(hf : ∀g,u.ownBlock=some g→(∀i p,r i=some p→p.1≠g)∧(S g∨w0.heap.size≤g)):
  ∃p,u.ownBlock=some p.1∧Rel S w0 fl (upd r h.next p) (h.new (.rows 39 tab)) w∧real (upd r h.next p) (.opq 1 h.next c 0 39)=some u:=by
 have hpos:0 < r.sg.dd.length:=List.length_pos_iff.2 hcd.1
 rcases how.2 with ⟨_,z⟩|⟨g,cap,cur,rfl,hB,hg,hnc,hm,hs,ht⟩
 ·omega
 have hdiv:cur.size / 39=cap:=by rw[hs]; exact Nat.mul_div_cancel _ (by decide)
 obtain⟨hf1,hf2⟩:=hf g rfl
 have hx':=upd_ext hR (g,cur.size)
 refine⟨(g,cur.size),rfl,hR.adopt (b:= .rows 39 tab) (p:=(g,cur.size)) hl hf1 hf2 ⟨cur,_,_,hg,rfl,fun y hy m hmm=>?_⟩,?_⟩
 ·have hat:=standsAt_at hmm
  have hlt:m < r.sg.dd.length:=(List.getElem?_eq_some_iff.1 hat).1
  have hreal:reals (upd r h.next (g,cur.size)) y.2=some (rowC q y.1):=by
   refine reals_mono hx' _ _ ?_
   replace hy:y∈tabA (preOf tab):=hy
   simp only[tabA,List.mem_cons,List.not_mem_nil,or_false] at hy
   rcases hy with rfl|rfl|rfl|rfl|rfl|rfl
   ·exact rowL_real fun z=>absurd z (by decide)
   ·exact rowL_real fun z=>absurd z (by decide)
   ·exact rowL_real fun z=>absurd z (by decide)
   ·exact rowL_real fun z=>absurd z (by decide)
   ·exact rowL_real fun _=>hq (List.mem_of_getElem? hat)
   ·exact rowL_real fun z=>absurd z (by decide)
  refine⟨_,hreal,rowC_len q _,?_⟩
  have e:=flat_part (q:=q) (L:=r.sg.dd) hat
  rw[←ht,List.drop_take,List.take_take,Nat.min_eq_left (by omega)] at e
  exact e.symm
 ·simp only[real]
  unfold opqR
  simp only[upd_same,Option.bind_some]
  rw[if_pos ⟨by decide,by rw[hs]; exact Nat.mul_le_mul_right _ hnc,by rw[hdiv]; exact hm,hcd⟩,hdiv]
  rfl
noncomputable def preB(c:Nat):Blk:=Bool.rec (motive:=fun _=>Blk) (.fix 1) (.cells 9 true true [.str [120],.str [49]]) (Nat.testBit c 4)
theorem pre_adopt(hR:Rel S w0 fl r h w)(hl:h.next < LIM){b0 c:Nat}{q:Value}(hcd:r.sg.cd c)(hq:4∈r.sg.dd→PreB b0 w q){g:Nat}{cg:Array Value}{tg:TypeId}{fg:Nat×Nat}(hg0:b0≤g)(hg:w.heap[g]?=some (.cells cg tg fg))(hf : ∀g,b0≤g→(∀i p,r i=some p→p.1≠g)∧(S g∨w0.heap.size≤g)):
  ∃p,b0≤p.1∧(∃cp tp fp,w.heap[p.1]?=some (.cells cp tp fp)∧(tp=9∨tp=tg))∧Rel S w0 fl (upd r h.next p) (h.new (preB c)) w∧(4∈r.sg.dd→real (upd r h.next p) (.slx h.next 0 2 1)=some q):=by
 have hx : ∀r,reals r [.str [120],.str [49]]=some [.string (B (textOf [120])),.string (B (textOf [49]))]:=fun r=>reals_cons.2 ⟨_,_,str_real (by decide),reals_cons.2 ⟨_,_,str_real (by decide),reals_nil,rfl⟩,rfl⟩
 by_cases h4:4∈r.sg.dd
 ·obtain⟨g1,c1,fz1,hb1,rfl,k1,k2,k3,k4⟩:=hq h4
  obtain⟨hf1,hf2⟩:=hf g1 hb1
  refine⟨(g1,c1.size),hb1,⟨c1,_,fz1,k1,.inl rfl⟩,hR.adopt hl hf1 hf2 ?_,fun _=>slx2 (upd_same ..) k2 k3⟩
  unfold preB
  cases Nat.testBit c 4 with
  | false=>exact⟨lt_of_at k1,fun _=>⟨c1,_,fz1,k1,rfl,fun _=>⟨rfl,k2,k3,k4⟩,fun s _ z=>by omega⟩⟩
  | true=>exact⟨c1,fz1,_,k1,rfl,hx _,k4.symm,k2,(fun z=>by cases z),fun z=>by cases z⟩
 ·obtain⟨hf1,hf2⟩:=hf g hg0
  refine⟨(g,cg.size),hg0,⟨cg,_,fg,hg,.inr rfl⟩,hR.adopt hl hf1 hf2 ?_,fun z=>absurd z h4⟩
  unfold preB
  cases e:Nat.testBit c 4 with
  | false=>exact⟨lt_of_at hg,fun k=>absurd (k.1 rfl) h4⟩
  | true=>exact absurd ((hcd.2 4 (by decide)).1 e) h4
end
noncomputable def opqT(v:AV)(k:Nat→Bool):Bool:=match v with
 | .opq t _ c _ _=>ask (Nat.beq t 3) (k c)
 | _=>false
theorem opqT_ok{v:AV}{k:Nat→Bool}(h:opqT v k=true): ∃i c o z,v = .opq 3 i c o z∧k c=true:=by
 unfold opqT at h
 split at h
 ·replace h:=ask_ok h; obtain⟨h1,h⟩:=h
  have h1:=Nat.eq_of_beq_eq_true h1; subst h1
  exact⟨_,_,_,_,rfl,h⟩
 ·cases h
theorem real_opq3{r:Ren}{i c o z:Nat}{u:Value}(h:real r (.opq 3 i c o z)=some u):r.sg.cd c∧u = .string (B (rowsT r.sg.dd)):=by
 have h:(if (r.sg.tx.all (fun b=>Nat.blt b 256))=true∧r.sg.cd c then some (Value.string (B (textOf r.sg.tx))) else none)=some u:=h
 split at h
 ·rename_i k; cases h; exact⟨k.2,rfl⟩
 ·cases h
noncomputable def parseP(vs:List AV)(h:Hp)(k:KV):Bool:=one1 vs fun v=>opqT v fun c=>newH h (preB c) fun j h=>newH h (.rows 39 [(4,[.slx j 0 2 1])]) fun i h=>k (.tup [.opq 1 i c 0 39,.int .i64 (.ofNat 0),.int .i64 (.ofNat 0)]) h
theorem pr_parse{fl:Nat}:Pr1 Tryz.prog fl 49 fun _ vs h kr _=>parseP vs h kr:=by
 refine Pr1.mem fun vs h k hk=>?_
 replace hk:=one1_ok hk; obtain⟨v,rfl,hk⟩:=hk
 replace hk:=opqT_ok hk; obtain⟨i,c,o,z,rfl,hk⟩:=hk
 replace hk:=newH_ok hk; obtain⟨hl,hk⟩:=hk
 replace hk:=newH_ok hk; obtain⟨hl2,hk⟩:=hk
 refine⟨_,_,hk,fun S w0 r w xs hR hxs=>?_⟩
 obtain⟨x,hx,rfl⟩:=reals1 hxs
 obtain⟨hcd,rfl⟩:=real_opq3 hx
 refine(parse (dd_lt r.sg) (dd_nodup r.sg)).mono ?_
 rintro e w' ⟨hk',u,q,rfl,hq1,how,hq,hgar⟩
 obtain⟨g,cg,fg,hg0,hg⟩:=hgar hcd.1
 have hR1:=hR.same hk'
 have hfr : ∀g,w.heap.size≤g→(∀i p,r i=some p→p.1≠g)∧(S g∨w0.heap.size≤g):=fun g hg=>⟨fun i p hp e=>by have:=hR.dom i p hp; omega,.inr (Nat.le_trans hR.kept.size hg)⟩
 obtain⟨p,hp0,⟨cp,tp,fp,hpb,htp⟩,hR2,hpre⟩:=pre_adopt hR1 hl hcd hq hg0 hg hfr
 have hx2:=upd_ext hR1 p
 have hpn : ∀g,u.ownBlock=some g→∀i p',upd r h.next p i=some p'→p'.1≠g:=by
  intro g hg i p' hp' e
  rw[upd_eq] at hp'
  split at hp'
  ·cases hp'
   rcases how.2 with ⟨rfl,_⟩|⟨g2,cap,cur,rfl,hB,hg2,_⟩
   ·cases hg
   ·cases hg
    rw[e,hg2] at hpb
    cases hpb
    rcases htp with z|z <;> exact absurd z (by decide)
  ·exact(hfr g (how.lt g hg).1).1 i p' hp' e
 obtain⟨p3,hp3,hR3,hu3⟩:=rows_adopt (tab:=[(4,[.slx h.next 0 2 1])]) hR2 hl2 how hcd hpre fun g hg=>⟨hpn g hg,(hfr g (how.lt g hg).1).2⟩
 have hx3:=upd_ext hR2 p3
 refine⟨_,_,rfl,Ext.trans hx2 hx3,hR3,?_⟩
 simp only[real,reals]
 rw[show opqR (upd (upd r h.next p) (h.new (preB c)).next p3) 1 (h.new (preB c)).next c 0 39=some u from by simpa only[real] using hu3]
 rfl
noncomputable def arcTab:List (Nat×List AV):=[(0,[.slx 100 0 34 1]),(1,[.slx 101 0 34 1]),(2,[.slx 102 0 34 1]),(3,[.slx 103 0 34 1]),(4,[.slx 104 0 38 1]),(5,[.slx 105 0 34 1])]
noncomputable def tabEq(a:List (Nat×List AV)):List (Nat×List AV)→Bool:=List.rec (motive:=fun _=>List (Nat×List AV)→Bool) (fun b=>List.rec (motive:=fun _=>Bool) true (fun _ _ _=>false) b)
 (fun x _ ih b=>List.rec (motive:=fun _=>Bool) false (fun y t _=>ifeV (Nat.beq x.1 y.1) (ifeV (avEq (.agg x.2) (.agg y.2)) (ih t) false) false) b) a
theorem tabEq_ok: ∀{a b:List (Nat×List AV)},tabEq a b=true→a=b
 | [],[],_=>rfl
 | [],_::_,h=>by cases h
 | _::_,[],h=>by cases h
 | x::a,y::b,h=>by
  replace h:=and_ok h; obtain⟨h1,h⟩:=h
  replace h:=and_ok h; obtain⟨h2,h⟩:=h
  have e:=avEq_ok _ _ h2
  injection e with e
  rw[tabEq_ok h,show x=y from Prod.ext (Nat.eq_of_beq_eq_true h1) e]
noncomputable def isFix(h:Hp)(i q:Nat)(k:Bool):Bool:=fixK h i (fun _ _=>false) fun q'=>ask (Nat.beq q' q) k
theorem isFix_ok{h:Hp}{i q:Nat}{k:Bool}(hk:isFix h i q k=true):h.at i=some (.fix q)∧k=true:=by
 rcases fixK_ok hk with ⟨_,_,_,_,_,z⟩|⟨q',hb,hk⟩
 ·cases z
 ·replace hk:=ask_ok hk; obtain⟨e,hk⟩:=hk
  rw[Nat.eq_of_beq_eq_true e] at hb
  exact⟨hb,hk⟩
noncomputable def arcsK(v:AV)(h:Hp)(k:Bool):Bool:=match v with
 | .opq t i _ _ z=>ask (Nat.beq t 1) (ask (Nat.beq z 1) (orowK h i fun z' tab=>ask (Nat.beq z' 1) (ask (tabEq tab arcTab) (isFix h 100 10 (isFix h 101 11 (isFix h 102 12 (isFix h 103 13 (isFix h 104 14 (isFix h 105 15 k)))))))))
 | _=>false
theorem arcsK_ok{v:AV}{h:Hp}{k:Bool}(hk:arcsK v h k=true): ∃i c o,v = .opq 1 i c o 1∧h.at i=some (.rows 1 arcTab)∧(∀s,s < 6→h.at (100+s)=some (.fix (10+s)))∧k=true:=by
 unfold arcsK at hk
 split at hk
 ·replace hk:=ask_ok hk; obtain⟨h1,hk⟩:=hk
  have h1:=Nat.eq_of_beq_eq_true h1; subst h1
  replace hk:=ask_ok hk; obtain⟨h1,hk⟩:=hk
  have h1:=Nat.eq_of_beq_eq_true h1; subst h1
  replace hk:=orowK_ok hk; obtain⟨z',tab,hb,hk⟩:=hk
  replace hk:=ask_ok hk; obtain⟨h1,hk⟩:=hk
  have h1:=Nat.eq_of_beq_eq_true h1; subst h1
  replace hk:=ask_ok hk; obtain⟨h1,hk⟩:=hk
  have h1:=tabEq_ok h1; subst h1
  replace hk:=isFix_ok hk; obtain⟨g0,hk⟩:=hk
  replace hk:=isFix_ok hk; obtain⟨g1,hk⟩:=hk
  replace hk:=isFix_ok hk; obtain⟨g2,hk⟩:=hk
  replace hk:=isFix_ok hk; obtain⟨g3,hk⟩:=hk
  replace hk:=isFix_ok hk; obtain⟨g4,hk⟩:=hk
  replace hk:=isFix_ok hk; obtain⟨g5,hk⟩:=hk
  refine⟨_,_,_,rfl,hb,fun s hs=>?_,hk⟩
  match s,hs with
  | 0,_=>exact g0
  | 1,_=>exact g1
  | 2,_=>exact g2
  | 3,_=>exact g3
  | 4,_=>exact g4
  | 5,_=>exact g5
  | s+6,hs=>omega
 ·cases hk
theorem arcTab_mem{s:Nat}(hs:s < 6):(s,[AV.slx (100+s) 0 (sizeOf' s) 1])∈arcTab:=match s,hs with
 | 0,_=> .head _
 | 1,_=> .tail _ (.head _)
 | 2,_=> .tail _ (.tail _ (.head _))
 | 3,_=> .tail _ (.tail _ (.tail _ (.head _)))
 | 4,_=> .tail _ (.tail _ (.tail _ (.tail _ (.head _))))
 | 5,_=> .tail _ (.tail _ (.tail _ (.tail _ (.tail _ (.head _)))))
def plN'(L:List Nat)(s:Nat):Nat:=(standsAt L s).getD 0
theorem arcs_at{S:Nat→Prop}{w0 w:World}{fl:Nat}{r:Ren}{h:Hp}(hR:Rel S w0 fl r h w){i c o:Nat}{u:Value}(hu:real r (.opq 1 i c o 1)=some u)(hb:h.at i=some (.rows 1 arcTab))(hf : ∀s,s < 6→h.at (100+s)=some (.fix (10+s))): ∃f:Nat→Value,Sl w 1 u r.sg.dd.length (r.sg.dd.map f)∧ArcsAt 0 w r.sg.dd f:=by
 obtain⟨p,hp,_,hn,hm,hcd,rfl⟩:=real_opq1 hu
 obtain⟨cs,ty,fz,h1,h2,h3⟩:=hR.at hp hb
 have hfew:=dd_few r.sg
 refine⟨fun s=>cs.toList.getD (plN' r.sg.dd s) default,⟨by rw[List.length_map,Nat.mul_one],Nat.le_trans hfew (by decide),.inr ⟨p.1,0,p.2 / 1,cs,ty,fz,rfl,h1,by omega,hm,by omega,?_⟩⟩,fun s hs=>?_⟩
 ·rw[List.drop_zero,Nat.mul_one]
  apply List.ext_getElem?
  intro m
  rw[List.getElem?_map,List.getElem?_take]
  rcases Nat.lt_or_ge m r.sg.dd.length with hlt|hge
  ·rw[if_pos hlt,List.getElem?_eq_getElem hlt,Option.map_some]
   have hs:=standsAt_self (dd_nodup r.sg) (List.getElem?_eq_getElem hlt)
   rw[plN',hs,Option.getD_some,List.getD_eq_getElem?_getD]
   have hlc:m < cs.toList.length:=by rw[Array.length_toList,h2]; omega
   rw[List.getElem?_eq_getElem hlc]; rfl
  ·rw[if_neg (by omega),List.getElem?_eq_none hge]; rfl
 ·obtain⟨m,hmm⟩:=stands_of hs
  have h6:=dd_lt r.sg s hs
  obtain⟨us,g1,g2,g3⟩:=h3 _ (arcTab_mem h6) m hmm
  obtain⟨x,hx,rfl⟩:=reals1 g1
  have e:cs.toList.getD (plN' r.sg.dd s) default=x:=by
   rw[plN',hmm,Option.getD_some,List.getD_eq_getElem?_getD]
   have:=congrArg (·[0]?) g3
   simp only[Nat.mul_one,List.getElem?_cons_zero,List.getElem?_take,Nat.lt_add_one,if_pos,List.getElem?_drop,Nat.add_zero] at this
   rw[←this]; rfl
  show ArcOne 0 w s (cs.toList.getD (plN' r.sg.dd s) default)
  rw[e]
  obtain⟨pj,hpj,z1,z2,z3,rfl⟩:=real_slx hx
  obtain⟨_,hq⟩:=hR.at hpj (hf s h6)
  obtain⟨c2,ty2,fz2,q1,q2,q3⟩:=hq ⟨fun z=>by omega,fun t ht z=>(show t=s by omega)▸hs⟩
  obtain⟨rfl,q4,q5,q6⟩:=q3.2 s h6 rfl
  exact⟨pj.1,c2,fz2,Nat.zero_le _,by rw[q2]; simp,q1,q4,q5,q6⟩
noncomputable def netP(s:Nat)(vs:List AV)(h:Hp)(k:KV):Bool:=two2 vs fun rows arcs=>rwsK rows h fun _ c tab=>arcsK arcs h (newH h (.rows 39 tab) fun i h=>ife (Nat.testBit c s)
 (newH h (.cells 5 true true (ints (arcB s))) fun j h=>newH h (.rows 1 [(s,[.slx j 0 (sizeOf' s) 1])]) fun a h=>newH h (.cells 191 false false [.opq 1 i c 0 39,.opq 1 a c 0 1,.nils,.int .i64 (.ofNat 0)]) fun n h=>k (.ptr n 0) h)
 (newH h (.rows 1 []) fun a h=>newH h (.cells 191 false false [.opq 1 i c 0 39,.opq 1 a c 0 1,.nils,.int .i64 (.ofNat 0)]) fun n h=>k (.ptr n 0) h))
section
variable {S : Nat → Prop} {w0 w : World} {fl : Nat} {r : Ren} {h : Hp}
theorem list_adopt(hR:Rel S w0 fl r h w)(hl:h.next < LIM){b0 c:Nat}{a:Value}{f:Nat→Value}{tab:List (Nat×List AV)}(how:w.ownsRow b0 22 1 a r.sg.dd.length (r.sg.dd.map f))(hcd:r.sg.cd c)(ht : ∀y∈tab,y.1∈r.sg.dd→reals r y.2=some [f y.1])(hf : ∀g,a.ownBlock=some g→(∀i p,r i=some p→p.1≠g)∧(S g∨w0.heap.size≤g)):
  ∃p,a.ownBlock=some p.1∧Rel S w0 fl (upd r h.next p) (h.new (.rows 1 tab)) w∧real (upd r h.next p) (.opq 1 h.next c 0 1)=some a:=by
 have hpos:0 < r.sg.dd.length:=List.length_pos_iff.2 hcd.1
 rcases how.2 with ⟨_,z⟩|⟨g,cap,cur,rfl,hB,hg,hnc,hm,hs,htk⟩
 ·omega
 rw[Nat.mul_one] at hs htk
 obtain⟨hf1,hf2⟩:=hf g rfl
 have hx':=upd_ext hR (g,cur.size)
 refine⟨(g,cur.size),rfl,hR.adopt (b:= .rows 1 tab) (p:=(g,cur.size)) hl hf1 hf2 ⟨cur,_,_,hg,rfl,fun y hy m hmm=>?_⟩,?_⟩
 ·have hat:r.sg.dd[m]?=some y.1:=standsAt_at hmm
  have hlt:m < r.sg.dd.length:=(List.getElem?_eq_some_iff.1 hat).1
  refine⟨_,reals_mono hx' _ _ (ht y hy (List.mem_of_getElem? hat)),rfl,?_⟩
  have e:cur.toList[m]?=some (f y.1):=by
   have:=congrArg (·[m]?) htk
   simp only[List.getElem?_take,if_pos hlt,List.getElem?_map] at this
   rw[hat] at this
   exact this
  apply List.ext_getElem?
  intro k
  rw[List.getElem?_take,List.getElem?_drop,Nat.mul_one]
  cases k with
  | zero=>rw[if_pos (by decide),Nat.add_zero,e]; rfl
  | succ k=>rw[if_neg (by omega)]; rfl
 ·simp only[real]
  unfold opqR
  simp only[upd_same,Option.bind_some]
  rw[if_pos ⟨by decide,by show r.sg.dd.length * 1≤cur.size; omega,by rw[Nat.div_one,hs]; exact hm,hcd⟩,Nat.div_one,hs]
  rfl
end
theorem pr_net{fl s:Nat}(hs6:s < 6):Pr1 Tryz.prog fl 67 fun _ vs h kr _=>netP s vs h kr:=by
 refine Pr1.mem fun vs h k hk=>?_
 replace hk:=two2_ok hk; obtain⟨rows,arcs,rfl,hk⟩:=hk
 obtain⟨i,c,o,tab,rfl,hb,hk0⟩:=rwsK_ok hk
 have hk:=preK_k hk0
 replace hk:=arcsK_ok hk; obtain⟨ia,ca,oa,rfl,hba,hfx,hk⟩:=hk
 replace hk:=newH_ok hk; obtain⟨hl1,hk⟩:=hk
 have e1 : ∀b,(h.new b).next=h.next+1:=fun b=>rfl
 have last : ∀(S:Nat→Prop) (w0 w:World) (r:Ren) (g1:Hp) (ra:AV) (aa:AV) (u' a':Value) (gn:Nat),g1.next < LIM→Rel S w0 fl r g1 w→(∀i p,r i=some p→p.1≠gn)→(S gn∨w0.heap.size≤gn)→w.heap[gn]?=some (.cells #[u',a',.slice none 0 0,.int .i64 0] 191 (0,0))→real r ra=some u'→real r aa=some a'→Rel S w0 fl (upd r g1.next (gn,4)) (g1.new (.cells 191 false false [ra,aa,.nils,.int .i64 (.ofNat 0)])) w∧real (upd r g1.next (gn,4)) (.ptr g1.next 0)=some (.pointer (some ⟨gn,0,none⟩)):=by
  intro S w0 w r g1 ra aa u' a' gn hl hR hf1 hf2 hg hu ha
  have hx:=upd_ext hR (gn,4)
  refine⟨hR.adopt hl hf1 hf2 ⟨_,(0,0),[u',a',.slice none 0 0,.int .i64 0],hg,rfl,reals_cons.2 ⟨_,_,real_mono hx _ _ hu,reals_cons.2 ⟨_,_,real_mono hx _ _ ha,reals_cons.2 ⟨_,_,rfl,reals_cons.2 ⟨_,_,rfl,reals_nil,rfl⟩,rfl⟩,rfl⟩,rfl⟩,rfl,Nat.le_refl _,(fun _=>rfl),fun _=> .inl rfl⟩,?_⟩
  simp only[real,upd_same,Option.map_some]
 have start : ∀(S:Nat→Prop) (w0 w:World) (r:Ren) (xs:List Value),Rel S w0 fl r h w→reals r [.opq 1 i c o 39,.opq 1 ia ca oa 1]=some xs→Calls Tryz.prog 67 xs.toArray w fun e w'=>K0 w w'∧r.sg.cd c∧∃gn u' a' f' q,e = .returned (.pointer (some ⟨gn,0,none⟩))∧w.heap.size≤gn∧w'.heap[gn]?=some (.cells #[u',a',.slice none 0 0,.int .i64 0] 191 (0,0))∧w'.ownsRow w.heap.size 46 39 u' r.sg.dd.length (r.sg.dd.flatMap (rowC q))∧w'.ownsRow w.heap.size 22 1 a' r.sg.dd.length (r.sg.dd.map f')∧ArcsAt w.heap.size w' r.sg.dd f'∧(4∈r.sg.dd→real r (preOf tab)=some q):=by
  intro S w0 w r xs hR hxs
  obtain⟨u1,t1,hu1,ht1,rfl⟩:=reals_cons.1 hxs
  obtain⟨u2,hu2,rfl⟩:=reals1 ht1
  obtain⟨q,hq1,hq2,hrw⟩:=rws_at hR hu1 hb hk0
  obtain⟨_,_,_,_,_,hcd,_⟩:=real_opq1 hu1
  obtain⟨f,hf1,hf2⟩:=arcs_at hR hu2 hba hfx
  refine(netNew hrw hq1 hf1 hf2 (dd_nodup r.sg)).mono ?_
  rintro e w' ⟨hk',gn,u',a',f',h1,h2,h3,h4,h5,h6⟩
  exact⟨hk',hcd,gn,u',a',f',q,h1,h2,h3,h4,h5,h6,hq2⟩
 have old : ∀(S:Nat→Prop) (w0 w w':World) (r:Ren),Rel S w0 fl r h w→∀g,w.heap.size≤g→(∀i p,r i=some p→p.1≠g)∧(S g∨w0.heap.size≤g):=fun S w0 w w' r hR g hg=>⟨fun i p hp e=>by have:=hR.dom i p hp; omega,.inr (Nat.le_trans hR.kept.size hg)⟩
 have ty : ∀(w':World) (b0 sz n g:Nat) (t:TypeId) (v:Value) (xs:List Value),w'.ownsRow b0 t sz v n xs→v.ownBlock=some g→∃cc,w'.heap[g]?=some (.cells cc t (0,0)):=fun w' b0 sz n g t v xs how hg=>by
  rcases how.2 with ⟨rfl,_⟩|⟨g2,cap,cur,rfl,_,hg2,_⟩
  ·cases hg
  ·cases hg; exact⟨cur,hg2⟩
 rcases ife_ok hk with ⟨hc,hk⟩|⟨_,hk⟩
 ·replace hk:=newH_ok hk; obtain⟨hl2,hk⟩:=hk
  replace hk:=newH_ok hk; obtain⟨hl3,hk⟩:=hk
  replace hk:=newH_ok hk; obtain⟨hl4,hk⟩:=hk
  refine⟨_,_,hk,fun S w0 r w xs hR hxs=>(start S w0 w r xs hR hxs).mono ?_⟩
  rintro e w' ⟨hk',hcd,gn,u',a',f',q,rfl,h2,h3,h4,h5,h6,hq⟩
  have hs:=(hcd.2 s hs6).1 hc
  have hR0:=hR.same hk'
  have hold:=old S w0 w w' r hR
  obtain⟨p1,hp1,hR1,hu1⟩:=rows_adopt (tab:=tab) hR0 hl1 h4 hcd hq fun g hg=>hold g (h4.lt g hg).1
  have hx1:=upd_ext hR0 p1
  obtain⟨cc1,hc1⟩:=ty _ _ _ _ _ _ _ _ h4 hp1
  obtain⟨ga,c2,fz2,ga0,ef,k1,k2,k3,k4⟩:=h6 s hs
  have hlen:=arcB_len hs6
  have hR2:=hR1.adopt (b:= .cells 5 true true (ints (arcB s))) (p:=(ga,c2.size)) hl2 (fun i p hp e=>by
   rw[upd_eq] at hp
   split at hp
   ·cases hp; rw[e] at hc1; rw[hc1] at k1; cases k1
   ·exact(hold ga ga0).1 i p hp e) (hold ga ga0).2 ⟨c2,fz2,_,k1,rfl,ints_real (arcB_bytes hs6),by simp only[ints,List.length_map]; rw[hlen]; exact k4.symm,by simp only[ints,List.length_map]; rw[hlen]; exact k2,(fun z=>by cases z),fun z=>by cases z⟩
  have hx2:=upd_ext hR1 (ga,c2.size)
  have hslx:real (upd (upd r h.next p1) (h.new (.rows 39 tab)).next (ga,c2.size)) (.slx (h.new (.rows 39 tab)).next 0 (sizeOf' s) 1)=some (f' s):=by
   rw[ef]
   simp only[real,upd_same,Option.bind_some]
   rw[if_pos ⟨by decide,by omega,by simpa using k3⟩]
   simp
  obtain⟨p3,hp3,hR3,hu3⟩:=list_adopt (tab:=[(s,[.slx (h.new (.rows 39 tab)).next 0 (sizeOf' s) 1])]) hR2 hl3 h5 hcd (fun y hy _=>by rw[List.mem_singleton.1 hy]; exact reals_cons.2 ⟨_,_,hslx,reals_nil,rfl⟩) fun g hg=>⟨fun i p hp e=>by
   obtain⟨cc3,hc3⟩:=ty _ _ _ _ _ _ _ _ h5 hg
   rw[upd_eq] at hp
   split at hp
   ·cases hp; rw[←e] at hc3; rw[hc3] at k1; cases k1
   ·rw[upd_eq] at hp
    split at hp
    ·cases hp; rw[e] at hc1; rw[hc3] at hc1; cases hc1
    ·exact(hold g (h5.lt g hg).1).1 i p hp e,(hold g (h5.lt g hg).1).2⟩
  have hx3:=upd_ext hR2 p3
  obtain⟨cc3,hc3⟩:=ty _ _ _ _ _ _ _ _ h5 hp3
  obtain⟨hR4,hu4⟩:=last S w0 w' _ _ _ _ u' a' gn hl4 hR3 (fun i p hp e=>by
   rw[upd_eq] at hp
   split at hp
   ·cases hp; rw[e] at hc3; rw[hc3] at h3; cases h3
   ·rw[upd_eq] at hp
    split at hp
    ·cases hp; rw[←e] at h3; rw[h3] at k1; cases k1
    ·rw[upd_eq] at hp
     split at hp
     ·cases hp; rw[e] at hc1; rw[hc1] at h3; cases h3
     ·exact(hold gn h2).1 i p hp e) (hold gn h2).2 h3 (real_mono hx3 _ _ (real_mono hx2 _ _ hu1)) hu3
  exact⟨_,_,rfl,Ext.trans (Ext.trans hx1 (Ext.trans hx2 hx3)) (upd_ext hR3 (gn,4)),hR4,hu4⟩
 ·replace hk:=newH_ok hk; obtain⟨hl3,hk⟩:=hk
  replace hk:=newH_ok hk; obtain⟨hl4,hk⟩:=hk
  refine⟨_,_,hk,fun S w0 r w xs hR hxs=>(start S w0 w r xs hR hxs).mono ?_⟩
  rintro e w' ⟨hk',hcd,gn,u',a',f',q,rfl,h2,h3,h4,h5,h6,hq⟩
  have hR0:=hR.same hk'
  have hold:=old S w0 w w' r hR
  obtain⟨p1,hp1,hR1,hu1⟩:=rows_adopt (tab:=tab) hR0 hl1 h4 hcd hq fun g hg=>hold g (h4.lt g hg).1
  have hx1:=upd_ext hR0 p1
  obtain⟨cc1,hc1⟩:=ty _ _ _ _ _ _ _ _ h4 hp1
  obtain⟨p3,hp3,hR3,hu3⟩:=list_adopt (tab:=[]) hR1 hl3 h5 hcd (fun y hy=>by cases hy) fun g hg=>⟨fun i p hp e=>by
   obtain⟨cc3,hc3⟩:=ty _ _ _ _ _ _ _ _ h5 hg
   rw[upd_eq] at hp
   split at hp
   ·cases hp; rw[e] at hc1; rw[hc3] at hc1; cases hc1
   ·exact(hold g (h5.lt g hg).1).1 i p hp e,(hold g (h5.lt g hg).1).2⟩
  have hx3:=upd_ext hR1 p3
  obtain⟨cc3,hc3⟩:=ty _ _ _ _ _ _ _ _ h5 hp3
  obtain⟨hR4,hu4⟩:=last S w0 w' _ _ _ _ u' a' gn hl4 hR3 (fun i p hp e=>by
   rw[upd_eq] at hp
   split at hp
   ·cases hp; rw[e] at hc3; rw[hc3] at h3; cases h3
   ·rw[upd_eq] at hp
    split at hp
    ·cases hp; rw[e] at hc1; rw[hc1] at h3; cases h3
    ·exact(hold gn h2).1 i p hp e) (hold gn h2).2 h3 (real_mono hx3 _ _ hu1) hu3
  exact⟨_,_,rfl,Ext.trans (Ext.trans hx1 hx3) (upd_ext hR3 (gn,4)),hR4,hu4⟩
end Go.Proofs.YtbhbdeelpopgoaaGreatDoor.E

namespace Go.Proofs.YtbhbdeelpopgoaaGreatDoor.H
open Go.RowKit
section
variable {P : Program} {f : Fr} {w : World} {d : Nat} {ty : TypeId} {pos : String} {af : Array Edge}
theorem Y.field{s off ft:TypeId}{i:Nat}[h:Fld P s i off ft][h1:One P ft]{x:Operand}{c:Array Value}{v:Value}(hx:f.ev x=some (.agg c))(hv:c[off]?=some v):Yd P f (op1 d (.field s x i) ty pos af) v w:=by
 intro a ha
 obtain⟨fs,fd,hs,hi,ho,hf⟩:=h.out
 have h2:=h1.agg w
 simp[execOp,ha.eval hx,Instr.field,run_underlying hs,hi,asAgg,part,hf,h2,ho,hv]
end
end Go.Proofs.YtbhbdeelpopgoaaGreatDoor.H

namespace Go.Proofs.YtbhbdeelpopgoaaGreatDoor.H
open Go.RowKit
theorem eqItems_bytes{P:Program}{w:World}{e:TypeId}(he:P.underlying e=some (.int .u8))(l m:List UInt8)(d:Nat): ∀is:List Nat,(∀i∈is,i < l.length∧i < m.length)→(Op.eqItems (d+1) e 1 (bv l).toArray (bv m).toArray is).run P w = .ok (is.all fun i=>l.getD i 0 == m.getD i 0) w
 | [],_=>by simp[Op.eqItems]
 | i::is,h=>by
  have hi:=h i (by simp)
  have hx:(bv l).toArray[i * 1]?=some (vb (l.getD i 0)):=by simp[List.getElem?_eq_getElem hi.1,List.getD_eq_getElem?_getD]
  have hy:(bv m).toArray[i * 1]?=some (vb (m.getD i 0)):=by simp[List.getElem?_eq_getElem hi.2,List.getD_eq_getElem?_getD]
  have hp:P.plainKey e=true:=by simp[Program.plainKey,he]
  have h1:=run_part_plain (P:=P) (w:=w) hp (xs:=(bv l).toArray) (off:=i * 1) hx
  have h1':=run_part_plain (P:=P) (w:=w) hp (xs:=(bv m).toArray) (off:=i * 1) hy
  have h2:=eqItems_bytes (w:=w) he l m d is (fun j hj=>h j (by simp[hj]))
  simp only[Op.eqItems,Sem.run_bind,h1,h1',Result.andThen_ok,Op.equalIn,run_underlying he,List.all_cons]
  by_cases hc:l.getD i 0=m.getD i 0
  ·have hc':l[i]?.getD 0=m[i]?.getD 0:=by simpa [List.getD_eq_getElem?_getD] using hc
   simp[h2,hc']
  ·have hc' : ¬l[i]?.getD 0=m[i]?.getD 0:=by simpa [List.getD_eq_getElem?_getD] using hc
   have h3 : ¬((l[i]?.getD 0).toNat:Int)=((m[i]?.getD 0).toNat:Int):=fun c=>hc' (UInt8.toNat_inj.1 (by omega))
   have h4:(l[i]?.getD 0 == m[i]?.getD 0)=false:=beq_eq_false_iff_ne.2 hc'
   simp[h2,h3,h4]
theorem all_same(l m:List UInt8)(n:Nat)(hl:l.length=n)(hm:m.length=n):((List.range n).all fun i=>l.getD i 0 == m.getD i 0)=decide (l=m):=by
 by_cases hc:l=m
 ·subst hc; simp
 ·rw[decide_eq_false hc,Bool.eq_false_iff]
  intro h
  rw[List.all_eq_true] at h
  apply hc
  apply List.ext_getElem (by omega)
  intro i h1 h2
  have:=h i (List.mem_range.2 (by omega))
  rw[beq_iff_eq,List.getD_eq_getElem?_getD,List.getD_eq_getElem?_getD,List.getElem?_eq_getElem h1,List.getElem?_eq_getElem h2] at this
  simpa using this
section
variable {M : Option (Option Nat)} {P : Program} {ops : Array Oper} {Q : Post} {rest : List Oper} {f : Fr} {w : World} {d : Nat} {ty : TypeId} {pos : String} {af : Array Edge}
theorem run_eqBytes{t e:TypeId}{n:Nat}{z:Value}{bb:Nat}[hu:Und P t (.array n e)][he:Und P e (.int .u8)][hi:Inf P e z 1 bb]{l m:List UInt8}(hl:l.length=n)(hm:m.length=n):(Op.equalIn 10000 t (.agg (bv l).toArray) (.agg (bv m).toArray)).run P w = .ok (decide (l=m)) w:=by
 obtain⟨i,hinf⟩:=info_of_underlying he.out
 have hco:P.cellsOf e=1:=by
  have:=hi.out
  rw[hinf] at this
  simp only[Option.map_some,Option.some.injEq,Prod.mk.injEq] at this
  simp only[Program.cellsOf,hinf]
  exact this.2.1
 have h2:=run_equalIn_array (P:=P) (w:=w) 9999 (bv l).toArray (bv m).toArray hu.out hinf
 rw[hco,eqItems_bytes he.out l m 9998 _ (fun i hi=>by have:=List.mem_range.1 hi; omega),all_same l m n hl hm] at h2
 exact h2
theorem Y.eqB{t e yt:TypeId}{n:Nat}{z:Value}{bb:Nat}[hu:Und P t (.array n e)][he:Und P e (.int .u8)][hi:Inf P e z 1 bb]{x y:Operand}{l m:List UInt8}{c:Bool}(hx:f.ev x=some (.agg (bv l).toArray))(hy:f.ev y=some (.agg (bv m).toArray))(hg:P.eqGuardType P.depth t=false)(hl:l.length=n)(hm:m.length=n)(hc:decide (l=m)=c):Yd P f (op1 d (.binOp .eql t x y yt) ty pos af) (.bool c) w:=by
 intro a ha
 have h1:=run_eqGuard_agg (P:=P) (w:=w) .eql t x y (bv l).toArray (bv m).toArray hg
 have h2:=run_eqBytes (P:=P) (w:=w) (t:=t) hl hm
 simp[execOp,ha.eval hx,ha.eval hy,h1,binOp,Op.equal,Op.maxDepth,h2,hc]
end
section
variable {M : Option (Option Nat)} {P : Program} {ops : Array Oper} {Q : Post} {rest : List Oper} {f : Fr} {w : World} {d : Nat} {ty : TypeId} {pos : String} {af : Array Edge}
end
section
variable {P : Program} {f : Fr} {w : World} {d : Nat} {ty : TypeId} {pos : String} {af : Array Edge}
end
end Go.Proofs.YtbhbdeelpopgoaaGreatDoor.H

namespace Go.Proofs.YtbhbdeelpopgoaaGreatDoor.H
open Go.RowKit
theorem elSpot{α:Type}[Inhabited α]{w:World}{sz:Nat}{v:Value}{L:List α}{enc:α→List Value}(hs:Sl w sz v L.length (L.flatMap enc))(he : ∀x,(enc x).length=sz){i:Int}(h0:0≤i)(hi:i < L.length): ∃g o,Value.spot v (i.toNat * sz)=⟨g,o,none⟩∧∀w',K0 w w'→∀j u,(enc (L.getD i.toNat default))[j]?=some u→w'.cell? ⟨g,o+j,none⟩=some u:=by
 obtain⟨n,rfl⟩ : ∃n:Nat,i=(n:Int):=⟨i.toNat,by omega⟩
 obtain⟨g,o,h1⟩:=elPtr hs (by omega) ((n:Int).toNat * sz)
 refine⟨g,o,h1,fun w' k j u hu=>?_⟩
 rw[Int.toNat_natCast] at hu
 have h2:=elCells (hs.keep0 k) he (show n < L.length by omega) j u hu
 rw[h1,addr_add] at h2
 exact h2
end Go.Proofs.YtbhbdeelpopgoaaGreatDoor.H

